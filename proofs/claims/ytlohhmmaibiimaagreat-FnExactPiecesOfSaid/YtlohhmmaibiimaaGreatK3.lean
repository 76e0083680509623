import Derived.Test.YtlohhmmaibiimaaGreatK2
set_option linter.unusedVariables false
set_option linter.unusedSimpArgs false
namespace Go.Va
section
variable {P:Program} {σ:St} {o:Oper} {en:Env} {e:Eff} {fi:FI}
theorem args2{c:Call}{x y:AV}(h:Nv σ c.args=[x,y]):∃a b,c.args=#[a,b]/\σ.Bw a=x/\σ.Bw b=y:=by
 unfold Nv at h;cases hc:c.args with
 | mk l =>
  rw[hc] at h
  match l,h with
  | [a,b],h =>
   simp only[List.map_cons,List.map_nil,List.cons.injEq,and_true] at h;exact⟨a,b,rfl,h.1,h.2⟩
  | [],h=>simp at h
  | [_],h=>simp at h
  | _::_::_::_,h=>simp at h
theorem args1{c:Call}{x:AV}(h:Nv σ c.args=[x]):∃a,c.args=#[a]/\σ.Bw a=x:=by
 unfold Nv at h;cases hc:c.args with
 | mk l =>
  rw[hc] at h
  match l,h with
  | [a],h =>
   simp only[List.map_cons,List.map_nil,List.cons.injEq,and_true] at h;exact⟨a,rfl,h⟩
  | [],h=>simp at h
  | _::_::_,h=>simp at h
theorem Abq{ts:Array TypeId}{t u:TypeId}(h:ts.toList=[t,u]):ts=#[t,u]:=by apply Array.toList_inj.1;rw[h]
theorem J0 {c:Call} (ho:o.op=.call c) {b:Builtin} (hc:c.callee=.builtin b) (ρ:Operand->Value) :
    execOp ρ o=builtin b c.argTypes o.type (c.args.map λ| .const _=>true | _=>false) (c.args.map ρ):=by
 simp only[execOp,ho,resolve,hc];rfl
theorem AdJ{c:Call}(ho:o.op=.call c)(hc:c.callee=.builtin .len){x:AV}(hx:Nv σ c.args=[x]){t:TypeId}{r:List TypeId}(hts:c.argTypes.toList=t::r){ti:TI}(ht:Eg P t ti){z:AV}(h:aO σ.blks ti x some=some z):Lj P σ o ⟨z,σ.blks,[]⟩:=by
 obtain⟨a0,ha,rfl⟩:=args1 hx;refine .He <| JI (s:=λρ=>Builtin.len_ c.argTypes o.type #[ρ a0]) (λρ=>?_) λa w g hs=>?_
 ·rw[J0 ho hc,ha];simp[builtin]
 ·obtain⟨z',e,hG⟩:=Adr (n:=σ.blks.length) hs.heap ht h (AB hs a0) o.type c.argTypes (by rw[<-Axa,hts];rfl);injection e with e;subst e;exact hG
theorem Aa2{c:Call}(ho:o.op=.call c){mx:Bool}(hc:c.callee=.builtin (if mx then .max else .min)){x y:AV}(hx:Nv σ c.args=[x,y]){z:AV}(h:uq mx x y some=some z):Lj P σ o ⟨z,σ.blks,[]⟩:=by
 obtain⟨a0,a1,ha,rfl,rfl⟩:=args2 hx;refine .He <| JI (s:=λρ=>if mx then Builtin.max_ c.argTypes o.type #[ρ a0,ρ a1] else Builtin.min_ c.argTypes o.type #[ρ a0,ρ a1]) (λρ=>?_) λa w g hs=>?_
 ·rw[J0 ho hc,ha];cases mx<;>simp[builtin]
 ·obtain⟨z',e,hG⟩:=Ahw (n:=σ.blks.length) h (AB hs a0) (AB hs a1) o.type c.argTypes;injection e with e;subst e;exact hG
theorem Abg{w:World}{g:G}{bs:List Blk}(H:Heap w g bs){t:Ty}{y:AV}{ys:List t.V}{m:RM}{rs:List Nat}(h:mK bs t y=some (ys,m,rs)){v:Value}(hv:Bg w g bs.length y v):(∀j∈m.ids,j<bs.length):=by
 unfold mK at h;split at h
 ·simp only[AwY,Aw9] at h;obtain⟨rfl,rfl,rfl⟩:=h;intro j hj;cases hj
 ·rename_i ks u xs;split at h
  ·simp only[AwY,Aw9] at h;obtain⟨rfl,rfl,rfl⟩:=h;intro j hj;split at hj
   ·cases hj
   ·exact(S7 hv).1 j hj
  ·cases h
 ·split at h
  ·simp only[AwY,Aw9] at h;obtain⟨rfl,rfl,rfl⟩:=h;intro j hj;cases hj
  ·cases h
 ·rename_i k;split at h
  ·rename_i el m1 u xs hb;split at h
   ·simp only[AwY,Aw9] at h;obtain⟨rfl,rfl,rfl⟩:=h;intro j hj;split at hj
    ·cases hj
    ·exact(H.blk k _ hb).1 j hj
   ·cases h
  ·cases h
 ·cases h
theorem mq {c:Call} (ho:o.op=.call c) (hc:c.callee=.builtin .append) {x y:AV} (hx:Nv σ c.args=[x,y]) {t tx:TypeId} (hts:c.argTypes.toList=[t,tx]) {ti te Yq:TI} (ht:Eg P t ti) (hte:Eg P ti.elem te) (hsl:ti.Ea=true) (htx:Eg P tx Yq) (hkx:(Yq.Ea||Yq.ty==.str)=true)
    (h:R4 fi σ.blks ti.elem te x y some=some e):Lj P σ o e:=by
 obtain⟨a0,a1,ha,rfl,rfl⟩:=args2 hx;have hrun:∀(a:Act) (w:World) (r:Value) (w':World),(Builtin.append_ #[t,tx] o.type #[a.eval a0,a.eval a1]).run P w=.ok r w'->(execOp a.eval o).run P w=.ok (.value r) w':=by
  intro a w r w' hr;rw[J0 ho hc,ha,Abq hts];simp[builtin,hr]
 have fin:∀(bs':List Blk) (mods:List Nat),σ.blks.length+1=bs'.length->(mods=[]->∃l,bs'=σ.blks++l) ->
     (∀(a:Act) (w:World) (g:G),Ik w g σ a->∃r w' g',(Builtin.append_ #[t,tx] o.type #[a.eval a0,a.eval a1]).run P w=.ok r w'/\Heap w' g' bs'/\Bg w' g' (σ.blks.length+1) (.ref σ.blks.length) r/\Step mods σ.blks.length w g w' g')->Lj P σ o ⟨.ref σ.blks.length,bs',mods⟩:=by
  intro bs' mods hl hm hh;refine⟨by show σ.blks.length<=bs'.length;omega,hm,λa w g hs next Q hn=>?_⟩
  obtain⟨r,w',g',hr,hH,hv,hst⟩:=hh a w g hs;unfold Oper.wp;rw[hrun a w r w' hr];exact hn r w' g' hH (by show Bg w' g' bs'.length _ _;rw[<-hl];exact hv) hst
 have hlen:∀(mods l:List Nat),(Blk.kill (AQ mods σ.blks) l).length=σ.blks.length:=λmods l=>by rw[AX,Au]
 unfold R4 at h;split at h
 ·rename_i hzs;split at h
  ·cases h
  ·rename_i hr0;have hr1:(te.ty.row&&te.bytes !=0)=true:=by simpa using hr0
   rw[Aw3] at hr1;have hby:te.bytes≠0:=by simpa using hr1.2
   split at h
   ·rename_i ys m2 rs hsrc;split at h
    ·rename_i m' hj;split at h
     ·rename_i hoff;split at h
      ·rename_i hfit;injection h with h;subst h;refine fin _ _ (by rw[Aw0,hlen];rfl) (λh=>⟨[.row ti.elem m' te.ty ys],by have h:rs=[]:=h;rw[h];rfl⟩) λa w g hs=>?_;have hv0:=AB hs a0;rw[hzs] at hv0;obtain⟨ad,hv0⟩:=Rp hv0;rw[hv0];have hsp:(∀j∈m'.ids,j∈m2.ids)/\(∀j∈m2.ids,j∈m'.ids)/\(m'=.deep->m2=.deep):=by
        obtain⟨h1,h2,h3⟩:=Xf hj;refine⟨λj hj=>?_,λj hj=>(h1 j).2 (.inr hj),h3⟩;rcases(h1 j).1 hj with h | h
        ·cases m2 with
         | deep=>rw[Pf] at h;cases h
         | sh ks=>exact h
        ·exact h
       have:=TP (er:=ti.elem) (her:=.inr rfl) (kk:=none) (m:=.deep) (xs:=([]:List te.ty.V)) (cap:=0) (ad:=ad) (m':=m') (SG:=Blk.kill (AQ rs σ.blks) rs) (ty:=o.type) hs.heap ht hte hsl htx hkx hr1.1 hby hsrc (.inl ⟨rfl,rfl⟩) (λk hk=>by cases hk) (λj hj=>by cases hj) (λh=>(h rfl).elim) hsp.2
        (λj hj=>Abg hs.heap hsrc (AB hs a1) j (hsp.1 j hj)) (Qv hoff) (by simpa using hfit) (AB hs a1) (hlen rs rs) (λj x hx=>by
         rcases La hx with h | ⟨hjr,h⟩
         ·exact .inl h
         ·obtain⟨y',hy',rfl⟩:=CY h;exact .inr ⟨by simpa using hjr,y',hy',rfl⟩)
       simpa using this
      ·cases h
     ·cases h
    ·cases h
   ·cases h
 ·rename_i k hk;split at h
  ·cases h
  ·rename_i hr0;have hr1:(te.ty.row&&te.bytes !=0)=true:=by simpa using hr0
   rw[Aw3] at hr1;have hby:te.bytes≠0:=by simpa using hr1.2
   split at h
   ·rename_i e' m t' xs0 ys m2 rs hb hsrc;split at h
    ·rename_i xs m' hcast hj;split at h
     ·rename_i hcond;split at h
      ·rename_i hfit;injection h with h;subst h;obtain⟨he,hrk,hoff⟩:=hcond;obtain⟨ec,hec⟩:=Bb hcast;injection ec with ec;subst ec;simp only at hec;subst hec;have lC:k∉rs:=by simpa using hrk
       have Q5:=Qv hoff;refine fin _ _ (by rw[Aw0,hlen];rfl) (λh=>by cases h) λa w g hs=>?_;have hv0:=AB hs a0;rw[hk] at hv0;obtain⟨hkn,hv0⟩:=HC hv0;obtain⟨Nb,hl,hes,hpos,hrr⟩:=hs.heap.blk k _ hb;rw[hv0,hl];obtain⟨h1,h2,h3⟩:=Xf hj;have hm2:=Abg hs.heap hsrc (AB hs a1);have:=TP (er:=e') (her:=he.symm.imp id λh=>h.1.symm) (kk:=some k) (m:=m) (xs:=xs0) (ad:=(g.at_ k).a) (cap:=(g.at_ k).cap) (m':=m') (SG:=Blk.kill (AQ (k::rs) σ.blks) (k::rs)) (ty:=o.type) hs.heap ht hte hsl htx hkx hr1.1 hby hsrc
        (hrr.imp id λ⟨b,cur,ds,p1,p2,p3,p4,p5,p6,p7,p8⟩=>⟨k,b,cur,ds,rfl,p1,p2,p3,p4,p5,p6,p7,p8⟩)
        (λk' hk'=>by injection hk' with hk';subst hk';exact⟨lC,λh=>Q5 k h (by simp),hkn⟩) (λj hj=>⟨(h1 j).2 (.inl hj),Nb j hj⟩) (λ_=>h2) ⟨λj hj=>(h1 j).2 (.inr hj),h3⟩
        (λj hj=>by rcases(h1 j).1 hj with h | h;exact Nb j h;exact hm2 j h) (λj hj h=>Q5 j hj (List.mem_cons_of_mem _ h)) hfit (AB hs a1) (hlen (k::rs) (k::rs)) (λj x hx=>by
         rcases La hx with h | ⟨hjr,h⟩
         ·exact .inl h
         ·obtain⟨y',hy',rfl⟩:=CY h;exact .inr ⟨by simpa using hjr,y',hy',rfl⟩)
       simpa using this
      ·cases h
     ·cases h
    ·cases h
   ·cases h
 ·cases h
theorem AdG {t:TypeId} {x:Operand} {hi:Option Operand} (ho:o.op=.slice t x none hi none) {ti:TI} (ht:Eg P t ti) (hsl:ti.Ea=true) {te:TI} (hte:Eg P ti.elem te)
    (h:qR te.ty σ.blks (σ.Bw x) (hi.map σ.Bw) some=some e):Lj P σ o e:=by
 unfold qR at h;split at h
 ·rename_i k ks kk hv hx hh;split at h
  ·rename_i el m tr xs hb;split at h
   ·rename_i hoff;obtain⟨hoff,htt⟩:=hoff;subst htt;split at h
    ·rename_i hc;injection h with h;subst h;obtain⟨h0,h1⟩:=hc;refine⟨by simp[AX,Au],λh=>by(cases h),λa w g hs next Q hn=>?_⟩
     have H:=hs.heap;have hxo:=AB hs x;rw[hx] at hxo;obtain⟨hk,hxv⟩:=HC hxo;obtain⟨Nb,hlen,hes,hpos,hr⟩:=H.blk k _ hb;have hhi:=Sq hs hi;rw[hh] at hhi;obtain⟨hv',hve⟩:∃v,hi.map a.eval=some v/\v=.int kk hv:=by
      cases hq:hi.map a.eval with
      | none=>rw[hq] at hhi;exact hhi.elim
      | some v=>rw[hq] at hhi;exact⟨v,rfl,Cu hhi⟩
     obtain⟨As0,AqG⟩:=hve;subst AqG;have hcap:(g.at_ k).len<=(g.at_ k).cap:=by
      rw[hlen];rcases hr with ⟨rfl,hc0⟩| ⟨b,cur,ds,_,_,_,h1,_⟩
      ·simp
      ·exact h1
     have had:(if(g.at_ k).cap=0 then(g.at_ k).a else(g.at_ k).a.map (·.add (0*te.ty.size)))=(g.at_ k).a:=by
      split
      ·rfl
      ·rename_i hc0;rcases hr with ⟨_,hc1⟩| ⟨b,cur,ds,ha,_⟩
       ·exact(hc0 hc1).elim
       ·rw[ha];simp[addN]
     have hrun:(execOp a.eval o).run P w=.ok (.value (.slice (g.at_ k).a hv.toNat (g.at_ k).cap)) w:=by
      have hb2:=OP (P:=P) (w:=w) (isS:=true) (len:=(g.at_ k).len) (cap:=(g.at_ k).cap) (lo:=none) (hi:=some (.int kk hv)) (l:=0) (h:=hv) (.inl ⟨rfl,rfl⟩) (.inr ⟨kk,rfl⟩) (Int.le_refl _) h0 (by rw[hlen];exact h1) hcap;have:(Instr.sliceAt t (.slice (g.at_ k).a (g.at_ k).len (g.at_ k).cap) none (some (.int kk hv)) none).run P w=.ok (.slice (g.at_ k).a hv.toNat (g.at_ k).cap) w:=by
       rw[Lg ht hsl];simp[Instr.slice,underlying,Bc ht hsl,hb2,CW hte];simpa using had
      simp[execOp,ho,hxv,As0,this]
     unfold Oper.wp;rw[hrun]
     let n:=σ.blks.length
     let i':BI:=⟨(g.at_ k).a,hv.toNat,(g.at_ k).cap,te.ty.size⟩
     let f:Nat->List Nat->Tag:=λj r=>if j=k then .lab n r else .lab j r
     let g':=g.upd f none n i'
     have st:Step [k] n w g w g':=Step.upd H.fresh rfl rfl rfl (Aw2 _) (λ_ _ _=>rfl) (λq h=>by cases h) (Aw2 _) λj r _ hm=>by
      simp only[List.mem_singleton] at hm;simp[f,hm]
     have Px:g'.at_ n=i':=by simp[g',G.upd]
     have hvl:hv.toNat<=xs.length:=by have h1':(hv:Int)<=(xs.length:Int):=h1;exact Int.toNat_le.2 h1'
     have Q5:=Qv hoff;refine hn _ w g' (H.turn st (Nn H.fresh (Aw2 _) λq h=>by cases h) (by simp[AX,Au]) λj y hj=>?_) ?_ st
     ·rw[List.getElem?_append] at hj;split at hj
      ·rcases La hj with h | ⟨hjr,h⟩
       ·exact .inl h
       ·obtain⟨y',hy',rfl⟩:=CY h;exact .inr (.inl ⟨hjr,y',hy',rfl⟩)
      ·rename_i hlt;rw[AX,Au] at hj hlt;have hj0:j-σ.blks.length=0:=by
        rcases Nat.eq_zero_or_pos (j-σ.blks.length) with h | h
        ·exact h
        ·rw[List.getElem?_eq_none (by simp;omega)] at hj;cases hj
       rw[hj0] at hj;obtain rfl:j=n:=by simp only[n];omega
       simp only[List.getElem?_cons_zero,AwY] at hj;subst hj;refine .inr (.inr ⟨λj hj=>by have:=Nb j hj;simp[AX,Au];omega,by rw[Px,List.length_take];simp only[i'];omega,by rw[Px],hpos,?_⟩);rw[Px];rcases hr with ⟨rfl,hc0⟩| ⟨b,cur,ds,ha,hown,hcur,p1,p2,p3,p4,hcon⟩
       ·exact .inl ⟨by simp,hc0⟩
       ·refine .inr ⟨b,cur,ds.take (hv.toNat*te.ty.size),ha,by rw[Ij (by simp) hown];simp[f],hcur,by rw[List.length_take];simp only[i'];omega,p2,p3,?_,?_⟩
        ·rw[List.length_take,Nat.min_eq_left hvl,<-p4,List.take_take,Nat.min_eq_left (Nat.mul_le_mul_right _ hvl)]
        ·rw[Le];refine(AZ.takeN (λi x c h=>Ri.len h) hv.toNat (Le.1 hcon)).mono λi x c hel=>hel.on ?_;cases m with
         | deep=>exact λb q hb=>⟨by rw[Ij (by simp) hb];simp[f],rfl⟩
         | sh ks =>
          intro b hb;rcases hb with hb | ⟨j,hj,r,hb⟩
          ·exact⟨.inl (PY (by simp) hb),rfl⟩
          ·refine⟨.inr ⟨j,hj,r,?_⟩,rfl⟩;have:j≠k:=λe=>Q5 j hj (by simp[e]);rw[Ij (by simp) hb];simp[f,this]
     ·refine A7 (cs:=[_]) rfl ⟨by simp[AX,Au],rfl⟩ ?_;have:g'.at_ σ.blks.length=i':=Px;simp[A3,AV.isAgg,this,i']
    ·cases h
   ·cases h
  ·cases h
 ·cases h
theorem ug (w:World) (t tx ty e:TypeId) (i:TypeInfo) (z:Value) (ht:P.underlying t=some (.slice e)) {k':IntKind} (hk:P.underlying tx=some (.int k')) (hi:P.info? e=some i) (hz:i.zero=some z) (ad:Option Addr) (k:IntKind) (l:Int) (h0:0<=l) (hfit:l*(i.bytes:Int)<=140737488355328) (hb:i.bytes≠0) (hs:i.size≠0) :
    (l=0/\(Builtin.append_ #[t,tx] ty #[.slice ad 0 0,.int k l]).run P w=.ok (.slice ad 0 0) w)\/(0<l /\
     (Builtin.append_ #[t,tx] ty #[.slice ad 0 0,.int k l]).run P w=.ok (.slice (some ⟨w.heap.size,0,none⟩) l.toNat (grownCap w l.toNat 0 e)) (w.drew.alloc (.cells (Builtin.zeroCells z.cells l.toNat++Builtin.zeroCells z.cells (grownCap w l.toNat 0 e-l.toNat)) e))):=by
 have hle:l<=140737488355328:=by
  have h1:(1:Int)<=(i.bytes:Int):=by omega
  have:=Int.mul_le_mul_of_nonneg_left h1 h0;omega
 have hw:IntKind.i64.wrap l=l:=by rw[IntKind.wrap_i64];omega
 have n1:¬l<0:=by omega
 have n2:¬(281474976710656<l*(i.bytes:Int)):=by omega
 rcases Int.le_iff_lt_or_eq.1 h0 with hp | hp
 ·refine .inr ⟨hp,?_⟩;have hn:¬(l.toNat=0):=by omega
  have hn':¬(l<=0):=by omega
  have hns:¬(l.toNat*i.size=0):=λh=>by rcases Nat.mul_eq_zero.1 h with h | h;exact hn h;exact hs h
  have h48:¬(281474976710656<Builtin.nextslicecap l.toNat 0*i.bytes):=by
   unfold Builtin.nextslicecap;rw[if_pos (by omega)];have:((l.toNat*i.bytes:Nat):Int)=l*(i.bytes:Int):=by rw[Int.natCast_mul,Int.toNat_of_nonneg h0]
   omega
  have h63:¬(9223372036854775807<max l 0):=by omega
  have hf:(Builtin.firstCells i.size 0 (.slice ad 0 0)).run P w.drew=.ok #[] w.drew:=by
   cases ad with
   | none=>exact run_firstCells_none w.drew i.size 0 0 0
   | some a=>exact run_firstCells_some w.drew i.size 0 a 0 0 [] (by simp) (by simp)
  simp[Builtin.append_,run_underlying ht,run_underlying hk,sizeOf,typeInfo,zeroValue,asInt,asIntOf,hi,hz,hw,n1,n2,hn',h63,h48,hns,Question.forced,hf,newRow,grownCap]
 ·subst hp;refine .inl ⟨rfl,?_⟩;cases ad<;>simp[Builtin.append_,run_underlying ht,run_underlying hk,sizeOf,typeInfo,asInt,asIntOf,hi,IntKind.wrap_i64,storeCells]
theorem uf(l:Int)(b:Nat)(h0:0<=l)(h:l*(b:Int)<=140737488355328)(hb:b≠0):l.toNat<=maxLen:=by
 have h1:(1:Int)<=(b:Int):=by omega
 have:=Int.mul_le_mul_of_nonneg_left h1 h0;simp only[maxLen];omega
theorem ZE(z:Array Value)(n:Nat):Builtin.zeroCells z n=madeCells z (n*z.size):=rfl
theorem iZ {c:Call} (ho:o.op=.call c) (hc:c.callee=.builtin .append) {x y:AV} (hx:Nv σ c.args=[x,y]) {t tx:TypeId} (hts:c.argTypes.toList=[t,tx]) {ti te Yq:TI} (ht:Eg P t ti) (hte:Eg P ti.elem te) (hsl:ti.Ea=true) (htx:Eg P tx Yq) (hkx:Yq.ty.isInt=true)
    (h:R5 fi σ.blks ti.elem te x y some=some e):Lj P σ o e:=by
 obtain⟨a0,a1,ha,hx0,hx1⟩:=args2 hx;obtain⟨k',hk'⟩:∃k',Yq.ty=.int k':=by
  cases hq:Yq.ty with
  | int k=>exact⟨k,rfl⟩
  | _=>rw[hq] at hkx;cases hkx
 unfold R5 at h;split at h
 ·rename_i ks k l;split at h
  ·rename_i hrow;split at h
   ·rename_i hl;injection h with h;subst h;obtain⟨hdata,hpos⟩:=XC hrow.1;obtain⟨i,z,hi,hsz,hbs,hz,hzc,_⟩:=hte.info;refine⟨by simp,λ_=>⟨_,rfl⟩,λa w g hs next Q hn=>?_⟩
    have e1:=AB hs a0;rw[hx0] at e1;obtain⟨ad,e1⟩:=Rp e1;have e2:=AB hs a1;rw[hx1] at e2;have e2:=Cu e2;have hzz:z.cells.size=i.size:=by rw[hsz,<-Array.length_toList,hzc,OM]
    have VH:∀(r:Value) (w':World),(Builtin.append_ #[t,tx] o.type #[.slice ad 0 0,.int k l]).run P w=.ok r w'->(execOp a.eval o).run P w=.ok (.value r) w':=λr w' hr=>by
     rw[J0 ho hc,ha,Abq hts];simp[builtin,e1,e2,hr]
    unfold Oper.wp;rcases ug (P:=P) w t tx o.type ti.elem i z (Bc ht hsl) (OG htx hk') hi hz ad k l hl.1 (by rw[hbs];exact hl.2) (by rw[hbs];exact hrow.2) (by omega) with ⟨h0,hr⟩| ⟨hp,hr⟩
    ·subst h0;rw[VH _ _ hr]
     let g':G:=⟨g.own,λk=>if k=σ.blks.length then⟨ad,0,0,te.ty.size⟩ else g.at_ k⟩
     have st:Step [] σ.blks.length w g w g':=⟨rfl,rfl,rfl,Aw2 _,λ_ _ h=>⟨h,rfl⟩,λ_ h=>⟨h,rfl⟩,λ_ _ _ h _ _=>⟨h,rfl⟩,λk hk=>by simp only[g'];rw[if_neg (by omega)]⟩;have ha0:g'.at_ σ.blks.length=⟨ad,0,0,te.ty.size⟩:=by simp[g']
     refine hn _ w g' (hs.heap.push st hs.heap.fresh ?_) ?_ st
     ·refine⟨(by rw[Pf];intro j hj;cases hj),by rw[ha0];rfl,by rw[ha0],hpos,.inl ⟨rfl,by rw[ha0]⟩⟩
     ·refine A7 (cs:=[_]) rfl ⟨by simp,rfl⟩ ?_;simp[A3,AV.isAgg,ha0]
    ·rw[VH _ _ hr];have hml:l.toNat<=maxLen:=uf l te.bytes hl.1 hl.2 hrow.2;have hge:=grownCap_ge w l.toNat 0 ti.elem;have hle:=grownCap_le_maxLen w l.toNat 0 ti.elem hml;have st:=(Step.drew [] σ.blks.length w g).trans (Step.add hs.heap.drew (.cells (Builtin.zeroCells z.cells l.toNat++Builtin.zeroCells z.cells (grownCap w l.toNat 0 ti.elem-l.toNat)) ti.elem) ⟨some ⟨w.heap.size,0,none⟩,l.toNat,grownCap w l.toNat 0 ti.elem,te.ty.size⟩) (Aw2 _);refine hn _ _ _ (hs.heap.drew.new ?_) ?_ st
     ·refine⟨(by rw[Pf];intro j hj;cases hj),by simp[G.add],by simp[G.add],hpos,.inr ⟨w.heap.size,_,_,by simp[G.add],by simp[G.add],⟨_,.inr rfl,heap_alloc_new w.drew _⟩,by simpa [G.add] using hge,by simpa [G.add] using hle,?_,rfl,?_⟩⟩
      ·simp only[G.add,if_true,Array.size_append,ZE,size_madeCells,hzz,hsz,<-Nat.add_mul];congr 1;omega
      ·rw[List.length_replicate,Array.toList_append,ZE,hzz,hsz];have hk:(madeCells z.cells (l.toNat*te.ty.size)).toList.length=l.toNat*te.ty.size:=by rw[Array.length_toList,size_madeCells]
       rw[List.take_append_of_le_length (by rw[hk];exact Aw2 _),Vf z.cells (by rw[hzz,hsz]) hpos (Aw2 _)];exact ZF hdata (by show z.cells.toList=_;exact hzc) _ fi
     ·refine A7 (cs:=[_]) rfl ⟨by simp,rfl⟩ ?_;simp[A3,AV.isAgg,G.add]
   ·cases h
  ·cases h
 ·cases h
end
end Go.Va
namespace Go.Va
theorem iU(φ:Nat->Nat)(a:AV):(a.ren φ).K9=a.K9:=by cases a<;>rfl
theorem Zu(φ:Nat->Nat)(a:AV):(a.ren φ).isAgg=a.isAgg:=by cases a<;>rfl
theorem sF(φ:Nat->Nat)(a:AV):(a.ren φ).Cp=a.Cp:=by cases a<;>rfl
theorem fO(IC:List Nat)(a:AV):(a.dep IC).K9=a.K9:=by cases a<;>rfl
theorem YJ(IC:List Nat)(a:AV):(a.dep IC).isAgg=a.isAgg:=by cases a<;>rfl
theorem qV(IC:List Nat)(a:AV):(a.dep IC).Cp=a.Cp:=by cases a<;>rfl
structure Ren (φ:Nat->Nat) (g g':G) (n' k:Nat):Prop where
 lt:φ k<n'
 at_:g'.at_ (φ k)=g.at_ k
 own:∀b r,g.own b=.lab k r->g'.own b=.lab (φ k) r
theorem Al.AaI{φ:Nat->Nat}{g g':G}(hi:∀b,g.own b=.Gr->g'.own b=.Gr){ks:List Nat}(hk:∀k∈ks,∀b r,g.own b=.lab k r->g'.own b=.lab (φ k) r){b:Nat}(h:Al g.own ks b):Al g'.own (ks.map φ) b:=by
 rcases h with h | ⟨k,hks,r,h⟩
 ·exact .inl (hi b h)
 ·exact .inr ⟨φ k,List.mem_map.2 ⟨k,hks,rfl⟩,r,hk k hks b r h⟩
theorem K5:∀(a:AV) {k:Nat},k∈a.hard->k∈a.ids
 | .dat _ _ _,_,h=>h
 | .rop _ _ _,_,h=>h
 | .Oz _ _ _ _ _,_,h=>h
 | .P4 _ _ _ _ _ _,_,h=>h
 | .pr a b,_,h=>(List.mem_append.1 h).elim (λh=>List.mem_append_left _ (K5 a h)) λh=>List.mem_append_right _ (K5 b h)
 | .cons a b,_,h=>(List.mem_append.1 h).elim (λh=>List.mem_append_left _ (K5 a h)) λh=>List.mem_append_right _ (K5 b h)
 | .fn _ c,_,h=>K5 c h
 | .zs,_,h=>by cases h
 | .ref _,_,h=>by cases h
 | .ptr _ _ _ _,_,h=>by cases h
 | .JH,_,h=>by cases h
 | .nil,_,h=>by cases h
 | .QS _ _,_,h=>by cases h
 | .mp _,_,h=>by cases h
 | .un _,_,h=>by cases h
theorem UI:∀(b:Blk) {k:Nat},k∈b.hard->k∈b.ids
 | .box a,_,h=>K5 a h
 | .row _ _ _ _,_,h=>h
 | .map _ _ _ _ _,_,h=>h
 | .hole _ _ _ _ _,_,h=>h
 | .dead,_,h=>h
section
variable {w:World} {g g':G} {n n':Nat} {φ:Nat->Nat}
def qA(φ:Nat->Nat)(g g':G)(n' k:Nat):Prop:=φ k<n'/\g'.at_ (φ k)=g.at_ k
def Afp(φ:Nat->Nat)(g g':G)(k:Nat):Prop:=∀b r,g.own b=.lab k r->g'.own b=.lab (φ k) r
theorem pF{ks:List Nat}(hk:∀k∈ks,qA φ g g' n' k):∀k∈ks.map φ,k<n':=λk h=>by
 obtain⟨j,hj,rfl⟩:=List.mem_map.1 h;exact(hk j hj).1
theorem BA.renG(hi:∀b,g.own b=.Gr->g'.own b=.Gr):∀(a:AV) (m:Bool) {cs:List Value},BA w g n m a cs->(∀k∈a.ids,qA φ g g' n' k)->(∀k∈a.hard,Afp φ g g' k)->BA w g' n' m (a.ren φ) cs
 | .dat ks t x,false,cs,⟨hk,r⟩,h,ho=>⟨pF h,r.mono λb a=>⟨a.AaI hi ho,rfl⟩⟩
 | .zs,false,_,h,_,_=>h
 | .ref k,false,_,⟨hk,e⟩,h,_=>by
  have:=h k (by simp[AV.ids]);exact⟨this.1,by rw[this.2];exact e⟩
 | .ptr k i p o,false,_,⟨hk,h0,h1,b,hb,e⟩,h,_=>by
  have:=h k (by simp[AV.ids]);exact⟨this.1,h0,by rw[this.2];exact h1,b,by rw[this.2];exact hb,by rw[this.2];exact e⟩
 | .rop ks t x,false,cs,⟨hk,b,off,ds,e,ha,r,hc⟩,h,ho=>⟨pF h,b,off,ds,e,ha.AaI hi ho,r.mono λb a=>⟨a.AaI hi ho,rfl⟩,hc⟩
 | .JH,false,_,h,_,_=>h
 | .pr a b,false,_,⟨c,d,e,h1,h2⟩,h,ho=>⟨c,d,e,BA.renG hi a false h1 (λk hk=>h k (by simp[AV.ids,hk])) λk hk=>ho k (by simp[AV.hard,hk]),BA.renG hi b false h2 (λk hk=>h k (by simp[AV.ids,hk])) λk hk=>ho k (by simp[AV.hard,hk])⟩
 | .fn f c,false,_,⟨vs,e,hx⟩,h,ho=>⟨vs,e,BA.renG hi c true hx (λk hk=>h k (by simpa [AV.ids] using hk)) λk hk=>ho k (by simpa [AV.hard] using hk)⟩
 | .un k,false,_,h,_,_=>h
 | .cons a b,true,_,⟨v,r,e,h1,h2⟩,h,ho=>by
  refine⟨v,r,e,?_,BA.renG hi b true h2 (λk hk=>h k (by simp[AV.ids,hk])) λk hk=>ho k (by simp[AV.hard,hk])⟩;rw[iU,Zu];exact h1.imp id λ⟨cs,hx,hv⟩=>⟨cs,BA.renG hi a false hx (λk hk=>h k (by simp[AV.ids,hk])) (λk hk=>ho k (by simp[AV.hard,hk])),hv⟩
 | .nil,true,_,h,_,_=>h
 | .cons _ _,false,_,h,_,_=>h.elim
 | .nil,false,_,h,_,_=>h.elim
 | .QS k l,false,_,⟨hk,e⟩,h,_=>by
  have:=h k (by simp[AV.ids]);exact⟨this.1,by rw[this.2];exact e⟩
 | .mp k,false,_,⟨hk,b,hb,e⟩,h,_=>by
  have:=h k (by simp[AV.ids]);exact⟨this.1,b,by rw[this.2];exact hb,e⟩
 | .Oz k i p o e,false,_,⟨hk,h0,h1,b,v,ha,ho,e1,e2,hc⟩,h,hO=>by
  have:=h k (by simp[AV.ids]);exact⟨this.1,h0,by rw[this.2];exact h1,b,v,by rw[this.2];exact ha,hO k (by simp[AV.hard]) b [] ho,e1,e2,by rw[this.2];exact hc⟩
 | .P4 k i p o j u,false,_,⟨hk,h0,h1,b,b',l,c,ha,ho,e1,e2,hc⟩,h,hO=>by
  have:=h k (by simp[AV.ids]);exact⟨this.1,h0,by rw[this.2];exact h1,b,b',l,c,by rw[this.2];exact ha,hO k (by simp[AV.hard]) b [] ho,e1,e2,by rw[this.2];exact hc⟩
 | .P4 _ _ _ _ _ _,true,_,h,_,_=>h.elim
 | .Oz _ _ _ _ _,true,_,h,_,_=>h.elim
 | .dat _ _ _,true,_,h,_,_=>h.elim
 | .zs,true,_,h,_,_=>h.elim
 | .ref _,true,_,h,_,_=>h.elim
 | .QS _ _,true,_,h,_,_=>h.elim
 | .mp _,true,_,h,_,_=>h.elim
 | .ptr _ _ _ _,true,_,h,_,_=>h.elim
 | .rop _ _ _,true,_,h,_,_=>h.elim
 | .JH,true,_,h,_,_=>h.elim
 | .pr _ _,true,_,h,_,_=>h.elim
 | .fn _ _,true,_,h,_,_=>h.elim
 | .un _,true,_,h,_,_=>h.elim
theorem Ren.r0{k:Nat}(h:Ren φ g g' n' k):qA φ g g' n' k:=⟨h.lt,h.at_⟩
theorem BA.ren(hi:∀b,g.own b=.Gr->g'.own b=.Gr)(a:AV)(m:Bool){cs:List Value}(h:BA w g n m a cs)(hk:∀k∈a.ids,Ren φ g g' n' k):BA w g' n' m (a.ren φ) cs :=
 h.renG hi a m (λk h=>(hk k h).r0) λk h=>(hk k (K5 a h)).own
theorem BA.Oj:∀(a:AV) (m:Bool) {cs:List Value},BA w g n m a cs->∀k∈a.ids,k<n
 | .dat ks t x,false,cs,h,k,hk=>h.1 k hk
 | .zs,false,_,_,_,hk=>by cases hk
 | .ref j,false,_,h,k,hk=>by
  have:k=j:=by simpa [AV.ids] using hk
  rw[this];exact h.1
 | .ptr j i p o,false,_,h,k,hk=>by
  have:k=j:=by simpa [AV.ids] using hk
  rw[this];exact h.1
 | .rop ks t x,false,cs,h,k,hk=>h.1 k hk
 | .JH,false,_,_,_,hk=>by cases hk
 | .pr a b,false,_,⟨c,d,e,h1,h2⟩,k,hk=>by
  rcases List.mem_append.1 hk with hk | hk
  ·exact BA.Oj a false h1 k hk
  ·exact BA.Oj b false h2 k hk
 | .fn f c,false,_,⟨vs,e,hx⟩,k,hk=>BA.Oj c true hx k hk
 | .un _,false,_,_,_,hk=>by cases hk
 | .cons a b,true,_,⟨v,r,e,h1,h2⟩,k,hk=>by
  rcases List.mem_append.1 hk with hk | hk
  ·rcases h1 with h1 | ⟨cs,h1,_⟩
   ·cases a<;>simp[AV.K9] at h1;cases hk
   ·exact BA.Oj a false h1 k hk
  ·exact BA.Oj b true h2 k hk
 | .nil,true,_,_,_,hk=>by cases hk
 | .cons _ _,false,_,h,_,_=>h.elim
 | .nil,false,_,h,_,_=>h.elim
 | .QS j l,false,_,h,k,hk=>by
  have:k=j:=by simpa [AV.ids] using hk
  rw[this];exact h.1
 | .mp j,false,_,h,k,hk=>by
  have:k=j:=by simpa [AV.ids] using hk
  rw[this];exact h.1
 | .Oz j i p o e,false,_,h,k,hk=>by
  have:k=j:=by simpa [AV.ids] using hk
  rw[this];exact h.1
 | .P4 j i p o q u,false,_,h,k,hk=>by
  have:k=j:=by simpa [AV.ids] using hk
  rw[this];exact h.1
 | .P4 _ _ _ _ _ _,true,_,h,_,_=>h.elim
 | .Oz _ _ _ _ _,true,_,h,_,_=>h.elim
 | .dat _ _ _,true,_,h,_,_=>h.elim
 | .zs,true,_,h,_,_=>h.elim
 | .ref _,true,_,h,_,_=>h.elim
 | .QS _ _,true,_,h,_,_=>h.elim
 | .mp _,true,_,h,_,_=>h.elim
 | .ptr _ _ _ _,true,_,h,_,_=>h.elim
 | .rop _ _ _,true,_,h,_,_=>h.elim
 | .JH,true,_,h,_,_=>h.elim
 | .pr _ _,true,_,h,_,_=>h.elim
 | .fn _ _,true,_,h,_,_=>h.elim
 | .un _,true,_,h,_,_=>h.elim
theorem Bg.Oj{a:AV}{v:Value}(h:Bg w g n a v):∀k∈a.ids,k<n:=by
 cases ht:a.Cp with
 | false =>
  rcases(Bg.iff ht).1 h with h | ⟨cs,h,_⟩
  ·intro k hk;cases a<;>simp[AV.K9] at h;cases hk
  ·exact BA.Oj a false h
 | true =>
  cases a with
  | cons a b=>obtain⟨vs,e,h⟩:=h;exact BA.Oj _ true h
  | nil=>intro k hk;cases hk
  | _=>cases ht
theorem Bg.renG(hi:∀b,g.own b=.Gr->g'.own b=.Gr){a:AV}{v:Value}(h:Bg w g n a v)(hk:∀k∈a.ids,qA φ g g' n' k)(ho:∀k∈a.hard,Afp φ g g' k):Bg w g' n' (a.ren φ) v:=by
 cases ht:a.Cp with
 | false =>
  rw[Bg.iff ht] at h;rw[Bg.iff (by rw[sF];exact ht),iU,Zu];exact h.imp id λ⟨cs,h,hv⟩=>⟨cs,BA.renG hi a false h hk ho,hv⟩
 | true =>
  cases a with
  | cons a b=>obtain⟨vs,e,h⟩:=h;exact⟨vs,e,BA.renG hi (.cons a b) true h hk ho⟩
  | nil=>exact h
  | _=>cases ht
theorem Bg.ren(hi:∀b,g.own b=.Gr->g'.own b=.Gr){a:AV}{v:Value}(h:Bg w g n a v)(hk:∀k∈a.ids,Ren φ g g' n' k):Bg w g' n' (a.ren φ) v :=
 h.renG hi (λk h=>(hk k h).r0) λk h=>(hk k (K5 a h)).own
theorem JX.renG(hi:∀b,g.own b=.Gr->g'.own b=.Gr){k:Nat}{b:Blk}(h:JX w g n k b)(hk:Ren φ g g' n' k)(Nf:∀j∈b.ids,qA φ g g' n' j)(hO:∀j∈b.hard,Afp φ g g' j):JX w g' n' (φ k) (b.ren φ):=by
 cases b with
 | dead=>trivial
 | map m kt vt es st =>
  obtain⟨Nb,b,arr,clock,ha,ho,hh,hnd,hm⟩:=h;have hmm:(m.ren φ).ids=m.ids.map φ:=by cases m<;>rfl
  refine⟨by rw[hmm];exact pF Nf,b,arr,clock,by rw[hk.at_];exact ha,hk.own b [] ho,hh,hnd,hm.on λi x c r=>?_⟩;cases m with
  | deep=>exact Hv.mono (λb q hb=>⟨hk.own b _ hb,rfl⟩) r
  | sh ks=>exact FL.mono (λb a=>⟨a.AaI hi hO,rfl⟩) r
 | hole e t xs i p =>
  obtain⟨h1,h2,h3,h4,h5,u,o,x0,b,cur,ds,q1,q2,q3,ha,ho,hh,c1,c2,c3,c4,hc⟩:=h;refine⟨by rw[hk.at_];exact h1,by rw[hk.at_];exact h2,h3,h4,h5,u,o,x0,b,cur,ds,q1,q2,q3,?_⟩;rw[hk.at_];exact⟨ha,hk.own b [] ho,hh,c1,c2,c3,c4,hc.mono λi x c r=>r.mono λb q hb=>⟨hk.own b _ hb,rfl⟩⟩
 | box a =>
  obtain⟨h1,b,cs,e,ha,ho,hh,hx⟩:=h;exact⟨by rw[hk.at_];exact h1,b,cs,e,by rw[hk.at_];exact ha,hk.own b [] ho,hh,BA.renG hi a false hx Nf hO⟩
 | row e m t xs =>
  obtain⟨Nb,hlen,hes,hpos,hr⟩:=h;have hm:(m.ren φ).ids=m.ids.map φ:=by cases m<;>rfl
  refine⟨by rw[hm];exact pF Nf,by rw[hk.at_];exact hlen,by rw[hk.at_];exact hes,hpos,?_⟩;rw[hk.at_];refine hr.imp id λ⟨b,cur,ds,ha,ho,hh,h1,h2,h3,h4,hc⟩=>⟨b,cur,ds,ha,hk.own b [] ho,hh,h1,h2,h3,h4,?_⟩;cases m with
  | deep=>exact hc.mono λi x c r=>r.mono λb q hb=>⟨hk.own b _ hb,rfl⟩
  | sh ks=>exact hc.mono λx c r=>r.mono λb a=>⟨a.AaI hi hO,rfl⟩
theorem JX.ren(hi:∀b,g.own b=.Gr->g'.own b=.Gr){k:Nat}{b:Blk}(h:JX w g n k b)(hk:Ren φ g g' n' k)(Nf:∀j∈b.ids,Ren φ g g' n' j):JX w g' n' (φ k) (b.ren φ) :=
 h.renG hi hk (λk h=>(Nf k h).r0) λk h=>(Nf k (UI b h)).own
structure Dep (IC:List Nat) (g g':G) (n:Nat):Prop where
 Gr:∀b,g.own b=.Gr->Al g'.own IC b
 lab:∀b k r,g.own b=.lab k r->k<n->g'.own b=.lab k r
 at_:∀k,k<n->g'.at_ k=g.at_ k
 lt:∀k∈IC,k<n
theorem Al.dep{IC:List Nat}(d:Dep IC g g' n){ks:List Nat}(hk:∀k∈ks,k<n){b:Nat}(h:Al g.own ks b):Al g'.own (ks++IC) b:=by
 rcases h with h | ⟨k,hks,r,h⟩
 ·exact(d.Gr b h).mono λk hk=>List.mem_append_right _ hk
 ·exact .inr ⟨k,List.mem_append_left _ hks,r,d.lab b k r h (hk k hks)⟩
theorem nT{IC ks:List Nat}(d:Dep IC g g' n)(hk:∀k∈ks,k<n):∀k∈ks++IC,k<n:=λk h=>by
 rcases List.mem_append.1 h with h | h
 ·exact hk k h
 ·exact d.lt k h
theorem BA.dep{IC:List Nat}(d:Dep IC g g' n):∀(a:AV) (m:Bool) {cs:List Value},BA w g n m a cs->BA w g' n m (a.dep IC) cs
 | .dat ks t x,false,cs,⟨hk,r⟩=>by
  simp only[AV.dep];cases hf:t.flat with
  | true=>exact⟨by simpa using hk,(FL.flat hf).2 ((FL.flat hf).1 r)⟩
  | false=>exact⟨by simpa using nT d hk,by simpa using r.mono λb a=>⟨a.dep d hk,rfl⟩⟩
 | .zs,false,_,h=>h
 | .ref k,false,_,⟨hk,e⟩=>⟨hk,by rw[d.at_ k hk];exact e⟩
 | .QS k l_,false,_,⟨hk,e⟩=>⟨hk,by rw[d.at_ k hk];exact e⟩
 | .mp k,false,_,⟨hk,b,hb,e⟩=>⟨hk,b,by rw[d.at_ k hk];exact hb,e⟩
 | .ptr k i p o,false,_,⟨hk,h0,h1,b,hb,e⟩=>⟨hk,h0,by rw[d.at_ k hk];exact h1,b,by rw[d.at_ k hk];exact hb,by rw[d.at_ k hk];exact e⟩
 | .rop ks t x,false,cs,⟨hk,b,off,ds,e,ha,r,hc⟩=>⟨nT d hk,b,off,ds,e,ha.dep d hk,r.mono λb a=>⟨a.dep d hk,rfl⟩,hc⟩
 | .JH,false,_,h=>h
 | .pr a b,false,_,⟨c,e,he,h1,h2⟩=>⟨c,e,he,BA.dep d a false h1,BA.dep d b false h2⟩
 | .fn f c,false,_,⟨vs,e,hx⟩=>⟨vs,e,BA.dep d c true hx⟩
 | .un k,false,_,h=>h
 | .cons a b,true,_,⟨v,r,e,h1,h2⟩=>by
  refine⟨v,r,e,?_,BA.dep d b true h2⟩;rw[fO,YJ];exact h1.imp id λ⟨cs,hx,hv⟩=>⟨cs,BA.dep d a false hx,hv⟩
 | .nil,true,_,h=>h
 | .cons _ _,false,_,h=>h.elim
 | .nil,false,_,h=>h.elim
 | .Oz k i p o e,false,_,⟨hk,h0,h1,b,v,ha,ho,e1,e2,hc⟩=>⟨hk,h0,by rw[d.at_ k hk];exact h1,b,v,by rw[d.at_ k hk];exact ha,d.lab b k [] ho hk,e1,e2,by rw[d.at_ k hk];exact hc⟩
 | .P4 k i p o j u,false,_,⟨hk,h0,h1,b,b',l,c,ha,ho,e1,e2,hc⟩=>⟨hk,h0,by rw[d.at_ k hk];exact h1,b,b',l,c,by rw[d.at_ k hk];exact ha,d.lab b k [] ho hk,e1,e2,by rw[d.at_ k hk];exact hc⟩
 | .P4 _ _ _ _ _ _,true,_,h=>h.elim
 | .Oz _ _ _ _ _,true,_,h=>h.elim
 | .dat _ _ _,true,_,h=>h.elim
 | .zs,true,_,h=>h.elim
 | .ref _,true,_,h=>h.elim
 | .QS _ _,true,_,h=>h.elim
 | .mp _,true,_,h=>h.elim
 | .ptr _ _ _ _,true,_,h=>h.elim
 | .rop _ _ _,true,_,h=>h.elim
 | .JH,true,_,h=>h.elim
 | .pr _ _,true,_,h=>h.elim
 | .fn _ _,true,_,h=>h.elim
 | .un _,true,_,h=>h.elim
theorem Bg.dep{IC:List Nat}(d:Dep IC g g' n){a:AV}{v:Value}(h:Bg w g n a v):Bg w g' n (a.dep IC) v:=by
 cases ht:a.Cp with
 | false =>
  rw[Bg.iff ht] at h;rw[Bg.iff (by rw[qV];exact ht),fO,YJ];exact h.imp id λ⟨cs,h,hv⟩=>⟨cs,BA.dep d a false h,hv⟩
 | true =>
  cases a with
  | cons a b=>obtain⟨vs,e,h⟩:=h;exact⟨vs,e,BA.dep d (.cons a b) true h⟩
  | nil=>exact h
  | _=>cases ht
theorem JX.dep{IC:List Nat}(d:Dep IC g g' n){k:Nat}(hk:k<n){b:Blk}(h:JX w g n k b):JX w g' n k (b.dep IC):=by
 cases b with
 | dead=>trivial
 | map m kt vt es st =>
  obtain⟨Nb,b,arr,clock,ha,ho,hh,hnd,hm⟩:=h;refine⟨?_,b,arr,clock,by rw[d.at_ k hk];exact ha,d.lab b k [] ho hk,hh,hnd,hm.on λi x c r=>?_⟩
  ·cases m with
   | deep=>exact Nb
   | sh ks=>exact nT d Nb
  ·cases m with
   | deep=>exact Hv.mono (λb q hb=>⟨d.lab b k _ hb hk,rfl⟩) r
   | sh ks=>exact FL.mono (λb a=>⟨a.dep d Nb,rfl⟩) r
 | hole e t xs i p =>
  obtain⟨h1,h2,h3,h4,h5,u,o,x0,b,cur,ds,q1,q2,q3,ha,ho,hh,c1,c2,c3,c4,hc⟩:=h;refine⟨by rw[d.at_ k hk];exact h1,by rw[d.at_ k hk];exact h2,h3,h4,h5,u,o,x0,b,cur,ds,q1,q2,q3,?_⟩;rw[d.at_ k hk];exact⟨ha,d.lab b k [] ho hk,hh,c1,c2,c3,c4,hc.mono λi x c r=>r.mono λb q hb=>⟨d.lab b k _ hb hk,rfl⟩⟩
 | box a =>
  obtain⟨h1,b,cs,e,ha,ho,hh,hx⟩:=h;exact⟨by rw[d.at_ k hk];exact h1,b,cs,e,by rw[d.at_ k hk];exact ha,d.lab b k [] ho hk,hh,BA.dep d a false hx⟩
 | row e m t xs =>
  obtain⟨Nb,hlen,hes,hpos,hr⟩:=h;refine⟨?_,by rw[d.at_ k hk];exact hlen,by rw[d.at_ k hk];exact hes,hpos,?_⟩
  ·cases m with
   | deep=>exact Nb
   | sh ks=>exact nT d Nb
  ·rw[d.at_ k hk];refine hr.imp id λ⟨b,cur,ds,ha,ho,hh,h1,h2,h3,h4,hc⟩=>⟨b,cur,ds,ha,d.lab b k [] ho hk,hh,h1,h2,h3,h4,?_⟩;cases m with
   | deep=>exact hc.mono λi x c r=>r.mono λb q hb=>⟨d.lab b k _ hb hk,rfl⟩
   | sh ks=>exact hc.mono λx c r=>r.mono λb a=>⟨a.dep d Nb,rfl⟩
end
end Go.Va
namespace Go.Va
def B9(w:World)(g:G)(n:Nat):List AV->List Value->Prop
 | [],[]=>True
 | a::as',v::vs=>Bg w g n a v/\B9 w g n as' vs
 | _,_=>False
structure An (P:Program) (f:FuncId) (c:Callee):Prop where
 nat:Wl c
 snd:∀(args:List AV) (E:List Blk) (av:AV) (E':List Blk),c.run (AV×List Blk) args E (λv b=>some (v,b))=some (av,E')->E.length<=E'.length /\
  ∀(w:World) (g:G) (vs:List Value),Heap w g E->B9 w g E.length args vs->∀(o:Oper) (a:Act) (next:Act->World->Prop) (Q:Exit->Act->World->Prop),
   (∀v w' g',Heap w' g' E'->Bg w' g' E'.length av v->Step (List.range E.length) E.length w g w' g'->next (a.put o.dst v) w')->o.upon P a next Q ((callFunc f vs.toArray).run P w)
theorem aD:∀{π:List Nat} {k:Nat},k∈π->idxOf π k<π.length
 | x::r,k,h=>by
  simp only[idxOf];split
  ·simp
  ·rename_i hne;have:k∈r:=by
    rcases List.mem_cons.1 h with h | h
    ·subst h;simp at hne
    ·exact h
   have:=aD this;simp;omega
theorem aC:∀{π:List Nat} {k:Nat},k∈π->π[idxOf π k]?=some k
 | x::r,k,h=>by
  simp only[idxOf];split
  ·rename_i he;simp at he;simp[he]
  ·rename_i hne;have:k∈r:=by
    rcases List.mem_cons.1 h with h | h
    ·subst h;simp at hne
    ·exact h
   simpa using aC this
theorem UY:∀{π:List Nat} {j k:Nat},nodup π=true->π[j]?=some k->idxOf π k=j
 | x::r,0,k,_,h=>by simp at h;subst h;simp[idxOf]
 | x::r,j+1,k,hn,h=>by
  simp only[nodup,Aw3,Bool.not_eq_true'] at hn;have hr:r[j]?=some k:=by simpa using h
  have:x≠k:=λe=>by
   subst e;have hm:x∈r:=List.mem_of_getElem? hr;have:=hn.1;simp[hm] at this
  simp only[idxOf];rw[if_neg (by simpa using this),UY hn.2 hr]
theorem XD:∀{π:List Nat} {L bs:List Blk} {k:Nat} {x:Blk},L.length=π.length->(MJ bs π L)[k]?=some x->(k∉π/\bs[k]?=some x)\/∃j:Nat,π[j]?=some k/\L[j]?=some x
 | [],[],bs,k,x,_,h=>.inl ⟨by simp,h⟩
 | p::π,b::L,bs,k,x,hl,h=>by
  rcases XD (π:=π) (L:=L) (by simpa using hl) h with ⟨h1,h2⟩| ⟨j,h1,h2⟩
  ·rw[List.getElem?_set] at h2;split at h2
   ·rename_i he;subst he;split at h2
    ·injection h2 with h2;exact .inr ⟨0,rfl,by rw[<-h2];rfl⟩
    ·cases h2
   ·rename_i hne;exact .inl ⟨by simp only[List.mem_cons,not_or];exact⟨λe=>hne e.symm,h1⟩,h2⟩
  ·exact .inr ⟨j+1,by simpa using h1,by simpa using h2⟩
 | [],_::_,_,_,_,hl,_=>by simp at hl
 | _::_,[],_,_,_,hl,_=>by simp at hl
theorem Tw:∀(π:List Nat) (L bs:List Blk),(MJ bs π L).length=bs.length
 | [],_,_=>by simp[MJ]
 | _::_,[],_=>by simp[MJ]
 | p::π,b::L,bs=>by rw[MJ,Tw π L,Aw5]
def G.call(g:G)(π π1 IC:List Nat):G:=⟨λb=>match g.own b with | .Gr=>.Gr | .lab k r=>if k∈π1 then .lab (idxOf π k) r else if k∈IC then .Gr else .no | .no=>.no,λj=>g.at_ (π.getD j 0)⟩
def G.ret(g gc:G)(n:Nat)(π π1:List Nat):G :=
 ⟨λb=>match gc.own b with | .lab j r=>.lab (backTo n π j) r | t=>match g.own b with | .lab k r=>if k∈π1 then t else .lab k r | _=>t,λk=>if k<n then g.at_ k else gc.at_ (k-n+π.length)⟩
def G.back(g gc:G)(n:Nat)(π:List Nat):G:=⟨λb=>match gc.own b with | .lab j r=>.lab (backTo n π j) r | t=>t,λk=>if k<n then g.at_ k else gc.at_ (k-n+π.length)⟩
section
variable {w:World} {g:G} {bs:List Blk} {π π1 IC:List Nat}
theorem UK{k:Nat}(hk:k∈π):qA (idxOf π) g (g.call π π1 IC) π.length k:=by
 refine⟨aD hk,?_⟩;have:=aC hk;simp[G.call,List.getD,this]
theorem WJ{k:Nat}(hk:k∈π)(h1:k∈π1):Ren (idxOf π) g (g.call π π1 IC) π.length k where
 lt:=aD hk
 at_:=(UK hk).2
 own b r h:=by simp[G.call,h,h1]
theorem WI{b:Nat}(h:g.own b=.Gr):(g.call π π1 IC).own b=.Gr:=by simp[G.call,h]
theorem Qc(hb:∀k∈IC,k∉π1){ks:List Nat}(hk:∀k∈ks,k∈IC){b:Nat}(h:Al g.own ks b):Al (g.call π π1 IC).own [] b:=by
 rcases h with h | ⟨k,hks,r,h⟩
 ·exact .inl (WI h)
 ·have h1:=hk k hks;exact .inl (by simp[G.call,h,hb k h1,h1])
theorem qL(H:Heap w g bs){hid:List Nat}(hn:nodup π=true)(h1:∀k∈π,k∉hid->k∈π1)(hcl:∀k∈π,∃b,bs[k]?=some b/\(∀j∈b.ids,j∈π)/\(k∈hid\/∀j∈b.hard,j∉hid)):Heap w (g.call π π1 IC) (π.map λk=>bif hid.contains k then .dead else((bs[k]?).getD .dead).ren (idxOf π)):=by
 refine⟨λb hb=>by simp[G.call,H.fresh b hb],λj x hx=>?_⟩;rw[List.getElem?_map] at hx;cases hj:π[j]? with
 | none=>rw[hj] at hx;cases hx
 | some k =>
  rw[hj] at hx;injection hx with hx;subst hx;have hk:k∈π:=List.mem_of_getElem? hj;obtain⟨b,hb,Nf,hh⟩:=hcl k hk;cases hc:hid.contains k with
  | true=>simp only[hc,Axc];trivial
  | false =>
   have hkh:k∉hid:=by simpa using hc
   have Aqr:=hh.resolve_left hkh;have:=(H.blk k b hb).renG (φ:=idxOf π) (g':=g.call π π1 IC) (n':=π.length) (λb h=>WI h) (WJ hk (h1 k hk hkh)) (λj hj=>UK (Nf j hj)) λj hj=>(WJ (Nf j (UI b hj)) (h1 j (Nf j (UI b hj)) (Aqr j hj))).own;rw[UY hn hj] at this;simp only[hc,hb,Option.getD_some,Aw8,Axb];exact this
theorem Tt{t:Ty}{v:AV}{y:t.V}(h:rd bs t v=some y):v.isAgg=t.isAgg:=by
 have plain:∀(t:Ty) (ks:List Nat) (u:Ty) (z:u.V) (y:t.V),Hw u t z=some y->(AV.dat ks u z).isAgg=t.isAgg:=λt ks u z y h=>by
  obtain⟨e,_⟩:=Bb h;subst e;rfl
 cases t with
 | pair a b=>cases v<;>simp only[rd,reduceCtorEq] at h<;>first | exact plain _ _ _ _ _ h | rfl
 | sl t=>cases v<;>simp only[rd,reduceCtorEq] at h<;>first | exact plain _ _ _ _ _ h | rfl
 | int k=>cases v<;>simp only[rd,reduceCtorEq] at h<;>exact plain _ _ _ _ _ h
 | bool=>cases v<;>simp only[rd,reduceCtorEq] at h<;>exact plain _ _ _ _ _ h
 | str=>cases v<;>simp only[rd,reduceCtorEq] at h<;>exact plain _ _ _ _ _ h
 | unit=>cases v<;>simp only[rd,reduceCtorEq] at h<;>exact plain _ _ _ _ _ h
 | opq z=>cases v<;>simp only[rd,reduceCtorEq] at h<;>exact plain _ _ _ _ _ h
theorem Ab9(H:Heap w g bs){k:Nat}{i:Int}{a:AV}(h:atB bs k i=some a)(hi:i.toNat<(g.at_ k).len){b:Nat}(hb:(g.at_ k).a=some ⟨b,0,none⟩):g.own b=.lab k []:=by
 unfold atB at h;split at h
 ·rename_i a' hx;obtain⟨h1,b',cs,e,ha,ho,hh,hr⟩:=H.blk k _ hx;rw[hb] at ha;injection ha with ha;injection ha with ha;subst ha;exact ho
 ·rename_i e m t xs hx;obtain⟨Nb,hlen,hes,hpos,hr⟩:=H.blk k _ hx;rcases hr with ⟨hx0,_⟩| ⟨b',cur,ds,ha,ho,_⟩
  ·rw[hlen,hx0] at hi;simp at hi
  ·rw[hb] at ha;injection ha with ha;injection ha with ha;subst ha;exact ho
 ·cases h
theorem Ag0(H:Heap w g bs)(hb:∀k∈IC,k∉π1){m:PM}{v a:AV}{l:List Nat}(h:kJ bs m v=some (a,l))(hl:∀k∈l,k∈IC)(hr:∀k∈wz m v,k∈π)(hh:∀k∈a.hard,k∈π->k∈π1){x:Value}(hx:Bg w g bs.length v x):Bg w (g.call π π1 IC) π.length (a.ren (idxOf π)) x:=by
 cases m with
 | d t =>
  simp only[kJ] at h;split at h
  ·rename_i y hy;simp only[AwY,Aw9] at h;obtain⟨rfl,rfl⟩:=h;obtain⟨Tk,hun⟩:=P5 hy;obtain⟨cs,hcs,hv⟩:=Ba Tk hun hx;refine A7 rfl (cs:=cs) ⟨λk hk=>by(cases hk),(MI H t v y cs hy hcs).1.mono λb hA=>⟨Qc hb hl hA,rfl⟩⟩ ?_;rw[Tt hy] at hv;exact hv
  ·cases h
 | p t =>
  cases v with
  | rop ks u y =>
   simp only[kJ] at h;split at h
   ·rename_i z hz;simp only[AwY,Aw9] at h;obtain⟨rfl,rfl⟩:=h;obtain⟨e,he⟩:=Bb hz;subst e;simp only at he;subst he;obtain⟨hk,b,off,ds,rfl,ha,hrd,hc⟩:=R7 hx;exact Xo (λk hk=>by cases hk) (Qc hb hl ha) (hrd.mono λb hA=>⟨Qc hb hl hA,rfl⟩) hc
   ·cases h
  | ptr k i p o =>
   simp only[kJ] at h;split at h
   ·rename_i c hc;split at h
    ·rename_i y hy;simp only[AwY,Aw9] at h;obtain⟨rfl,rfl⟩:=h;obtain⟨hk,h0,h1,b,hba,rfl⟩:=IJ hx;obtain⟨cs,hcs,hcell⟩:=P9 H hc h1 hba;have hown:g.own b=.lab k []:=by
      unfold atP at hc;split at hc
      ·rename_i d hd;exact Ab9 H hd h1 hba
      ·cases hc
     exact Xo (λk hk=>by cases hk) (Qc hb hl (.mem (List.mem_cons_self) hown)) ((MI H t c y cs hy hcs).1.mono λb hA=>⟨Qc hb hl (hA.mono λk hk=>List.mem_cons_of_mem _ hk),rfl⟩) hcell
    ·cases h
   ·cases h
  | _=>simp[kJ] at h
 | raw =>
  simp only[kJ,AwY,Aw9] at h;obtain⟨rfl,rfl⟩:=h;exact hx.renG (λb h=>WI h) (λk hk=>UK (hr k hk)) λk hk=>(WJ (hr k (K5 _ hk)) (hh k hk (hr k (K5 _ hk)))).own
theorem nU (H:Heap w g bs) (hb:∀k∈IC,k∉π1):∀{ms:List PM} {vs as':List AV} {l roots:List Nat} {xs:List Value},Wr bs ms vs=some (as',l,roots)->(∀k∈l,k∈IC)->(∀k∈roots,k∈π)->(∀a∈as',∀k∈a.hard,k∈π->k∈π1)->B9 w g bs.length vs xs ->
    B9 w (g.call π π1 IC) π.length (as'.map (·.ren (idxOf π))) xs
 | [],[],as',l,roots,[],h,_,_,_,_=>by
  simp only[Wr,AwY,Aw9] at h;obtain⟨rfl,_,_⟩:=h;trivial
 | m::ms,v::vs,as',l,roots,x::xs,h,hl,hr,hh,hx=>by
  simp only[Wr] at h;split at h
  ·rename_i a l1 AvU ls rs h1 h2;simp only[AwY,Aw9] at h;obtain⟨rfl,rfl,rfl⟩:=h;exact⟨Ag0 H hb h1 (λk hk=>hl k (List.mem_append_left _ hk)) (λk hk=>hr k (List.mem_append_left _ hk)) (hh a (by simp)) hx.1,
    nU H hb h2 (λk hk=>hl k (List.mem_append_right _ hk)) (λk hk=>hr k (List.mem_append_right _ hk)) (λa ha=>hh a (by simp[ha])) hx.2⟩
  ·cases h
 | [],[],_,_,_,_::_,_,_,_,_,hx=>hx.elim
 | [],_::_,_,_,_,_,h,_,_,_,_=>by simp[Wr] at h
 | _::_,[],_,_,_,_,h,_,_,_,_=>by simp[Wr] at h
 | _::_,_::_,_,_,_,[],_,_,_,_,hx=>hx.elim
end
end Go.Va
namespace Go.Va
theorem ZP{n:Nat}{π:List Nat}{j k:Nat}(h:π[j]?=some k):backTo n π j=k:=by simp[backTo,h]
theorem ZO{n:Nat}{π:List Nat}{j:Nat}(h:π.length<=j):backTo n π j=n+(j-π.length):=by
 have:π[j]?=none:=List.getElem?_eq_none h;simp[backTo,this]
theorem qW(bs:List Blk):AQ [] bs=bs:=rfl
theorem YE {P:Program} {f:FuncId} {c:Callee} (hc:An P f c) {bs:List Blk} {args:List AV} {e:Eff} (h:Rs c bs args some=some e) :
    bs.length<=e.blks.length/\(e.mods=[]->∃l,e.blks=bs++l)/\∀(w:World) (g:G) (vs:List Value),Heap w g bs->B9 w g bs.length args vs->∀(o:Oper) (a:Act) (next:Act->World->Prop) (Q:Exit->Act->World->Prop),
     (∀v w' g',Heap w' g' e.blks->Bg w' g' e.blks.length e.val v->Step e.mods bs.length w g w' g'->next (a.put o.dst v) w')->o.upon P a next Q ((callFunc f vs.toArray).run P w):=by
 unfold Rs at h;split at h
 ·cases h
 ·rename_i as' IC roots hargs
  dsimp only at h
  split at h
  ·rename_i hck;simp only[Aw3] at hck;obtain⟨⟨⟨⟨⟨AsA,hnd⟩,Ahp⟩,hcl⟩,hhd⟩,hemp⟩:=hck;generalize hπ:reach bs bs.length (V3 [] roots)=π at *;generalize Awi:(π.filter λk=>c.keep.contains (idxOf π k))=hid at *;generalize hπ1:(π.filter λk=>!hid.contains k)=π1 at *;rw[hc.nat] at h;cases hrun:c.run (AV×List Blk) (as'.map (·.ren (idxOf π))) (π.map λk=>bif hid.contains k then .dead else((bs[k]?).getD .dead).ren (idxOf π)) λv b=>some (v,b) with
   | none=>rw[hrun] at h;cases h
   | some p =>
    obtain⟨av,E'⟩:=p;rw[hrun] at h;simp only[AwW] at h;split at h
    ·rename_i hle;injection h with h;subst h;obtain⟨hgrow,Mv⟩:=hc.snd _ _ _ _ hrun;rw[Aw8] at hgrow Mv;have mem1:∀k,k∈π1↔k∈π/\k∉hid:=λk=>by rw[<-hπ1];simp
     have Aqh:∀k∈IC,k∉π/\k<bs.length:=λk hk=>by
      have:=List.all_eq_true.1 AsA k hk;simpa using this
     have hbp:∀k∈IC,k∉π1/\k<bs.length:=λk hk=>⟨λh=>(Aqh k hk).1 ((mem1 k).1 h).1,(Aqh k hk).2⟩;have hcl':∀k∈π,∃b,bs[k]?=some b/\(∀j∈b.ids,j∈π)/\(k∈hid\/∀j∈b.hard,j∉hid):=λk hk=>by
      have:=List.all_eq_true.1 hcl k hk;split at this
      ·rename_i b hb;simp only[Aw3,Bool.or_eq_true] at this;exact⟨b,hb,λj hj=>by have:=List.all_eq_true.1 this.1 j hj;simpa using this,this.2.imp (λh=>by simpa using h) λh j hj=>by have:=List.all_eq_true.1 h j hj;simpa using this⟩
      ·cases this
     have hr':∀k∈roots,k∈π:=λk hk=>by have:=List.all_eq_true.1 Ahp k hk;simpa using this
     have hh':∀a∈as',∀k∈a.hard,k∈π->k∈π1:=λa ha k hk hp=>(mem1 k).2 ⟨hp,by have:=List.all_eq_true.1 (List.all_eq_true.1 hhd a ha) k hk;simpa using this⟩;have As3:∀k∈π,k<bs.length:=λk hk=>by obtain⟨b,hb,_⟩:=hcl' k hk;exact AE hb
     let n:=bs.length
     let φ:=backTo n π
     let E1:=List.zipWith (λk b=>bif hid.contains k then((AQ π1 bs)[k]?).getD .dead else(b.ren φ).dep IC) π E'
     let E2:=(E'.drop π.length).map λb=>(b.ren φ).dep IC
     have hE1:E1.length=π.length:=by simp only[E1,List.length_zipWith];omega
     have hlen:(MJ (AQ π1 bs) π E1++E2).length=n+(E'.length-π.length):=by
      rw[Aw0,Tw,Au];simp[E2,n]
     refine⟨by show n<=(MJ (AQ π1 bs) π E1++E2).length;rw[hlen];omega,λh0=>?_,λw g vs H hx o a next Q hn=>?_⟩
     ·have h0:π1=[]:=h0;have h0':π=[]:=by rw[h0] at hemp;simpa using hemp
      refine⟨E2,?_⟩;show MJ (AQ π1 bs) π E1++E2=_;rw[h0,h0'];simp[MJ,qW]
     ·have Hc:=qL (IC:=IC) H hnd (λk h1 h2=>(mem1 k).2 ⟨h1,h2⟩) hcl';have Ac:=nU (IC:=IC) H (λk hk=>(hbp k hk).1) hargs (λk hk=>hk) hr' hh' hx;refine Mv w (g.call π π1 IC) vs Hc Ac o a next Q λv w' gc H' hv st=>?_
      let g1:=g.back gc n π
      let g':=g.ret gc n π π1
      have hlt:∀b,g.own b≠.no->b<w.heap.size:=λb h=>O1 H h;have hkeep:∀b k r,g.own b=.lab k r->k∉π1->(gc.own b=.Gr/\k∈IC\/gc.own b=.no)/\w'.heap[b]?=w.heap[b]?:=λb k r hb hk=>by
       by_cases hkb:k∈IC
       ·have:=st.Gr b (by simp[G.call,hb,hk,hkb]);exact⟨.inl ⟨this.1,hkb⟩,this.2⟩
       ·have:=st.no b (hlt b (by rw[hb];simp)) (by simp[G.call,hb,hk,hkb]);exact⟨.inr this.1,this.2⟩
      have hst:Step π1 n w g w' g':=by
       refine⟨st.os,st.tape,st.output,st.size,λb hb h=>?_,λb h=>?_,λb k r h hk hm=>?_,λk hk=>?_⟩
       ·have:=st.no b hb (by simp[G.call,h]);exact⟨by simp[g',G.ret,this.1,h],this.2⟩
       ·have:=st.Gr b (by simp[G.call,h]);exact⟨by simp[g',G.ret,this.1,h],this.2⟩
       ·obtain⟨h1,h2⟩:=hkeep b k r h hm;refine⟨?_,h2⟩;rcases h1 with ⟨h1,_⟩| h1<;>simp[g',G.ret,h1,h,hm]
       ·have hk':k<bs.length:=hk;simp[g',G.ret,n,hk']
      have Adh:∀j,j<E'.length->Ren φ gc g1 (n+(E'.length-π.length)) j:=λj hj=>by
       rcases Aw7 j π.length with hjl | hjl
       ·obtain⟨k,hk⟩:∃k,π[j]?=some k:=⟨_,List.getElem?_eq_getElem hjl⟩;have hkm:k∈π:=List.mem_of_getElem? hk;have hkn:k<bs.length:=As3 k hkm;refine⟨by rw[show φ j=k from ZP hk];omega,?_,λb r hb=>by simp[g1,G.back,hb,φ]⟩;rw[show φ j=k from ZP hk];have h1:gc.at_ j=(g.call π π1 IC).at_ j:=st.at_ j hjl;rw[h1];simp[g1,G.back,n,hkn,G.call,List.getD,hk]
       ·refine⟨by rw[show φ j=n+(j-π.length) from ZO hjl];omega,?_,λb r hb=>by simp[g1,G.back,hb,φ]⟩;rw[show φ j=n+(j-π.length) from ZO hjl];have:¬n+(j-π.length)<n:=by omega
        simp only[g1,G.back,if_neg this];congr 1;omega
      have Xb:∀b,gc.own b=.Gr->g1.own b=.Gr:=λb hb=>by simp[g1,G.back,hb]
      have Aql:Dep IC g1 g' (n+(E'.length-π.length)):=by
       refine⟨λb hb=>?_,λb k r hb hk=>?_,λk hk=>rfl,λk hk=>by have:=(hbp k hk).2;omega⟩
       ·have hgc:gc.own b=.Gr:=by
          simp only[g1,G.back] at hb;split at hb
          ·cases hb
          ·exact hb
        cases hg:g.own b with
        | no=>exact .inl (by simp[g',G.ret,hgc,hg])
        | Gr=>exact .inl (by simp[g',G.ret,hgc,hg])
        | lab k r =>
         by_cases hk:k∈π1
         ·exact .inl (by simp[g',G.ret,hgc,hg,hk])
         ·obtain⟨h1,_⟩:=hkeep b k r hg hk;rcases h1 with ⟨_,hkb⟩| h1
          ·exact .inr ⟨k,hkb,r,by simp[g',G.ret,hgc,hg,hk]⟩
          ·rw[hgc] at h1;cases h1
       ·simp only[g1,G.back] at hb;split at hb
        ·rename_i j r' hj;simp only[g',G.ret,hj];exact hb
        ·rename_i h1;exact(h1 k r hb).elim
      refine hn v w' g' ⟨λb hb=>?_,λk x hx=>?_⟩ ?_ hst
      ·have h1:=H'.fresh b hb;have h2:=H.fresh b (Nat.le_trans st.size hb);simp[g',G.ret,h1,h2]
      ·have hx:(MJ (AQ π1 bs) π E1++E2)[k]?=some x:=hx;show JX w' g' (MJ (AQ π1 bs) π E1++E2).length k x;rw[hlen];have one:∀(j:Nat) (b:Blk),E'[j]?=some b->JX w' g' (n+(E'.length-π.length)) (φ j) ((b.ren φ).dep IC):=λj b hj=>by
        have hjl:=AE hj;have hb:=H'.blk j b hj;have hbr:=hb.ren Xb (Adh j hjl) λi hi=>Adh i (by
         cases b with
         | dead=>cases hi
         | map m kt vt es st=>exact hb.1 i hi
         | hole e t xs i' p=>cases hi
         | box a=>obtain⟨_,_,_,_,_,_,_,hx⟩:=hb;exact BA.Oj a false hx i hi
         | row e m t xs=>exact hb.1 i hi)
        exact hbr.dep Aql (Adh j hjl).lt
       rw[List.getElem?_append] at hx;split at hx
       ·have old:∀y,(AQ π1 bs)[k]?=some y->k∉π1->JX w' g' (n+(E'.length-π.length)) k y:=λy hy hk=>by
          obtain⟨z,hz,rfl⟩:=CY hy;exact(H.blk k z hz).step hst (by omega) (AE hz) hk
        rcases XD hE1 hx with ⟨hk,h⟩| ⟨j,hj,h⟩
        ·exact old x h λh1=>hk ((mem1 k).1 h1).1
        ·simp only[E1,List.getElem?_zipWith,hj] at h;cases hq:E'[j]? with
         | none=>rw[hq] at h;cases h
         | some b =>
          rw[hq] at h;injection h with h;cases hc:hid.contains k with
          | true =>
           rw[hc,Axc] at h;have hkh:k∈hid:=by simpa using hc
           cases hd:(AQ π1 bs)[k]? with
           | none=>rw[hd] at h;subst h;trivial
           | some y=>rw[hd] at h;subst h;exact old _ hd λh1=>((mem1 k).1 h1).2 hkh
          | false =>
           rw[hc,Axb] at h;subst h;have:=one j b hq;rwa [show φ j=k from ZP hj] at this
       ·rename_i hk;rw[Tw,Au] at hx hk;simp only[E2,List.getElem?_map,List.getElem?_drop] at hx;cases hq:E'[π.length+(k-bs.length)]? with
        | none=>rw[hq] at hx;cases hx
        | some b =>
         rw[hq] at hx;injection hx with hx;subst hx;have:=one _ b hq;rwa [show φ (π.length+(k-bs.length))=k from by
          rw[show φ (π.length+(k-bs.length))=n+(π.length+(k-bs.length)-π.length) from ZO (by omega)];simp only[n];omega] at this
      ·show Bg w' g' (MJ (AQ π1 bs) π E1++E2).length ((av.ren φ).dep IC) v;rw[hlen];exact(hv.ren Xb λk hk=>Adh k (hv.Oj k hk)).dep Aql
    ·cases h
  ·cases h
def Aej(l:List Nat)(c:Callee):Callee:={c with keep:=l}
theorem zY{P:Program}{f:FuncId}{c:Callee}(l:List Nat)(h:An P f c):An P f (Aej l c):=⟨h.nat,h.snd⟩
end Go.Va
namespace Go.Va
theorem bD{r q L:List Nat}{a b:Nat}(h:(r++a::L) <:+ (q++b::L)):a=b:=by
 obtain⟨s,hs⟩:=h;have:(s++r)++(a::L)=q++(b::L):=by simpa using hs
 have:=List.append_inj_right' this rfl;injection this
theorem Xk:∀(f:Nat) (L:List Nat),∃r,Yb f L=r++L
 | 0,L=>⟨[0],rfl⟩
 | f+1,L=>by
  obtain⟨r,h⟩:=Xk f (1::L);exact⟨r++[1],by rw[Yb,h];simp⟩
theorem Uc:∀(p L:List Nat),∃r,O0 p L=r++L
 | [],L=>⟨[],rfl⟩
 | f::p,L=>by
  obtain⟨r,hr⟩:=Uc p (Yb f L);obtain⟨s,hs⟩:=Xk f L;exact⟨r++s,by rw[O0,hr,hs,Aw4]⟩
def Fr(w:World)(own:Nat->Tag)(w':World)(own':Nat->Tag)(k:Nat)(P:List Nat):Prop:=∀b q,own b=.lab k q->¬P <:+ q->own' b=.lab k q/\w'.heap[b]?=w.heap[b]?
def Hole(w:World)(own:Nat->Tag)(k:Nat)(u:Ty)(zs:List u.V)(P:List Nat)(t:Ty)(L:List Nat)(x':t.V)(ys:List u.V)(cs:List Value)(o:Nat):Prop :=
 ∃c0 c1 c2,cs=c0++c1++c2/\c0.length=o/\Hv w own k (.sl u) P ys c1/\∀w' own' c1',Fr w own w' own' k P->Hv w' own' k (.sl u) P zs c1'->Hv w' own' k t L x' (c0++c1'++c2)
section
variable {w:World} {own:Nat->Tag} {k:Nat} {u:Ty} {zs:List u.V}
theorem sib{w':World}{own':Nat->Tag}{P:List Nat}{t:Ty}{L:List Nat}{x:t.V}{cs:List Value}(hfr:Fr w own w' own' k P)(hP:∀q,¬P <:+ (q++L))(h:Hv w own k t L x cs):Hv w' own' k t L x cs :=
 h.mono λb q hb=>hfr b _ hb (hP q)
theorem gP (p:List Nat) (ih:∀(t:Ty) (L:List Nat) (x x':t.V) (cs:List Value) (o:Nat) (ys:List u.V),N0 (.sl u) zs p t x=some x'->W7 (.sl u) p t x=some ys->I1 t p=some o->Hv w own k t L x cs->Hole w own k u zs (O0 p L) t L x' ys cs o) :
    ∀(f:Nat) (t:Ty) (L:List Nat) (x x':t.V) (cs:List Value) (t1:Ty) (o1 o2:Nat) (ys:List u.V),Nz t x f (λt' y=>N0 (.sl u) zs p t' y)=some x'->Ahe t x f (λt' y=>W7 (.sl u) p t' y)=some ys ->
     dn t f=some t1->OA t f=some o1->I1 t1 p=some o2->Hv w own k t L x cs->Hole w own k u zs (O0 p (Yb f L)) t L x' ys cs (o1+o2)
 | 0,.pair a b,L,x,x',cs,t1,o1,o2,ys,hs,hg,ht,ho,ho2,h=>by
  obtain⟨c,d,e,h1,h2⟩:=h;simp only[dn,AwY] at ht;subst ht;simp only[OA,AwY] at ho;subst ho;simp only[Nz] at hs;split at hs
  ·rename_i y hy;injection hs with hs;subst hs;obtain⟨c0,c1,c2,e2,hl,hr,hk⟩:=ih a (0::L) x.1 y c o2 ys hy hg ho2 h1;refine⟨c0,c1,c2++d,by rw[e,e2];simp only[Aw4],by omega,hr,λw' own' c1' hfr hz=>⟨c0++c1'++c2,d,by simp only[Aw4],hk w' own' c1' hfr hz,sib hfr (λq hq=>?_) h2⟩⟩;obtain⟨r,hr⟩:=Uc p (Yb 0 L);rw[hr] at hq;have:=bD (r:=r) (q:=q) (L:=L) (a:=0) (b:=1) hq;cases this
  ·cases hs
 | f+1,.pair a b,L,x,x',cs,t1,o1,o2,ys,hs,hg,ht,ho,ho2,h=>by
  obtain⟨c,d,e,h1,h2⟩:=h;simp only[dn] at ht;simp only[OA] at ho;split at ho
  ·rename_i o3 ho3;injection ho with ho;subst ho;simp only[Nz] at hs;split at hs
   ·rename_i y hy;injection hs with hs;subst hs;obtain⟨c0,c1,c2,e2,hl,hr,hk⟩:=gP p ih f b (1::L) x.2 y d t1 o3 o2 ys hy hg ht ho3 ho2 h2;refine⟨c++c0,c1,c2,by rw[e,e2];simp only[Aw4],by rw[Aw0,h1.len];omega,hr,λw' own' c1' hfr hz=>⟨c,c0++c1'++c2,by simp only[Aw4],sib hfr (λq hq=>?_) h1,hk w' own' c1' hfr hz⟩⟩;obtain⟨r,hr⟩:=Uc p (Yb (f+1) L);obtain⟨s,hs⟩:=Xk f (1::L);rw[hr,Yb,hs,<-Aw4] at hq;have:=bD (r:=r++s) (q:=q) (L:=L) (a:=1) (b:=0) hq;cases this
   ·cases hs
  ·cases ho
 | f,.int _,_,_,_,_,_,_,_,_,hs,_,_,_,_,_=>by simp[Nz] at hs
 | f,.bool,_,_,_,_,_,_,_,_,hs,_,_,_,_,_=>by simp[Nz] at hs
 | f,.str,_,_,_,_,_,_,_,_,hs,_,_,_,_,_=>by simp[Nz] at hs
 | f,.unit,_,_,_,_,_,_,_,_,hs,_,_,_,_,_=>by simp[Nz] at hs
 | f,.sl _,_,_,_,_,_,_,_,_,hs,_,_,_,_,_=>by simp[Nz] at hs
 | f,.opq _,_,_,_,_,_,_,_,_,hs,_,_,_,_,_=>by simp[Nz] at hs
theorem Xu:∀(p:List Nat) (t:Ty) (L:List Nat) (x x':t.V) (cs:List Value) (o:Nat) (ys:List u.V),N0 (.sl u) zs p t x=some x'->W7 (.sl u) p t x=some ys->I1 t p=some o->Hv w own k t L x cs->Hole w own k u zs (O0 p L) t L x' ys cs o
 | [],t,L,x,x',cs,o,ys,hs,hg,ho,h=>by
  simp only[I1,AwY] at ho;subst ho;obtain⟨e,he⟩:=Bb hs;obtain⟨e',he'⟩:=Bb hg;subst e;simp only at he he';subst he;subst he';exact⟨[],cs,[],by simp,rfl,h,λw' own' c1' _ hz=>by simpa [O0] using hz⟩
 | f::p,t,L,x,x',cs,o,ys,hs,hg,ho,h=>by
  simp only[I1] at ho;split at ho
  ·rename_i t1 o1 h1 h2;split at ho
   ·rename_i o2 h3;injection ho with ho;subst ho;exact gP p (Xu p) f t L x x' cs t1 o1 o2 ys hs hg h1 h2 h3 h
   ·cases ho
  ·cases ho
end
def G.WV(g:G)(n k:Nat)(P:List Nat)(i:BI):G:=⟨λb=>match g.own b with | .lab j q=>if j=k/\P <:+ q then .lab n (q.take (q.length-P.length)) else .lab j q | t=>t,λj=>if j=n then i else g.at_ j⟩
def G.VA(g:G)(n k:Nat)(P:List Nat):G:=⟨λb=>match g.own b with | .lab j q=>if j=n then .lab k (q++P) else .lab j q | t=>t,g.at_⟩
section
variable {w:World} {g:G} {bs:List Blk}
theorem Se{n k:Nat}{P:List Nat}{i:BI}{b:Nat}{q:List Nat}(h:g.own b=.lab k (q++P)):(g.WV n k P i).own b=.lab n q:=by
 have:P <:+ (q++P):=⟨q,rfl⟩;simp[G.WV,h,this]
theorem QF{n k:Nat}{P:List Nat}{i:BI}{b j:Nat}{q:List Nat}(h:g.own b=.lab j q)(hn:¬(j=k/\P <:+ q)):(g.WV n k P i).own b=.lab j q:=by
 simp only[G.WV,h,if_neg hn]
theorem nX{n k:Nat}{P:List Nat}{b:Nat}{q:List Nat}(h:g.own b=.lab n q):(g.VA n k P).own b=.lab k (q++P):=by simp[G.VA,h]
theorem V7{n k:Nat}{P:List Nat}{b j:Nat}{q:List Nat}(h:g.own b=.lab j q)(hn:j≠n):(g.VA n k P).own b=.lab j q:=by simp only[G.VA,h,if_neg hn]
theorem XM{k:Nat}{P:List Nat}{i:BI}:Step [k] bs.length w g w (g.WV bs.length k P i) where
 os:=rfl
 tape:=rfl
 output:=rfl
 size:=Aw2 _
 no b _ h:=⟨by simp[G.WV,h],rfl⟩
 Gr b h:=⟨by simp[G.WV,h],rfl⟩
 lab b j q h hj hm:=⟨QF h λhc=>hm (by simp[hc.1]),rfl⟩
 at_ j hj:=by simp[G.WV,Nat.ne_of_lt hj]
theorem jw{n k N:Nat}{P:List Nat}:Step [n,k] N w g w (g.VA n k P) where
 os:=rfl
 tape:=rfl
 output:=rfl
 size:=Aw2 _
 no b _ h:=⟨by simp[G.VA,h],rfl⟩
 Gr b h:=⟨by simp[G.VA,h],rfl⟩
 lab b j q h hj hm:=⟨V7 h λhc=>hm (by simp[hc]),rfl⟩
 at_ j hj:=rfl
theorem NK{A:Type}{l:List A}{k j:Nat}{x y:A}(h:(l.set k x)[j]?=some y):(j=k/\y=x)\/(j≠k/\l[j]?=some y):=by
 rw[List.getElem?_set] at h;split at h
 ·rename_i e;subst e;split at h
  ·injection h with h;exact .inl ⟨rfl,h.symm⟩
  ·cases h
 ·rename_i e;exact .inr ⟨λh=>e h.symm,h⟩
theorem AZ.Xp{A:Type}{I J:Nat->A->List Value->Prop}:∀{lo:Nat} {xs:List A} {cs:List Value},(∀j x c,lo<=j->j<lo+xs.length->I j x c->J j x c)->AZ I lo xs cs->AZ J lo xs cs
 | _,[],_,_,h=>h
 | lo,_::xs,_,h,⟨c,d,e,r,l⟩=>⟨c,d,e,h _ _ _ (Aw2 _) (by simp) r,AZ.Xp (λj x c h1 h2=>h j x c (by omega) (by simp only[List.length_cons];omega)) l⟩
theorem Sf (H:Heap w g bs) {k ek:Nat} {t u:Ty} {xs:List t.V} (hb:bs[k]?=some (.row ek .deep t xs)) {i:Int} {p:List Nat} {o:Nat} (hi:i.toNat<(g.at_ k).len) {ys:List u.V}
    (hg:W7 (.sl u) p t (xs.getD i.toNat t.zero)=some ys) (ho:I1 t p=some o) (hu:u.size≠0) {b:Nat} (hba:(g.at_ k).a=some ⟨b,0,none⟩) {v:Value} (hv:w.cell? ⟨b,i.toNat*(g.at_ k).YS+o,none⟩=some v)
    {zs:List u.V} {x':t.V} (hs:N0 (.sl u) zs p t (xs.getD i.toNat t.zero)=some x') :
    ∃g1,Heap w g1 ((AQ [k] bs).set k .dead++[.row 0 .deep u ys])/\Step [k] bs.length w g w g1/\Bg w g1 (bs.length+1) (.ref bs.length) v /\
     (∀(w':World) (g2:G) (N:Nat) (e0:Nat),(∀b q,g1.own b=.lab k q->g2.own b=.lab k q/\w'.heap[b]?=w.heap[b]?)->(∀j,j<=bs.length->g2.at_ j=g1.at_ j) ->
      JX w' g2 N bs.length (.row e0 .deep u zs)->JX w' (g2.VA bs.length k (O0 p [i.toNat])) N k (.row ek .deep t (xs.set i.toNat x'))) /\
     (zs=[]->tyP t p=some (.sl u)->0<=i->∀N,JX w g1 N k (.hole ek t xs i p)):=by
 have hkl:=AE hb;obtain⟨Nb,hlen,hes,hpos,hr⟩:=H.blk k _ hb;have hlt:i.toNat<xs.length:=by rw[<-hlen];exact hi
 rcases hr with ⟨hx0,_⟩| ⟨b',cur,ds,ha,hown,⟨el,hel,hh⟩,hc1,hc2,hc3,hc4,hcon⟩
 ·rw[hx0] at hlt;simp at hlt
 rw[hba] at ha;injection ha with ha;injection ha with ha;subst ha;have hcon:AZ (λi=>Hv w g.own k t [i]) 0 xs ds:=hcon;obtain⟨c0,c,d,e1,hl0,hrc,hr0,hrd⟩:=AZ.at_ (λi x c h=>Hv.len h) hcon hlt;rw[Nat.zero_add] at hrc hrd;have hgd:xs.getD i.toNat t.zero=xs[i.toNat]:=by simp[List.getD,hlt]
 let P:=O0 p [i.toNat]
 obtain⟨r0,hP⟩:=Uc p [i.toNat];obtain⟨a0,a1,a2,e2,hl2,hys,hput⟩:Hole w g.own k u zs P t [i.toNat] x' ys c o:=Xu p t [i.toNat] (xs.getD i.toNat t.zero) x' c o ys hs hg ho (by rw[hgd];exact hrc);have As1:=hys;obtain⟨ad,cap,e3,hrow⟩:=As1;have hvh:v=.slice ad ys.length cap:=by
  rw[Ov hh,<-Axa,hes] at hv;have hq:ds[i.toNat*t.size+o]?=some (.slice ad ys.length cap):=by
   rw[e1,e2,e3,Aw4,List.getElem?_append_right (by omega),hl0];rw[show i.toNat*t.size+o-i.toNat*t.size=a0.length by omega];simp
  subst hc4;rw[List.getElem?_take] at hq;split at hq
  ·rw[hv] at hq;injection hq
  ·cases hq
 let i1:BI:=⟨ad,ys.length,cap,u.size⟩
 let n:=bs.length
 let g1:=g.WV n k P i1
 have st:Step [k] n w g w g1:=XM;have hat:g1.at_ n=i1:=by simp[g1,G.WV]
 have hkn:k≠n:=by simp only[n];omega
 have Y1:((AQ [k] bs).set k Blk.dead++[Blk.row 0 .deep u ys]).length=n+1:=by simp[Au,n]
 refine⟨g1,?_,st,?_,?_,?_⟩
 ·refine H.turn st (λb hb=>by simp[g1,G.WV,H.fresh b hb]) (by rw[Y1];omega) λj x hj=>?_;rw[List.getElem?_append] at hj;split at hj
  ·rcases NK hj with ⟨rfl,rfl⟩| ⟨hne,hj⟩
   ·exact .inl rfl
   ·obtain⟨y,hy,rfl⟩:=CY hj;exact .inr (.inl ⟨by simpa using hne,y,hy,rfl⟩)
  ·rename_i hge;simp only[Aw5,Au] at hj hge;have hj0:j-bs.length=0:=by
    rcases Nat.eq_zero_or_pos (j-bs.length) with h | h
    ·exact h
    ·rw[List.getElem?_eq_none (by simp;omega)] at hj;cases hj
   rw[hj0] at hj;obtain rfl:j=n:=by simp only[n];omega
   simp only[List.getElem?_cons_zero,AwY] at hj;subst hj;refine .inr (.inr ⟨λj hj=>(by cases hj),by rw[hat],by rw[hat],Nat.pos_of_ne_zero hu,?_⟩);rw[hat];refine hrow.imp id λ⟨b,el,cur,ds,q1,q2,q3,q4,q5,q6,q7,q8⟩=>⟨b,cur,ds,q1,Se (q:=[]) (by simpa using q2),⟨el,.inl rfl,q3⟩,q4,q5,q6,q7,?_⟩;exact q8.mono λi x c r=>r.mono λb q hb=>⟨Se (by simpa using hb),rfl⟩
 ·rw[hvh];exact A7 (cs:=[_]) rfl ⟨Nat.lt_succ_self _,by rw[hat]⟩ rfl
 ·intro w' g2 N e0 hkeep Aqf hB;obtain⟨_,oZ,_,_,hr2⟩:=hB;have Asx:g2.at_ n=i1:=by rw[Aqf n (Aw2 _),hat]
  rw[Asx] at oZ hr2;have hzl:zs.length=ys.length:=oZ.symm;have hz:Hv w' (g2.VA n k P).own k (.sl u) P zs a1:=by
   refine⟨ad,cap,by rw[e3,hzl],hr2.imp id λ⟨b,cur,ds,q1,q2,⟨el,_,q3⟩,q4,q5,q6,q7,q8⟩=>⟨b,el,cur,ds,q1,by simpa using nX (P:=P) (k:=k) q2,q3,q4,q5,q6,q7,?_⟩⟩;have q8:AZ (λi=>Hv w' g2.own n u [i]) 0 zs ds:=q8;exact q8.mono λi x c r=>r.mono λb q hb=>⟨by simpa using nX (P:=P) (k:=k) hb,rfl⟩
  have hfr:Fr w g.own w' (g2.VA n k P).own k P:=λb q hb hn=>by
   have h1:=hkeep b q (QF hb λhc=>hn hc.2);exact⟨V7 h1.1 hkn,h1.2⟩
  have helem:=hput w' _ _ hfr hz;rw[<-e2] at helem;have aB:∀j,j≠i.toNat->∀{x:t.V} {c:List Value},Hv w g.own k t [j] x c->Hv w' (g2.VA n k P).own k t [j] x c:=λj hj x c h=>sib hfr (λq hq=>by
   rw[show P=r0++i.toNat::[] from hP] at hq;exact hj (bD (L:=[]) hq).symm) h
  have gM:=AZ.join hlt (AZ.Xp (λj x c _ h2 h=>aB j (by rw[List.length_take] at h2;omega) h) hr0) (by rw[Nat.zero_add];exact helem) (AZ.Xp (λj x c h1 _ h=>aB j (by omega) h) (by rw[Nat.zero_add];exact hrd));have hroot:=hfr b [] hown (by
   rw[show P=r0++[i.toNat] from hP]
   rintro⟨s,hs⟩
   simp at hs)
  have Np:(g2.VA n k P).at_ k=g.at_ k:=by
   show g2.at_ k=_;rw[Aqf k (by omega)];simp[g1,G.WV,hkn]
  refine⟨λj hj=>(by cases hj),by rw[Np,Aw5];exact hlen,by rw[Np];exact hes,hpos,.inr ⟨b,cur,ds,by rw[Np];exact hba,hroot.1,⟨el,hel,hroot.2.trans hh⟩,by rw[Np,Aw5];exact hc1,by rw[Np];exact hc2,by rw[Np];exact hc3,by rw[Aw5];exact hc4,?_⟩⟩;show AZ _ 0 _ ds;rw[e1];exact gM
 ·intro hz0 hty h0 N;subst hz0;have hfr:Fr w g.own w g1.own k P:=λb q hb hn=>⟨QF hb λhc=>hn hc.2,rfl⟩;have helem:=hput w g1.own [.slice none 0 0] hfr ⟨none,0,rfl,.inl ⟨rfl,rfl⟩⟩;have aB:∀j,j≠i.toNat->∀{x:t.V} {c:List Value},Hv w g.own k t [j] x c->Hv w g1.own k t [j] x c:=λj hj x c h=>sib hfr (λq hq=>by
   rw[show P=r0++i.toNat::[] from hP] at hq;exact hj (bD (L:=[]) hq).symm) h
  have gM:=AZ.join hlt (AZ.Xp (λj x c _ h2 h=>aB j (by rw[List.length_take] at h2;omega) h) hr0) (by rw[Nat.zero_add];exact helem) (AZ.Xp (λj x c h1 _ h=>aB j (by omega) h) (by rw[Nat.zero_add];exact hrd));have hroot:=hfr b [] hown (by
   rw[show P=r0++[i.toNat] from hP]
   rintro⟨s,hs⟩
   simp at hs)
  have Np:g1.at_ k=g.at_ k:=by simp[g1,G.WV,hkn]
  refine⟨by rw[Np];exact hlen,by rw[Np];exact hes,hpos,h0,hlt,u,o,x',b,cur,_,ho,hty,hs,by rw[Np];exact hba,hroot.1,⟨el,hel,hh⟩,by rw[Np];exact hc1,by rw[Np];exact hc2,by rw[Np];exact hc3,rfl,?_⟩;rw[Array.toList_setIfInBounds,List.take_set,hc4,e1,e2,e3];have:(c0++(a0++[Value.slice ad ys.length cap]++a2)++d).set (i.toNat*t.size+o) (.slice none 0 0)=c0++(a0++[.slice none 0 0]++a2)++d:=by
   rw[<-hl0,<-hl2,Aw4,Aw4,Aw4,List.set_append_right _ _ (by omega),List.set_append_right _ _ (by omega),show c0.length+a0.length-c0.length-a0.length=0 by omega];simp
  rw[this];exact gM
theorem rY (H:Heap w g bs) {k ek:Nat} {t u:Ty} {xs:List t.V} (hb:bs[k]?=some (.row ek .deep t xs)) {i:Int} {p:List Nat} {o:Nat} (hi:i.toNat<(g.at_ k).len) {ys zs:List u.V} {x':t.V}
    (hg:W7 (.sl u) p t (xs.getD i.toNat t.zero)=some ys) (hs:N0 (.sl u) zs p t (xs.getD i.toNat t.zero)=some x') (ho:I1 t p=some o) {b:Nat} (hba:(g.at_ k).a=some ⟨b,0,none⟩) :
    ∃ad c,w.cell? ⟨b,i.toNat*(g.at_ k).YS+o,none⟩=some (.slice ad ys.length c):=by
 obtain⟨Nb,hlen,hes,hpos,hr⟩:=H.blk k _ hb;have hlt:i.toNat<xs.length:=by rw[<-hlen];exact hi
 rcases hr with ⟨hx0,_⟩| ⟨b',cur,ds,ha,hown,⟨el,hel,hh⟩,hc1,hc2,hc3,hc4,hcon⟩
 ·rw[hx0] at hlt;simp at hlt
 rw[hba] at ha;injection ha with ha;injection ha with ha;subst ha;have hcon:AZ (λi=>Hv w g.own k t [i]) 0 xs ds:=hcon;obtain⟨c0,c,d,e1,hl0,hrc,hr0,hrd⟩:=AZ.at_ (λi x c h=>Hv.len h) hcon hlt;rw[Nat.zero_add] at hrc;have hgd:xs.getD i.toNat t.zero=xs[i.toNat]:=by simp[List.getD,hlt]
 obtain⟨a0,a1,a2,e2,hl2,⟨ad,cap,e3,_⟩,_⟩:=Xu p t [i.toNat] (xs.getD i.toNat t.zero) x' c o ys hs hg ho (by rw[hgd];exact hrc);refine⟨ad,cap,?_⟩;rw[Ov hh,<-Axa,hes];have hq:ds[i.toNat*t.size+o]?=some (.slice ad ys.length cap):=by
  rw[e1,e2,e3,Aw4,List.getElem?_append_right (by omega),hl0];rw[show i.toNat*t.size+o-i.toNat*t.size=a0.length by omega];simp
 subst hc4;rw[List.getElem?_take] at hq;split at hq
 ·exact hq
 ·cases hq
end
theorem Xt:∀{l:List AV} {j0 j k:Nat} {a:AV} {i:Int} {p:List Nat} {o:Nat},iK j0 l=some (j,a,k,i,p,o)->j0<=j/\l[j-j0]?=some a/\a.KX=some (k,i,p,o)
 | [],_,_,_,_,_,_,_,h=>by simp[iK] at h
 | b::r,j0,j,k,a,i,p,o,h=>by
  simp only[iK] at h;split at h
  ·rename_i k' i' p' o' hg;simp only[AwY,Aw9] at h;obtain⟨rfl,rfl,rfl,rfl,rfl,rfl⟩:=h;exact⟨Aw2 _,by simp,hg⟩
  ·obtain⟨h1,h2,h3⟩:=Xt h;refine⟨by omega,?_,h3⟩;rw[show j-j0=(j-(j0+1))+1 by omega,List.getElem?_cons_succ];exact h2
theorem Vi {w:World} {g:G} {n:Nat}:∀{a:AV} {cs:List Value} {k:Nat} {i:Int} {p:List Nat} {o:Nat},BA w g n false a cs->a.KX=some (k,i,p,o) ->
    k<n/\0<=i/\i.toNat<(g.at_ k).len/\∃b v,(g.at_ k).a=some ⟨b,0,none⟩/\g.own b=.lab k []/\w.cell? ⟨b,i.toNat*(g.at_ k).YS+o,none⟩=some v
 | .Oz k i p o e,cs,_,_,_,_,⟨hk,h0,h1,b,v,ha,ho,e1,e2,hc⟩,h=>by
  simp only[AV.KX,AwY,Aw9] at h;obtain⟨rfl,rfl,rfl,rfl⟩:=h;exact⟨hk,h0,h1,b,v,ha,ho,hc⟩
 | .pr a b,cs,k,i,p,o,⟨c,d,e,h1,h2⟩,h=>by
  simp only[AV.KX] at h;split at h
  ·rename_i z hz;injection h with h;subst h;exact Vi h1 hz
  ·exact Vi h2 h
 | .dat _ _ _,_,_,_,_,_,_,h=>by simp[AV.KX] at h
 | .zs,_,_,_,_,_,_,h=>by simp[AV.KX] at h
 | .ref _,_,_,_,_,_,_,h=>by simp[AV.KX] at h
 | .QS _ _,_,_,_,_,_,_,h=>by simp[AV.KX] at h
 | .mp _,_,_,_,_,_,_,h=>by simp[AV.KX] at h
 | .ptr _ _ _ _,_,_,_,_,_,_,h=>by simp[AV.KX] at h
 | .rop _ _ _,_,_,_,_,_,_,h=>by simp[AV.KX] at h
 | .JH,_,_,_,_,_,_,h=>by simp[AV.KX] at h
 | .fn _ _,_,_,_,_,_,_,h=>by simp[AV.KX] at h
 | .un _,_,_,_,_,_,_,h=>by simp[AV.KX] at h
 | .cons _ _,_,_,_,_,_,h,_=>h.elim
 | .nil,_,_,_,_,_,h,_=>h.elim
theorem lQ{a:AV}{z:Nat×Int×List Nat×Nat}(h:a.KX=some z)(N:Nat):a.Cp=false/\a.K9=false/\(a.Ts N).Cp=false/\(a.Ts N).isAgg=a.isAgg:=by
 cases a with
 | Oz k i p o e=>exact⟨rfl,rfl,rfl,rfl⟩
 | pr a b =>
  refine⟨rfl,rfl,?_,?_⟩
  ·simp only[AV.Ts];split<;>rfl
  ·simp only[AV.Ts];split<;>rfl
 | _=>simp[AV.KX] at h
theorem aX {w:World} {g g1:G} {n N k:Nat} (st:Step [k] n w g w g1) {i:Int} {p:List Nat} {o:Nat} {v b:_} (hba:(g.at_ k).a=some ⟨b,0,none⟩) (hc:w.cell? ⟨b,i.toNat*(g.at_ k).YS+o,none⟩=some v) (hr:BA w g1 (n+1) false (.ref N) [v]) :
    ∀{a:AV} {cs:List Value},BA w g n false a cs->a.KX=some (k,i,p,o)->(∀q∈(a.Ts N).ids,[k].contains q=false)->BA w g1 (n+1) false (a.Ts N) cs
 | .Oz _ _ _ _ _,cs,⟨_,_,_,b',v',ha,_,e1,_,hc'⟩,h,_=>by
  simp only[AV.KX,AwY,Aw9] at h;obtain⟨rfl,rfl,rfl,rfl⟩:=h;rw[hba] at ha;injection ha with ha;injection ha with ha;subst ha;rw[hc] at hc';injection hc' with hc';subst hc';rw[e1];exact hr
 | .pr a b,cs,⟨c,d,e,h1,h2⟩,h,hq=>by
  simp only[AV.KX] at h;simp only[AV.Ts] at hq ⊢;split at h
  ·rename_i z hz;injection h with h;subst h;rw[hz] at hq;refine⟨c,d,e,aX st hba hc hr h1 hz λq hq'=>hq q (by simp[AV.ids,hq']),?_⟩;have:=BA.step st (Nat.le_succ n) b false h2;rwa [K2 λq hq'=>hq q (by simp[AV.ids,hq'])] at this
  ·rename_i hz;rw[hz] at hq;refine⟨c,d,e,?_,aX st hba hc hr h2 h λq hq'=>hq q (by simp[AV.ids,hq'])⟩;have:=BA.step st (Nat.le_succ n) a false h1;rwa [K2 λq hq'=>hq q (by simp[AV.ids,hq'])] at this
 | .dat _ _ _,_,_,h,_=>by simp[AV.KX] at h
 | .zs,_,_,h,_=>by simp[AV.KX] at h
 | .ref _,_,_,h,_=>by simp[AV.KX] at h
 | .QS _ _,_,_,h,_=>by simp[AV.KX] at h
 | .mp _,_,_,h,_=>by simp[AV.KX] at h
 | .ptr _ _ _ _,_,_,h,_=>by simp[AV.KX] at h
 | .rop _ _ _,_,_,h,_=>by simp[AV.KX] at h
 | .JH,_,_,h,_=>by simp[AV.KX] at h
 | .fn _ _,_,_,h,_=>by simp[AV.KX] at h
 | .un _,_,_,h,_=>by simp[AV.KX] at h
 | .cons _ _,_,h,_,_=>h.elim
 | .nil,_,h,_,_=>h.elim
theorem d9{w:World}{g:G}{n:Nat}:∀{l:List AV} {vs:List Value} {j:Nat} {a:AV},B9 w g n l vs->l[j]?=some a->∃v,vs[j]?=some v/\Bg w g n a v
 | _::_,v::_,0,_,h,hx=>by simp at hx;subst hx;exact⟨v,rfl,h.1⟩
 | _::_,_::_,j+1,_,h,hx=>by
  obtain⟨v,hv,hr⟩:=d9 (j:=j) h.2 (by simpa using hx);exact⟨v,by simpa using hv,hr⟩
 | [],[],_,_,_,hx=>by simp at hx
 | [],_::_,_,_,h,_=>h.elim
 | _::_,[],_,_,h,_=>h.elim
theorem YB{w:World}{g g1:G}{n n1:Nat}{a1:AV}:∀{l:List AV} {vs:List Value} {j:Nat} {v:Value},B9 w g n l vs->vs[j]?=some v->Bg w g1 n1 a1 v->(∀a∈l.set j (.un 1),∀v,Bg w g n a v->Bg w g1 n1 a v)->B9 w g1 n1 (l.set j a1) vs
 | a::l,v0::vs,0,v,h,hv,hx,ht=>by
  simp at hv;subst hv;refine⟨hx,?_⟩;have key:∀{l:List AV} {vs:List Value},(∀a∈l,∀v,Bg w g n a v->Bg w g1 n1 a v)->B9 w g n l vs->B9 w g1 n1 l vs:=by
   intro l;induction l with
   | nil=>intro vs _ h;cases vs with
    | nil=>trivial
    | cons _ _=>exact h.elim
   | cons a l ih=>intro vs ht h;cases vs with
    | nil=>exact h.elim
    | cons v vs=>exact⟨ht a (by simp) v h.1,ih (λa ha=>ht a (by simp[ha])) h.2⟩
  exact key (λa ha=>ht a (by simp[ha])) h.2
 | a::l,v0::vs,j+1,v,h,hv,hx,ht=>⟨ht a (by simp) v0 h.1,YB h.2 (by simpa using hv) hx λa ha=>ht a (by simp[ha])⟩
 | [],[],_,_,_,hv,_,_=>by simp at hv
 | [],_::_,_,_,h,_,_,_=>h.elim
 | _::_,[],_,_,h,_,_,_=>h.elim
theorem qK {P:Program} {f:FuncId} {c:Callee} (hc:An P f c) {bs:List Blk} {args:List AV} {e:Eff} (h:WH c bs args some=some e) :
    bs.length<=e.blks.length/\(e.mods=[]->∃l,e.blks=bs++l)/\∀(w:World) (g:G) (vs:List Value),Heap w g bs->B9 w g bs.length args vs->∀(o:Oper) (a:Act) (next:Act->World->Prop) (Q:Exit->Act->World->Prop),
     (∀v w' g',Heap w' g' e.blks->Bg w' g' e.blks.length e.val v->Step e.mods bs.length w g w' g'->next (a.put o.dst v) w')->o.upon P a next Q ((callFunc f vs.toArray).run P w):=by
 unfold WH at h;split at h
 ·exact YE hc h
 ·rename_i j a0 k i p of hix;split at h
  ·rename_i ek t xs hb;split at h
   ·rename_i u hty;split at h
    ·rename_i ys hg;split at h
     ·rename_i hcond;obtain⟨hof,hu,hall⟩:=hcond;rw[Sb c hc.nat] at h;cases hx:Rs c ((AQ [k] bs).set k Blk.dead++[Blk.row 0 .deep u ys]) (args.set j (a0.Ts bs.length)) some with
      | none=>rw[hx] at h;cases h
      | some e0 =>
       rw[hx] at h;simp only[AwW] at h;split at h
       ·cases h
       ·rename_i hmk;split at h
        ·rename_i e1 u' zs' hn0;split at h
         ·rename_i zs hcast;split at h
          ·rename_i x' hset;injection h with h;subst h;obtain⟨ec,hec⟩:=Bb hcast;injection ec with ec;have ec:=ec.symm;subst ec;simp only at hec;subst hec;obtain⟨hlen,_,hcall⟩:=YE hc hx;have hkl:=AE hb;have hlb:((AQ [k] bs).set k Blk.dead++[Blk.row 0 .deep u ys]).length=bs.length+1:=by simp[Au]
           rw[hlb] at hlen;have hmk':k∉e0.mods:=by simpa using hmk
           refine⟨by simp only[Aw5,Au];omega,λhm=>by simp at hm,λw g vs H hargs o a next Q hn=>?_⟩
           obtain⟨_,Ahn,hG⟩:=Xt hix;rw[Nat.sub_zero] at Ahn;obtain⟨v,hvj,oW⟩:=d9 hargs Ahn;obtain⟨pl1,pl2,pl3,pl4⟩:=lQ hG bs.length;obtain⟨cs,hcs,hval⟩:=Ba pl1 pl2 oW;obtain⟨_,h0,hi,b,v',hba,hown,hcell⟩:=Vi hcs hG;obtain⟨g1,H1,st1,lu,hput,_⟩:=Sf H hb hi hg hof hu hba hcell hset;have hnot:∀a∈args.set j (a0.Ts bs.length),∀q∈a.ids,[k].contains q=false:=λa ha q hq=>by
            have:=List.all_eq_true.1 hall a ha;simp only[Bool.not_eq_true',List.contains_eq_mem,decide_eq_false_iff_not] at this;simp only[List.contains_eq_mem,List.mem_singleton,decide_eq_false_iff_not];intro e;subst e;exact this hq
           have hjl:=AE Ahn;have AqB:Bg w g1 (bs.length+1) (a0.Ts bs.length) v:=by
            obtain⟨cs1,hcs1,hv1⟩:=Ba rfl rfl lu;have e1:cs1=[v']:=hv1;subst e1;exact A7 pl3 (aX st1 hba hcell hcs1 hcs hG (hnot _ (List.mem_of_getElem? (i:=j) (by rw[List.getElem?_set_self hjl])))) (by rw[pl4];exact hval)
           have Ahf:B9 w g1 (bs.length+1) (args.set j (a0.Ts bs.length)) vs:=YB hargs hvj AqB λa ha v h=>by
            obtain⟨q,hq⟩:=List.getElem?_of_mem ha;rcases NK hq with ⟨rfl,rfl⟩| ⟨hne,hq'⟩
            ·exact M9
            ·have:=h.step st1 (Nat.le_succ _);rwa [K2 (hnot a (List.mem_of_getElem? (i:=q) (by rw[List.getElem?_set_ne (Ne.symm hne)];exact hq')))] at this
           refine hcall w g1 vs H1 (by rw[hlb];exact Ahf) o a next Q λv2 w2 g2 H2 hv2 st2=>?_
           rw[hlb] at st2;have hkn:k≠bs.length:=by omega
           let N:=e0.blks.length
           have Y0:(((AQ [k,bs.length] e0.blks).set bs.length Blk.dead).set k (.row ek .deep t (xs.set i.toNat x'))).length=N:=by simp[Au,N]
           have stA:Step [bs.length,k] N w2 g2 w2 (g2.VA bs.length k (O0 p [i.toNat])):=jw;have AdL:Step [k,bs.length] N w2 g2 w2 (g2.VA bs.length k (O0 p [i.toNat])):=stA.weaken (λq hq=>by simp at hq ⊢;exact hq.symm) (Aw2 _);have zP:JX w2 (g2.VA bs.length k (O0 p [i.toNat])) N k (.row ek .deep t (xs.set i.toNat x')):=by
            refine hput w2 g2 N e1 (λb q hb=>st2.lab b k q hb (by omega) hmk') (λj hj=>st2.at_ j (by omega)) (H2.blk bs.length _ hn0)
           refine hn v2 w2 (g2.VA bs.length k (O0 p [i.toNat])) ?_ ?_ ?_
           ·refine H2.turn AdL (λb hb=>by simp[G.VA,H2.fresh b hb]) (by rw[Y0];exact Aw2 _) λj' y hj'=>?_;rw[Y0];rcases NK hj' with ⟨rfl,rfl⟩| ⟨hne,hj'⟩
            ·exact .inr (.inr zP)
            ·rcases NK hj' with ⟨rfl,rfl⟩| ⟨hne2,hj'⟩
             ·exact .inl rfl
             ·obtain⟨y',hy',rfl⟩:=CY hj';exact .inr (.inl ⟨by simp only[List.mem_cons,List.not_mem_nil,or_false,not_or];exact⟨hne,hne2⟩,y',hy',rfl⟩)
           ·rw[Y0];exact hv2.step AdL (Aw2 _)
           ·refine⟨st2.os.trans st1.os,st2.tape.trans st1.tape,st2.output.trans st1.output,st2.size,λb hb h=>?_,λb h=>?_,λb j' q h hj' hm=>?_,λj' hj'=>?_⟩
            ·have h1:=st1.no b hb h;have h2:=st2.no b hb h1.1;exact⟨by simp[G.VA,h2.1],h2.2⟩
            ·have h1:=st1.Gr b h;have h2:=st2.Gr b h1.1;exact⟨by simp[G.VA,h2.1],h2.2⟩
            ·simp only[List.mem_append,List.mem_singleton,not_or] at hm;have h1:=st1.lab b j' q h hj' (by simpa using hm.2);have h2:=st2.lab b j' q h1.1 (by omega) hm.1;exact⟨V7 h2.1 (by omega),h2.2⟩
            ·show g2.at_ j'=_;rw[st2.at_ j' (by omega),st1.at_ j' hj']
          ·cases h
         ·cases h
        ·cases h
     ·cases h
    ·cases h
   ·cases h
  ·cases h
end Go.Va
namespace Go.Va
section
variable {w:World} {g:G} {n:Nat}
def G.thaw(g:G)(Z:List Nat):G:=⟨λb=>match g.own b with | .lab k r=>if k∈Z then .Gr else .lab k r | t=>t,g.at_⟩
theorem aA{Z:List Nat}{b:Nat}(h:g.own b=.Gr):(g.thaw Z).own b=.Gr:=by simp[G.thaw,h]
theorem Ox{Z:List Nat}{b k:Nat}{r:List Nat}(h:g.own b=.lab k r)(hk:k∉Z):(g.thaw Z).own b=.lab k r:=by simp[G.thaw,h,hk]
theorem Al.Ow{Z ks:List Nat}{b:Nat}(h:Al g.own ks b):Al (g.thaw Z).own (ks.filter λk=>!decide (k∈Z)) b:=by
 rcases h with h | ⟨k,hk,r,h⟩
 ·exact .inl (aA h)
 ·by_cases hz:k∈Z
  ·exact .inl (by simp[G.thaw,h,hz])
  ·exact .inr ⟨k,by simp[hk,hz],r,Ox h hz⟩
theorem Al.zA{Z ks:List Nat}{b:Nat}(h:Al g.own ks b):Al (g.thaw Z).own ks b:=h.Ow.mono λk hk=>(List.mem_filter.1 hk).1
theorem rZ(a:AV):a.TF.Cp=a.Cp:=by cases a<;>rfl
theorem Zj(a:AV):a.TF.K9=true\/a.TF.isAgg=a.isAgg:=by cases a<;>first | exact .inl rfl | exact .inr rfl
theorem Aaq{a:AV}(h:a.K9=true):a.TF.K9=true:=by cases a<;>simp_all [AV.K9,AV.TF]
theorem BA.Ow(Z:List Nat):∀(a:AV) (m:Bool) {cs:List Value},BA w g n m a cs->BA w (g.thaw Z) n m a.TF cs
 | .dat ks t x,false,cs,⟨hk,r⟩=>⟨hk,r.mono λb a=>⟨a.zA,rfl⟩⟩
 | .zs,false,_,h=>h
 | .ref _,false,_,h=>h
 | .QS _ _,false,_,h=>h
 | .mp _,false,_,h=>h
 | .ptr _ _ _ _,false,_,h=>h
 | .rop ks t x,false,cs,⟨hk,b,off,ds,e,ha,r,hc⟩=>⟨hk,b,off,ds,e,ha.zA,r.mono λb a=>⟨a.zA,rfl⟩,hc⟩
 | .JH,false,_,h=>h
 | .Oz _ _ _ _ _,false,_,⟨_,_,_,_,_,_,_,e,h1,_⟩=>by subst e;exact⟨rfl,by intro u hu;simp at hu;subst hu;exact h1⟩
 | .P4 _ _ _ _ _ _,false,_,⟨_,_,_,_,_,_,_,_,_,e,_⟩=>by subst e;exact⟨rfl,by intro u hu;simp at hu;subst hu;rfl⟩
 | .pr a b,false,_,⟨c,e,he,h1,h2⟩=>⟨c,e,he,BA.Ow Z a false h1,BA.Ow Z b false h2⟩
 | .fn f c,false,_,⟨vs,e,hx⟩=>⟨vs,e,BA.Ow Z c true hx⟩
 | .un k,false,_,h=>h
 | .cons a b,true,_,⟨v,r,e,h1,h2⟩=>by
  refine⟨v,r,e,?_,BA.Ow Z b true h2⟩;rcases Zj a with hd | hd
  ·exact .inl hd
  ·exact h1.imp Aaq λ⟨cs,hx,hv⟩=>⟨cs,BA.Ow Z a false hx,by rw[hd];exact hv⟩
 | .nil,true,_,h=>h
 | .cons _ _,false,_,h=>h.elim
 | .nil,false,_,h=>h.elim
 | .Oz _ _ _ _ _,true,_,h=>h.elim
 | .P4 _ _ _ _ _ _,true,_,h=>h.elim
 | .dat _ _ _,true,_,h=>h.elim
 | .zs,true,_,h=>h.elim
 | .ref _,true,_,h=>h.elim
 | .QS _ _,true,_,h=>h.elim
 | .mp _,true,_,h=>h.elim
 | .ptr _ _ _ _,true,_,h=>h.elim
 | .rop _ _ _,true,_,h=>h.elim
 | .JH,true,_,h=>h.elim
 | .pr _ _,true,_,h=>h.elim
 | .fn _ _,true,_,h=>h.elim
 | .un _,true,_,h=>h.elim
theorem Bg.Ow(Z:List Nat){a:AV}{v:Value}(h:Bg w g n a v):Bg w (g.thaw Z) n a.TF v:=by
 cases ht:a.Cp with
 | false =>
  rw[Bg.iff ht] at h;rw[Bg.iff (by rw[rZ];exact ht)];rcases Zj a with hd | hd
  ·exact .inl hd
  ·exact h.imp Aaq λ⟨cs,h,hv⟩=>⟨cs,BA.Ow Z a false h,by rw[hd];exact hv⟩
 | true =>
  cases a with
  | cons a b=>obtain⟨vs,e,h⟩:=h;exact⟨vs,e,BA.Ow Z (.cons a b) true h⟩
  | nil=>exact h
  | _=>cases ht
theorem JX.Ow{Z:List Nat}{k:Nat}(hk:k∉Z){b:Blk}(h:JX w g n k b):JX w (g.thaw Z) n k b.TF:=by
 cases b with
 | dead=>trivial
 | map m kt vt es st =>
  obtain⟨Nb,b,arr,clock,ha,ho,hh,hnd,hm⟩:=h;refine⟨Nb,b,arr,clock,ha,Ox ho hk,hh,hnd,hm.on λi x c r=>?_⟩;cases m with
  | deep=>exact Hv.mono (λb q hb=>⟨Ox hb hk,rfl⟩) r
  | sh ks=>exact FL.mono (λb a=>⟨a.zA,rfl⟩) r
 | hole e t xs i p =>
  obtain⟨h1,h2,h3,h4,h5,u,o,x0,b,cur,ds,q1,q2,q3,ha,ho,hh,c1,c2,c3,c4,hc⟩:=h;exact⟨h1,h2,h3,h4,h5,u,o,x0,b,cur,ds,q1,q2,q3,ha,Ox ho hk,hh,c1,c2,c3,c4,hc.mono λi x c r=>r.mono λb q hb=>⟨Ox hb hk,rfl⟩⟩
 | box a =>
  obtain⟨h1,b,cs,e,ha,ho,hh,hx⟩:=h;exact⟨h1,b,cs,e,ha,Ox ho hk,hh,BA.Ow Z a false hx⟩
 | row e m t xs =>
  obtain⟨Nb,hlen,hes,hpos,hr⟩:=h;refine⟨Nb,hlen,hes,hpos,hr.imp id λ⟨b,cur,ds,ha,ho,hh,h1,h2,h3,h4,hc⟩=>⟨b,cur,ds,ha,Ox ho hk,hh,h1,h2,h3,h4,?_⟩⟩;cases m with
  | deep=>exact hc.mono λi x c r=>r.mono λb q hb=>⟨Ox hb hk,rfl⟩
  | sh ks=>exact hc.mono λx c r=>r.mono λb a=>⟨a.zA,rfl⟩
theorem gJ{bs:List Blk}(H:Heap w g bs)(Z:List Nat):Heap w (g.thaw Z) ((Blk.kill bs Z).map Blk.TF):=by
 refine⟨λb hb=>by simp[G.thaw,H.fresh b hb],λk x hx=>?_⟩;rw[List.getElem?_map] at hx;cases hq:(Blk.kill bs Z)[k]? with
 | none=>rw[hq] at hx;cases hx
 | some y =>
  rw[hq] at hx;injection hx with hx;subst hx;rw[Aw8,AX];rcases La hq with rfl | ⟨hn,h⟩
  ·trivial
  ·exact(H.blk k y h).Ow hn
theorem Qn:∀a:AV,a.UV=false->a.TF=a
 | .pr a b,h=>by
  simp only[AV.UV,Bool.or_eq_false_iff] at h;simp[AV.TF,Qn a h.1,Qn b h.2]
 | .cons a b,h=>by
  simp only[AV.UV,Bool.or_eq_false_iff] at h;simp[AV.TF,Qn a h.1,Qn b h.2]
 | .fn f c,h=>by simp[AV.TF,Qn c h]
 | .dat _ _ _,_=>rfl
 | .zs,_=>rfl
 | .ref _,_=>rfl
 | .QS _ _,_=>rfl
 | .mp _,_=>rfl
 | .ptr _ _ _ _,_=>rfl
 | .rop _ _ _,_=>rfl
 | .JH,_=>rfl
 | .nil,_=>rfl
 | .Oz _ _ _ _ _,h=>by cases h
 | .P4 _ _ _ _ _ _,h=>by cases h
 | .un _,_=>rfl
theorem zI{b:Blk}(h:b.UV=false):b.TF=b:=by
 cases b with
 | box a=>simp[Blk.TF,Qn a h]
 | _=>rfl
theorem rD{bs:List Blk}(H:Heap w g bs)(hn:bs.all (λb=>!b.UV)=true)(Z:List Nat):Heap w (g.thaw Z) (Blk.kill bs Z):=by
 have:=gJ H Z;rwa [List.map_congr_left (g:=id) (λb hb=>?_),List.map_id] at this;obtain⟨j,hj⟩:=List.getElem?_of_mem hb;rcases La hj with h | ⟨_,h⟩
 ·subst h;rfl
 ·have:=List.all_eq_true.1 hn b (List.mem_of_getElem? h);exact zI (by simpa using this)
theorem iy:∀(Z:List Nat) (a b:List Blk),(∀k∈Z,a.length<=k)->∃l,Blk.kill (a++b) Z=a++l
 | [],a,b,_=>⟨b,rfl⟩
 | k::Z,a,b,h=>by
  have hk:=h k (by simp);simp only[Blk.kill];rw[List.set_append_right _ _ hk];exact iy Z a _ λj hj=>h j (by simp[hj])
end
end Go.Va
namespace Go.Va
section
variable {w:World} {g:G} {n:Nat} {v:Value}
theorem nY{k l:Nat}(h:Bg w g n (.QS k l) v):k<n/\v=.slice (g.at_ k).a l l:=by
 obtain⟨cs,⟨hk,e⟩,hv⟩:=Ba rfl rfl h;subst e;exact⟨hk,by simpa [A3,AV.isAgg] using hv.symm⟩
theorem Ahv{k l:Nat}(hk:k<n):Bg w g n (.QS k l) (.slice (g.at_ k).a l l):=A7 rfl (cs:=[_]) ⟨hk,rfl⟩ (by simp[A3,AV.isAgg])
theorem rF{a:AV}(h:a.pq=true)(hv:Bg w g n a v):BA w g n false a [v]/\v.cells=#[v]:=by
 unfold AV.pq at h;split at h
 ·obtain⟨cs,hx,hv⟩:=Ba rfl rfl hv;have e:cs=[v]:=by simpa [A3,AV.isAgg] using hv
  subst e;obtain⟨_,_,_,b,_,e⟩:=hx;exact⟨⟨‹_›,‹_›,‹_›,b,‹_›,e⟩,by injection e with e;subst e;rfl⟩
 ·obtain⟨cs,hx,hv⟩:=Ba rfl rfl hv;have e:cs=[v]:=by simpa [A3,AV.isAgg] using hv
  subst e;obtain⟨hk,b,off,ds,e,hr⟩:=hx;exact⟨⟨hk,b,off,ds,e,hr⟩,by injection e with e;subst e;rfl⟩
 ·cases h
theorem AaF:∀{l:List AV} {vs:List Value},(∀a∈l,a.pq=true)->B9 w g n l vs->BA w g n false (prs l) vs/\∀v∈vs,v.cells=#[v]
 | [],[],_,_=>⟨⟨λk h=>(by cases h),rfl⟩,λv h=>(by cases h)⟩
 | a::l,v::vs,h,⟨h1,h2⟩=>by
  obtain⟨hx,hc⟩:=rF (h a (by simp)) h1;obtain⟨hy,hd⟩:=AaF (λb hb=>h b (by simp[hb])) h2;exact⟨⟨[v],vs,rfl,hx,hy⟩,λu hu=>by rcases List.mem_cons.1 hu with rfl | hu;exact hc;exact hd u hu⟩
 | [],_::_,_,h=>h.elim
 | _::_,[],_,h=>h.elim
end
section
variable {w:World} {g:G} {bs:List Blk} {m:Nat}
theorem Ac9{a b:AV}{f:Nat}(h:a.T9 f=some b):a.isAgg=true:=by
 cases a with
 | dat ks t x =>
  cases t<;>first | rfl | (cases f<;>simp[AV.T9,Ql] at h)
 | pr _ _=>rfl
 | _=>cases f<;>simp[AV.T9] at h
theorem kN (H:Heap w g bs) {c:Co} {a a':AV} {nb:List Blk} (h:qP bs c a=some (a',nb)) {cs:List Value} (hx:BA w g bs.length false a cs) :
    ∃g',Heap w g' (bs++nb)/\BA w g' (bs++nb).length false a' cs/\a'.isAgg=a.isAgg/\Step [] bs.length w g w g':=by
 have stay:∀a':AV,BA w g bs.length false a' cs->a'.isAgg=a.isAgg->∃g',Heap w g' (bs++[])/\BA w g' (bs++[]).length false a' cs/\a'.isAgg=a.isAgg/\Step [] bs.length w g w g':=λa' h1 h2=>⟨g,by rw[List.append_nil];exact H,by rw[List.append_nil];exact h1,h2,Step.refl _ _ _ _⟩;cases c with
 | dat t =>
  simp only[qP] at h;split at h
  ·rename_i x hr;simp only[AwY,Aw9] at h;obtain⟨rfl,rfl⟩:=h;have:=MI H t a x cs hr hx;exact stay _ ⟨this.2,this.1⟩ (Tt hr).symm
  ·cases h
 | deps ks =>
  simp only[qP] at h;split at h
  ·rename_i l t x;split at h
   ·rename_i hc;simp only[AwY,Aw9] at h;obtain⟨rfl,rfl⟩:=h;rw[Aw3,Bool.or_eq_true] at hc;have hks:∀k∈ks,k<bs.length:=λk hk=>by have:=List.all_eq_true.1 hc.2 k hk;simpa using this
    refine stay _ ⟨hks,Aen hx.2 λhf b hb=>?_⟩ rfl;rcases hc.1 with h | h
    ·rw[h] at hf;cases hf
    ·exact hb.mono λk hk=>by have:=List.all_eq_true.1 h k hk;simpa using this
   ·cases h
  ·cases h
 | row p e t deep =>
  simp only[qP] at h;split at h
  ·rename_i hz;split at h
   ·rename_i hrow;split at h
    ·rename_i b hb;simp only[AwY,Aw9] at h;obtain⟨rfl,rfl⟩:=h;obtain⟨_,hpos⟩:=XC hrow;obtain⟨c0,c1,c2,e1,ho,⟨ad,hc1⟩,_⟩:=Nx p a cs .zs hx hz
     let g':=g.upd (λj r=>.lab j r) none bs.length ⟨ad,0,0,t.size⟩
     have st:Step [] bs.length w g w g':=Step.upd H.fresh rfl rfl rfl (Aw2 _) (λ_ _ _=>rfl) (λq h=>by cases h) (Aw2 _) λ_ _ _ _=>rfl;have hat:g'.at_ bs.length=⟨ad,0,0,t.size⟩:=by simp[g',G.upd]
     have hx':=hx.step0 st (Nat.le_succ bs.length);obtain⟨d0,d1,d2,e2,ho2,⟨ad',hd1⟩,hset⟩:=Nx p a cs .zs hx' hz;have hlen:c0.length=d0.length:=by rw[ho] at ho2;injection ho2
     have had:ad=ad':=by
      have h1:cs[c0.length]?=some (.slice ad 0 0):=by
       rw[e1,hc1,Aw4,List.getElem?_append_right (Aw2 _),Nat.sub_self];rfl
      have h2:cs[d0.length]?=some (.slice ad' 0 0):=by
       rw[e2,hd1,Aw4,List.getElem?_append_right (Aw2 _),Nat.sub_self];rfl
      rw[hlen,h2] at h1;injection h1 with h1;injection h1 with h1;exact h1.symm
     have hnew:=hset (.ref bs.length) b d1 hb ⟨Nat.lt_succ_self _,by rw[hat,hd1,had]⟩;rw[<-e2] at hnew;have Nf:(if(t.flat||deep)=true then RM.deep else RM.sh []).ids=[]:=by split<;>rfl
     refine⟨g',H.push st (Nn H.fresh (Aw2 _) λq h=>by cases h) ⟨(by rw[Nf];intro j hj;cases hj),by rw[hat];rfl,by rw[hat],hpos,.inl ⟨rfl,by rw[hat]⟩⟩,by rw[Aw0];exact hnew,?_,st⟩;cases p with
     | nil =>
      simp only[AV.P1,AwY] at hz;simp only[AV.Tz,AwY] at hb;subst hz;subst hb;rfl
     | cons f p =>
      simp only[AV.P1] at hz;split at hz
      ·rename_i q hq;simp only[AV.Tz,hq] at hb;split at hb
       ·rw[Tx hb,Ac9 hq]
       ·cases hb
      ·cases hz
    ·cases h
   ·cases h
  ·simp only[AwY,Aw9] at h;obtain⟨rfl,rfl⟩:=h;exact stay _ hx rfl
theorem V9{k:Nat}{c:Co}{bs bs':List Blk}(h:coB k c bs=some bs'):bs.length<=bs'.length:=by
 unfold coB at h;split at h
 ·split at h
  ·injection h with h;subst h;simp
  ·cases h
 ·cases h
theorem yY(H:Heap w g bs){k:Nat}{c:Co}{bs':List Blk}(h:coB k c bs=some bs'):∃g',Heap w g' bs'/\Step [] bs.length w g w g':=by
 unfold coB at h;split at h
 ·rename_i a0 hb;split at h
  ·rename_i a' nb hco;injection h with h;subst h;obtain⟨hlen,bb,cs,e,ha,ho,hh,hx⟩:=H.blk k _ hb;obtain⟨g',h1,h2,h3,h4⟩:=kN H hco hx;have hk:=AE hb;have hll:(bs.set k (.box a')++nb).length=(bs++nb).length:=by simp
   refine⟨g',⟨h1.fresh,λj x hj=>?_⟩,h4⟩;rw[hll];rw[List.getElem?_append] at hj;split at hj
   ·rename_i hjl;rw[Aw5] at hjl;rw[List.getElem?_set] at hj;split at hj
    ·rename_i ek;subst ek;injection hj with hj;subst hj;have hl:=h4.lab bb k [] ho hk (by simp);exact⟨by rw[h4.at_ k hk];exact hlen,bb,cs,e,by rw[h4.at_ k hk];exact ha,hl.1,hh,h2⟩
    ·exact h1.blk j x (by rw[List.getElem?_append_left hjl];exact hj)
   ·rename_i hjl;rw[Aw5] at hjl hj;exact h1.blk j x (by rw[List.getElem?_append_right (by omega)];exact hj)
  ·cases h
 ·cases h
theorem oL:∀{l:List (Nat×Co)} {bs bs':List Blk} {g:G},Z9 l bs=some bs'->Heap w g bs->bs.length<=bs'.length/\∃g',Heap w g' bs'/\Step [] bs.length w g w g'
 | [],bs,bs',g,h,H=>by
  simp only[Z9,AwY] at h;subst h;exact⟨Aw2 _,g,H,Step.refl _ _ _ _⟩
 | (k,c)::r,bs,bs',g,h,H=>by
  simp only[Z9] at h;split at h
  ·rename_i b1 h1;obtain⟨g1,H1,s1⟩:=yY H h1;obtain⟨hl,g2,H2,s2⟩:=oL h H1;exact⟨Nat.le_trans (V9 h1) hl,g2,H2,s1.trans s2 (V9 h1)⟩
  ·cases h
theorem gB:∀{l:List (Nat×Co)} {bs bs':List Blk},Z9 l bs=some bs'->bs.length<=bs'.length
 | [],bs,bs',h=>by simp only[Z9,AwY] at h;subst h;exact Aw2 _
 | (k,c)::r,bs,bs',h=>by
  simp only[Z9] at h;split at h
  ·rename_i b1 h1;exact Nat.le_trans (V9 h1) (gB h)
  ·cases h
theorem iP:∀{l:List (Nat×List (List Nat)×Co)} {args:List AV} {bs bs':List Blk},preB l args bs=some bs'->∃l',Z9 l' bs=some bs'
 | [],args,bs,bs',h=>⟨[],h⟩
 | (j,q,c)::r,args,bs,bs',h=>by
  simp only[preB] at h;split at h
  ·split at h
   ·rename_i k _;split at h
    ·rename_i b1 h1;obtain⟨l',h2⟩:=iP h;exact⟨(k,c)::l',by simp only[Z9,h1];exact h2⟩
    ·cases h
   ·cases h
  ·cases h
end
theorem YU:∀(ps:List (Nat×Value)) (pre post:List Value),post.length=ps.length->ps.map (·.1)=List.range' pre.length ps.length->(∀p∈ps,p.2.cells=#[p.2]) ->
    Instr.fill (λi=>some (i*1,1)) (pre++post).toArray ps=some (pre++ps.map (·.2)).toArray
 | [],pre,post,hl,_,_=>by
  have:post=[]:=List.eq_nil_of_length_eq_zero hl;subst this;simp[Instr.fill]
 | (i,v)::ps,pre,q::post,hl,hr,hc=>by
  have hc1:v.cells=#[v]:=hc (i,v) (by simp);simp only[List.map_cons,List.length_cons,List.range'_succ,List.cons.injEq] at hr;obtain⟨rfl,hr⟩:=hr;have ih:=YU ps (pre++[v]) post (by simpa using hl) (by simpa using hr) (λp hp=>hc p (by simp[hp]));unfold Instr.fill;simp only[hc1];have e:(Array.zipIdx #[v]).foldl (λcs (x:Value×Nat)=>cs.setIfInBounds (pre.length*1+x.2) x.1) (pre++q::post).toArray=(pre++[v]++post).toArray:=by
   simp
  rw[e,ih];simp
 | _::_,_,[],hl,_,_=>by simp at hl
section
variable {P:Program} {σ:St} {o:Oper} {en:Env} {e:Eff}
theorem mF{c:Call}(ho:o.op=.call c)(hc:c.callee=.builtin .len){k n:Nat}(hx:Nv σ c.args=[.QS k n]){t:TypeId}{r:List TypeId}(hts:c.argTypes.toList=t::r){ti:TI}(ht:Eg P t ti)(hs:ti.Ea=true):Lj P σ o ⟨.int .i64 (n:Int),σ.blks,[]⟩:=by
 obtain⟨a0,ha,hx⟩:=args1 hx;refine .He <| JI (s:=λρ=>Builtin.len_ c.argTypes o.type #[ρ a0]) (λρ=>?_) λa w g hst=>?_
 ·rw[J0 ho hc,ha];simp[builtin]
 ·have h0:=AB hst a0;rw[hx] at h0;obtain⟨hk,e⟩:=nY h0;rw[e];have hts:c.argTypes[0]?=some t:=by rw[<-Axa,hts];rfl
  exact Bl (by simp[Builtin.len_,hts,underlying,Bc ht hs,goInt])
theorem sU{c:Call}(ho:o.op=.call c)(hc:c.callee=.builtin .cap)(hx:Nv σ c.args=[.zs]){t:TypeId}{r:List TypeId}(hts:c.argTypes.toList=t::r){ti:TI}(ht:Eg P t ti)(hs:ti.Ea=true):Lj P σ o ⟨.int .i64 0,σ.blks,[]⟩:=by
 obtain⟨a0,ha,hx0⟩:=args1 hx;refine .He <| JI (s:=λρ=>Builtin.cap_ c.argTypes o.type #[ρ a0]) (λρ=>?_) λa w g hst=>?_
 ·rw[J0 ho hc,ha];simp[builtin]
 ·have QK:=AB hst a0;rw[hx0] at QK;obtain⟨ad,hv⟩:=Rp QK;have h0:c.argTypes[0]?=some t:=by rw[<-Axa,hts];rfl
  exact Bl (by rw[hv];simp[Builtin.cap_,h0,underlying,Bc ht hs,goInt])
theorem mD {t:TypeId} {x i:Operand} (ho:o.op=.indexAddr t x i) {ti te:TI} (ht:Eg P t ti) (hte:Eg P ti.elem te) (hs:ti.Ea=true) (hsz:te.ty.size=1) {k n:Nat} (hx:σ.Bw x=.QS k n) {ks:List Nat} {kk:IntKind} {j:Int} (hi:σ.Bw i=.dat ks (.int kk) j)
    (h0:0<=j) (h1:j<(n:Int)) {b:AV} (hb:σ.blks[k]?=some (.box b)):Lj P σ o ⟨.ptr k 0 [j.toNat] j.toNat,σ.blks,[]⟩ :=
 .He <| JI (s:=λρ=>Instr.indexAt t (ρ x) (ρ i)) (λρ=>by simp[execOp,ho]) λa w g hst=>by
  have hix:=AB hst i;rw[hi] at hix;have hie:=Cu hix;have QK:=AB hst x;rw[hx] at QK;obtain⟨hk,e⟩:=nY QK;have hu:=Bc ht hs;obtain⟨hl,bb,cs,el,ha,_⟩:=hst.heap.blk k _ hb;rw[hie,e,ha];refine⟨.pointer (some ⟨bb,(0:Int).toNat*(g.at_ k).YS+j.toNat,none⟩),?_,Tq hk (Int.le_refl _) (by rw[hl];decide) ha⟩;simp[Instr.indexAt,asIntOf,underlying,hu,h0,h1,CW hte,hsz,addN]
end
end Go.Va
