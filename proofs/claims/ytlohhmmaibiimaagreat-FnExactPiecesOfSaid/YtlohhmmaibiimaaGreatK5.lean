import Derived.Test.YtlohhmmaibiimaaGreatK4
set_option linter.unusedVariables false
set_option linter.unusedSimpArgs false
namespace Go.Va
structure EnvOk (P:Program) (en:Env):Prop where
 tab:V0 P en.tab=true
 fns:∀g c,en.fns g=some c->An P g c
theorem EnvOk.nat{P:Program}{en:Env}(h:EnvOk P en):Rh en:=λg c hc=>(h.fns g c hc).nat
section
variable {P:Program} {σ:St} {o:Oper} {en:Env} {e:Eff}
theorem EnvOk.t(he:EnvOk P en){t:Nat}{ti:TI}(h:en.tab.get t=some ti):Eg P t ti:=Eg.of he.tab h
theorem YA{w:World}{g:G}{a:Act}(hs:Ik w g σ a):∀(l:List Operand),B9 w g σ.blks.length (l.map σ.Bw) (l.map a.eval)
 | []=>trivial
 | x::l=>⟨AB hs x,YA hs l⟩
theorem Yz{w:World}{g:G}{n:Nat}:∀{l k:List AV} {xs ys:List Value},B9 w g n l xs->B9 w g n k ys->B9 w g n (l++k) (xs++ys)
 | [],_,[],_,_,h=>h
 | _::_,_,_::_,_,h1,h2=>⟨h1.1,Yz h1.2 h2⟩
 | [],_,_::_,_,h,_=>h.elim
 | _::_,_,[],_,h,_=>h.elim
theorem Ad7{w:World}{g:G}{n:Nat}:∀{a:AV} {vs:List Value},BA w g n true a vs->B9 w g n (oD a) vs
 | .cons a b,_,⟨v,r,e,h1,h2⟩=>by
  subst e;refine⟨?_,Ad7 h2⟩;have ht:a.Cp=false:=by
   rcases h1 with h | ⟨cs,h,_⟩
   ·cases a<;>first | rfl | simp[AV.K9] at h
   ·exact RJ h
  exact(Bg.iff ht).2 h1
 | .nil,_,h=>by cases h;trivial
 | .Oz _ _ _ _ _,_,h=>h.elim
 | .P4 _ _ _ _ _ _,_,h=>h.elim
 | .dat _ _ _,_,h=>h.elim
 | .zs,_,h=>h.elim
 | .ref _,_,h=>h.elim
 | .QS _ _,_,h=>h.elim
 | .mp _,_,h=>h.elim
 | .ptr _ _ _ _,_,h=>h.elim
 | .rop _ _ _,_,h=>h.elim
 | .JH,_,h=>h.elim
 | .pr _ _,_,h=>h.elim
 | .fn _ _,_,h=>h.elim
 | .un _,_,h=>h.elim
theorem AaW(he:EnvOk P en){c:Call}(ho:o.op=.call c){fo:Operand}(hc:c.callee=.value fo){g0:Nat}{caps:AV}(hf:σ.Bw fo=.fn g0 caps){ca:Callee}(hg:en.fns g0=some ca)(h:WH ca σ.blks (Nv σ c.args++oD caps) some=some e):Lj P σ o e:=by
 obtain⟨h1,h2,h3⟩:=qK (he.fns _ _ hg) h;refine⟨h1,h2,λa w g hs next Q hn=>?_⟩
 have hv:=AB hs fo;rw[hf] at hv;obtain⟨cs,⟨vs,e1,hx⟩,hcs⟩:=Ba rfl rfl hv;have e2:a.eval fo=.func (.func g0) #[] vs.toArray:=by
  subst e1;simpa [A3,AV.isAgg] using hcs.symm
 have hr:(execOp a.eval o).run P w=(callFunc g0 (c.args.toList.map a.eval++vs).toArray).run P w:=by
  have:(c.args.toList.map a.eval++vs).toArray=#[]++c.args.map a.eval++vs.toArray:=by
   apply Array.toList_inj.1;simp
  rw[this];simp[execOp,ho,resolve,hc,e2,Deferred.ofValue,invoke]
 unfold Oper.wp;rw[hr];exact h3 w g _ hs.heap (Yz (YA hs _) (Ad7 hx)) o a next Q hn
theorem YM(he:EnvOk P en){ti:TI}(u:Ty)(h:(match en.tab.get ti.elem with | some te=>if ti.Ea=true then some te.ty else none | none=>none)=some u):ti.Ea=true/\∃tie,tie.ty=u/\Eg P ti.elem tie:=by
 split at h
 ·rename_i te hte;split at h
  ·rename_i hsl;injection h with h;exact⟨hsl,te,h,he.t hte⟩
  ·cases h
 ·cases h
theorem AaY {t:TypeId} {x i:Operand} (ho:o.op=.indexAddr t x i) {ti te:TI} (ht:Eg P t ti) (hte:Eg P ti.elem te) (hsl:ti.Ea=true) {k:Nat} {i0:Int} {p:List Nat} {f e0:Nat} (hx:σ.Bw x=.Oz k i0 p f e0) {ks:List Nat} {kk:IntKind} {j:Int} (hi:σ.Bw i=.dat ks (.int kk) j)
    {ek:Nat} {tr:Ty} {xs:List tr.V} (hb:σ.blks[k]?=some (.row ek .deep tr xs)) {ys:List te.ty.V} (hg:W7 (.sl te.ty) p tr (xs.getD i0.toNat tr.zero)=some ys) {x':tr.V} (hs:N0 (.sl te.ty) [] p tr (xs.getD i0.toNat tr.zero)=some x')
    (hu:te.ty.size≠0) (hof:I1 tr p=some f) (hj:0<=j/\j<(ys.length:Int)):Lj P σ o ⟨.P4 k i0 p f j te.ty,σ.blks,[]⟩ :=
 .He <| JI (s:=λρ=>Instr.indexAt t (ρ x) (ρ i)) (λρ=>by simp[execOp,ho]) λa w g hst=>by
  have QK:=AB hst x;rw[hx] at QK;have hii:=AB hst i;rw[hi] at hii;have hii:=Cu hii;obtain⟨cs,⟨hk,h0,h1,b,v,hba,hown,e1,e2,hcell⟩,hval⟩:=Ba rfl rfl QK;subst e1;have hv:a.eval x=v:=by
   have:[v]=[a.eval x]:=hval;injection this with h _;exact h.symm
  obtain⟨g1,H1,st1,lu,_,_⟩:=Sf hst.heap hb h1 hg hof hu hba hcell hs;obtain⟨_,hvs⟩:=HC lu;obtain⟨_,hlen1,Aqo,_,hr1⟩:=H1.blk σ.blks.length (.row 0 .deep te.ty ys) (by rw[List.getElem?_append_right (by simp[Au])];simp[Au]);have hlt:j.toNat<ys.length:=RX hj;rcases hr1 with ⟨hx0,_⟩| ⟨b',cur,ds,ha,_⟩
  ·subst hx0;simp at hlt
  ·rw[ha,hlen1] at hvs;have hun:=Bc ht hsl;refine⟨.pointer (some ⟨b',j.toNat*te.ty.size,none⟩),?_,A7 (cs:=[_]) rfl ⟨hk,h0,h1,b,b',_,_,hba,hown,rfl,⟨hj.1,hlt⟩,by rw[hcell,hvs]⟩ (by simp[A3,AV.isAgg])⟩;rw[hv,hii,hvs];simp[Instr.indexAt,asIntOf,underlying,hun,hj.1,hj.2,CW hte,addN]
theorem XJ{t:TypeId}{x i:Operand}(ho:o.op=.indexAddr t x i){ti te:TI}(ht:Eg P t ti)(hte:Eg P ti.elem te)(hsl:ti.Ea=true){z:AV}(h:gV σ.blks te.ty (σ.Bw x) (σ.Bw i) some=some z):Lj P σ o ⟨z,σ.blks,[]⟩:=by
 unfold gV at h;split at h
 ·rename_i k i0 p f e0 ks kk j hx hi;split at h
  ·rename_i ek tr xs hb;split at h
   ·rename_i ys x' hg hs;split at h
    ·rename_i hc;split at h
     ·rename_i hj;injection h with h;subst h;exact AaY ho ht hte hsl hx hi hb hg hs hc.1 hc.2 hj
     ·cases h
    ·cases h
   ·cases h
  ·cases h
 ·exact Yj ho ht hte hsl h
theorem US(he:EnvOk P en)(h:Ni en σ o some=some e):Lj P σ o e:=by
 unfold Ni at h
 dsimp only at h
 split at h
 ·rename_i x ho;injection h with h;subst h;exact jf (.inl ho)
 ·rename_i x ho;injection h with h;subst h;exact jf (.inr ho)
 ·rename_i c a b ho;split at h
  ·rename_i ks t hc;have:=Aa5 (P:=P) ho hc;cases t
   ·injection h with h;subst h;exact this
   ·injection h with h;subst h;exact this
  ·cases h
 ·rename_i el ho;split at h
  ·rename_i ti ht;injection h with h;subst h;exact sP ho (he.t ht)
  ·cases h
 ·rename_i el x ho;split at h
  ·rename_i ht;injection h with h;subst h;exact AdF ho ht
  ·cases h
 ·rename_i t parts ho;split at h
  ·rename_i ti ht;split at h
   ·cases h
   ·rename_i hof;split at h
    ·rename_i v hv;injection h with h;subst h;exact sS ho (he.t ht) (λe=>hof (by rw[e];rfl)) hv
    ·cases h
  ·cases h
 ·rename_i t len parts ho;split at h
  ·rename_i ti ht;split at h
   ·rename_i te hte;split at h
    ·rename_i m xs rs hp;split at h
     ·rename_i hc;obtain⟨h1,h2⟩:=XI ho (he.t ht) (he.t hte) hp hc;split at h
      ·rename_i h0;injection h with h;subst h;exact h1 h0
      ·rename_i h0;injection h with h;subst h;exact h2 h0
     ·cases h
    ·cases h
   ·cases h
  ·cases h
 ·rename_i t x ho;split at h
  ·rename_i ti ht;split at h
   ·split at h
    ·rename_i hsl;exact tC ho (he.t ht) hsl h
    ·cases h
   ·obtain⟨z,hz,rfl⟩:=Ra (f:=λR K=>SS σ.blks ti (σ.Bw x) K) (λR K=>Y8 ..) (g:=λv=>⟨v,σ.blks,[]⟩) h;exact AaZ ho (he.t ht) hz
  ·cases h
 ·rename_i t r ho;split at h
  ·rename_i ti ht;split at h
   ·cases h
   ·rename_i hr;split at h
    ·rename_i tk te htk hte;split at h
     ·injection h with h;subst h;have:r=none:=by cases r<;>simp_all
      subst this;exact je ho (Pf _ _)
     ·cases h
    ·cases h
  ·cases h
 ·rename_i t m x ok ho;split at h
  ·rename_i ti ht;split at h
   ·rename_i tk te htk hte;split at h
    ·rename_i hc;split at h
     ·split at h
      ·cases h
      ·rename_i hok;have:ok=false:=by simpa using hok
       subst this;exact sZ ho (he.t ht) hc.1 (he.t hte) hc.2.1 (λhk=>XY.of he.tab (he.t htk) hk hc.2.2) h
     ·obtain⟨z,hz,rfl⟩:=Ra (f:=λR K=>VO σ.blks tk te ok (σ.Bw m) (σ.Bw x) K) (λR K=>Y9 ..) (g:=λv=>⟨v,σ.blks,[]⟩) h;exact Aa0 ho (he.t ht) hc.1 (he.t hte) hc.2.1 (λhk=>XY.of he.tab (he.t htk) hk hc.2.2) hz
    ·cases h
   ·cases h
  ·cases h
 ·rename_i t m x v ho;split at h
  ·rename_i ti ht;split at h
   ·rename_i tk te htk hte;split at h
    ·rename_i hc;exact AdK (.inl ho) (he.t ht) hc.1 (λhk=>XY.of he.tab (he.t htk) hk hc.2.2) h
    ·cases h
   ·cases h
  ·cases h
 ·rename_i t m x ho;split at h
  ·rename_i ti ht;split at h
   ·rename_i tk te htk hte;split at h
    ·rename_i hc;exact AdH ho (he.t ht) hc.1 (he.t hte) (λhk=>XY.of he.tab (he.t htk) hk hc.2) h
    ·cases h
   ·cases h
  ·cases h
 ·rename_i t m x v ho;split at h
  ·rename_i ti ht;split at h
   ·rename_i tk te htk hte;split at h
    ·rename_i hc;exact AaX ho (he.t ht) hc.1 (λhk=>XY.of he.tab (he.t htk) hk hc.2) h
    ·cases h
   ·cases h
  ·cases h
 ·rename_i t x v ho;split at h
  ·rename_i ti ht;exact tF ho (he.t ht) h
  ·cases h
 ·rename_i x ho;split at h
  ·rename_i k i p q hx;injection h with h;subst h;rw[<-hx];exact Uu ho λw g n v hv=>by rw[hx] at hv;exact aT hv
  ·rename_i ks t y hx;injection h with h;subst h;rw[<-hx];exact Uu ho λw g n v hv=>by rw[hx] at hv;exact aU hv
  ·cases h
 ·rename_i op t x y yt ho;split at h
  ·rename_i z hz;injection h with h;subst h;exact AdI he.tab ho hz
  obtain⟨z,hz,rfl⟩:=Ra (f:=λR K=>ZR op (match en.tab.get t with | some ti=>ti.ty==.bool | none=>false) (σ.Bw x) (σ.Bw y) K) (λR K=>eB ..) (g:=λv=>⟨v,σ.blks,[]⟩) h
  refine sQ ho (λhb=>?_) hz;split at hb
  ·rename_i ti ht;exact kK (he.t ht) (by simpa using hb)
  ·cases hb
 ·rename_i op t x ho;obtain⟨z,hz,rfl⟩:=Ra (f:=λR K=>unA op (σ.Bw x) K) (λR K=>ql ..) (g:=λv=>⟨v,σ.blks,[]⟩) h;exact Aa6 ho hz
 ·rename_i s t x ho;split at h
  ·rename_i ts ti hts ht;obtain⟨z,hz,rfl⟩:=Ra (f:=λR K=>TU σ.blks (match en.tab.get ts.elem with | some te=>if ts.Ea=true then some te.ty else none | none=>none) ti.ty (σ.Bw x) K) (λR K=>YG ..) (g:=λv=>⟨v,σ.blks,[]⟩) h
   exact jc ho (he.t hts) (he.t ht) (YM he) hz
  ·cases h
 ·rename_i fn first caps ho
  split at h
  ·split at h
   ·rename_i h0;injection h with h;subst h;exact bL ho h0
   ·cases h
  ·cases h
 ·rename_i t l c ho;split at h
  ·rename_i ti ht;split at h
   ·rename_i te hte;split at h
    ·rename_i hsl;exact Aa1 ho (he.t ht) (he.t hte) hsl h
    ·cases h
   ·cases h
  ·cases h
 ·rename_i t x lo hi mx ho;split at h
  ·rename_i d ti hd ht;split at h
   ·split at h
    ·split at h
     ·rename_i hsl;split at h
      ·rename_i te hte;exact AdG ho (he.t ht) hsl (he.t hte) h
      ·cases h
     ·cases h
    ·cases h
   ·obtain⟨z,hz,rfl⟩:=Ra (f:=λR K=>QT σ.blks ti (match en.tab.get ti.elem with | some te=>if ti.Ea=true then some te.ty else none | none=>none) (σ.Bw x) (lo.map σ.Bw) (hi.map σ.Bw) (mx.map σ.Bw) K) (λR K=>XH ..) (g:=λv=>⟨v,σ.blks,[]⟩) h
    exact tu ho (he.t ht) (YM he) hz
  ·cases h
 ·rename_i t x f ho;split at h
  ·rename_i ti ht;obtain⟨z,hz,rfl⟩:=Ra (f:=λR K=>X2 ti f (σ.Bw x) K) (λR K=>gG ..) (g:=λv=>⟨v,σ.blks,[]⟩) h;exact Yi ho (he.t ht) hz
  ·cases h
 ·rename_i t x i ho;split at h
  ·rename_i ti ht;split at h
   ·rename_i te hte;split at h
    ·rename_i hsl;obtain⟨z,hz,rfl⟩:=Ra (f:=λR K=>gV σ.blks te.ty (σ.Bw x) (σ.Bw i) K) (λR K=>gW ..) (g:=λv=>⟨v,σ.blks,[]⟩) h;exact XJ ho (he.t ht) (he.t hte) hsl hz
    ·cases h
   ·cases h
  ·cases h
 ·rename_i t x i ho;split at h
  ·rename_i ti ht;split at h
   ·rename_i hs;obtain⟨z,hz,rfl⟩:=Ra (f:=λR K=>ZV (σ.Bw x) (σ.Bw i) K) (λR K=>fD ..) (g:=λv=>⟨v,σ.blks,[]⟩) h;exact sW ho (he.t ht) hs hz
   ·cases h
  ·cases h
 ·rename_i x i ho;split at h
  ·rename_i v hv;split at h
   ·cases h
   ·rename_i ht;injection h with h;subst h;exact jd ho hv (by simpa using ht)
  ·cases h
 ·rename_i c ho;unfold Qj at h;split at h
  ·rename_i hc;split at h
   ·rename_i x t r hx hts;split at h
    ·rename_i ti ht;obtain⟨z,hz,rfl⟩:=Ra (f:=λR K=>aO σ.blks ti x K) (λR K=>iB ..) (g:=λv=>⟨v,σ.blks,[]⟩) h;exact AdJ ho hc hx hts (he.t ht) hz
    ·cases h
   ·cases h
  ·rename_i hc;split at h
   ·rename_i x y hx;obtain⟨z,hz,rfl⟩:=Ra (f:=λR K=>uq false x y K) (λR K=>Wg ..) (g:=λv=>⟨v,σ.blks,[]⟩) h;exact Aa2 (mx:=false) ho hc hx hz
   ·cases h
  ·rename_i hc;split at h
   ·rename_i x y hx;obtain⟨z,hz,rfl⟩:=Ra (f:=λR K=>uq true x y K) (λR K=>Wg ..) (g:=λv=>⟨v,σ.blks,[]⟩) h;exact Aa2 (mx:=true) ho hc hx hz
   ·cases h
  ·rename_i hc;split at h
   ·rename_i x y t tx hx hts;split at h
    ·rename_i ti Yq ht htx;split at h
     ·rename_i te hte;split at h
      ·rename_i hk;rw[Aw3] at hk;exact mq ho hc hx hts (he.t ht) (he.t hte) hk.1 (he.t htx) hk.2 h
      ·split at h
       ·rename_i hk;rw[Aw3] at hk;exact iZ ho hc hx hts (he.t ht) (he.t hte) hk.1 (he.t htx) hk.2 h
       ·cases h
     ·cases h
    ·cases h
   ·cases h
  ·cases h
  ·rename_i fo hc;split at h
   ·rename_i g0 caps hf;split at h
    ·rename_i ca hg;exact AaW he ho hc hf hg h
    ·cases h
   ·cases h
  ·cases h
 ·cases h
theorem zB{e':Eff}{t:Ty}(h:Lj P σ o e)(hf:Adb σ.blks.length t e=some e'):Lj P σ o e':=by
 unfold Adb at hf;split at hf
 ·rename_i x hr;split at hf
  ·rename_i hN;injection hf with hf;subst hf;have hZ:∀k∈(e.val.lend e.blks).filter (λk=>!decide (k<σ.blks.length)),σ.blks.length<=k:=λk hk=>by
    have:=(List.mem_filter.1 hk).2;simpa using this
   refine⟨by rw[AX];exact h.grow,λhm=>?_,λa w g hs next Q hn=>h.wp a w g hs next Q λv w' g' H hv st=>?_⟩
   ·obtain⟨l,hl⟩:=h.ext hm;simp only;generalize (e.val.lend e.blks).filter (λk=>!decide (k<σ.blks.length))=Z at hZ;rw[hl];exact iy Z _ _ hZ
   ·generalize hZe:(e.val.lend e.blks).filter (λk=>!decide (k<σ.blks.length))=Z at hZ hn;refine hn v w' (g'.thaw Z) (rD H hN Z) ?_ ⟨st.os,st.tape,st.output,st.size,λb hb h=>?_,λb h=>?_,λb k p h hk hm=>?_,λk hk=>st.at_ k hk⟩
    ·rw[AX];obtain⟨h1,h2⟩:=P5 hr;obtain⟨cs,hcs,hv⟩:=Ba h1 h2 hv;obtain⟨hrd,hlt⟩:=MI H t e.val x cs hr hcs;refine A7 (a:=.dat _ t x) rfl ⟨λk hk=>hlt k (List.mem_filter.1 hk).1,hrd.mono λb a=>⟨a.Ow.mono λk hk=>?_,rfl⟩⟩ (by rw[show(AV.dat _ t x).isAgg=e.val.isAgg from(Tt hr).symm];exact hv);subst hZe;simp only[List.mem_filter,Bool.not_eq_true',decide_eq_false_iff_not,decide_eq_true_eq] at hk ⊢;refine⟨hk.1,?_⟩;rcases Aw7 k σ.blks.length with h | h
     ·exact h
     ·exact absurd ⟨hk.1,by omega⟩ hk.2
    ·have:=st.no b hb h;exact⟨by simp[G.thaw,this.1],this.2⟩
    ·have:=st.Gr b h;exact⟨aA this.1,this.2⟩
    ·have:=st.lab b k p h hk hm;exact⟨Ox this.1 λhz=>by have:=hZ k hz;omega,this.2⟩
  ·cases hf
 ·cases hf
def G.sH(g:G)(k:Nat):G:=⟨λb=>match g.own b with | .lab j r=>if j=k/\r≠[] then .Gr else .lab j r | t=>t,g.at_⟩
theorem Hv.rdS{w:World}{own:Nat->Tag}{k:Nat}{A:Nat->Prop}(h:∀b q,q≠[]->own b=.lab k q->A b):∀{t:Ty} {L:List Nat} {x:t.V} {cs:List Value},L≠[]->Hv w own k t L x cs->FL w A t x cs
 | .int _,_,_,_,_,r=>r
 | .bool,_,_,_,_,r=>r
 | .str,_,_,_,_,r=>r
 | .unit,_,_,_,_,r=>r
 | .pair _ _,_,_,_,_,⟨c,d,e,r1,r2⟩=>⟨c,d,e,Hv.rdS h (by simp) r1,Hv.rdS h (by simp) r2⟩
 | .sl t,L,xs,cs,hL,⟨ad,cap,e,r⟩=>by
  rcases r with ⟨hx,hcap⟩| ⟨b,e1,cur,ds,ha,ho,hh,h1,h2,h3,h4,hc⟩
  ·subst hx;exact⟨ad,cap,[],e,by simp,rfl,.inl rfl⟩
  ·refine⟨ad,cap,ds,e,h1,hc.toR λi x c r=>Hv.rdS h (by simp) r,.inr ⟨b,0,ha,h b L hL ho,λj q hq=>?_⟩⟩;rw[Ov hh,Nat.zero_add,<-Axa];subst h4;rw[List.getElem?_take] at hq;split at hq
   ·exact hq
   ·cases hq
 | .opq _,_,_,_,_,r=>r.elim
theorem sJ{e':Eff}(h:Lj P σ o e)(hf:pW σ.blks.length e=some e'):Lj P σ o e':=by
 unfold pW at hf;split at hf
 ·rename_i k hval;split at hf
  ·rename_i hk;split at hf
   ·rename_i el t xs hb;injection hf with hf;subst hf;refine⟨by simpa using h.grow,λhm=>?_,λa w g hs next Q hn=>h.wp a w g hs next Q λv w' g' H hv st=>?_⟩
    ·obtain⟨l,hl⟩:=h.ext hm;simp only;rw[hl,List.set_append_right _ _ hk];exact⟨_,rfl⟩
    ·have hal:∀{ks:List Nat} {b:Nat},Al g'.own ks b->Al (g'.sH k).own ks b:=λ{ks b} ha=>by
       rcases ha with ha | ⟨j,hj,r,ha⟩
       ·exact .inl (by simp[G.sH,ha])
       ·by_cases hc:j=k/\r≠[]
        ·exact .inl (by simp[G.sH,ha,hc])
        ·exact .inr ⟨j,hj,r,by simp only[G.sH,ha,if_neg hc]⟩
     have hroot:∀{b j:Nat},g'.own b=.lab j []->(g'.sH k).own b=.lab j []:=λ{b j} h=>by simp[G.sH,h]
     have oW:∀(a:AV) (m:Bool) {cs:List Value},BA w' g' e.blks.length m a cs->BA w' (g'.sH k) e.blks.length m a cs:=by
      intro a;induction a with
      | dat ks t x=>intro m cs hx;cases m with
       | false=>exact⟨hx.1,hx.2.mono λb a=>⟨hal a,rfl⟩⟩
       | true=>exact hx.elim
      | rop ks t x=>intro m cs hx;cases m with
       | false =>
        obtain⟨hk,b,off,ds,e,ha,r,hc⟩:=hx;exact⟨hk,b,off,ds,e,hal ha,r.mono λb a=>⟨hal a,rfl⟩,hc⟩
       | true=>exact hx.elim
      | Oz k i p o e=>intro m cs hx;cases m with
       | false =>
        obtain⟨hk,h0,h1,b,v,ha,ho,e1,e2,hc⟩:=hx;exact⟨hk,h0,h1,b,v,ha,hroot ho,e1,e2,hc⟩
       | true=>exact hx.elim
      | P4 k i p o j u=>intro m cs hx;cases m with
       | false =>
        obtain⟨hk,h0,h1,b,b',l,c,ha,ho,e1,e2,hc⟩:=hx;exact⟨hk,h0,h1,b,b',l,c,ha,hroot ho,e1,e2,hc⟩
       | true=>exact hx.elim
      | pr a b iha ihb=>intro m cs hx;cases m with
       | false =>
        obtain⟨c,d,e,h1,h2⟩:=hx;exact⟨c,d,e,iha false h1,ihb false h2⟩
       | true=>exact hx.elim
      | fn f c ih=>intro m cs hx;cases m with
       | false =>
        obtain⟨vs,e,hx⟩:=hx;exact⟨vs,e,ih true hx⟩
       | true=>exact hx.elim
      | cons a b iha ihb=>intro m cs hx;cases m with
       | true =>
        obtain⟨v,r,e,h1,h2⟩:=hx;exact⟨v,r,e,h1.imp id λ⟨cs,hx,hv⟩=>⟨cs,iha false hx,hv⟩,ihb true h2⟩
       | false=>exact hx.elim
      | _=>intro m cs hx;cases m<;>exact hx
     refine hn v w' (g'.sH k) ⟨λb hb=>by simp[G.sH,H.fresh b hb],λj x hx=>?_⟩ ?_ ⟨st.os,st.tape,st.output,st.size,λb hb h=>?_,λb h=>?_,λb j p h hj hm=>?_,λj hj=>st.at_ j hj⟩
     ·rw[Aw5];rw[List.getElem?_set] at hx;split at hx
      ·rename_i ek;subst ek;split at hx
       ·injection hx with hx;subst hx;obtain⟨Nb,hlen,hes,hpos,hr⟩:=H.blk k _ hb;refine⟨λj hj=>(by cases hj),hlen,hes,hpos,hr.imp id λ⟨b,cur,ds,ha,ho,hh,h1,h2,h3,h4,hc⟩=>⟨b,cur,ds,ha,hroot ho,hh,h1,h2,h3,h4,?_⟩⟩;exact hc.toR λi x c r=>Hv.rdS (λb q hq hb=>.inl (by simp[G.sH,hb,hq])) (by simp) r
       ·cases hx
      ·rename_i hne;have hB:=H.blk j x hx;cases x with
       | dead=>trivial
       | map m kt vt es st =>
        obtain⟨Nb,b,arr,clock,ha,ho,hh,hnd,hm⟩:=hB;refine⟨Nb,b,arr,clock,ha,hroot ho,hh,hnd,hm.on λi x c r=>?_⟩;cases m with
        | deep =>
         refine Hv.mono (λb q hb=>⟨?_,rfl⟩) r;have:¬(j=k/\q++[i]≠[]):=λhq=>hne hq.1.symm;show(match g'.own b with | .lab j r=>if j=k/\r≠[] then Tag.Gr else .lab j r | t=>t)=_
         rw[hb];exact if_neg this
        | sh ks=>exact FL.mono (λb a=>⟨hal a,rfl⟩) r
       | hole e2 t xs i p =>
        obtain⟨h1,h2,h3,h4,h5,u,o,x0,b,cur,ds,q1,q2,q3,ha,ho,hh,c1,c2,c3,c4,hc⟩:=hB;refine⟨h1,h2,h3,h4,h5,u,o,x0,b,cur,ds,q1,q2,q3,ha,hroot ho,hh,c1,c2,c3,c4,hc.mono λi x c r=>r.mono λb q hb=>⟨?_,rfl⟩⟩;have:¬(j=k/\q++[i]≠[]):=λhq=>hne hq.1.symm;show(match g'.own b with | .lab j r=>if j=k/\r≠[] then Tag.Gr else .lab j r | t=>t)=_
        rw[hb];exact if_neg this
       | box a =>
        obtain⟨h1,b,cs,e,ha,ho,hh,hx⟩:=hB;exact⟨h1,b,cs,e,ha,hroot ho,hh,oW a false hx⟩
       | row e2 m t xs =>
        obtain⟨Nb,hlen,hes,hpos,hr⟩:=hB;refine⟨Nb,hlen,hes,hpos,hr.imp id λ⟨b,cur,ds,ha,ho,hh,h1,h2,h3,h4,hc⟩=>⟨b,cur,ds,ha,hroot ho,hh,h1,h2,h3,h4,?_⟩⟩;cases m with
        | deep =>
         refine hc.mono λi x c r=>r.mono λb q hb=>⟨?_,rfl⟩;have:¬(j=k/\q++[i]≠[]):=λhq=>hne hq.1.symm;show(match g'.own b with | .lab j r=>if j=k/\r≠[] then Tag.Gr else .lab j r | t=>t)=_
         rw[hb];exact if_neg this
        | sh ks=>exact hc.mono λx c r=>r.mono λb a=>⟨hal a,rfl⟩
     ·rw[Aw5];rw[hval] at hv;obtain⟨hk1,hv1⟩:=HC hv;rw[hv1];exact A7 (cs:=[_]) rfl ⟨hk1,rfl⟩ rfl
     ·have:=st.no b hb h;exact⟨by simp[G.sH,this.1],this.2⟩
     ·have:=st.Gr b h;exact⟨by simp[G.sH,this.1],this.2⟩
     ·have:=st.lab b j p h hj hm;have hne:¬(j=k/\p≠[]):=λhq=>by have:=hq.1;omega
      exact⟨by simp only[G.sH,this.1,if_neg hne],this.2⟩
   ·cases hf
  ·cases hf
 ·cases hf
theorem Aa3{t:TypeId}{x:Operand}(ho:o.op=.load t x){ti:TI}(ht:Eg P t ti)(hsl:ti.Ea=true){k:Nat}{i:Int}{p:List Nat}{f e0:Nat}(hx:σ.Bw x=.ptr k i p f){el:Nat}{tr:Ty}{xs:List tr.V}(hb:σ.blks[k]?=some (.row el .deep tr xs)){v:AV}(hat:atP σ.blks k i p f=some v)(hsz:v.size=1):Lj P σ o ⟨.Oz k i p f e0,σ.blks,[]⟩ :=
 .He <| JI (s:=λρ=>Instr.loadAt t (ρ x)) (λρ=>by simp[execOp,ho]) λa w g hst=>by
  have QK:=AB hst x;rw[hx] at QK;obtain⟨hk,h0,h1,b,hba,hpe⟩:=IJ QK;obtain⟨Nb,hlen,hes,hpos,hr⟩:=hst.heap.blk k _ hb;obtain⟨cs,hcx,hcell⟩:=P9 hst.heap hat h1 hba;have hone:ti.ty.size=1/\ti.ty.isAgg=false:=by
   unfold TI.Ea at hsl;split at hsl
   ·rename_i u hu;rw[hu];exact⟨rfl,rfl⟩
   ·cases hsl
  have hl:cs.length=ti.ty.size:=by rw[hcx.len,hsz,hone.1]
  obtain⟨v1,hv1,hsv⟩:=NU (w:=w) ht hl hcell (λhg=>by rw[hl];exact hone.1);rw[hone.2] at hsv;have hcs:cs=[v1]:=hsv;subst hcs;rcases hr with ⟨hx0,_⟩| ⟨b',cur,ds,ha,hown,_⟩
  ·rw[hlen,hx0] at h1;simp at h1
  ·rw[hba] at ha;injection ha with ha;injection ha with ha;subst ha;refine⟨v1,by rw[hpe];simp[Instr.loadAt,Instr.sureAddr,hv1],A7 (cs:=[v1]) rfl ⟨hk,h0,h1,b,v1,hba,hown,rfl,hcx.one v1 (by simp),?_⟩ rfl⟩;have:=hcell 0 v1 rfl;simpa using this
theorem pJ {w:World} {g:G} {n k:Nat} {i:Int} {p:List Nat} {e b:Nat} (hk:k<n) (h0:0<=i) (h1:i.toNat<(g.at_ k).len) (hba:(g.at_ k).a=some ⟨b,0,none⟩) (hown:g.own b=.lab k []) {A:Nat->Prop} :
    ∀{t:Ty} {x:t.V} {f o:Nat} {z:AV} {cs:List Value},Xr k i p e t x f o=some z->FL w A t x cs->(∀j u,cs[j]?=some u->w.cell? ⟨b,i.toNat*(g.at_ k).YS+o+j,none⟩=some u)->BA w g n false z cs/\z.isAgg=t.isAgg/\z.Cp=false
 | .unit,x,f,o,z,cs,h,hr,_=>by
  simp only[Xr,AwY] at h;subst h;exact⟨⟨λk hk=>(by cases hk),hr⟩,rfl,rfl⟩
 | .pair a c,x,f,o,z,cs,h,⟨c1,c2,ecs,r1,r2⟩,hc=>by
  simp only[Xr] at h;split at h
  ·rename_i r hrr;have hl1:=r1.len;obtain⟨ih,_,_⟩:=pJ hk h0 h1 hba hown hrr r2 (λj u hu=>by
    have:=hc (c1.length+j) u (by rw[ecs,List.getElem?_append_right (by omega)];rw[show c1.length+j-c1.length=j by omega];exact hu);rw[<-this];congr 2;omega)
   split at h
   ·rename_i hsl;injection h with h;subst h;obtain⟨ad,n0,cap,e1⟩:∃ad n0 cap,c1=[.slice ad n0 cap]:=by
     cases a with
     | sl u=>obtain⟨ad,cap,ds,e1,_⟩:=r1;exact⟨_,_,_,e1⟩
     | _=>cases hsl
    refine⟨⟨c1,c2,ecs,⟨hk,h0,h1,b,_,hba,hown,e1,rfl,?_⟩,ih⟩,rfl,rfl⟩;have:=hc 0 _ (by rw[ecs,e1];rfl);simpa using this
   ·split at h
    ·rename_i hf;injection h with h;subst h;exact⟨⟨c1,c2,ecs,⟨λk hk=>(by cases hk),(FL.flat hf).2 ((FL.flat hf).1 r1)⟩,ih⟩,rfl,rfl⟩
    ·cases h
  ·cases h
 | .int _,_,_,_,_,_,h,_,_=>by simp[Xr] at h
 | .bool,_,_,_,_,_,h,_,_=>by simp[Xr] at h
 | .str,_,_,_,_,_,h,_,_=>by simp[Xr] at h
 | .sl _,_,_,_,_,_,h,_,_=>by simp[Xr] at h
 | .opq _,_,_,_,_,_,h,_,_=>by simp[Xr] at h
theorem Aa4{t:TypeId}{x:Operand}(ho:o.op=.load t x){ti:TI}(ht:Eg P t ti){k:Nat}{i:Int}{p:List Nat}{f e0:Nat}(hx:σ.Bw x=.ptr k i p f){el:Nat}{tr:Ty}{xs:List tr.V}(hb:σ.blks[k]?=some (.row el .deep tr xs)){ks:List Nat}{t':Ty}{y:t'.V}(hat:atP σ.blks k i p f=some (.dat ks t' y))(hty:t'=ti.ty){z:AV}(hz:Xr k i p e0 t' y 0 f=some z):Lj P σ o ⟨z,σ.blks,[]⟩ :=
 .He <| JI (s:=λρ=>Instr.loadAt t (ρ x)) (λρ=>by simp[execOp,ho]) λa w g hst=>by
  subst hty;have QK:=AB hst x;rw[hx] at QK;obtain⟨hk,h0,h1,b,hba,hpe⟩:=IJ QK;obtain⟨Nb,hlen,hes,hpos,hr⟩:=hst.heap.blk k _ hb;obtain⟨cs,hcx,hcell⟩:=P9 hst.heap hat h1 hba;have hl:cs.length=ti.ty.size:=hcx.len;obtain⟨v1,hv1,hsv⟩:=NU (P:=P) (w:=w) ht hl hcell (λhg=>by rw[hl];exact Pk hg);rcases hr with ⟨hx0,_⟩| ⟨b',cur,ds,ha,hown,_⟩
  ·rw[hlen,hx0] at h1;simp at h1
  ·rw[hba] at ha;injection ha with ha;injection ha with ha;subst ha;obtain⟨h2,h3,h4⟩:=pJ hk h0 h1 hba hown hz hcx.2 hcell;exact⟨v1,by rw[hpe];simp[Instr.loadAt,Instr.sureAddr,hv1],A7 h4 h2 (by rw[h3];exact hsv)⟩
theorem sM(he:EnvOk P en)(h:Zx en σ o=some e):Lj P σ o e:=by
 unfold Zx at h;split at h
 ·rename_i t len parts ho;split at h
  ·rename_i ti ht;split at h
   ·rename_i te hte;split at h
    ·rename_i hc;injection h with h;subst h;obtain⟨hty,hsl,h0,hbig,hrg,hall⟩:=hc;have hu:=Bc (he.t ht) hsl;obtain⟨ie,z,hie,hsz,_,hz,hzc,_⟩:=(he.t hte).info;have hsz1:ie.size=1:=by rw[hsz,hty];rfl
     have hpl:parts.toList.length=len:=by
      have:=congrArg List.length hrg;simpa using this
     refine⟨by simp,λ_=>⟨_,rfl⟩,λa w g hs next Q hn=>?_⟩
     have hargs:∀(ps:List (Nat×Operand)),B9 w g σ.blks.length (ps.map λp=>σ.Bw p.2) (ps.map λp=>a.eval p.2):=by
      intro ps;induction ps with
      | nil=>trivial
      | cons p ps ih=>exact⟨AB hs p.2,ih⟩
     obtain⟨hx,hone⟩:=AaF (l:=parts.toList.map λp=>σ.Bw p.2) (by
      intro b hb;obtain⟨p,hp,rfl⟩:=List.mem_map.1 hb;have:=List.all_eq_true.1 hall (p.1,σ.Bw p.2) (List.mem_map.2 ⟨p,hp,rfl⟩);exact this) (hargs parts.toList)
     have hcells:∃l:List Value,(Array.range (len*ie.size)).map (z.cells[·%z.cells.size]!)=l.toArray/\l.length=len:=by
      exact⟨((Array.range (len*ie.size)).map (z.cells[·%z.cells.size]!)).toList,(Array.toArray_toList).symm,by simp[hsz1]⟩
     obtain⟨l0,hl0,AsG⟩:=hcells;have Xa:=YU (parts.toList.map λp=>(p.1,a.eval p.2)) [] l0 (by simpa using AsG.trans hpl.symm) (by
      have:parts.toList.map (·.1)=List.range len:=by simpa [Function.comp_def] using hrg
      simp only[List.map_map,Aw8,List.length_nil,hpl];rw[<-List.range_eq_range'];exact this) (by
      intro p hp;obtain⟨q,hq,rfl⟩:=List.mem_map.1 hp;exact hone _ (List.mem_map.2 ⟨q,hq,rfl⟩))
     have hr:(execOp a.eval o).run P w=.ok (.value (.slice (some ⟨w.heap.size,0,none⟩) len len)) (w.alloc (.cells (parts.toList.map λp=>a.eval p.2).toArray ti.elem)):=by
      have:=run_buildSlice (P:=P) w t ti.elem len (parts.map λ(i,x)=>(i,a.eval x)) (parts.toList.map λp=>a.eval p.2).toArray ie z hu hie hz (by rw[hsz1];omega) (by rw[hsz1];omega) (by
       rw[hl0,hsz1];simpa [List.map_map,Function.comp_def] using Xa)
      simp[execOp,ho,this]
     unfold Oper.wp;rw[hr];have st:=Step.add hs.heap (.cells (parts.toList.map λp=>a.eval p.2).toArray ti.elem) ⟨some ⟨w.heap.size,0,none⟩,1,1,0⟩;have hat:(g.add σ.blks.length w.heap.size ⟨some ⟨w.heap.size,0,none⟩,1,1,0⟩).at_ σ.blks.length=⟨some ⟨w.heap.size,0,none⟩,1,1,0⟩:=by simp[G.add]
     refine hn _ _ (g.add σ.blks.length w.heap.size ⟨some ⟨w.heap.size,0,none⟩,1,1,0⟩) (hs.heap.new ?_) ?_ st
     ·refine⟨by rw[hat],w.heap.size,(parts.toList.map λp=>a.eval p.2).toArray,ti.elem,by rw[hat],by simp[G.add],heap_alloc_new w _,?_⟩;have hx':BA w g σ.blks.length false (prs ((parts.toList.map λp=>(p.1,σ.Bw p.2)).map (·.2))) (parts.toList.map λp=>a.eval p.2):=by
       rw[List.map_map];exact hx
      exact hx'.step0 st (Nat.le_succ _)
     ·have:=Ahv (w:=w.alloc (.cells (parts.toList.map λp=>a.eval p.2).toArray ti.elem)) (g:=g.add σ.blks.length w.heap.size ⟨some ⟨w.heap.size,0,none⟩,1,1,0⟩) (n:=σ.blks.length+1) (k:=σ.blks.length) (l:=len) (Nat.lt_succ_self _);rw[hat] at this;simpa using this
    ·cases h
   ·cases h
  ·cases h
 ·cases h
theorem wB(he:EnvOk P en){v:AV}(h:Wt en σ o=some v):Lj P σ o ⟨v,σ.blks,[]⟩:=by
 unfold Wt at h;split at h
 ·rename_i t x ho;split at h
  ·cases h
  ·rename_i d hd;split at h
   ·rename_i e ti k i p f _ ht hxp;split at h
    ·rename_i el tr xs v0 hb hat;split at h
     ·rename_i hc;injection h with h;subst h;exact Aa3 ho (he.t ht) hc.1 hxp hb hat hc.2
     ·split at h
      ·rename_i ks t' y hat';split at h
       ·rename_i hty;exact Aa4 ho (he.t ht) hxp hb hat hty h
       ·cases h
      ·cases h
    ·cases h
   ·cases h
 ·rename_i t parts ho;split at h
  ·rename_i ti ht;split at h
   ·cases h
   ·rename_i hn;split at h
    ·rename_i te hte;split at h
     ·rename_i hty;exact bJ ho (he.t ht) (he.t hte) hn hty h
     ·cases h
    ·cases h
  ·cases h
 ·rename_i t x i ho;split at h
  ·rename_i ti ht;split at h
   ·cases h
   ·rename_i hn;split at h
    ·rename_i te hte;split at h
     ·rename_i ks kk j hi;split at h
      ·rename_i hj;split at h
       ·rename_i v' hv;split at h
        ·rename_i hsz;injection h with h;subst h;exact bK ho (he.t ht) (he.t hte) hn hi hj hv hsz
        ·cases h
       ·cases h
      ·cases h
     ·cases h
    ·cases h
  ·cases h
 ·rename_i c ho;split at h
  ·rename_i k n t r hc hx hts;split at h
   ·rename_i ti ht;split at h
    ·rename_i hs;injection h with h;subst h;exact mF ho hc hx hts (he.t ht) hs
    ·cases h
   ·cases h
  ·rename_i t r hc hx hts;split at h
   ·rename_i ti ht;split at h
    ·rename_i hs;injection h with h;subst h;exact sU ho hc hx hts (he.t ht) hs
    ·cases h
   ·cases h
  ·cases h
 ·rename_i t x i ho;split at h
  ·rename_i ti ht;split at h
   ·split at h
    ·rename_i te k n ks kk j hte hx hi;split at h
     ·rename_i hc;split at h
      ·rename_i b hb;injection h with h;subst h;exact mD ho (he.t ht) (he.t hte) hc.1 hc.2.1 hx hi hc.2.2.1 hc.2.2.2 hb
      ·cases h
     ·cases h
    ·cases h
   ·rename_i hn;split at h
    ·rename_i te hte;split at h
     ·rename_i ks kk j hi;split at h
      ·rename_i hj;exact Vp ho (he.t ht) (he.t hte) hn hi hj.1 hj.2 h
      ·cases h
     ·cases h
    ·cases h
  ·cases h
 ·cases h
theorem mG{t:TypeId}{x v:Operand}(ho:o.op=.store t x v){ti:TI}(ht:Eg P t ti){k:Nat}{i:Int}{p:List Nat}{f:Nat}{j:Int}{u:Ty}(hx:σ.Bw x=.P4 k i p f j u)(h:mU σ.blks ti k i p f j u (σ.Bw v)=some e):Lj P σ o e:=by
 unfold mU at h;split at h
 ·rename_i ek tr xs hb;split at h
  ·rename_i ys hg;split at h
   ·rename_i y htk;split at h
    ·rename_i y' hy';split at h
     ·rename_i x' hset;split at h
      ·rename_i hc;obtain⟨hty,hof,hu,AsX,AsO,hid⟩:=hc;injection h with h;subst h;have hkl:=AE hb;have hlb:((AQ [k] σ.blks).set k Blk.dead++[Blk.row 0 .deep u ys]).length=σ.blks.length+1:=by simp[Au]
       refine⟨by simp only[Aw5,Au,AX,hlb];omega,λhm=>by simp at hm,λa w g hst next Q hn=>?_⟩
       have QK:=AB hst x;rw[hx] at QK;obtain⟨cs,⟨hk,h0,h1,b,b',l,c,hba,hown,e1,hj0,hcell⟩,hval⟩:=Ba rfl rfl QK;subst e1;have hpv:a.eval x=.pointer (some ⟨b',j.toNat*u.size,none⟩):=by
        have:[Value.pointer (some ⟨b',j.toNat*u.size,none⟩)]=[a.eval x]:=hval;injection this with h _;exact h.symm
       obtain⟨g1,H1,st1,lu,hput,_⟩:=Sf hst.heap hb h1 hg hof hu hba hcell hset;have hN:((AQ [k] σ.blks).set k Blk.dead++[Blk.row 0 .deep u ys])[σ.blks.length]?=some (.row 0 .deep u ys):=by rw[List.getElem?_append_right (by simp[Au])];simp[Au]
       obtain⟨_,hvs⟩:=HC lu;injection hvs with ha1 hl1 _;obtain⟨_,hlen1,Aqo,_,_⟩:=H1.blk σ.blks.length (.row 0 .deep u ys) hN;have AsR:Bg w g1 (σ.blks.length+1) (.ptr σ.blks.length j [] 0) (.pointer (some ⟨b',j.toNat*u.size,none⟩)):=by
        have:=Tq (w:=w) (g:=g1) (n:=σ.blks.length+1) (p:=[]) (o:=0) (Nat.lt_succ_self σ.blks.length) hj0.1 (by rw[<-hl1];exact hj0.2) ha1.symm;rwa [Aqo,Nat.add_zero] at this
       have hv1:Bg w g1 (σ.blks.length+1) (σ.Bw v) (a.eval v):=by
        have:=(AB hst v).step st1 (Nat.le_succ _);rwa [K2 λq hq=>by
         simp only[List.contains_eq_mem,List.mem_singleton,decide_eq_false_iff_not];intro e;subst e;simp only[List.contains_eq_mem,decide_eq_false_iff_not] at hid;exact hid hq] at this
       obtain⟨w2,g2,hrun,H2,st2⟩:=RS (σ:=⟨[],(AQ [k] σ.blks).set k Blk.dead++[Blk.row 0 .deep u ys]⟩) H1 ht hN htk ⟨AsO,AsX,rfl,rfl⟩ hy' (by show Bg w g1 _ _ _;rw[hlb];exact AsR) (by show Bg w g1 _ _ _;rw[hlb];exact hv1);simp only at H2 st2;rw[hlb] at st2;have hmk':k∉[σ.blks.length]:=by simp;omega
       have hkn:k≠σ.blks.length:=by omega
       generalize hE:(Blk.kill (AQ [σ.blks.length] ((AQ [k] σ.blks).set k Blk.dead++[Blk.row 0 .deep u ys])) []).set σ.blks.length (.row 0 .deep u (ys.set j.toNat y'))=E at H2 hn;have hEl:E.length=σ.blks.length+1:=by rw[<-hE];simp[AX,Au]
       have hEN:E[σ.blks.length]?=some (.row 0 .deep u (ys.set j.toNat y')):=by rw[<-hE,List.getElem?_set_self (by simp[AX,Au])]
       have stA:Step [σ.blks.length,k] E.length w2 g2 w2 (g2.VA σ.blks.length k (O0 p [i.toNat])):=jw;have AdL:Step [k,σ.blks.length] E.length w2 g2 w2 (g2.VA σ.blks.length k (O0 p [i.toNat])):=stA.weaken (λq hq=>by simp at hq ⊢;exact hq.symm) (Aw2 _);have Y0:(((AQ [k,σ.blks.length] E).set σ.blks.length Blk.dead).set k (.row ek .deep tr (xs.set i.toNat x'))).length=E.length:=by simp[Au]
       have zP:JX w2 (g2.VA σ.blks.length k (O0 p [i.toNat])) E.length k (.row ek .deep tr (xs.set i.toNat x')) :=
        hput w2 g2 E.length 0 (λb q hb=>st2.lab b k q hb (by omega) hmk') (λj hj=>st2.at_ j (by omega)) (H2.blk σ.blks.length _ hEN)
       unfold Oper.wp;simp only[execOp,ho,hpv,Sem.run_bind,hrun,Result.andThen_ok];refine hn undef w2 (g2.VA σ.blks.length k (O0 p [i.toNat])) ?_ M9 ?_
       ·refine H2.turn AdL (λb hb=>by simp[G.VA,H2.fresh b hb]) (by rw[Y0];exact Aw2 _) λj' y hj'=>?_;rw[Y0];rcases NK hj' with ⟨rfl,rfl⟩| ⟨hne,hj'⟩
        ·exact .inr (.inr zP)
        ·rcases NK hj' with ⟨rfl,rfl⟩| ⟨hne2,hj'⟩
         ·exact .inl rfl
         ·obtain⟨y',hy',rfl⟩:=CY hj';exact .inr (.inl ⟨by simp only[List.mem_cons,List.not_mem_nil,or_false,not_or];exact⟨hne,hne2⟩,y',hy',rfl⟩)
       ·refine⟨st2.os.trans st1.os,st2.tape.trans st1.tape,st2.output.trans st1.output,st2.size,λb hb h=>?_,λb h=>?_,λb j' q h hj' hm=>?_,λj' hj'=>?_⟩
        ·have h1:=st1.no b hb h;have h2:=st2.no b hb h1.1;exact⟨by simp[G.VA,h2.1],h2.2⟩
        ·have h1:=st1.Gr b h;have h2:=st2.Gr b h1.1;exact⟨by simp[G.VA,h2.1],h2.2⟩
        ·simp only[List.mem_append,List.mem_singleton,not_or] at hm;have h1:=st1.lab b j' q h hj' (by simpa using hm.2);have h2:=st2.lab b j' q h1.1 (by omega) (by simpa using hm.1);exact⟨V7 h2.1 (by omega),h2.2⟩
        ·show g2.at_ j'=_;rw[st2.at_ j' (by omega),st1.at_ j' hj']
      ·cases h
     ·cases h
    ·cases h
   ·cases h
  ·cases h
 ·cases h
theorem Aav(he:EnvOk P en)(h:r9 en σ o=some e):Lj P σ o e:=by
 unfold r9 at h;split at h
 ·rename_i t x v ho;split at h
  ·rename_i ti k i p f j u ht hx;exact mG ho (he.t ht) hx h
  ·cases h
 ·cases h
theorem AaR(he:EnvOk P en)(h:bH en σ o=some e):Lj P σ o e:=by
 unfold bH at h;split at h
 ·rename_i e' hv;injection h with h;subst h;exact sM he hv
 ·exact Aav he h
theorem UR(he:EnvOk P en)(h:PE en σ o some=some e):Lj P σ o e:=by
 unfold PE at h;split at h
 ·rename_i v hv;injection h with h;subst h;exact wB he hv
 split at h
 ·rename_i e' hv;injection h with h;subst h;exact AaR he hv
 split at h
 ·cases hd:WY en o with
  | false=>rw[hd] at h;exact US he h
  | true =>
   rw[hd] at h;simp only[Axc] at h;rw[J1 en he.nat] at h;cases hx:Ni en σ o some with
   | none=>rw[hx] at h;cases h
   | some e0 =>
    rw[hx] at h;simp only[AwW] at h;split at h
    ·rename_i e' hf;injection h with h;subst h;exact sJ (US he hx) hf
    ·cases h
 ·rename_i t _;rw[J1 en he.nat] at h;cases hx:Ni en σ o some with
  | none=>rw[hx] at h;cases h
  | some e0 =>
   rw[hx] at h;simp only[AwW] at h;split at h
   ·rename_i e' hf;injection h with h;subst h;exact zB (US he hx) hf
   ·cases h
theorem NR(he:EnvOk P en)(h:exec en σ o some=some e):Lj P σ o e:=by
 unfold exec at h;split at h
 ·split at h
  ·split at h
   ·rename_i bs hp;rw[Qi en he.nat] at h;cases hx:PE en ⟨σ.slots,bs⟩ o some with
    | none=>rw[hx] at h;cases h
    | some e0 =>
     rw[hx,AwW] at h;split at h
     ·cases h
     ·rename_i hm;injection h with h;subst h;have hs:=UR he hx;obtain⟨l',hf⟩:=iP hp;have hl:=gB hf;refine⟨Nat.le_trans hl hs.grow,λhm0=>by rw[hm0] at hm;exact(hm rfl).elim,λa w g hst next Q hn=>?_⟩
      obtain⟨_,g',H',st⟩:=oL hf hst.heap;exact hs.wp a w g' ⟨H',hst.len,λi x hx=>(hst.slots i x hx).step0 st hl⟩ next Q λv w' g2 h1 h2 h3=>hn v w' g2 h1 h2 (st.trans h3 hl)
   ·cases h
  ·exact UR he h
 ·exact UR he h
end
end Go.Va
namespace Go.Va
def A2(m:Nat)(w:World)(g:G)(w':World)(g':G):Prop:=Step (List.range m) m w g w' g'
theorem A2.refl(m:Nat)(w:World)(g:G):A2 m w g w g:=Step.refl _ _ _ _
theorem Step.toC{mods:List Nat}{n m:Nat}{w w':World}{g g':G}(s:Step mods n w g w' g')(h:m<=n):A2 m w g w' g' :=
 ⟨s.os,s.tape,s.output,s.size,s.no,s.Gr,λ_ k _ _ hk hm=>(hm (List.mem_range.2 hk)).elim,λk hk=>s.at_ k (Nat.lt_of_lt_of_le hk h)⟩
theorem A2.trans{m:Nat}{w w1 w2:World}{g g1 g2:G}(s:A2 m w g w1 g1)(t:A2 m w1 g1 w2 g2):A2 m w g w2 g2:=by
 have h:=Step.trans s t (Aw2 _);exact⟨h.os,h.tape,h.output,h.size,h.no,h.Gr,λ_ k _ _ hk hm=>(hm (List.mem_range.2 hk)).elim,h.at_⟩
theorem AaP{l:List AV}{d:Nat}{x:AV}(h:l[d]?=some x):l.set d x=l:=by
 apply List.ext_getElem?;intro i;rw[List.getElem?_set];split
 ·rename_i he;subst he;split
  ·exact h.symm
  ·rename_i hl;rw[List.getElem?_eq_none (Nat.le_of_not_lt hl)]
 ·rfl
inductive Want (all:List Oper) (σ:St) (o:Oper):Bool->Prop where
 | plain (h:o.guard=none):Want all σ o true
 | guard {g:Nat} {want:Bool} {d:Nat} {b:Bool} (h:o.guard=some (g,want)) (hd:(all[g]?).bind (·.dst)=some d) (hb:σ.slots[d]?=some (.bool b)):Want all σ o (b==want)
 | nil {g:Nat} {want:Bool} {d:Nat} (h:o.guard=some (g,want)) (hd:(all[g]?).bind (·.dst)=some d) (hb:σ.slots[d]?=some .nil):Want all σ o false
theorem L9{R:Type}{all:List Oper}{σ:St}{o:Oper}{Kt Kf:St->Option R}{r:R}(h:QH all σ o Kt Kf=some r):(Want all σ o true/\Kt σ=some r)\/(Want all σ o false/\Kf σ=some r):=by
 unfold QH at h;split at h
 ·rename_i hg;exact .inl ⟨.plain hg,h⟩
 ·rename_i g want hg;split at h
  ·cases h
  ·rename_i d hd;split at h
   ·rename_i b hb;have e:({σ with slots:=σ.slots.set d (.bool b)}:St)=σ:=by
     have:=AaP hb;cases σ;simp only at this ⊢;rw[this]
    cases b
    ·simp only[Axb] at h;rw[e] at h;split at h
     ·rename_i hw;subst hw;exact .inr ⟨.guard hg hd hb,h⟩
     ·rename_i hw;have:want=false:=by simpa using hw
      subst this;exact .inl ⟨.guard hg hd hb,h⟩
    ·simp only[Axc] at h;rw[e] at h;split at h
     ·rename_i hw;subst hw;exact .inl ⟨.guard hg hd hb,h⟩
     ·rename_i hw;have:want=false:=by simpa using hw
      subst this;exact .inr ⟨.guard hg hd hb,h⟩
   ·rename_i hb;exact .inr ⟨.nil hg hd hb,h⟩
   ·cases h
theorem W8{R:Type}{all:List Oper}{σ:St}{o:Oper}{T:Type}{Kt Kf:St->Option R}{Kt' Kf':St->Option T}{K:T->Option R}(h1:∀σ,Kt σ=(Kt' σ).bind K)(h2:∀σ,Kf σ=(Kf' σ).bind K):QH all σ o Kt Kf=(QH all σ o Kt' Kf').bind K:=by
 unfold QH;split
 ·exact h1 _
 ·split
  ·rfl
  ·split
   ·rename_i b _;cases b<;>simp only[Axc,Axb]<;>split<;>first | exact h1 _ | exact h2 _
   ·exact h2 _
   ·rfl
section
variable {P:Program} {en:Env} {R:Type}
theorem gu(he:Rh en)(σ:St)(o:Oper){T:Type}{K:Eff->Option R}{K':Eff->Option T}{k:T->Option R}(h:∀e,K e=(K' e).bind k):exec en σ o K=(exec en σ o K').bind k:=by
 rw[NQ en he σ o K,NQ en he σ o K'];cases exec en σ o some with
 | none=>rfl
 | some e=>exact h e
theorem OE(he:Rh en)(all:List Oper):∀(is:List Nat) (σ:St) (K:St->Option R),Nh en all is σ K=(Nh en all is σ some).bind K
 | [],_,_=>rfl
 | i::is,σ,K=>by
  simp only[Nh];split
  ·rfl
  ·refine W8 (λσ=>?_) λσ=>OE he all is _ K;exact gu he σ _ λe=>OE he all is _ K
theorem OD(he:Rh en)(all:List Oper)(A:List (Nat×List Nat)):∀(is done K0:List Nat) (σ:St) (K:St->Option R),OS en all A is done K0 σ K=(OS en all A is done K0 σ some).bind K
 | [],_,_,_,_=>rfl
 | i::is,done,K0,σ,K=>by
  simp only[OS];split
  ·rfl
  ·split
   ·refine W8 (λσ=>?_) λσ=>OD he all A is _ _ _ K;refine gu he σ _ λe=>?_;split
    ·exact OD he all A is _ _ _ K
    ·split
     ·exact OD he all A is _ _ _ K
     ·rfl
   ·rfl
theorem sO{w:World}{g:G}{σ:St}{a:Act}(hs:Ik w g σ a){d:Nat}{b:Bool}(h:σ.slots[d]?=some (.bool b)):a.tmps[d]?=some (.bool b):=by
 have h1:=NP (hs.slots d _ h);have hl:d<a.tmps.size:=by rw[<-hs.len];exact AE h
 rw[Array.getElem?_eq_getElem hl];rw[Array.getD_eq_getD_getElem?,Array.getElem?_eq_getElem hl] at h1;exact congrArg some h1
theorem AaU{w:World}{g:G}{σ:St}{a:Act}(hs:Ik w g σ a){d:Nat}(h:σ.slots[d]?=some .nil):a.tmps[d]?=some (.tuple #[]):=by
 have h1:a.tmps.getD d undef=.tuple #[]:=hs.slots d _ h;have hl:d<a.tmps.size:=by rw[<-hs.len];exact AE h
 rw[Array.getElem?_eq_getElem hl];rw[Array.getD_eq_getD_getElem?,Array.getElem?_eq_getElem hl] at h1;exact congrArg some h1
theorem Ht{w:World}{g:G}{σ:St}{a:Act}{ops:Array Oper}{o:Oper}{t:Bool}(hs:Ik w g σ a)(h:Want ops.toList σ o t):Region.wanted o (yielded ops a.tmps)=t:=by
 cases h with
 | plain h=>simp[Region.wanted,h]
 | guard h hd hb =>
  have h1:=sO hs hb;rw[Axa] at hd;simp[Region.wanted,h,yielded,hd,h1]
 | nil h hd hb =>
  have h1:=AaU hs hb;rw[Axa] at hd;simp[Region.wanted,h,yielded,hd,h1]
theorem Ik.skip{w:World}{g:G}{σ:St}{a:Act}(h:Ik w g σ a)(d:Option Nat):Ik w g (σ.skip d) (a.put d undef) where
 heap:=h.heap
 len:=by simp only[St.skip,Um,Qw];exact h.len
 slots:=Zy h.len h.slots (show Bg w g _ .nil undef from rfl)
theorem put_defers(a:Act)(d:Option Tmp)(v:Value):(a.put d v).defers=a.defers:=by cases d<;>rfl
theorem T4 (he:EnvOk P en) {ops:Array Oper} {m:Nat} {Q:Exit->Act->World->Prop}:∀(is:List Nat) (σ σ':St),Nh en ops.toList is σ some=some σ'->m<=σ.blks.length->m<=σ'.blks.length/\∀(a:Act) (w:World) (g:G),Ik w g σ a ->
    (∀a' w' g',Ik w' g' σ' a'->A2 m w g w' g'->a'.defers=a.defers->Q .normal a' w')->wpOps P ops Q is a w
 | [],σ,σ',h,hm=>by
  simp only[Nh,AwY] at h;subst h;exact⟨hm,λa w g hs hq=>hq a w g hs (A2.refl _ _ _) rfl⟩
 | i::is,σ,σ',h,hm=>by
  simp only[Nh] at h;split at h
  ·cases h
  ·rename_i o ho;have ho':ops[i]?=some o:=by rw[<-Axa];exact ho
   rcases L9 h with ⟨hw,h⟩| ⟨hw,h⟩
   ·rw[NQ en he.nat] at h;cases hx:exec en σ o some with
    | none=>rw[hx] at h;cases h
    | some e =>
     rw[hx] at h;have Mv:=NR he hx;have hgrow:=Mv.grow;obtain⟨hm',ih⟩:=T4 he (Q:=Q) is _ _ h (Nat.le_trans hm hgrow);refine⟨hm',λa w g hs hq=>?_⟩;simp only[wpOps,ho'];rw[if_pos (Ht hs hw)];refine .inl (Mv.wp a w g hs _ Q λv w' g' hH hv hst=>?_);exact ih _ _ _ (hs.after hgrow hH hv hst) λa'' w'' g'' Ahq zR hd=>hq a'' w'' g'' Ahq ((hst.toC hm).trans zR) (by rw[hd,put_defers])
   ·obtain⟨hm',ih⟩:=T4 he (Q:=Q) is _ _ h hm;refine⟨hm',λa w g hs hq=>?_⟩;simp only[wpOps,ho'];rw[Ht hs hw];simp only[Bool.false_eq_true,if_false];exact ih _ _ _ (hs.skip o.dst) λa'' w'' g'' Ahq zR hd=>hq a'' w'' g'' Ahq zR (by rw[hd,put_defers])
end
end Go.Va
namespace Go.Va
theorem Pb{n:Nat}{ks:List Nat}{k:Nat}:k∈Ta n ks↔k<n/\k∈ks:=by simp[Ta]
section
variable {w:World} {g:G} {n:Nat}
theorem Al.canon{ks:List Nat}(h:∀k∈ks,k<n){b:Nat}(a:Al g.own ks b):Al g.own (Ta n ks) b:=a.mono λk hk=>Pb.2 ⟨h k hk,hk⟩
theorem WK(a:AV):(a.canon n).K9=a.K9:=by cases a<;>rfl
theorem VC(a:AV):(a.canon n).isAgg=a.isAgg:=by cases a<;>rfl
theorem fC(a:AV):(a.canon n).Cp=a.Cp:=by cases a<;>rfl
theorem BA.canon:∀(a:AV) (m:Bool) {cs:List Value},BA w g n m a cs->BA w g n m (a.canon n) cs
 | .dat ks t x,false,cs,⟨hk,r⟩=>⟨λk h=>(Pb.1 h).1,r.mono λb a=>⟨a.canon hk,rfl⟩⟩
 | .zs,false,_,h=>h
 | .ref _,false,_,h=>h
 | .QS _ _,false,_,h=>h
 | .mp _,false,_,h=>h
 | .ptr _ _ _ _,false,_,h=>h
 | .rop ks t x,false,cs,⟨hk,b,off,ds,e,ha,r,hc⟩=>⟨λk h=>(Pb.1 h).1,b,off,ds,e,ha.canon hk,r.mono λb a=>⟨a.canon hk,rfl⟩,hc⟩
 | .JH,false,_,h=>h
 | .Oz _ _ _ _ _,false,_,h=>h
 | .P4 _ _ _ _ _ _,false,_,h=>h
 | .pr a b,false,_,⟨c,e,he,h1,h2⟩=>⟨c,e,he,BA.canon a false h1,BA.canon b false h2⟩
 | .fn f c,false,_,⟨vs,e,hx⟩=>⟨vs,e,BA.canon c true hx⟩
 | .un k,false,_,h=>h
 | .cons a b,true,_,⟨v,r,e,h1,h2⟩=>by
  refine⟨v,r,e,?_,BA.canon b true h2⟩;rw[WK,VC];exact h1.imp id λ⟨cs,hx,hv⟩=>⟨cs,BA.canon a false hx,hv⟩
 | .nil,true,_,h=>h
 | .cons _ _,false,_,h=>h.elim
 | .nil,false,_,h=>h.elim
 | .Oz _ _ _ _ _,true,_,h=>h.elim
 | .P4 _ _ _ _ _ _,true,_,h=>h.elim
 | .dat _ _ _,true,_,h=>h.elim
 | .zs,true,_,h=>h.elim
 | .ref _,true,_,h=>h.elim
 | .QS _ _,true,_,h=>h.elim
 | .mp _,true,_,h=>h.elim
 | .ptr _ _ _ _,true,_,h=>h.elim
 | .rop _ _ _,true,_,h=>h.elim
 | .JH,true,_,h=>h.elim
 | .pr _ _,true,_,h=>h.elim
 | .fn _ _,true,_,h=>h.elim
 | .un _,true,_,h=>h.elim
theorem Bg.canon{a:AV}{v:Value}(h:Bg w g n a v):Bg w g n (a.canon n) v:=by
 cases ht:a.Cp with
 | false =>
  rw[Bg.iff ht] at h;rw[Bg.iff (by rw[fC];exact ht),WK,VC];exact h.imp id λ⟨cs,hx,hv⟩=>⟨cs,BA.canon a false hx,hv⟩
 | true =>
  cases a with
  | cons a b=>obtain⟨vs,e,h⟩:=h;exact⟨vs,e,BA.canon (.cons a b) true h⟩
  | nil=>exact h
  | _=>cases ht
theorem JX.canon{k:Nat}{b:Blk}(h:JX w g n k b):JX w g n k (b.canon n):=by
 cases b with
 | dead=>trivial
 | map m kt vt es st =>
  cases m with
  | deep=>exact h
  | sh ks =>
   obtain⟨Nb,b,arr,clock,ha,ho,hh,hnd,hm⟩:=h;exact⟨λj hj=>(Pb.1 hj).1,b,arr,clock,ha,ho,hh,hnd,hm.on λi x c r=>by
    have r:FL w (Al g.own ks) vt x c:=r;exact r.mono λb a=>⟨a.canon Nb,rfl⟩⟩
 | hole e t xs i p=>exact h
 | box a =>
  obtain⟨h1,b,cs,e,ha,ho,hh,hx⟩:=h;exact⟨h1,b,cs,e,ha,ho,hh,BA.canon a false hx⟩
 | row e m t xs =>
  cases m with
  | deep=>exact h
  | sh ks =>
   obtain⟨Nb,hlen,hes,hpos,hr⟩:=h;refine⟨λj hj=>(Pb.1 hj).1,hlen,hes,hpos,hr.imp id λ⟨b,cur,ds,ha,ho,hh,h1,h2,h3,h4,hc⟩=>⟨b,cur,ds,ha,ho,hh,h1,h2,h3,h4,?_⟩⟩;exact hc.mono λx c r=>r.mono λb a=>⟨a.canon Nb,rfl⟩
end
def G.pick(g:G)(π:List Nat):G:=⟨λb=>match g.own b with | .lab k r=>if k∈π then .lab (idxOf π k) r else .no | t=>t,λj=>g.at_ (π.getD j 0)⟩
theorem OJ{bs:List Blk}{m:Nat}{π ids:List Nat}(h:sw bs m π ids=true):π.take m=List.range m/\nodup π=true/\(∀k∈ids,k∈π)/\∀k∈π,∃b,bs[k]?=some b/\∀j∈b.ids,j∈π:=by
 simp only[sw,Aw3,beq_iff_eq] at h;obtain⟨⟨⟨h1,h2⟩,h3⟩,h4⟩:=h;refine⟨h1,h2,λk hk=>by have:=List.all_eq_true.1 h3 k hk;simpa using this,λk hk=>?_⟩;have:=List.all_eq_true.1 h4 k hk;split at this
 ·rename_i b hb;exact⟨b,hb,λj hj=>by have:=List.all_eq_true.1 this j hj;simpa using this⟩
 ·cases this
theorem AaC{m:Nat}{π:List Nat}(h:π.take m=List.range m):m<=π.length/\∀j,j<m->π[j]?=some j:=by
 have hl:(π.take m).length=m:=by rw[h,List.length_range]
 rw[List.length_take] at hl;refine⟨by omega,λj hj=>?_⟩;have:(π.take m)[j]?=some j:=by rw[h,List.getElem?_range hj]
 rw[List.getElem?_take,if_pos hj] at this;exact this
section
variable {w:World} {g:G} {bs:List Blk} {π ids:List Nat} {m:Nat}
theorem Uk{k:Nat}(hk:k∈π):Ren (idxOf π) g (g.pick π) π.length k where
 lt:=aD hk
 at_:=by
  have:=aC hk;simp[G.pick,List.getD,this]
 own b r h:=by simp[G.pick,h,hk]
theorem Uj{b:Nat}(h:g.own b=.Gr):(g.pick π).own b=.Gr:=by simp[G.pick,h]
theorem Zm(H:Heap w g bs)(h:sw bs m π ids=true):Heap w (g.pick π) (π.map λk=>(((bs[k]?).getD .dead).ren (idxOf π)).canon π.length):=by
 obtain⟨_,hn,_,hcl⟩:=OJ h;refine⟨λb hb=>by simp[G.pick,H.fresh b hb],λj x hx=>?_⟩;rw[List.getElem?_map] at hx;cases hj:π[j]? with
 | none=>rw[hj] at hx;cases hx
 | some k =>
  rw[hj] at hx;injection hx with hx;subst hx;have hk:k∈π:=List.mem_of_getElem? hj;obtain⟨b,hb,Nf⟩:=hcl k hk;have:=(H.blk k b hb).ren (φ:=idxOf π) (g':=g.pick π) (n':=π.length) (λb h=>Uj h) (Uk hk) (λj hj=>Uk (Nf j hj));rw[UY hn hj] at this;simp only[hb,Option.getD_some,Aw8];exact this.canon
theorem Zn(h:sw bs m π ids=true):A2 m w g w (g.pick π)/\m<=π.length:=by
 obtain⟨ht,hn,_,hcl⟩:=OJ h;obtain⟨h1,h2⟩:=AaC ht;refine⟨⟨rfl,rfl,rfl,Aw2 _,λb _ h=>⟨by simp[G.pick,h],rfl⟩,λb h=>⟨Uj h,rfl⟩,λb k p h hk hm=>(hm (List.mem_range.2 hk)).elim,λk hk=>?_⟩,h1⟩;simp[G.pick,List.getD,h2 k hk]
theorem Y3:∀{live:List Nat} {l:List AV} {j i:Nat} {x:AV},(Nj live j l)[i]?=some x->∃y,l[i]?=some y/\(x=y\/x=.un 0)
 | live,a::r,j,0,x,h=>by
  simp only[Nj,List.getElem?_cons_zero,AwY] at h;refine⟨a,rfl,?_⟩;split at h
  ·exact .inl h.symm
  ·exact .inr h.symm
 | live,a::r,j,i+1,x,h=>by
  simp only[Nj,List.getElem?_cons_succ] at h;obtain⟨y,hy,hx⟩:=Y3 h;exact⟨y,by simpa using hy,hx⟩
 | _,[],_,_,_,h=>by simp[Nj] at h
theorem UZ(live:List Nat):∀(l:List AV) (j:Nat),(Nj live j l).length=l.length
 | [],_=>rfl
 | _::r,j=>by simp[Nj,UZ live r]
theorem Adv{σ σ0:St}{l:List Nat}(h:σ.norm m l=some σ0){a:Act}(hs:Ik w g σ a):∃g0,Ik w g0 σ0 a/\A2 m w g w g0/\m<=σ0.blks.length:=by
 unfold St.norm at h
 dsimp only at h
 split at h
 ·rename_i hp;injection h with h;subst h;obtain⟨hst,hm⟩:=Zn (w:=w) (g:=g) hp;obtain⟨_,_,Nf,_⟩:=OJ hp;refine⟨_,⟨Zm hs.heap hp,by simp[UZ];exact hs.len,λi x hx=>?_⟩,hst,by simpa using hm⟩;simp only[Aw8];rw[List.getElem?_map] at hx;cases hq:(Nj l 0 σ.slots)[i]? with
  | none=>rw[hq] at hx;cases hx
  | some y =>
   rw[hq] at hx;injection hx with hx;subst hx;obtain⟨z,hz,hyz⟩:=Y3 hq;rcases hyz with rfl | rfl
   ·exact((hs.slots i y hz).ren (λb h=>Uj h) λk hk=>Uk (Nf k (List.mem_flatMap.2 ⟨y,List.mem_of_getElem? hq,hk⟩))).canon
   ·exact M9
 ·cases h
theorem zD{m:Nat}{Z:List Nat}:A2 m w g w (g.thaw Z) :=
 ⟨rfl,rfl,rfl,Aw2 _,λb _ h=>⟨by simp[G.thaw,h],rfl⟩,λb h=>⟨aA h,rfl⟩,λb k p h hk hm=>(hm (List.mem_range.2 hk)).elim,λk hk=>rfl⟩
theorem ay {bs:List Blk} (H:Heap w g bs) {m:Nat} {t:Ty} {v v':AV} {bs':List Blk} (h:zC m t v bs=some (v',bs')) :
    ∃g',Heap w g' bs'/\bs'.length=bs.length/\A2 m w g w g'/\(∀a u,Bg w g bs.length a u->Bg w g' bs.length a.TF u)/\(∀u,Bg w g bs.length v u->Bg w g' bs.length v' u)/\(∀k,g'.at_ k=g.at_ k)/\∀cs,BA w g bs.length false v cs->BA w g' bs.length false v' cs:=by
 unfold zC at h;split at h
 ·rename_i x hr;simp only[AwY,Aw9] at h;obtain⟨rfl,rfl⟩:=h;have key:∀cs,BA w g bs.length false v cs->BA w (g.thaw ((v.lend bs).filter λk=>!decide (k<m))) bs.length false (.dat ((v.lend bs).filter λk=>decide (k<m)) t x) cs:=by
   intro cs hcs;obtain⟨hrd,hlt⟩:=MI H t v x cs hr hcs;refine⟨λk hk=>hlt k (List.mem_filter.1 hk).1,hrd.mono λb a=>⟨a.Ow.mono λk hk=>?_,rfl⟩⟩;simp only[List.mem_filter,Bool.not_eq_true',decide_eq_false_iff_not,decide_eq_true_eq] at hk ⊢;refine⟨hk.1,?_⟩;rcases Aw7 k m with h | h
   ·exact h
   ·exact absurd ⟨hk.1,by omega⟩ hk.2
  refine⟨g.thaw ((v.lend bs).filter λk=>!decide (k<m)),gJ H _,by simp[AX],zD,λa u h=>h.Ow _,λu hu=>?_,λk=>rfl,?_⟩
  ·obtain⟨h1,h2⟩:=P5 hr;obtain⟨cs,hcs,hv⟩:=Ba h1 h2 hu;exact A7 (a:=.dat _ t x) rfl (key cs hcs) (by rw[show(AV.dat _ t x).isAgg=v.isAgg from(Tt hr).symm];exact hv)
  ·exact key
 ·cases h
end
section
variable {w:World} {g:G} {bs:List Blk} {m:Nat}
end
section
variable {w:World} {g:G} {bs:List Blk} {m:Nat}
theorem kM(H:Heap w g bs){c:Co}{a a':AV}{nb:List Blk}(h:qP bs c a=some (a',nb)){v:Value}(hx:Bg w g bs.length a v):∃g',Heap w g' (bs++nb)/\Bg w g' (bs++nb).length a' v/\Step [] bs.length w g w g':=by
 have same:a'=a/\nb=[]->∃g',Heap w g' (bs++nb)/\Bg w g' (bs++nb).length a' v/\Step [] bs.length w g w g':=by
  rintro⟨rfl,rfl⟩
  exact⟨g,by rw[List.append_nil];exact H,by rw[List.append_nil];exact hx,Step.refl _ _ _ _⟩
 have AqQ:a.Cp=true\/a.K9=true->a'=a/\nb=[]:=by
  intro hq;cases c with
  | dat t =>
   simp only[qP] at h;split at h
   ·rename_i y hy;obtain⟨h1,h2⟩:=P5 hy;rw[h1,h2] at hq;rcases hq with hq | hq<;>cases hq
   ·cases h
  | deps ks=>cases a<;>simp_all [qP,AV.Cp,AV.K9]
  | row p e t deep =>
   have:a.P1 p≠some .zs:=by
    cases a<;>simp[AV.Cp,AV.K9] at hq<;>cases p<;>simp[AV.P1,AV.T9]
   simp only[qP] at h;simp only[AwY,Aw9] at h;exact⟨h.1.symm,h.2.symm⟩
 by_cases ht:a.Cp=true
 ·exact same (AqQ (.inl ht))
 ·by_cases hu:a.K9=true
  ·exact same (AqQ (.inr hu))
  ·obtain⟨cs,hcs,hv⟩:=Ba (by simpa using ht) (by simpa using hu) hx;obtain⟨g',h1,h2,h3,h4⟩:=kN H h hcs;exact⟨g',h1,A7 (RJ h2) h2 (by rw[h3];exact hv),h4⟩
theorem Aha{σ σ':St}{s:Nat}{b:Bool}{c:Co}(h:coS σ s b c=some σ'){a:Act}(hs:Ik w g σ a)(hm:m<=σ.blks.length):∃g',Ik w g' σ' a/\A2 m w g w g'/\m<=σ'.blks.length:=by
 unfold coS at h;split at h
 ·cases h
 ·rename_i v hv;cases b with
  | false =>
   simp only[Axb] at h;split at h
   ·rename_i v' nb hco;injection h with h;subst h;obtain⟨g',h1,h2,h3⟩:=kM hs.heap hco (hs.slots s v hv);refine⟨g',⟨h1,by simp only[Aw5];exact hs.len,λi x hx=>?_⟩,h3.toC hm,by simp only[Aw0];omega⟩;rw[List.getElem?_set] at hx;split at hx
    ·rename_i e;subst e;split at hx
     ·injection hx with hx;subst hx;exact h2
     ·cases hx
    ·exact(hs.slots i x hx).step0 h3 (by simp)
   ·cases h
  | true =>
   simp only[Axc] at h;split at h
   ·rename_i k i p o;split at h
    ·rename_i a0 hb;split at h
     ·rename_i a' nb hco;injection h with h;subst h;obtain⟨hlen,bb,cs,e,ha,ho,hh,hx⟩:=hs.heap.blk k _ hb;obtain⟨g',h1,h2,h3,h4⟩:=kN hs.heap hco hx;have hk:=AE hb;have hll:(σ.blks.set k (.box a')++nb).length=(σ.blks++nb).length:=by simp
      refine⟨g',⟨⟨h1.fresh,λj x hj=>?_⟩,hs.len,λi x hx'=>(hs.slots i x hx').step0 h4 (by simp)⟩,h4.toC hm,by simp only[Aw0,Aw5];omega⟩;rw[hll];rw[List.getElem?_append] at hj;split at hj
      ·rename_i hjl;rw[Aw5] at hjl;rw[List.getElem?_set] at hj;split at hj
       ·rename_i ek;subst ek;injection hj with hj;subst hj;have hl:=h4.lab bb k [] ho hk (by simp);exact⟨by rw[h4.at_ k hk];exact hlen,bb,cs,e,by rw[h4.at_ k hk];exact ha,hl.1,hh,h2⟩
       ·exact h1.blk j x (by rw[List.getElem?_append_left hjl];exact hj)
      ·rename_i hjl;rw[Aw5] at hjl hj;exact h1.blk j x (by rw[List.getElem?_append_right (by omega)];exact hj)
     ·cases h
    ·cases h
   ·cases h
theorem WM:∀{l:List (Nat×Bool×Co)} {σ σ':St} {g:G},TS l σ=some σ'->∀{a:Act},Ik w g σ a->m<=σ.blks.length->∃g',Ik w g' σ' a/\A2 m w g w g'/\m<=σ'.blks.length
 | [],σ,σ',g,h,a,hs,hm=>by
  simp only[TS,AwY] at h;subst h;exact⟨g,hs,A2.refl _ _ _,hm⟩
 | (s,b,c)::r,σ,σ',g,h,a,hs,hm=>by
  simp only[TS] at h;split at h
  ·rename_i σ1 h1;obtain⟨g1,hs1,st1,hm1⟩:=Aha h1 hs hm;obtain⟨g2,hs2,st2,hm2⟩:=WM h hs1 hm1;exact⟨g2,hs2,st1.trans st2,hm2⟩
  ·cases h
theorem Xq {bs:List Blk} (H:Heap w g bs) {k e:Nat} {md:RM} {t:Ty} {xs:List t.V} (hb:bs[k]?=some (.row e md t xs)) (hoff:k∉md.ids) :
    ∃g',Heap w g' (Blk.kill (AQ [k] bs) [k]++[.row e md t xs])/\Step [k] bs.length w g w g'/\g'.at_ bs.length=g.at_ k:=by
 obtain⟨Nb,hlen,hes,hpos,hr⟩:=H.blk k _ hb
 let n:=bs.length
 let f:Nat->List Nat->Tag:=λj r=>if j=k then .lab n r else .lab j r
 let g':=g.upd f none n (g.at_ k)
 have st:Step [k] n w g w g':=Step.upd H.fresh rfl rfl rfl (Aw2 _) (λ_ _ _=>rfl) (λq h=>by cases h) (Aw2 _) λj r _ hm=>by
  simp only[List.mem_singleton] at hm;simp[f,hm]
 have Px:g'.at_ n=g.at_ k:=by simp[g',G.upd]
 refine⟨g',H.turn st (Nn H.fresh (Aw2 _) λq h=>by cases h) (by simp[AX,Au]) λj y hj=>?_,st,Px⟩;rw[List.getElem?_append] at hj;split at hj
 ·rcases La hj with h | ⟨hjr,h⟩
  ·exact .inl h
  ·obtain⟨y',hy',rfl⟩:=CY h;exact .inr (.inl ⟨hjr,y',hy',rfl⟩)
 ·rename_i hlt;rw[AX,Au] at hj hlt;have hj0:j-bs.length=0:=by
   rcases Nat.eq_zero_or_pos (j-bs.length) with h | h
   ·exact h
   ·rw[List.getElem?_eq_none (by simp;omega)] at hj;cases hj
  rw[hj0] at hj;obtain rfl:j=n:=by simp only[n];omega
  simp only[List.getElem?_cons_zero,AwY] at hj;subst hj;refine .inr (.inr ⟨λj hj=>by have:=Nb j hj;simp[AX,Au];omega,by rw[Px];exact hlen,by rw[Px];exact hes,hpos,?_⟩);rw[Px];refine hr.imp id λ⟨b,cur,ds,ha,hown,hcur,p1,p2,p3,p4,hcon⟩=>⟨b,cur,ds,ha,by rw[Ij (by simp) hown];simp[f],hcur,p1,p2,p3,p4,?_⟩;rw[Le];refine(Le.1 hcon).mono λi x c hel=>hel.on ?_;cases md with
  | deep=>exact λb q hb=>⟨by rw[Ij (by simp) hb];simp[f],rfl⟩
  | sh ks =>
   intro b hb;rcases hb with hb | ⟨j,hj,r,hb⟩
   ·exact⟨.inl (PY (by simp) hb),rfl⟩
   ·refine⟨.inr ⟨j,hj,r,?_⟩,rfl⟩;have:j≠k:=λe=>hoff (e▸hj);rw[Ij (by simp) hb];simp[f,this]
theorem aR:∀{l:List Nat} {σ σ':St} {g:G},mvS m l σ=some σ'->∀{a:Act},Ik w g σ a->m<=σ.blks.length->∃g',Ik w g' σ' a/\A2 m w g w g'/\m<=σ'.blks.length
 | [],σ,σ',g,h,a,hs,hm=>by
  simp only[mvS,AwY] at h;subst h;exact⟨g,hs,A2.refl _ _ _,hm⟩
 | s::r,σ,σ',g,h,a,hs,hm=>by
  simp only[mvS] at h;split at h
  ·rename_i k hv;split at h
   ·split at h
    ·rename_i e md t xs hb;split at h
     ·cases h
     ·rename_i hoff;obtain⟨g1,H1,st,hat⟩:=Xq hs.heap hb (by simpa using hoff);have hl:(Blk.kill (AQ [k] σ.blks) [k]++[Blk.row e md t xs]).length=σ.blks.length+1:=by simp[AX,Au]
      have hs1:Ik w g1 ⟨(OR [k] σ.slots).set s (.ref σ.blks.length),Blk.kill (AQ [k] σ.blks) [k]++[.row e md t xs]⟩ a:=by
       refine⟨H1,by simp[OR];exact hs.len,λi x hx=>?_⟩;simp only[hl];rw[List.getElem?_set] at hx;split at hx
       ·rename_i e';subst e';split at hx
        ·injection hx with hx;subst hx;obtain⟨hk,hv2⟩:=HC (hs.slots s _ hv);rw[hv2];exact A7 (cs:=[_]) rfl ⟨Nat.lt_succ_self _,by rw[hat]⟩ rfl
        ·cases hx
       ·obtain⟨y,hy,rfl⟩:=Si hx;exact(hs.slots i y hy).step st (Nat.le_succ _)
      obtain⟨g2,hs2,st2,hm2⟩:=aR h hs1 (by simp only[hl];omega);exact⟨g2,hs2,(st.toC hm).trans st2,hm2⟩
    ·cases h
   ·exact aR h hs hm
  ·exact aR h hs hm
theorem wE{w:World}{g:G}{n j N:Nat}{p:List Nat}{a a2:AV}{v:Value}(h:Bg w g n a v)(hp:a.P1 p=some (.ref j))(hset:a.Tz p (.ref N)=some a2)(hN:N<n)(hat:g.at_ N=g.at_ j):Bg w g n a2 v:=by
 cases p with
 | nil =>
  simp only[AV.P1,AwY] at hp;simp only[AV.Tz,AwY] at hset;subst hp;subst hset;obtain⟨_,hv⟩:=HC h;rw[hv,<-hat];exact A7 (cs:=[_]) rfl ⟨hN,rfl⟩ rfl
 | cons f p =>
  have h2:a2.isAgg=true:=by
   simp only[AV.Tz] at hset;split at hset
   ·split at hset
    ·exact Tx hset
    ·cases hset
   ·cases hset
  have h1:a.isAgg=true/\a.Cp=false/\a.K9=false:=by
   simp only[AV.P1] at hp;cases a with
   | pr x y=>exact⟨rfl,rfl,rfl⟩
   | dat ks t x =>
    cases t with
    | pair b c=>exact⟨rfl,rfl,rfl⟩
    | _=>simp[AV.T9,Ql] at hp
   | _=>simp[AV.T9] at hp
  obtain⟨cs,hcs,hv⟩:=Ba h1.2.1 h1.2.2 h;obtain⟨c0,c1,c2,e1,_,hr,hput⟩:=Nx (f::p) _ cs _ hcs hp;obtain⟨_,hc1⟩:=hr;have hx2:=hput (.ref N) a2 c1 hset ⟨hN,by rw[hc1,hat]⟩;rw[<-e1] at hx2;have ht:a2.Cp=false:=by cases a2<;>first | rfl | cases h2
  exact A7 ht hx2 (by rw[h2];rw[h1.1] at hv;exact hv)
theorem Aan{m s:Nat}{p:List Nat}{a:Act}{a0:AV}{σ σ2:St}{g:G}(hs0:σ.slots[s]?=some a0)(h:mvV m s p a0 σ=some σ2)(hs:Ik w g σ a)(hm:m<=σ.blks.length):∃g',Ik w g' σ2 a/\A2 m w g w g'/\m<=σ2.blks.length:=by
 unfold mvV at h;split at h
 ·rename_i j hp;split at h
  ·split at h
   ·rename_i e md t xs hj;split at h
    ·cases h
    ·rename_i hoff;split at h
     ·rename_i j' a2 hp2 hset;split at h
      ·rename_i hc;subst hc;injection h with h;subst h;obtain⟨g1,H1,st,hat⟩:=Xq hs.heap hj (by simpa using hoff);have hl:(Blk.kill (AQ [j'] σ.blks) [j']++[Blk.row e md t xs]).length=σ.blks.length+1:=by simp[AX,Au]
       refine⟨g1,⟨H1,by simp[OR];exact hs.len,λi x hx=>?_⟩,st.toC hm,by simp only[hl];omega⟩;rw[hl];rcases NK hx with ⟨rfl,rfl⟩| ⟨hne,hx⟩
       ·have hv:=(hs.slots i a0 hs0).step st (Nat.le_succ _);exact wE hv hp2 hset (Nat.lt_succ_self _) (by rw[hat,st.at_ j' (AE hj)])
       ·obtain⟨y,hy,rfl⟩:=Si (show(OR [j'] σ.slots)[i]?=some x from hx);exact(hs.slots i y hy).step st (Nat.le_succ _)
      ·cases h
     ·cases h
   ·cases h
  ·injection h with h;subst h;exact⟨g,hs,A2.refl _ _ _,hm⟩
 ·cases h
theorem lN{m k:Nat}{p:List Nat}{w:World}{a:Act}{σ σ2:St}{g:G}(h:mvB m k p σ=some σ2)(hs:Ik w g σ a)(hm:m<=σ.blks.length):∃g',Ik w g' σ2 a/\A2 m w g w g'/\m<=σ2.blks.length:=by
 unfold mvB at h;split at h
 ·rename_i a0 hb;split at h
  ·rename_i j hp;split at h
   ·split at h
    ·rename_i e md t xs hj;split at h
     ·cases h
     ·rename_i hoff;split at h
      ·rename_i j' a2 hp2 hset;split at h
       ·rename_i hc;obtain⟨rfl,hkj⟩:=hc;injection h with h;subst h;obtain⟨g1,H1,st,hat⟩:=Xq hs.heap hj (by simpa using hoff);have hl:(Blk.kill (AQ [j'] σ.blks) [j']++[Blk.row e md t xs]).length=σ.blks.length+1:=by simp[AX,Au]
        have hk:=AE hb;have hb1:(Blk.kill (AQ [j'] σ.blks) [j']++[Blk.row e md t xs])[k]?=some (.box (a0.drop λq=>[j'].contains q)):=by
         rw[List.getElem?_append_left (by rw[AX,Au];exact hk)];simp only[Blk.kill,AQ,List.getElem?_set,List.getElem?_map,hb,Option.map_some,Blk.drop,if_neg (λe:j'=k=>hkj e.symm)]
        obtain⟨h1,bb,cs,el,ha,ho,hh,hx⟩:=H1.blk k _ hb1;rw[hl] at hx;obtain⟨c0,c1,c2,e1,_,hr,hput⟩:=Nx p _ cs.toList _ hx hp2;obtain⟨hjl,hc1⟩:=hr;have hx2:=hput (.ref σ.blks.length) a2 c1 hset ⟨Nat.lt_succ_self _,by rw[hc1,hat,st.at_ j' (AE hj)]⟩;rw[<-e1] at hx2;refine⟨g1,⟨⟨H1.fresh,λq x hq=>?_⟩,by simp[OR];exact hs.len,λi x hx=>?_⟩,st.toC hm,by simp only[Aw5,hl];omega⟩
        ·rw[Aw5,hl];rw[List.getElem?_set] at hq;split at hq
         ·rename_i e';subst e';split at hq
          ·injection hq with hq;subst hq;exact⟨h1,bb,cs,el,ha,ho,hh,hx2⟩
          ·cases hq
         ·have:=H1.blk q x hq;rwa [hl] at this
        ·simp only[Aw5,hl];obtain⟨y,hy,rfl⟩:=Si (show(OR [j'] σ.slots)[i]?=some x from hx);exact(hs.slots i y hy).step st (Nat.le_succ _)
       ·cases h
      ·cases h
    ·cases h
   ·injection h with h;subst h;exact⟨g,hs,A2.refl _ _ _,hm⟩
  ·cases h
 ·cases h
theorem pI:∀{l:List (Nat×List Nat)} {σ σ':St} {g:G},Aam m l σ=some σ'->∀{a:Act},Ik w g σ a->m<=σ.blks.length->∃g',Ik w g' σ' a/\A2 m w g w g'/\m<=σ'.blks.length
 | [],σ,σ',g,h,a,hs,hm=>by
  simp only[Aam,AwY] at h;subst h;exact⟨g,hs,A2.refl _ _ _,hm⟩
 | (s,p)::r,σ,σ',g,h,a,hs,hm=>by
  simp only[Aam] at h;split at h
  ·rename_i σ1 h1;have h2:∃g',Ik w g' σ1 a/\A2 m w g w g'/\m<=σ1.blks.length:=by
    unfold mvP at h1;split at h1
    ·exact lN h1 hs hm
    ·rename_i a0 hs0;exact Aan hs0 h1 hs hm
    ·cases h1
   obtain⟨g1,hs1,st1,hm1⟩:=h2;obtain⟨g2,hs2,st2,hm2⟩:=pI h hs1 hm1;exact⟨g2,hs2,st1.trans st2,hm2⟩
  ·cases h
theorem Ub:∀{l:List (Nat×Bool×Ty)} {σ σ':St} {g:G},au m l σ=some σ'->∀{a:Act},Ik w g σ a->m<=σ.blks.length->∃g',Ik w g' σ' a/\A2 m w g w g'/\m<=σ'.blks.length
 | [],σ,σ',g,h,a,hs,hm=>by
  simp only[au,AwY] at h;subst h;exact⟨g,hs,A2.refl _ _ _,hm⟩
 | (s,false,t)::r,σ,σ',g,h,a,hs,hm=>by
  simp only[au] at h;split at h
  ·exact Ub h hs hm
  ·rename_i v _ hv;split at h
   ·rename_i v' bs' hf;obtain⟨g1,H1,hl,st1,ha,hv1,_,_⟩:=ay hs.heap hf;have hs1:Ik w g1 ⟨(σ.slots.map AV.TF).set s v',bs'⟩ a:=by
     refine⟨H1,by simpa using hs.len,λi x hx=>?_⟩;simp only[hl];rw[List.getElem?_set] at hx;split at hx
     ·rename_i e;subst e;split at hx
      ·injection hx with hx;subst hx;exact hv1 _ (hs.slots s v hv)
      ·cases hx
     ·rw[List.getElem?_map] at hx;cases hq:σ.slots[i]? with
      | none=>rw[hq] at hx;cases hx
      | some y =>
       rw[hq] at hx;injection hx with hx;subst hx;exact ha _ _ (hs.slots i y hq)
    obtain⟨g2,hs2,st2,hm2⟩:=Ub h hs1 (by simp only[hl];exact hm);exact⟨g2,hs2,st1.trans st2,hm2⟩
   ·cases h
  ·cases h
 | (s,true,t)::r,σ,σ',g,h,a,hs,hm=>by
  simp only[au] at h;split at h
  ·rename_i k _ _ _ hv;split at h
   ·rename_i a0 hb;split at h
    ·rename_i a' bs' hf;obtain⟨g1,H1,hl,st1,ha,hv1,hat,hx1⟩:=ay hs.heap hf;split at h
     ·rename_i a1 hb1;have hs1:Ik w g1 ⟨σ.slots.map AV.TF,bs'.set k (.box a')⟩ a:=by
       refine⟨⟨H1.fresh,λj x hj=>?_⟩,by simpa using hs.len,λi x hx=>?_⟩
       ·rw[Aw5];rw[List.getElem?_set] at hj;split at hj
        ·rename_i e;subst e;split at hj
         ·injection hj with hj;subst hj;obtain⟨p1,b,cs,e,ha1,ho,hh,hx⟩:=H1.blk k _ hb1;obtain⟨q1,b2,cs2,e2,ha2,ho2,hh2,hx2⟩:=hs.heap.blk k _ hb;rw[hat,ha2] at ha1;injection ha1 with ha1;injection ha1 with ha1;subst ha1;rw[hh2] at hh;injection hh with hh;injection hh with hh;subst hh;exact⟨p1,b2,cs2,e2,by rw[hat];exact ha2,ho,hh2,by rw[hl];exact hx1 _ hx2⟩
         ·cases hj
        ·exact H1.blk j x hj
       ·simp only[Aw5,hl];rw[List.getElem?_map] at hx;cases hq:σ.slots[i]? with
        | none=>rw[hq] at hx;cases hx
        | some y =>
         rw[hq] at hx;injection hx with hx;subst hx;exact ha _ _ (hs.slots i y hq)
      obtain⟨g2,hs2,st2,hm2⟩:=Ub h hs1 (by simp only[Aw5,hl];exact hm);exact⟨g2,hs2,st1.trans st2,hm2⟩
     ·cases h
    ·cases h
   ·cases h
  ·exact Ub h hs hm
theorem ny{ks:List Nat}{n:Nat}(hk:∀j∈ks,j<n):∀{a:AV} {cs:List Value},BA w g n false a cs->BA w g n false (a.wid ks) cs
 | .dat l t x,cs,h=>by
  unfold AV.wid;split
  ·rename_i hc;have hsub:∀j∈l,j∈ks:=λj hj=>by have:=List.all_eq_true.1 hc.2 j hj;simpa using this
   exact⟨hk,h.2.mono λb a=>⟨a.mono hsub,rfl⟩⟩
  ·exact h
 | .pr _ _,_,⟨c,d,e,h1,h2⟩=>⟨c,d,e,ny hk h1,ny hk h2⟩
 | .zs,_,h=>h
 | .ref _,_,h=>h
 | .ptr _ _ _ _,_,h=>h
 | .rop _ _ _,_,h=>h
 | .JH,_,h=>h
 | .Oz _ _ _ _ _,_,h=>h
 | .P4 _ _ _ _ _ _,_,h=>h
 | .QS _ _,_,h=>h
 | .mp _,_,h=>h
 | .fn _ _,_,h=>h
 | .un _,_,h=>h
 | .cons _ _,_,h=>h.elim
 | .nil,_,h=>h.elim
theorem dH:∀{l:List (Nat×List Nat)} {bs bs':List Blk},dG l bs=some bs'->Heap w g bs->Heap w g bs'/\bs'.length=bs.length
 | [],bs,bs',h,H=>by
  simp only[dG,AwY] at h;subst h;exact⟨H,rfl⟩
 | (k,ks)::r,bs,bs',h,H=>by
  simp only[dG] at h;split at h
  ·rename_i e l t xs hb;split at h
   ·rename_i hc;rw[Aw3] at hc;have hsub:∀j∈l,j∈ks:=λj hj=>by have:=List.all_eq_true.1 hc.1 j hj;simpa using this
    have hlt:∀j∈ks,j<bs.length:=λj hj=>by have:=List.all_eq_true.1 hc.2 j hj;simpa using this
    have H1:Heap w g (bs.set k (.row e (.sh ks) t xs)):=by
     refine⟨H.fresh,λj x hx=>?_⟩;rw[Aw5];rw[List.getElem?_set] at hx;split at hx
     ·rename_i ek;subst ek;split at hx
      ·injection hx with hx;subst hx;obtain⟨Nb,hlen,hes,hpos,hr⟩:=H.blk k _ hb;refine⟨hlt,hlen,hes,hpos,hr.imp id λ⟨b,cur,ds,ha,ho,hh,h1,h2,h3,h4,hc⟩=>⟨b,cur,ds,ha,ho,hh,h1,h2,h3,h4,?_⟩⟩;exact hc.mono λx c r=>r.mono λb a=>⟨a.mono hsub,rfl⟩
      ·cases hx
     ·exact H.blk j x hx
    obtain⟨H2,hl⟩:=dH h H1;exact⟨H2,by rw[hl,Aw5]⟩
   ·cases h
  ·rename_i a hb;split at h
   ·rename_i hc;have hlt:∀j∈ks,j<bs.length:=λj hj=>by have:=List.all_eq_true.1 hc j hj;simpa using this
    have H1:Heap w g (bs.set k (.box (a.wid ks))):=by
     refine⟨H.fresh,λj x hx=>?_⟩;rw[Aw5];rw[List.getElem?_set] at hx;split at hx
     ·rename_i ek;subst ek;split at hx
      ·injection hx with hx;subst hx;obtain⟨hlen,b,cs,e,ha,ho,hh,hr⟩:=H.blk k _ hb;exact⟨hlen,b,cs,e,ha,ho,hh,ny hlt hr⟩
      ·cases hx
     ·exact H.blk j x hx
    obtain⟨H2,hl⟩:=dH h H1;exact⟨H2,by rw[hl,Aw5]⟩
   ·cases h
  ·cases h
theorem QJ{h:SH}{σ σ':St}(hh:σ.head h m=some σ'){a:Act}(hs:Ik w g σ a)(hm:m<=σ.blks.length):∃g',Ik w g' σ' a/\A2 m w g w g'/\m<=σ'.blks.length:=by
 unfold St.head at hh;split at hh
 ·cases hh
 ·rename_i σ0 h0;rw[Option.bind_eq_some_iff] at h0;obtain⟨σz,hz,h0⟩:=h0;rw[Option.bind_eq_some_iff] at hz;obtain⟨σy,hy,hz⟩:=hz;obtain⟨gy,hsy,sty,hmy⟩:=aR hy hs hm;obtain⟨gz,hsz,Ata,hmz⟩:=pI hz hsy hmy;have stz:=sty.trans Ata;obtain⟨g0,hs0,st0,hm0⟩:=Ub h0 hsz hmz;split at hh
  ·cases hh
  ·rename_i σ1 h1;obtain⟨g1,hs1,st1,hm1⟩:=WM h1 hs0 hm0;split at hh
   ·cases hh
   ·rename_i σ2 h2;obtain⟨g2,hs2,st2,hm2⟩:=Adv h2 hs1;split at hh
    ·cases hh
    ·rename_i bs h3;obtain⟨H3,hl⟩:=dH h3 hs2.heap;have hs3:Ik w g2 ⟨σ2.slots,bs⟩ a:=⟨H3,hs2.len,λi x hx=>by simp only[hl];exact hs2.slots i x hx⟩;obtain⟨g3,hs4,st3,hm3⟩:=WM hh hs3 (by simp only[hl];exact hm2);exact⟨g3,hs4,(((stz.trans st0).trans st1).trans st2).trans st3,hm3⟩
end
theorem Ac0{σ σ':St}{s:Nat}{b:Bool}{c:Co}(h:coS σ s b c=some σ'):σ.blks.length<=σ'.blks.length:=by
 unfold coS at h;split at h
 ·cases h
 ·cases b with
  | false =>
   simp only[Axb] at h;split at h
   ·injection h with h;subst h;simp
   ·cases h
  | true =>
   simp only[Axc] at h;split at h
   ·split at h
    ·split at h
     ·injection h with h;subst h;simp
     ·cases h
    ·cases h
   ·cases h
theorem YF:∀{l:List (Nat×Bool×Co)} {σ σ':St},TS l σ=some σ'->σ.blks.length<=σ'.blks.length
 | [],σ,σ',h=>by
  simp only[TS,AwY] at h;subst h;exact Aw2 _
 | (s,b,c)::r,σ,σ',h=>by
  simp only[TS] at h;split at h
  ·rename_i σ1 h1;exact Nat.le_trans (Ac0 h1) (YF h)
  ·cases h
theorem XU:∀{l:List (Nat×List Nat)} {bs bs':List Blk},dG l bs=some bs'->bs'.length=bs.length
 | [],bs,bs',h=>by
  simp only[dG,AwY] at h;subst h;rfl
 | (k,ks)::r,bs,bs',h=>by
  simp only[dG] at h;split at h
  ·split at h
   ·rw[XU h,Aw5]
   ·cases h
  ·split at h
   ·rw[XU h,Aw5]
   ·cases h
  ·cases h
theorem Qo{h:SH}{m:Nat}{σ σ':St}(hh:σ.head h m=some σ'):m<=σ'.blks.length:=by
 unfold St.head at hh;split at hh
 ·cases hh
 ·split at hh
  ·cases hh
  ·split at hh
   ·cases hh
   ·rename_i σ2 h2;split at hh
    ·cases hh
    ·rename_i bs h3;refine Nat.le_trans ?_ (YF hh);simp only[XU h3];unfold St.norm at h2
     dsimp only at h2
     split at h2
     ·rename_i hp;injection h2 with h2;subst h2;have:=(AaC (OJ hp).1).1;simpa using this
     ·cases h2
def Z7:Ex->Exit
 | .normal=>.normal
 | .exit n=>.exit n
 | .ret=>.ret
theorem ZB{P:Program}{Q:Exit->Act->World->Prop}{c:Code}(R:Nat->Act->World->Prop)(round:∀n a w,R n a w->c.wp P (Exit.then (λa' w'=>∃k,k<n/\R k a' w') Q) a w){n:Nat}{a:Act}{w:World}(h0:R n a w):(Code.loop c).wp P Q a w:=by
 intro b k cs;have key:∀n a w,R n a w->∃e a' w',Q e a' w'/\Arrives P (lone (b.at a (.code c::.inLoop c::k)) cs w) b k cs e a' w':=by
  intro n;induction n using Nat.strongRecOn with
  | _ n ih =>
   intro a w hI;obtain⟨e,a₁,w₁,hq,harr⟩:=round n a w hI b (.inLoop c::k) cs;cases e with
   | normal =>
    obtain⟨j,hlt,hI₁⟩:=hq;obtain⟨e₂,a₂,w₂,hq₂,harr₂⟩:=ih j hlt a₁ w₁ hI₁;exact⟨e₂,a₂,w₂,hq₂,.of_steps (Steps.trans harr (.one step_inLoop)) harr₂⟩
   | exit id=>exact⟨_,a₁,w₁,hq,.pass (x:=.inLoop c) rfl (λ_ _=>.inl (by simp)) harr⟩
   | goto l=>exact⟨_,a₁,w₁,hq,.pass (x:=.inLoop c) rfl (λ_ _=>.inl (by simp)) harr⟩
   | ret=>exact⟨_,a₁,w₁,hq,.pass (x:=.inLoop c) rfl (λ_ _=>.inl (by simp)) harr⟩
   | panic ch=>exact⟨_,a₁,w₁,hq,.pass (x:=.inLoop c) rfl (λ_ _=>.inl (by simp)) harr⟩
   | outgrown=>exact⟨_,a₁,w₁,hq,.pass (x:=.inLoop c) rfl (λ_ _=>.inl (by simp)) harr⟩
 obtain⟨e,a',w',hq,harr⟩:=key n a w h0;exact⟨e,a',w',hq,.of_steps (.one step_loop) harr⟩
inductive ToN {S T:Type} (f:S->Option (S⊕T)):Nat->S->T->Prop
 | done {s:S} {t:T} (h:f s=some (.inr t)):ToN f 0 s t
 | more {s s':S} {t:T} {n:Nat} (h:f s=some (.inl s')) (k:ToN f n s' t):ToN f (n+1) s t
theorem To.n{S T:Type}{f:S->Option (S⊕T)}{s:S}{t:T}(h:To f s t):∃n,ToN f n s t:=by
 induction h with
 | done h=>exact⟨0,.done h⟩
 | more h _ ih=>obtain⟨n,hn⟩:=ih;exact⟨n+1,.more h hn⟩
structure HB (P:Program) (en:Env):Prop extends EnvOk P en where
 mixed:P.follows .mixedOrders=true
section
variable {P:Program} {en:Env} {m:Nat}
abbrev Hz(e:Ex)(σ:St):Option (Ex×St):=some (e,σ)
theorem nu {c:Code} (hn:∀(R:Type) (σ:St) (K:Ex->St->Option R),ev en m c R σ K=(ev en m c (Ex×St) σ Hz).bind λp=>K p.1 p.2) {R T:Type} {σ:St} {K:Ex->St->Option R} {K':Ex->St->Option T} {k:T->Option R}
    (h:∀e s,K e s=(K' e s).bind k):ev en m c R σ K=(ev en m c T σ K').bind k:=by
 rw[hn R,hn T];cases ev en m c (Ex×St) σ Hz with
 | none=>rfl
 | some p=>exact h p.1 p.2
theorem Adx(he:Rh en){all:List Oper}{is:List Nat}{σ:St}{R T:Type}{K:St->Option R}{K':St->Option T}{k:T->Option R}(h:∀s,K s=(K' s).bind k):Nh en all is σ K=(Nh en all is σ K').bind k:=by
 rw[OE he all is σ K,OE he all is σ K'];cases Nh en all is σ some with
 | none=>rfl
 | some p=>exact h p
theorem Ab8(he:Rh en){all:List Oper}{A:List (Nat×List Nat)}{is done K0:List Nat}{σ:St}{R T:Type}{K:St->Option R}{K':St->Option T}{k:T->Option R}(h:∀s,K s=(K' s).bind k):OS en all A is done K0 σ K=(OS en all A is done K0 σ K').bind k:=by
 rw[OD he all A is done K0 σ K,OD he all A is done K0 σ K'];cases OS en all A is done K0 σ some with
 | none=>rfl
 | some p=>exact h p
theorem jL {f:(R:Type)->St->(Ex->St->Option R)->Option R} (hf:∀(R:Type) (σ:St) (K:Ex->St->Option R),f R σ K=(f (Ex×St) σ Hz).bind λp=>K p.1 p.2) :
    ∀(n:Nat) (R:Type) (σ:St) (K:Ex->St->Option R),dz (f R) K n σ=(dz (f (Ex×St)) Hz n σ).bind λp=>K p.1 p.2
 | 0,_,_,_=>rfl
 | n+1,R,σ,K=>by
  simp only[dz];refine(hf R σ _).trans ?_;refine Eq.trans ?_ (congrArg (λx:Option (Ex×St)=>x.bind λp=>K p.1 p.2) (hf (Ex×St) σ _).symm);cases f (Ex×St) σ Hz with
  | none=>rfl
  | some p =>
   obtain⟨e,s⟩:=p;cases e with
   | normal=>exact jL hf n R s K
   | exit k=>rfl
   | ret=>rfl
theorem P0(he:Rh en):∀(c:Code) (R:Type) (σ:St) (K:Ex->St->Option R),ev en m c R σ K=(ev en m c (Ex×St) σ Hz).bind λp=>K p.1 p.2
 | .skip,_,_,_=>rfl
 | .ret,_,_,_=>rfl
 | .exit _,_,_,_=>rfl
 | .seq a b,R,σ,K=>by
  simp only[ev];split
  ·refine nu (P0 he a) λe s=>?_;cases e with
   | normal=>exact P0 he b R s K
   | exit n=>rfl
   | ret=>rfl
  ·rw[Axd];congr 1
   funext s0
   rw[Axd];congr 1
   funext ⟨e,s⟩
   cases e with
   | normal=>exact P0 he b R s K
   | exit n=>rfl
   | ret=>rfl
 | .cond c a b,R,σ,K=>by
  simp only[ev];split
  ·rename_i t _;cases t
   ·exact P0 he b R σ K
   ·exact P0 he a R σ K
  ·rfl
 | .block n a,R,σ,K=>by
  simp only[ev];refine nu (P0 he a) λe s=>?_;cases e with
  | normal=>rfl
  | exit k=>dsimp only;cases k==n<;>rfl
  | ret=>rfl
 | .region _ ops false,R,σ,K=>by
  simp only[ev];exact Adx he λs=>rfl
 | .region _ ops true,R,σ,K=>by
  simp only[ev];split
  ·rw[Axd];congr 1
   funext s0
   generalize AdC en m _ ops s0=x;cases x<;>rfl
  ·split
   ·exact Ab8 he λs=>rfl
   ·rfl
 | .loop body,R,σ,K=>by
  simp only[ev];split
  ·rename_i n _;exact jL (λR σ K=>P0 he body R σ K) n R σ K
  split
  ·split
   ·rfl
   ·generalize fix _ _=x;cases x<;>rfl
  ·rfl
 | .goto _,_,_,_=>rfl
 | .label _,_,_,_=>rfl
 | .rangeFunc ..,_,_,_=>rfl
 | .scope _,_,_,_=>rfl
 | .refuse _,_,_,_=>rfl
theorem QV (he:Rh en) {h ho:SH} {body:Code} {s:St} {r:St⊕(Ex×St)} (hh:XL en m h ho body s=some r):∃e s',ev en m body (Ex×St) s Hz=some (e,s') /\
    ((e=.normal/\∃s'',s'.head h m=some s''/\r=.inl s'')\/(e≠.normal/\∃s'',s'.head ho m=some s''/\r=.inr (e,s''))):=by
 unfold XL at hh;rw[P0 he] at hh;cases hx:ev en m body (Ex×St) s Hz with
 | none=>rw[hx] at hh;cases hh
 | some p =>
  obtain⟨e,s'⟩:=p;rw[hx] at hh;simp only[AwW] at hh;refine⟨e,s',rfl,?_⟩;cases e with
  | normal =>
   simp only at hh;cases hn:s'.head h m with
   | none=>rw[hn] at hh;cases hh
   | some s''=>rw[hn] at hh;injection hh with hh;exact .inl ⟨rfl,s'',rfl,hh.symm⟩
  | exit n =>
   simp only at hh;cases hn:s'.head ho m with
   | none=>rw[hn] at hh;cases hh
   | some s''=>rw[hn] at hh;injection hh with hh;exact .inr ⟨by simp,s'',rfl,hh.symm⟩
  | ret =>
   simp only at hh;cases hn:s'.head ho m with
   | none=>rw[hn] at hh;cases hh
   | some s''=>rw[hn] at hh;injection hh with hh;exact .inr ⟨by simp,s'',rfl,hh.symm⟩
end
end Go.Va
namespace Go.Va
theorem QO{σ τ:St}{l:List Operand}(h:∀x∈l,σ.Bw x=τ.Bw x):l.map σ.Bw=l.map τ.Bw:=List.map_congr_left h
theorem PS{σ τ:St}{l:List (Nat×Operand)}(h:∀x∈l.map (·.2),σ.Bw x=τ.Bw x):l.map (λp=>(p.1,σ.Bw p.2))=l.map (λp=>(p.1,τ.Bw p.2)) :=
 List.map_congr_left λp hp=>by rw[h p.2 (List.mem_map.2 ⟨p,hp,rfl⟩)]
theorem Rx{R:Type}{en:Env}{σ τ:St}{o:Oper}{K:Eff->Option R}(hb:σ.blks=τ.blks)(h:∀x∈o.op.operands,σ.Bw x=τ.Bw x):Ni en σ o K=Ni en τ o K:=by
 obtain⟨dst,op,type,pos,after,guard⟩:=o;unfold Ni
 dsimp only at h ⊢
 rw[hb];cases op<;>simp only[Op.operands] at h<;>dsimp only
 case build t ps=>rw[PS (l:=ps.toList) λx hx=>h x (by simpa using hx)]
 case buildSlice t n ps=>rw[PS (l:=ps.toList) λx hx=>h x (by simpa using hx)]
 case makeFunc fn first captured =>
  rw[QO (l:=captured.toList) λx hx=>h x (by simp[Array.mem_toList_iff.1 hx])]
 case call c =>
  have ha:Nv σ c.args=Nv τ c.args:=QO λx hx=>h x (by simp[Call.operands,Array.mem_toList_iff.1 hx]);unfold Qj;rw[ha,hb];cases hc:c.callee with
  | value f =>
   have hf:σ.Bw f=τ.Bw f:=h f (by simp[Call.operands,hc]);simp only[hf]
  | builtin b=>cases b<;>rfl
  | invoke r n=>rfl
 case slice t x lo hi mx =>
  have hx:σ.Bw x=τ.Bw x:=h x (by simp);have hlo:lo.map σ.Bw=lo.map τ.Bw:=by cases lo with | none=>rfl | some y=>simp[h y (by simp)]
  have hhi:hi.map σ.Bw=hi.map τ.Bw:=by cases hi with | none=>rfl | some y=>simp[h y (by simp)]
  have hmx:mx.map σ.Bw=mx.map τ.Bw:=by cases mx with | none=>rfl | some y=>simp[h y (by simp)]
  rw[hx,hlo,hhi,hmx]
 all_goals (first | rfl | (simp_all;done))
theorem Rw{R:Type}{en:Env}{σ τ:St}{o:Oper}{K:Eff->Option R}(hb:σ.blks=τ.blks)(h:∀x∈o.op.operands,σ.Bw x=τ.Bw x):PE en σ o K=PE en τ o K:=by
 have ha:Wt en σ o=Wt en τ o:=by
  obtain⟨dst,op,type,pos,after,guard⟩:=o;unfold Wt;cases op<;>simp only[Op.operands] at h<;>dsimp only
  case load t x=>rw[h x (by simp),hb]
  case build t ps=>rw[PS (l:=ps.toList) λx hx=>h x (by simpa using hx)]
  case index t x i=>rw[h x (by simp),h i (by simp)]
  case indexAddr t x i=>rw[h x (by simp),h i (by simp),hb]
  case call c =>
   have ha:Nv σ c.args=Nv τ c.args:=QO λx hx=>h x (by simp[Call.operands,Array.mem_toList_iff.1 hx]);rw[ha]
 have hs:bH en σ o=bH en τ o:=by
  obtain⟨dst,op,type,pos,after,guard⟩:=o;unfold bH Zx r9;cases op<;>simp only[Op.operands] at h<;>dsimp only
  case buildSlice t n ps=>rw[PS (l:=ps.toList) λx hx=>h x (by simpa using hx),hb]
  case store t x v=>rw[h x (by simp),h v (by simp),hb]
 unfold PE;rw[ha,hs,hb];split
 ·rfl
 split
 ·rfl
 ·split
  ·have hd:WY en o=WY en o:=rfl;cases WY en o
   ·exact Rx hb h
   ·simp only[Axc];rw[show τ.blks=σ.blks from hb.symm];exact Rx hb h
  ·exact Rx hb h
theorem kY{R:Type}{en:Env}{σ τ:St}{o:Oper}{K:Eff->Option R}(hb:σ.blks=τ.blks)(h:∀x∈o.op.operands,σ.Bw x=τ.Bw x):exec en σ o K=exec en τ o K:=by
 unfold exec;split
 ·rename_i c d ho _;have ha:Nv σ c.args=Nv τ c.args:=QO λx hx=>h x (by rw[ho];simp[Op.operands,Call.operands,Array.mem_toList_iff.1 hx]);rw[ha,hb];split
  ·split
   ·exact Rw rfl h
   ·rfl
  ·exact Rw hb h
 ·exact Rw hb h
theorem JZ:∀a:AV,a.ren id=a
 | .dat ks t x=>by simp[AV.ren]
 | .rop ks t x=>by simp[AV.ren]
 | .ref k=>rfl
 | .QS k l_=>rfl
 | .mp k=>rfl
 | .ptr k i p o=>rfl
 | .Oz _ _ _ _ _=>rfl
 | .P4 _ _ _ _ _ _=>rfl
 | .pr a b=>by simp[AV.ren,JZ a,JZ b]
 | .fn g c=>by simp[AV.ren,JZ c]
 | .cons a b=>by simp[AV.ren,JZ a,JZ b]
 | .zs=>rfl
 | .JH=>rfl
 | .nil=>rfl
 | .un n=>rfl
theorem S8(b:Blk):b.ren id=b:=by
 cases b with
 | dead=>rfl
 | map m kt vt es st=>cases m<;>simp[Blk.ren,RM.ren]
 | hole e t xs i p=>rfl
 | box a=>simp[Blk.ren,JZ]
 | row e m t xs=>cases m<;>simp[Blk.ren,RM.ren]
def Scoped(bs:List Blk):Prop:=∀(k:Nat) (x:Blk),bs[k]?=some x->∀j∈x.ids,j<bs.length
theorem wJ{w:World}{g:G}{n k:Nat}{x:Blk}(h:JX w g n k x):∀j∈x.ids,j<n:=by
 cases x with
 | dead=>intro j hj;cases hj
 | map m kt vt es st=>exact h.1
 | hole e t xs i p=>intro j hj;cases hj
 | box a=>obtain⟨_,_,_,_,_,_,_,hx⟩:=h;exact BA.Oj a false hx
 | row e m t xs=>exact h.1
theorem Heap.scp{w:World}{g:G}{bs:List Blk}(H:Heap w g bs):Scoped bs:=λk x hx=>wJ (H.blk k x hx)
def G.cut(g:G)(n:Nat):G:=⟨λb=>match g.own b with | .lab k r=>if k<n then .lab k r else .no | t=>t,g.at_⟩
def G.glue(g g':G)(n:Nat):G:=⟨λb=>match g.own b with | .lab k r=>if k<n then g'.own b else .lab k r | _=>g'.own b,λk=>if k<n then g'.at_ k else g.at_ k⟩
section
variable {P:Program} {o:Oper} {e:Eff}
theorem Wa{g:G}{n k:Nat}(hk:k<n):Ren id g (g.cut n) n k:=⟨hk,rfl,λb r h=>by simp[G.cut,h,hk]⟩
theorem sV {σ:St} (Mv:Lj P σ o e) (hm:e.mods=[]) {l l':List Blk} (hl':e.blks=σ.blks++l') (hor:l=[]\/l'=[]) {w:World} {g:G} {a:Act} (H:Heap w g (σ.blks++l)) (hsc:Scoped σ.blks) (hlen:σ.slots.length=a.tmps.size)
    (hsl:∀(i:Nat) (x:AV),σ.slots[i]?=some x->Bg w g (σ.blks++l).length x (a.tmps.getD i undef)/\∀k∈x.ids,k<σ.blks.length) {next:Act->World->Prop} {Q:Exit->Act->World->Prop}
    (hn:∀v w' g',Heap w' g' (σ.blks++(l++l'))->Bg w' g' (σ.blks++(l++l')).length e.val v->(∀k∈e.val.ids,k<e.blks.length)->Step [] (σ.blks++l).length w g w' g'->next (a.put o.dst v) w'):o.wp P a w next Q:=by
 rcases hor with rfl | rfl
 ·simp only[List.append_nil,List.nil_append] at H hsl hn;refine Mv.wp a w g ⟨H,hlen,λi x hx=>(hsl i x hx).1⟩ next Q λv w' g' H' hv hst=>?_
  rw[hm] at hst;rw[hl'] at H' hv;exact hn v w' g' H' hv (by rw[hl'];exact hv.Oj) hst
 ·simp only[List.append_nil] at hl' hn
  let n:=σ.blks.length
  have hnl:n<=(σ.blks++l).length:=by simp[n]
  have hself:∀k,k<n->Ren id g (g.cut n) n k:=λk hk=>Wa hk;have Xb:∀b,g.own b=.Gr->(g.cut n).own b=.Gr:=λb h=>by simp[G.cut,h]
  have Hr:Heap w (g.cut n) σ.blks:=by
   refine⟨λb hb=>by simp[G.cut,H.fresh b hb],λk x hx=>?_⟩;have hk:=AE hx;have h1:=H.blk k x (by rw[List.getElem?_append_left hk];exact hx);have:=h1.ren (φ:=id) Xb (hself k hk) λj hj=>hself j (hsc k x hx j hj);rwa [S8] at this
  refine Mv.wp a w (g.cut n) ⟨Hr,hlen,λi x hx=>?_⟩ next Q λv w' g' H' hv hst=>?_
  ·obtain⟨h1,h2⟩:=hsl i x hx;have:=h1.ren (φ:=id) (g':=g.cut n) (n':=n) Xb λk hk=>hself k (h2 k hk);rwa [JZ] at this
  ·rw[hm] at hst;rw[hl'] at H' hv;have Adg:∀b,g.own b≠.no->b<w.heap.size:=λb h=>O1 H h;have aB:∀b k r,g.own b=.lab k r->¬k<n->g'.own b=.no/\w'.heap[b]?=w.heap[b]?:=λb k r h hk=>hst.no b (Adg b (by rw[h];simp)) (by simp[G.cut,h,hk]);have st:Step [] (σ.blks++l).length w g w' (g.glue g' n):=by
    refine⟨hst.os,hst.tape,hst.output,hst.size,λb hb h=>?_,λb h=>?_,λb k r h hk hm=>?_,λk hk=>?_⟩
    ·have:=hst.no b hb (by simp[G.cut,h]);exact⟨by simp[G.glue,h,this.1],this.2⟩
    ·have:=hst.Gr b (Xb b h);exact⟨by simp[G.glue,h,this.1],this.2⟩
    ·by_cases hkn:k<n
     ·have:=hst.lab b k r (by simp[G.cut,h,hkn]) hkn (by simp);exact⟨by simp[G.glue,h,hkn,this.1],this.2⟩
     ·exact⟨by simp[G.glue,h,hkn],(aB b k r h hkn).2⟩
    ·by_cases hkn:k<n
     ·have:=hst.at_ k hkn;simp only[G.glue,if_pos hkn,this];rfl
     ·simp[G.glue,hkn]
   have hback:∀k,k<n->Ren id g' (g.glue g' n) (σ.blks++l).length k:=λk hk=>by
    refine⟨by show k<_;omega,by simp[G.glue,hk],λb r h=>?_⟩;simp only[G.glue,id];split
    ·rename_i k' r' hg;split
     ·exact h
     ·rename_i hk';rw[(aB b k' r' hg hk').1] at h;cases h
    ·exact h
   have Aed:∀b,g'.own b=.Gr->(g.glue g' n).own b=.Gr:=λb h=>by
    simp only[G.glue];split
    ·rename_i k' r' hg;split
     ·exact h
     ·rename_i hk';rw[(aB b k' r' hg hk').1] at h;cases h
    ·exact h
   refine hn v w' (g.glue g' n) ⟨λb hb=>?_,λk x hx=>?_⟩ ?_ (by rw[hl'];exact hv.Oj) st
   ·have h1:=H'.fresh b hb;have h2:=H.fresh b (Nat.le_trans hst.size hb);simp[G.glue,h2,h1]
   ·by_cases hk:k<n
    ·rw[List.getElem?_append_left hk] at hx;have:=(H'.blk k x hx).ren (φ:=id) Aed (hback k hk) λj hj=>hback j (hsc k x hx j hj);rwa [S8] at this
    ·exact(H.blk k x hx).step0 st (Aw2 _) (AE hx)
   ·have:=hv.ren (φ:=id) Aed λk hk=>hback k (hv.Oj k hk);rwa [JZ] at this
end
end Go.Va
namespace Go.Va
theorem Xm:∀(r l:List Nat) {x:Nat},x∈V3 l r->x∈l\/x∈r
 | [],_,_,h=>.inl h
 | k::r,l,x,h=>by
  simp only[V3] at h;split at h
  ·rcases Xm r l h with h | h
   ·exact .inl h
   ·exact .inr (by simp[h])
  ·rcases Xm r _ h with h | h
   ·rcases List.mem_append.1 h with h | h
    ·exact .inl h
    ·simp at h;exact .inr (by simp[h])
   ·exact .inr (by simp[h])
def Yr(all:List Oper)(A:List (Nat×List Nat)):Prop:=∀i x,x∈CS A i->x∈OQ all i\/∃d∈OQ all i,x∈CS A d
theorem Yy(all:List Oper):∀(is:List Nat) (A:List (Nat×List Nat)),Yr all A->nodup is=true->(∀i∈is,∀p∈A,p.1≠i)->Yr all (Ro all is A)
 | [],_,h,_,_=>h
 | i::is,A,h,hn,hf=>by
  simp only[nodup,Aw3,Bool.not_eq_true'] at hn;refine Yy all is _ ?_ hn.2 ?_
  ·have keep:∀d y,y∈CS A d->y∈CS ((i,V3 [] (OQ all i++(OQ all i).flatMap (CS A)))::A) d:=by
     intro d y hy;simp only[CS];split
     ·rename_i he;have he:i=d:=by simpa using he
      subst he;have:∀(A:List (Nat×List Nat)),(∀p∈A,p.1≠i)->CS A i=[]:=by
       intro A;induction A with
       | nil=>exact λ_=>rfl
       | cons p A ih =>
        intro hp;obtain⟨k,l⟩:=p;simp only[CS];rw[if_neg (by simpa using hp (k,l) (by simp))];exact ih λq hq=>hp q (by simp[hq])
      rw[this A (hf i (by simp))] at hy;cases hy
     ·exact hy
   intro j x hx;by_cases he:i=j
   ·subst he;simp only[CS,beq_self_eq_true,if_true] at hx;rcases Xm _ _ hx with hx | hx
    ·cases hx
    ·rcases List.mem_append.1 hx with hx | hx
     ·exact .inl hx
     ·obtain⟨d,hd,hx⟩:=List.mem_flatMap.1 hx;exact .inr ⟨d,hd,keep d x hx⟩
   ·simp only[CS] at hx;rw[if_neg (by simpa using he)] at hx;rcases h j x hx with h | ⟨d,hd,hx⟩
    ·exact .inl h
    ·exact .inr ⟨d,hd,keep d x hx⟩
  ·intro j hj p hp;rcases List.mem_cons.1 hp with rfl | hp
   ·intro e;have e:i=j:=e;subst e;have:=hn.1;simp[hj] at this
   ·exact hf j (by simp[hj]) p hp
def Closed(A:List (Nat×List Nat))(D:Nat->Bool):Prop:=∀i,D i=true->∀x∈CS A i,D x=true
theorem Zt{all:List Oper}{A:List (Nat×List Nat)}(hA:Yr all A){D:Nat->Bool}(hc:Closed A D){i:Nat}(hd:∀d∈OQ all i,D d=true):∀x∈CS A i,D x=true:=λx hx=>by
 rcases hA i x hx with h | ⟨d,hdi,h⟩
 ·exact hd x h
 ·exact hc d (hd d hdi) x h
structure GH where
 i:Nat
 o:Oper
 σ:St
 e:Option Eff
def GH.val(t:GH):AV:=match t.e with | some e=>e.val | none=>.nil
def GH.post(t:GH):St:=match t.e with | some e=>t.σ.after t.o.dst e | none=>t.σ.skip t.o.dst
def GH.bar(t:GH):Bool:=match t.e with | some e=>!e.mods.isEmpty | none=>false
def GH.grow(t:GH):Bool:=match t.e with | some e=>e.mods.isEmpty&&decide (e.blks.length≠t.σ.blks.length)| none=>false
def GH.Ok(en:Env)(all:List Oper)(t:GH):Prop:=all[t.i]?=some t.o/\match t.e with | some e=>Want all t.σ t.o true/\exec en t.σ t.o some=some e | none=>Want all t.σ t.o false
inductive Tr (en:Env) (all:List Oper) (A:List (Nat×List Nat)):List Nat->List Nat->St->List GH->St->Prop
 | nil {done K0:List Nat} {σ:St}:Tr en all A done K0 σ [] σ
 | cons {done K0:List Nat} {σ σ':St} {t:GH} {ts:List GH} (hσ:t.σ=σ) (ok:t.Ok en all) (ha:∀x∈K0,x∈CS A t.i) (hb:t.bar=true->∀x∈done,x∈CS A t.i)
     (next:Tr en all A (t.i::done) (if t.bar||t.grow then t.i::K0 else K0) t.post ts σ'):Tr en all A done K0 σ (t::ts) σ'
section
variable {en:Env} {all:List Oper} {A:List (Nat×List Nat)}
theorem T3(he:Rh en):∀{is done K0:List Nat} {σ σ':St},OS en all A is done K0 σ some=some σ'->∃ts:List GH,ts.map (·.i)=is/\Tr en all A done K0 σ ts σ'
 | [],done,K0,σ,σ',h=>by
  simp only[OS,AwY] at h;subst h;exact⟨[],rfl,.nil⟩
 | i::is,done,K0,σ,σ',h=>by
  simp only[OS] at h;split at h
  ·cases h
  ·rename_i o ho;split at h
   ·rename_i Asw;have zH:∀x∈K0,x∈CS A i:=λx hx=>by have:=List.all_eq_true.1 Asw x hx;simpa using this
    rcases L9 h with ⟨hw,h⟩| ⟨hw,h⟩
    ·rw[NQ en he] at h;cases hx:exec en σ o some with
     | none=>rw[hx] at h;cases h
     | some e =>
      rw[hx] at h;simp only[AwW] at h;split at h
      ·rename_i hm;obtain⟨ts,h1,h2⟩:=T3 he h;refine⟨⟨i,o,σ,some e⟩::ts,by simp[h1],.cons rfl ⟨ho,hw,hx⟩ zH (λhb=>?_) ?_⟩
       ·simp[GH.bar,hm] at hb
       ·simp only[GH.bar,GH.grow,hm,Bool.not_true,Bool.false_or,Bool.true_and,GH.post];by_cases hl:e.blks.length=σ.blks.length
        ·simpa [hl] using h2
        ·simpa [hl] using h2
      ·rename_i hm;split at h
       ·rename_i hdone;obtain⟨ts,h1,h2⟩:=T3 he h;refine⟨⟨i,o,σ,some e⟩::ts,by simp[h1],.cons rfl ⟨ho,hw,hx⟩ zH (λhb x hx=>?_) ?_⟩
        ·have:=List.all_eq_true.1 hdone x hx;simpa using this
        ·simp only[GH.bar,GH.post];have hm':e.mods.isEmpty=false:=by simpa using hm
         simpa [hm'] using h2
       ·cases h
    ·obtain⟨ts,h1,h2⟩:=T3 he h;refine⟨⟨i,o,σ,none⟩::ts,by simp[h1],.cons rfl ⟨ho,hw⟩ zH (λhb=>by cases hb) ?_⟩;simpa [GH.bar,GH.grow,GH.post] using h2
   ·cases h
theorem Tr.wm:∀{ts:List GH} {done K0:List Nat} {σ σ':St},Tr en all A done K0 σ ts σ'->∀x∈K0,∀u∈ts,x∈CS A u.i
 | [],_,_,_,_,_,_,_,_,hu=>by cases hu
 | t::ts,_,_,_,_,.cons _ _ ha _ next,x,hx,u,hu=>by
  rcases List.mem_cons.1 hu with rfl | hu
  ·exact ha x hx
  ·exact next.wm x (by split<;>simp[hx]) u hu
theorem Tr.pairs:∀{pre post:List GH} {t:GH} {done K0:List Nat} {σ σ':St},Tr en all A done K0 σ (pre++t::post) σ' ->
    ((t.bar||t.grow)=true->∀u∈post,t.i∈CS A u.i)/\(t.bar=true->(∀x∈done,x∈CS A t.i)/\∀u∈pre,u.i∈CS A t.i)
 | [],post,t,done,K0,σ,σ',.cons hσ ok ha hb next=>by
  refine⟨λh u hu=>next.wm t.i (by rw[if_pos h];simp) u hu,λh=>⟨hb h,λu hu=>by cases hu⟩⟩
 | p::pre,post,t,done,K0,σ,σ',.cons hσ ok ha hb next=>by
  obtain⟨h1,h2⟩:=next.pairs
  refine⟨h1,λh=>⟨λx hx=>(h2 h).1 x (by simp[hx]),λu hu=>?_⟩⟩;rcases List.mem_cons.1 hu with rfl | hu
  ·exact(h2 h).1 u.i (by simp)
  ·exact(h2 h).2 u hu
theorem Tr.split:∀{pre ts:List GH} {done K0:List Nat} {σ σ':St},Tr en all A done K0 σ (pre++ts) σ'->∃qE σ1,Tr en all A done K0 σ pre σ1/\Tr en all A ((pre.map (·.i)).reverse++done) qE σ1 ts σ'
 | [],ts,done,K0,σ,σ',h=>⟨K0,σ,.nil,h⟩
 | p::pre,ts,done,K0,σ,σ',.cons hσ ok ha hb next=>by
  obtain⟨qE,σ1,h1,h2⟩:=next.split
  exact⟨qE,σ1,.cons hσ ok ha hb h1,by simpa using h2⟩
theorem Tr.Aax:∀{ts:List GH} {done K0:List Nat} {σ σ':St},Tr en all A done K0 σ ts σ'->∀u∈ts,u.Ok en all
 | [],_,_,_,_,_,_,hu=>by cases hu
 | t::ts,_,_,_,_,.cons _ ok _ _ next,u,hu=>by
  rcases List.mem_cons.1 hu with rfl | hu
  ·exact ok
  ·exact next.Aax u hu
end
end Go.Va
