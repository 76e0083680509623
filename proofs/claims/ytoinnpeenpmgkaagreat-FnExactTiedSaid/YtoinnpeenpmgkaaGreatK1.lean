import Derived.MapKept
import Derived.Laws.Strings
import Derived.Laws.StructEq
import Derived.OrdersHeld
import Derived.Test.YtoinnpeenpmgkaaGreatK0
set_option linter.unusedVariables false
set_option linter.unusedSimpArgs false
namespace Go.Va
theorem wT(φ:Nat->Nat)(a:AV):(a.O0 φ).OV=a.OV:=by cases a<;>rfl
theorem pU(φ:Nat->Nat)(a:AV):(a.O0 φ).isAgg=a.isAgg:=by cases a<;>rfl
theorem AdA(φ:Nat->Nat)(a:AV):(a.O0 φ).Dp=a.Dp:=by cases a<;>rfl
theorem uZ(LK:ATU Nat)(a:AV):(a.W1 LK).OV=a.OV:=by cases a<;>rfl
theorem oI(LK:ATU Nat)(a:AV):(a.W1 LK).isAgg=a.isAgg:=by cases a<;>rfl
theorem AcN(LK:ATU Nat)(a:AV):(a.W1 LK).Dp=a.Dp:=by cases a<;>rfl
structure Ren (φ:Nat->Nat) (g g':G) (n' k:Nat):Prop where
 lt:φ k<n'
 A2:g'.A2 (φ k)=g.A2 k
 own:∀b r,g.own b=.BQ k r->g'.own b=.BQ (φ k) r
theorem Al.AiC{φ:Nat->Nat}{g g':G}(hi:∀b,g.own b=.Jl->g'.own b=.Jl){ks:ATU Nat}(hk:∀k∈ks,∀b r,g.own b=.BQ k r->g'.own b=.BQ (φ k) r){b:Nat}(h:Al g.own ks b):Al g'.own (ks.map φ) b:=by
 rcases h with h |⟨k,hks,r,h⟩
 ·exact .inl (hi b h)
 ·exact .inr ⟨φ k,List.mem_map.2 ⟨k,hks,rfl⟩,r,hk k hks b r h⟩
theorem O5:∀(a:AV) {k:Nat},k∈a.TM->k∈a.Ck
 |.AB _ _ _,_,h=>h
 |.FZ _ _ _,_,h=>h
 |.Vh _ _ _ _ _,_,h=>h
 |.Xc _ _ _ _ _ _,_,h=>h
 |.pr a b,_,h=>(List.mem_append.1 h).elim (λh=>AQN _ (O5 a h)) λh=>AQO _ (O5 b h)
 |.cons a b,_,h=>(List.mem_append.1 h).elim (λh=>AQN _ (O5 a h)) λh=>AQO _ (O5 b h)
 |.fn _ c,_,h=>O5 c h
 |.zs,_,h=>by cases h
 |.AG _,_,h=>by cases h
 |.ptr _ _ _ _,_,h=>by cases h
 |.KQ,_,h=>by cases h
 |.nil,_,h=>by cases h
 |.mp _,_,h=>by cases h
 |.un _,_,h=>by cases h
theorem fu:∀(b:Blk) {k:Nat},k∈b.TM->k∈b.Ck
 |.box a,_,h=>O5 a h
 |.row _ _ _ _,_,h=>h
 |.map _ _ _ _ _,_,h=>h
 |.Sm _ _ _ _ _,_,h=>h
 |.tail _ _ _,_,h=>h
 |.Bd,_,h=>h
section
variable {w:World} {g g':G} {n n':Nat} {φ:Nat->Nat}
def Acp(φ:Nat->Nat)(g g':G)(n' k:Nat):Prop:=φ k<n'/\g'.A2 (φ k)=g.A2 k
def Aq0(φ:Nat->Nat)(g g':G)(k:Nat):Prop:=∀b r,g.own b=.BQ k r->g'.own b=.BQ (φ k) r
theorem AbC{ks:ATU Nat}(hk:∀k∈ks,Acp φ g g' n' k):∀k∈ks.map φ,k<n':=λk h=>by
 obtain⟨j,hj,rfl⟩:=List.mem_map.1 h;exact(hk j hj).1
theorem CK.cx(hi:∀b,g.own b=.Jl->g'.own b=.Jl):∀(a:AV) (m:Bool) {cs:ATU Value},CK w g n m a cs->(∀k∈a.Ck,Acp φ g g' n' k)->(∀k∈a.TM,Aq0 φ g g' k)->CK w g' n' m (a.O0 φ) cs
 |.AB ks t x,false,cs,⟨hk,r⟩,h,ho=>⟨AbC h,r.mono λb a=>⟨a.AiC hi ho,rfl⟩⟩
 |.zs,false,_,h,_,_=>h
 |.AG k,false,_,⟨hk,e⟩,h,_=>by
  have:=h k (by simp[AV.Ck]);exact⟨this.1,by rw[this.2];exact e⟩
 |.ptr k i p o,false,_,⟨hk,h0,h1,b,hb,e⟩,h,_=>by
  have:=h k (by simp[AV.Ck]);exact⟨this.1,h0,by rw[this.2];exact h1,b,by rw[this.2];exact hb,by rw[this.2];exact e⟩
 |.FZ ks t x,false,cs,⟨hk,b,off,ds,e,ha,r,hc⟩,h,ho=>⟨AbC h,b,off,ds,e,ha.AiC hi ho,r.mono λb a=>⟨a.AiC hi ho,rfl⟩,hc⟩
 |.KQ,false,_,h,_,_=>h
 |.pr a b,false,_,⟨c,d,e,h1,h2⟩,h,ho=>⟨c,d,e,CK.cx hi a false h1 (λk hk=>h k (by simp[AV.Ck,hk])) λk hk=>ho k (by simp[AV.TM,hk]),CK.cx hi b false h2 (λk hk=>h k (by simp[AV.Ck,hk])) λk hk=>ho k (by simp[AV.TM,hk])⟩
 |.fn f c,false,_,⟨vs,e,hx⟩,h,ho=>⟨vs,e,CK.cx hi c true hx (λk hk=>h k (by simpa [AV.Ck]using hk)) λk hk=>ho k (by simpa [AV.TM]using hk)⟩
 |.un k,false,_,h,_,_=>h
 |.cons a b,true,_,⟨v,r,e,h1,h2⟩,h,ho=>by
  refine⟨v,r,e,?_,CK.cx hi b true h2 (λk hk=>h k (by simp[AV.Ck,hk])) λk hk=>ho k (by simp[AV.TM,hk])⟩;rw[wT,pU];exact h1.imp id λ⟨cs,hx,hv⟩=>⟨cs,CK.cx hi a false hx (λk hk=>h k (by simp[AV.Ck,hk])) (λk hk=>ho k (by simp[AV.TM,hk])),hv⟩
 |.nil,true,_,h,_,_=>h
 |.cons _ _,false,_,h,_,_=>h.elim
 |.nil,false,_,h,_,_=>h.elim
 |.mp k,false,_,⟨hk,b,hb,e⟩,h,_=>by
  have:=h k (by simp[AV.Ck]);exact⟨this.1,b,by rw[this.2];exact hb,e⟩
 |.Vh k i p o e,false,_,⟨hk,h0,h1,b,v,ha,ho,e1,e2,hc⟩,h,hO=>by
  have:=h k (by simp[AV.Ck]);exact⟨this.1,h0,by rw[this.2];exact h1,b,v,by rw[this.2];exact ha,hO k (by simp[AV.TM]) b [] ho,e1,e2,by rw[this.2];exact hc⟩
 |.Xc k i p o j u,false,_,⟨hk,h0,h1,b,b',l,c,ha,ho,e1,e2,hc⟩,h,hO=>by
  have:=h k (by simp[AV.Ck]);exact⟨this.1,h0,by rw[this.2];exact h1,b,b',l,c,by rw[this.2];exact ha,hO k (by simp[AV.TM]) b [] ho,e1,e2,by rw[this.2];exact hc⟩
 |.Xc _ _ _ _ _ _,true,_,h,_,_=>h.elim
 |.Vh _ _ _ _ _,true,_,h,_,_=>h.elim
 |.AB _ _ _,true,_,h,_,_=>h.elim
 |.zs,true,_,h,_,_=>h.elim
 |.AG _,true,_,h,_,_=>h.elim
 |.mp _,true,_,h,_,_=>h.elim
 |.ptr _ _ _ _,true,_,h,_,_=>h.elim
 |.FZ _ _ _,true,_,h,_,_=>h.elim
 |.KQ,true,_,h,_,_=>h.elim
 |.pr _ _,true,_,h,_,_=>h.elim
 |.fn _ _,true,_,h,_,_=>h.elim
 |.un _,true,_,h,_,_=>h.elim
theorem Ren.r0{k:Nat}(h:Ren φ g g' n' k):Acp φ g g' n' k:=⟨h.lt,h.A2⟩
theorem CK.O0(hi:∀b,g.own b=.Jl->g'.own b=.Jl)(a:AV)(m:Bool){cs:ATU Value}(h:CK w g n m a cs)(hk:∀k∈a.Ck,Ren φ g g' n' k):CK w g' n' m (a.O0 φ) cs :=
 h.cx hi a m (λk h=>(hk k h).r0) λk h=>(hk k (O5 a h)).own
theorem CK.UQ:∀(a:AV) (m:Bool) {cs:ATU Value},CK w g n m a cs->∀k∈a.Ck,k<n
 |.AB ks t x,false,cs,h,k,hk=>h.1 k hk
 |.zs,false,_,_,_,hk=>by cases hk
 |.AG j,false,_,h,k,hk=>by
  have :=by simpa [AV.Ck]using hk
  rw[this];exact h.1
 |.ptr j i p o,false,_,h,k,hk=>by
  have :=by simpa [AV.Ck]using hk
  rw[this];exact h.1
 |.FZ ks t x,false,cs,h,k,hk=>h.1 k hk
 |.KQ,false,_,_,_,hk=>by cases hk
 |.pr a b,false,_,⟨c,d,e,h1,h2⟩,k,hk=>by
  rcases List.mem_append.1 hk with hk |hk
  ·exact CK.UQ a _ h1 k hk
  ·exact CK.UQ b _ h2 k hk
 |.fn f c,false,_,⟨vs,e,hx⟩,k,hk=>CK.UQ c true hx k hk
 |.un _,false,_,_,_,hk=>by cases hk
 |.cons a b,true,_,⟨v,r,e,h1,h2⟩,k,hk=>by
  rcases List.mem_append.1 hk with hk |hk
  ·rcases h1 with h1 |⟨cs,h1,_⟩
   ·cases a<;>simp[AV.OV]at h1;cases hk
   ·exact CK.UQ a _ h1 k hk
  ·exact CK.UQ b true h2 k hk
 |.nil,true,_,_,_,hk=>by cases hk
 |.cons _ _,false,_,h,_,_=>h.elim
 |.nil,false,_,h,_,_=>h.elim
 |.mp j,false,_,h,k,hk=>by
  have :=by simpa [AV.Ck]using hk
  rw[this];exact h.1
 |.Vh j i p o e,false,_,h,k,hk=>by
  have :=by simpa [AV.Ck]using hk
  rw[this];exact h.1
 |.Xc j i p o q u,false,_,h,k,hk=>by
  have :=by simpa [AV.Ck]using hk
  rw[this];exact h.1
 |.Xc _ _ _ _ _ _,true,_,h,_,_=>h.elim
 |.Vh _ _ _ _ _,true,_,h,_,_=>h.elim
 |.AB _ _ _,true,_,h,_,_=>h.elim
 |.zs,true,_,h,_,_=>h.elim
 |.AG _,true,_,h,_,_=>h.elim
 |.mp _,true,_,h,_,_=>h.elim
 |.ptr _ _ _ _,true,_,h,_,_=>h.elim
 |.FZ _ _ _,true,_,h,_,_=>h.elim
 |.KQ,true,_,h,_,_=>h.elim
 |.pr _ _,true,_,h,_,_=>h.elim
 |.fn _ _,true,_,h,_,_=>h.elim
 |.un _,true,_,h,_,_=>h.elim
theorem B6.UQ{a:AV}{v:Value}(h:B6 w g n a v):∀k∈a.Ck,k<n:=by
 cases ht:a.Dp with
 |false =>
  rcases(B6.iff ht).1 h with h |⟨cs,h,_⟩
  ·intro k hk;cases a<;>simp[AV.OV]at h;cases hk
  ·exact CK.UQ a _ h
 |true =>
  cases a with
  |cons a b=>obtain⟨vs,e,h⟩:=h;exact CK.UQ _ true h
  |nil=>intro k hk;cases hk
  |_=>cases ht
theorem B6.cx(hi:∀b,g.own b=.Jl->g'.own b=.Jl){a:AV}{v:Value}(h:B6 w g n a v)(hk:∀k∈a.Ck,Acp φ g g' n' k)(ho:∀k∈a.TM,Aq0 φ g g' k):B6 w g' n' (a.O0 φ) v:=by
 cases ht:a.Dp with
 |false =>
  rw[B6.iff ht]at h;rw[B6.iff (by rw[AdA];exact ht),wT,pU];exact h.imp id λ⟨cs,h,hv⟩=>⟨cs,CK.cx hi a _ h hk ho,hv⟩
 |true =>
  cases a with
  |cons a b=>obtain⟨vs,e,h⟩:=h;exact⟨vs,e,CK.cx hi _ true h hk ho⟩
  |nil=>exact h
  |_=>cases ht
theorem B6.O0(hi:∀b,g.own b=.Jl->g'.own b=.Jl){a:AV}{v:Value}(h:B6 w g n a v)(hk:∀k∈a.Ck,Ren φ g g' n' k):B6 w g' n' (a.O0 φ) v :=
 h.cx hi (λk h=>(hk k h).r0) λk h=>(hk k (O5 a h)).own
theorem ND.cx(hi:∀b,g.own b=.Jl->g'.own b=.Jl){k:Nat}{b:Blk}(h:ND w g n k b)(hk:Ren φ g g' n' k)(Sk:∀j∈b.Ck,Acp φ g g' n' j)(hO:∀j∈b.TM,Aq0 φ g g' j):ND w g' n' (φ k) (b.O0 φ):=by
 cases b with
 |Bd=>trivial
 |map m kt vt es st =>
  obtain⟨Sl,b,Ht,DK,ha,ho,hh,Tn,hm⟩:=h;have hmm:(m.O0 φ).Ck=m.Ck.map φ:=by cases m<;>rfl
  refine⟨by rw[hmm];exact AbC Sk,b,Ht,DK,by rw[hk.A2];exact ha,hk.own b [] ho,hh,Tn,hm.on λi x c r=>?_⟩;cases m with
  |Aw=>exact Kl.mono (λb q hb=>⟨hk.own b _ hb,rfl⟩) r
  |sh ks=>exact Ii.mono (λb a=>⟨a.AiC hi hO,rfl⟩) r
 |Sm e t xs i p =>
  obtain⟨h1,h2,h3,h4,h5,u,o,x0,b,BA,ds,q1,q2,q3,ha,ho,hh,c1,c2,c3,c4,hc⟩:=h;refine⟨by rw[hk.A2];exact h1,by rw[hk.A2];exact h2,h3,h4,h5,u,o,x0,b,BA,ds,q1,q2,q3,?_⟩;rw[hk.A2];exact⟨ha,hk.own b [] ho,hh,c1,c2,c3,c4,hc.mono λi x c r=>r.mono λb q hb=>⟨hk.own b _ hb,rfl⟩⟩
 |tail e t xs =>
  obtain⟨hf,hlen,QT,BX,hr⟩:=h;refine⟨hf,by rw[hk.A2];exact hlen,by rw[hk.A2];exact QT,BX,?_⟩;rw[hk.A2];exact hr.imp id λ⟨b,o,BA,ds,ha,ho,hh,h1,h2,h3,h4,hc⟩=>⟨b,o,BA,ds,ha,hk.own b [] ho,hh,h1,h2,h3,h4,hc.mono λi x c r=>r.mono λb q hb=>⟨hk.own b _ hb,rfl⟩⟩
 |box a =>
  obtain⟨h1,b,cs,e,ha,ho,hh,hx⟩:=h;exact⟨by rw[hk.A2];exact h1,b,cs,e,by rw[hk.A2];exact ha,hk.own b [] ho,hh,CK.cx hi a _ hx Sk hO⟩
 |row e m t xs =>
  obtain⟨Sl,hlen,QT,BX,hr⟩:=h;have hm:(m.O0 φ).Ck=m.Ck.map φ:=by cases m<;>rfl
  refine⟨by rw[hm];exact AbC Sk,by rw[hk.A2];exact hlen,by rw[hk.A2];exact QT,BX,?_⟩;rw[hk.A2];refine hr.imp id λ⟨b,BA,ds,ha,ho,hh,h1,h2,h3,h4,hc⟩=>⟨b,BA,ds,ha,hk.own b [] ho,hh,h1,h2,h3,h4,?_⟩;cases m with
  |Aw=>exact hc.mono λi x c r=>r.mono λb q hb=>⟨hk.own b _ hb,rfl⟩
  |sh ks=>exact hc.mono λx c r=>r.mono λb a=>⟨a.AiC hi hO,rfl⟩
theorem ND.O0(hi:∀b,g.own b=.Jl->g'.own b=.Jl){k:Nat}{b:Blk}(h:ND w g n k b)(hk:Ren φ g g' n' k)(Sk:∀j∈b.Ck,Ren φ g g' n' j):ND w g' n' (φ k) (b.O0 φ) :=
 h.cx hi hk (λk h=>(Sk k h).r0) λk h=>(Sk k (fu b h)).own
structure Dep (LK:List Nat) (g g':G) (n:Nat):Prop where
 Jl:∀b,g.own b=.Jl->Al g'.own LK b
 BQ:∀b k r,g.own b=.BQ k r->k<n->g'.own b=.BQ k r
 A2:∀k,k<n->g'.A2 k=g.A2 k
 lt:∀k∈LK,k<n
theorem Al.W1{LK:ATU Nat}(d:Dep LK g g' n){ks:ATU Nat}(hk:∀k∈ks,k<n){b:Nat}(h:Al g.own ks b):Al g'.own (ks++LK) b:=by
 rcases h with h |⟨k,hks,r,h⟩
 ·exact(d.Jl b h).mono λk hk=>AQO _ hk
 ·exact .inr ⟨k,AQN _ hks,r,d.BQ b k r h (hk k hks)⟩
theorem AaK{LK ks:ATU Nat}(d:Dep LK g g' n)(hk:∀k∈ks,k<n):∀k∈ks++LK,k<n:=λk h=>by
 rcases List.mem_append.1 h with h |h
 ·grind
 ·exact d.lt k h
theorem CK.W1{LK:ATU Nat}(d:Dep LK g g' n):∀(a:AV) (m:Bool) {cs:ATU Value},CK w g n m a cs->CK w g' n m (a.W1 LK) cs
 |.AB ks t x,false,cs,⟨hk,r⟩=>by
  simp only[AV.W1];cases hf:t.BU with
  |true=>exact⟨by grind,(Ii.BU hf).2 ((Ii.BU hf).1 r)⟩
  |false=>exact⟨by simpa using AaK d hk,by simpa using r.mono λb a=>⟨a.W1 d hk,rfl⟩⟩
 |.zs,false,_,h=>h
 |.AG k,false,_,⟨hk,e⟩=>⟨hk,by rw[d.A2 k hk];exact e⟩
 |.mp k,false,_,⟨hk,b,hb,e⟩=>⟨hk,b,by rw[d.A2 k hk];exact hb,e⟩
 |.ptr k i p o,false,_,⟨hk,h0,h1,b,hb,e⟩=>⟨hk,h0,by rw[d.A2 k hk];exact h1,b,by rw[d.A2 k hk];exact hb,by rw[d.A2 k hk];exact e⟩
 |.FZ ks t x,false,cs,⟨hk,b,off,ds,e,ha,r,hc⟩=>⟨AaK d hk,b,off,ds,e,ha.W1 d hk,r.mono λb a=>⟨a.W1 d hk,rfl⟩,hc⟩
 |.KQ,false,_,h=>h
 |.pr a b,false,_,⟨c,e,he,h1,h2⟩=>⟨c,e,he,CK.W1 d a _ h1,CK.W1 d b _ h2⟩
 |.fn f c,false,_,⟨vs,e,hx⟩=>⟨vs,e,CK.W1 d c true hx⟩
 |.un k,false,_,h=>h
 |.cons a b,true,_,⟨v,r,e,h1,h2⟩=>by
  refine⟨v,r,e,?_,CK.W1 d b true h2⟩;rw[uZ,oI];exact h1.imp id λ⟨cs,hx,hv⟩=>⟨cs,CK.W1 d a _ hx,hv⟩
 |.nil,true,_,h=>h
 |.cons _ _,false,_,h=>h.elim
 |.nil,false,_,h=>h.elim
 |.Vh k i p o e,false,_,⟨hk,h0,h1,b,v,ha,ho,e1,e2,hc⟩=>⟨hk,h0,by rw[d.A2 k hk];exact h1,b,v,by rw[d.A2 k hk];exact ha,d.BQ b k [] ho hk,e1,e2,by rw[d.A2 k hk];exact hc⟩
 |.Xc k i p o j u,false,_,⟨hk,h0,h1,b,b',l,c,ha,ho,e1,e2,hc⟩=>⟨hk,h0,by rw[d.A2 k hk];exact h1,b,b',l,c,by rw[d.A2 k hk];exact ha,d.BQ b k [] ho hk,e1,e2,by rw[d.A2 k hk];exact hc⟩
 |.Xc _ _ _ _ _ _,true,_,h=>h.elim
 |.Vh _ _ _ _ _,true,_,h=>h.elim
 |.AB _ _ _,true,_,h=>h.elim
 |.zs,true,_,h=>h.elim
 |.AG _,true,_,h=>h.elim
 |.mp _,true,_,h=>h.elim
 |.ptr _ _ _ _,true,_,h=>h.elim
 |.FZ _ _ _,true,_,h=>h.elim
 |.KQ,true,_,h=>h.elim
 |.pr _ _,true,_,h=>h.elim
 |.fn _ _,true,_,h=>h.elim
 |.un _,true,_,h=>h.elim
theorem B6.W1{LK:ATU Nat}(d:Dep LK g g' n){a:AV}{v:Value}(h:B6 w g n a v):B6 w g' n (a.W1 LK) v:=by
 cases ht:a.Dp with
 |false =>
  rw[B6.iff ht]at h;rw[B6.iff (by rw[AcN];exact ht),uZ,oI];exact h.imp id λ⟨cs,h,hv⟩=>⟨cs,CK.W1 d a _ h,hv⟩
 |true =>
  cases a with
  |cons a b=>obtain⟨vs,e,h⟩:=h;exact⟨vs,e,CK.W1 d _ true h⟩
  |nil=>exact h
  |_=>cases ht
theorem ND.W1{LK:ATU Nat}(d:Dep LK g g' n){k:Nat}(hk:k<n){b:Blk}(h:ND w g n k b):ND w g' n k (b.W1 LK):=by
 cases b with
 |Bd=>trivial
 |map m kt vt es st =>
  obtain⟨Sl,b,Ht,DK,ha,ho,hh,Tn,hm⟩:=h;refine⟨?_,b,Ht,DK,by rw[d.A2 k hk];exact ha,d.BQ b k [] ho hk,hh,Tn,hm.on λi x c r=>?_⟩
  ·cases m with
   |Aw=>exact Sl
   |sh ks=>exact AaK d Sl
  ·cases m with
   |Aw=>exact Kl.mono (λb q hb=>⟨d.BQ b k _ hb hk,rfl⟩) r
   |sh ks=>exact Ii.mono (λb a=>⟨a.W1 d Sl,rfl⟩) r
 |Sm e t xs i p =>
  obtain⟨h1,h2,h3,h4,h5,u,o,x0,b,BA,ds,q1,q2,q3,ha,ho,hh,c1,c2,c3,c4,hc⟩:=h;refine⟨by rw[d.A2 k hk];exact h1,by rw[d.A2 k hk];exact h2,h3,h4,h5,u,o,x0,b,BA,ds,q1,q2,q3,?_⟩;rw[d.A2 k hk];exact⟨ha,d.BQ b k [] ho hk,hh,c1,c2,c3,c4,hc.mono λi x c r=>r.mono λb q hb=>⟨d.BQ b k _ hb hk,rfl⟩⟩
 |tail e t xs =>
  obtain⟨hf,hlen,QT,BX,hr⟩:=h;refine⟨hf,by rw[d.A2 k hk];exact hlen,by rw[d.A2 k hk];exact QT,BX,?_⟩;rw[d.A2 k hk];exact hr.imp id λ⟨b,o,BA,ds,ha,ho,hh,h1,h2,h3,h4,hc⟩=>⟨b,o,BA,ds,ha,d.BQ b k [] ho hk,hh,h1,h2,h3,h4,hc.mono λi x c r=>r.mono λb q hb=>⟨d.BQ b k _ hb hk,rfl⟩⟩
 |box a =>
  obtain⟨h1,b,cs,e,ha,ho,hh,hx⟩:=h;exact⟨by rw[d.A2 k hk];exact h1,b,cs,e,by rw[d.A2 k hk];exact ha,d.BQ b k [] ho hk,hh,CK.W1 d a _ hx⟩
 |row e m t xs =>
  obtain⟨Sl,hlen,QT,BX,hr⟩:=h;refine⟨?_,by rw[d.A2 k hk];exact hlen,by rw[d.A2 k hk];exact QT,BX,?_⟩
  ·cases m with
   |Aw=>exact Sl
   |sh ks=>exact AaK d Sl
  ·rw[d.A2 k hk];refine hr.imp id λ⟨b,BA,ds,ha,ho,hh,h1,h2,h3,h4,hc⟩=>⟨b,BA,ds,ha,d.BQ b k [] ho hk,hh,h1,h2,h3,h4,?_⟩;cases m with
   |Aw=>exact hc.mono λi x c r=>r.mono λb q hb=>⟨d.BQ b k _ hb hk,rfl⟩
   |sh ks=>exact hc.mono λx c r=>r.mono λb a=>⟨a.W1 d Sl,rfl⟩
end
end Go.Va
namespace Go.Va
def DI(w:World)(g:G)(n:Nat):ATU AV->ATU Value->Prop
 |[],[]=>True
 |a::ng,v::vs=>B6 w g n a v/\DI w g n ng vs
 |_,_=>False
structure Ao (P:Program) (f:FuncId) (c:Callee):Prop where
 bB:jG c
 snd:∀(args:List AV) (E:List Blk) (av:AV) (E':List Blk),c.run (AV×List Blk) args E (λv b=>some (v,b))=some (av,E')->E.length<=E'.length /\
  ∀(w:World) (g:G) (vs:List Value),Bi w g E->DI w g E.length args vs->∀(o:Oper) (a:Act) (next:Act->World->Prop) (Q:Exit->Act->World->Prop),
   (∀v w' g',Bi w' g' E'->B6 w' g' E'.length av v->Step (List.range E.length) E.length w g w' g'->next (a.put o.dst v) w')->o.upon P a next Q ((callFunc f vs.toArray).run P w)
theorem rX:∀{π:ATU Nat} {k:Nat},k∈π->idxOf π k<π.length
 |x::r,k,h=>by
  simp only[idxOf];split
  ·simp
  ·rename_i LN;have:k∈r:=by
    rcases List.mem_cons.1 h with h |h
    ·subst h;simp at LN
    ·exact h
   have:=rX this;simp;omega
theorem rW:∀{π:ATU Nat} {k:Nat},k∈π->π[idxOf π k]?=some k
 |x::r,k,h=>by
  simp only[idxOf];split
  ·rename_i he;simp at he;simp[he]
  ·rename_i LN;have:k∈r:=by
    rcases List.mem_cons.1 h with h |h
    ·subst h;simp at LN
    ·exact h
   simpa using rW this
theorem fP:∀{π:ATU Nat} {j k:Nat},nodup π=true->π[j]?=some k->idxOf π k=j
 |x::r,0,k,_,h=>by simp at h;subst h;simp[idxOf]
 |x::r,j+1,k,hn,h=>by
  simp only[nodup,AQm,ARC]at hn;have hr:r[j]?=some k:=by simpa using h
  have:x≠k:=λe=>by
   subst e;have hm:x∈r:=ARB hr;have:=hn.1;simp[hm]at this
  simp only[idxOf];rw[AQy (by simpa using this),fP hn.2 hr]
theorem lZ:∀{π:ATU Nat} {L bs:ATU Blk} {k:Nat} {x:Blk},L.length=π.length->(Ry bs π L)[k]?=some x->(k∉π/\bs[k]?=some x)\/∃j:Nat,π[j]?=some k/\L[j]?=some x
 |[],[],bs,k,x,_,h=>.inl ⟨by simp,h⟩
 |p::π,b::L,bs,k,x,hl,h=>by
  rcases lZ (π:=π) (L:=L) (by simpa using hl) h with ⟨h1,h2⟩|⟨j,h1,h2⟩
  ·rw[AQE]at h2;split at h2
   ·rename_i he;subst he;split at h2
    ·injection h2 with h2;exact .inr ⟨0,rfl,by rw[<-h2];rfl⟩
    ·cases h2
   ·rename_i LN;exact .inl ⟨by simp only[ARP,not_or];exact⟨λe=>LN e.symm,h1⟩,h2⟩
  ·exact .inr ⟨j+1,by simpa using h1,by simpa using h2⟩
 |[],_::_,_,_,_,hl,_=>by simp at hl
 |_::_,[],_,_,_,hl,_=>by simp at hl
theorem cA:∀(π:ATU Nat) (L bs:ATU Blk),(Ry bs π L).length=bs.length
 |[],_,_=>by simp[Ry]
 |_::_,[],_=>by simp[Ry]
 |p::π,b::L,bs=>by rw[Ry,cA π L,AQo]
def G.call(g:G)(π π1 LK:ATU Nat):G:=⟨λb=>match g.own b with |.Jl=>.Jl |.BQ k r=>if k∈π1 then .BQ (idxOf π k) r else if k∈LK then .Jl else .no |.no=>.no,λj=>g.A2 (π.getD j 0)⟩
def G.ret(g gc:G)(n:Nat)(π π1:ATU Nat):G :=
 ⟨λb=>match gc.own b with |.BQ j r=>.BQ (Zf n π j) r |t=>match g.own b with |.BQ k r=>if k∈π1 then t else .BQ k r |_=>t,λk=>if k<n then g.A2 k else gc.A2 (k-n+π.length)⟩
def G.back(g gc:G)(n:Nat)(π:ATU Nat):G:=⟨λb=>match gc.own b with |.BQ j r=>.BQ (Zf n π j) r |t=>t,λk=>if k<n then g.A2 k else gc.A2 (k-n+π.length)⟩
section
variable {w:World} {g:G} {bs:ATU Blk} {π π1 LK:ATU Nat}
theorem fz{k:Nat}(hk:k∈π):Acp (idxOf π) g (g.call π π1 LK) π.length k:=by
 refine⟨rX hk,?_⟩;have:=rW hk;simp[G.call,List.getD,this]
theorem km{k:Nat}(hk:k∈π)(h1:k∈π1):Ren (idxOf π) g (g.call π π1 LK) π.length k where
 lt:=rX hk
 A2:=(fz hk).2
 own b r h:=by simp[G.call,h,h1]
theorem kl{b:Nat}(h:g.own b=.Jl):(g.call π π1 LK).own b=.Jl:=by simp[G.call,h]
theorem Xv(hb:∀k∈LK,k∉π1){ks:ATU Nat}(hk:∀k∈ks,k∈LK){b:Nat}(h:Al g.own ks b):Al (g.call π π1 LK).own [] b:=by
 rcases h with h |⟨k,hks,r,h⟩
 ·exact .inl (kl h)
 ·have h1:=hk k hks;exact .inl (by simp[G.call,h,hb k h1,h1])
theorem AcE(H:Bi w g bs){Y4:ATU Nat}(hn:nodup π=true)(h1:∀k∈π,k∉Y4->k∈π1)(OO:∀k∈π,∃b,bs[k]?=some b/\(∀j∈b.Ck,j∈π)/\(k∈Y4\/∀j∈b.TM,j∉Y4)):Bi w (g.call π π1 LK) (π.map λk=>bif Y4.contains k then .Bd else((bs[k]?).getD .Bd).O0 (idxOf π)):=by
 refine⟨λb hb=>by simp[G.call,H.B3 b hb],λj x hx=>?_⟩;rw[AQI]at hx;cases hj:π[j]? with
 |none=>rw[hj]at hx;cases hx
 |some k =>
  rw[hj]at hx;injection hx with hx;subst hx;have hk:k∈π:=ARB hj;obtain⟨b,hb,Sk,hh⟩:=OO k hk;cases hc:Y4.contains k with
  |true=>simp only[hc,AQv];trivial
  |false =>
   have hkh:k∉Y4:=by simpa using hc
   have AGp:=hh.resolve_left hkh;have:=(H.MR k b hb).cx (φ:=idxOf π) (g':=g.call π π1 LK) (n':=π.length) (λb h=>kl h) (km hk (h1 k hk hkh)) (λj hj=>fz (Sk j hj)) λj hj=>(km (Sk j (fu b hj)) (h1 j (Sk j (fu b hj)) (AGp j hj))).own;rw[fP hn hj]at this;simp only[hc,hb,Option.getD_some,AQr,AQu];exact this
theorem cw{t:Ty}{v:AV}{y:t.V}(h:rd bs t v=some y):v.isAgg=t.isAgg:=by
 have plain:∀(t:Ty) (ks:ATU Nat) (u:Ty) (z:u.V) (y:t.V),JQ u t z=some y->(AV.AB ks u z).isAgg=t.isAgg:=λt ks u z y h=>by
  obtain⟨e,_⟩:=BO h;subst e;rfl
 cases t with
 |AH a b=>cases v<;>simp only[rd,reduceCtorEq]at h<;>first |exact plain _ _ _ _ _ h |rfl
 |sl t=>cases v<;>simp only[rd,reduceCtorEq]at h<;>first |exact plain _ _ _ _ _ h |rfl
 |int k=>cases v<;>simp only[rd,reduceCtorEq]at h<;>exact plain _ _ _ _ _ h
 |bool=>cases v<;>simp only[rd,reduceCtorEq]at h<;>exact plain _ _ _ _ _ h
 |str=>cases v<;>simp only[rd,reduceCtorEq]at h<;>exact plain _ _ _ _ _ h
 |unit=>cases v<;>simp only[rd,reduceCtorEq]at h<;>exact plain _ _ _ _ _ h
 |Sp z=>cases v<;>simp only[rd,reduceCtorEq]at h<;>exact plain _ _ _ _ _ h
theorem AkF(H:Bi w g bs){k:Nat}{i:Int}{a:AV}(h:atB bs k i=some a)(hi:i.toNat<(g.A2 k).len){b:Nat}(hb:(g.A2 k).a=some ⟨b,0,none⟩):g.own b=.BQ k []:=by
 unfold atB at h;split at h
 ·rename_i a' hx;obtain⟨h1,b',cs,e,ha,ho,hh,hr⟩:=H.MR k _ hx;rw[hb]at ha;injection ha with ha;injection ha with ha;subst ha;exact ho
 ·rename_i e m t xs hx;obtain⟨Sl,hlen,QT,BX,hr⟩:=H.MR k _ hx;rcases hr with ⟨al,_⟩|⟨b',BA,ds,ha,ho,_⟩
  ·rw[hlen,al]at hi;simp at hi
  ·rw[hb]at ha;injection ha with ha;injection ha with ha;subst ha;exact ho
 ·cases h
theorem Avh(H:Bi w g bs)(hb:∀k∈LK,k∉π1){m:PM}{v a:AV}{l:ATU Nat}(h:yW bs m v=some (a,l))(hl:∀k∈l,k∈LK)(hr:∀k∈Afl m v,k∈π)(hh:∀k∈a.TM,k∈π->k∈π1){x:Value}(hx:B6 w g bs.length v x):B6 w (g.call π π1 LK) π.length (a.O0 (idxOf π)) x:=by
 cases m with
 |d t =>
  simp only[yW]at h;split at h
  ·rename_i y hy;simp only[AQh,AQs]at h;obtain⟨rfl,rfl⟩:=h;obtain⟨Zy,SJ⟩:=Xd hy;obtain⟨cs,UN,hv⟩:=B4 Zy SJ hx;refine Bv rfl (cs:=cs) ⟨λk hk=>by(cases hk),(Rx H t v y cs hy UN).1.mono λb hA=>⟨Xv hb hl hA,rfl⟩⟩ ?_;rw[cw hy]at hv;exact hv
  ·cases h
 |p t =>
  cases v with
  |FZ ks u y =>
   simp only[yW]at h;split at h
   ·rename_i z hz;simp only[AQh,AQs]at h;obtain⟨rfl,rfl⟩:=h;obtain⟨e,he⟩:=BO hz;subst e;simp only at he;subst he;obtain⟨hk,b,off,ds,rfl,ha,nH,hc⟩:=Z2 hx;exact fY (λk hk=>by cases hk) (Xv hb hl ha) (nH.mono λb hA=>⟨Xv hb hl hA,rfl⟩) hc
   ·cases h
  |ptr k i p o =>
   simp only[yW]at h;split at h
   ·rename_i c hc;split at h
    ·rename_i y hy;simp only[AQh,AQs]at h;obtain⟨rfl,rfl⟩:=h;obtain⟨hk,h0,h1,b,OM,rfl⟩:=L1 hx;obtain⟨cs,UN,DW⟩:=Xr H hc h1 OM;have Cv:g.own b=.BQ k []:=by
      unfold atP at hc;split at hc
      ·rename_i d hd;exact AkF H hd h1 OM
      ·cases hc
     exact fY (λk hk=>by cases hk) (Xv hb hl (.mem (AQK) Cv)) ((Rx H t c y cs hy UN).1.mono λb hA=>⟨Xv hb hl (hA.mono λk hk=>AQH _ hk),rfl⟩) DW
    ·cases h
   ·cases h
  |_=>simp[yW]at h
 |VA =>
  simp only[yW,AQh,AQs]at h;obtain⟨rfl,rfl⟩:=h;exact hx.cx (λb h=>kl h) (λk hk=>fz (hr k hk)) λk hk=>(km (hr k (O5 _ hk)) (hh k hk (hr k (O5 _ hk)))).own
theorem AaM(H:Bi w g bs)(hb:∀k∈LK,k∉π1):∀{ms:ATU PM} {vs ng:ATU AV} {l bG:ATU Nat} {xs:ATU Value},jU bs ms vs=some (ng,l,bG)->(∀k∈l,k∈LK)->(∀k∈bG,k∈π)->(∀a∈ng,∀k∈a.TM,k∈π->k∈π1)->DI w g bs.length vs xs ->
    DI w (g.call π π1 LK) π.length (ng.map (·.O0 (idxOf π))) xs
 |[],[],ng,l,bG,[],h,_,_,_,_=>by
  simp only[jU,AQh,AQs]at h;obtain⟨rfl,_,_⟩:=h;trivial
 |m::ms,v::vs,ng,l,bG,x::xs,h,hl,hr,hh,hx=>by
  simp only[jU]at h;split at h
  ·rename_i a l1 ANH ls rs h1 h2;simp only[AQh,AQs]at h;obtain⟨rfl,rfl,rfl⟩:=h;exact⟨Avh H hb h1 (λk hk=>hl k (AQN _ hk)) (λk hk=>hr k (AQN _ hk)) (hh a (by simp)) hx.1,
    AaM H hb h2 (λk hk=>hl k (AQO _ hk)) (λk hk=>hr k (AQO _ hk)) (λa ha=>hh a (by simp[ha])) hx.2⟩
  ·cases h
 |[],[],_,_,_,_::_,_,_,_,_,hx=>hx.elim
 |[],_::_,_,_,_,_,h,_,_,_,_=>by simp[jU]at h
 |_::_,[],_,_,_,_,h,_,_,_,_=>by simp[jU]at h
 |_::_,_::_,_,_,_,[],_,_,_,_,hx=>hx.elim
end
end Go.Va
namespace Go.Va
theorem qH{n:Nat}{π:ATU Nat}{j k:Nat}(h:π[j]?=some k):Zf n π j=k:=by simp[Zf,h]
theorem qG{n:Nat}{π:ATU Nat}{j:Nat}(h:π.length<=j):Zf n π j=n+(j-π.length):=by
 have:π[j]?=none:=AQT h;simp[Zf,this]
theorem AcO(bs:ATU Blk):Be [] bs=bs:=rfl
theorem oE{P:Program}{f:FuncId}{c:Callee}(hc:Ao P f c){bs:ATU Blk}{args:ATU AV}{e:Ih}(h:Zk c bs args some=some e) :
    bs.length<=e.Aj.length/\(e.BF=[]->∃l,e.Aj=bs++l)/\∀(w:World) (g:G) (vs:ATU Value),Bi w g bs->DI w g bs.length args vs->∀(o:Oper) (a:Act) (next:Act->World->Prop) (Q:Exit->Act->World->Prop),
     (∀v w' g',Bi w' g' e.Aj->B6 w' g' e.Aj.length e.val v->Step e.BF bs.length w g w' g'->next (a.put o.dst v) w')->o.upon P a next Q ((callFunc f vs.toArray).run P w):=by
 unfold Zk at h;split at h
 ·cases h
 ·rename_i ng LK bG Abn
  dsimp only at h
  split at h
  ·rename_i hck;simp only[AQm]at hck;obtain⟨⟨⟨⟨⟨AJS,Tn⟩,Awi⟩,OO⟩,hhd⟩,AGk⟩:=hck;generalize hπ:pS bs bs.length (iP [] bG)=π at *;generalize AOw:(π.filter λk=>c.Adf.contains (idxOf π k))=Y4 at *;generalize hπ1:(π.filter λk=>!Y4.contains k)=π1 at *;rw[hc.bB]at h;cases Ep:c.run (AV×ATU Blk) (ng.map (·.O0 (idxOf π))) (π.map λk=>bif Y4.contains k then .Bd else((bs[k]?).getD .Bd).O0 (idxOf π)) λv b=>some (v,b)with
   |none=>rw[Ep]at h;cases h
   |some p =>
    obtain⟨av,E'⟩:=p;rw[Ep]at h;simp only[AQf]at h;split at h
    ·rename_i Tl;injection h with h;subst h;obtain⟨QC,Q3⟩:=hc.snd _ _ _ _ Ep;rw[AQr]at QC Q3;have Aid:∀k,k∈π1↔k∈π/\k∉Y4:=λk=>by rw[<-hπ1];simp
     have AGc:∀k∈LK,k∉π/\k<bs.length:=λk hk=>by
      have:=List.all_eq_true.1 AJS k hk;simpa using this
     have hbp:∀k∈LK,k∉π1/\k<bs.length:=λk hk=>⟨λh=>(AGc k hk).1 ((Aid k).1 h).1,(AGc k hk).2⟩;have Ahl:∀k∈π,∃b,bs[k]?=some b/\(∀j∈b.Ck,j∈π)/\(k∈Y4\/∀j∈b.TM,j∉Y4):=λk hk=>by
      have:=List.all_eq_true.1 OO k hk;split at this
      ·rename_i b hb;simp only[AQm,ARA]at this;exact⟨b,hb,λj hj=>by have:=List.all_eq_true.1 this.1 j hj;simpa using this,this.2.imp (λh=>by simpa using h) λh j hj=>by have:=List.all_eq_true.1 h j hj;simpa using this⟩
      ·cases this
     have hr':∀k∈bG,k∈π:=λk hk=>by have:=List.all_eq_true.1 Awi k hk;simpa using this
     have hh':∀a∈ng,∀k∈a.TM,k∈π->k∈π1:=λa ha k hk hp=>(Aid k).2 ⟨hp,by have:=List.all_eq_true.1 (List.all_eq_true.1 hhd a ha) k hk;simpa using this⟩;have AKY:∀k∈π,k<bs.length:=λk hk=>by obtain⟨b,hb,_⟩:=Ahl k hk;exact A4 hb
     let n:=bs.length
     let φ:=Zf n π
     let E1:=List.zipWith (λk b=>bif Y4.contains k then((Be π1 bs)[k]?).getD .Bd else(b.O0 φ).W1 LK) π E'
     let E2:=(E'.drop π.length).map λb=>(b.O0 φ).W1 LK
     have hE1:E1.length=π.length:=by simp only[E1,List.length_zipWith];omega
     have hlen:(Ry (Be π1 bs) π E1++E2).length=n+(E'.length-π.length):=by
      rw[AQj,cA,AJ];simp[E2,n]
     refine⟨by show n<=(Ry (Be π1 bs) π E1++E2).length;rw[hlen];omega,λh0=>?_,λw g vs H hx o a next Q hn=>?_⟩
     ·have h0:π1=[]:=h0;have h0':π=[]:=by rw[h0]at AGk;simpa using AGk
      refine⟨E2,?_⟩;show Ry (Be π1 bs) π E1++E2=_;rw[h0,h0'];simp[Ry,AcO]
     ·have Hc:=AcE (LK:=LK) H Tn (λk h1 h2=>(Aid k).2 ⟨h1,h2⟩) Ahl;have Ac:=AaM (LK:=LK) H (λk hk=>(hbp k hk).1) Abn (λk hk=>hk) hr' hh' hx;refine Q3 w (g.call π π1 LK) vs Hc Ac o a next Q λv w' gc H' hv st=>?_
      let g1:=g.back gc n π
      let g':=g.ret gc n π π1
      have Bp:∀b,g.own b≠.no->b<w.heap.size:=λb h=>VP H h;have WE:∀b k r,g.own b=.BQ k r->k∉π1->(gc.own b=.Jl/\k∈LK\/gc.own b=.no)/\w'.heap[b]?=w.heap[b]?:=λb k r hb hk=>by
       by_cases hkb:k∈LK
       ·have:=st.Jl b (by simp[G.call,hb,hk,hkb]);exact⟨.inl ⟨this.1,hkb⟩,this.2⟩
       ·have:=st.no b (Bp b (by rw[hb];simp)) (by simp[G.call,hb,hk,hkb]);exact⟨.inr this.1,this.2⟩
      have BS:Step π1 n w g w' g':=by
       refine⟨st.os,st.tape,st.output,st.size,λb hb h=>?_,λb h=>?_,λb k r h hk hm=>?_,λk hk=>?_⟩
       ·have:=st.no b hb (by simp[G.call,h]);exact⟨by simp[g',G.ret,this.1,h],this.2⟩
       ·have:=st.Jl b (by simp[G.call,h]);exact⟨by simp[g',G.ret,this.1,h],this.2⟩
       ·obtain⟨h1,h2⟩:=WE b k r h hm;refine⟨?_,h2⟩;rcases h1 with ⟨h1,_⟩|h1<;>simp[g',G.ret,h1,h,hm]
       ·have X0:k<bs.length:=hk;simp[g',G.ret,n,X0]
      have Al7:∀j,j<E'.length->Ren φ gc g1 (n+(E'.length-π.length)) j:=λj hj=>by
       rcases AQq j π.length with bj |bj
       ·obtain⟨k,hk⟩:∃k,π[j]?=some k:=⟨_,ARo bj⟩;have hkm:k∈π:=ARB hk;have gM:k<bs.length:=AKY k hkm;refine⟨by rw[show φ j=k from qH hk];omega,?_,λb r hb=>by simp[g1,G.back,hb,φ]⟩;rw[show φ j=k from qH hk];have h1:gc.A2 j=(g.call π π1 LK).A2 j:=st.A2 j bj;rw[h1];simp[g1,G.back,n,gM,G.call,List.getD,hk]
       ·refine⟨by rw[show φ j=n+(j-π.length)from qG bj];omega,?_,λb r hb=>by simp[g1,G.back,hb,φ]⟩;rw[show φ j=n+(j-π.length)from qG bj];have:¬n+(j-π.length)<n:=by omega
        simp only[g1,G.back,AQy this];congr 1;omega
      have kW:∀b,gc.own b=.Jl->g1.own b=.Jl:=λb hb=>by simp[g1,G.back,hb]
      have AGh:Dep LK g1 g' (n+(E'.length-π.length)):=by
       refine⟨λb hb=>?_,λb k r hb hk=>?_,λk hk=>rfl,λk hk=>by have:=(hbp k hk).2;omega⟩
       ·have hgc:gc.own b=.Jl:=by
          simp only[g1,G.back]at hb;split at hb
          ·cases hb
          ·exact hb
        cases hg:g.own b with
        |no=>exact .inl (by simp[g',G.ret,hgc,hg])
        |Jl=>exact .inl (by simp[g',G.ret,hgc,hg])
        |BQ k r =>
         by_cases hk:k∈π1
         ·exact .inl (by simp[g',G.ret,hgc,hg,hk])
         ·obtain⟨h1,_⟩:=WE b k r hg hk;rcases h1 with ⟨_,hkb⟩|h1
          ·exact .inr ⟨k,hkb,r,by simp[g',G.ret,hgc,hg,hk]⟩
          ·rw[hgc]at h1;cases h1
       ·simp only[g1,G.back]at hb;split at hb
        ·rename_i j r' hj;simp only[g',G.ret,hj];exact hb
        ·rename_i h1;exact(h1 k r hb).elim
      refine hn v w' g' ⟨λb hb=>?_,λk x hx=>?_⟩ ?_ BS
      ·have h1:=H'.B3 b hb;have h2:=H.B3 b (AQJ st.size hb);simp[g',G.ret,h1,h2]
      ·have hx:(Ry (Be π1 bs) π E1++E2)[k]?=some x:=hx;show ND w' g' (Ry (Be π1 bs) π E1++E2).length k x;rw[hlen];have one:∀(j:Nat) (b:Blk),E'[j]?=some b->ND w' g' (n+(E'.length-π.length)) (φ j) ((b.O0 φ).W1 LK):=λj b hj=>by
        have bj:=A4 hj;have hb:=H'.MR j b hj;have hbr:=hb.O0 kW (Al7 j bj) λi hi=>Al7 i (by
         cases b with
         |Bd=>cases hi
         |map m kt vt es st=>exact hb.1 i hi
         |Sm e t xs i' p=>cases hi
         |tail e t xs=>cases hi
         |box a=>obtain⟨_,_,_,_,_,_,_,hx⟩:=hb;exact CK.UQ a false hx i hi
         |row e m t xs=>exact hb.1 i hi)
        exact hbr.W1 AGh (Al7 j bj).lt
       rw[AQF]at hx;split at hx
       ·have pH:∀y,(Be π1 bs)[k]?=some y->k∉π1->ND w' g' (n+(E'.length-π.length)) k y:=λy hy hk=>by
          obtain⟨z,hz,rfl⟩:=Du hy;exact(H.MR k z hz).step BS (by omega) (A4 hz) hk
        rcases lZ hE1 hx with ⟨hk,h⟩|⟨j,hj,h⟩
        ·exact pH x h λh1=>hk ((Aid k).1 h1).1
        ·simp only[E1,List.getElem?_zipWith,hj]at h;cases hq:E'[j]? with
         |none=>rw[hq]at h;cases h
         |some b =>
          rw[hq]at h;injection h with h;cases hc:Y4.contains k with
          |true =>
           rw[hc,AQv]at h;have hkh:k∈Y4:=by simpa using hc
           cases hd:(Be π1 bs)[k]? with
           |none=>rw[hd]at h;subst h;trivial
           |some y=>rw[hd]at h;subst h;exact pH _ hd λh1=>((Aid k).1 h1).2 hkh
          |false =>
           rw[hc,AQu]at h;subst h;have:=one j b hq;rwa [show φ j=k from qH hj]at this
       ·rename_i hk;rw[cA,AJ]at hx hk;simp only[E2,AQI,List.getElem?_drop]at hx;cases hq:E'[π.length+(k-bs.length)]? with
        |none=>rw[hq]at hx;cases hx
        |some b =>
         rw[hq]at hx;injection hx with hx;subst hx;have:=one _ b hq;rwa [show φ (π.length+(k-bs.length))=k from by
          rw[show φ (π.length+(k-bs.length))=n+(π.length+(k-bs.length)-π.length)from qG (by omega)];simp only[n];omega]at this
      ·show B6 w' g' (Ry (Be π1 bs) π E1++E2).length ((av.O0 φ).W1 LK) v;rw[hlen];exact(hv.O0 kW λk hk=>Al7 k (hv.UQ k hk)).W1 AGh
    ·cases h
  ·cases h
def Aob(l:ATU Nat)(c:Callee):Callee:={c with Adf:=l}
theorem AhZ{P:Program}{f:FuncId}{c:Callee}(l:ATU Nat)(h:Ao P f c):Ao P f (Aob l c):=⟨h.bB,h.snd⟩
end Go.Va
namespace Go.Va
theorem sN{r q L:ATU Nat}{a b:Nat}(h:(r++a::L) <:+ (q++b::L)):a=b:=by
 obtain⟨s,hs⟩:=h;have:(s++r)++(a::L)=q++(b::L):=by grind
 have:=List.append_inj_right' this rfl;injection this
theorem lz:∀(f:Nat) (L:ATU Nat),∃r,sj f L=r++L
 |0,L=>⟨[0],rfl⟩
 |f+1,L=>by
  obtain⟨r,h⟩:=lz f _;exact⟨r++[1],by rw[sj,h];simp⟩
theorem dU:∀(p L:ATU Nat),∃r,VO p L=r++L
 |[],L=>⟨[],rfl⟩
 |f::p,L=>by
  obtain⟨r,hr⟩:=dU p _;obtain⟨s,hs⟩:=lz f L;exact⟨r++s,by rw[VO,hr,hs,AQn]⟩
def Fr(w:World)(own:Nat->VC)(w':World)(OX:Nat->VC)(k:Nat)(P:ATU Nat):Prop:=∀b q,own b=.BQ k q->¬P <:+ q->OX b=.BQ k q/\w'.heap[b]?=w.heap[b]?
def Aku(w:World)(own:Nat->VC)(k:Nat)(u:Ty)(zs:ATU u.V)(P:ATU Nat)(t:Ty)(L:ATU Nat)(x':t.V)(ys:ATU u.V)(cs:ATU Value)(o:Nat):Prop :=
 ∃c0 c1 c2,cs=c0++c1++c2/\c0.length=o/\Kl w own k (.sl u) P ys c1/\∀w' OX Um,Fr w own w' OX k P->Kl w' OX k (.sl u) P zs Um->Kl w' OX k t L x' (c0++Um++c2)
section
variable {w:World} {own:Nat->VC} {k:Nat} {u:Ty} {zs:ATU u.V}
theorem sib{w':World}{OX:Nat->VC}{P:ATU Nat}{t:Ty}{L:ATU Nat}{x:t.V}{cs:ATU Value}(mU:Fr w own w' OX k P)(hP:∀q,¬P <:+ (q++L))(h:Kl w own k t L x cs):Kl w' OX k t L x cs :=
 h.mono λb q hb=>mU b _ hb (hP q)
theorem vN(p:ATU Nat)(ih:∀(t:Ty) (L:ATU Nat) (x x':t.V) (cs:ATU Value) (o:Nat) (ys:ATU u.V),T7 (.sl u) zs p t x=some x'->kR (.sl u) p t x=some ys->Mk t p=some o->Kl w own k t L x cs->Aku w own k u zs (VO p L) t L x' ys cs o) :
    ∀(f:Nat) (t:Ty) (L:ATU Nat) (x x':t.V) (cs:ATU Value) (t1:Ty) (o1 o2:Nat) (ys:ATU u.V),S3 t x f (λt' y=>T7 (.sl u) zs p t' y)=some x'->AvG t x f (λt' y=>kR (.sl u) p t' y)=some ys ->
     mX t f=some t1->V2 t f=some o1->Mk t1 p=some o2->Kl w own k t L x cs->Aku w own k u zs (VO p (sj f L)) t L x' ys cs (o1+o2)
 |0,.AH a b,L,x,x',cs,t1,o1,o2,ys,hs,hg,ht,ho,x9,h=>by
  obtain⟨c,d,e,h1,h2⟩:=h;simp only[mX,AQh]at ht;subst ht;simp only[V2,AQh]at ho;simp only[S3]at hs;split at hs
  ·rename_i y hy;injection hs with hs;subst hs;obtain⟨c0,c1,c2,e2,hl,hr,hk⟩:=ih a (0::L) x.1 y c o2 ys hy hg x9 h1;refine⟨c0,c1,c2++d,by grind,by omega,hr,λw' OX Um mU hz=>⟨c0++Um++c2,d,by grind,hk w' OX Um mU hz,sib mU (λq hq=>?_) h2⟩⟩;obtain⟨r,hr⟩:=dU p (sj 0 L);rw[hr]at hq;have:=sN (r:=r) (q:=q) (L:=L) (a:=0) (b:=1) hq;cases this
  ·grind
 |f+1,.AH a b,L,x,x',cs,t1,o1,o2,ys,hs,hg,ht,ho,x9,h=>by
  obtain⟨c,d,e,h1,h2⟩:=h;simp only[V2]at ho;split at ho
  ·rename_i o3 ho3;injection ho with ho;simp only[S3]at hs;split at hs
   ·rename_i y hy;injection hs with hs;subst hs;obtain⟨c0,c1,c2,e2,hl,hr,hk⟩:=vN p ih f b (1::L) x.2 y d t1 o3 o2 ys hy hg ht ho3 x9 h2;refine⟨c++c0,c1,c2,by grind,by rw[AQj,h1.len];omega,hr,λw' OX Um mU hz=>⟨c,c0++Um++c2,by grind,sib mU (λq hq=>?_) h1,hk w' OX Um mU hz⟩⟩;obtain⟨r,hr⟩:=dU p (sj (f+1) L);obtain⟨s,hs⟩:=lz f (1::L);rw[hr,sj,hs,<-AQn]at hq;have:=sN (r:=r++s) (q:=q) (L:=L) (a:=1) (b:=0) hq;cases this
   ·grind
  ·grind
 |f,.int _,_,_,_,_,_,_,_,_,hs,_,_,_,_,_=>by simp[S3]at hs
 |f,.bool,_,_,_,_,_,_,_,_,hs,_,_,_,_,_=>by simp[S3]at hs
 |f,.str,_,_,_,_,_,_,_,_,hs,_,_,_,_,_=>by simp[S3]at hs
 |f,.unit,_,_,_,_,_,_,_,_,hs,_,_,_,_,_=>by simp[S3]at hs
 |f,.sl _,_,_,_,_,_,_,_,_,hs,_,_,_,_,_=>by simp[S3]at hs
 |f,.Sp _,_,_,_,_,_,_,_,_,hs,_,_,_,_,_=>by simp[S3]at hs
theorem lL:∀(p:ATU Nat) (t:Ty) (L:ATU Nat) (x x':t.V) (cs:ATU Value) (o:Nat) (ys:ATU u.V),T7 (.sl u) zs p t x=some x'->kR (.sl u) p t x=some ys->Mk t p=some o->Kl w own k t L x cs->Aku w own k u zs (VO p L) t L x' ys cs o
 |[],t,L,x,x',cs,o,ys,hs,hg,ho,h=>by
  simp only[Mk,AQh]at ho;subst ho;obtain⟨e,he⟩:=BO hs;obtain⟨e',he'⟩:=BO hg;subst e;subst he;subst he';exact⟨[],cs,[],by simp,rfl,h,λw' OX Um _ hz=>by simpa [VO]using hz⟩
 |f::p,t,L,x,x',cs,o,ys,hs,hg,ho,h=>by
  simp only[Mk]at ho;split at ho
  ·rename_i t1 o1 h1 h2;split at ho
   ·rename_i o2 h3;injection ho with ho;subst ho;exact vN p (lL p) f t L x x' cs t1 o1 o2 ys hs hg h1 h2 h3 h
   ·grind
  ·grind
end
def G.kC(g:G)(n k:Nat)(P:ATU Nat)(i:BI):G:=⟨λb=>match g.own b with |.BQ j q=>if j=k/\P <:+ q then .BQ n (q.take (q.length-P.length))else .BQ j q |t=>t,λj=>if j=n then i else g.A2 j⟩
def G.gC(g:G)(n k:Nat)(P:ATU Nat):G:=⟨λb=>match g.own b with |.BQ j q=>if j=n then .BQ k (q++P)else .BQ j q |t=>t,g.A2⟩
section
variable {w:World} {g:G} {bs:ATU Blk}
theorem Z7{n k:Nat}{P:ATU Nat}{i:BI}{b:Nat}{q:ATU Nat}(h:g.own b=.BQ k (q++P)):(g.kC n k P i).own b=.BQ n q:=by
 have:P <:+ (q++P):=⟨q,rfl⟩;simp[G.kC,h]
theorem X8{n k:Nat}{P:ATU Nat}{i:BI}{b j:Nat}{q:ATU Nat}(h:g.own b=.BQ j q)(hn:¬(j=k/\P <:+ q)):(g.kC n k P i).own b=.BQ j q:=by
 simp only[G.kC,h,AQy hn]
theorem AaO{n k:Nat}{P:ATU Nat}{b:Nat}{q:ATU Nat}(h:g.own b=.BQ n q):(g.gC n k P).own b=.BQ k (q++P):=by simp[G.gC,h]
theorem jc{n k:Nat}{P:ATU Nat}{b j:Nat}{q:ATU Nat}(h:g.own b=.BQ j q)(hn:j≠n):(g.gC n k P).own b=.BQ j q:=by simp only[G.gC,h,AQy hn]
theorem mh{k:Nat}{P:ATU Nat}{i:BI}:Step [k] bs.length w g w (g.kC bs.length k P i) where
 os:=rfl
 tape:=rfl
 output:=rfl
 size:=AQl _
 no b _ h:=⟨by simp[G.kC,h],rfl⟩
 Jl b h:=⟨by simp[G.kC,h],rfl⟩
 BQ b j q h hj hm:=⟨X8 h λhc=>hm (by grind),rfl⟩
 A2 j hj:=by simp[G.kC,Nat.ne_of_lt hj]
theorem xl{n k N:Nat}{P:ATU Nat}:Step [n,k] N w g w (g.gC n k P) where
 os:=rfl
 tape:=rfl
 output:=rfl
 size:=AQl _
 no b _ h:=⟨by simp[G.gC,h],rfl⟩
 Jl b h:=⟨by simp[G.gC,h],rfl⟩
 BQ b j q h hj hm:=⟨jc h λhc=>hm (by grind),rfl⟩
 A2 j hj:=rfl
theorem Tz{A:Type}{l:ATU A}{k j:Nat}{x y:A}(h:(l.set k x)[j]?=some y):(j=k/\y=x)\/(j≠k/\l[j]?=some y):=by
 grind
theorem Bo.lG{A:Type}{I J:Nat->A->ATU Value->Prop}:∀{lo:Nat} {xs:ATU A} {cs:ATU Value},(∀j x c,lo<=j->j<lo+xs.length->I j x c->J j x c)->Bo I lo xs cs->Bo J lo xs cs
 |_,[],_,_,h=>h
 |lo,_::xs,_,h,⟨c,d,e,r,l⟩=>⟨c,d,e,h _ _ _ (AQl _) (by simp) r,Bo.lG (λj x c h1 h2=>h j x c (by omega) (by grind)) l⟩
theorem Z8(H:Bi w g bs){k ek:Nat}{t u:Ty}{xs:ATU t.V}(hb:bs[k]?=some (.row ek .Aw t xs)){i:Int}{p:ATU Nat}{o:Nat}(hi:i.toNat<(g.A2 k).len){ys:ATU u.V}
    (hg:kR (.sl u) p t (xs.getD i.toNat t.zero)=some ys) (ho:Mk t p=some o) (hu:u.size≠0) {b:Nat} (OM:(g.A2 k).a=some ⟨b,0,none⟩) {v:Value} (hv:w.cell? ⟨b,i.toNat*(g.A2 k).oQ+o,none⟩=some v)
    {zs:ATU u.V} {x':t.V} (hs:T7 (.sl u) zs p t (xs.getD i.toNat t.zero)=some x') :
    ∃g1,Bi w g1 ((Be [k] bs).set k .Bd++[.row 0 .Aw u ys])/\Step [k] bs.length w g w g1/\B6 w g1 (bs.length+1) (.AG bs.length) v /\
     (∀(w':World) (g2:G) (N:Nat) (e0:Nat),(∀b q,g1.own b=.BQ k q->g2.own b=.BQ k q/\w'.heap[b]?=w.heap[b]?)->(∀j,j<=bs.length->g2.A2 j=g1.A2 j) ->
      ND w' g2 N bs.length (.row e0 .Aw u zs)->ND w' (g2.gC bs.length k (VO p [i.toNat])) N k (.row ek .Aw t (xs.set i.toNat x'))) /\
     (zs=[]->tyP t p=some (.sl u)->0<=i->∀N,ND w g1 N k (.Sm ek t xs i p)):=by
 have rL:=A4 hb;obtain⟨Sl,hlen,QT,BX,hr⟩:=H.MR k _ hb;have Bp:i.toNat<xs.length:=by rw[<-hlen];exact hi
 rcases hr with ⟨al,_⟩|⟨b',BA,ds,ha,Cv,⟨el,Ws,hh⟩,QS,xZ,hc3,hc4,Ku⟩
 ·rw[al]at Bp;simp at Bp
 rw[OM]at ha;injection ha with ha;injection ha with ha;subst ha;have Ku:Bo (λi=>Kl w g.own k t [i]) 0 xs ds:=Ku;obtain⟨c0,c,d,e1,jk,hrc,hr0,nH⟩:=Bo.A2 (λi x c h=>Kl.len h) Ku Bp;rw[AQL]at hrc nH;have hgd:xs.getD i.toNat t.zero=xs[i.toNat]:=by simp[List.getD,Bp]
 let P:=VO p [i.toNat]
 obtain⟨r0,hP⟩:=dU p [i.toNat];obtain⟨a0,a1,a2,e2,b9,hys,cb⟩:Aku w g.own k u zs P t [i.toNat] x' ys c o:=lL p t [i.toNat] (xs.getD i.toNat t.zero) x' c o ys hs hg ho (by rw[hgd];exact hrc);have AKV:=hys;obtain⟨ad,cap,e3,O6⟩:=AKV;have hvh:v=.slice ad ys.length cap:=by
  rw[QW hh,<-AQt,QT]at hv;have hq:ds[i.toNat*t.size+o]?=some (.slice ad ys.length cap):=by
   rw[e1,e2,e3,AQn,AQB (by omega),jk];rw[show i.toNat*t.size+o-i.toNat*t.size=a0.length by omega];simp
  subst hc4;rw[ARg]at hq;split at hq
  ·rw[hv]at hq;injection hq
  ·cases hq
 let i1:BI:=⟨ad,ys.length,cap,u.size⟩
 let n:=bs.length
 let g1:=g.kC n k P i1
 have st:Step [k] n w g w g1:=mh;have Vv:g1.A2 n=i1:=by simp[g1,G.kC]
 have gM:k≠n:=by simp only[n];omega
 have oW:((Be [k] bs).set k Blk.Bd++[Blk.row 0 .Aw u ys]).length=n+1:=by simp[AJ,n]
 refine⟨g1,?_,st,?_,?_,?_⟩
 ·refine H.cL st (λb hb=>by simp[g1,G.kC,H.B3 b hb]) (by rw[oW];omega) λj x hj=>?_;rw[AQF]at hj;split at hj
  ·rcases Tz hj with ⟨rfl,rfl⟩|⟨LN,hj⟩
   ·exact .inl rfl
   ·obtain⟨y,hy,rfl⟩:=Du hj;exact .inr (.inl ⟨by simpa using LN,y,hy,rfl⟩)
  ·rename_i aS;simp only[AQo,AJ]at hj aS;have oU:j-bs.length=0:=by
    rcases AQD (j-bs.length)with h |h
    ·exact h
    ·rw[AQT (by simp;omega)]at hj;cases hj
   rw[oU]at hj;obtain rfl:j=n:=by simp only[n];omega
   simp only[List.getElem?_cons_zero,AQh]at hj;subst hj;refine .inr (.inr ⟨λj hj=>(by cases hj),by rw[Vv],by rw[Vv],ARQ hu,?_⟩);rw[Vv];refine O6.imp id λ⟨b,el,BA,ds,q1,q2,q3,q4,q5,q6,q7,q8⟩=>⟨b,BA,ds,q1,Z7 (q:=[]) (by simpa using q2),⟨el,.inl rfl,q3⟩,q4,q5,q6,q7,?_⟩;exact q8.mono λi x c r=>r.mono λb q hb=>⟨Z7 (by simpa using hb),rfl⟩
 ·rw[hvh];exact Bv (cs:=[_]) rfl ⟨AQV _,by rw[Vv]⟩ rfl
 ·intro w' g2 N e0 WE AF8 hB;obtain⟨_,Abt,_,_,hr2⟩:=hB;have AJN:g2.A2 n=i1:=by rw[AF8 n (AQl _),Vv]
  rw[AJN]at Abt hr2;have hzl:zs.length=ys.length:=Abt.symm;have hz:Kl w' (g2.gC n k P).own k (.sl u) P zs a1:=by
   refine⟨ad,cap,by rw[e3,hzl],hr2.imp id λ⟨b,BA,ds,q1,q2,⟨el,_,q3⟩,q4,q5,q6,q7,q8⟩=>⟨b,el,BA,ds,q1,by simpa using AaO (P:=P) (k:=k) q2,q3,q4,q5,q6,q7,?_⟩⟩;have q8:Bo (λi=>Kl w' g2.own n u [i]) 0 zs ds:=q8;exact q8.mono λi x c r=>r.mono λb q hb=>⟨by simpa using AaO (P:=P) (k:=k) hb,rfl⟩
  have mU:Fr w g.own w' (g2.gC n k P).own k P:=λb q hb hn=>by
   have h1:=WE b q (X8 hb λhc=>hn hc.2);exact⟨jc h1.1 gM,h1.2⟩
  have Abp:=cb w' _ _ mU hz;rw[<-e2]at Abp;have rJ:∀j,j≠i.toNat->∀{x:t.V} {c:ATU Value},Kl w g.own k t [j] x c->Kl w' (g2.gC n k P).own k t [j] x c:=λj hj x c h=>sib mU (λq hq=>by
   rw[show P=r0++i.toNat::[]from hP]at hq;exact hj (sN (L:=[]) hq).symm) h
  have vH:=Bo.join Bp (Bo.lG (λj x c _ h2 h=>rJ j (by rw[AQA]at h2;omega) h) hr0) (by rw[AQL];exact Abp) (Bo.lG (λj x c h1 _ h=>rJ j (by omega) h) (by rw[AQL];exact nH));have Sw:=mU b [] Cv (by
   rw[show P=r0++[i.toNat]from hP]
   rintro⟨s,hs⟩
   simp at hs)
  have SI:(g2.gC n k P).A2 k=g.A2 k:=by
   show g2.A2 k=_;rw[AF8 k (by omega)];simp[g1,G.kC,gM]
  refine⟨λj hj=>(by cases hj),by rw[SI,AQo];exact hlen,by rw[SI];exact QT,BX,.inr ⟨b,BA,ds,by rw[SI];exact OM,Sw.1,⟨el,Ws,Sw.2.trans hh⟩,by rw[SI,AQo];exact QS,by rw[SI];exact xZ,by rw[SI];exact hc3,by rw[AQo];exact hc4,?_⟩⟩;show Bo _ 0 _ ds;rw[e1];exact vH
 ·intro hz0 jl h0 N;subst hz0;have mU:Fr w g.own w g1.own k P:=λb q hb hn=>⟨X8 hb λhc=>hn hc.2,rfl⟩;have Abp:=cb w g1.own [.slice none 0 0] mU ⟨none,0,rfl,.inl ⟨rfl,rfl⟩⟩;have rJ:∀j,j≠i.toNat->∀{x:t.V} {c:ATU Value},Kl w g.own k t [j] x c->Kl w g1.own k t [j] x c:=λj hj x c h=>sib mU (λq hq=>by
   rw[show P=r0++i.toNat::[]from hP]at hq;exact hj (sN (L:=[]) hq).symm) h
  have vH:=Bo.join Bp (Bo.lG (λj x c _ h2 h=>rJ j (by rw[AQA]at h2;omega) h) hr0) (by rw[AQL];exact Abp) (Bo.lG (λj x c h1 _ h=>rJ j (by omega) h) (by rw[AQL];exact nH));have Sw:=mU b [] Cv (by
   rw[show P=r0++[i.toNat]from hP]
   rintro⟨s,hs⟩
   simp at hs)
  have SI:g1.A2 k=g.A2 k:=by simp[g1,G.kC,gM]
  refine⟨by rw[SI];exact hlen,by rw[SI];exact QT,BX,h0,Bp,u,o,x',b,BA,_,ho,jl,hs,by rw[SI];exact OM,Sw.1,⟨el,Ws,hh⟩,by rw[SI];exact QS,by rw[SI];exact xZ,by rw[SI];exact hc3,rfl,?_⟩;rw[Array.toList_setIfInBounds,List.take_set,hc4,e1,e2,e3];have:(c0++(a0++[Value.slice ad ys.length cap]++a2)++d).set (i.toNat*t.size+o) (.slice none 0 0)=c0++(a0++[.slice none 0 0]++a2)++d:=by
   rw[<-jk,<-b9,AQn,AQn,AQn,ARF _ _ (by omega),ARF _ _ (by omega),show c0.length+a0.length-c0.length-a0.length=0 by omega];simp
  rw[this];exact vH
theorem Ads(H:Bi w g bs){k ek:Nat}{t u:Ty}{xs:ATU t.V}(hb:bs[k]?=some (.row ek .Aw t xs)){i:Int}{p:ATU Nat}{o:Nat}(hi:i.toNat<(g.A2 k).len){ys zs:ATU u.V}{x':t.V}
    (hg:kR (.sl u) p t (xs.getD i.toNat t.zero)=some ys) (hs:T7 (.sl u) zs p t (xs.getD i.toNat t.zero)=some x') (ho:Mk t p=some o) {b:Nat} (OM:(g.A2 k).a=some ⟨b,0,none⟩) :
    ∃ad c,w.cell? ⟨b,i.toNat*(g.A2 k).oQ+o,none⟩=some (.slice ad ys.length c):=by
 obtain⟨Sl,hlen,QT,BX,hr⟩:=H.MR k _ hb;have Bp:i.toNat<xs.length:=by grind
 rcases hr with ⟨al,_⟩|⟨b',BA,ds,ha,Cv,⟨el,Ws,hh⟩,QS,xZ,hc3,hc4,Ku⟩
 ·grind
 rw[OM]at ha;injection ha with ha;injection ha with ha;subst ha;obtain⟨c0,c,d,e1,jk,hrc,hr0,nH⟩:=Bo.A2 (λi x c h=>Kl.len h) Ku Bp;rw[AQL]at hrc;have hgd:xs.getD i.toNat t.zero=xs[i.toNat]:=by grind
 obtain⟨a0,a1,a2,e2,b9,⟨ad,cap,e3,_⟩,_⟩:=lL p t [i.toNat] (xs.getD i.toNat t.zero) x' c o ys hs hg ho (by rw[hgd];exact hrc);refine⟨ad,cap,?_⟩;rw[QW hh,<-AQt,QT];have hq:ds[i.toNat*t.size+o]?=some (.slice ad ys.length cap):=by
  rw[e1,e2,e3,AQn,AQB (by omega),jk];rw[show i.toNat*t.size+o-i.toNat*t.size=a0.length by omega];simp
 grind
end
theorem lK:∀{l:ATU AV} {j0 j k:Nat} {a:AV} {i:Int} {p:ATU Nat} {o:Nat},wK j0 l=some (j,a,k,i,p,o)->j0<=j/\l[j-j0]?=some a/\a.Rw=some (k,i,p,o)
 |[],_,_,_,_,_,_,_,h=>by simp[wK]at h
 |b::r,j0,j,k,a,i,p,o,h=>by
  simp only[wK]at h;split at h
  ·grind
  ·obtain⟨h1,h2,h3⟩:=lK h
   grind
theorem gd{w:World}{g:G}{n:Nat}:∀{a:AV} {cs:ATU Value} {k:Nat} {i:Int} {p:ATU Nat} {o:Nat},CK w g n false a cs->a.Rw=some (k,i,p,o) ->
    k<n/\0<=i/\i.toNat<(g.A2 k).len/\∃b v,(g.A2 k).a=some ⟨b,0,none⟩/\g.own b=.BQ k []/\w.cell? ⟨b,i.toNat*(g.A2 k).oQ+o,none⟩=some v
 |.Vh k i p o e,cs,_,_,_,_,⟨hk,h0,h1,b,v,ha,ho,e1,e2,hc⟩,h=>by
  obtain⟨rfl,rfl,rfl,rfl⟩:=h
  grind
 |.pr a b,cs,k,i,p,o,⟨c,d,e,h1,h2⟩,h=>by
  simp only[AV.Rw]at h;split at h
  ·rename_i z hz;injection h with h;subst h;exact gd h1 hz
  ·exact gd h2 h
 |.AB _ _ _,_,_,_,_,_,_,h=>by simp[AV.Rw]at h
 |.zs,_,_,_,_,_,_,h=>by simp[AV.Rw]at h
 |.AG _,_,_,_,_,_,_,h=>by simp[AV.Rw]at h
 |.mp _,_,_,_,_,_,_,h=>by simp[AV.Rw]at h
 |.ptr _ _ _ _,_,_,_,_,_,_,h=>by simp[AV.Rw]at h
 |.FZ _ _ _,_,_,_,_,_,_,h=>by simp[AV.Rw]at h
 |.KQ,_,_,_,_,_,_,h=>by simp[AV.Rw]at h
 |.fn _ _,_,_,_,_,_,_,h=>by simp[AV.Rw]at h
 |.un _,_,_,_,_,_,_,h=>by simp[AV.Rw]at h
 |.cons _ _,_,_,_,_,_,h,_=>h.elim
 |.nil,_,_,_,_,_,h,_=>h.elim
theorem zM{a:AV}{z:Nat×Int×ATU Nat×Nat}(h:a.Rw=some z)(N:Nat):a.Dp=false/\a.OV=false/\(a.cu N).Dp=false/\(a.cu N).isAgg=a.isAgg:=by
 cases a with
 |Vh k i p o e=>exact⟨rfl,rfl,rfl,rfl⟩
 |pr a b =>
  refine⟨rfl,rfl,?_,?_⟩
  ·simp only[AV.cu];split<;>rfl
  ·simp only[AV.cu];split<;>rfl
 |_=>simp[AV.Rw]at h
theorem sG{w:World}{g g1:G}{n N k:Nat}(st:Step [k] n w g w g1){i:Int}{p:ATU Nat}{o:Nat}{v b:_}(OM:(g.A2 k).a=some ⟨b,0,none⟩)(hc:w.cell? ⟨b,i.toNat*(g.A2 k).oQ+o,none⟩=some v)(hr:CK w g1 (n+1) false (.AG N) [v]) :
    ∀{a:AV} {cs:ATU Value},CK w g n false a cs->a.Rw=some (k,i,p,o)->(∀q∈(a.cu N).Ck,[k].contains q=false)->CK w g1 (n+1) false (a.cu N) cs
 |.Vh _ _ _ _ _,cs,⟨_,_,_,b',v',ha,_,e1,_,hc'⟩,h,_=>by
  obtain⟨rfl,rfl,rfl,rfl⟩:=h;rw[OM]at ha;injection ha with ha;injection ha with ha;subst ha;rw[hc]at hc';injection hc' with hc';subst hc';rw[e1];exact hr
 |.pr a b,cs,⟨c,d,e,h1,h2⟩,h,hq=>by
  simp only[AV.Rw]at h;simp only[AV.cu]at hq⊢;split at h
  ·rename_i z hz;injection h with h;subst h;rw[hz]at hq;refine⟨c,d,e,sG st OM hc hr h1 hz λq rR=>hq q (by simp[AV.Ck,rR]),?_⟩;have:=CK.step st (AQQ n) b _ h2;rwa [O3 λq rR=>hq q (by simp[AV.Ck,rR])]at this
  ·rename_i hz;rw[hz]at hq;refine⟨c,d,e,?_,sG st OM hc hr h2 h λq rR=>hq q (by simp[AV.Ck,rR])⟩;have:=CK.step st (AQQ n) a _ h1;rwa [O3 λq rR=>hq q (by simp[AV.Ck,rR])]at this
 |.AB _ _ _,_,_,h,_=>by simp[AV.Rw]at h
 |.zs,_,_,h,_=>by simp[AV.Rw]at h
 |.AG _,_,_,h,_=>by simp[AV.Rw]at h
 |.mp _,_,_,h,_=>by simp[AV.Rw]at h
 |.ptr _ _ _ _,_,_,h,_=>by simp[AV.Rw]at h
 |.FZ _ _ _,_,_,h,_=>by simp[AV.Rw]at h
 |.KQ,_,_,h,_=>by simp[AV.Rw]at h
 |.fn _ _,_,_,h,_=>by simp[AV.Rw]at h
 |.un _,_,_,h,_=>by simp[AV.Rw]at h
 |.cons _ _,_,h,_,_=>h.elim
 |.nil,_,h,_,_=>h.elim
theorem uv{w:World}{g:G}{n:Nat}:∀{l:ATU AV} {vs:ATU Value} {j:Nat} {a:AV},DI w g n l vs->l[j]?=some a->∃v,vs[j]?=some v/\B6 w g n a v
 |_::_,v::_,0,_,h,hx=>by simp at hx;subst hx;exact⟨v,rfl,h.1⟩
 |_::_,_::_,j+1,_,h,hx=>by
  obtain⟨v,hv,hr⟩:=uv  h.2 (by simpa using hx)
  grind
 |[],[],_,_,_,hx=>by grind
 |[],_::_,_,_,h,_=>h.elim
 |_::_,[],_,_,h,_=>h.elim
theorem oC{w:World}{g g1:G}{n n1:Nat}{a1:AV}:∀{l:ATU AV} {vs:ATU Value} {j:Nat} {v:Value},DI w g n l vs->vs[j]?=some v->B6 w g1 n1 a1 v->(∀a∈l.set j (.un 1),∀v,B6 w g n a v->B6 w g1 n1 a v)->DI w g1 n1 (l.set j a1) vs
 |a::l,v0::vs,0,v,h,hv,hx,ht=>by
  simp at hv;subst hv;refine⟨hx,?_⟩;have key:∀{l:ATU AV} {vs:ATU _},(∀a∈l,∀v,B6 w g n a v->B6 w g1 n1 a v)->DI w g n l vs->DI w g1 n1 l vs:=by
   intro l;induction l with
   |nil=>intro vs _ h;cases vs with
    |nil=>trivial
    |cons _ _=>exact h.elim
   |cons a l ih=>intro vs ht h;cases vs with
    |nil=>exact h.elim
    |cons v vs=>exact⟨ht a (by simp) v h.1,ih (λa ha=>ht a (by grind)) h.2⟩
  exact key (λa ha=>ht a (by grind)) h.2
 |a::l,v0::vs,j+1,v,h,hv,hx,ht=>⟨ht a (by simp) v0 h.1,oC h.2 (by grind) hx λa ha=>ht a (by grind)⟩
 |[],[],_,_,_,hv,_,_=>by grind
 |[],_::_,_,_,h,_,_,_=>h.elim
 |_::_,[],_,_,h,_,_,_=>h.elim
theorem AcD{P:Program}{f:FuncId}{c:Callee}(hc:Ao P f c){bs:ATU Blk}{args:ATU AV}{e:Ih}(h:kj c bs args some=some e) :
    bs.length<=e.Aj.length/\(e.BF=[]->∃l,e.Aj=bs++l)/\∀(w:World) (g:G) (vs:ATU Value),Bi w g bs->DI w g bs.length args vs->∀(o:Oper) (a:Act) (next:Act->World->Prop) (Q:Exit->Act->World->Prop),
     (∀v w' g',Bi w' g' e.Aj->B6 w' g' e.Aj.length e.val v->Step e.BF bs.length w g w' g'->next (a.put o.dst v) w')->o.upon P a next Q ((callFunc f vs.toArray).run P w):=by
 unfold kj at h;split at h
 ·exact oE hc h
 ·rename_i j a0 k i p of hix;split at h
  ·rename_i ek t xs hb;split at h
   ·rename_i u jl;split at h
    ·rename_i ys hg;split at h
     ·rename_i vE;obtain⟨oX,hu,zn⟩:=vE;rw[Z4 c hc.bB]at h;cases hx:Zk c ((Be [k] bs).set k Blk.Bd++[Blk.row 0 .Aw u ys]) (args.set j (a0.cu bs.length)) some with
      |none=>grind
      |some e0 =>
       rw[hx]at h;simp only[AQf]at h;split at h
       ·grind
       ·rename_i rN;split at h
        ·rename_i e1 u' zs' hn0;split at h
         ·rename_i zs vD;split at h
          ·rename_i x' Ie;injection h with h;subst h;obtain⟨ec,hec⟩:=BO vD;injection ec with ec;have ec:=ec.symm;subst ec;subst hec;obtain⟨hlen,_,AGd⟩:=oE hc hx;have zu:((Be [k] bs).set k Blk.Bd++[Blk.row 0 .Aw u ys]).length=bs.length+1:=by simp[AJ]
           have Av7:k∉e0.BF:=by grind
           refine⟨by simp only[AQo,AJ];omega,λhm=>by simp at hm,λw g vs H Abn o a next Q hn=>?_⟩
           obtain⟨_,Awd,hG⟩:=lK hix;rw[Nat.sub_zero]at Awd;obtain⟨v,hvj,hav⟩:=uv Abn Awd;obtain⟨pl1,pl2,pl3,pl4⟩:=zM hG bs.length;obtain⟨cs,UN,hval⟩:=B4 pl1 pl2 hav;obtain⟨_,h0,hi,b,v',OM,Cv,DW⟩:=gd UN hG;obtain⟨g1,H1,SA,Ac1,cb,_⟩:=Z8 H hb hi hg oX hu OM DW Ie;have AGI:∀a∈args.set j (a0.cu bs.length),∀q∈a.Ck,[k].contains q=false:=λa ha q hq=>by
            grind
           have bj:=A4 Awd;have AGO:B6 w g1 (bs.length+1) (a0.cu bs.length) v:=by
            obtain⟨cs1,AvP,jm⟩:=B4 rfl rfl Ac1;have e1:cs1=[v']:=jm;subst e1;exact Bv pl3 (sG SA OM DW AvP UN hG (AGI _ (ARB (i:=j) (by grind)))) (by grind)
           have AJM:DI w g1 (bs.length+1) (args.set j (a0.cu bs.length)) vs:=oC Abn hvj AGO λa ha v h=>by
            obtain⟨q,hq⟩:=List.getElem?_of_mem ha;rcases Tz hq with ⟨rfl,rfl⟩|⟨LN,rR⟩
            ·exact Sc
            ·have:=h.step SA (AQQ _);rwa [O3 (AGI a (ARB (i:=q) (by grind)))]at this
           refine AGd w g1 vs H1 (by grind) o a next Q λv2 w2 g2 H2 hv2 Qw=>?_
           let N:=e0.Aj.length
           have oV:(((Be [k,bs.length] e0.Aj).set bs.length Blk.Bd).set k (.row ek .Aw t (xs.set i.toNat x'))).length=N:=by simp[AJ,N]
           have stA:Step [bs.length,k] N w2 g2 w2 (g2.gC bs.length k (VO p [i.toNat])):=xl;have AmM:Step [k,bs.length] N w2 g2 w2 (g2.gC bs.length k (VO p [i.toNat])):=stA.weaken (λq hq=>by simp at hq⊢;exact hq.symm) (AQl _);have AhK:ND w2 (g2.gC bs.length k (VO p [i.toNat])) N k (.row ek .Aw t (xs.set i.toNat x')):=by
            refine cb w2 g2 N e1 (λb q hb=>Qw.BQ b k q hb (by omega) Av7) (λj hj=>Qw.A2 j (by omega)) (H2.MR bs.length _ hn0)
           refine hn v2 w2 (g2.gC bs.length k (VO p [i.toNat])) ?_ ?_ ?_
           ·refine H2.cL AmM (λb hb=>by simp[G.gC,H2.B3 b hb]) (by rw[oV];exact AQl _) λj' y Sv=>?_;rw[oV];rcases Tz Sv with ⟨rfl,rfl⟩|⟨LN,Sv⟩
            ·exact .inr (.inr AhK)
            ·rcases Tz Sv with ⟨rfl,rfl⟩|⟨Awb,Sv⟩
             ·exact .inl rfl
             ·obtain⟨y',jo,rfl⟩:=Du Sv;exact .inr (.inl ⟨by simp only[ARP,ASn,or_false,not_or];exact⟨LN,Awb⟩,y',jo,rfl⟩)
           ·rw[oV];exact hv2.step AmM (AQl _)
           ·refine⟨Qw.os.trans SA.os,Qw.tape.trans SA.tape,Qw.output.trans SA.output,Qw.size,λb hb h=>?_,λb h=>?_,λb j' q h Sv hm=>?_,λj' Sv=>?_⟩
            ·have h1:=SA.no b hb h;have h2:=Qw.no b hb h1.1;exact⟨by simp[G.gC,h2.1],h2.2⟩
            ·have h1:=SA.Jl b h;have h2:=Qw.Jl b h1.1;exact⟨by simp[G.gC,h2.1],h2.2⟩
            ·simp only[ARL,not_or]at hm;have h1:=SA.BQ b j' q h Sv (by simpa using hm.2);have h2:=Qw.BQ b j' q h1.1 (by omega) hm.1;exact⟨jc h2.1 (by omega),h2.2⟩
            ·show g2.A2 j'=_;rw[Qw.A2 j' (by omega),SA.A2 j' Sv]
          ·grind
         ·grind
        ·cases h
     ·grind
    ·cases h
   ·grind
  ·cases h
end Go.Va
namespace Go.Va
section
variable {w:World} {g:G} {n:Nat}
def G.Yv(g:G)(Z:ATU Nat):G:=⟨λb=>match g.own b with |.BQ k r=>if k∈Z then .Jl else .BQ k r |t=>t,g.A2⟩
theorem rI{Z:ATU Nat}{b:Nat}(h:g.own b=.Jl):(g.Yv Z).own b=.Jl:=by simp[G.Yv,h]
theorem Q1{Z:ATU Nat}{b k:Nat}{r:ATU Nat}(h:g.own b=.BQ k r)(hk:k∉Z):(g.Yv Z).own b=.BQ k r:=by simp[G.Yv,h,hk]
theorem Al.O4{Z ks:ATU Nat}{b:Nat}(h:Al g.own ks b):Al (g.Yv Z).own (ks.filter λk=>!decide (k∈Z)) b:=by
 rcases h with h |⟨k,hk,r,h⟩
 ·exact .inl (rI h)
 ·by_cases hz:k∈Z
  ·exact .inl (by simp[G.Yv,h,hz])
  ·exact .inr ⟨k,by simp[hk,hz],r,Q1 h hz⟩
theorem Al.Ag4{Z ks:ATU Nat}{b:Nat}(h:Al g.own ks b):Al (g.Yv Z).own ks b:=h.O4.mono λk hk=>(List.mem_filter.1 hk).1
theorem Adt(a:AV):a.cQ.Dp=a.Dp:=by cases a<;>rfl
theorem pF(a:AV):a.cQ.OV=true\/a.cQ.isAgg=a.isAgg:=by cases a<;>first |exact .inl rfl |exact .inr rfl
theorem Aik{a:AV}(h:a.OV=true):a.cQ.OV=true:=by cases a<;>simp_all [AV.OV,AV.cQ]
theorem CK.O4(Z:ATU Nat):∀(a:AV) (m:Bool) {cs:ATU Value},CK w g n m a cs->CK w (g.Yv Z) n m a.cQ cs
 |.AB ks t x,false,cs,⟨hk,r⟩=>⟨hk,r.mono λb a=>⟨a.Ag4,rfl⟩⟩
 |.zs,false,_,h=>h
 |.AG _,false,_,h=>h
 |.mp _,false,_,h=>h
 |.ptr _ _ _ _,false,_,h=>h
 |.FZ ks t x,false,cs,⟨hk,b,off,ds,e,ha,r,hc⟩=>⟨hk,b,off,ds,e,ha.Ag4,r.mono λb a=>⟨a.Ag4,rfl⟩,hc⟩
 |.KQ,false,_,h=>h
 |.Vh _ _ _ _ _,false,_,⟨_,_,_,_,_,_,_,e,h1,_⟩=>by subst e;exact⟨rfl,by intro u hu;simp at hu;subst hu;exact h1⟩
 |.Xc _ _ _ _ _ _,false,_,⟨_,_,_,_,_,_,_,_,_,e,_⟩=>by subst e;exact⟨rfl,by intro u hu;simp at hu;subst hu;rfl⟩
 |.pr a b,false,_,⟨c,e,he,h1,h2⟩=>⟨c,e,he,CK.O4 Z a false h1,CK.O4 Z b false h2⟩
 |.fn f c,false,_,⟨vs,e,hx⟩=>⟨vs,e,CK.O4 Z c true hx⟩
 |.un k,false,_,h=>h
 |.cons a b,true,_,⟨v,r,e,h1,h2⟩=>by
  refine⟨v,r,e,?_,CK.O4 Z b true h2⟩;rcases pF a with hd |hd
  ·exact .inl hd
  ·exact h1.imp Aik λ⟨cs,hx,hv⟩=>⟨cs,CK.O4 Z a false hx,by rw[hd];exact hv⟩
 |.nil,true,_,h=>h
 |.cons _ _,false,_,h=>h.elim
 |.nil,false,_,h=>h.elim
 |.Vh _ _ _ _ _,true,_,h=>h.elim
 |.Xc _ _ _ _ _ _,true,_,h=>h.elim
 |.AB _ _ _,true,_,h=>h.elim
 |.zs,true,_,h=>h.elim
 |.AG _,true,_,h=>h.elim
 |.mp _,true,_,h=>h.elim
 |.ptr _ _ _ _,true,_,h=>h.elim
 |.FZ _ _ _,true,_,h=>h.elim
 |.KQ,true,_,h=>h.elim
 |.pr _ _,true,_,h=>h.elim
 |.fn _ _,true,_,h=>h.elim
 |.un _,true,_,h=>h.elim
theorem B6.O4(Z:ATU Nat){a:AV}{v:Value}(h:B6 w g n a v):B6 w (g.Yv Z) n a.cQ v:=by
 cases ht:a.Dp with
 |false =>
  rw[B6.iff ht]at h;rw[B6.iff (by rw[Adt];exact ht)];rcases pF a with hd |hd
  ·exact .inl hd
  ·exact h.imp Aik λ⟨cs,h,hv⟩=>⟨cs,CK.O4 Z a false h,by rw[hd];exact hv⟩
 |true =>
  cases a with
  |cons a b=>obtain⟨vs,e,h⟩:=h;exact⟨vs,e,CK.O4 Z (.cons a b) true h⟩
  |nil=>exact h
  |_=>cases ht
theorem ND.O4{Z:ATU Nat}{k:Nat}(hk:k∉Z){b:Blk}(h:ND w g n k b):ND w (g.Yv Z) n k b.cQ:=by
 cases b with
 |Bd=>trivial
 |map m kt vt es st =>
  obtain⟨Sl,b,Ht,DK,ha,ho,hh,Tn,hm⟩:=h;refine⟨Sl,b,Ht,DK,ha,Q1 ho hk,hh,Tn,hm.on λi x c r=>?_⟩;cases m with
  |Aw=>exact Kl.mono (λb q hb=>⟨Q1 hb hk,rfl⟩) r
  |sh ks=>exact Ii.mono (λb a=>⟨a.Ag4,rfl⟩) r
 |Sm e t xs i p =>
  obtain⟨h1,h2,h3,h4,h5,u,o,x0,b,BA,ds,q1,q2,q3,ha,ho,hh,c1,c2,c3,c4,hc⟩:=h;exact⟨h1,h2,h3,h4,h5,u,o,x0,b,BA,ds,q1,q2,q3,ha,Q1 ho hk,hh,c1,c2,c3,c4,hc.mono λi x c r=>r.mono λb q hb=>⟨Q1 hb hk,rfl⟩⟩
 |tail e t xs =>
  obtain⟨hf,hlen,QT,BX,hr⟩:=h;exact⟨hf,hlen,QT,BX,hr.imp id λ⟨b,o,BA,ds,ha,ho,hh,h1,h2,h3,h4,hc⟩=>⟨b,o,BA,ds,ha,Q1 ho hk,hh,h1,h2,h3,h4,hc.mono λi x c r=>r.mono λb q hb=>⟨Q1 hb hk,rfl⟩⟩⟩
 |box a =>
  obtain⟨h1,b,cs,e,ha,ho,hh,hx⟩:=h;exact⟨h1,b,cs,e,ha,Q1 ho hk,hh,CK.O4 Z a false hx⟩
 |row e m t xs =>
  obtain⟨Sl,hlen,QT,BX,hr⟩:=h;refine⟨Sl,hlen,QT,BX,hr.imp id λ⟨b,BA,ds,ha,ho,hh,h1,h2,h3,h4,hc⟩=>⟨b,BA,ds,ha,Q1 ho hk,hh,h1,h2,h3,h4,?_⟩⟩;cases m with
  |Aw=>exact hc.mono λi x c r=>r.mono λb q hb=>⟨Q1 hb hk,rfl⟩
  |sh ks=>exact hc.mono λx c r=>r.mono λb a=>⟨a.Ag4,rfl⟩
theorem vq{bs:ATU Blk}(H:Bi w g bs)(Z:ATU Nat):Bi w (g.Yv Z) ((Blk.Hd bs Z).map Blk.cQ):=by
 refine⟨λb hb=>by simp[G.Yv,H.B3 b hb],λk x hx=>?_⟩;rw[AQI]at hx;cases hq:(Blk.Hd bs Z)[k]? with
 |none=>rw[hq]at hx;cases hx
 |some y =>
  rw[hq]at hx;injection hx with hx;subst hx;rw[AQr,Bc];rcases Ln hq with rfl |⟨hn,h⟩
  ·trivial
  ·exact(H.MR k y h).O4 hn
theorem XD:∀a:AV,a.fK=false->a.cQ=a
 |.pr a b,h=>by
  simp only[AV.fK,ARj]at h;simp[AV.cQ,XD a h.1,XD b h.2]
 |.cons a b,h=>by
  simp only[AV.fK,ARj]at h;simp[AV.cQ,XD a h.1,XD b h.2]
 |.fn f c,h=>by simp[AV.cQ,XD c h]
 |.AB _ _ _,_=>rfl
 |.zs,_=>rfl
 |.AG _,_=>rfl
 |.mp _,_=>rfl
 |.ptr _ _ _ _,_=>rfl
 |.FZ _ _ _,_=>rfl
 |.KQ,_=>rfl
 |.nil,_=>rfl
 |.Vh _ _ _ _ _,h=>by cases h
 |.Xc _ _ _ _ _ _,h=>by cases h
 |.un _,_=>rfl
theorem Ahg{b:Blk}(h:b.fK=false):b.cQ=b:=by
 cases b with
 |box a=>simp[Blk.cQ,XD a h]
 |_=>rfl
theorem AcX{bs:ATU Blk}(H:Bi w g bs)(hn:bs.all (λb=>!b.fK)=true)(Z:ATU Nat):Bi w (g.Yv Z) (Blk.Hd bs Z):=by
 have:=vq H Z;rwa [AQ4 (g:=id) (λb hb=>?_),List.map_id]at this;obtain⟨j,hj⟩:=List.getElem?_of_mem hb;rcases Ln hj with h |⟨_,h⟩
 ·subst h;rfl
 ·have:=List.all_eq_true.1 hn b (ARB h);exact Ahg (by simpa using this)
theorem wm:∀(Z:ATU Nat) (a b:ATU Blk),(∀k∈Z,a.length<=k)->∃l,Blk.Hd (a++b) Z=a++l
 |[],a,b,_=>⟨b,rfl⟩
 |k::Z,a,b,h=>by
  have hk:=h k (by simp);simp only[Blk.Hd];rw[ARF _ _ hk];exact wm Z a _ λj hj=>h j (by simp[hj])
end
end Go.Va
namespace Go.Va
section
variable {w:World} {g:G} {n:Nat} {v:Value}
end
section
variable {w:World} {g:G} {bs:ATU Blk} {m:Nat}
theorem AlS{a b:AV}{f:Nat}(h:a.b5 f=some b):a.isAgg=true:=by
 cases a with
 |AB ks t x =>
  cases t<;>first |rfl |(cases f<;>simp[AV.b5,Yb]at h)
 |pr _ _=>rfl
 |_=>cases f<;>simp[AV.b5]at h
theorem za(H:Bi w g bs){c:Co}{a a':AV}{nb:ATU Blk}(h:coV bs c a=some (a',nb)){cs:ATU Value}(hx:CK w g bs.length false a cs) :
    ∃g',Bi w g' (bs++nb)/\CK w g' (bs++nb).length false a' cs/\a'.isAgg=a.isAgg/\Step [] bs.length w g w g':=by
 have stay:∀a':AV,CK w g bs.length false a' cs->a'.isAgg=a.isAgg->∃g',Bi w g' (bs++[])/\CK w g' (bs++[]).length false a' cs/\a'.isAgg=a.isAgg/\Step [] bs.length w g w g':=λa' h1 h2=>⟨g,by rw[AQU];exact H,by rw[AQU];exact h1,h2,Step.refl _ _ _ _⟩;cases c with
 |AB t =>
  simp only[coV]at h;split at h
  ·rename_i x hr;simp only[AQh,AQs]at h;obtain⟨rfl,rfl⟩:=h;have:=Rx H t a x cs hr hx;exact stay _ ⟨this.2,this.1⟩ (cw hr).symm
  ·cases h
 |iG ks =>
  simp only[coV]at h;split at h
  ·rename_i l t x;split at h
   ·rename_i hc;simp only[AQh,AQs]at h;obtain⟨rfl,rfl⟩:=h;rw[AQm,ARA]at hc;have hks:∀k∈ks,k<bs.length:=λk hk=>by have:=List.all_eq_true.1 hc.2 k hk;simpa using this
    refine stay _ ⟨hks,Aoh hx.2 λhf b hb=>?_⟩ rfl;rcases hc.1 with h |h
    ·rw[h]at hf;cases hf
    ·exact hb.mono λk hk=>by have:=List.all_eq_true.1 h k hk;simpa using this
   ·cases h
  ·cases h
 |row p e t Aw =>
  simp only[coV]at h;split at h
  ·rename_i hz;split at h
   ·rename_i O6;split at h
    ·rename_i b hb;simp only[AQh,AQs]at h;obtain⟨rfl,rfl⟩:=h;obtain⟨_,BX⟩:=lY O6;obtain⟨c0,c1,c2,e1,ho,⟨ad,QS⟩,_⟩:=S0 p a cs .zs hx hz
     let g':=g.Wt (λj r=>.BQ j r) none bs.length ⟨ad,0,0,t.size⟩
     have st:Step [] bs.length w g w g':=Step.Wt H.B3 rfl rfl rfl (AQl _) (λ_ _ _=>rfl) (λq h=>by cases h) (AQl _) λ_ _ _ _=>rfl;have Vv:g'.A2 bs.length=⟨ad,0,0,t.size⟩:=by simp[g',G.Wt]
     have vU:=hx.Sb st (AQQ bs.length);obtain⟨d0,d1,d2,e2,x9,⟨uk,jj⟩,Ie⟩:=S0 p a cs .zs vU hz;have hlen:c0.length=d0.length:=by rw[ho]at x9;injection x9
     have zm:ad=uk:=by
      have h1:cs[c0.length]?=some (.slice ad 0 0):=by
       rw[e1,QS,AQn,AQB (AQl _),ASa];rfl
      have h2:cs[d0.length]?=some (.slice uk 0 0):=by
       rw[e2,jj,AQn,AQB (AQl _),ASa];rfl
      rw[hlen,h2]at h1;injection h1 with h1;injection h1 with h1;exact h1.symm
     have dP:=Ie (.AG bs.length) b d1 hb ⟨AQV _,by rw[Vv,jj,zm]⟩;rw[<-e2]at dP;have Sk:(if(t.BU||Aw)=true then RM.Aw else RM.sh []).Ck=[]:=by split<;>rfl
     refine⟨g',H.push st (NI H.B3 (AQl _) λq h=>by cases h) ⟨(by rw[Sk];intro j hj;cases hj),by rw[Vv];rfl,by rw[Vv],BX,.inl ⟨rfl,by rw[Vv]⟩⟩,by rw[AQj];exact dP,?_,st⟩;cases p with
     |nil =>
      simp only[AV.W2,AQh]at hz;simp only[AV.cC,AQh]at hb;subst hz;subst hb;rfl
     |cons f p =>
      simp only[AV.W2]at hz;split at hz
      ·rename_i q hq;simp only[AV.cC,hq]at hb;split at hb
       ·rw[cB hb,AlS hq]
       ·cases hb
      ·cases hz
    ·cases h
   ·cases h
  ·simp only[AQh,AQs]at h;obtain⟨rfl,rfl⟩:=h;exact stay _ hx rfl
theorem jf{k:Nat}{c:Co}{bs HT:ATU Blk}(h:coB k c bs=some HT):bs.length<=HT.length:=by
 unfold coB at h;split at h
 ·split at h
  ·injection h with h;subst h;simp
  ·cases h
 ·cases h
theorem AgI(H:Bi w g bs){k:Nat}{c:Co}{HT:ATU Blk}(h:coB k c bs=some HT):∃g',Bi w g' HT/\Step [] bs.length w g w g':=by
 unfold coB at h;split at h
 ·rename_i a0 hb;split at h
  ·rename_i a' nb hco;injection h with h;subst h;obtain⟨hlen,bb,cs,e,ha,ho,hh,hx⟩:=H.MR k _ hb;obtain⟨g',h1,h2,h3,h4⟩:=za H hco hx;have hk:=A4 hb;have dO:(bs.set k (.box a')++nb).length=(bs++nb).length:=by simp
   refine⟨g',⟨h1.B3,λj x hj=>?_⟩,h4⟩;rw[dO];rw[AQF]at hj;split at hj
   ·rename_i bj;rw[AQo]at bj;rw[AQE]at hj;split at hj
    ·rename_i ek;subst ek;injection hj with hj;subst hj;have hl:=h4.BQ bb k [] ho hk (by simp);exact⟨by rw[h4.A2 k hk];exact hlen,bb,cs,e,by rw[h4.A2 k hk];exact ha,hl.1,hh,h2⟩
    ·exact h1.MR j x (by rw[AQC bj];exact hj)
   ·rename_i bj;rw[AQo]at bj hj;exact h1.MR j x (by rw[AQB (by omega)];exact hj)
  ·cases h
 ·cases h
theorem Abd:∀{l:ATU (Nat×Co)} {bs HT:ATU Blk} {g:G},rA l bs=some HT->Bi w g bs->bs.length<=HT.length/\∃g',Bi w g' HT/\Step [] bs.length w g w g'
 |[],bs,HT,g,h,H=>by
  simp only[rA,AQh]at h;subst h;exact⟨AQl _,g,H,Step.refl _ _ _ _⟩
 |(k,c)::r,bs,HT,g,h,H=>by
  simp only[rA]at h;split at h
  ·rename_i b1 h1;obtain⟨g1,H1,s1⟩:=AgI H h1;obtain⟨hl,g2,H2,s2⟩:=Abd h H1;exact⟨AQJ (jf h1) hl,g2,H2,s1.trans s2 (jf h1)⟩
  ·cases h
theorem vg:∀{l:ATU (Nat×Co)} {bs HT:ATU Blk},rA l bs=some HT->bs.length<=HT.length
 |[],bs,HT,h=>by simp only[rA,AQh]at h;subst h;exact AQl _
 |(k,c)::r,bs,HT,h=>by
  simp only[rA]at h;split at h
  ·rename_i b1 h1;exact AQJ (jf h1) (vg h)
  ·cases h
theorem wP:∀{l:ATU (Nat×ATU (ATU Nat)×Co)} {args:ATU AV} {bs HT:ATU Blk},preB l args bs=some HT->∃l',rA l' bs=some HT
 |[],args,bs,HT,h=>⟨[],h⟩
 |(j,q,c)::r,args,bs,HT,h=>by
  simp only[preB]at h;split at h
  ·split at h
   ·rename_i k _;split at h
    ·rename_i b1 h1;obtain⟨l',h2⟩:=wP h;exact⟨(k,c)::l',by simp only[rA,h1];exact h2⟩
    ·cases h
   ·cases h
  ·cases h
end
section
variable {P:Program} {σ:St} {o:Oper} {en:G5} {e:Ih}
theorem AdR{c:Call}(ho:o.op=.call c)(hc:c.callee=.builtin .cap)(hx:Qr σ c.args=[.zs]){t:TypeId}{r:ATU TypeId}(bl:c.argTypes.toList=t::r){ti:TI}(ht:Fy P t ti)(hs:ti.EA=true):OL P σ o ⟨.int .i64 0,σ.Aj,[]⟩:=by
 obtain⟨a0,ha,al⟩:=Afm hx;refine .Jm <| Ml (s:=λρ=>Builtin.cap_ c.argTypes o.type #[ρ a0]) (λρ=>?_) λa w g BS=>?_
 ·rw[Ks ho hc,ha];simp[builtin]
 ·have YL:=AX BS a0;rw[al]at YL;obtain⟨ad,hv⟩:=Ze YL;have h0:c.argTypes[0]?=some t:=by rw[<-AQt,bl];rfl
  exact B7 (by rw[hv];simp[Builtin.cap_,h0,underlying,BD ht hs,goInt])
end
end Go.Va
namespace Go.Va
section
variable {P:Program} {σ:St} {o:Oper} {en:G5} {e:Ih}
theorem AdX{t:TypeId}{x:Operand}(ho:o.op=.load t x){ti:TI}(ht:Fy P t ti)(Jk:ti.EA=true)(h:cF σ.Aj ti (σ.Cp x) some=some e):OL P σ o e:=by
 unfold cF at h;split at h
 ·rename_i k i p f hx;split at h
  ·rename_i el tr xs hb;split at h
   ·rename_i u jl;split at h
    ·rename_i ys x0 hg hs;split at h
     ·rename_i hc;injection h with h;subst h;obtain⟨hti,oX,hu⟩:=hc;refine⟨by simp[AJ],λh=>(by grind),λa w g BS next Q hn=>?_⟩
      have YL:=AX BS x;rw[hx]at YL;obtain⟨hk,h0,h1,b,OM,hpe⟩:=L1 YL;obtain⟨ad,c,DW⟩:=Ads BS.heap hb h1 hg hs oX OM;obtain⟨g1,H1,SA,Ac1,_,AMx⟩:=Z8 BS.heap hb h1 hg oX hu OM DW hs;have Ep:(execOp a.eval o).run P w=.ok (.value (.slice ad ys.length c)) w:=by
       have hl:=T2 (P:=P) (w:=w) ht (b:=b) (off:=i.toNat*(g.A2 k).oQ+f) (cs:=[.slice ad ys.length c]) (by rw[hti];rfl) (λj v hv=>by
        grind) (λ_=>rfl)
       obtain⟨v,hv,oY⟩:=hl;rw[hti]at oY;have:[Value.slice ad ys.length c]=[v]:=oY;injection this with h2 _;subst h2;simp[execOp,ho,hpe,Instr.loadAt,Instr.sureAddr,hv]
      unfold Oper.wp;rw[Ep];have U6:((Be [k] σ.Aj).set k (Blk.Sm el tr xs i p)++[Blk.row 0 .Aw u ys]).length=σ.Aj.length+1:=by simp[AJ]
      refine hn _ w g1 ⟨H1.B3,λj y hj=>?_⟩ (by grind) SA;rw[U6];have zu:((Be [k] σ.Aj).set k Blk.Bd++[Blk.row 0 .Aw u ys]).length=σ.Aj.length+1:=by grind
      by_cases mV:j=k
      ·grind
      ·have:=H1.MR j y (by
         grind)
       rwa [zu]at this
     ·grind
    ·grind
   ·grind
  ·grind
 ·grind
structure mR (P:Program) (bp:TypeId) (kt:Ty):Prop where
 check:∀(w:World) (em:Bool) (x:kt.V),(Instr.checkKey em 10000 bp (FL kt x)).run P w=.ok () w
 find:∀(w:World) (x:kt.V) (ks:List kt.V) (ms:List MapEntry),ms.map (·.key)=ks.map (FL kt) ->
  (∀j:Nat,(∀i,i<j->∀y,ks[i]?=some y->Bg kt x y=false)->(∀y,ks[j]?=some y->Bg kt x y=true)->(Instr.findKey bp (FL kt x) ms).run P w=.ok (if h:j<ms.length then some (j,ms[j].val)else none) w)
 stays:∀(w:World) (x:kt.V),(Instr.keyThatStays (FL kt x) (FL kt x)).run P w=.ok (FL kt x) w
 eq:∀x y:kt.V,Bg kt x y=true->x=y
theorem cG{s t:ByteArray}:Jn s t=true↔s=t:=by
 unfold Jn;rw[ByteArray.toList_eq,ByteArray.toList_eq,ARm];constructor
 ·intro h;cases s with
  |mk a=>cases t with
   |mk b=>simp at h;rw[h]
 ·grind
theorem AnB{s t:ByteArray}:(s==t)=true↔s=t:=by
 constructor
 ·intro h;have:(s.data==t.data)=true:=h;cases s;simp at this;rw[this]
 ·rintro rfl
  show(s.data==s.data)=true;simp
theorem xn{s t:ByteArray}:Jn s t=(s==t):=by rw[AR2,cG,AnB]
theorem kJ{kt:Ty}{d:TypeDesc}(hs:∀x y:kt.V,Instr.sameNow d (FL kt x) (FL kt y)=some (Bg kt x y)){x:kt.V}:∀(ks:ATU kt.V) (ms:ATU MapEntry) (n j:Nat),ms.map (·.key)=ks.map (FL kt) ->
    (∀i,i<j->∀y,ks[i]?=some y->Bg kt x y=false)->(∀y,ks[j]?=some y->Bg kt x y=true)->Instr.findNow d (FL kt x) ms n=some (if h:j<ms.length then some (n+j,ms[j].val)else none)
 |[],ms,n,j,hm,_,_=>by
  have :=by simpa using hm
  subst this;rfl
 |k::ks,m::ms,n,0,hm,_,h1=>by
  simp only[AQ0,AR3]at hm;simp[Instr.findNow,hm.1,hs,h1 k rfl]
 |k::ks,m::ms,n,j+1,hm,h0,h1=>by
  simp only[AQ0,AR3]at hm;have ih:=kJ hs ks ms (n+1) j hm.2 (λi hi y hy=>h0 (i+1) (by omega) y (by grind)) (λy hy=>h1 y (by grind));simp only[Instr.findNow,hm.1,hs,h0 0 (by omega) k rfl]
  grind
 |k::ks,[],n,j,hm,_,_=>by grind
theorem mR.plain{bp:TypeId}{kt:Ty}{d:TypeDesc}(hu:P.underlying bp=some d)(hs:∀x y:kt.V,Instr.sameNow d (FL kt x) (FL kt y)=some (Bg kt x y))(hc:∀(w:World) (em:Bool) (x:kt.V),(Instr.checkKey em 10000 bp (FL kt x)).run P w=.ok () w)
    (BS:∀(w:World) (x:kt.V),(Instr.keyThatStays (FL kt x) (FL kt x)).run P w=.ok (FL kt x) w) (heq:∀x y:kt.V,Bg kt x y=true->x=y):mR P bp kt where
 check:=hc
 find w x ks ms hm j h0 h1:=by
  have:=kJ hs  ks ms 0 j hm h0 h1;simp[Instr.findKey,underlying,hu,this]
 stays:=BS
 eq:=heq
theorem Aml{bp:TypeId}{q q':IntKind}(hu:P.underlying bp=some (.int q')):mR P bp (.int q) :=
 .plain hu (λx y=>by simp[FL,Instr.sameNow,Bg]) (λw em x=>by
     rw[Instr.checkKey];simp[underlying,hu]) (λw x=>by
     have:Instr.sameBits 10000 (.int q x) (.int q x)=true:=by simp[Instr.sameBits]
     simp[Instr.keyThatStays,FL,this]) λx y h=>by simpa [Bg]using h
theorem Amm{bp:TypeId}(hu:P.underlying bp=some .string):mR P bp .str :=
 .plain hu (λx y=>by simp[FL,Instr.sameNow,Bg,xn]) (λw em x=>by
     rw[Instr.checkKey];simp[underlying,hu]) (λw x=>by
     have:Instr.sameBits 10000 (.string x) (.string x)=true:=by exact AnB.2 rfl
     simp[Instr.keyThatStays,FL,this]) λx y h=>cG.1 (by simpa [Bg]using h)
theorem ea{e2:TypeId}{te:TI}(Er:Fy P e2 te){q:IntKind}(hq:te.ty=.int q){w:World}{cs:Array Value}{i:Nat}{v:Value}(h:cs[i]?=some v):(part e2 cs i).run P w=.ok v w:=by
 have ha:=cY (w:=w) Er;rw[hq]at ha;simp[part,ha,Ty.isAgg,h]
theorem gG{e2:TypeId}{q q':IntKind}(hu:P.underlying e2=some (.int q'))(d:Nat)(w:World)(a b:Int):(Op.equalIn (d+1) e2 (.int q a) (.int q b)).run P w=.ok (a==b) w:=by
 simp[Op.equalIn,underlying,hu]
theorem oP{bp e2:TypeId}(hu:P.underlying bp=some (.array 2 e2)){te:TI}(Er:Fy P e2 te){q:IntKind}(hq:te.ty=.int q)(w:World)(a b c d:Int) :
    (Op.equal bp (.agg #[.int q a,.int q b]) (.agg #[.int q c,.int q d])).run P w=.ok (a==c&&b==d) w:=by
 have hs:=D4 (w:=w) Er;rw[hq]at hs;have hi:=Vx Er hq;have p0:∀x y ,(part e2 #[.int q x,.int q y] 0).run P w=.ok _ w:=λx y=>ea Er hq rfl;have p1:∀x y ,(part e2 #[.int q x,.int q y] 1).run P w=.ok _ w:=λx y=>ea Er hq rfl;have eq:=λx y=>gG  (q:=q) hi 9998 w x y;unfold Op.equal Op.maxDepth;rw[Op.equalIn];simp only[Sem.run_bind,run_underlying hu,Result.andThen_ok,hs];simp only[Std.Legacy.Range.forIn_eq_forIn_range',Std.Legacy.Range.size,List.range'_succ,List.forIn_nil];by_cases h1:a=c<;>by_cases h2:b=d<;>simp[p0,p1,eq,h1,h2,Ty.size]
theorem bf{bp e2:TypeId}(hu:P.underlying bp=some (.array 2 e2)){te:TI}(Er:Fy P e2 te){q:IntKind}(hq:te.ty=.int q)(w:World){x:(Ty.AH (.int q) (.AH (.int q) .unit)).V} :
    ∀(ks:ATU (Ty.AH (.int q) (.AH (.int q) .unit)).V) (ms:ATU MapEntry) (n j:Nat),ms.map (·.key)=ks.map (FL (.AH (.int q) (.AH (.int q) .unit))) ->
    (∀i,i<j->∀y,ks[i]?=some y->Bg (.AH (.int q) (.AH (.int q) .unit)) x y=false)->(∀y,ks[j]?=some y->Bg (.AH (.int q) (.AH (.int q) .unit)) x y=true) ->
    (Instr.findAsking bp (FL (.AH (.int q) (.AH (.int q) .unit)) x) ms n).run P w=.ok (if h:j<ms.length then some (n+j,ms[j].val)else none) w
 |[],ms,n,j,hm,_,_=>by
  have :=by simpa using hm
  subst this;simp[Instr.findAsking]
 |k::ks,m::ms,n,0,hm,_,h1=>by
  simp only[AQ0,AR3]at hm;have:=h1 k rfl;simp only[Bg,Bool.and_true]at this;simp[Instr.findAsking,hm.1,FL,oP hu Er hq,this]
 |k::ks,m::ms,n,j+1,hm,h0,h1=>by
  simp only[AQ0,AR3]at hm;have ih:=bf hu Er hq w ks ms (n+1) j hm.2 (λi hi y hy=>h0 (i+1) (by omega) y (by grind)) (λy hy=>h1 y (by grind));have:=h0 0 (by omega) k rfl;simp only[Bg,Bool.and_true]at this;simp only[Instr.findAsking,hm.1,Sem.run_bind];rw[show(Op.equal bp _ _).run P w=.ok false w by simp[FL,oP hu Er hq,this]];simp
  grind
 |k::ks,[],n,j,hm,_,_=>by grind
theorem Amk{bp e2:TypeId}(hu:P.underlying bp=some (.array 2 e2)){te:TI}(Er:Fy P e2 te){q:IntKind}(hq:te.ty=.int q):mR P bp (.AH (.int q) (.AH (.int q) .unit)) where
 check w em x:=by
  have hs:=D4 (w:=w) Er;rw[hq]at hs;have hi:=Vx Er hq;have p0:(part e2 #[.int q x.1,.int q x.2.1] 0).run P w=.ok _ w:=ea Er hq rfl;have p1:(part e2 #[.int q x.1,.int q _] 1).run P w=.ok (.int q x.2.1) w:=ea Er hq rfl;have hc:∀y,(Instr.checkKey em 9999 e2 (.int q y)).run P w=.ok () w:=λy=>by
   rw[Instr.checkKey];simp[underlying,hi]
  rw[Instr.checkKey];simp only[Sem.run_bind,run_underlying hu,Result.andThen_ok,FL];simp only[Std.Legacy.Range.forIn_eq_forIn_range',Std.Legacy.Range.size,List.range'_succ,List.forIn_nil];simp[hs,p0,p1,hc,Ty.size]
 find w x ks ms hm j h0 h1:=by
  have hf:=bf hu Er hq w  ks ms 0 j hm h0 h1;simp only[Instr.findKey,run_underlying hu];cases ms with
  |nil=>simp[underlying,hu,Instr.findNow]
  |cons m ms =>
   cases ks with
   |nil=>grind
   |cons k ks =>
    have:Instr.findNow (.array 2 e2) (FL _ x) (m::ms) 0=none:=by simp[Instr.findNow,Instr.sameNow]
    simp[underlying,hu,this,hf]
 stays w x:=by
  have:Instr.sameBits 10000 (.agg #[.int q x.1,.int q x.2.1]) (.agg #[.int q x.1,.int q x.2.1])=true:=by
   simp[Instr.sameBits]
  simp[Instr.keyThatStays,FL,this]
 eq x y h:=by
  simp only[Bg,Bool.and_true]at h
  grind
theorem mR.of{Eb:Tab}{bp:TypeId}{tk:TI}(ht:ix P Eb=true)(hk:Fy P bp tk)(h:tk.ty.EG=true)(hh:cf Eb tk=true):mR P bp tk.ty:=by
 unfold cf at hh;split at hh
 ·simp only[AQm,ARm]at hh;obtain⟨nD,hh⟩:=hh;split at hh
  ·rename_i te Er;simp only[AQm,ARm]at hh;have hu:=hk.Ht (by omega);rw[nD]at hu;rw[hh.2];exact Amk hu (Fy.of ht Er) hh.1
  ·grind
 ·cases hq:tk.ty with
  |int q=>exact Aml (Vx hk hq)
  |str=>exact Amm (Tg hk hq)
  |AH a b =>
   rename_i aT;rw[hq]at h;cases a with
   |int q=>grind
   |_=>simp[Ty.EG]at h
  |_=>rw[hq]at h;simp[Ty.EG]at h
theorem Ami{w:World}{A:Nat->Prop}:∀{kt:Ty} {x:kt.V} {cs:ATU Value} {v:Value},kt.EG=true->Ii w A kt x cs->Cm kt.isAgg cs v->v=FL kt x
 |.int k,x,cs,v,_,h,hv=>by
  subst h;simpa [FL]using hv.symm
 |.str,x,cs,v,_,h,hv=>by
  subst h;simpa [FL]using hv.symm
 |.AH a b,x,cs,v,hk,h,hv=>by
  cases a with
  |int q=>cases b with
   |AH b c=>cases b with
    |int q'=>cases c with
     |unit =>
      obtain⟨c1,d1,rfl,h1,c2,d2,rfl,h2,h3⟩:=h;subst h1;subst h2;subst h3;simpa [Cm,Ty.isAgg,FL]using hv
     |_=>simp[Ty.EG]at hk
    |_=>simp[Ty.EG]at hk
   |_=>simp[Ty.EG]at hk
  |_=>simp[Ty.EG]at hk
 |.bool,_,_,_,hk,_,_=>by simp[Ty.EG]at hk
 |.unit,_,_,_,hk,_,_=>by simp[Ty.EG]at hk
 |.sl _,_,_,_,hk,_,_=>by simp[Ty.EG]at hk
 |.Sp _,_,_,_,hk,_,_=>by simp[Ty.EG]at hk
theorem lq{w:World}{g:G}{bs:ATU Blk}(H:Bi w g bs){kt:Ty}{a:AV}{key:kt.V}{v:Value}(hk:kt.EG=true)(h:rd bs kt a=some key)(hv:B6 w g bs.length a v):v=FL kt key:=by
 obtain⟨h1,h2⟩:=Xd h;obtain⟨cs,UN,hv⟩:=B4 h1 h2 hv;rw[cw h]at hv;exact Ami hk (Rx H kt a key cs h UN).1 hv
theorem Yj:∀{kt:Ty},kt.EG=true->∀{x:kt.V},Bg kt x x=true
 |.int _,_,x=>by simp[Bg]
 |.str,_,x=>cG.2 rfl
 |.AH a b,hk,x=>by
  cases a with
  |int q=>cases b with
   |AH b c=>cases b with
    |int q'=>cases c with
     |unit=>simp[Bg]
     |_=>simp[Ty.EG]at hk
    |_=>simp[Ty.EG]at hk
   |_=>simp[Ty.EG]at hk
  |_=>simp[Ty.EG]at hk
 |.bool,hk,_=>by simp[Ty.EG]at hk
 |.unit,hk,_=>by simp[Ty.EG]at hk
 |.sl _,hk,_=>by simp[Ty.EG]at hk
 |.Sp _,hk,_=>by simp[Ty.EG]at hk
theorem pz{kt vt:Ty}(k:kt.V):∀(es:ATU (kt.V×vt.V)),(∃(j:Nat) (x:kt.V×vt.V),es[j]?=some x/\Bg kt k x.1=true/\(∀i,i<j->∀y,es[i]?=some y->Bg kt k y.1=false)/\Pm kt vt es k=some x.2/\∀v,Cr kt vt es k v=es.set j (k,v)) \/
    ((∀(i:Nat) y,es[i]?=some y->Bg kt k y.1=false)/\Pm kt vt es k=none/\∀v,Cr kt vt es k v=es++[(k,v)])
 |[]=>.inr ⟨λi y h=>by grind,rfl,λ_=>rfl⟩
 |x::r=>by
  cases hk:Bg kt k x.1 with
  |true=>exact .inl ⟨0,x,rfl,hk,λi hi=>by omega,by simp[Pm,hk],λv=>by simp[Cr,hk]⟩
  |false =>
   rcases pz k r with ⟨j,y,h1,h2,h3,h4,h5⟩|⟨h1,h2,h3⟩
   ·refine .inl ⟨j+1,y,by grind,h2,λi hi z hz=>?_,by simp[Pm,hk,h4],λv=>by simp[Cr,hk,h5]⟩
    grind
   ·refine .inr ⟨λi z hz=>?_,by simp[Pm,hk,h2],λv=>by simp[Cr,hk,h3]⟩
    grind
section
variable {w:World} {own:Nat->VC} {k:Nat} {md:RM} {kt vt:Ty} {st:ATV kt.V}
theorem Xp.Amj:∀{i:Nat} {es:ATU (kt.V×vt.V)} {ms:ATU MapEntry},Xp w own k md kt vt st i es ms->ms.map (·.key)=(es.map (·.1)).map (FL kt)
 |_,[],_,h=>by cases h;rfl
 |_,x::xs,_,⟨m,r,e,h1,_,h3⟩=>by subst e;simp[h1.1,Xp.Amj h3]
theorem Xp.len{i:Nat}{es:ATU (kt.V×vt.V)}{ms:ATU MapEntry}(h:Xp w own k md kt vt st i es ms):ms.length=es.length:=by
 have:=congrArg List.length h.Amj;simpa using this
theorem Xp.get:∀{i:Nat} {es:ATU (kt.V×vt.V)} {ms:ATU MapEntry} {j:Nat} {x:kt.V×vt.V},Xp w own k md kt vt st i es ms->es[j]?=some x ->
    ∃m,ms[j]?=some m/\(m.key=FL kt x.1/\m.born=i+j)/\(st=some x.1\/∃cs,UW w own k md vt (i+j) x.2 cs/\Cm vt.isAgg cs m.val)
 |i,x::xs,_,0,y,⟨m,r,e,h1,h2,h3⟩,hj=>by
  grind
 |i,x::xs,_,j+1,y,⟨m,r,e,h1,h2,h3⟩,hj=>by
  subst e;obtain⟨m',h4,h5,h6⟩:=h3.get (j:=j) (by simpa using hj)
  grind
 |_,[],_,_,_,_,hj=>by grind
theorem Xp.mk:∀{i:Nat} {es:ATU (kt.V×vt.V)} {ms:ATU MapEntry},ms.length=es.length->(∀(j:Nat) (x:kt.V×vt.V) (m:MapEntry),es[j]?=some x->ms[j]?=some m->(m.key=FL kt x.1/\m.born=i+j)/\(st=some x.1\/∃cs,UW w own k md vt (i+j) x.2 cs/\Cm vt.isAgg cs m.val))->Xp w own k md kt vt st i es ms
 |_,[],ms,hl,_=>by
  cases ms with
  |nil=>rfl
  |cons _ _=>grind
 |i,x::xs,[],hl,_=>by grind
 |i,x::xs,m::ms,hl,h=>by
  obtain⟨h1,h2⟩:=h 0 x m rfl rfl;refine⟨m,ms,rfl,h1,h2,Xp.mk (by grind) λj y m' hy hm=>?_⟩;have:=h (j+1) y m' (by grind) (by grind)
  grind
end
theorem xF{t:Nat}{ti:TI}(h:Fy P t ti)(w:World):∃z,(zeroValue t).run P w=.ok z w/\Cm ti.ty.isAgg (Se ti.ty) z:=by
 obtain⟨i,z,hi,_,_,hz,oZ,ha⟩:=h.info;refine⟨z,by simp[zeroValue,typeInfo,hi,hz],?_⟩;cases hg:ti.ty.isAgg with
 |true =>
  obtain⟨c,rfl⟩:=ha.2 hg;have:c.toList=Se _:=oZ;simp[Cm,<-this]
 |false =>
  have hn:∀c,z≠.agg c:=λc e=>by grind
  have:z.cells=#[z]:=by cases z<;>first |rfl |grind
  rw[this]at oZ;simp[Cm,<-oZ]
theorem dJ{w:World}{g:G}{k:Nat}{md:RM}{kt vt:Ty}{st:ATV kt.V}{bp:TypeId}(K:mR P bp kt){es:ATU (kt.V×vt.V)}{Ht:Array MapEntry}(hm:Xp w g.own k md kt vt st 0 es Ht.toList)(key:kt.V) :
    (∃(j:Nat) (x:kt.V×vt.V) (m:MapEntry),es[j]?=some x/\x.1=key/\Ht[j]?=some m/\(∀i,i<j->∀y,es[i]?=some y->Bg kt key y.1=false)/\Pm kt vt es key=some x.2/\(∀v,Cr kt vt es key v=es.set j (key,v))/\(st=some x.1\/∃cs,UW w g.own k md vt j x.2 cs/\Cm vt.isAgg cs m.val)/\(m.key=FL kt key/\m.born=j) /\
     (Instr.findKey bp (FL kt key) Ht.toList).run P w=.ok (some (j,m.val)) w) \/
    ((∀(i:Nat) y,es[i]?=some y->Bg kt key y.1=false)/\Pm kt vt es key=none/\(∀v,Cr kt vt es key v=es++[(key,v)])/\(Instr.findKey bp (FL kt key) Ht.toList).run P w=.ok none w):=by
 rcases pz key es with ⟨j,x,h1,h2,h3,h4,h5⟩|⟨h1,h2,h3⟩
 ·obtain⟨m,h6,⟨h7,h7b⟩,h8⟩:=hm.get h1;have bj:j<Ht.toList.length:=A4 h6;have hf:=K.find w key (es.map (·.1)) Ht.toList hm.Amj j (λi hi y hy=>by
   grind) (λy hy=>by
   grind)
  have hmv:Ht.toList[j]=m:=by
   grind
  rw[dif_pos bj,hmv]at hf;have e:=(K.eq _ _ h2).symm
  grind
 ·have hf:=K.find w key (es.map (·.1)) Ht.toList hm.Amj es.length (λi hi y hy=>by
    grind) (λy hy=>by
    grind)
  rw[dif_neg (by rw[hm.len];omega)]at hf;exact .inr ⟨h1,h2,h3,hf⟩
theorem jY{w:World}{g:G}{n k:Nat}{v:Value}(h:B6 w g n (.mp k) v):k<n/\∃b,(g.A2 k).a=some ⟨b,0,none⟩/\v=.map (some b):=by
 obtain⟨cs,⟨hk,b,hb,e⟩,hv⟩:=B4 rfl rfl h;subst e;exact⟨hk,b,hb,by simpa [AV.isAgg]using hv.symm⟩
theorem w8{t:TypeId}(ho:o.op=.makeMap t none){m:RM}{kt vt:Ty}(hm:m.Ck=[]):OL P σ o ⟨.mp σ.Aj.length,σ.Aj++[.map m kt vt [] none],[]⟩:=by
 refine⟨by simp,λ_=>⟨_,rfl⟩,λa w g hs next Q hn=>?_⟩
 have hr:(execOp a.eval o).run P w=.ok (.value (.map (some w.heap.size))) (w.alloc (.map #[] 0)):=by
  simp[execOp,ho,Instr.makeMap]
 unfold Oper.wp;rw[hr];have st:=Step.add hs.heap (.map #[] 0) ⟨some ⟨w.heap.size,0,none⟩,0,0,0⟩;refine hn _ _ _ (hs.heap.new ?_) ?_ st
 ·exact⟨(by grind),w.heap.size,#[],0,by simp[G.add],by simp[G.add],heap_alloc_new w _,by simp,rfl⟩
 ·exact Bv  rfl ⟨by simp,w.heap.size,by simp[G.add],rfl⟩ (by simp[Cm,AV.isAgg])
theorem wv{w:World}{g:G}{k b:Nat}{md:RM}{kt vt:Ty}{st:ATV kt.V}{t bp el:TypeId}{te:TI}(ht:P.underlying t=some (.map bp el))(Er:Fy P el te)(hvt:vt=te.ty)(hd:te.ty.data=true)(K:mR P bp kt){es:ATU (kt.V×vt.V)}{Ht:Array MapEntry}{DK:Nat}(hb:w.heap[b]?=some (.map Ht DK))
    (hm:Xp w g.own k md kt vt st 0 es Ht.toList) (key:kt.V) (ok:Bool):∃v,(Instr.lookup t (.map (some b)) (FL kt key) ok).run P w=.ok (if ok then .tuple #[v,.bool (Uz kt vt es key)]else v) w /\
     ((∃(j:Nat) (x:kt.V×vt.V) (m:MapEntry),es[j]?=some x/\x.1=key/\Ht[j]?=some m/\m.val=v/\Bs kt vt es key=x.2/\(st=some x.1\/∃cs,UW w g.own k md vt j x.2 cs/\Cm vt.isAgg cs v))\/(Bs kt vt es key=vt.zero/\Cm vt.isAgg (Se vt) v)):=by
 subst hvt;rcases dJ K hm key with ⟨j,x,m,h1,h2,h3,_,h4,_,h5,_,hf⟩|⟨_,h2,_,hf⟩
 ·refine⟨m.val,?_,.inl ⟨j,x,m,h1,h2,h3,rfl,by simp[Bs,h4],h5⟩⟩;cases ok<;>simp[Instr.lookup,underlying,ht,MapKept.run_getObj_map hb,K.check,hf,Uz,h4]
 ·obtain⟨z,hz,hzv⟩:=xF Er w;refine⟨z,?_,.inr ⟨by simp[Bs,h2],hzv⟩⟩;cases ok<;>simp[Instr.lookup,underlying,ht,MapKept.run_getObj_map hb,K.check,hf,hz,Uz,h2]
theorem Ai2{t:TypeId}{m x:Operand}{ok:Bool}(ho:o.op=.lookup t m x ok){ti tk te:TI}(ht:Fy P t ti)(rN:ti.Pn≠0)(Er:Fy P ti.elem te)(hd:te.ty.data=true)(K:tk.ty.EG=true->mR P ti.Pn tk.ty){z:AV}
    (h:ia σ.Aj tk te ok (σ.Cp m) (σ.Cp x) some=some z):OL P σ o ⟨z,σ.Aj,[]⟩ :=
 .Jm <| Ml (s:=λρ=>Instr.lookup t (ρ m) (ρ x) ok) (λρ=>by simp[execOp,ho]) λa w g BS=>by
  unfold ia at h;split at h
  ·rename_i k hm;split at h
   ·rename_i md kt vt es hb;split at h
    ·rename_i key hx;split at h
     ·rename_i hc;obtain⟨hkt,hvt,Xn⟩:=hc;subst hkt;subst hvt;have hmm:=AX BS m;rw[hm]at hmm;obtain⟨hk,b,OM,hbe⟩:=jY hmm;obtain⟨Sl,b',Ht,DK,ha,Cv,hh,Tn,kY⟩:=BS.heap.MR k _ hb;rw[OM]at ha;injection ha with ha;injection ha with ha;subst ha;have kX:=lq BS.heap Xn hx (AX BS x);obtain⟨v,hr,dQ⟩:=wv (ht.mp rN) Er rfl hd (K Xn) hh kY key ok;have hv:B6 w g σ.Aj.length (.AB (ck (md.own k) te.ty) te.ty (Bs tk.ty te.ty es key)) v:=by
       have nH:∃cs,Ii w (Al g.own (md.own k)) te.ty (Bs tk.ty te.ty es key) cs/\Cm te.ty.isAgg cs v:=by
        rcases dQ with ⟨j,y,mm,h1,h2,h3,h4,h5,h6⟩|⟨h1,h2⟩
        ·rw[h5];rcases h6 with h6 |⟨cs,h6,h7⟩
         ·grind
         ·refine⟨cs,?_,h7⟩;cases md with
          |Aw=>exact Kl.rd (λb q hb=>.mem (AQK) hb) h6
          |sh ks=>exact h6
        ·rw[h1];exact⟨_,Ii.zero hd,h2⟩
       obtain⟨cs,h1,h2⟩:=nH;refine Bv rfl (cs:=cs) ⟨λj hj=>?_,?_⟩ h2
       ·unfold ck at hj;split at hj
        ·grind
        ·cases md with
         |Aw=>simp[RM.own]at hj;subst hj;exact hk
         |sh ks=>exact Sl j hj
       ·unfold ck;split
        ·rename_i hf;exact(Ii.BU hf).2 ((Ii.BU hf).1 h1)
        ·grind
      cases ok with
      |false =>
       simp only[AQu,AQh]at h;subst h;exact⟨v,by grind,hv⟩
      |true =>
       simp only[AQv,AQh]at h;subst h;refine⟨_,by grind,[v,.bool (Uz tk.ty te.ty es key)],rfl,v,_,rfl,(B6.iff rfl).1 hv,.bool (Uz tk.ty te.ty es key),[],rfl,?_,rfl⟩;exact(B6.iff rfl).1 (dX _)
     ·grind
    ·grind
   ·grind
  ·grind
theorem AdV{t:TypeId}{m x:Operand}(ho:o.op=.lookup t m x false){ti tk te:TI}(ht:Fy P t ti)(rN:ti.Pn≠0)(Er:Fy P ti.elem te)(hd:te.ty.data=true)(K:tk.ty.EG=true->mR P ti.Pn tk.ty)
    (h:po σ.Aj tk te (σ.Cp m) (σ.Cp x) some=some e):OL P σ o e:=by
 unfold po at h;split at h
 ·rename_i k hm;split at h
  ·rename_i kt u es hb;split at h
   ·rename_i key hx;split at h
    ·rename_i hc;injection h with h;subst h;obtain⟨hkt,hvt,Xn,hu⟩:=hc;subst hkt;refine⟨by simp[AJ],λh=>(by cases h),λa w g BS next Q hn=>?_⟩
     have H:=BS.heap;have hmm:=AX BS m;rw[hm]at hmm;obtain⟨hk,b,OM,hbe⟩:=jY hmm;obtain⟨Sl,b',Ht,DK,ha,Cv,hh,Tn,kY⟩:=H.MR k _ hb;rw[OM]at ha;injection ha with ha;injection ha with ha;subst ha;have kX:=lq H Xn hx (AX BS x);obtain⟨v,hr,dQ⟩:=wv (ht.mp rN) Er hvt hd (K Xn) hh kY key false;have Ep:(execOp a.eval o).run P w=.ok (.value v) w:=by
      simp only[AQ6,ARH]at hr;simp[execOp,ho,hbe,kX,hr]
     unfold Oper.wp;rw[Ep];obtain ⟨J,ad,cap,hv,O6,WE⟩:∃(J:Nat) (ad:ATV Addr) (cap:Nat),v=.slice ad (Bs tk.ty (.sl u) es key).length cap/\Kl w g.own k (.sl u) [J] (Bs tk.ty (.sl u) es key) [.slice ad (Bs tk.ty (.sl u) es key).length cap] /\
         ∀(i:Nat) (y:tk.ty.V×(Ty.sl u).V),es[i]?=some y->y.1=key\/i≠J:=by
      rcases dQ with ⟨j,y,mm,h1,h2,h3,h4,h5,h6⟩|⟨h1,h2⟩
      ·rcases h6 with h6 |⟨cs,h6,h7⟩
       ·cases h6
       ·have h6':Kl w g.own k (.sl u) [j] y.2 cs:=h6;obtain⟨ad,cap,e1,h8⟩:=h6;subst e1;have hv:[Value.slice ad y.2.length cap]=[v]:=h7;injection hv with hv _;refine⟨j,ad,cap,by rw[h5];exact hv.symm,by rw[h5];exact h6',λi z hz=>?_⟩;by_cases hi:i=j
        ·subst hi;rw[h1]at hz;injection hz with hz;subst hz;exact .inl h2
        ·exact .inr hi
      ·have hv:[Value.slice none 0 0]=[v]:=h2;injection hv with hv _;refine⟨es.length,none,0,by rw[h1];exact hv.symm,by rw[h1];exact⟨none,0,rfl,.inl ⟨rfl,rfl⟩⟩,λi z hz=>.inr ?_⟩;have:=A4 hz;omega
     let ys:=Bs tk.ty (.sl u) es key
     let i1:BI:=⟨ad,ys.length,cap,u.size⟩
     let n:=σ.Aj.length
     let g1:=g.kC n k [J] i1
     have st:Step [k] n w g w g1:=mh;have Vv:g1.A2 n=i1:=by simp[g1,G.kC]
     have gM:k≠n:=by simp only[n];omega
     have oW:((Be [k] σ.Aj).set k (Blk.map .Aw tk.ty (.sl u) es (some key))++[Blk.row 0 .Aw u ys]).length=n+1:=by simp[AJ,n]
     refine hn v w g1 ?_ ?_ st
     ·refine H.cL st (λb hb=>by simp[g1,G.kC,H.B3 b hb]) (by rw[oW];exact AQQ _) λj y hj=>?_;rw[AQF]at hj;split at hj
      ·rcases Tz hj with ⟨mV,rfl⟩|⟨LN,hj⟩
       ·rw[mV];have SI:g1.A2 k=g.A2 k:=by simp[g1,G.kC,gM]
        refine .inr (.inr ⟨λj hj=>(by cases hj),b,Ht,DK,by rw[SI];exact OM,X8 Cv (λhc=>by have:=hc.2;simp at this),hh,Tn,Xp.mk kY.len λi z mm hz hmz=>?_⟩);obtain⟨m',h1,h2,h3⟩:=kY.get hz;rw[hmz]at h1;injection h1 with h1;subst h1;refine⟨h2,?_⟩;rcases WE i z hz with h |h
        ·exact .inl (by rw[h])
        ·rcases h3 with h3 |⟨cs,h3,h4⟩
         ·cases h3
         ·refine .inr ⟨cs,?_,h4⟩;rw[AQL]at h3⊢;exact Kl.mono (λb q hb=>⟨X8 hb λhc=>by
           obtain⟨s,hs⟩:=hc.2;have:=List.append_inj_right' hs rfl;simp at this;exact h this.symm,rfl⟩) h3
       ·obtain⟨y,hy,rfl⟩:=Du hj;exact .inr (.inl ⟨by simpa using LN,y,hy,rfl⟩)
      ·rename_i aS;simp only[AQo,AJ]at hj aS;have oU:j-σ.Aj.length=0:=by
        rcases AQD (j-σ.Aj.length)with h |h
        ·exact h
        ·rw[AQT (by simp;omega)]at hj;cases hj
       rw[oU]at hj;obtain rfl:j=n:=by simp only[n];omega
       simp only[List.getElem?_cons_zero,AQh]at hj;subst hj;refine .inr (.inr ⟨λj hj=>(by cases hj),by rw[Vv],by rw[Vv],ARQ hu,?_⟩);rw[Vv];obtain⟨uk,TJ,e3,O6⟩:=O6;injection e3 with e3 _;injection e3 with e3 _ e4;subst e3;subst e4;refine O6.imp id λ⟨b,el,BA,ds,q1,q2,q3,q4,q5,q6,q7,q8⟩=>⟨b,BA,ds,q1,Z7 (q:=[]) (by simpa using q2),⟨el,.inl rfl,q3⟩,q4,q5,q6,q7,?_⟩;exact q8.mono λi x c r=>r.mono λb q hb=>⟨Z7 (by simpa using hb),rfl⟩
     ·rw[oW,hv];exact Bv (cs:=[_]) rfl ⟨AQV _,by rw[Vv]⟩ rfl
    ·cases h
   ·cases h
  ·cases h
 ·cases h
theorem AhY{w:World}{g:G}{BF:ATU Nat}{b k:Nat}{Ht:Array MapEntry}{DK:Nat}{ob:Obj}(hh:w.heap[b]?=some (.map Ht DK))(ho:g.own b=.BQ k [])(hk:k∈BF):∀q,q<w.heap.size->(∀k p,g.own q=.BQ k p->k∉BF)->({w with heap:=w.heap.setIfInBounds b ob}:World).heap[q]?=w.heap[q]?:=by
 intro q _ hq;exact ART (λe=>by subst e;exact hq k [] ho hk)
theorem AwR{P:Program}{w:World}{g:G}{bs:ATU Blk}(H:Bi w g bs){t:TypeId}{am ax av:AV}{mv xv vv:Value}(hAm:B6 w g bs.length am mv)(hAx:B6 w g bs.length ax xv)(hAv:B6 w g bs.length av vv){ti tk te:TI}(ht:Fy P t ti)(rN:ti.Pn≠0)(K:tk.ty.EG=true->mR P ti.Pn tk.ty){e:Ih}
    (h:eR bs tk te am ax av some=some e):e.BF≠[]/\e.Aj.length=bs.length/\e.val=.un 0/\∃w' g',(Instr.mapUpdate t mv xv vv).run P w=.ok () w'/\Bi w' g' e.Aj/\Step e.BF bs.length w g w' g':=by
 unfold eR at h;split at h
 ·rename_i k;split at h
  ·rename_i md kt vt es st0 hb;split at h
   ·rename_i key y m' rs hx bk;split at h
    ·rename_i hc;obtain⟨hkt,hvt,Xn,QQ,hrk⟩:=hc;subst hkt;have h':e=⟨.un 0,(Blk.Hd (Be (k::rs) bs) rs).set k (.map m' tk.ty vt (Cr tk.ty vt es key y) none),k::rs⟩/\(st0=none\/st0=some key):=by
      cases st0 with
      |none=>injection h with h;exact⟨h.symm,.inl rfl⟩
      |some k0 =>
       simp only at h;cases hq:Bg tk.ty k0 key with
       |false=>rw[hq]at h;cases h
       |true =>
        rw[hq,AQv]at h;injection h with h;exact⟨h.symm,.inr (by rw[(K Xn).eq _ _ hq])⟩
     obtain⟨rfl,vS⟩:=h';refine⟨by simp,by simp[Bc,AJ],rfl,?_⟩;have hmm:=hAm;obtain⟨hk,b,OM,hbe⟩:=jY hmm;obtain⟨Sl,b',Ht,DK,ha,Cv,hh,Tn,kY⟩:=H.MR k _ hb;rw[OM]at ha;injection ha with ha;injection ha with ha;subst ha;have kX:=lq H Xn hx hAx;obtain⟨hy,hrs,AKn,AKk⟩:=QM bk;obtain⟨Zy,SJ⟩:=Xd hy;obtain⟨cv,Y1,hvv⟩:=B4 Zy SJ hAv;rw[cw hy]at hvv;obtain⟨Y2,kV⟩:=eQ bk;have YJ:=XP QQ;have zr:k∉rs:=by simpa using hrk
     have Bp:b<w.heap.size:=VP H (by rw[Cv];simp);obtain ⟨J,uw,fA,Ep,Ahr⟩:∃(J:Nat) (uw:Array MapEntry) (fA:Nat),(Instr.mapUpdate t mv xv vv).run P w=.ok () {w with heap:=w.heap.setIfInBounds b (.map uw fA)} /\
         ((((Cr tk.ty vt es key y).map (·.1)).Nodup/\fA=uw.size)/\uw.toList.length=(Cr tk.ty vt es key y).length/\∀(i:Nat) (z:tk.ty.V×vt.V) (mm:MapEntry),(Cr tk.ty vt es key y)[i]?=some z->uw.toList[i]?=some mm ->
          (i=J/\z=(key,y)/\(mm.key=FL tk.ty key/\mm.born=i)/\mm.val=vv)\/(i≠J/\es[i]?=some z/\Ht.toList[i]?=some mm/\st0≠some z.1)):=by
      have hu:=ht.mp rN;have Zw:∀z:tk.ty.V,Bg tk.ty key z=false->st0≠some z:=λz hz e=>by
       rcases vS with h |h
       ·rw[h]at e;cases e
       ·rw[h]at e;injection e with e;subst e;rw[Yj Xn]at hz;cases hz
      rcases dJ (K Xn) kY key with ⟨j,z,mm,h1,h2,h3,h4,h5,h6,h7,⟨h8,h8b⟩,hf⟩|⟨h1,h2,h3,hf⟩
      ·refine⟨j,Ht.modify j λe=>{e with key:=FL tk.ty key,val:=vv},DK,?_,?_⟩
       ·rw[hbe,kX];simp[Instr.mapUpdate,underlying,hu,MapKept.run_getObj_map hh,(K Xn).check,hf,h3,h8,(K Xn).stays,MapKept.run_setObj_map _ hh]
       ·rw[h6 y];have hl:Ht.toList.length=es.length:=kY.len;refine⟨⟨by
         rw[List.map_set];have:(es.map (·.1)).set j key=es.map (·.1):=by
          have hg:(es.map (·.1))[j]?=some key:=by rw[AQI,h1,<-h2];rfl
          apply ARu;intro i;rw[AQE];split
          ·rename_i e;subst e;rw[AQx (A4 hg),hg]
          ·rfl
         rw[this];exact Tn.1,by simp[Tn.2]⟩,by simpa using hl,λi z' m2 hz Tm=>?_⟩
        rw[AQt,ARR]at Tm;rw[AQE]at hz;by_cases zq:j=i
        ·subst zq;have bj:=A4 h1;simp only[AQ2,bj]at hz;injection hz with hz;simp only[AQ2,h3,Option.map_some,AQh]at Tm;subst Tm;exact .inl ⟨rfl,hz.symm,⟨rfl,h8b⟩,rfl⟩
        ·simp only[AQy zq]at hz Tm;refine .inr ⟨λe=>zq e.symm,hz,by rw[AQt];exact Tm,?_⟩;intro e;rcases vS with h |h
         ·rw[h]at e;cases e
         ·rw[h]at e;injection e with e;have g1:(es.map (·.1))[j]?=some key:=by rw[AQI,h1,<-h2];rfl
          have g2:(es.map (·.1))[i]?=some key:=by rw[AQI,hz,e];rfl
          exact zq ((List.getElem?_inj (A4 g1) Tn.1).1 (g1.trans g2.symm))
      ·refine⟨es.length,Ht.push {key:=FL tk.ty key,val:=vv,born:=DK},DK+1,?_,?_⟩
       ·rw[hbe,kX];simp[Instr.mapUpdate,underlying,hu,MapKept.run_getObj_map hh,(K Xn).check,hf,MapKept.run_setObj_map _ hh]
       ·rw[h3 y];have hl:Ht.toList.length=es.length:=kY.len;refine⟨⟨by
         rw[AQY,ASh];refine⟨Tn.1,by simp,λa ha b hb=>?_⟩;simp at hb;subst hb
         rintro rfl
         obtain⟨z,hz,rfl⟩:=List.mem_map.1 ha;obtain⟨i,hi⟩:=List.getElem?_of_mem hz;have:=h1 i z hi;rw[Yj Xn]at this;exact Bool.noConfusion this,by simp[Tn.2]⟩,by simpa using hl,λi z' m2 hz Tm=>?_⟩
        rw[Array.toList_push]at Tm;by_cases hi:i<es.length
        ·rw[AQC hi]at hz;rw[AQC (by rw[hl];exact hi)]at Tm;exact .inr ⟨by omega,hz,Tm,Zw _ (h1 i z' hz)⟩
        ·have tN:=A4 hz;rw[AQj,AQz]at tN;obtain rfl:i=es.length:=by omega
         simp at hz;rw[<-hl]at Tm;simp at Tm;subst Tm;subst hz;exact .inl ⟨rfl,rfl,⟨rfl,by show DK=es.length;rw[Tn.2,<-hl];simp⟩,rfl⟩
     obtain⟨AKm,Abt,Ahr⟩:=Ahr
     let w':World:={w with heap:=w.heap.setIfInBounds b (.map uw fA)}
     let M:=Lp av [J]
     have zk:M.map (·.1)=rs:=by rw[hrs];exact G4 _ _
     let f:=XZ md k M
     let g':=g.Wt f none bs.length ⟨none,0,0,0⟩
     have vO:∀b' r,g.own b'=.BQ k r->g'.own b'=.BQ k r:=λb' r h=>by
      have:=I7 (f:=f) (ob:=none) (n:=bs.length) (i:=⟨none,0,0,0⟩) (by simp) h;rw[this];exact Qx (by rw[zk];exact zr)
     have NC:w'.heap.size=w.heap.size:=by simp[w']
     have st:Step (k::rs) bs.length w g w' g':=Step.Wt H.B3 rfl rfl rfl (by rw[NC];exact AQl _) (AhY hh Cv (by simp)) (λq h=>by cases h) (AQl _) λj r _ hm =>
      Qx (by rw[zk];exact λh=>hm (AQH _ h))
     have Awa:∀b',b'≠b->w'.heap[b']?=w.heap[b']?:=λb' h=>ART (Ne.symm h);have Ahz:∀b' j r,g.own b'=.BQ j r->j≠k->w'.heap[b']?=w.heap[b']?:=λb' j r h hj=>Awa b' λe=>by subst e;rw[Cv]at h;injection h with h;exact hj h.symm
     have AhA:∀b' q,g.own b'=.BQ k q->q≠[]->w'.heap[b']?=w.heap[b']?:=λb' q h hq=>Awa b' λe=>by subst e;rw[Cv]at h;injection h with _ h;exact hq h.symm
     have vM:∀b',g.own b'=.Jl->w'.heap[b']?=w.heap[b']?:=λb' h=>Awa b' λe=>by subst e;rw[Cv]at h;cases h
     have hon:∀(i':Nat) (x:vt.V) (c:ATU Value),UW w g.own k md vt i' x c->UW w' g'.own k m' vt i' x c:=by
      intro i' x c Ws;refine Ws.on ?_;rcases AKk with ⟨rfl,rfl,_⟩|⟨ks,rfl,rfl⟩
      ·exact λb' q h=>⟨vO b' _ h,AhA b' _ h (by simp)⟩
      ·intro b' h;rcases h with h |⟨j,hj,r,h⟩
       ·exact⟨.inl (WX (by simp) h),vM b' h⟩
       ·have vG:=Y2 j hj;have mV:=YJ j vG;exact⟨.inr ⟨j,vG,r,by
         have:=I7 (f:=f) (ob:=none) (n:=bs.length) (i:=⟨none,0,0,0⟩) (by simp) h;rw[this];exact Qx (by rw[zk];exact λh=>mV (AQH _ h))⟩,Ahz b' j r h λe=>mV (by simp[e])⟩
     have cb:InR w' g'.own k m' vt [J] y cv:=by
      refine tc H bk Y1 (M:=M) (λjq hj=>dV (by rw[G4];exact AKn) hj) (λ_ h=>h) (λj hj=>Vy (by rw[zk];exact λh=>YJ j hj (AQH _ h))) kV
       (λb' j r h _=>I7 (by simp) h) (λb' h=>WX (by simp) h) λb' h=>?_
      rcases h with h |⟨j,r,h,hj⟩
      ·exact vM b' h
      ·refine Ahz b' j r h λe=>?_;subst e;rcases hj with hj |hj
       ·rw[zk]at hj;exact zr hj
       ·exact YJ j hj (by simp)
     have AGN:UW w' g'.own k m' vt J y cv:=by
      cases m' with
      |Aw=>exact cb
      |sh ks=>exact cb
     refine⟨w',g',Ep,H.cL st (NI H.B3 (by rw[NC];exact AQl _) (λq h=>by cases h)) (by simp[Bc,AJ]) λj z hj=>?_,st⟩;rcases Tz hj with ⟨mV,rfl⟩|⟨LN,hj⟩
     ·rw[mV];have SI:g'.A2 k=g.A2 k:=st.A2 k hk;refine .inr (.inr ⟨by simpa [Bc,AJ]using tf H bk Y1 Sl,b,uw,fA,by rw[SI];exact OM,vO b [] Cv,by simp[w',Bp],AKm,Xp.mk Abt λi z mm hz hmz=>?_⟩);rw[AQL];rcases Ahr i z mm hz hmz with ⟨rfl,rfl,h3,h4⟩|⟨h1,h2,h3,h4⟩
      ·exact⟨h3,.inr ⟨cv,AGN,by rw[h4];exact hvv⟩⟩
      ·obtain⟨m2,h5,h6,h7⟩:=kY.get h2;rw[h3]at h5;injection h5 with h5;subst h5;rw[AQL]at h6;refine⟨h6,?_⟩;rcases h7 with h7 |⟨cs,h7,h8⟩
       ·exact(h4 h7).elim
       ·rw[AQL]at h7;exact .inr ⟨cs,hon _ _ _ h7,h8⟩
     ·rcases Ln hj with h |⟨rK,h⟩
      ·exact .inl h
      ·obtain⟨y',jo,rfl⟩:=Du h;exact .inr (.inl ⟨by simp only[ARP,not_or];exact⟨LN,rK⟩,y',jo,rfl⟩)
    ·cases h
   ·cases h
  ·cases h
 ·cases h
theorem mA{bs:ATU Blk}{tk te:TI}{am ax av:AV}{e:Ih}(h:eR bs tk te am ax av some=some e):e.BF≠[]/\e.Aj.length=bs.length:=by
 unfold eR at h;split at h
 ·split at h
  ·split at h
   ·split at h
    ·split at h
     ·injection h with h;subst h;exact⟨by simp,by simp[Bc,AJ]⟩
     ·rename_i y0 _;generalize Bg _ y0 _=q at h;cases q with
      |false=>cases h
      |true=>injection h with h;subst h;exact⟨by simp,by simp[Bc,AJ]⟩
    ·cases h
   ·cases h
  ·cases h
 ·cases h
theorem AbS{t:TypeId}{m x v:Operand}(ho:o.op=.mapUpdate t m x v\/o.op=.insert t m x v){ti tk te:TI}(ht:Fy P t ti)(rN:ti.Pn≠0)(K:tk.ty.EG=true->mR P ti.Pn tk.ty)
    (h:eR σ.Aj tk te (σ.Cp m) (σ.Cp x) (σ.Cp v) some=some e):OL P σ o e:=by
 obtain⟨s1,s2⟩:=mA h;refine⟨by rw[s2];exact AQl _,λh=>(s1 h).elim,λa w g BS next Q hn=>?_⟩
 ·obtain⟨h1,h2,h3,w',g',Ep,hH,st⟩:=AwR BS.heap (AX BS m) (AX BS x) (AX BS v) ht rN K h;have bg:(execOp a.eval o).run P w=.ok .skip w':=by
   rcases ho with ho |ho<;>simp[execOp,ho,Ep]
  unfold Oper.wp;rw[bg];exact hn undef w' g' hH (by rw[h3];exact Sc) st
theorem Aok{w:World}{g:G}{bs:ATU Blk}(H:Bi w g bs){k:Nat}{kt u:Ty}{es:ATU (kt.V×(Ty.sl u).V)}(hb:bs[k]?=some (.map .Aw kt (.sl u) es none))(hu:u.size≠0){J:Nat}{key:kt.V}{ys:(Ty.sl u).V}(hJ:es[J]?=some (key,ys)){b:Nat}(OM:(g.A2 k).a=some ⟨b,0,none⟩)
    {Ht:Array MapEntry} {DK:Nat} (hh:w.heap[b]?=some (.map Ht DK)) {mm:MapEntry} (hm:Ht[J]?=some mm) :
    mm.born=J/\DK=Ht.size/\∃g1,Bi w g1 ((Be [k] bs).set k (.map .Aw kt (.sl u) es (some key))++[.row 0 .Aw u ys])/\Step [k] bs.length w g w g1/\B6 w g1 (bs.length+1) (.AG bs.length) mm.val/\g1.A2 k=g.A2 k:=by
 have hk:=A4 hb;obtain⟨Sl,b',uw,fA,ha,Cv,hh',Tn,kY⟩:=H.MR k _ hb;rw[OM]at ha;injection ha with ha;injection ha with ha;subst ha;rw[hh]at hh';injection hh' with hh';injection hh' with e1 e2;subst e1;subst e2;obtain⟨m',q1,⟨_,q2⟩,q3⟩:=kY.get hJ;rw[AQt,hm]at q1;injection q1 with q1;subst q1;rw[AQL]at q2 q3;refine⟨q2,Tn.2,?_⟩;obtain⟨ad,cap,hv,O6⟩:∃(ad:ATV Addr) (cap:Nat),mm.val=.slice ad ys.length cap/\Kl w g.own k (.sl u) [J] ys [.slice ad ys.length cap]:=by
  rcases q3 with h6 |⟨cs,h6,h7⟩
  ·cases h6
  ·have h6':Kl w g.own k (.sl u) [J] ys cs:=h6;obtain⟨ad,cap,e1,h8⟩:=h6;subst e1;have hv:[Value.slice ad ys.length cap]=[mm.val]:=h7;injection hv with hv _;exact⟨ad,cap,hv.symm,h6'⟩
 let i1:BI:=⟨ad,ys.length,cap,u.size⟩
 let n:=bs.length
 let g1:=g.kC n k [J] i1
 have st:Step [k] n w g w g1:=mh;have Vv:g1.A2 n=i1:=by simp[g1,G.kC]
 have gM:k≠n:=by simp only[n];omega
 have SI:g1.A2 k=g.A2 k:=by simp[g1,G.kC,gM]
 have oW:((Be [k] bs).set k (Blk.map .Aw kt (.sl u) es (some key))++[Blk.row 0 .Aw u ys]).length=n+1:=by simp[AJ,n]
 refine⟨g1,?_,st,?_,SI⟩
 ·refine H.cL st (λb hb=>by simp[g1,G.kC,H.B3 b hb]) (by rw[oW];exact AQQ _) λj y hj=>?_;rw[AQF]at hj;split at hj
  ·rcases Tz hj with ⟨mV,rfl⟩|⟨LN,hj⟩
   ·rw[mV];refine .inr (.inr ⟨λj hj=>(by cases hj),b,Ht,DK,by rw[SI];exact OM,X8 Cv (λhc=>by have:=hc.2;simp at this),hh,Tn,Xp.mk kY.len λi z mm hz hmz=>?_⟩);obtain⟨m',h1,h2,h3⟩:=kY.get hz;rw[hmz]at h1;injection h1 with h1;subst h1;refine⟨h2,?_⟩;by_cases hi:i=J
    ·subst hi;rw[hJ]at hz;injection hz with hz;subst hz;exact .inl rfl
    ·rcases h3 with h3 |⟨cs,h3,h4⟩
     ·cases h3
     ·refine .inr ⟨cs,?_,h4⟩;rw[AQL]at h3⊢;exact Kl.mono (λb q hb=>⟨X8 hb λhc=>by
       obtain⟨s,hs⟩:=hc.2;have:=List.append_inj_right' hs rfl;simp at this;exact hi this.symm,rfl⟩) h3
   ·obtain⟨y,hy,rfl⟩:=Du hj;exact .inr (.inl ⟨by simpa using LN,y,hy,rfl⟩)
  ·rename_i aS;simp only[AQo,AJ]at hj aS;have oU:j-bs.length=0:=by
    rcases AQD (j-bs.length)with h |h
    ·exact h
    ·rw[AQT (by simp;omega)]at hj;cases hj
   rw[oU]at hj;obtain rfl:j=n:=by simp only[n];omega
   simp only[List.getElem?_cons_zero,AQh]at hj;subst hj;refine .inr (.inr ⟨λj hj=>(by cases hj),by rw[Vv],by rw[Vv],ARQ hu,?_⟩);rw[Vv];obtain⟨uk,TJ,e3,O6⟩:=O6;injection e3 with e3 _;injection e3 with e3 _ e4;subst e3;subst e4;refine O6.imp id λ⟨b,el,BA,ds,q1,q2,q3,q4,q5,q6,q7,q8⟩=>⟨b,BA,ds,q1,Z7 (q:=[]) (by simpa using q2),⟨el,.inl rfl,q3⟩,q4,q5,q6,q7,?_⟩;exact q8.mono λi x c r=>r.mono λb q hb=>⟨Z7 (by simpa using hb),rfl⟩
 ·rw[hv];exact Bv (cs:=[_]) rfl ⟨AQV _,by rw[Vv]⟩ rfl
end
end Go.Va
namespace Go.Va
theorem NF(YG:Nat->Bool):∀a:AV,(a.drop YG).drop YG=a.drop YG
 |.AB ks t x=>by
  simp only[AV.drop];split
  ·rfl
  ·rename_i h;simp only[AV.drop,AQy h]
 |.FZ ks t x=>by
  simp only[AV.drop];split
  ·rfl
  ·rename_i h;simp only[AV.drop,AQy h]
 |.Vh k i p o e=>by
  simp only[AV.drop];split
  ·rfl
  ·rename_i h;simp only[AV.drop,AQy h]
 |.Xc k i p o j u=>by
  simp only[AV.drop];split
  ·rfl
  ·rename_i h;simp only[AV.drop,AQy h]
 |.pr a b=>by simp only[AV.drop,NF YG a,NF YG b]
 |.fn f c=>by simp only[AV.drop,NF YG c]
 |.cons a b=>by simp only[AV.drop,NF YG a,NF YG b]
 |.zs=>rfl
 |.AG _=>rfl
 |.ptr _ _ _ _=>rfl
 |.KQ=>rfl
 |.nil=>rfl
 |.mp _=>rfl
 |.un _=>rfl
theorem ni(YG:Nat->Bool):∀b:Blk,(b.drop YG).drop YG=b.drop YG
 |.box a=>by simp only[Blk.drop,NF]
 |.row e m t xs=>by cases h:m.Ck.any YG<;>simp[Blk.drop,h]
 |.map m kt vt es st=>by cases h:m.Ck.any YG<;>simp[Blk.drop,h]
 |.Sm _ _ _ _ _=>rfl
 |.tail _ _ _=>rfl
 |.Bd=>rfl
theorem np{bs:ATU Blk}{k:Nat}{X Y:Blk}:(Be [k] ((Blk.Hd (Be [k] bs) []).set k X)).set k Y=(Be [k] bs).set k Y:=by
 apply ARu;intro i;by_cases h:i=k
 ·subst h;simp only[AQE];simp[AJ,Bc]
 ·have h' :=Ne.symm h;rw[ASl h',ASl h'];unfold Be;rw[AQI,ASl h'];unfold Blk.Hd;simp;cases bs[i]? with
  |none=>simp
  |some y=>simp[ni]
section
variable {kt vt:Ty}
theorem sx{k:kt.V}:∀{es:ATU (kt.V×vt.V)} {j:Nat} {x:kt.V×vt.V},es[j]?=some x->Bg kt k x.1=true->(∀i,i<j->∀y,es[i]?=some y->Bg kt k y.1=false)->Y3 kt vt es k=j
 |y::r,0,x,h,he,_=>by
  simp at h;subst h;unfold Y3;rw[he];rfl
 |y::r,j+1,x,h,he,hn=>by
  unfold Y3;rw[hn 0 (by omega) y rfl,AQu,sx  (j:=j) (by grind) he λi hi z hz=>hn (i+1) (by omega) z (by grind)]
 |[],_,_,h,_,_=>by grind
theorem wC{k:kt.V}:∀{es:ATU (kt.V×vt.V)},(∀(i:Nat) y,es[i]?=some y->Bg kt k y.1=false)->Y3 kt vt es k=es.length
 |[],_=>rfl
 |y::r,h=>by
  unfold Y3;rw[h 0 y rfl,wC  λi z hz=>h (i+1) z (by grind)];rfl
theorem wW{Ht:Array MapEntry}{j:Nat}{m:MapEntry}{v:Value}(h:Ht[j]?=some m)(hk:m.key=v):Ht.modify j (λe=>{e with key:=v})=Ht:=by
 apply Array.ext_getElem?;intro i;rw[ARR];split
 ·rename_i e;subst e;rw[h];simp[<-hk]
 ·rfl
theorem AdF{w:World}{b:Nat}{o:Obj}(h:w.heap[b]?=some o):({w with heap:=w.heap.setIfInBounds b o}:World)=w:=by
 have:w.heap.setIfInBounds b o=w.heap:=by
  grind
 rw[this]
theorem AJt{P:Program}{w:World}{g:G}{bs:ATU Blk}(H:Bi w g bs){k:Nat}{u:Ty}{tk:TI}{es:ATU (tk.ty.V×(Ty.sl u).V)}(hb:bs[k]?=some (.map .Aw tk.ty (.sl u) es none)){ax:AV}{key:tk.ty.V}(hx:rd bs tk.ty ax=some key){mv xv:Value}(hAm:B6 w g bs.length (.mp k) mv)(hAx:B6 w g bs.length ax xv)
    {t:TypeId} {ti te:TI} (ht:Fy P t ti) (rN:ti.Pn≠0) (Er:Fy P ti.elem te) (hvt:.sl u=te.ty) (Xn:tk.ty.EG=true) (hu:u.size≠0) (K:tk.ty.EG=true->mR P ti.Pn tk.ty) :
    ∃v w' g',(Instr.mapEntry t mv xv).run P w=.ok (.tuple #[v,.int .i64 (Y3 tk.ty (.sl u) es key:Nat)]) w' /\
     Bi w' g' ((Be [k] bs).set k (.map .Aw tk.ty (.sl u) (Cr tk.ty (.sl u) es key (Bs tk.ty (.sl u) es key)) (some key))++[.row 0 .Aw u (Bs tk.ty (.sl u) es key)])/\B6 w' g' (bs.length+1) (.AG bs.length) v/\Step [k] bs.length w g w' g':=by
 obtain⟨hk,b,OM,hbe⟩:=jY hAm;obtain⟨Sl,b',Ht,DK,ha,Cv,hh,Tn,kY⟩:=H.MR k _ hb;rw[OM]at ha;injection ha with ha;injection ha with ha;subst ha;have kX:=lq H Xn hx hAx;have SJ:=ht.mp rN;have hl:Ht.toList.length=es.length:=kY.len;rcases dJ (K Xn) kY key with ⟨j,x,m,h1,h2,h3,h4,h5,h6,h7,⟨h8,h8b⟩,hf⟩|⟨h1,h2,h3,hf⟩
 ·have hJ:es[j]?=some (key,x.2):=by rw[h1,<-h2]
  obtain⟨vB,AOi,g1,H1,st,hav,_⟩:=Aok H hb hu hJ OM hh h3;have hg:Bs tk.ty (.sl u) es key=x.2:=by unfold Bs;rw[h5];rfl
  have hp:Cr tk.ty (.sl u) es key x.2=es:=by
   rw[h6];apply ARu;intro i;rw[AQE];split
   ·rename_i e;subst e;rw[AQx (A4 hJ),hJ]
   ·rfl
  have vK:Y3 tk.ty (.sl u) es key=j:=sx hJ (Yj Xn) h4;refine⟨m.val,w,g1,?_,by rw[hg,hp];exact H1,hav,st⟩;rw[hbe,kX];have hw:=AdF (o:=.map (Ht.modify j λe=>{e with key:=FL tk.ty key}) DK) (by rw[wW h3 h8];exact hh);simp[Instr.mapEntry,underlying,SJ,MapKept.run_getObj_map hh,(K Xn).check,hf,h3,h8,(K Xn).stays,MapKept.run_setObj_map _ hh,hw,vK,vB,goInt]
 ·obtain⟨z,hz,hzv⟩:=xF Er w;rw[<-hvt]at hzv;have hzs:z=.slice none 0 0:=by
   have:[Value.slice none 0 0]=[z]:=hzv;injection this with h _;exact h.symm
  subst hzs;have hg:Bs tk.ty (.sl u) es key=[]:=by unfold Bs;rw[h2];rfl
  have vK:Y3 tk.ty (.sl u) es key=es.length:=wC h1;have hA0:B6 w g bs.length .zs (.slice none 0 0):=Bv (cs:=[_]) rfl ⟨none,rfl⟩ rfl;have AKQ:eR bs tk te (.mp k) ax .zs some=some ⟨.un 0,(Blk.Hd (Be [k] bs) []).set k (.map .Aw tk.ty (.sl u) (Cr tk.ty (.sl u) es key []) none),[k]⟩:=by
   have bk:take bs .Aw (.sl u) .zs=some ([],.Aw,[]):=by simp[take,rd,AV.Sq,AV.Zp,nodup]
   unfold eR;simp only[hb,hx,bk];rw[AQx ⟨trivial,hvt,Xn,by rfl,by rfl⟩]
  obtain⟨_,_,_,w',g',Ep,H',st'⟩:=AwR H hAm hAx hA0 ht rN K AKQ;have hw:w'={w with heap:=w.heap.setIfInBounds b (.map (Ht.push {key:=FL tk.ty key,val:=.slice none 0 0,born:=DK}) (DK+1))}:=by
   rw[hbe,kX]at Ep;simp[Instr.mapUpdate,underlying,SJ,MapKept.run_getObj_map hh,(K Xn).check,hf,MapKept.run_setObj_map _ hh]at Ep;exact Ep.symm
  have Bp:b<w.heap.size:=VP H (by rw[Cv];simp);have zo:((Blk.Hd (Be [k] bs) []).set k (Blk.map .Aw tk.ty (.sl u) (Cr tk.ty (.sl u) es key []) none))[k]?=some (.map .Aw tk.ty (.sl u) (Cr tk.ty (.sl u) es key []) none):=by
   rw[List.getElem?_set_self (by simpa [Bc,AJ]using hk)]
  have hJ:(Cr tk.ty (.sl u) es key [])[es.length]?=some (key,[]):=by rw[h3];simp
  have AJP:(g'.A2 k).a=some ⟨b,0,none⟩:=by rw[st'.A2 k hk];exact OM
  have hh':w'.heap[b]?=some (.map (Ht.push {key:=FL tk.ty key,val:=.slice none 0 0,born:=DK}) (DK+1)):=by
   rw[hw];simp[Bp]
  have NC:Ht.size=es.length:=by rw[<-hl];simp
  have hm:(Ht.push {key:=FL tk.ty key,val:=.slice none 0 0,born:=DK})[es.length]?=some {key:=FL tk.ty key,val:=.slice none 0 0,born:=DK}:=by
   rw[<-NC];simp
  obtain⟨vB,_,g1,H1,SA,hav,_⟩:=Aok H' zo hu hJ AJP hh' hm;have zu:((Blk.Hd (Be [k] bs) []).set k (Blk.map .Aw tk.ty (.sl u) (Cr tk.ty (.sl u) es key []) none)).length=bs.length:=by simp[Bc,AJ]
  rw[zu]at hav SA;rw[np]at H1;have Qw:=st'.trans SA (AQl _);refine⟨.slice none 0 0,w',g1,?_,by rw[hg];exact H1,hav,⟨Qw.os,Qw.tape,Qw.output,Qw.size,Qw.no,Qw.Jl,λb k' p h1 h2 h3=>Qw.BQ b k' p h1 h2 (by simpa using h3),Qw.A2⟩⟩;have vB:DK=es.length:=vB;rw[hbe,kX,hw];simp[Instr.mapEntry,underlying,SJ,MapKept.run_getObj_map hh,(K Xn).check,hf,hz,MapKept.run_setObj_map _ hh,vK,vB,goInt]
variable {P:Program} {σ:St} {o:Oper} {en:G5} {e:Ih}
theorem AmJ{t:TypeId}{m x:Operand}(ho:o.op=.mapEntry t m x){ti tk te:TI}(ht:Fy P t ti)(rN:ti.Pn≠0)(Er:Fy P ti.elem te)(K:tk.ty.EG=true->mR P ti.Pn tk.ty)
    (h:AcP σ.Aj tk te (σ.Cp m) (σ.Cp x) some=some e):OL P σ o e:=by
 unfold AcP at h;split at h
 ·rename_i k hm;split at h
  ·rename_i kt u es hb;split at h
   ·rename_i key hx;split at h
    ·rename_i hc;obtain⟨rfl,hvt,Xn,hu⟩:=hc;injection h with h;subst h;refine⟨by simp[AJ],λh=>(by grind),λa w g BS next Q hn=>?_⟩
     have hAm:=AX BS m;rw[hm]at hAm;obtain⟨v,w',g',Ep,hH,hav,st⟩:=AJt BS.heap hb hx hAm (AX BS x) ht rN Er hvt Xn hu K;have bg:(execOp a.eval o).run P w=.ok (.value (.tuple #[v,.int .i64 (Y3 _ _ es key)])) w':=by
      simp[execOp,ho,Ep]
     unfold Oper.wp;rw[bg];have U6:((Be [k] σ.Aj).set k (Blk.map .Aw _ _ (Cr _ _ es key (Bs _ _ es key)) (some key))++[Blk.row 0 .Aw u (Bs _ _ es key)]).length=σ.Aj.length+1:=by simp[AJ]
     refine hn _ w' g' hH ?_ st;rw[U6];have hr:=(B6.iff  rfl).1 hav;exact⟨[v,.int .i64 _],rfl,v,[.int .i64 _],rfl,hr,_,[],rfl,.inr ⟨[.int .i64 _],⟨λ_ h=>(by grind),rfl⟩,rfl⟩,rfl⟩
    ·grind
   ·grind
  ·grind
 ·grind
theorem AkG{w:World}{g:G}{n:Nat}:∀{kt:Ty} {x:kt.V},kt.EG=true->B6 w g n (.AB [] kt x) (FL kt x):=by
 intro kt x hk;have key:∀cs,Ii w (Al g.own []) kt x cs->Cm kt.isAgg cs (FL kt x)->B6 w g n (.AB [] kt x) (FL kt x):=λcs h1 h2=>Bv (cs:=cs) rfl ⟨λ_ h=>(by cases h),h1⟩ h2
 match kt,x,hk with
 |.int q,x,_=>exact key [.int q x] rfl rfl
 |.str,x,_=>exact key [.string x] rfl rfl
 |.AH (.int q) (.AH (.int q') .unit),x,_=>exact key [.int q x.1,.int q' x.2.1] ⟨[_],[_],rfl,rfl,[_],[],rfl,rfl,rfl⟩ rfl
theorem AiX{t:TypeId}{m j v:Operand}(ho:o.op=.entryStore t m j v){ti tk te:TI}(ht:Fy P t ti)(rN:ti.Pn≠0)(K:tk.ty.EG=true->mR P ti.Pn tk.ty)
    (h:AcQ σ.Aj tk te (σ.Cp m) (σ.Cp j) (σ.Cp v) some=some e):OL P σ o e:=by
 unfold AcQ at h;split at h
 ·rename_i k hm;split at h
  ·rename_i md kt vt es key hb;split at h
   ·rename_i n hj;split at h
    ·rename_i hc;obtain⟨hkt,Xn⟩:=hc;subst hkt;obtain⟨hn,hmh,h⟩:n=Int.ofNat (Y3 tk.ty vt es key)/\Uz tk.ty vt es key=true/\eR σ.Aj tk te (σ.Cp m) (.AB [] tk.ty key) (σ.Cp v) some=some e:=by
      cases hq:Xy tk.ty vt es key n with
      |false=>rw[hq]at h;cases h
      |true =>
       rw[hq,AQv]at h;simp only[Xy,AQm,ARm]at hq;exact⟨hq.1,hq.2,h⟩
     obtain⟨s1,s2⟩:=mA h;refine⟨by rw[s2];exact AQl _,λh=>(s1 h).elim,λa w g BS next Q hnx=>?_⟩
     have hAm:=AX BS m;rw[hm]at hAm h;obtain⟨h1,h2,h3,w',g',Ep,hH,st⟩:=AwR BS.heap hAm (AkG Xn) (AX BS v) ht rN K h;obtain⟨hk,b,OM,hbe⟩:=jY hAm;obtain⟨Sl,b',Ht,DK,ha,Cv,hh,Tn,kY⟩:=BS.heap.MR k _ hb;rw[OM]at ha;injection ha with ha;injection ha with ha;subst ha;have hjv:a.eval j=.int .i64 n:=lq (kt:=.int .i64) BS.heap rfl hj (AX BS j);have SJ:=ht.mp rN;have bg:(execOp a.eval o).run P w=.ok .skip w':=by
      rcases dJ (K Xn) kY key with ⟨J,x,mm,h1',h2',h3',vw,h5',h6',h7',⟨h8,h8b⟩,hf⟩|⟨_,h2',_,_⟩
      ·have hJ:es[J]?=some (key,x.2):=by rw[h1',<-h2']
       have vK:Y3 tk.ty vt es key=J:=sx hJ (Yj Xn) vw;rw[vK]at hn;rw[hbe]at Ep;simp[Instr.mapUpdate,underlying,SJ,MapKept.run_getObj_map hh,(K Xn).check,hf,h3',h8,(K Xn).stays,MapKept.run_setObj_map _ hh]at Ep;have hJl:J<Ht.size:=by
        have:=A4 (show Ht.toList[J]?=some mm by rw[AQt];exact h3');simpa using this
       have AJ8:Ht.findIdx? (λe=>(e.born:Int)==n)=some J:=by
        rw[Array.findIdx?_eq_some_iff_getElem];have hbn:∀i (h:i<Ht.size),Ht[i].born=i:=λi hi=>by
         have tN:i<es.length:=by rw[<-kY.len];simpa using hi
         obtain⟨m',q1,⟨_,q2⟩,_⟩:=kY.get (ARo tN);rw[AQt,AQ3 hi]at q1;injection q1 with q1;rw[q1,q2];omega
        refine⟨hJl,by rw[hbn,hn];simp,λi hi=>?_⟩;rw[hbn,hn];simp;omega
       have Ahy:Ht.modify J (λe=>{e with val:=a.eval v})=Ht.modify J (λe=>{e with key:=FL tk.ty key,val:=a.eval v}):=by
        apply Array.ext_getElem?;intro i;rw[ARR,ARR];split
        ·rename_i e;subst e;rw[h3'];simp[h8]
        ·rfl
       simp[execOp,ho,hbe,hjv,Instr.entryStore,asInt,asIntOf,MapKept.run_getObj_map hh,AJ8,MapKept.run_setObj_map _ hh,Ahy,Ep]
      ·simp[Uz,h2']at hmh
     unfold Oper.wp;rw[bg];exact hnx undef w' g' hH (by rw[h3];exact Sc) st
    ·cases h
   ·cases h
  ·cases h
 ·cases h
end
end Go.Va
namespace Go.Va
section
variable {P:Program} {σ:St} {o:Oper}
def zV:TypeDesc->Bool
 |.int _=>true
 |.bool=>true
 |.string=>true
 |_=>false
theorem lM{t:TypeId}{d:TypeDesc}(hu:P.underlying t=some d)(hd:zV d=true){w:World}{cs:Array Value}{i:Nat}{v:Value}(h:cs[i]?=some v):(part t cs i).run P w=.ok v w:=by
 cases d<;>simp[zV]at hd<;>simp[part,isAgg,underlying,hu,h]
theorem Aba(d:Nat)(w:World):∀(t:Ty) (p q:ATU Value) (fs:ATU Field) (u v:t.V) (n:Nat),p.length=n->q.length=n->Xz P t n fs=true->(Op.eqFields (d+1) (p++Lj t u).toArray (q++Lj t v).toArray fs).run P w=.ok (Q0 t u v) w
 |.unit,p,q,[],u,v,n,_,_,_=>by simp[Op.eqFields,Q0]
 |.AH a b,p,q,f::fs,u,v,n,hp,hq,h=>by
  simp only[Xz,AQm,ARY,ARm]at h;obtain⟨⟨⟨h1,h2⟩,h3⟩,h4⟩:=h;have key:∀(x y:Value) (r:Bool) (dd:TypeDesc),Lj a u.1=[x]->Lj a v.1=[y]->P.underlying f.type=some dd->zV dd=true ->
      (Op.equalIn (d+1) f.type x y).run P w=.ok r w->r=Q0 a u.1 v.1->(Op.eqFields (d+1) (p++Lj (.AH a b) u).toArray (q++Lj (.AH a b) v).toArray (f::fs)).run P w=.ok (Q0 (.AH a b) u v) w:=by
   intro x y r dd hx hy hu hd he hr;have ih:=Aba d w b (p++[x]) (q++[y]) fs u.2 v.2 (n+1) (by simp[hp]) (by simp[hq]) h4;have ex:p++Lj (.AH a b) u=p++[x]++Lj b u.2:=by simp[Lj,hx]
   have ey:q++Lj (.AH a b) v=q++[y]++Lj b v.2:=by simp[Lj,hy]
   rw[ex,ey];have px:(part f.type (p++[x]++Lj b u.2).toArray n).run P w=.ok x w:=lM hu hd (by simp[<-hp]);have py:(part f.type (q++[y]++Lj b v.2).toArray n).run P w=.ok y w:=lM hu hd (by simp[<-hq]);simp only[Op.eqFields,h1,ne_eq,not_false_eq_true,AQ2,Sem.run_bind,h2,px,py,Result.andThen_ok,he];subst hr;cases hq:Q0 a u.1 v.1 with
   |false=>simp[Q0,hq]
   |true=>simp only[AQZ,AQ6,ARH];rw[ih];simp[Q0,hq]
  split at h3
  ·rename_i k k' hu;rw[ARm]at h3;subst h3;exact key _ _ _ _ rfl rfl hu rfl (gG hu d w _ _) rfl
  ·rename_i hu;exact key _ _ _ _ rfl rfl hu rfl (by simp[Op.equalIn,underlying,hu];rfl) rfl
  ·rename_i hu;exact key _ _ _ _ rfl rfl hu rfl (by simp[Op.equalIn,underlying,hu]) xn.symm
  ·cases h3
 |.unit,_,_,_::_,_,_,_,_,_,h=>by simp[Xz]at h
 |.AH _ _,_,_,[],_,_,_,_,_,h=>by simp[Xz]at h
 |.int _,_,_,_,_,_,_,_,_,h=>by simp[Xz]at h
 |.bool,_,_,_,_,_,_,_,_,h=>by simp[Xz]at h
 |.str,_,_,_,_,_,_,_,_,h=>by simp[Xz]at h
 |.sl _,_,_,_,_,_,_,_,_,h=>by simp[Xz]at h
 |.Sp _,_,_,_,_,_,_,_,_,h=>by simp[Xz]at h
theorem oN:∀{t:Ty} {n:Nat} {fs:ATU Field},Xz P t n fs=true->t.BU=true/\t.isAgg=true
 |.unit,_,[],_=>⟨rfl,rfl⟩
 |.AH a b,n,f::fs,h=>by
  simp only[Xz,AQm]at h;obtain⟨⟨_,h3⟩,h4⟩:=h;have:=(oN h4).1;refine⟨?_,rfl⟩;split at h3<;>first |(cases h3;done)|simp[Ty.BU,this]
 |.unit,_,_::_,h=>by simp[Xz]at h
 |.AH _ _,_,[],h=>by simp[Xz]at h
 |.int _,_,_,h=>by simp[Xz]at h
 |.bool,_,_,h=>by simp[Xz]at h
 |.str,_,_,h=>by simp[Xz]at h
 |.sl _,_,_,h=>by simp[Xz]at h
 |.Sp _,_,_,h=>by simp[Xz]at h
theorem AmK{Eb:Tab}(ht:ix P Eb=true){op:BinOp}{t yt:TypeId}{x y:Operand}(ho:o.op=.binOp op t x y yt){z:AV}(h:eqS σ.Aj Eb op t (σ.Cp x) (σ.Cp y)=some z):OL P σ o ⟨z,σ.Aj,[]⟩ :=
 .Jm <| Ml (s:=λρ=>do eqGuard op t x y (ρ x) (ρ y);binOp op t (ρ x) (ρ y)) (λρ=>by simp[execOp,ho]) λa w g BS=>by
  unfold eqS at h;split at h
  ·rename_i ti hti;split at h
   ·rename_i he;have hT:=Fy.of ht hti;have heq:=hT.eqs he;unfold AgV at heq;split at heq
    ·rename_i fs hu;simp only[AQm,ARC]at heq;obtain⟨⟨h1,h2⟩,h3⟩:=heq;have hF:P.fieldsOf t=fs:=by simp[Program.fieldsOf,hu]
     obtain⟨AGn,vz⟩:=oN h3;have get:∀(X:Operand) (u:ti.ty.V),rd σ.Aj ti.ty (σ.Cp X)=some u->a.eval X=.agg (Lj ti.ty u).toArray:=λX u hr=>by
      obtain⟨q1,q2⟩:=Xd hr;obtain⟨cs,UN,hv⟩:=B4 q1 q2 (AX BS X);rw[cw hr,vz]at hv;have:=(Ii.BU AGn).1 (Rx BS.heap _ _ u cs hr UN).1;subst this;exact hv
     have run:∀u v:ti.ty.V,(Op.equalIn 10000 t (.agg (Lj ti.ty u).toArray) (.agg (Lj ti.ty v).toArray)).run P w=.ok (Q0 ti.ty u v) w:=λu v=>by
      rw[show(10000:Nat)=9999+1 from rfl,run_equalIn_struct w 9999 t _ _ (by rw[hF];exact hu) h1,hF];have:=Aba (P:=P) 9998 w ti.ty [] [] fs.toList u v 0 rfl rfl h3;simpa using this
     split at h
     ·split at h
      ·rename_i u v hx hy;injection h with h;subst h;refine⟨.bool (Q0 ti.ty u v),?_,dX _⟩;simp only[get x u hx,get y v hy,Sem.run_bind,run_eqGuard_agg w .eql t x y _ _ h2,Result.andThen_ok,run_eql_struct,run]
      ·cases h
     ·split at h
      ·rename_i u v hx hy;injection h with h;subst h;refine⟨.bool (!Q0 ti.ty u v),?_,dX _⟩;simp only[get x u hx,get y v hy,Sem.run_bind,run_eqGuard_agg w .neq t x y _ _ h2,Result.andThen_ok,run_neq_struct,run]
      ·cases h
     ·cases h
    ·cases heq
   ·cases h
  ·cases h
end
end Go.Va
namespace Go.Va
structure EnvOk (P:Program) (en:G5):Prop where
 Eb:ix P en.Eb=true
 fns:∀g c,en.fns g=some c->Ao P g c
theorem EnvOk.bB{P:Program}{en:G5}(h:EnvOk P en):aN en:=λg c hc=>(h.fns g c hc).bB
section
variable {P:Program} {σ:St} {o:Oper} {en:G5} {e:Ih}
theorem EnvOk.t(he:EnvOk P en){t:Nat}{ti:TI}(h:en.Eb.get t=some ti):Fy P t ti:=Fy.of he.Eb h
theorem oB{w:World}{g:G}{a:Act}(hs:LJ w g σ a):∀(l:ATU Operand),DI w g σ.Aj.length (l.map σ.Cp) (l.map a.eval)
 |[]=>trivial
 |x::l=>⟨AX hs x,oB hs l⟩
theorem oz{w:World}{g:G}{n:Nat}:∀{l k:ATU AV} {xs ys:ATU Value},DI w g n l xs->DI w g n k ys->DI w g n (l++k) (xs++ys)
 |[],_,[],_,_,h=>h
 |_::_,_,_::_,_,h1,h2=>⟨h1.1,oz h1.2 h2⟩
 |[],_,_::_,_,h,_=>h.elim
 |_::_,_,[],_,h,_=>h.elim
theorem AnD{w:World}{g:G}{n:Nat}:∀{a:AV} {vs:ATU Value},CK w g n true a vs->DI w g n (Aa5 a) vs
 |.cons a b,_,⟨v,r,e,h1,h2⟩=>by
  subst e;refine⟨?_,AnD h2⟩;have ht:a.Dp=false:=by
   rcases h1 with h |⟨cs,h,_⟩
   ·cases a<;>first |rfl |simp[AV.OV]at h
   ·exact Xb h
  exact(B6.iff ht).2 h1
 |.nil,_,h=>by cases h;trivial
 |.Vh _ _ _ _ _,_,h=>h.elim
 |.Xc _ _ _ _ _ _,_,h=>h.elim
 |.AB _ _ _,_,h=>h.elim
 |.zs,_,h=>h.elim
 |.AG _,_,h=>h.elim
 |.mp _,_,h=>h.elim
 |.ptr _ _ _ _,_,h=>h.elim
 |.FZ _ _ _,_,h=>h.elim
 |.KQ,_,h=>h.elim
 |.pr _ _,_,h=>h.elim
 |.fn _ _,_,h=>h.elim
 |.un _,_,h=>h.elim
theorem AiV(he:EnvOk P en){c:Call}(ho:o.op=.call c){fo:Operand}(hc:c.callee=.value fo){g0:Nat}{aQ:AV}(hf:σ.Cp fo=.fn g0 aQ){ca:Callee}(hg:en.fns g0=some ca)(h:kj ca σ.Aj (Qr σ c.args++Aa5 aQ) some=some e):OL P σ o e:=by
 obtain⟨h1,h2,h3⟩:=AcD (he.fns _ _ hg) h;refine⟨h1,h2,λa w g hs next Q hn=>?_⟩
 have hv:=AX hs fo;rw[hf]at hv;obtain⟨cs,⟨vs,e1,hx⟩,UN⟩:=B4 rfl rfl hv;have e2 :=by
  subst e1;simpa [AV.isAgg]using UN.symm
 have hr:(execOp a.eval o).run P w=(callFunc g0 (c.args.toList.map a.eval++vs).toArray).run P w:=by
  have:(c.args.toList.map a.eval++vs).toArray=#[]++c.args.map a.eval++vs.toArray:=by
   simp
  rw[this];simp[execOp,ho,resolve,hc,e2,Deferred.ofValue,invoke]
 unfold Oper.wp;rw[hr];exact h3 w g _ hs.heap (oz (oB hs _) (AnD hx)) o a next Q hn
theorem oM(he:EnvOk P en){ti:TI}(u:Ty)(h:(match en.Eb.get ti.elem with |some te=>if ti.EA=true then some te.ty else none |none=>none)=some u):ti.EA=true/\∃mW,mW.ty=u/\Fy P ti.elem mW:=by
 split at h
 ·rename_i te Er;split at h
  ·rename_i Jk;injection h with h;exact⟨Jk,te,h,he.t Er⟩
  ·grind
 ·grind
theorem AiY{t:TypeId}{x i:Operand}(ho:o.op=.indexAddr t x i){ti te:TI}(ht:Fy P t ti)(Er:Fy P ti.elem te)(Jk:ti.EA=true){k:Nat}{i0:Int}{p:ATU Nat}{f e0:Nat}(hx:σ.Cp x=.Vh k i0 p f e0){ks:ATU Nat}{kk:IntKind}{j:Int}(hi:σ.Cp i=.AB ks (.int kk) j)
    {ek:Nat} {tr:Ty} {xs:ATU tr.V} (hb:σ.Aj[k]?=some (.row ek .Aw tr xs)) {ys:ATU te.ty.V} (hg:kR (.sl te.ty) p tr (xs.getD i0.toNat tr.zero)=some ys) {x':tr.V} (hs:T7 (.sl te.ty) [] p tr (xs.getD i0.toNat tr.zero)=some x')
    (hu:te.ty.size≠0) (oX:Mk tr p=some f) (hj:0<=j/\j<(ys.length:Int)):OL P σ o ⟨.Xc k i0 p f j te.ty,σ.Aj,[]⟩ :=
 .Jm <| Ml (s:=λρ=>Instr.indexAt t (ρ x) (ρ i)) (λρ=>by simp[execOp,ho]) λa w g BS=>by
  have YL:=AX BS x;rw[hx]at YL;have hii:=AX BS i;rw[hi]at hii;have hii:=DF hii;obtain⟨cs,⟨hk,h0,h1,b,v,OM,Cv,e1,e2,DW⟩,hval⟩:=B4 rfl rfl YL;subst e1;have hv:a.eval x=v:=by
   have:[v]=[a.eval x]:=hval
   grind
  obtain⟨g1,H1,SA,Ac1,_,_⟩:=Z8 BS.heap hb h1 hg oX hu OM DW hs;obtain⟨_,hvs⟩:=FN Ac1;obtain⟨_,AnS,AGl,_,gQ⟩:=H1.MR σ.Aj.length (.row 0 .Aw _ ys) (by simp[AJ]);have Bp :=XY hj;rcases gQ with ⟨al,_⟩|⟨b',BA,ds,ha,_⟩
  ·grind
  ·rw[ha,AnS]at hvs;have SJ:=BD ht Jk;refine⟨.pointer (some ⟨b',j.toNat*te.ty.size,none⟩),?_,Bv  rfl ⟨hk,h0,h1,b,b',_,_,OM,Cv,rfl,⟨hj.1,Bp⟩,by rw[DW,hvs]⟩ (by simp[Cm,AV.isAgg])⟩;rw[hv,hii,hvs];simp[Instr.indexAt,asIntOf,underlying,SJ,hj.1,hj.2,D4 Er,aP]
theorem mb{t:TypeId}{x i:Operand}(ho:o.op=.indexAddr t x i){ti te:TI}(ht:Fy P t ti)(Er:Fy P ti.elem te)(Jk:ti.EA=true){z:AV}(h:vW σ.Aj te.ty (σ.Cp x) (σ.Cp i) some=some z):OL P σ o ⟨z,σ.Aj,[]⟩:=by
 unfold vW at h;split at h
 ·rename_i k i0 p f e0 ks kk j hx hi;split at h
  ·rename_i ek tr xs hb;split at h
   ·rename_i ys x' hg hs;split at h
    ·rename_i hc;split at h
     ·rename_i hj;injection h with h;subst h;exact AiY ho ht Er Jk hx hi hb hg hs hc.1 hc.2 hj
     ·grind
    ·grind
   ·grind
  ·grind
 ·exact nY ho ht Er Jk h
theorem fI(he:EnvOk P en)(h:Ss en σ o some=some e):OL P σ o e:=by
 unfold Ss at h
 dsimp only at h
 split at h
 ·rename_i x ho;injection h with h;subst h;exact w9 (.inl ho)
 ·rename_i x ho;injection h with h;subst h;exact w9 (.inr ho)
 ·rename_i c a b ho;split at h
  ·rename_i ks t hc;have:=Ai7 (P:=P) ho hc;cases t
   ·injection h with h;subst h;exact this
   ·injection h with h;subst h;exact this
  ·cases h
 ·rename_i el ho;split at h
  ·rename_i ti ht;injection h with h;subst h;exact AdO ho (he.t ht)
  ·cases h
 ·rename_i el x ho;split at h
  ·rename_i ht;injection h with h;subst h;exact AmH ho ht
  ·cases h
 ·rename_i t G3 ho;split at h
  ·rename_i ti ht;split at h
   ·cases h
   ·rename_i oX;split at h
    ·rename_i v hv;injection h with h;subst h;exact AdQ ho (he.t ht) (λe=>oX (by rw[e];rfl)) hv
    ·cases h
  ·cases h
 ·rename_i t len G3 ho;split at h
  ·rename_i ti ht;split at h
   ·rename_i te Er;split at h
    ·rename_i m xs rs hp;split at h
     ·rename_i hc;obtain⟨h1,h2⟩:=ma ho (he.t ht) (he.t Er) hp hc;split at h
      ·rename_i h0;injection h with h;subst h;exact h1 h0
      ·rename_i h0;injection h with h;subst h;exact h2 h0
     ·cases h
    ·cases h
   ·cases h
  ·cases h
 ·rename_i t x ho;split at h
  ·rename_i ti ht;split at h
   ·split at h
    ·rename_i Jk;exact AdX ho (he.t ht) Jk h
    ·cases h
   ·obtain⟨z,hz,rfl⟩:=YX (f:=λR K=>br σ.Aj ti (σ.Cp x) K) (λR K=>pj ..) (g:=λv=>⟨v,σ.Aj,[]⟩) h;exact Ai1 ho (he.t ht) hz
  ·cases h
 ·rename_i t r ho;split at h
  ·rename_i ti ht;split at h
   ·cases h
   ·rename_i hr;split at h
    ·rename_i tk te bk Er;split at h
     ·injection h with h;subst h;have:r=none:=by cases r<;>simp_all
      subst this;exact w8 ho (V1 _ _)
     ·cases h
    ·cases h
  ·cases h
 ·rename_i t m x ok ho;split at h
  ·rename_i ti ht;split at h
   ·rename_i tk te bk Er;split at h
    ·rename_i hc;split at h
     ·split at h
      ·cases h
      ·rename_i gO;have:ok=false:=by simpa using gO
       subst this;exact AdV ho (he.t ht) hc.1 (he.t Er) hc.2.1 (λhk=>mR.of he.Eb (he.t bk) hk hc.2.2) h
     ·obtain⟨z,hz,rfl⟩:=YX (f:=λR K=>ia σ.Aj tk te ok (σ.Cp m) (σ.Cp x) K) (λR K=>pn ..) (g:=λv=>⟨v,σ.Aj,[]⟩) h;exact Ai2 ho (he.t ht) hc.1 (he.t Er) hc.2.1 (λhk=>mR.of he.Eb (he.t bk) hk hc.2.2) hz
    ·cases h
   ·cases h
  ·cases h
 ·rename_i t m x v ho;split at h
  ·rename_i ti ht;split at h
   ·rename_i tk te bk Er;split at h
    ·rename_i hc;exact AbS (.inl ho) (he.t ht) hc.1 (λhk=>mR.of he.Eb (he.t bk) hk hc.2.2) h
    ·cases h
   ·cases h
  ·cases h
 ·rename_i t m x v ho;split at h
  ·rename_i ti ht;split at h
   ·rename_i tk te bk Er;split at h
    ·rename_i hc;exact AbS (.inr ho) (he.t ht) hc.1 (λhk=>mR.of he.Eb (he.t bk) hk hc.2.2) h
    ·cases h
   ·cases h
  ·cases h
 ·rename_i t m x ho;split at h
  ·rename_i ti ht;split at h
   ·rename_i tk te bk Er;split at h
    ·rename_i hc;exact AmJ ho (he.t ht) hc.1 (he.t Er) (λhk=>mR.of he.Eb (he.t bk) hk hc.2) h
    ·cases h
   ·cases h
  ·cases h
 ·rename_i t m x v ho;split at h
  ·rename_i ti ht;split at h
   ·rename_i tk te bk Er;split at h
    ·rename_i hc;exact AiX ho (he.t ht) hc.1 (λhk=>mR.of he.Eb (he.t bk) hk hc.2) h
    ·cases h
   ·cases h
  ·cases h
 ·rename_i t x v ho;split at h
  ·rename_i ti ht;exact AdY ho (he.t ht) h
  ·cases h
 ·rename_i x ho;split at h
  ·rename_i k i p q hx;injection h with h;subst h;rw[<-hx];exact eK ho λw g n v hv=>by rw[hx]at hv;exact sC hv
  ·rename_i ks t y hx;injection h with h;subst h;rw[<-hx];exact eK ho λw g n v hv=>by rw[hx]at hv;exact sD hv
  ·cases h
 ·rename_i op t x y yt ho;split at h
  ·rename_i z hz;injection h with h;subst h;exact AmK he.Eb ho hz
  obtain⟨z,hz,rfl⟩:=YX (f:=λR K=>qJ op (match en.Eb.get t with |some ti=>ti.ty==.bool |none=>false) (σ.Cp x) (σ.Cp y) K) (λR K=>uy ..) (g:=λv=>⟨v,σ.Aj,[]⟩) h
  refine AdP ho (λhb=>?_) hz;split at hb
  ·rename_i ti ht;exact yY (he.t ht) (by simpa using hb)
  ·cases hb
 ·rename_i op t x ho;obtain⟨z,hz,rfl⟩:=YX (f:=λR K=>unA op (σ.Cp x) K) (λR K=>AbY ..) (g:=λv=>⟨v,σ.Aj,[]⟩) h;exact Ai8 ho hz
 ·rename_i s t x ho;split at h
  ·rename_i ts ti bl ht;obtain⟨z,hz,rfl⟩:=YX (f:=λR K=>dm σ.Aj (match en.Eb.get ts.elem with |some te=>if ts.EA=true then some te.ty else none |none=>none) ti.ty (σ.Cp x) K) (λR K=>oG ..) (g:=λv=>⟨v,σ.Aj,[]⟩) h
   exact w6 ho (he.t bl) (he.t ht) (oM he) hz
  ·cases h
 ·rename_i fn first aQ ho
  split at h
  ·split at h
   ·rename_i h0;injection h with h;subst h;exact sS ho h0
   ·cases h
  ·cases h
 ·rename_i t l c ho;split at h
  ·rename_i ti ht;split at h
   ·rename_i te Er;split at h
    ·rename_i Jk;exact Ai3 ho (he.t ht) (he.t Er) Jk h
    ·cases h
   ·cases h
  ·cases h
 ·rename_i t x lo hi mx ho;split at h
  ·rename_i d ti hd ht;split at h
   ·split at h
    ·split at h
     ·rename_i Jk;split at h
      ·rename_i te Er;exact AmI ho (he.t ht) Jk (he.t Er) h
      ·cases h
     ·cases h
    ·cases h
   ·obtain⟨z,hz,rfl⟩:=YX (f:=λR K=>Yp σ.Aj ti (match en.Eb.get ti.elem with |some te=>if ti.EA=true then some te.ty else none |none=>none) (σ.Cp x) (lo.map σ.Cp) (hi.map σ.Cp) (mx.map σ.Cp) K) (λR K=>l8 ..) (g:=λv=>⟨v,σ.Aj,[]⟩) h
    exact AdW ho (he.t ht) (oM he) hz
  ·cases h
 ·rename_i t x f ho;split at h
  ·rename_i ti ht;obtain⟨z,hz,rfl⟩:=YX (f:=λR K=>ny ti f (σ.Cp x) K) (λR K=>vk ..) (g:=λv=>⟨v,σ.Aj,[]⟩) h;exact nX ho (he.t ht) hz
  ·cases h
 ·rename_i t x i ho;split at h
  ·rename_i ti ht;split at h
   ·rename_i te Er;split at h
    ·rename_i Jk;obtain⟨z,hz,rfl⟩:=YX (f:=λR K=>vW σ.Aj te.ty (σ.Cp x) (σ.Cp i) K) (λR K=>vX ..) (g:=λv=>⟨v,σ.Aj,[]⟩) h;exact mb ho (he.t ht) (he.t Er) Jk hz
    ·cases h
   ·cases h
  ·cases h
 ·rename_i t x i ho;split at h
  ·rename_i ti ht;split at h
   ·rename_i hs;obtain⟨z,hz,rfl⟩:=YX (f:=λR K=>qW (σ.Cp x) (σ.Cp i) K) (λR K=>uQ ..) (g:=λv=>⟨v,σ.Aj,[]⟩) h;exact AdU ho (he.t ht) hs hz
   ·cases h
  ·cases h
 ·rename_i x i ho;split at h
  ·rename_i v hv;split at h
   ·cases h
   ·rename_i ht;injection h with h;subst h;exact w7 ho hv (by simpa using ht)
  ·cases h
 ·rename_i c ho;unfold XB at h;split at h
  ·rename_i hc;split at h
   ·rename_i x t r hx bl;split at h
    ·rename_i ti ht;obtain⟨z,hz,rfl⟩:=YX (f:=λR K=>sq σ.Aj ti x K) (λR K=>wu ..) (g:=λv=>⟨v,σ.Aj,[]⟩) h;exact AmL ho hc hx bl (he.t ht) hz
    ·cases h
   ·cases h
  ·rename_i hc;split at h
   ·rename_i x y hx;obtain⟨z,hz,rfl⟩:=YX (f:=λR K=>mmA false x y K) (λR K=>ju ..) (g:=λv=>⟨v,σ.Aj,[]⟩) h;exact Ai4 (mx:=false) ho hc hx hz
   ·cases h
  ·rename_i hc;split at h
   ·rename_i x y hx;obtain⟨z,hz,rfl⟩:=YX (f:=λR K=>mmA true x y K) (λR K=>ju ..) (g:=λv=>⟨v,σ.Aj,[]⟩) h;exact Ai4 (mx:=true) ho hc hx hz
   ·cases h
  ·rename_i hc;split at h
   ·rename_i x y t tx hx bl;split at h
    ·rename_i ti gv ht yb;split at h
     ·rename_i te Er;split at h
      ·rename_i hk;rw[AQm]at hk;exact Aab ho hc hx bl (he.t ht) (he.t Er) hk.1 (he.t yb) hk.2 h
      ·split at h
       ·rename_i hk;rw[AQm]at hk;exact w5 ho hc hx bl (he.t ht) (he.t Er) hk.1 (he.t yb) hk.2 h
       ·cases h
     ·cases h
    ·cases h
   ·cases h
  ·cases h
  ·rename_i fo hc;split at h
   ·rename_i g0 aQ hf;split at h
    ·rename_i ca hg;exact AiV he ho hc hf hg h
    ·cases h
   ·cases h
  ·cases h
 ·cases h
theorem Ag5{e':Ih}{t:Ty}(h:OL P σ o e)(hf:AlU σ.Aj.length t e=some e'):OL P σ o e':=by
 unfold AlU at hf;split at hf
 ·rename_i x hr;split at hf
  ·rename_i hN;injection hf with hf;subst hf;have hZ:∀k∈(e.val.VY e.Aj).filter (λk=>!decide (k<σ.Aj.length)),σ.Aj.length<=k:=λk hk=>by
    have:=(List.mem_filter.1 hk).2;simpa using this
   refine⟨by rw[Bc];exact h.grow,λhm=>?_,λa w g hs next Q hn=>h.wp a w g hs next Q λv w' g' H hv st=>?_⟩
   ·obtain⟨l,hl⟩:=h.ext hm;simp only;generalize (e.val.VY e.Aj).filter (λk=>!decide (k<σ.Aj.length))=Z at hZ;rw[hl];exact wm Z _ _ hZ
   ·generalize hZe:(e.val.VY e.Aj).filter (λk=>!decide (k<σ.Aj.length))=Z at hZ hn;refine hn v w' (g'.Yv Z) (AcX H hN Z) ?_ ⟨st.os,st.tape,st.output,st.size,λb hb h=>?_,λb h=>?_,λb k p h hk hm=>?_,λk hk=>st.A2 k hk⟩
    ·rw[Bc];obtain⟨h1,h2⟩:=Xd hr;obtain⟨cs,UN,hv⟩:=B4 h1 h2 hv;obtain⟨nH,Bp⟩:=Rx H t e.val x cs hr UN;refine Bv (a:=.AB _ t x) rfl ⟨λk hk=>Bp k (List.mem_filter.1 hk).1,nH.mono λb a=>⟨a.O4.mono λk hk=>?_,rfl⟩⟩ (by rw[show(AV.AB _ t x).isAgg=e.val.isAgg from(cw hr).symm];exact hv);subst hZe;simp only[List.mem_filter,ARC,ARa,ARv]at hk⊢;refine⟨hk.1,?_⟩;rcases AQq k σ.Aj.length with h |h
     ·exact h
     ·exact absurd ⟨hk.1,by omega⟩ hk.2
    ·have:=st.no b hb h;exact⟨by simp[G.Yv,this.1],this.2⟩
    ·have:=st.Jl b h;exact⟨rI this.1,this.2⟩
    ·have:=st.BQ b k p h hk hm;exact⟨Q1 this.1 λhz=>by have:=hZ k hz;omega,this.2⟩
  ·cases hf
 ·cases hf
def G.sha(g:G)(k:Nat):G:=⟨λb=>match g.own b with |.BQ j r=>if j=k/\r≠[]then .Jl else .BQ j r |t=>t,g.A2⟩
theorem Kl.rdS{w:World}{own:Nat->VC}{k:Nat}{A:Nat->Prop}(h:∀b q,q≠[]->own b=.BQ k q->A b):∀{t:Ty} {L:ATU Nat} {x:t.V} {cs:ATU Value},L≠[]->Kl w own k t L x cs->Ii w A t x cs
 |.int _,_,_,_,_,r=>r
 |.bool,_,_,_,_,r=>r
 |.str,_,_,_,_,r=>r
 |.unit,_,_,_,_,r=>r
 |.AH _ _,_,_,_,_,⟨c,d,e,r1,r2⟩=>⟨c,d,e,Kl.rdS h (by simp) r1,Kl.rdS h (by simp) r2⟩
 |.sl t,L,xs,cs,hL,⟨ad,cap,e,r⟩=>by
  rcases r with ⟨hx,fL⟩|⟨b,e1,BA,ds,ha,ho,hh,h1,h2,h3,h4,hc⟩
  ·subst hx;exact⟨ad,cap,[],e,by simp,rfl,.inl rfl⟩
  ·refine⟨ad,cap,ds,e,h1,hc.toR λi x c r=>Kl.rdS h (by simp) r,.inr ⟨b,0,ha,h b L hL ho,λj q hq=>?_⟩⟩;rw[QW hh,AQL,<-AQt];subst h4;rw[ARg]at hq;split at hq
   ·exact hq
   ·cases hq
 |.Sp _,_,_,_,_,r=>r.elim
theorem AdJ{e':Ih}(h:OL P σ o e)(hf:AbO σ.Aj.length e=some e'):OL P σ o e':=by
 unfold AbO at hf;split at hf
 ·rename_i k hval;split at hf
  ·rename_i hk;split at hf
   ·rename_i el t xs hb;injection hf with hf;subst hf;refine⟨by simpa using h.grow,λhm=>?_,λa w g hs next Q hn=>h.wp a w g hs next Q λv w' g' H hv st=>?_⟩
    ·obtain⟨l,hl⟩:=h.ext hm;simp only;rw[hl,ARF _ _ hk];exact⟨_,rfl⟩
    ·have hal:∀{ks:ATU Nat} {b:Nat},Al g'.own ks b->Al (g'.sha k).own ks b:=λ{ks b} ha=>by
       rcases ha with ha |⟨j,hj,r,ha⟩
       ·exact .inl (by simp[G.sha,ha])
       ·by_cases hc:j=k/\r≠[]
        ·exact .inl (by simp[G.sha,ha,hc])
        ·exact .inr ⟨j,hj,r,by simp only[G.sha,ha,AQy hc]⟩
     have Sw:∀{b j:Nat},g'.own b=.BQ j []->(g'.sha k).own b=.BQ j []:=λ{b j} h=>by simp[G.sha,h]
     have hav:∀(a:AV) (m:Bool) {cs:ATU Value},CK w' g' e.Aj.length m a cs->CK w' (g'.sha k) e.Aj.length m a cs:=by
      intro a;induction a with
      |AB ks t x=>intro m cs hx;cases m with
       |false=>exact⟨hx.1,hx.2.mono λb a=>⟨hal a,rfl⟩⟩
       |true=>exact hx.elim
      |FZ ks t x=>intro m cs hx;cases m with
       |false =>
        obtain⟨hk,b,off,ds,e,ha,r,hc⟩:=hx;exact⟨hk,b,off,ds,e,hal ha,r.mono λb a=>⟨hal a,rfl⟩,hc⟩
       |true=>exact hx.elim
      |Vh k i p o e=>intro m cs hx;cases m with
       |false =>
        obtain⟨hk,h0,h1,b,v,ha,ho,e1,e2,hc⟩:=hx;exact⟨hk,h0,h1,b,v,ha,Sw ho,e1,e2,hc⟩
       |true=>exact hx.elim
      |Xc k i p o j u=>intro m cs hx;cases m with
       |false =>
        obtain⟨hk,h0,h1,b,b',l,c,ha,ho,e1,e2,hc⟩:=hx;exact⟨hk,h0,h1,b,b',l,c,ha,Sw ho,e1,e2,hc⟩
       |true=>exact hx.elim
      |pr a b iha ihb=>intro m cs hx;cases m with
       |false =>
        obtain⟨c,d,e,h1,h2⟩:=hx;exact⟨c,d,e,iha false h1,ihb false h2⟩
       |true=>exact hx.elim
      |fn f c ih=>intro m cs hx;cases m with
       |false =>
        obtain⟨vs,e,hx⟩:=hx;exact⟨vs,e,ih true hx⟩
       |true=>exact hx.elim
      |cons a b iha ihb=>intro m cs hx;cases m with
       |true =>
        obtain⟨v,r,e,h1,h2⟩:=hx;exact⟨v,r,e,h1.imp id λ⟨cs,hx,hv⟩=>⟨cs,iha false hx,hv⟩,ihb true h2⟩
       |false=>exact hx.elim
      |_=>intro m cs hx;cases m<;>exact hx
     refine hn v w' (g'.sha k) ⟨λb hb=>by simp[G.sha,H.B3 b hb],λj x hx=>?_⟩ ?_ ⟨st.os,st.tape,st.output,st.size,λb hb h=>?_,λb h=>?_,λb j p h hj hm=>?_,λj hj=>st.A2 j hj⟩
     ·rw[AQo];rw[AQE]at hx;split at hx
      ·rename_i ek;subst ek;split at hx
       ·injection hx with hx;subst hx;obtain⟨Sl,hlen,QT,BX,hr⟩:=H.MR k _ hb;cases hfl:t.BU with
        |true=>exact⟨hfl,hlen,QT,BX,hr.imp id λ⟨b,BA,ds,ha,ho,hh,h1,h2,h3,h4,hc⟩=>⟨b,0,BA,ds,ha,Sw ho,hh,h1,h2,by rw[AQL];exact h3,h4,D3.2 ((D3.1 hc).mono λi x c h=>(UW.BU hfl).2 ((UW.BU hfl).1 h))⟩⟩
        |false =>
        refine⟨λj hj=>(by cases hj),hlen,QT,BX,hr.imp id λ⟨b,BA,ds,ha,ho,hh,h1,h2,h3,h4,hc⟩=>⟨b,BA,ds,ha,Sw ho,hh,h1,h2,h3,h4,?_⟩⟩;exact hc.toR λi x c r=>Kl.rdS (λb q hq hb=>.inl (by simp[G.sha,hb,hq])) (by simp) r
       ·cases hx
      ·rename_i LN;have hB:=H.MR j x hx;cases x with
       |Bd=>trivial
       |map m kt vt es st =>
        obtain⟨Sl,b,Ht,DK,ha,ho,hh,Tn,hm⟩:=hB;refine⟨Sl,b,Ht,DK,ha,Sw ho,hh,Tn,hm.on λi x c r=>?_⟩;cases m with
        |Aw =>
         refine Kl.mono (λb q hb=>⟨?_,rfl⟩) r;have:¬(j=k/\q++[i]≠[]):=λhq=>LN hq.1.symm;show(match g'.own b with |.BQ j r=>if j=k/\r≠[]then VC.Jl else .BQ j r |t=>t)=_
         rw[hb];exact AQy this
        |sh ks=>exact Ii.mono (λb a=>⟨hal a,rfl⟩) r
       |Sm e2 t xs i p =>
        obtain⟨h1,h2,h3,h4,h5,u,o,x0,b,BA,ds,q1,q2,q3,ha,ho,hh,c1,c2,c3,c4,hc⟩:=hB;refine⟨h1,h2,h3,h4,h5,u,o,x0,b,BA,ds,q1,q2,q3,ha,Sw ho,hh,c1,c2,c3,c4,hc.mono λi x c r=>r.mono λb q hb=>⟨?_,rfl⟩⟩;have:¬(j=k/\q++[i]≠[]):=λhq=>LN hq.1.symm;show(match g'.own b with |.BQ j r=>if j=k/\r≠[]then VC.Jl else .BQ j r |t=>t)=_
        rw[hb];exact AQy this
       |tail e2 t xs =>
        obtain⟨hfl,hlen,QT,BX,hr⟩:=hB;exact⟨hfl,hlen,QT,BX,hr.imp id λ⟨b,o,BA,ds,ha,ho,hh,h1,h2,h3,h4,hc⟩=>⟨b,o,BA,ds,ha,Sw ho,hh,h1,h2,h3,h4,D3.2 ((D3.1 hc).mono λi x c h=>(UW.BU hfl).2 ((UW.BU hfl).1 h))⟩⟩
       |box a =>
        obtain⟨h1,b,cs,e,ha,ho,hh,hx⟩:=hB;exact⟨h1,b,cs,e,ha,Sw ho,hh,hav a false hx⟩
       |row e2 m t xs =>
        obtain⟨Sl,hlen,QT,BX,hr⟩:=hB;refine⟨Sl,hlen,QT,BX,hr.imp id λ⟨b,BA,ds,ha,ho,hh,h1,h2,h3,h4,hc⟩=>⟨b,BA,ds,ha,Sw ho,hh,h1,h2,h3,h4,?_⟩⟩;cases m with
        |Aw =>
         refine hc.mono λi x c r=>r.mono λb q hb=>⟨?_,rfl⟩;have:¬(j=k/\q++[i]≠[]):=λhq=>LN hq.1.symm;show(match g'.own b with |.BQ j r=>if j=k/\r≠[]then VC.Jl else .BQ j r |t=>t)=_
         rw[hb];exact AQy this
        |sh ks=>exact hc.mono λx c r=>r.mono λb a=>⟨hal a,rfl⟩
     ·rw[AQo];rw[hval]at hv;obtain⟨hk1,jm⟩:=FN hv;rw[jm];exact Bv (cs:=[_]) rfl ⟨hk1,rfl⟩ rfl
     ·have:=st.no b hb h;exact⟨by simp[G.sha,this.1],this.2⟩
     ·have:=st.Jl b h;exact⟨by simp[G.sha,this.1],this.2⟩
     ·have:=st.BQ b j p h hj hm;have LN:¬(j=k/\p≠[]):=λhq=>by have:=hq.1;omega
      exact⟨by simp only[G.sha,this.1,AQy LN],this.2⟩
   ·cases hf
  ·cases hf
 ·cases hf
theorem Ai5{t:TypeId}{x:Operand}(ho:o.op=.load t x){ti:TI}(ht:Fy P t ti)(Jk:ti.EA=true){k:Nat}{i:Int}{p:ATU Nat}{f e0:Nat}(hx:σ.Cp x=.ptr k i p f){el:Nat}{tr:Ty}{xs:ATU tr.V}(hb:σ.Aj[k]?=some (.row el .Aw tr xs)){v:AV}(Vv:atP σ.Aj k i p f=some v)(NC:v.size=1):OL P σ o ⟨.Vh k i p f e0,σ.Aj,[]⟩ :=
 .Jm <| Ml (s:=λρ=>Instr.loadAt t (ρ x)) (λρ=>by simp[execOp,ho]) λa w g BS=>by
  have YL:=AX BS x;rw[hx]at YL;obtain⟨hk,h0,h1,b,OM,hpe⟩:=L1 YL;obtain⟨Sl,hlen,QT,BX,hr⟩:=BS.heap.MR k _ hb;obtain⟨cs,nF,DW⟩:=Xr BS.heap Vv h1 OM;have Zt:ti.ty.size=1/\ti.ty.isAgg=false:=by
   unfold TI.EA at Jk;split at Jk
   ·rename_i u hu;rw[hu];exact⟨rfl,rfl⟩
   ·cases Jk
  have hl:cs.length=ti.ty.size:=by rw[nF.len,NC,Zt.1]
  obtain⟨v1,jm,oY⟩:=T2 (w:=w) ht hl DW (λhg=>by rw[hl];exact Zt.1);rw[Zt.2]at oY;have UN:cs=[v1]:=oY;subst UN;rcases hr with ⟨al,_⟩|⟨b',BA,ds,ha,Cv,_⟩
  ·rw[hlen,al]at h1;simp at h1
  ·rw[OM]at ha;injection ha with ha;injection ha with ha;subst ha;refine⟨v1,by rw[hpe];simp[Instr.loadAt,Instr.sureAddr,jm],Bv (cs:=[v1]) rfl ⟨hk,h0,h1,b,v1,OM,Cv,rfl,nF.one v1 (by simp),?_⟩ rfl⟩;have:=DW 0 v1 rfl;simpa using this
theorem AbG{w:World}{g:G}{n k:Nat}{i:Int}{p:ATU Nat}{e b:Nat}(hk:k<n)(h0:0<=i)(h1:i.toNat<(g.A2 k).len)(OM:(g.A2 k).a=some ⟨b,0,none⟩)(Cv:g.own b=.BQ k []){A:Nat->Prop} :
    ∀{t:Ty} {x:t.V} {f o:Nat} {z:AV} {cs:ATU Value},lJ k i p e t x f o=some z->Ii w A t x cs->(∀j u,cs[j]?=some u->w.cell? ⟨b,i.toNat*(g.A2 k).oQ+o+j,none⟩=some u)->CK w g n false z cs/\z.isAgg=t.isAgg/\z.Dp=false
 |.unit,x,f,o,z,cs,h,hr,_=>by
  simp only[lJ,AQh]at h;subst h;exact⟨⟨λk hk=>(by cases hk),hr⟩,rfl,rfl⟩
 |.AH a c,x,f,o,z,cs,h,⟨c1,c2,ecs,r1,r2⟩,hc=>by
  simp only[lJ]at h;split at h
  ·rename_i r hrr;have U6:=r1.len;obtain⟨ih,_,_⟩:=AbG hk h0 h1 OM Cv hrr r2 (λj u hu=>by
    have:=hc (c1.length+j) u (by rw[ecs,AQB (by omega)];rw[show c1.length+j-c1.length=j by omega];exact hu);rw[<-this];congr 2;omega)
   split at h
   ·rename_i Jk;injection h with h;subst h;obtain⟨ad,n0,cap,e1⟩:∃ad n0 cap,c1=[.slice ad n0 cap]:=by
     cases a with
     |sl u=>obtain⟨ad,cap,ds,e1,_⟩:=r1;exact⟨_,_,_,e1⟩
     |_=>cases Jk
    refine⟨⟨c1,c2,ecs,⟨hk,h0,h1,b,_,OM,Cv,e1,rfl,?_⟩,ih⟩,rfl,rfl⟩;have:=hc 0 _ (by rw[ecs,e1];rfl);simpa using this
   ·split at h
    ·rename_i hf;injection h with h;subst h;exact⟨⟨c1,c2,ecs,⟨λk hk=>(by cases hk),(Ii.BU hf).2 ((Ii.BU hf).1 r1)⟩,ih⟩,rfl,rfl⟩
    ·cases h
  ·cases h
 |.int _,_,_,_,_,_,h,_,_=>by simp[lJ]at h
 |.bool,_,_,_,_,_,h,_,_=>by simp[lJ]at h
 |.str,_,_,_,_,_,h,_,_=>by simp[lJ]at h
 |.sl _,_,_,_,_,_,h,_,_=>by simp[lJ]at h
 |.Sp _,_,_,_,_,_,h,_,_=>by simp[lJ]at h
theorem Ai6{t:TypeId}{x:Operand}(ho:o.op=.load t x){ti:TI}(ht:Fy P t ti){k:Nat}{i:Int}{p:ATU Nat}{f e0:Nat}(hx:σ.Cp x=.ptr k i p f){el:Nat}{tr:Ty}{xs:ATU tr.V}(hb:σ.Aj[k]?=some (.row el .Aw tr xs)){ks:ATU Nat}{t':Ty}{y:t'.V}(Vv:atP σ.Aj k i p f=some (.AB ks t' y))(jl:t'=ti.ty){z:AV}(hz:lJ k i p e0 t' y 0 f=some z):OL P σ o ⟨z,σ.Aj,[]⟩ :=
 .Jm <| Ml (s:=λρ=>Instr.loadAt t (ρ x)) (λρ=>by simp[execOp,ho]) λa w g BS=>by
  subst jl;have YL:=AX BS x;rw[hx]at YL;obtain⟨hk,h0,h1,b,OM,hpe⟩:=L1 YL;obtain⟨Sl,hlen,QT,BX,hr⟩:=BS.heap.MR k _ hb;obtain⟨cs,nF,DW⟩:=Xr BS.heap Vv h1 OM;have hl:cs.length=ti.ty.size:=nF.len;obtain⟨v1,jm,oY⟩:=T2 (P:=P) (w:=w) ht hl DW (λhg=>by rw[hl];exact T9 hg);rcases hr with ⟨al,_⟩|⟨b',BA,ds,ha,Cv,_⟩
  ·rw[hlen,al]at h1;simp at h1
  ·rw[OM]at ha;injection ha with ha;injection ha with ha;subst ha;obtain⟨h2,h3,h4⟩:=AbG hk h0 h1 OM Cv hz nF.2 DW;exact⟨v1,by rw[hpe];simp[Instr.loadAt,Instr.sureAddr,jm],Bv h4 h2 (by rw[h3];exact oY)⟩
theorem Afn(he:EnvOk P en){v:AV}(h:jW en σ o=some v):OL P σ o ⟨v,σ.Aj,[]⟩:=by
 unfold jW at h;split at h
 ·rename_i t x ho;split at h
  ·cases h
  ·rename_i d hd;split at h
   ·rename_i e ti k i p f _ ht hxp;split at h
    ·rename_i el tr xs v0 hb Vv;split at h
     ·rename_i hc;injection h with h;subst h;exact Ai5 ho (he.t ht) hc.1 hxp hb Vv hc.2
     ·split at h
      ·rename_i ks t' y AF7;split at h
       ·rename_i jl;exact Ai6 ho (he.t ht) hxp hb Vv jl h
       ·cases h
      ·cases h
    ·cases h
   ·cases h
 ·rename_i t G3 ho;split at h
  ·rename_i ti ht;split at h
   ·cases h
   ·rename_i hn;split at h
    ·rename_i te Er;split at h
     ·rename_i jl;exact sQ ho (he.t ht) (he.t Er) hn jl h
     ·cases h
    ·cases h
  ·cases h
 ·rename_i t x i ho;split at h
  ·rename_i ti ht;split at h
   ·cases h
   ·rename_i hn;split at h
    ·rename_i te Er;split at h
     ·rename_i ks kk j hi;split at h
      ·rename_i hj;split at h
       ·rename_i v' hv;split at h
        ·rename_i NC;injection h with h;subst h;exact sR ho (he.t ht) (he.t Er) hn hi hj hv NC
        ·cases h
       ·cases h
      ·cases h
     ·cases h
    ·cases h
  ·cases h
 ·rename_i t x f ho;split at h
  ·rename_i ti ht;split at h
   ·rename_i fo u v' hfo hu hv;split at h
    ·rename_i hc;injection h with h;subst h;exact AdS ho (he.t ht) hfo hu hv hc
    ·cases h
   ·cases h
  ·cases h
 ·rename_i c ho;split at h
  ·rename_i t r hc hx bl;split at h
   ·rename_i ti ht;split at h
    ·rename_i hs;injection h with h;subst h;exact AdR ho hc hx bl (he.t ht) hs
    ·cases h
   ·cases h
  ·cases h
 ·rename_i t x i ho;split at h
  ·rename_i ti ht;split at h
   ·cases h
   ·rename_i hn;split at h
    ·rename_i te Er;split at h
     ·rename_i ks kk j hi;split at h
      ·rename_i hj;exact gn ho (he.t ht) (he.t Er) hn hi hj.1 hj.2 h
      ·cases h
     ·cases h
    ·cases h
  ·cases h
 ·cases h
theorem Aac{t:TypeId}{x v:Operand}(ho:o.op=.store t x v){ti:TI}(ht:Fy P t ti){k:Nat}{i:Int}{p:ATU Nat}{f:Nat}{j:Int}{u:Ty}(hx:σ.Cp x=.Xc k i p f j u)(h:Aai σ.Aj ti k i p f j u (σ.Cp v)=some e):OL P σ o e:=by
 unfold Aai at h;split at h
 ·rename_i ek tr xs hb;split at h
  ·rename_i ys hg;split at h
   ·rename_i y bk;split at h
    ·rename_i y' jo;split at h
     ·rename_i x' Ie;split at h
      ·rename_i hc;obtain⟨jl,oX,hu,AKM,AKs,Y4⟩:=hc;injection h with h;subst h;have rL:=A4 hb;have zu:((Be [k] σ.Aj).set k Blk.Bd++[Blk.row 0 .Aw u ys]).length=σ.Aj.length+1:=by simp[AJ]
       refine⟨by simp only[AQo,AJ,Bc,zu];omega,λhm=>by simp at hm,λa w g BS next Q hn=>?_⟩
       have YL:=AX BS x;rw[hx]at YL;obtain⟨cs,⟨hk,h0,h1,b,b',l,c,OM,Cv,e1,oU,DW⟩,hval⟩:=B4 rfl rfl YL;subst e1;have hpv:a.eval x=.pointer (some ⟨b',j.toNat*u.size,none⟩):=by
        have:[Value.pointer (some ⟨b',j.toNat*u.size,none⟩)]=[a.eval x]:=hval;injection this with h _;exact h.symm
       obtain⟨g1,H1,SA,Ac1,cb,_⟩:=Z8 BS.heap hb h1 hg oX hu OM DW Ie;have hN:((Be [k] σ.Aj).set k Blk.Bd++[Blk.row 0 .Aw u ys])[σ.Aj.length]?=some (.row 0 .Aw u ys):=by rw[AQB (by simp[AJ])];simp[AJ]
       obtain⟨_,hvs⟩:=FN Ac1;injection hvs with ha1 U6 _;obtain⟨_,AnS,AGl,_,_⟩:=H1.MR σ.Aj.length (.row 0 .Aw u ys) hN;have AKz:B6 w g1 (σ.Aj.length+1) (.ptr σ.Aj.length j [] 0) (.pointer (some ⟨b',j.toNat*u.size,none⟩)):=by
        have:=fX (w:=w) (g:=g1) (n:=σ.Aj.length+1) (p:=[]) (o:=0) (AQV σ.Aj.length) oU.1 (by rw[<-U6];exact oU.2) ha1.symm;rwa [AGl,ASj]at this
       have jm:B6 w g1 (σ.Aj.length+1) (σ.Cp v) (a.eval v):=by
        have:=(AX BS v).step SA (AQQ _);rwa [O3 λq hq=>by
         simp only[List.contains_eq_mem,AQG,ARa];intro e;subst e;simp only[List.contains_eq_mem,ARa]at Y4;exact Y4 hq]at this
       obtain⟨w2,g2,Ep,H2,Qw⟩:=ZS (σ:=⟨[],(Be [k] σ.Aj).set k Blk.Bd++[Blk.row 0 .Aw u ys]⟩) H1 ht hN bk ⟨AKs,AKM,rfl,rfl⟩ jo (by show B6 w g1 _ _ _;rw[zu];exact AKz) (by show B6 w g1 _ _ _;rw[zu];exact jm);simp only at H2 Qw;rw[zu]at Qw;have Av7:k∉[σ.Aj.length]:=by simp;omega
       have gM:k≠σ.Aj.length:=by omega
       generalize hE:(Blk.Hd (Be [σ.Aj.length] ((Be [k] σ.Aj).set k Blk.Bd++[Blk.row 0 .Aw u ys])) []).set σ.Aj.length (.row 0 .Aw u (ys.set j.toNat y'))=E at H2 hn;have hEl:E.length=σ.Aj.length+1:=by rw[<-hE];simp[Bc,AJ]
       have hEN:E[σ.Aj.length]?=some (.row 0 .Aw u (ys.set j.toNat y')):=by rw[<-hE,List.getElem?_set_self (by simp[Bc,AJ])]
       have stA:Step [σ.Aj.length,k] E.length w2 g2 w2 (g2.gC σ.Aj.length k (VO p [i.toNat])):=xl;have AmM:Step [k,σ.Aj.length] E.length w2 g2 w2 (g2.gC σ.Aj.length k (VO p [i.toNat])):=stA.weaken (λq hq=>by simp at hq⊢;exact hq.symm) (AQl _);have oV:(((Be [k,σ.Aj.length] E).set σ.Aj.length Blk.Bd).set k (.row ek .Aw tr (xs.set i.toNat x'))).length=E.length:=by simp[AJ]
       have AhK:ND w2 (g2.gC σ.Aj.length k (VO p [i.toNat])) E.length k (.row ek .Aw tr (xs.set i.toNat x')) :=
        cb w2 g2 E.length 0 (λb q hb=>Qw.BQ b k q hb (by omega) Av7) (λj hj=>Qw.A2 j (by omega)) (H2.MR σ.Aj.length _ hEN)
       unfold Oper.wp;simp only[execOp,ho,hpv,Sem.run_bind,Ep,Result.andThen_ok];refine hn undef w2 (g2.gC σ.Aj.length k (VO p [i.toNat])) ?_ Sc ?_
       ·refine H2.cL AmM (λb hb=>by simp[G.gC,H2.B3 b hb]) (by rw[oV];exact AQl _) λj' y Sv=>?_;rw[oV];rcases Tz Sv with ⟨rfl,rfl⟩|⟨LN,Sv⟩
        ·exact .inr (.inr AhK)
        ·rcases Tz Sv with ⟨rfl,rfl⟩|⟨Awb,Sv⟩
         ·exact .inl rfl
         ·obtain⟨y',jo,rfl⟩:=Du Sv;exact .inr (.inl ⟨by simp only[ARP,ASn,or_false,not_or];exact⟨LN,Awb⟩,y',jo,rfl⟩)
       ·refine⟨Qw.os.trans SA.os,Qw.tape.trans SA.tape,Qw.output.trans SA.output,Qw.size,λb hb h=>?_,λb h=>?_,λb j' q h Sv hm=>?_,λj' Sv=>?_⟩
        ·have h1:=SA.no b hb h;have h2:=Qw.no b hb h1.1;exact⟨by simp[G.gC,h2.1],h2.2⟩
        ·have h1:=SA.Jl b h;have h2:=Qw.Jl b h1.1;exact⟨by simp[G.gC,h2.1],h2.2⟩
        ·simp only[ARL,AQG,not_or]at hm;have h1:=SA.BQ b j' q h Sv (by simpa using hm.2);have h2:=Qw.BQ b j' q h1.1 (by omega) (by simpa using hm.1);exact⟨jc h2.1 (by omega),h2.2⟩
        ·show g2.A2 j'=_;rw[Qw.A2 j' (by omega),SA.A2 j' Sv]
      ·cases h
     ·cases h
    ·cases h
   ·cases h
  ·cases h
 ·cases h
theorem Aio(he:EnvOk P en)(h:Adv en σ o=some e):OL P σ o e:=by
 unfold Adv at h;split at h
 ·rename_i t x v ho;split at h
  ·rename_i ti k i p f j u ht hx;exact Aac ho (he.t ht) hx h
  ·cases h
 ·cases h
theorem AmT(he:EnvOk P en)(h:tlE en σ o=some (true,e)):OL P σ o e:=by
 unfold tlE at h;split at h
 ·rename_i t x lo ho;split at h
  ·rename_i ti k ks kk l htt hx hl;split at h
   ·rename_i el u xs te hb Er;split at h
    ·rename_i hc;obtain⟨Jk,hu⟩:=hc;subst hu;simp only[AQh,AQs,AQm,ARv]at h;obtain⟨⟨h0,h1⟩,rfl⟩:=h;exact AiW ho (he.t htt) Jk (he.t Er) hx hl hb h0 h1
    ·cases h
   ·cases h
  ·cases h
 ·rename_i t x y ho;split at h
  ·rename_i ti k ks kk l htt hx hl;split at h
   ·rename_i el u xs te hb Er;split at h
    ·rename_i hc;obtain⟨Jk,hu⟩:=hc;subst hu;simp only[AQh,AQs,AQm,ARv]at h;obtain⟨⟨h0,h1⟩,rfl⟩:=h;exact AiZ ho (he.t htt) Jk (he.t Er) hx hl hb h0 h1
    ·cases h
   ·cases h
  ·cases h
 ·rename_i c ho;split at h
  ·rename_i k t hc hx bl;split at h
   ·rename_i el u xs ti hb htt;split at h
    ·rename_i Jk;simp only[AQh,AQs,true_and]at h;subst h;exact Ai0 ho hc hx bl (he.t htt) Jk hb
    ·cases h
   ·cases h
  ·rename_i k y t tx hc hx bl;split at h
   ·rename_i el u xs0 ti gv hb htt yb;split at h
    ·rename_i te Er;split at h
     ·rename_i xs ys m2 rs vD k8;split at h
      ·rename_i vE;obtain⟨Jk,hkx,_,vC,Ws,_⟩:=vE;obtain⟨ec,hec⟩:=BO vD;injection ec with ec;subst ec;simp only at hec;subst hec;simp only[AQh,AQs,ARv]at h;obtain⟨Sj,rfl⟩:=h;exact AiU ho hc hx bl (he.t htt) (he.t Er) Jk (he.t yb) hkx vC hb Ws k8 Sj
      ·cases h
     ·cases h
    ·cases h
   ·cases h
  ·cases h
 ·cases h
theorem AiP(he:EnvOk P en)(h:wY en σ o=some e):OL P σ o e:=by
 exact Aio he h
theorem fH(he:EnvOk P en)(h:WB en σ o some=some e):OL P σ o e:=by
 unfold WB at h;split at h
 ·rename_i v hv;injection h with h;subst h;exact Afn he hv
 split at h
 ·rename_i e' hv;injection h with h;subst h;exact AiP he hv
 split at h
 ·rename_i c e' hv;cases c with
  |false=>cases h
  |true=>injection h with h;subst h;exact AmT he hv
 split at h
 ·cases hd:kF en o with
  |false=>rw[hd]at h;exact fI he h
  |true =>
   rw[hd]at h;simp only[AQv]at h;rw[NH en he.bB]at h;cases hx:Ss en σ o some with
   |none=>rw[hx]at h;cases h
   |some e0 =>
    rw[hx]at h;simp only[AQf]at h;split at h
    ·rename_i e' hf;injection h with h;subst h;exact AdJ (fI he hx) hf
    ·cases h
 ·rename_i t _;rw[NH en he.bB]at h;cases hx:Ss en σ o some with
  |none=>rw[hx]at h;cases h
  |some e0 =>
   rw[hx]at h;simp only[AQf]at h;split at h
   ·rename_i e' hf;injection h with h;subst h;exact Ag5 (fI he hx) hf
   ·cases h
theorem TL(he:EnvOk P en)(h:exec en σ o some=some e):OL P σ o e:=by
 unfold exec at h;split at h
 ·split at h
  ·split at h
   ·rename_i bs hp;rw[XA en he.bB]at h;cases hx:WB en ⟨σ.AU,bs⟩ o some with
    |none=>rw[hx]at h;cases h
    |some e0 =>
     rw[hx,AQf]at h;split at h
     ·cases h
     ·rename_i hm;injection h with h;subst h;have hs:=fH he hx;obtain⟨l',hf⟩:=wP hp;have hl:=vg hf;refine⟨AQJ hl hs.grow,λzw=>by rw[zw]at hm;exact(hm rfl).elim,λa w g BS next Q hn=>?_⟩
      obtain⟨_,g',H',st⟩:=Abd hf BS.heap;exact hs.wp a w g' ⟨H',BS.len,λi x hx=>(BS.AU i x hx).Sb st hl⟩ next Q λv w' g2 h1 h2 h3=>hn v w' g2 h1 h2 (st.trans h3 hl)
   ·cases h
  ·exact fH he h
 ·exact fH he h
end
end Go.Va
namespace Go.Va
def BK(m:Nat)(w:World)(g:G)(w':World)(g':G):Prop:=Step (List.range m) m w g w' g'
theorem BK.refl(m:Nat)(w:World)(g:G):BK m w g w g:=Step.refl _ _ _ _
theorem Step.toC{BF:ATU Nat}{n m:Nat}{w w':World}{g g':G}(s:Step BF n w g w' g')(h:m<=n):BK m w g w' g' :=
 ⟨s.os,s.tape,s.output,s.size,s.no,s.Jl,λ_ k _ _ hk hm=>(hm (List.mem_range.2 hk)).elim,λk hk=>s.A2 k (AQR hk h)⟩
theorem BK.trans{m:Nat}{w w1 w2:World}{g g1 g2:G}(s:BK m w g w1 g1)(t:BK m w1 g1 w2 g2):BK m w g w2 g2:=by
 have h:=Step.trans s t (AQl _);exact⟨h.os,h.tape,h.output,h.size,h.no,h.Jl,λ_ k _ _ hk hm=>(hm (List.mem_range.2 hk)).elim,h.A2⟩
theorem AiK{l:ATU AV}{d:Nat}{x:AV}(h:l[d]?=some x):l.set d x=l:=by
 apply ARu;intro i;rw[AQE];split
 ·rename_i he;subst he;split
  ·exact h.symm
  ·rename_i hl;rw[AQT (Nat.le_of_not_lt hl)]
 ·rfl
inductive Want (all:List Oper) (σ:St) (o:Oper):Bool->Prop where
 |plain (h:o.guard=none):Want all σ o true
 |guard {g:Nat} {iY:Bool} {d:Nat} {b:Bool} (h:o.guard=some (g,iY)) (hd:(all[g]?).bind (·.dst)=some d) (hb:σ.AU[d]?=some (.bool b)):Want all σ o (b==iY)
 |nil {g:Nat} {iY:Bool} {d:Nat} (h:o.guard=some (g,iY)) (hd:(all[g]?).bind (·.dst)=some d) (hb:σ.AU[d]?=some .nil):Want all σ o false
theorem QB{R:Type}{all:ATU Oper}{σ:St}{o:Oper}{Kt Kf:St->ATV R}{r:R}(h:Yc all σ o Kt Kf=some r):(Want all σ o true/\Kt σ=some r)\/(Want all σ o false/\Kf σ=some r):=by
 unfold Yc at h;split at h
 ·rename_i hg;exact .inl ⟨.plain hg,h⟩
 ·rename_i g iY hg;split at h
  ·cases h
  ·rename_i d hd;split at h
   ·rename_i b hb;have e:({σ with AU:=σ.AU.set d (.bool b)}:St)=σ:=by
     have:=AiK hb;cases σ;simp only at this⊢;rw[this]
    cases b
    ·simp only[AQu]at h;rw[e]at h;split at h
     ·rename_i hw;subst hw;exact .inr ⟨.guard hg hd hb,h⟩
     ·rename_i hw;have:iY=false:=by simpa using hw
      subst this;exact .inl ⟨.guard hg hd hb,h⟩
    ·simp only[AQv]at h;rw[e]at h;split at h
     ·rename_i hw;subst hw;exact .inl ⟨.guard hg hd hb,h⟩
     ·rename_i hw;have:iY=false:=by simpa using hw
      subst this;exact .inr ⟨.guard hg hd hb,h⟩
   ·rename_i hb;exact .inr ⟨.nil hg hd hb,h⟩
   ·cases h
theorem kS{R:Type}{all:ATU Oper}{σ:St}{o:Oper}{T:Type}{Kt Kf:St->ATV R}{Kt' Kf':St->ATV T}{K:T->ATV R}(h1:∀σ,Kt σ=(Kt' σ).bind K)(h2:∀σ,Kf σ=(Kf' σ).bind K):Yc all σ o Kt Kf=(Yc all σ o Kt' Kf').bind K:=by
 unfold Yc;split
 ·exact h1 _
 ·split
  ·rfl
  ·split
   ·rename_i b _;cases b<;>simp only[AQv,AQu]<;>split<;>first |exact h1 _ |exact h2 _
   ·exact h2 _
   ·rfl
section
variable {P:Program} {en:G5} {R:Type}
theorem vf(he:aN en)(σ:St)(o:Oper){T:Type}{K:Ih->ATV R}{K':Ih->ATV T}{k:T->ATV R}(h:∀e,K e=(K' e).bind k):exec en σ o K=(exec en σ o K').bind k:=by
 rw[TK en he σ o K,TK en he σ o K'];cases exec en σ o some with
 |none=>rfl
 |some e=>exact h e
theorem Vu(he:aN en)(all:ATU Oper):∀(is:ATU Nat) (σ:St) (K:St->ATV R),Sr en all is σ K=(Sr en all is σ some).bind K
 |[],_,_=>rfl
 |i::is,σ,K=>by
  simp only[Sr];split
  ·rfl
  ·refine kS (λσ=>?_) λσ=>Vu he all is _ K;exact vf he σ _ λe=>Vu he all is _ K
theorem Vt(he:aN en)(all:ATU Oper)(A:ATU (Nat×ATU Nat)):∀(is done O2:ATU Nat) (σ:St) (K:St->ATV R),VG en all A is done O2 σ K=(VG en all A is done O2 σ some).bind K
 |[],_,_,_,_=>rfl
 |i::is,done,O2,σ,K=>by
  simp only[VG];split
  ·rfl
  ·split
   ·refine kS (λσ=>?_) λσ=>Vt he all A is _ _ _ K;refine vf he σ _ λe=>?_;split
    ·exact Vt he all A is _ _ _ K
    ·split
     ·exact Vt he all A is _ _ _ K
     ·rfl
   ·rfl
theorem AdM{w:World}{g:G}{σ:St}{a:Act}(hs:LJ w g σ a){d:Nat}{b:Bool}(h:σ.AU[d]?=some (.bool b)):a.tmps[d]?=some (.bool b):=by
 have h1:=TG (hs.AU d _ h);have hl:d<a.tmps.size:=by rw[<-hs.len];exact A4 h
 rw[AQ3 hl];rw[ARd,AQ3 hl]at h1;exact congrArg some h1
theorem AiS{w:World}{g:G}{σ:St}{a:Act}(hs:LJ w g σ a){d:Nat}(h:σ.AU[d]?=some .nil):a.tmps[d]?=some (.tuple #[]):=by
 have h1:a.tmps.getD d undef=.tuple #[]:=hs.AU d _ h;have hl:d<a.tmps.size:=by rw[<-hs.len];exact A4 h
 rw[AQ3 hl];rw[ARd,AQ3 hl]at h1;exact congrArg some h1
theorem Kj{w:World}{g:G}{σ:St}{a:Act}{Ca:Array Oper}{o:Oper}{t:Bool}(hs:LJ w g σ a)(h:Want Ca.toList σ o t):Region.wanted o (yielded Ca a.tmps)=t:=by
 cases h with
 |plain h=>simp[Region.wanted,h]
 |guard h hd hb =>
  have h1:=AdM hs hb;rw[AQt]at hd;simp[Region.wanted,h,yielded,hd,h1]
 |nil h hd hb =>
  have h1:=AiS hs hb;rw[AQt]at hd;simp[Region.wanted,h,yielded,hd,h1]
theorem LJ.skip{w:World}{g:G}{σ:St}{a:Act}(h:LJ w g σ a)(d:ATV Nat):LJ w g (σ.skip d) (a.put d undef) where
 heap:=h.heap
 len:=by simp only[St.skip,eu,XR];exact h.len
 AU:=pY h.len h.AU (show B6 w g _ .nil undef from rfl)
theorem put_defers(a:Act)(d:ATV Tmp)(v:Value):(a.put d v).defers=a.defers:=by cases d<;>rfl
theorem dG(he:EnvOk P en){Ca:Array Oper}{m:Nat}{Q:Exit->Act->World->Prop}:∀(is:ATU Nat) (σ σ':St),Sr en Ca.toList is σ some=some σ'->m<=σ.Aj.length->m<=σ'.Aj.length/\∀(a:Act) (w:World) (g:G),LJ w g σ a ->
    (∀a' w' g',LJ w' g' σ' a'->BK m w g w' g'->a'.defers=a.defers->Q .normal a' w')->wpOps P Ca Q is a w
 |[],σ,σ',h,hm=>by
  simp only[Sr,AQh]at h;subst h;exact⟨hm,λa w g hs hq=>hq a w g hs (BK.refl _ _ _) rfl⟩
 |i::is,σ,σ',h,hm=>by
  simp only[Sr]at h;split at h
  ·cases h
  ·rename_i o ho;have ho':Ca[i]?=some o:=by rw[<-AQt];exact ho
   rcases QB h with ⟨hw,h⟩|⟨hw,h⟩
   ·rw[TK en he.bB]at h;cases hx:exec en σ o some with
    |none=>rw[hx]at h;cases h
    |some e =>
     rw[hx]at h;have Q3:=TL he hx;have QC:=Q3.grow;obtain⟨hm',ih⟩:=dG he (Q:=Q) is _ _ h (AQJ hm QC);refine⟨hm',λa w g hs hq=>?_⟩;simp only[wpOps,ho'];rw[AQx (Kj hs hw)];refine .inl (Q3.wp a w g hs _ Q λv w' g' hH hv BS=>?_);exact ih _ _ _ (hs.after QC hH hv BS) λa'' w'' g'' Awj AhN hd=>hq a'' w'' g'' Awj ((BS.toC hm).trans AhN) (by rw[hd,put_defers])
   ·obtain⟨hm',ih⟩:=dG he (Q:=Q) is _ _ h hm;refine⟨hm',λa w g hs hq=>?_⟩;simp only[wpOps,ho'];rw[Kj hs hw];simp only[AQ6,ARH];exact ih _ _ _ (hs.skip o.dst) λa'' w'' g'' Awj AhN hd=>hq a'' w'' g'' Awj AhN (by rw[hd,put_defers])
end
end Go.Va
namespace Go.Va
theorem V0{n:Nat}{ks:ATU Nat}{k:Nat}:k∈bT n ks↔k<n/\k∈ks:=by simp[bT]
section
variable {w:World} {g:G} {n:Nat}
theorem Al.Et{ks:ATU Nat}(h:∀k∈ks,k<n){b:Nat}(a:Al g.own ks b):Al g.own (bT n ks) b:=a.mono λk hk=>V0.2 ⟨h k hk,hk⟩
theorem ko(a:AV):(a.Et n).OV=a.OV:=by cases a<;>rfl
theorem gE(a:AV):(a.Et n).isAgg=a.isAgg:=by cases a<;>rfl
theorem uP(a:AV):(a.Et n).Dp=a.Dp:=by cases a<;>rfl
theorem CK.Et:∀(a:AV) (m:Bool) {cs:ATU Value},CK w g n m a cs->CK w g n m (a.Et n) cs
 |.AB ks t x,false,cs,⟨hk,r⟩=>⟨λk h=>(V0.1 h).1,r.mono λb a=>⟨a.Et hk,rfl⟩⟩
 |.zs,false,_,h=>h
 |.AG _,false,_,h=>h
 |.mp _,false,_,h=>h
 |.ptr _ _ _ _,false,_,h=>h
 |.FZ ks t x,false,cs,⟨hk,b,off,ds,e,ha,r,hc⟩=>⟨λk h=>(V0.1 h).1,b,off,ds,e,ha.Et hk,r.mono λb a=>⟨a.Et hk,rfl⟩,hc⟩
 |.KQ,false,_,h=>h
 |.Vh _ _ _ _ _,false,_,h=>h
 |.Xc _ _ _ _ _ _,false,_,h=>h
 |.pr a b,false,_,⟨c,e,he,h1,h2⟩=>⟨c,e,he,CK.Et a _ h1,CK.Et b _ h2⟩
 |.fn f c,false,_,⟨vs,e,hx⟩=>⟨vs,e,CK.Et c true hx⟩
 |.un k,false,_,h=>h
 |.cons a b,true,_,⟨v,r,e,h1,h2⟩=>by
  refine⟨v,r,e,?_,CK.Et b true h2⟩;rw[ko,gE];exact h1.imp id λ⟨cs,hx,hv⟩=>⟨cs,CK.Et a _ hx,hv⟩
 |.nil,true,_,h=>h
 |.cons _ _,false,_,h=>h.elim
 |.nil,false,_,h=>h.elim
 |.Vh _ _ _ _ _,true,_,h=>h.elim
 |.Xc _ _ _ _ _ _,true,_,h=>h.elim
 |.AB _ _ _,true,_,h=>h.elim
 |.zs,true,_,h=>h.elim
 |.AG _,true,_,h=>h.elim
 |.mp _,true,_,h=>h.elim
 |.ptr _ _ _ _,true,_,h=>h.elim
 |.FZ _ _ _,true,_,h=>h.elim
 |.KQ,true,_,h=>h.elim
 |.pr _ _,true,_,h=>h.elim
 |.fn _ _,true,_,h=>h.elim
 |.un _,true,_,h=>h.elim
theorem B6.Et{a:AV}{v:Value}(h:B6 w g n a v):B6 w g n (a.Et n) v:=by
 cases ht:a.Dp with
 |false =>
  rw[B6.iff ht]at h;rw[B6.iff (by rw[uP];exact ht),ko,gE];exact h.imp id λ⟨cs,hx,hv⟩=>⟨cs,CK.Et a _ hx,hv⟩
 |true =>
  cases a with
  |cons a b=>obtain⟨vs,e,h⟩:=h;exact⟨vs,e,CK.Et _ true h⟩
  |nil=>exact h
  |_=>cases ht
theorem ND.Et{k:Nat}{b:Blk}(h:ND w g n k b):ND w g n k (b.Et n):=by
 cases b with
 |Bd=>trivial
 |map m kt vt es st =>
  cases m with
  |Aw=>exact h
  |sh ks =>
   obtain⟨Sl,b,Ht,DK,ha,ho,hh,Tn,hm⟩:=h;exact⟨λj hj=>(V0.1 hj).1,b,Ht,DK,ha,ho,hh,Tn,hm.on λi x c r=>by
    exact r.mono λb a=>⟨a.Et Sl,rfl⟩⟩
 |Sm e t xs i p=>exact h
 |tail e t xs=>exact h
 |box a =>
  obtain⟨h1,b,cs,e,ha,ho,hh,hx⟩:=h;exact⟨h1,b,cs,e,ha,ho,hh,CK.Et a _ hx⟩
 |row e m t xs =>
  cases m with
  |Aw=>exact h
  |sh ks =>
   obtain⟨Sl,hlen,QT,BX,hr⟩:=h;refine⟨λj hj=>(V0.1 hj).1,hlen,QT,BX,hr.imp id λ⟨b,BA,ds,ha,ho,hh,h1,h2,h3,h4,hc⟩=>⟨b,BA,ds,ha,ho,hh,h1,h2,h3,h4,?_⟩⟩;exact hc.mono λx c r=>r.mono λb a=>⟨a.Et Sl,rfl⟩
end
def G.pick(g:G)(π:ATU Nat):G:=⟨λb=>match g.own b with |.BQ k r=>if k∈π then .BQ (idxOf π k) r else .no |t=>t,λj=>g.A2 (π.getD j 0)⟩
theorem Vz{bs:ATU Blk}{m:Nat}{π Ck:ATU Nat}(h:Ady bs m π Ck=true):π.take m=List.range m/\nodup π=true/\(∀k∈Ck,k∈π)/\∀k∈π,∃b,bs[k]?=some b/\∀j∈b.Ck,j∈π:=by
 simp only[Ady,AQm,ARm]at h
 grind
theorem Aiw{m:Nat}{π:ATU Nat}(h:π.take m=List.range m):m<=π.length/\∀j,j<m->π[j]?=some j:=by
 have hl:(π.take m).length=m:=by grind
 rw[AQA]at hl;refine⟨by omega,λj hj=>?_⟩;have:(π.take m)[j]?=some j:=by grind
 grind
section
variable {w:World} {g:G} {bs:ATU Blk} {π Ck:ATU Nat} {m:Nat}
theorem ei{k:Nat}(hk:k∈π):Ren (idxOf π) g (g.pick π) π.length k where
 lt:=rX hk
 A2:=by
  have:=rW hk;simp[G.pick,this]
 own b r h:=by simp[G.pick,h,hk]
theorem eh{b:Nat}(h:g.own b=.Jl):(g.pick π).own b=.Jl:=by simp[G.pick,h]
theorem pL(H:Bi w g bs)(h:Ady bs m π Ck=true):Bi w (g.pick π) (π.map λk=>(((bs[k]?).getD .Bd).O0 (idxOf π)).Et π.length):=by
 obtain⟨_,hn,_,OO⟩:=Vz h;refine⟨λb hb=>by simp[G.pick,H.B3 b hb],λj x hx=>?_⟩;rw[AQI]at hx;cases hj:π[j]? with
 |none=>grind
 |some k =>
  rw[hj]at hx;injection hx with hx;subst hx;have hk :=ARB hj;obtain⟨b,hb,Sk⟩:=OO k hk;have:=(H.MR k b hb).O0    (λb h=>eh h) (ei hk) (λj hj=>ei (Sk j hj));rw[fP hn hj]at this;simp only[hb,AQr];exact this.Et
theorem pM(h:Ady bs m π Ck=true):BK m w g w (g.pick π)/\m<=π.length:=by
 obtain⟨ht,hn,_,OO⟩:=Vz h;obtain⟨h1,h2⟩:=Aiw ht;refine⟨⟨rfl,rfl,rfl,AQl _,λb _ h=>⟨by simp[G.pick,h],rfl⟩,λb h=>⟨eh h,rfl⟩,λb k p h hk hm=>(hm (List.mem_range.2 hk)).elim,λk hk=>?_⟩,h1⟩;simp[G.pick,h2 k hk]
theorem o6:∀{A7:ATU Nat} {l:ATU AV} {j i:Nat} {x:AV},(Sy A7 j l)[i]?=some x->∃y,l[i]?=some y/\(x=y\/x=.un 0)
 |A7,a::r,j,0,x,h=>by
  simp only[Sy,List.getElem?_cons_zero,AQh]at h
  grind
 |A7,a::r,j,i+1,x,h=>by
  simp only[Sy]at h;obtain⟨y,hy,hx⟩:=o6 h
  grind
 |_,[],_,_,_,h=>by simp[Sy]at h
theorem fQ(A7:ATU Nat):∀(l:ATU AV) (j:Nat),(Sy A7 j l).length=l.length
 |[],_=>rfl
 |_::r,j=>by simp[Sy,fQ A7 r]
theorem Amw{σ σ0:St}{l:ATU Nat}(h:σ.AA m l=some σ0){a:Act}(hs:LJ w g σ a):∃g0,LJ w g0 σ0 a/\BK m w g w g0/\m<=σ0.Aj.length:=by
 unfold St.AA at h
 dsimp only at h
 split at h
 ·rename_i hp;injection h with h;subst h;obtain⟨BS,hm⟩:=pM   hp;obtain⟨_,_,Sk,_⟩:=Vz hp;refine⟨_,⟨pL hs.heap hp,by simp[fQ];exact hs.len,λi x hx=>?_⟩,BS,by grind⟩;simp only[AQr];rw[AQI]at hx;cases hq:(Sy l 0 σ.AU)[i]? with
  |none=>grind
  |some y =>
   rw[hq]at hx;injection hx with hx;subst hx;obtain⟨z,hz,hyz⟩:=o6 hq;rcases hyz with rfl |rfl
   ·exact((hs.AU i y hz).O0 (λb h=>eh h) λk hk=>ei (Sk k (List.mem_flatMap.2 ⟨y,ARB hq,hk⟩))).Et
   ·exact Sc
 ·grind
theorem Ag7{m:Nat}{Z:ATU Nat}:BK m w g w (g.Yv Z) :=
 ⟨rfl,rfl,rfl,AQl _,λb _ h=>⟨by simp[G.Yv,h],rfl⟩,λb h=>⟨rI h,rfl⟩,λb k p h hk hm=>(hm (List.mem_range.2 hk)).elim,λk hk=>rfl⟩
theorem rH{bs:ATU Blk}(H:Bi w g bs){m:Nat}{t:Ty}{v v':AV}{HT:ATU Blk}(h:Ag6 m t v bs=some (v',HT)) :
    ∃g',Bi w g' HT/\HT.length=bs.length/\BK m w g w g'/\(∀a u,B6 w g bs.length a u->B6 w g' bs.length a.cQ u)/\(∀u,B6 w g bs.length v u->B6 w g' bs.length v' u)/\(∀k,g'.A2 k=g.A2 k)/\∀cs,CK w g bs.length false v cs->CK w g' bs.length false v' cs:=by
 unfold Ag6 at h;split at h
 ·rename_i x hr;obtain⟨rfl,rfl⟩:=h;have key:∀cs,CK w g bs.length false v cs->CK w (g.Yv ((v.VY bs).filter λk=>!decide (k<m))) bs.length false (.AB ((v.VY bs).filter λk=>decide (k<m)) t x) cs:=by
   intro cs UN;obtain⟨nH,Bp⟩:=Rx H t v x cs hr UN;refine⟨λk hk=>Bp k (List.mem_filter.1 hk).1,nH.mono λb a=>⟨a.O4.mono λk hk=>?_,rfl⟩⟩
   grind
  refine⟨g.Yv _,vq H _,by simp[Bc],Ag7,λa u h=>h.O4 _,λu hu=>?_,λk=>rfl,?_⟩
  ·obtain⟨h1,h2⟩:=Xd hr;obtain⟨cs,UN,hv⟩:=B4 h1 h2 hu;exact Bv  rfl (key cs UN) (by rw[show(AV.AB _ t x).isAgg=v.isAgg from(cw hr).symm];exact hv)
  ·grind
 ·grind
end
section
variable {w:World} {g:G} {bs:ATU Blk} {m:Nat}
end
section
variable {w:World} {g:G} {bs:ATU Blk} {m:Nat}
theorem y9(H:Bi w g bs){c:Co}{a a':AV}{nb:ATU Blk}(h:coV bs c a=some (a',nb)){v:Value}(hx:B6 w g bs.length a v):∃g',Bi w g' (bs++nb)/\B6 w g' (bs++nb).length a' v/\Step [] bs.length w g w g':=by
 have sM:a'=a/\nb=[]->∃g',Bi w g' (bs++nb)/\B6 w g' (bs++nb).length a' v/\Step [] bs.length w g w g':=by
  rintro⟨rfl,rfl⟩
  exact⟨g,by grind,by grind,Step.refl _ _ _ _⟩
 have APu:a.Dp=true\/a.OV=true->a'=a/\nb=[]:=by
  intro hq;cases c with
  |AB t =>
   simp only[coV]at h;split at h
   ·rename_i y hy;obtain⟨h1,h2⟩:=Xd hy
    grind
   ·grind
  |iG ks=>cases a<;>simp_all [coV,AV.Dp,AV.OV]
  |row p e t Aw =>
   have:a.W2 p≠some .zs:=by
    cases a<;>simp[AV.Dp,AV.OV]at hq<;>cases p<;>simp[AV.W2,AV.b5]
   simp only[coV]at h
   grind
 by_cases ht:a.Dp=true
 ·grind
 ·by_cases hu:a.OV=true
  ·grind
  ·obtain⟨cs,UN,hv⟩:=B4 (by grind) (by grind) hx;obtain⟨g',h1,h2,h3,h4⟩:=za H h UN;exact⟨g',h1,Bv (Xb h2) h2 (by grind),h4⟩
theorem AvC{σ σ':St}{s:Nat}{b:Bool}{c:Co}(h:coS σ s b c=some σ'){a:Act}(hs:LJ w g σ a)(hm:m<=σ.Aj.length):∃g',LJ w g' σ' a/\BK m w g w g'/\m<=σ'.Aj.length:=by
 unfold coS at h;split at h
 ·grind
 ·rename_i v hv;cases b with
  |false =>
   simp only[AQu]at h;split at h
   ·rename_i v' nb hco;injection h with h;subst h;obtain⟨g',h1,h2,h3⟩:=y9 hs.heap hco (hs.AU s v hv);refine⟨g',⟨h1,by simp only[AQo];exact hs.len,λi x hx=>?_⟩,h3.toC hm,by grind⟩;rw[AQE]at hx;split at hx
    ·grind
    ·exact(hs.AU i x hx).Sb h3 (by simp)
   ·grind
  |true =>
   split at h
   ·rename_i k i p o;split at h
    ·rename_i a0 hb;split at h
     ·rename_i a' nb hco;injection h with h;subst h;obtain⟨hlen,bb,cs,e,ha,ho,hh,hx⟩:=hs.heap.MR k _ hb;obtain⟨g',h1,h2,h3,h4⟩:=za hs.heap hco hx;have hk:=A4 hb;have dO:(σ.Aj.set k (.box a')++nb).length=(σ.Aj++nb).length:=by simp
      refine⟨g',⟨⟨h1.B3,λj x hj=>?_⟩,hs.len,λi x vU=>(hs.AU i x vU).Sb h4 (by simp)⟩,h4.toC hm,by grind⟩;rw[dO];rw[AQF]at hj;split at hj
      ·rename_i bj;rw[AQo]at bj;rw[AQE]at hj;split at hj
       ·rename_i ek;subst ek;injection hj with hj;subst hj;have hl:=h4.BQ bb k [] ho hk (by simp);exact⟨by rw[h4.A2 k hk];exact hlen,bb,cs,e,by rw[h4.A2 k hk];exact ha,hl.1,hh,h2⟩
       ·exact h1.MR j x (by grind)
      ·rename_i bj;rw[AQo]at bj hj;exact h1.MR j x (by grind)
     ·grind
    ·grind
   ·grind
theorem kq:∀{l:ATU (Nat×Bool×Co)} {σ σ':St} {g:G},di l σ=some σ'->∀{a:Act},LJ w g σ a->m<=σ.Aj.length->∃g',LJ w g' σ' a/\BK m w g w g'/\m<=σ'.Aj.length
 |[],σ,σ',g,h,a,hs,hm=>by
  simp only[di,AQh]at h;subst h;exact⟨g,hs,BK.refl _ _ _,hm⟩
 |(s,b,c)::r,σ,σ',g,h,a,hs,hm=>by
  simp only[di]at h;split at h
  ·rename_i σ1 h1;obtain⟨g1,Sx,SA,UO⟩:=AvC h1 hs hm;obtain⟨g2,ak,Qw,Tm⟩:=kq h Sx UO;exact⟨g2,ak,SA.trans Qw,Tm⟩
  ·grind
theorem lH{bs:ATU Blk}(H:Bi w g bs){k e:Nat}{md:RM}{t:Ty}{xs:ATU t.V}(hb:bs[k]?=some (.row e md t xs))(QQ:k∉md.Ck) :
    ∃g',Bi w g' (Blk.Hd (Be [k] bs) [k]++[.row e md t xs])/\Step [k] bs.length w g w g'/\g'.A2 bs.length=g.A2 k:=by
 obtain⟨Sl,hlen,QT,BX,hr⟩:=H.MR k _ hb
 let n:=bs.length
 let f:Nat->ATU Nat->VC:=λj r=>if j=k then .BQ n r else .BQ j r
 let g':=g.Wt f none n (g.A2 k)
 have st:Step [k] n w g w g':=Step.Wt H.B3 rfl rfl rfl (AQl _) (λ_ _ _=>rfl) (λq h=>by grind) (AQl _) λj r _ hm=>by
  grind
 have QP:g'.A2 n=g.A2 k:=by simp[g',G.Wt]
 refine⟨g',H.cL st (NI H.B3 (AQl _) λq h=>by grind) (by simp[Bc,AJ]) λj y hj=>?_,st,QP⟩;rw[AQF]at hj;split at hj
 ·rcases Ln hj with h |⟨rK,h⟩
  ·grind
  ·obtain⟨y',jo,rfl⟩:=Du h
   grind
 ·rename_i Bp;rw[Bc,AJ]at hj Bp;have oU:j-bs.length=0:=by
   grind
  rw[oU]at hj;obtain rfl:j=n:=by omega
  simp only[List.getElem?_cons_zero,AQh]at hj;subst hj;refine .inr (.inr ⟨λj hj=>by have:=Sl j hj;simp[Bc,AJ];omega,by grind,by grind,BX,?_⟩);rw[QP];refine hr.imp id λ⟨b,BA,ds,ha,Cv,Ahn,p1,p2,p3,p4,Ku⟩=>⟨b,BA,ds,ha,by rw[I7 (by simp) Cv];simp[f],Ahn,p1,p2,p3,p4,?_⟩;rw[D3];refine(D3.1 Ku).mono λi x c Ws=>Ws.on ?_;cases md with
  |Aw=>exact λb q hb=>⟨by rw[I7 (by simp) hb];simp[f],rfl⟩
  |sh ks =>
   intro b hb;rcases hb with hb |⟨j,hj,r,hb⟩
   ·exact⟨.inl (WX (by simp) hb),rfl⟩
   ·refine⟨.inr ⟨j,hj,r,?_⟩,rfl⟩;have:j≠k:=λe=>QQ (e▸hj);rw[I7 (by simp) hb];simp[f,this]
theorem sA:∀{l:ATU Nat} {σ σ':St} {g:G},mvS m l σ=some σ'->∀{a:Act},LJ w g σ a->m<=σ.Aj.length->∃g',LJ w g' σ' a/\BK m w g w g'/\m<=σ'.Aj.length
 |[],σ,σ',g,h,a,hs,hm=>by
  simp only[mvS,AQh]at h;subst h;exact⟨g,hs,BK.refl _ _ _,hm⟩
 |s::r,σ,σ',g,h,a,hs,hm=>by
  simp only[mvS]at h;split at h
  ·rename_i k hv;split at h
   ·split at h
    ·rename_i e md t xs hb;split at h
     ·grind
     ·rename_i QQ;obtain⟨g1,H1,st,Vv⟩:=lH hs.heap hb (by grind);have hl:(Blk.Hd (Be [k] σ.Aj) [k]++[Blk.row e md t xs]).length=σ.Aj.length+1:=by simp[Bc,AJ]
      have Sx:LJ w g1 ⟨(VF [k] σ.AU).set s (.AG σ.Aj.length),Blk.Hd (Be [k] σ.Aj) [k]++[.row e md t xs]⟩ a:=by
       refine⟨H1,by simp[VF];exact hs.len,λi x hx=>?_⟩;simp only[hl];rw[AQE]at hx;split at hx
       ·rename_i e';subst e';split at hx
        ·injection hx with hx;subst hx;obtain⟨hk,hv2⟩:=FN (hs.AU s _ hv);rw[hv2];exact Bv  rfl ⟨AQV _,by grind⟩ rfl
        ·grind
       ·obtain⟨y,hy,rfl⟩:=Z9 hx;exact(hs.AU i y hy).step st (AQQ _)
      obtain⟨g2,ak,Qw,Tm⟩:=sA h Sx (by grind);exact⟨g2,ak,(st.toC hm).trans Qw,Tm⟩
    ·grind
   ·exact sA h hs hm
  ·exact sA h hs hm
theorem Afp{w:World}{g:G}{n j N:Nat}{p:ATU Nat}{a a2:AV}{v:Value}(h:B6 w g n a v)(hp:a.W2 p=some (.AG j))(Ie:a.cC p (.AG N)=some a2)(hN:N<n)(Vv:g.A2 N=g.A2 j):B6 w g n a2 v:=by
 cases p with
 |nil =>
  simp only[AV.W2,AQh]at hp;simp only[AV.cC,AQh]at Ie;subst hp;subst Ie;obtain⟨_,hv⟩:=FN h;rw[hv,<-Vv];exact Bv  rfl ⟨hN,rfl⟩ rfl
 |cons f p =>
  have h2 :=by
   simp only[AV.cC]at Ie;split at Ie
   ·split at Ie
    ·exact cB Ie
    ·grind
   ·grind
  have h1:a.isAgg=true/\a.Dp=false/\a.OV=false:=by
   simp only[AV.W2]at hp;cases a with
   |pr x y=>exact⟨rfl,rfl,rfl⟩
   |AB ks t x =>
    cases t with
    |AH b c=>exact⟨rfl,rfl,rfl⟩
    |_=>simp[AV.b5,Yb]at hp
   |_=>simp[AV.b5]at hp
  obtain⟨cs,UN,hv⟩:=B4 h1.2.1 h1.2.2 h;obtain⟨c0,c1,c2,e1,_,hr,cb⟩:=S0 _ _ cs _ UN hp;obtain⟨_,QS⟩:=hr;have yd:=cb _ a2 c1 Ie ⟨hN,by grind⟩;rw[<-e1]at yd;have ht:a2.Dp=false:=by cases a2<;>first |rfl |cases h2
  exact Bv ht yd (by grind)
theorem Aih{m s:Nat}{p:ATU Nat}{a:Act}{a0:AV}{σ σ2:St}{g:G}(ya:σ.AU[s]?=some a0)(h:mvV m s p a0 σ=some σ2)(hs:LJ w g σ a)(hm:m<=σ.Aj.length):∃g',LJ w g' σ2 a/\BK m w g w g'/\m<=σ2.Aj.length:=by
 unfold mvV at h;split at h
 ·split at h
  ·split at h
   ·rename_i e md t xs hj;split at h
    ·grind
    ·rename_i QQ;split at h
     ·rename_i j' a2 gP Ie;split at h
      ·rename_i hc;subst hc;injection h with h;subst h;obtain⟨g1,H1,st,Vv⟩:=lH hs.heap hj (by grind);have hl:(Blk.Hd (Be [j'] σ.Aj) [j']++[Blk.row e md t xs]).length=σ.Aj.length+1:=by simp[Bc,AJ]
       refine⟨g1,⟨H1,by simp[VF];exact hs.len,λi x hx=>?_⟩,st.toC hm,by grind⟩;rw[hl];rcases Tz hx with ⟨rfl,rfl⟩|⟨LN,hx⟩
       ·have hv:=(hs.AU i a0 ya).step st (AQQ _);exact Afp hv gP Ie (AQV _) (by rw[Vv,st.A2 j' (A4 hj)])
       ·obtain⟨y,hy,rfl⟩:=Z9 (show(VF [j'] _)[i]?=some x from hx);exact(hs.AU i y hy).step st (AQQ _)
      ·grind
     ·grind
   ·grind
  ·injection h with h;subst h;exact⟨g,hs,BK.refl _ _ _,hm⟩
 ·grind
theorem zK{m k:Nat}{p:ATU Nat}{w:World}{a:Act}{σ σ2:St}{g:G}(h:mvB m k p σ=some σ2)(hs:LJ w g σ a)(hm:m<=σ.Aj.length):∃g',LJ w g' σ2 a/\BK m w g w g'/\m<=σ2.Aj.length:=by
 unfold mvB at h;split at h
 ·rename_i a0 hb;split at h
  ·split at h
   ·split at h
    ·rename_i e md t xs hj;split at h
     ·grind
     ·rename_i QQ;split at h
      ·rename_i j' a2 gP Ie;split at h
       ·rename_i hc;obtain⟨rfl,hkj⟩:=hc;injection h with h;subst h;obtain⟨g1,H1,st,Vv⟩:=lH hs.heap hj (by grind);have hl:(Blk.Hd (Be [j'] σ.Aj) [j']++[Blk.row e md t xs]).length=σ.Aj.length+1:=by simp[Bc,AJ]
        have hk:=A4 hb;have iK:(Blk.Hd (Be [j'] σ.Aj) [j']++[Blk.row e md t xs])[k]?=some (.box (a0.drop λq=>[j'].contains q)):=by
         rw[AQC (by grind)];simp only[Blk.Hd,Be,AQE,AQI,hb,Option.map_some,Blk.drop,AQy (λe:j'=k=>hkj e.symm)]
        obtain⟨h1,bb,cs,el,ha,ho,hh,hx⟩:=H1.MR k _ iK;rw[hl]at hx;obtain⟨c0,c1,c2,e1,_,hr,cb⟩:=S0 p _ cs.toList _ hx gP;obtain⟨bj,QS⟩:=hr;have yd:=cb (.AG σ.Aj.length) a2 c1 Ie ⟨AQV _,by rw[QS,Vv,st.A2 j' (A4 hj)]⟩;rw[<-e1]at yd;refine⟨g1,⟨⟨H1.B3,λq x hq=>?_⟩,by simp[VF];exact hs.len,λi x hx=>?_⟩,st.toC hm,by grind⟩
        ·rw[AQo,hl];rw[AQE]at hq;split at hq
         ·rename_i e';subst e';split at hq
          ·injection hq with hq;subst hq;exact⟨h1,bb,cs,el,ha,ho,hh,yd⟩
          ·grind
         ·have:=H1.MR q x hq;rwa [hl]at this
        ·simp only[AQo,hl];obtain⟨y,hy,rfl⟩:=Z9 (show(VF [j'] σ.AU)[i]?=some x from hx);exact(hs.AU i y hy).step st (AQQ _)
       ·grind
      ·grind
    ·grind
   ·injection h with h;subst h;exact⟨g,hs,BK.refl _ _ _,hm⟩
  ·grind
 ·grind
theorem AbE:∀{l:ATU (Nat×ATU Nat)} {σ σ':St} {g:G},Aig m l σ=some σ'->∀{a:Act},LJ w g σ a->m<=σ.Aj.length->∃g',LJ w g' σ' a/\BK m w g w g'/\m<=σ'.Aj.length
 |[],σ,σ',g,h,a,hs,hm=>by
  simp only[Aig,AQh]at h;subst h;exact⟨g,hs,BK.refl _ _ _,hm⟩
 |(s,p)::r,σ,σ',g,h,a,hs,hm=>by
  simp only[Aig]at h;split at h
  ·rename_i σ1 h1;have h2 :=by
    unfold mvP at h1;split at h1
    ·exact zK h1 hs hm
    ·rename_i a0 ya;exact Aih ya h1 hs hm
    ·grind
   obtain⟨g1,Sx,SA,UO⟩:=h2;obtain⟨g2,ak,Qw,Tm⟩:=AbE h Sx UO;exact⟨g2,ak,SA.trans Qw,Tm⟩
  ·grind
theorem dL:∀{l:ATU (Nat×Bool×Ty)} {σ σ':St} {g:G},rG m l σ=some σ'->∀{a:Act},LJ w g σ a->m<=σ.Aj.length->∃g',LJ w g' σ' a/\BK m w g w g'/\m<=σ'.Aj.length
 |[],σ,σ',g,h,a,hs,hm=>by
  simp only[rG,AQh]at h;subst h;exact⟨g,hs,BK.refl _ _ _,hm⟩
 |(s,false,t)::r,σ,σ',g,h,a,hs,hm=>by
  simp only[rG]at h;split at h
  ·exact dL h hs hm
  ·rename_i v _ hv;split at h
   ·rename_i v' HT hf;obtain⟨g1,H1,hl,SA,ha,jm,_,_⟩:=rH hs.heap hf;have Sx:LJ w g1 ⟨(σ.AU.map AV.cQ).set s v',HT⟩ a:=by
     refine⟨H1,by simpa using hs.len,λi x hx=>?_⟩;simp only[hl];rw[AQE]at hx;split at hx
     ·rename_i e;subst e;split at hx
      ·injection hx with hx;subst hx;exact jm _ (hs.AU s v hv)
      ·grind
     ·rw[AQI]at hx;cases hq:σ.AU[i]? with
      |none=>grind
      |some y =>
       rw[hq]at hx;injection hx with hx;subst hx;exact ha _ _ (hs.AU i y hq)
    obtain⟨g2,ak,Qw,Tm⟩:=dL h Sx (by grind);exact⟨g2,ak,SA.trans Qw,Tm⟩
   ·grind
  ·grind
 |(s,true,t)::r,σ,σ',g,h,a,hs,hm=>by
  simp only[rG]at h;split at h
  ·rename_i k _ _ _ hv;split at h
   ·rename_i a0 hb;split at h
    ·rename_i a' HT hf;obtain⟨g1,H1,hl,SA,ha,jm,Vv,k9⟩:=rH hs.heap hf;split at h
     ·rename_i a1 iK;have Sx:LJ w g1 ⟨σ.AU.map AV.cQ,HT.set k (.box a')⟩ a:=by
       refine⟨⟨H1.B3,λj x hj=>?_⟩,by simpa using hs.len,λi x hx=>?_⟩
       ·rw[AQo];rw[AQE]at hj;split at hj
        ·rename_i e;subst e;split at hj
         ·injection hj with hj;subst hj;obtain⟨p1,b,cs,e,ha1,ho,hh,hx⟩:=H1.MR k _ iK;obtain⟨q1,b2,cs2,e2,ha2,x9,hh2,yd⟩:=hs.heap.MR k _ hb;rw[Vv,ha2]at ha1;injection ha1 with ha1;injection ha1 with ha1;subst ha1;rw[hh2]at hh;injection hh with hh;injection hh with hh;exact⟨p1,b2,cs2,e2,by grind,ho,hh2,by grind⟩
         ·grind
        ·exact H1.MR j x hj
       ·simp only[AQo,hl];rw[AQI]at hx;cases hq:σ.AU[i]? with
        |none=>grind
        |some y =>
         rw[hq]at hx;injection hx with hx;subst hx;exact ha _ _ (hs.AU i y hq)
      obtain⟨g2,ak,Qw,Tm⟩:=dL h Sx (by grind);exact⟨g2,ak,SA.trans Qw,Tm⟩
     ·grind
    ·grind
   ·grind
  ·exact dL h hs hm
theorem Aat{ks:ATU Nat}{n:Nat}(hk:∀j∈ks,j<n):∀{a:AV} {cs:ATU Value},CK w g n false a cs->CK w g n false (a.wid ks) cs
 |.AB l t x,cs,h=>by
  unfold AV.wid;split
  ·rename_i hc;have Y2:∀j∈l,j∈ks:=λj hj=>by grind
   exact⟨hk,h.2.mono λb a=>⟨a.mono Y2,rfl⟩⟩
  ·grind
 |.pr _ _,_,⟨c,d,e,h1,h2⟩=>⟨c,d,e,Aat hk h1,Aat hk h2⟩
 |.zs,_,h=>h
 |.AG _,_,h=>h
 |.ptr _ _ _ _,_,h=>h
 |.FZ _ _ _,_,h=>h
 |.KQ,_,h=>h
 |.Vh _ _ _ _ _,_,h=>h
 |.Xc _ _ _ _ _ _,_,h=>h
 |.mp _,_,h=>h
 |.fn _ _,_,h=>h
 |.un _,_,h=>h
 |.cons _ _,_,h=>h.elim
 |.nil,_,h=>h.elim
theorem tv:∀{l:ATU (Nat×ATU Nat)} {bs HT:ATU Blk},tu l bs=some HT->Bi w g bs->Bi w g HT/\HT.length=bs.length
 |[],bs,HT,h,H=>by
  simp only[tu,AQh]at h;subst h;exact⟨H,rfl⟩
 |(k,ks)::r,bs,HT,h,H=>by
  simp only[tu]at h;split at h
  ·rename_i e l t xs hb;split at h
   ·rename_i hc;rw[AQm]at hc;have Y2:∀j∈l,j∈ks:=λj hj=>by grind
    have Bp:∀j∈ks,j<bs.length:=λj hj=>by grind
    have H1:Bi w g (bs.set k (.row e (.sh ks) t xs)):=by
     refine⟨H.B3,λj x hx=>?_⟩;rw[AQo];rw[AQE]at hx;split at hx
     ·rename_i ek;subst ek;split at hx
      ·injection hx with hx;subst hx;obtain⟨Sl,hlen,QT,BX,hr⟩:=H.MR k _ hb;refine⟨Bp,hlen,QT,BX,hr.imp id λ⟨b,BA,ds,ha,ho,hh,h1,h2,h3,h4,hc⟩=>⟨b,BA,ds,ha,ho,hh,h1,h2,h3,h4,?_⟩⟩;exact hc.mono λx c r=>r.mono λb a=>⟨a.mono Y2,rfl⟩
      ·grind
     ·exact H.MR j x hx
    obtain⟨H2,hl⟩:=tv h H1
    grind
   ·grind
  ·rename_i a hb;split at h
   ·rename_i hc;have Bp:∀j∈ks,j<bs.length:=λj hj=>by grind
    have H1:Bi w g (bs.set k (.box (a.wid ks))):=by
     refine⟨H.B3,λj x hx=>?_⟩;rw[AQo];rw[AQE]at hx;split at hx
     ·rename_i ek;subst ek;split at hx
      ·injection hx with hx;subst hx;obtain⟨hlen,b,cs,e,ha,ho,hh,hr⟩:=H.MR k _ hb;exact⟨hlen,b,cs,e,ha,ho,hh,Aat Bp hr⟩
      ·grind
     ·exact H.MR j x hx
    obtain⟨H2,hl⟩:=tv h H1
    grind
   ·grind
  ·grind
theorem Ye{h:SH}{σ σ':St}(hh:σ.head h m=some σ'){a:Act}(hs:LJ w g σ a)(hm:m<=σ.Aj.length):∃g',LJ w g' σ' a/\BK m w g w g'/\m<=σ'.Aj.length:=by
 unfold St.head at hh;split at hh
 ·grind
 ·rename_i σ0 h0;rw[AQ5]at h0;obtain⟨σz,hz,h0⟩:=h0;rw[AQ5]at hz;obtain⟨σy,hy,hz⟩:=hz;obtain⟨gy,hsy,sty,hmy⟩:=sA hy hs hm;obtain⟨gz,NC,AK7,hmz⟩:=AbE hz hsy hmy;have stz:=sty.trans AK7;obtain⟨g0,ya,st0,zw⟩:=dL h0 NC hmz;split at hh
  ·grind
  ·rename_i σ1 h1;obtain⟨g1,Sx,SA,UO⟩:=kq h1 ya zw;split at hh
   ·grind
   ·rename_i σ2 h2;obtain⟨g2,ak,Qw,Tm⟩:=Amw h2 Sx;split at hh
    ·grind
    ·rename_i bs h3;obtain⟨H3,hl⟩:=tv h3 ak.heap;have vQ:LJ w g2 ⟨σ2.AU,bs⟩ a:=⟨H3,ak.len,λi x hx=>by simp only[hl];exact ak.AU i x hx⟩;obtain⟨g3,hs4,st3,hm3⟩:=kq hh vQ (by simp only[hl];exact Tm);exact⟨g3,hs4,(((stz.trans st0).trans SA).trans Qw).trans st3,hm3⟩
end
theorem AlI{σ σ':St}{s:Nat}{b:Bool}{c:Co}(h:coS σ s b c=some σ'):σ.Aj.length<=σ'.Aj.length:=by
 unfold coS at h;split at h
 ·grind
 grind
theorem oF:∀{l:ATU (Nat×Bool×Co)} {σ σ':St},di l σ=some σ'->σ.Aj.length<=σ'.Aj.length
 |[],σ,σ',h=>by
  simp only[di,AQh]at h;subst h;exact AQl _
 |(s,b,c)::r,σ,σ',h=>by
  simp only[di]at h;split at h
  ·rename_i σ1 h1;exact AQJ (AlI h1) (oF h)
  ·grind
theorem mF:∀{l:ATU (Nat×ATU Nat)} {bs HT:ATU Blk},tu l bs=some HT->HT.length=bs.length
 |[],bs,HT,h=>by
  simp only[tu,AQh]at h;subst h;rfl
 |(k,ks)::r,bs,HT,h=>by
  simp only[tu]at h;split at h
  ·split at h
   ·rw[mF h,AQo]
   ·grind
  ·split at h
   ·rw[mF h,AQo]
   ·grind
  ·grind
theorem XE{h:SH}{m:Nat}{σ σ':St}(hh:σ.head h m=some σ'):m<=σ'.Aj.length:=by
 unfold St.head at hh;split at hh
 ·grind
 ·split at hh
  ·grind
  ·split at hh
   ·grind
   ·rename_i σ2 h2;split at hh
    ·grind
    ·rename_i bs h3;refine AQJ ?_ (oF hh);simp only[mF h3];unfold St.AA at h2
     dsimp only at h2
     split at h2
     ·rename_i hp;injection h2 with h2;subst h2;have:=(Aiw (Vz hp).1).1;simpa using this
     ·grind
def rr:Ex->Exit
 |.normal=>.normal
 |.exit n=>.exit n
 |.ret=>.ret
theorem Ad7{P:Program}{Q:Exit->Act->World->Prop}{c:Code}(R:Nat->Act->World->Prop)(round:∀n a w,R n a w->c.wp P (Exit.then (λa' w'=>∃k,k<n/\R k a' w') Q) a w){n:Nat}{a:Act}{w:World}(h0:R n a w):(Code.loop c).wp P Q a w:=by
 intro b k cs;have key:∀n a w,R n a w->∃e a' w',Q e a' w'/\Arrives P (lone (b.at a (.code c::.inLoop c::k)) cs w) b k cs e a' w':=by
  intro n;induction n using Nat.strongRecOn with
  |_ n ih =>
   intro a w hI;obtain⟨e,a₁,w₁,hq,nD⟩:=round n a w hI b _ cs;cases e with
   |normal =>
    obtain⟨j,Bp,hI₁⟩:=hq;obtain⟨e₂,a₂,w₂,hq₂,AF6⟩:=ih j Bp a₁ w₁ hI₁;exact⟨e₂,a₂,w₂,hq₂,.of_steps (Steps.trans nD (.one step_inLoop)) AF6⟩
   |exit id=>exact⟨_,a₁,w₁,hq,.pass  rfl (λ_ _=>.inl (by simp)) nD⟩
   |goto l=>exact⟨_,a₁,w₁,hq,.pass  rfl (λ_ _=>.inl (by simp)) nD⟩
   |ret=>exact⟨_,a₁,w₁,hq,.pass  rfl (λ_ _=>.inl (by simp)) nD⟩
   |panic ch=>exact⟨_,a₁,w₁,hq,.pass  rfl (λ_ _=>.inl (by simp)) nD⟩
   |outgrown=>exact⟨_,a₁,w₁,hq,.pass  rfl (λ_ _=>.inl (by simp)) nD⟩
 obtain⟨e,a',w',hq,nD⟩:=key n a w h0;exact⟨e,a',w',hq,.of_steps (.one step_loop) nD⟩
inductive ToN {S T:Type} (f:S->Option (S⊕T)):Nat->S->T->Prop
 |done {s:S} {t:T} (h:f s=some (.inr t)):ToN f 0 s t
 |fZ {s s':S} {t:T} {n:Nat} (h:f s=some (.inl s')) (k:ToN f n s' t):ToN f (n+1) s t
theorem To.n{S T:Type}{f:S->ATV (S⊕T)}{s:S}{t:T}(h:To f s t):∃n,ToN f n s t:=by
 induction h with
 |done h=>exact⟨0,.done h⟩
 |fZ h _ ih=>obtain⟨n,hn⟩:=ih;exact⟨n+1,.fZ h hn⟩
structure JM (P:Program) (en:G5):Prop extends EnvOk P en where
 mixed:P.follows .mixedOrders=true
section
variable {P:Program} {en:G5} {m:Nat}
abbrev Sz(e:Ex)(σ:St):Option (Ex×St):=some (e,σ)
theorem Aas{c:Code}(hn:∀(R:Type) (σ:St) (K:Ex->St->ATV R),ev en m c R σ K=(ev en m c (Ex×St) σ Sz).bind λp=>K p.1 p.2){R T:Type}{σ:St}{K:Ex->St->ATV R}{K':Ex->St->ATV T}{k:T->ATV R}
    (h:∀e s,K e s=(K' e s).bind k):ev en m c R σ K=(ev en m c T σ K').bind k:=by
 grind
theorem Amy(he:aN en){all:ATU Oper}{is:ATU Nat}{σ:St}{R T:Type}{K:St->ATV R}{K':St->ATV T}{k:T->ATV R}(h:∀s,K s=(K' s).bind k):Sr en all is σ K=(Sr en all is σ K').bind k:=by
 rw[Vu he all is σ K,Vu he all is σ K'];cases Sr en all is σ some with
 |none=>rfl
 |some p=>grind
theorem AkE(he:aN en){all:ATU Oper}{A:ATU (Nat×ATU Nat)}{is done O2:ATU Nat}{σ:St}{R T:Type}{K:St->ATV R}{K':St->ATV T}{k:T->ATV R}(h:∀s,K s=(K' s).bind k):VG en all A is done O2 σ K=(VG en all A is done O2 σ K').bind k:=by
 rw[Vt he all A is done O2 σ K,Vt he all A is done O2 σ K'];cases VG en all A is done O2 σ some with
 |none=>rfl
 |some p=>grind
theorem X9(he:aN en):∀(c:Code) (R:Type) (σ:St) (K:Ex->St->ATV R),ev en m c R σ K=(ev en m c (Ex×St) σ Sz).bind λp=>K p.1 p.2
 |.skip,_,_,_=>rfl
 |.ret,_,_,_=>rfl
 |.exit _,_,_,_=>rfl
 |.seq a b,R,σ,K=>by
  simp only[ev];split
  ·refine Aas (X9 he a) λe s=>?_;cases e with
   |normal=>exact X9 he b R s K
   |exit n=>rfl
   |ret=>rfl
  ·rw[AQw];congr 1
   funext s0
   rw[AQw];congr 1
   funext ⟨e,s⟩
   cases e with
   |normal=>exact X9 he b R s K
   |exit n=>rfl
   |ret=>rfl
 |.cond c a b,R,σ,K=>by
  simp only[ev];split
  ·rename_i t _;cases t
   ·exact X9 he b R σ K
   ·exact X9 he a R σ K
  ·rfl
 |.block n a,R,σ,K=>by
  refine Aas (X9 he a) λe s=>?_
  grind
 |.region _ Ca false,R,σ,K=>by
  exact Amy he λs=>rfl
 |.region _ Ca true,R,σ,K=>by
  simp only[ev];split
  ·rw[AQw];congr 1
   funext s0
   generalize AmD en m _ Ca s0=x;cases x<;>rfl
  ·split
   ·exact AkE he λs=>rfl
   ·rfl
 |.loop body,R,σ,K=>by
  simp only[ev];split
  ·split
   ·rfl
   ·generalize fix _ _=x;cases x<;>rfl
  ·rfl
 |.goto _,_,_,_=>rfl
 |.label _,_,_,_=>rfl
 |.rangeFunc ..,_,_,_=>rfl
 |.scope _,_,_,_=>rfl
 |.refuse _,_,_,_=>rfl
theorem Yq(he:aN en){h ho:SH}{body:Code}{s:St}{r:St⊕(Ex×St)}(hh:pZ en m h ho body s=some r):∃e s',ev en m body (Ex×St) s Sz=some (e,s') /\
    ((e=.normal/\∃aD,s'.head h m=some aD/\r=.inl aD)\/(e≠.normal/\∃aD,s'.head ho m=some aD/\r=.inr (e,aD))):=by
 unfold pZ at hh;rw[X9 he]at hh;cases hx:ev en m body _ s _ with
 |none=>grind
 |some p =>
  obtain⟨e,s'⟩:=p;rw[hx]at hh;simp only[AQf]at hh;refine⟨e,s',rfl,?_⟩;cases e with
  |normal =>
   cases hn:s'.head h m with
   |none=>grind
   |some aD=>grind
  |exit n =>
   cases hn:s'.head ho m with
   |none=>grind
   |some aD=>grind
  |ret =>
   cases hn:s'.head ho m with
   |none=>grind
   |some aD=>grind
end
end Go.Va
namespace Go.Va
theorem V3{σ τ:St}{l:ATU Operand}(h:∀x∈l,σ.Cp x=τ.Cp x):l.map σ.Cp=l.map τ.Cp:=AQ4 h
theorem ZH{σ τ:St}{l:ATU (Nat×Operand)}(h:∀x∈l.map (·.2),σ.Cp x=τ.Cp x):l.map (λp=>(p.1,σ.Cp p.2))=l.map (λp=>(p.1,τ.Cp p.2)) :=
 AQ4 λp hp=>by rw[h p.2 (List.mem_map.2 ⟨p,hp,rfl⟩)]
theorem Zo{R:Type}{en:G5}{σ τ:St}{o:Oper}{K:Ih->ATV R}(hb:σ.Aj=τ.Aj)(h:∀x∈o.op.operands,σ.Cp x=τ.Cp x):Ss en σ o K=Ss en τ o K:=by
 obtain⟨dst,op,type,pos,after,guard⟩:=o;unfold Ss
 dsimp only at h⊢
 rw[hb];cases op<;>simp only[Op.operands]at h<;>dsimp only
 case build t ps=>rw[ZH (l:=ps.toList) λx hx=>h x (by simpa using hx)]
 case buildSlice t n ps=>rw[ZH (l:=ps.toList) λx hx=>h x (by simpa using hx)]
 case makeFunc fn first captured =>
  rw[V3 (l:=captured.toList) λx hx=>h x (by simp[Array.mem_toList_iff.1 hx])]
 case call c =>
  have ha:Qr σ c.args=Qr τ c.args:=V3 λx hx=>h x (by simp[Call.operands,Array.mem_toList_iff.1 hx]);unfold XB;rw[ha,hb];cases hc:c.callee with
  |value f =>
   have hf:σ.Cp f=τ.Cp f:=h f (by simp[Call.operands,hc]);simp only[hf]
  |builtin b=>cases b<;>rfl
  |invoke r n=>rfl
 case slice t x lo hi mx =>
  have hx:σ.Cp x=τ.Cp x:=h x (by simp);have hlo:lo.map σ.Cp=lo.map τ.Cp:=by cases lo with |none=>rfl |some y=>simp[h y (by simp)]
  have hhi:hi.map σ.Cp=hi.map τ.Cp:=by cases hi with |none=>rfl |some y=>simp[h y (by simp)]
  have vK:mx.map σ.Cp=mx.map τ.Cp:=by cases mx with |none=>rfl |some y=>simp[h y (by simp)]
  rw[hx,hlo,hhi,vK]
 all_goals (first |rfl |(simp_all;done))
theorem Zn{R:Type}{en:G5}{σ τ:St}{o:Oper}{K:Ih->ATV R}(hb:σ.Aj=τ.Aj)(h:∀x∈o.op.operands,σ.Cp x=τ.Cp x):WB en σ o K=WB en τ o K:=by
 have ha:jW en σ o=jW en τ o:=by
  obtain⟨dst,op,type,pos,after,guard⟩:=o;unfold jW;cases op<;>simp only[Op.operands]at h<;>dsimp only
  case load t x=>rw[h x (by simp),hb]
  case build t ps=>rw[ZH (l:=ps.toList) λx hx=>h x (by simpa using hx)]
  case index t x i=>rw[h x (by simp),h i (by simp)]
  case field t x f=>rw[h x (by simp)]
  case indexAddr t x i=>rw[h x (by simp),h i (by simp)]
  case call c =>
   have ha:Qr σ c.args=Qr τ c.args:=V3 λx hx=>h x (by simp[Call.operands,Array.mem_toList_iff.1 hx]);rw[ha]
 have hs:wY en σ o=wY en τ o:=by
  obtain⟨dst,op,type,pos,after,guard⟩:=o;unfold wY Adv;cases op<;>simp only[Op.operands]at h<;>dsimp only
  case store t x v=>rw[h x (by simp),h v (by simp),hb]
 have ht:tlE en σ o=tlE en τ o:=by
  obtain⟨dst,op,type,pos,after,guard⟩:=o;unfold tlE;cases op<;>simp only[Op.operands]at h<;>dsimp only
  case slice t x lo hi mx =>
   cases lo with
   |none=>rfl
   |some lo=>cases hi with
    |some _=>rfl
    |none=>cases mx with
     |some _=>rfl
     |none=>dsimp only;rw[h x (by simp),h lo (by simp),hb]
  case indexAddr t x i=>rw[h x (by simp),h i (by simp),hb]
  case call c =>
   have ha:Qr σ c.args=Qr τ c.args:=V3 λx hx=>h x (by simp[Call.operands,Array.mem_toList_iff.1 hx]);rw[ha,hb]
 unfold WB;rw[ha,hs,ht,hb];split
 ·rfl
 split
 ·rfl
 split
 ·rfl
 ·split
  ·have hd:kF en o=kF en o:=rfl;cases kF en o
   ·exact Zo hb h
   ·simp only[AQv];rw[show τ.Aj=σ.Aj from hb.symm];exact Zo hb h
  ·exact Zo hb h
theorem zi{R:Type}{en:G5}{σ τ:St}{o:Oper}{K:Ih->ATV R}(hb:σ.Aj=τ.Aj)(h:∀x∈o.op.operands,σ.Cp x=τ.Cp x):exec en σ o K=exec en τ o K:=by
 unfold exec;split
 ·rename_i c d ho _;have ha:Qr σ c.args=Qr τ c.args:=V3 λx hx=>h x (by rw[ho];simp[Op.operands,Call.operands,Array.mem_toList_iff.1 hx]);rw[ha,hb];split
  ·split
   ·exact Zn rfl h
   ·rfl
  ·exact Zn hb h
 ·exact Zn hb h
theorem NG:∀a:AV,a.O0 id=a
 |.AB ks t x=>by simp[AV.O0]
 |.FZ ks t x=>by simp[AV.O0]
 |.AG k=>rfl
 |.mp k=>rfl
 |.ptr k i p o=>rfl
 |.Vh _ _ _ _ _=>rfl
 |.Xc _ _ _ _ _ _=>rfl
 |.pr a b=>by simp[AV.O0,NG a,NG b]
 |.fn g c=>by simp[AV.O0,NG c]
 |.cons a b=>by simp[AV.O0,NG a,NG b]
 |.zs=>rfl
 |.KQ=>rfl
 |.nil=>rfl
 |.un n=>rfl
theorem bR(b:Blk):b.O0 id=b:=by
 cases b with
 |Bd=>rfl
 |map m kt vt es st=>cases m<;>simp[Blk.O0,RM.O0]
 |Sm e t xs i p=>rfl
 |tail e t xs=>rfl
 |box a=>simp[Blk.O0,NG]
 |row e m t xs=>cases m<;>simp[Blk.O0,RM.O0]
def X4(bs:ATU Blk):Prop:=∀(k:Nat) (x:Blk),bs[k]?=some x->∀j∈x.Ck,j<bs.length
theorem Aft{w:World}{g:G}{n k:Nat}{x:Blk}(h:ND w g n k x):∀j∈x.Ck,j<n:=by
 cases x with
 |Bd=>intro j hj;cases hj
 |map m kt vt es st=>exact h.1
 |Sm e t xs i p=>intro j hj;cases hj
 |tail e t xs=>intro j hj;cases hj
 |box a=>obtain⟨_,_,_,_,_,_,_,hx⟩:=h;exact CK.UQ a false hx
 |row e m t xs=>exact h.1
theorem Bi.scp{w:World}{g:G}{bs:ATU Blk}(H:Bi w g bs):X4 bs:=λk x hx=>Aft (H.MR k x hx)
def G.cut(g:G)(n:Nat):G:=⟨λb=>match g.own b with |.BQ k r=>if k<n then .BQ k r else .no |t=>t,g.A2⟩
def G.dM(g g':G)(n:Nat):G:=⟨λb=>match g.own b with |.BQ k r=>if k<n then g'.own b else .BQ k r |_=>g'.own b,λk=>if k<n then g'.A2 k else g.A2 k⟩
section
variable {P:Program} {o:Oper} {e:Ih}
theorem jg{g:G}{n k:Nat}(hk:k<n):Ren id g (g.cut n) n k:=⟨hk,rfl,λb r h=>by simp[G.cut,h,hk]⟩
theorem AdT{σ:St}(Q3:OL P σ o e)(hm:e.BF=[]){l l':ATU Blk}(zt:e.Aj=σ.Aj++l')(hor:l=[]\/l'=[]){w:World}{g:G}{a:Act}(H:Bi w g (σ.Aj++l))(hsc:X4 σ.Aj)(hlen:σ.AU.length=a.tmps.size)
    (Jk:∀(i:Nat) (x:AV),σ.AU[i]?=some x->B6 w g (σ.Aj++l).length x (a.tmps.getD i undef)/\∀k∈x.Ck,k<σ.Aj.length) {next:Act->World->Prop} {Q:Exit->Act->World->Prop}
    (hn:∀v w' g',Bi w' g' (σ.Aj++(l++l'))->B6 w' g' (σ.Aj++(l++l')).length e.val v->(∀k∈e.val.Ck,k<e.Aj.length)->Step [] (σ.Aj++l).length w g w' g'->next (a.put o.dst v) w'):o.wp P a w next Q:=by
 rcases hor with rfl |rfl
 ·simp only[AQU,ARz]at H Jk hn;refine Q3.wp a w g ⟨H,hlen,λi x hx=>(Jk i x hx).1⟩ next Q λv w' g' H' hv BS=>?_
  rw[hm]at BS;rw[zt]at H' hv;exact hn v w' g' H' hv (by rw[zt];exact hv.UQ) BS
 ·simp only[AQU]at zt hn
  let n:=σ.Aj.length
  have hnl:n<=(σ.Aj++l).length:=by simp[n]
  have Zw:∀k,k<n->Ren id g (g.cut n) n k:=λk hk=>jg hk;have kW:∀b,g.own b=.Jl->(g.cut n).own b=.Jl:=λb h=>by simp[G.cut,h]
  have Hr:Bi w (g.cut n) σ.Aj:=by
   refine⟨λb hb=>by simp[G.cut,H.B3 b hb],λk x hx=>?_⟩;have hk:=A4 hx;have h1:=H.MR k x (by rw[AQC hk];exact hx);have:=h1.O0 (φ:=id) kW (Zw k hk) λj hj=>Zw j (hsc k x hx j hj);rwa [bR]at this
  refine Q3.wp a w (g.cut n) ⟨Hr,hlen,λi x hx=>?_⟩ next Q λv w' g' H' hv BS=>?_
  ·obtain⟨h1,h2⟩:=Jk i x hx;have:=h1.O0 (φ:=id) (g':=g.cut n) (n':=n) kW λk hk=>Zw k (h2 k hk);rwa [NG]at this
  ·rw[hm]at BS;rw[zt]at H' hv;have Al2:∀b,g.own b≠.no->b<w.heap.size:=λb h=>VP H h;have rJ:∀b k r,g.own b=.BQ k r->¬k<n->g'.own b=.no/\w'.heap[b]?=w.heap[b]?:=λb k r h hk=>BS.no b (Al2 b (by rw[h];simp)) (by simp[G.cut,h,hk]);have st:Step [] (σ.Aj++l).length w g w' (g.dM g' n):=by
    refine⟨BS.os,BS.tape,BS.output,BS.size,λb hb h=>?_,λb h=>?_,λb k r h hk hm=>?_,λk hk=>?_⟩
    ·have:=BS.no b hb (by simp[G.cut,h]);exact⟨by simp[G.dM,h,this.1],this.2⟩
    ·have:=BS.Jl b (kW b h);exact⟨by simp[G.dM,h,this.1],this.2⟩
    ·by_cases gM:k<n
     ·have:=BS.BQ b k r (by simp[G.cut,h,gM]) gM (by simp);exact⟨by simp[G.dM,h,gM,this.1],this.2⟩
     ·exact⟨by simp[G.dM,h,gM],(rJ b k r h gM).2⟩
    ·by_cases gM:k<n
     ·have:=BS.A2 k gM;simp only[G.dM,AQx gM,this];rfl
     ·simp[G.dM,gM]
   have Ahh:∀k,k<n->Ren id g' (g.dM g' n) (σ.Aj++l).length k:=λk hk=>by
    refine⟨by show k<_;omega,by simp[G.dM,hk],λb r h=>?_⟩;simp only[G.dM,id];split
    ·rename_i k' r' hg;split
     ·exact h
     ·rename_i X0;rw[(rJ b k' r' hg X0).1]at h;cases h
    ·exact h
   have AnR:∀b,g'.own b=.Jl->(g.dM g' n).own b=.Jl:=λb h=>by
    simp only[G.dM];split
    ·rename_i k' r' hg;split
     ·exact h
     ·rename_i X0;rw[(rJ b k' r' hg X0).1]at h;cases h
    ·exact h
   refine hn v w' (g.dM g' n) ⟨λb hb=>?_,λk x hx=>?_⟩ ?_ (by rw[zt];exact hv.UQ) st
   ·have h1:=H'.B3 b hb;have h2:=H.B3 b (AQJ BS.size hb);simp[G.dM,h2,h1]
   ·by_cases hk:k<n
    ·rw[AQC hk]at hx;have:=(H'.MR k x hx).O0 (φ:=id) AnR (Ahh k hk) λj hj=>Ahh j (hsc k x hx j hj);rwa [bR]at this
    ·exact(H.MR k x hx).Sb st (AQl _) (A4 hx)
   ·have:=hv.O0 (φ:=id) AnR λk hk=>Ahh k (hv.UQ k hk);rwa [NG]at this
end
end Go.Va
namespace Go.Va
theorem lD:∀(r l:ATU Nat) {x:Nat},x∈iP l r->x∈l\/x∈r
 |[],_,_,h=>.inl h
 |k::r,l,x,h=>by
  simp only[iP]at h;split at h
  ·rcases lD r l h with h |h
   ·exact .inl h
   ·exact .inr (by simp[h])
  ·rcases lD r _ h with h |h
   ·rcases List.mem_append.1 h with h |h
    ·exact .inl h
    ·simp at h;exact .inr (by simp[h])
   ·exact .inr (by simp[h])
def oo(all:ATU Oper)(A:ATU (Nat×ATU Nat)):Prop:=∀i x,x∈Es A i->x∈VD all i\/∃d∈VD all i,x∈Es A d
theorem ow(all:ATU Oper):∀(is:ATU Nat) (A:ATU (Nat×ATU Nat)),oo all A->nodup is=true->(∀i∈is,∀p∈A,p.1≠i)->oo all (Zd all is A)
 |[],_,h,_,_=>h
 |i::is,A,h,hn,hf=>by
  simp only[nodup,AQm,ARC]at hn;refine ow all is _ ?_ hn.2 ?_
  ·have Adf:∀d y,y∈Es A d->y∈Es ((i,iP [] (VD all i++(VD all i).flatMap (Es A)))::A) d:=by
     intro d y hy;simp only[Es];split
     ·rename_i he;have he:i=d:=by simpa using he
      subst he;have:∀(A:ATU (Nat×ATU Nat)),(∀p∈A,p.1≠i)->Es A i=[]:=by
       intro A;induction A with
       |nil=>exact λ_=>rfl
       |cons p A ih =>
        intro hp;obtain⟨k,l⟩:=p;simp only[Es];rw[AQy (by simpa using hp (k,l) (by simp))];exact ih λq hq=>hp q (by simp[hq])
      rw[this A (hf i (by simp))]at hy;cases hy
     ·exact hy
   intro j x hx;by_cases he:i=j
   ·subst he;simp only[Es,ASo,AQ2]at hx;rcases lD _ _ hx with hx |hx
    ·cases hx
    ·rcases List.mem_append.1 hx with hx |hx
     ·exact .inl hx
     ·obtain⟨d,hd,hx⟩:=List.mem_flatMap.1 hx;exact .inr ⟨d,hd,Adf d x hx⟩
   ·simp only[Es]at hx;rw[AQy (by simpa using he)]at hx;rcases h j x hx with h |⟨d,hd,hx⟩
    ·exact .inl h
    ·exact .inr ⟨d,hd,Adf d x hx⟩
  ·intro j hj p hp;rcases List.mem_cons.1 hp with rfl |hp
   ·intro e;have e:i=j:=e;subst e;have:=hn.1;simp[hj]at this
   ·exact hf j (by simp[hj]) p hp
def jH(A:ATU (Nat×ATU Nat))(D:Nat->Bool):Prop:=∀i,D i=true->∀x∈Es A i,D x=true
theorem pT{all:ATU Oper}{A:ATU (Nat×ATU Nat)}(hA:oo all A){D:Nat->Bool}(hc:jH A D){i:Nat}(hd:∀d∈VD all i,D d=true):∀x∈Es A i,D x=true:=λx hx=>by
 rcases hA i x hx with h |⟨d,hdi,h⟩
 ·exact hd x h
 ·exact hc d (hd d hdi) x h
structure Jo where
 i:Nat
 o:Oper
 σ:St
 e:Option Ih
def Jo.val(t:Jo):AV:=match t.e with |some e=>e.val |none=>.nil
def Jo.post(t:Jo):St:=match t.e with |some e=>t.σ.after t.o.dst e |none=>t.σ.skip t.o.dst
def Jo.nh(t:Jo):Bool:=match t.e with |some e=>!e.BF.isEmpty |none=>false
def Jo.grow(t:Jo):Bool:=match t.e with |some e=>e.BF.isEmpty&&decide (e.Aj.length≠t.σ.Aj.length)|none=>false
def Jo.Ok(en:G5)(all:ATU Oper)(t:Jo):Prop:=all[t.i]?=some t.o/\match t.e with |some e=>Want all t.σ t.o true/\exec en t.σ t.o some=some e |none=>Want all t.σ t.o false
inductive Tr (en:G5) (all:List Oper) (A:List (Nat×List Nat)):List Nat->List Nat->St->List Jo->St->Prop
 |nil {done O2:List Nat} {σ:St}:Tr en all A done O2 σ [] σ
 |cons {done O2:List Nat} {σ σ':St} {t:Jo} {ts:List Jo} (hσ:t.σ=σ) (ok:t.Ok en all) (ha:∀x∈O2,x∈Es A t.i) (hb:t.nh=true->∀x∈done,x∈Es A t.i)
     (next:Tr en all A (t.i::done) (if t.nh||t.grow then t.i::O2 else O2) t.post ts σ'):Tr en all A done O2 σ (t::ts) σ'
section
variable {en:G5} {all:ATU Oper} {A:ATU (Nat×ATU Nat)}
theorem dF(he:aN en):∀{is done O2:ATU Nat} {σ σ':St},VG en all A is done O2 σ some=some σ'->∃ts:ATU Jo,ts.map (·.i)=is/\Tr en all A done O2 σ ts σ'
 |[],done,O2,σ,σ',h=>by
  simp only[VG,AQh]at h;subst h;exact⟨[],rfl,.nil⟩
 |i::is,done,O2,σ,σ',h=>by
  simp only[VG]at h;split at h
  ·cases h
  ·rename_i o ho;split at h
   ·rename_i AJL;have Ahf:∀x∈O2,x∈Es A i:=λx hx=>by have:=List.all_eq_true.1 AJL x hx;simpa using this
    rcases QB h with ⟨hw,h⟩|⟨hw,h⟩
    ·rw[TK en he]at h;cases hx:exec en σ o some with
     |none=>rw[hx]at h;cases h
     |some e =>
      rw[hx]at h;simp only[AQf]at h;split at h
      ·rename_i hm;obtain⟨ts,h1,h2⟩:=dF he h;refine⟨⟨i,o,σ,some e⟩::ts,by simp[h1],.cons rfl ⟨ho,hw,hx⟩ Ahf (λhb=>?_) ?_⟩
       ·simp[Jo.nh,hm]at hb
       ·simp only[Jo.nh,Jo.grow,hm,AQZ,ASq,ARU,Jo.post];by_cases hl:e.Aj.length=σ.Aj.length
        ·simpa [hl]using h2
        ·simpa [hl]using h2
      ·rename_i hm;split at h
       ·rename_i gL;obtain⟨ts,h1,h2⟩:=dF he h;refine⟨⟨i,o,σ,some e⟩::ts,by simp[h1],.cons rfl ⟨ho,hw,hx⟩ Ahf (λhb x hx=>?_) ?_⟩
        ·have:=List.all_eq_true.1 gL x hx;simpa using this
        ·simp only[Jo.nh,Jo.post];have hm':e.BF.isEmpty=false:=by simpa using hm
         simpa [hm']using h2
       ·cases h
    ·obtain⟨ts,h1,h2⟩:=dF he h;refine⟨⟨i,o,σ,none⟩::ts,by simp[h1],.cons rfl ⟨ho,hw⟩ Ahf (λhb=>by cases hb) ?_⟩;simpa [Jo.nh,Jo.grow,Jo.post]using h2
   ·cases h
theorem Tr.Afh:∀{ts:ATU Jo} {done O2:ATU Nat} {σ σ':St},Tr en all A done O2 σ ts σ'->∀x∈O2,∀u∈ts,x∈Es A u.i
 |[],_,_,_,_,_,_,_,_,hu=>by cases hu
 |t::ts,_,_,_,_,.cons _ _ ha _ next,x,hx,u,hu=>by
  rcases List.mem_cons.1 hu with rfl |hu
  ·exact ha x hx
  ·exact next.Afh x (by split<;>simp[hx]) u hu
theorem Tr.bD:∀{Cg post:ATU Jo} {t:Jo} {done O2:ATU Nat} {σ σ':St},Tr en all A done O2 σ (Cg++t::post) σ' ->
    ((t.nh||t.grow)=true->∀u∈post,t.i∈Es A u.i)/\(t.nh=true->(∀x∈done,x∈Es A t.i)/\∀u∈Cg,u.i∈Es A t.i)
 |[],post,t,done,O2,σ,σ',.cons hσ ok ha hb next=>by
  refine⟨λh u hu=>next.Afh t.i (by rw[AQx h];simp) u hu,λh=>⟨hb h,λu hu=>by cases hu⟩⟩
 |p::Cg,post,t,done,O2,σ,σ',.cons hσ ok ha hb next=>by
  obtain⟨h1,h2⟩:=next.bD
  refine⟨h1,λh=>⟨λx hx=>(h2 h).1 x (by simp[hx]),λu hu=>?_⟩⟩;rcases List.mem_cons.1 hu with rfl |hu
  ·exact(h2 h).1 u.i (by simp)
  ·exact(h2 h).2 u hu
theorem Tr.split:∀{Cg ts:ATU Jo} {done O2:ATU Nat} {σ σ':St},Tr en all A done O2 σ (Cg++ts) σ'->∃Acu σ1,Tr en all A done O2 σ Cg σ1/\Tr en all A ((Cg.map (·.i)).reverse++done) Acu σ1 ts σ'
 |[],ts,done,O2,σ,σ',h=>⟨O2,σ,.nil,h⟩
 |p::Cg,ts,done,O2,σ,σ',.cons hσ ok ha hb next=>by
  obtain⟨Acu,σ1,h1,h2⟩:=next.split
  exact⟨Acu,σ1,.cons hσ ok ha hb h1,by simpa using h2⟩
theorem Tr.Aiq:∀{ts:ATU Jo} {done O2:ATU Nat} {σ σ':St},Tr en all A done O2 σ ts σ'->∀u∈ts,u.Ok en all
 |[],_,_,_,_,_,_,hu=>by cases hu
 |t::ts,_,_,_,_,.cons _ ok _ _ next,u,hu=>by
  rcases List.mem_cons.1 hu with rfl |hu
  ·exact ok
  ·exact next.Aiq u hu
end
end Go.Va
namespace Go.Va
def MV(D:Nat->Bool):ATU Jo->ATU AV->ATU AV
 |[],sl=>sl
 |t::ts,sl=>MV D ts (if D t.i then aW t.o.dst t.val sl else sl)
def Jo.nb(t:Jo)(bs:ATU Blk):ATU Blk:=match t.e with |some e=>e.Aj |none=>bs
def Ij(D:Nat->Bool):ATU Jo->ATU Blk->ATU Blk
 |[],bs=>bs
 |t::ts,bs=>Ij D ts (if D t.i&&t.grow then t.nb bs else bs)
theorem jv{d:ATV Nat}{v:AV}{sl:ATU AV}{k:Nat}(h:d≠some k):(aW d v sl)[k]?=sl[k]?:=by
 cases d with
 |none=>rfl
 |some d =>
  have:d≠k:=λe=>h (by rw[e]);simp[aW,AQE,this]
theorem lQ{d:ATV Nat}{v:AV}{sl sl':ATU AV}{k:Nat}(h:sl[k]?=sl'[k]?):(aW d v sl)[k]?=(aW d v sl')[k]?:=by
 cases d with
 |none=>exact h
 |some d =>
  simp only[aW,AQE];split
  ·rename_i e;subst e;have:d<sl.length↔d<sl'.length:=by
    constructor
    ·intro hl;rw[ARo hl]at h;exact A4 h.symm
    ·intro hl;rw[ARo hl]at h;exact A4 h
   by_cases hl:d<sl.length
   ·rw[AQx hl,AQx (this.1 hl)]
   ·rw[AQy hl,AQy (λh=>hl (this.2 h))]
  ·exact h
theorem pQ{d:Nat}{v:AV}{sl:ATU AV}{x:AV}(h:(aW (some d) v sl)[d]?=some x):x=v:=by
 simp only[aW,AQE,AQ2]at h;split at h
 ·injection h with h;exact h.symm
 ·cases h
theorem dt(D:Nat->Bool):∀(ts:ATU Jo) (sl:ATU AV),(MV D ts sl).length=sl.length
 |[],_=>rfl
 |t::ts,sl=>by
  rw[MV,dt D ts];split
  ·exact eu ..
  ·rfl
theorem Zl(D:Nat->Bool):∀(Cg ts:ATU Jo) (sl:ATU AV),MV D (Cg++ts) sl=MV D ts (MV D Cg sl)
 |[],_,_=>rfl
 |t::Cg,ts,sl=>by rw[ASm,MV,MV,Zl D Cg ts]
theorem dq(D:Nat->Bool):∀(Cg ts:ATU Jo) (bs:ATU Blk),Ij D (Cg++ts) bs=Ij D ts (Ij D Cg bs)
 |[],_,_=>rfl
 |t::Cg,ts,bs=>by rw[ASm,Ij,Ij,dq D Cg ts]
theorem kz{D:Nat->Bool}{k:Nat}:∀{ts:ATU Jo} {sl sl':ATU AV},sl[k]?=sl'[k]?->(MV D ts sl)[k]?=(MV D ts sl')[k]?
 |[],_,_,h=>h
 |t::ts,sl,sl',h=>by
  simp only[MV];refine kz ?_;split
  ·exact lQ h
  ·exact h
theorem bX{D:Nat->Bool}{k:Nat}:∀{ts:ATU Jo} {sl sl':ATU AV},(∀u∈ts,D u.i=false->u.o.dst≠some k)->sl[k]?=sl'[k]?->(MV D ts sl)[k]?=(MV (λ_=>true) ts sl')[k]?
 |[],_,_,_,h=>h
 |t::ts,sl,sl',hu,h=>by
  simp only[MV,AQ2];refine bX (λu hm=>hu u (by simp[hm])) ?_;cases hD:D t.i with
  |true=>simp only[AQ2];exact lQ h
  |false =>
   simp only[AQ6,ARH];rw[jv (hu t (by simp) hD)];exact h
theorem Z6{D:Nat->Bool}{k:Nat}:∀{ts:ATU Jo} {sl:ATU AV},(∀u∈ts,D u.i=true->u.o.dst≠some k)->(MV D ts sl)[k]?=sl[k]?
 |[],_,_=>rfl
 |t::ts,sl,hu=>by
  simp only[MV];rw[Z6 λu hm=>hu u (by simp[hm])];split
  ·rename_i h;exact jv (hu t (by simp) h)
  ·rfl
theorem zd{D D':Nat->Bool}:∀{ts:ATU Jo} {sl:ATU AV},(∀u∈ts,D u.i=D' u.i)->MV D ts sl=MV D' ts sl
 |[],_,_=>rfl
 |t::ts,sl,h=>by
  rw[MV,MV,h t (by simp)];exact zd λu hu=>h u (by simp[hu])
theorem zc{D D':Nat->Bool}:∀{ts:ATU Jo} {bs:ATU Blk},(∀u∈ts,D u.i=D' u.i)->Ij D ts bs=Ij D' ts bs
 |[],_,_=>rfl
 |t::ts,bs,h=>by
  rw[Ij,Ij,h t (by simp)];exact zc λu hu=>h u (by simp[hu])
theorem Z5{D:Nat->Bool}:∀{ts:ATU Jo} {bs:ATU Blk},(∀u∈ts,D u.i=true->u.grow=false)->Ij D ts bs=bs
 |[],_,_=>rfl
 |t::ts,bs,h=>by
  rw[Ij];have:(D t.i&&t.grow)=false:=by
   cases hD:D t.i with
   |false=>rfl
   |true=>rw[h t (by simp) hD];rfl
  rw[this];exact Z5 λu hu=>h u (by simp[hu])
section
variable {P:Program} {en:G5} {all:ATU Oper} {A:ATU (Nat×ATU Nat)}
theorem dC(he:EnvOk P en){t:Jo}(ok:t.Ok en all)(hb:t.nh=false):∃l,t.post.Aj=t.σ.Aj++l/\(t.grow=false->l=[])/\(∀e,t.e=some e->e.BF=[]/\e.Aj=t.σ.Aj++l)/\t.post.AU=aW t.o.dst t.val t.σ.AU:=by
 unfold Jo.Ok at ok;unfold Jo.nh at hb;unfold Jo.post Jo.grow Jo.val;cases hq:t.e with
 |none=>exact⟨[],by simp[St.skip],λ_=>rfl,λe h=>by(cases h),rfl⟩
 |some e =>
  rw[hq]at ok hb;have hm:e.BF=[]:=by simpa using hb
  have Q3:=TL he ok.2.2;obtain⟨l,hl⟩:=Q3.ext hm;refine⟨l,hl,λh=>?_,λe' h=>by injection h with h;subst h;exact⟨hm,hl⟩,?_⟩
  ·simp only[hm,List.isEmpty_nil,ARU,ARa,ne_eq,Decidable.not_not]at h;rw[hl,AQj]at h;exact AQ7 (by omega)
  ·simp only[St.after,hm,VF]
theorem Tr.ov(he:EnvOk P en):∀{ts:ATU Jo} {done O2:ATU Nat} {σ σ':St},Tr en all A done O2 σ ts σ'->(∀u∈ts,u.nh=false)->σ'.AU=MV (λ_=>true) ts σ.AU/\σ'.Aj=Ij (λ_=>true) ts σ.Aj/\(∃l,σ'.Aj=σ.Aj++l)
 |[],_,_,_,_,.nil,_=>⟨rfl,rfl,[],(AQU _).symm⟩
 |t::ts,done,O2,σ,σ',.cons hσ ok ha hb next,Un=>by
  obtain⟨l,h1,h2,h3,h4⟩:=dC he ok (Un t (by simp));obtain⟨i1,i2,l',i3⟩:=next.ov he λu hu=>Un u (by simp[hu])
  subst hσ;refine⟨by rw[i1,MV,AQx rfl,h4],?_,l++l',by rw[i3,h1,AQn]⟩;rw[i2,Ij,ARU];congr 1;cases hg:t.grow with
  |false=>rw[h1,h2 hg,AQU];rfl
  |true =>
   cases hq:t.e with
   |none=>simp[Jo.grow,hq]at hg
   |some e=>simp only[AQ2,Jo.nb,hq];rw[h1,(h3 e hq).2]
theorem Tr.uX(he:EnvOk P en)(D:Nat->Bool):∀{ts:ATU Jo} {done O2:ATU Nat} {σ σ':St},Tr en all A done O2 σ ts σ'->(∀u∈ts,u.nh=false)->∀(b0:ATU Blk),(∃l,σ.Aj=b0++l)->∀bs,(∃l,bs=b0++l)->∃l,Ij D ts bs=b0++l
 |[],_,_,_,_,_,_,_,_,_,h=>h
 |t::ts,done,O2,σ,σ',.cons hσ ok ha hb next,Un,b0,xY,bs,hbs=>by
  obtain⟨l,h1,h2,h3,h4⟩:=dC he ok (Un t (by simp));obtain⟨l0,jk⟩:=xY;subst hσ;rw[Ij];refine next.uX he D (λu hu=>Un u (by simp[hu])) b0 ⟨l0++l,by rw[h1,jk,AQn]⟩ _ ?_
  split
  ·cases hq:t.e with
   |none=>simpa [Jo.nb,hq]using hbs
   |some e=>exact⟨l0++l,by simp only[Jo.nb,hq];rw[(h3 e hq).2,jk,AQn]⟩
  ·exact hbs
end
theorem fR:∀{A7:ATU Nat} {l:ATU AV} {j i:Nat},(j+i)∈A7->(Sy A7 j l)[i]?=l[i]?
 |A7,a::r,j,0,h=>by
  have h':j∈A7:=h;simp[Sy,h']
 |A7,a::r,j,i+1,h=>by
  simp only[Sy,List.getElem?_cons_succ];exact fR (by rwa [show j+1+i=j+(i+1) by omega])
 |_,[],_,_,_=>by simp[Sy]
theorem o7:∀{A7:ATU Nat} {l:ATU AV} {j i:Nat} {x:AV},(j+i)∉A7->(Sy A7 j l)[i]?=some x->x=.un 0
 |A7,a::r,j,0,x,h,hx=>by
  have:A7.contains j=false:=by simpa using h
  simp only[Sy,this,AQ6,ARH,List.getElem?_cons_zero,AQh]at hx;exact hx.symm
 |A7,a::r,j,i+1,x,h,hx=>by
  simp only[Sy,List.getElem?_cons_succ]at hx;exact o7 (by rwa [show j+1+i=j+(i+1) by omega]) hx
 |_,[],_,_,_,_,hx=>by simp[Sy]at hx
def wA(Ca:Array Oper)(o:Oper)(σ:St):St:=⟨Sy (o.looksAt Ca) 0 σ.AU,σ.Aj⟩
theorem Adp{en:G5}{Ca:Array Oper}{o:Oper}{σ:St}{K:Ih->ATV Ih}:exec en (wA Ca o σ) o K=exec en σ o K:=by
 refine zi rfl λx hx=>?_;cases x with
 |tmp t =>
  have:t∈o.looksAt Ca:=AQN _ (List.mem_filterMap.2 ⟨.tmp t,by simpa using hx,rfl⟩);simp only[St.Cp,wA];rw[fR (j:=0) (by simpa using this)]
 |const v=>rfl
 |global g=>rfl
 |func f=>rfl
end Go.Va
namespace Go.Va
theorem bW{D:Nat->Bool}:∀{ts:ATU Jo} {bs:ATU Blk},(∀u∈ts,u.grow=true->D u.i=true)->Ij D ts bs=Ij (λ_=>true) ts bs
 |[],_,_=>rfl
 |t::ts,bs,h=>by
  rw[Ij,Ij];have:(D t.i&&t.grow)=(true&&t.grow):=by
   cases hg:t.grow with
   |false=>simp
   |true=>rw[h t (by simp) hg]
  rw[this];exact bW λu hu=>h u (by simp[hu])
theorem oS{t:Jo}{e:Ih}(h:t.e=some e):t.post.Aj=e.Aj:=by simp[Jo.post,h,St.after]
theorem kx{D:Nat->Bool}:∀{ts:ATU Jo} {bs:ATU Blk},Ij D ts bs=bs\/∃u∈ts,D u.i=true/\u.grow=true/\Ij D ts bs=u.post.Aj
 |[],_=>.inl rfl
 |t::ts,bs=>by
  rw[Ij];rcases kx (D:=D) (ts:=ts) (bs:=if D t.i&&t.grow then t.nb bs else bs)with h |⟨u,hu,h1,h2,h3⟩
  ·rw[h];split
   ·rename_i hc;rw[AQm]at hc;cases hq:t.e with
    |none=>exact .inl (by simp[Jo.nb,hq])
    |some e=>exact .inr ⟨t,by simp,hc.1,hc.2,by rw[oS hq];simp[Jo.nb,hq]⟩
   ·exact .inl rfl
  ·exact .inr ⟨u,by simp[hu],h1,h2,h3⟩
theorem ky:∀{ts:ATU Jo} {sl:ATU AV} {k:Nat} {x:AV},(MV (λ_=>true) ts sl)[k]?=some x->sl[k]?=some x\/∃Cg u post,ts=Cg++u::post/\u.o.dst=some k/\x=u.val
 |[],_,_,_,h=>.inl h
 |t::ts,sl,k,x,h=>by
  simp only[MV,AQ2]at h;rcases ky h with h |⟨Cg,u,post,e,h1,h2⟩
  ·by_cases hd:t.o.dst=some k
   ·rw[hd]at h;exact .inr ⟨[],t,ts,rfl,hd,pQ h⟩
   ·rw[jv hd]at h;exact .inl h
  ·exact .inr ⟨t::Cg,u,post,by rw[e];rfl,h1,h2⟩
structure Inv (P:Program) (A:List (Nat×List Nat)) (N:Nat) (done:List Nat) (Je:List Jo) (σ:St) (m:Nat) (a0:Act) (w0:World) (g0:G) (D:Nat->Bool) (a:Act) (w:World) (g:G):Prop where
 zm:∀i∈done,D i=true
 only:∀i,D i=true->i∈done\/∃u∈Je,u.i=i
 kp:jH A D
 dfr:a.defers=a0.defers
 len:σ.AU.length=a.tmps.size
 step:BK m w0 g0 w g
 heap:Bi w g (Ij D Je σ.Aj)
 AU:∀(i:Nat) (x:AV),(MV D Je σ.AU)[i]?=some x->B6 w g (Ij D Je σ.Aj).length x (a.tmps.getD i undef)
 Ck:∀u∈Je,D u.i=true->∀k∈u.val.Ck,k<u.post.Aj.length
 scp:∀u∈Je,D u.i=true->u.grow=true->X4 u.post.Aj
section
variable {P:Program} {en:G5} {Ca:Array Oper} {A:ATU (Nat×ATU Nat)} {N m:Nat} {done O2:ATU Nat} {Je Cg post:ATU Jo} {t:Jo} {σ σ1:St} {a0 a:Act} {w0 w:World} {g0 g:G} {D:Nat->Bool}
theorem Inv.find(he:EnvOk P en)(XI:Inv P A N done Je σ m a0 w0 g0 D a w g)(iO:Tr en Ca.toList A done O2 σ Je σ1)(Un:∀u∈Je,u.nh=false)(TN:Je=Cg++t::post)(SJ:D t.i=false)(Yd:∀x∈Es A t.i,D x=true)
    (cO:∀u∈Cg,u.i∈Es A t.i\/u.o.apart Ca t.o=true) (gP:∀u∈post,t.i∈Es A u.i\/t.o.apart Ca u.o=true)
    (h0:∀(i:Nat) (x:AV),σ.AU[i]?=some x->∀k∈x.Ck,k<σ.Aj.length) (nI:X4 σ.Aj) :
    (∃l,Ij D Je σ.Aj=t.σ.Aj++l/\Ij D post t.σ.Aj=t.σ.Aj++l/\(t.grow=true->l=[]))/\X4 t.σ.Aj/\t.σ.AU.length=a.tmps.size/\(∀u∈post,D u.i=true->t.grow=false/\t.o.apart Ca u.o=true)/\(∀u∈Cg,u.grow=true->D u.i=true)/\Ij D Cg σ.Aj=t.σ.Aj /\
     (∀k∈t.o.looksAt Ca,∀x,t.σ.AU[k]?=some x->B6 w g (Ij D Je σ.Aj).length x (a.tmps.getD k undef)/\∀j∈x.Ck,j<t.σ.Aj.length):=by
 subst TN;obtain⟨Acu,σt,htp,htt⟩:=iO.split;have hpb:∀u∈Cg,u.nh=false:=λu hu=>Un u (by simp[hu]);obtain⟨Sx,ak,l0,vQ⟩:=htp.ov he hpb;cases htt with
 |cons hσ ok ha hb next =>
  subst hσ;have hgp:∀u∈Cg,u.grow=true->D u.i=true:=λu hu hg=>by
   obtain⟨p1,p2,rfl⟩:=List.append_of_mem hu;have AKK:Tr en Ca.toList A done O2 σ (p1++u::(p2++t::post)) σ1:=by simpa using iO
   exact Yd _ (AKK.bD.1 (by simp[hg]) t (by simp))
  have hB:Ij D Cg σ.Aj=t.σ.Aj:=by rw[bW hgp,<-ak]
  have YK:∀u∈post,D u.i=true->t.i∉Es A u.i:=λu _ hd hm=>by
   rw[XI.kp _ hd _ hm]at SJ;cases SJ
  have hgt:t.grow=true->∀u∈post,D u.i=false:=λhg u hu=>by
   cases hd:D u.i with
   |false=>rfl
   |true=>exact(YK u hu hd (iO.bD.1 (by simp[hg]) u hu)).elim
  have Zx:Ij D (Cg++t::post) σ.Aj=Ij D post t.σ.Aj:=by
   rw[dq,Ij,hB,SJ];rfl
  obtain⟨l1,e1,_,_,_⟩:=dC he ok (Un t (by simp));obtain⟨l,hl⟩:=next.uX he D (λu hu=>Un u (by simp[hu])) t.σ.Aj ⟨l1,e1⟩ t.σ.Aj ⟨[],(AQU _).symm⟩
  have hsc:X4 t.σ.Aj:=by
   rw[<-hB];rcases kx (D:=D) (ts:=Cg) (bs:=σ.Aj)with h |⟨u,hu,h1,h2,h3⟩
   ·rw[h];exact nI
   ·rw[h3];exact XI.scp u (by simp[hu]) h1 h2
  refine⟨⟨l,by rw[Zx];exact hl,hl,λhg=>?_⟩,hsc,by rw[Sx,dt];exact XI.len,λu hu hd=>⟨?_,?_⟩,hgp,hB,λk hk x hx=>⟨?_,?_⟩⟩
  ·have:=Z5 (D:=D) (ts:=post) (bs:=t.σ.Aj) λu hu hd=>by rw[hgt hg u hu]at hd;cases hd
   rw[this]at hl;have h2:t.σ.Aj.length=t.σ.Aj.length+l.length:=by rw[<-AQj,<-hl]
   exact AQ7 (by omega)
  ·cases hg:t.grow with
   |false=>rfl
   |true=>rw[hgt hg u hu]at hd;cases hd
  ·exact(gP u hu).resolve_left (YK u hu hd)
  ·have h1:(MV D (Cg++t::post) σ.AU)[k]?=t.σ.AU[k]?:=by
     rw[Zl,MV,SJ];simp only[AQ6,ARH];rw[Z6,bX,<-Sx]
     ·intro u hu hd e;rcases cO u hu with h |h
      ·rw[Yd _ h]at hd;cases hd
      ·exact(Oper.apart_spec h).1 k e hk
     ·rfl
     ·intro u hu hd e;have:=(gP u hu).resolve_left (YK u hu hd);exact(Oper.apart_spec this).2.2 k e hk
   exact XI.AU k x (by rw[h1];exact hx)
  ·rw[Sx]at hx;rcases ky hx with h |⟨p1,u,p2,e,h1,rfl⟩
   ·intro j hj;have:=h0 k x h j hj;rw[vQ,AQj];omega
   ·intro j hj;have hu:u∈Cg:=by rw[e];simp
    have hD:D u.i=true:=by
     rcases cO u hu with h |h
     ·exact Yd _ h
     ·exact((Oper.apart_spec h).1 k h1 hk).elim
    have:=XI.Ck u (by simp[hu]) hD j hj;subst e;obtain⟨ANG,σu,q1,q2⟩:=htp.split;cases q2 with
    |cons hσ' ok' ha' zo next' =>
     obtain⟨_,_,l2,q3⟩:=next'.ov he λv hv=>hpb v (by simp[hv]);rw[q3,AQj];omega
end
end Go.Va
namespace Go.Va
theorem WS{a:Act}{d:ATV Tmp}{v:Value}{k:Nat}(h:d≠some k):(a.put d v).tmps.getD k undef=a.tmps.getD k undef:=by
 cases d with
 |none=>rfl
 |some d =>
  have:d≠k:=λe=>h (by rw[e]);simp[Act.put,ART this]
theorem T4{a:Act}{k:Nat}{v:Value}(h:k<a.tmps.size):(a.put (some k) v).tmps.getD k undef=v:=by
 simp[Act.put,h]
section
variable {P:Program} {en:G5} {Ca:Array Oper} {A:ATU (Nat×ATU Nat)} {N m:Nat} {done O2:ATU Nat} {Je Cg post:ATU Jo} {t:Jo} {σ σ1:St} {a0 a:Act} {w0 w:World} {g0 g:G} {D D':Nat->Bool}
theorem Inv.next(he:EnvOk P en)(XI:Inv P A N done Je σ m a0 w0 g0 D a w g)(iO:Tr en Ca.toList A done O2 σ Je σ1)(Un:∀u∈Je,u.nh=false)(TN:Je=Cg++t::post)(SJ:D t.i=false)(Yd:∀x∈Es A t.i,D x=true)
    (cO:∀u∈Cg,u.i∈Es A t.i\/u.o.apart Ca t.o=true) (gP:∀u∈post,t.i∈Es A u.i\/t.o.apart Ca u.o=true)
    (h0:∀(i:Nat) (x:AV),σ.AU[i]?=some x->∀k∈x.Ck,k<σ.Aj.length) (nI:X4 σ.Aj) (hm:m<=σ.Aj.length)
    (vy:∀i,D' i=if i=t.i then true else D i) (hnp:∀u∈Cg,u.i≠t.i) (hnq:∀u∈post,u.i≠t.i)
    {l l':ATU Blk} (hl:Ij D Je σ.Aj=t.σ.Aj++l) (zt:t.post.Aj=t.σ.Aj++l') (hlg:t.grow=true->l=[]) (AKd:t.grow=false->l'=[])
    {v:Value} {w':World} {g':G} (H':Bi w' g' (t.σ.Aj++(l++l'))) (hv:B6 w' g' (t.σ.Aj++(l++l')).length t.val v) (Sk:∀k∈t.val.Ck,k<t.post.Aj.length) (st:Step [] (Ij D Je σ.Aj).length w g w' g') :
    Inv P A N done Je σ m a0 w0 g0 D' (a.put t.o.dst v) w' g':=by
 obtain⟨_,hsc,hlen,YK,hgp,hB,_⟩:=XI.find he iO Un TN SJ Yd cO gP h0 nI;have AJw:∃l0,t.σ.Aj=σ.Aj++l0:=by
  subst TN;obtain⟨Acu,σt,htp,htt⟩:=iO.split;cases htt with
  |cons hσ ok ha hb next =>
   subst hσ;obtain⟨_,_,l0,vQ⟩:=htp.ov he λu hu=>Un u (by simp[hu]);exact⟨l0,vQ⟩
 have gO:t.Ok en Ca.toList:=iO.Aiq t (by rw[TN];simp);obtain⟨l1,e1,e2,e3,_⟩:=dC he gO (Un t (by rw[TN];simp));have dO:l1=l':=List.append_cancel_left (e1.symm.trans zt);subst dO;have hDt:D' t.i=true:=by rw[vy];simp
 have hDp:∀u∈Cg,D u.i=D' u.i:=λu hu=>by rw[vy,AQy (hnp u hu)]
 have hDq:∀u∈post,D u.i=D' u.i:=λu hu=>by rw[vy,AQy (hnq u hu)]
 have hB':Ij D' Je σ.Aj=t.σ.Aj++(l++l1):=by
  have h1:Ij D Je σ.Aj=Ij D post t.σ.Aj:=by
   rw[TN,dq,Ij,hB,SJ];rfl
  rw[TN,dq,Ij,<-zc hDp,hB,hDt,ARU,<-zc hDq];cases hg:t.grow with
  |false =>
   simp only[AQ6,ARH];rw[<-h1,hl,AKd hg,AQU]
  |true =>
   simp only[AQ2];have AGH:∀u∈post,D u.i=true->u.grow=false:=λu hu hd=>by
    have:=(YK u hu hd).1;rw[hg]at this;cases this
   rw[Z5 AGH,hlg hg,ARz];cases hq:t.e with
   |none=>simp[Jo.grow,hq]at hg
   |some e=>simp only[Jo.nb,hq];exact(e3 e hq).2
 have Tl:(Ij D Je σ.Aj).length<=(Ij D' Je σ.Aj).length:=by rw[hl,hB'];simp
 refine⟨λi hi=>?_,λi hi=>?_,λi hi x hx=>?_,by rw[put_defers];exact XI.dfr,by rw[XR];exact XI.len,?_,by rw[hB'];exact H',λk x hx=>?_,λu hu hd=>?_,λu hu hd hg=>?_⟩
 ·rw[vy];split
  ·rfl
  ·exact XI.zm i hi
 ·rw[vy]at hi;split at hi
  ·rename_i e;exact .inr ⟨t,by rw[TN];simp,e.symm⟩
  ·exact XI.only i hi
 ·rw[vy]at hi⊢;split
  ·rfl
  ·split at hi
   ·rename_i e;subst e;exact Yd x hx
   ·exact XI.kp i hi x hx
 ·refine XI.step.trans (st.toC ?_);obtain⟨l0,jk⟩:=AJw;rw[hl,jk];simp only[AQj];omega
 ·by_cases hd:t.o.dst=some k
  ·have vU:(MV D' Je σ.AU)[k]?=(aW (some k) t.val (MV D' Cg σ.AU))[k]?:=by
     rw[TN,Zl,MV,hDt,AQx rfl,hd];refine Z6 λu hu hd' e=>?_;rw[<-hDq u hu]at hd';exact(Oper.apart_spec (YK u hu hd').2).2.1 k hd e
   rw[vU]at hx;have hval:=pQ hx;subst hval;have rL:k<a.tmps.size:=by
    have:=A4 hx;rw[eu,dt,XI.len]at this;exact this
   rw[hd,T4 rL,hB'];exact hv
  ·rw[WS hd];have vU:(MV D' Je σ.AU)[k]?=(MV D Je σ.AU)[k]?:=by
    rw[TN,Zl,Zl,MV,MV,hDt,SJ,<-zd hDq,<-zd hDp];simp only[AQ2,AQ6,ARH];exact kz (jv hd)
   rw[vU]at hx;exact(XI.AU k x hx).Sb st Tl
 ·rw[vy]at hd;split at hd
  ·rename_i e;have hut:u=t:=by
    rw[TN]at hu;rcases List.mem_append.1 hu with hu |hu
    ·exact(hnp u hu e).elim
    ·rcases List.mem_cons.1 hu with hu |hu
     ·exact hu
     ·exact(hnq u hu e).elim
   subst hut;exact Sk
  ·exact XI.Ck u hu hd
 ·rw[vy]at hd;split at hd
  ·rename_i e;have hut:u=t:=by
    rw[TN]at hu;rcases List.mem_append.1 hu with hu |hu
    ·exact(hnp u hu e).elim
    ·rcases List.mem_cons.1 hu with hu |hu
     ·exact hu
     ·exact(hnq u hu e).elim
   subst hut;rw[hlg hg,ARz]at H';rw[zt];exact H'.scp
  ·exact XI.scp u hu hd hg
end
end Go.Va
namespace Go.Va
theorem Ab0{w:World}{g:G}{n:Nat}{σ:St}{a:Act}{Ca:Array Oper}{o:Oper}{b:Bool}(h:Want Ca.toList σ o b)(hlen:σ.AU.length=a.tmps.size)
    (hs:∀k∈o.looksAt Ca,∀x,σ.AU[k]?=some x->B6 w g n x (a.tmps.getD k undef)):Region.wanted o (yielded Ca a.tmps)=b:=by
 cases h with
 |plain h=>simp[Region.wanted,h]
 |@guard g0 iY d b h hd hb =>
  rw[AQt]at hd;have hk:d∈o.looksAt Ca:=AQO _ (by simp[h,hd]);have h1:=TG (hs d hk _ hb);have hl:d<a.tmps.size:=by rw[<-hlen];exact A4 hb
  have h2:a.tmps[d]?=some (.bool b):=by
   rw[AQ3 hl];rw[ARd,AQ3 hl]at h1;exact congrArg some h1
  simp[Region.wanted,h,yielded,hd,h2]
 |@nil g0 iY d h hd hb =>
  rw[AQt]at hd;have hk:d∈o.looksAt Ca:=AQO _ (by simp[h,hd]);have h1:a.tmps.getD d undef=.tuple #[]:=hs d hk _ hb;have hl:d<a.tmps.size:=by rw[<-hlen];exact A4 hb
  have h2:a.tmps[d]?=some (.tuple #[]):=by
   rw[AQ3 hl];rw[ARd,AQ3 hl]at h1;exact congrArg some h1
  simp[Region.wanted,h,yielded,hd,h2]
section
variable {P:Program} {en:G5} {Ca:Array Oper} {A:ATU (Nat×ATU Nat)} {N m:Nat} {done O2:ATU Nat} {Je Cg post:ATU Jo} {t:Jo} {σ σ1:St} {a0 a:Act} {w0 w:World} {g0 g:G} {D D':Nat->Bool} {Q:Exit->Act->World->Prop}
theorem Inv.op(he:EnvOk P en)(XI:Inv P A N done Je σ m a0 w0 g0 D a w g)(iO:Tr en Ca.toList A done O2 σ Je σ1)(Un:∀u∈Je,u.nh=false)(TN:Je=Cg++t::post)(SJ:D t.i=false)(Yd:∀x∈Es A t.i,D x=true)
    (cO:∀u∈Cg,u.i∈Es A t.i\/u.o.apart Ca t.o=true) (gP:∀u∈post,t.i∈Es A u.i\/t.o.apart Ca u.o=true)
    (h0:∀(i:Nat) (x:AV),σ.AU[i]?=some x->∀k∈x.Ck,k<σ.Aj.length) (nI:X4 σ.Aj) (hm:m<=σ.Aj.length)
    (vy:∀i,D' i=if i=t.i then true else D i) (hnp:∀u∈Cg,u.i≠t.i) (hnq:∀u∈post,u.i≠t.i) {K:Act->World->Prop}
    (hK:∀a' w' g',Inv P A N done Je σ m a0 w0 g0 D' a' w' g'->K a' w'):wpOp P Ca Q t.i K a w:=by
 obtain⟨⟨l,hl,_,hlg⟩,hsc,hlen,YK,hgp,hB,Jk⟩:=XI.find he iO Un TN SJ Yd cO gP h0 nI;have gO:t.Ok en Ca.toList:=iO.Aiq t (by rw[TN];simp);obtain⟨l1,e1,e2,e3,_⟩:=dC he gO (Un t (by rw[TN];simp));have ho:Ca[t.i]?=some t.o:=by rw[<-AQt];exact gO.1
 have AhL:∀k∈t.o.looksAt Ca,∀x,t.σ.AU[k]?=some x->B6 w g (Ij D Je σ.Aj).length x (a.tmps.getD k undef):=λk hk x hx=>(Jk k hk x hx).1;have rP:=gO.2;unfold wpOp;simp only[ho];cases hq:t.e with
 |none =>
  rw[hq]at rP;rw[Ab0 rP hlen AhL];simp only[AQ6,ARH];have hg:t.grow=false:=by simp[Jo.grow,hq]
  have hval:t.val=.nil:=by simp[Jo.val,hq]
  have U6:=e2 hg;subst U6;refine hK _ _ g (XI.next he iO Un TN SJ Yd cO gP h0 nI hm vy hnp hnq hl e1 hlg e2 ?_ ?_ ?_ (Step.refl _ _ _ _))
  ·rw[AQU,<-hl];exact XI.heap
  ·rw[hval];exact(show B6 _ _ _ .nil undef from rfl)
  ·rw[hval];intro k hk;cases hk
 |some e =>
  rw[hq]at rP;rw[Ab0 rP.1 hlen AhL];simp only[AQ2];obtain⟨AGC,AJR⟩:=e3 e hq;have hval:t.val=e.val:=by simp[Jo.val,hq]
  have Q3:OL P (wA Ca t.o t.σ) t.o e:=TL he (by rw[Adp];exact rP.2);refine .inl (AdT Q3 AGC (l:=l) (l':=l1) AJR ?_ (w:=w) (g:=g) ?_ hsc (by simp only[wA,fQ];exact hlen) (λi x hx=>?_) λv w' g' H' hv Sk st=>?_)
  ·cases hg:t.grow with
   |true=>exact .inl (hlg hg)
   |false=>exact .inr (e2 hg)
  ·show Bi w g (t.σ.Aj++l);rw[<-hl];exact XI.heap
  ·show B6 w g (t.σ.Aj++l).length x _/\∀k∈x.Ck,k<t.σ.Aj.length;rw[<-hl];by_cases hi:i∈t.o.looksAt Ca
   ·simp only[wA]at hx;rw[fR (j:=0) (by simpa using hi)]at hx;exact Jk i hi x hx
   ·have:=o7 (j:=0) (by simpa using hi) hx;subst this;exact⟨Sc,λk hk=>by cases hk⟩
  ·refine hK _ _ g' (XI.next he iO Un TN SJ Yd cO gP h0 nI hm vy hnp hnq hl e1 hlg e2 H' (by rw[hval];exact hv) (by rw[hval,oS hq];exact Sk) ?_);rw[hl];exact st
def Bf(listed:Array Bool)(i:Nat):Bool:=listed.getD i false
theorem AbB{listed:Array Bool}{i:Nat}(hi:i<listed.size)(j:Nat):Bf (listed.setIfInBounds i true) j=if j=i then true else Bf listed j:=by
 unfold Bf;by_cases h:j=i
 ·subst h;simp[hi]
 ·rw[AQy h,getD_set_ne false (Ne.symm h)]
theorem V5{listed:Array Bool}(hs:listed.size=Ca.size){i:Nat}:i∈Region.ready .any Ca listed↔i<Ca.size/\Bf listed i=false/\∀d∈VD Ca.toList i,Bf listed d=true:=by
 rw[mem_ready];constructor
 ·rintro⟨h1,o,ho,h2⟩
  have hi:i<Ca.size:=(Array.getElem?_eq_some_iff.1 ho).1;refine⟨hi,?_,λd hd=>?_⟩
  ·unfold Bf;have tN:i<listed.size:=by omega
   simpa [ARd,tN]using h1
  ·unfold VD at hd;rw[AQt,ho]at hd;obtain⟨e,he,hd⟩:=List.mem_filterMap.1 hd;split at hd
   ·rename_i hb;injection hd with hd;subst hd;exact h2 e (by simpa using he) hb
   ·cases hd
 ·rintro⟨hi,h1,h2⟩
  have tN:i<listed.size:=by omega
  refine⟨?_,Ca[i],AQ3 hi,λe he hb=>?_⟩
  ·unfold Bf at h1;simpa [ARd,tN]using h1
  ·refine h2 e.on ?_;unfold VD;rw[AQt,AQ3 hi];exact List.mem_filterMap.2 ⟨e,by simpa using he,by rw[AQx hb]⟩
def left(D:Nat->Bool)(Je:ATU Jo):Nat:=(Je.filter λu=>!D u.i).length
theorem Adk(TN:Je=Cg++t::post)(SJ:D t.i=false)(vy:∀i,D' i=if i=t.i then true else D i)(hnp:∀u∈Cg,u.i≠t.i)(hnq:∀u∈post,u.i≠t.i):left D Je=left D' Je+1:=by
 have sM:∀(l:ATU Jo),(∀u∈l,u.i≠t.i)->l.filter (λu=>!D u.i)=l.filter λu=>!D' u.i:=λl h=>List.filter_congr λu hu=>by rw[vy,AQy (h u hu)]
 subst TN;unfold left;rw[ASf,ASf,List.filter_cons,List.filter_cons,sM Cg hnp,sM post hnq,SJ,show D' t.i=true by rw[vy];simp];simp;omega
end
end Go.Va
namespace Go.Va
theorem Adl{D:Nat->Bool}{Je:ATU Jo}(h:left D Je=0):∀u∈Je,D u.i=true:=λu hu=>by
 have:=AQ7 h;cases hd:D u.i with
 |true=>rfl
 |false =>
  have hm:u∈Je.filter λu=>!D u.i:=List.mem_filter.2 ⟨hu,by grind⟩;rw[this]at hm;cases hm
theorem vi{D:Nat->Bool}:∀{Je:ATU Jo},left D Je≠0->∃Cg t post,Je=Cg++t::post/\D t.i=false/\∀u∈Cg,D u.i=true
 |[],h=>(h rfl).elim
 |u::Je,h=>by
  cases hd:D u.i with
  |false=>exact⟨[],u,Je,rfl,hd,λ_ hu=>by grind⟩
  |true =>
   have:left D Je≠0:=by
    unfold left at h⊢
    grind
   obtain⟨Cg,t,post,e,h1,h2⟩:=vi this
   grind
section
variable {P:Program} {en:G5} {Ca:Array Oper} {A:ATU (Nat×ATU Nat)} {m:Nat} {Q:Exit->Act->World->Prop} {a0:Act} {w0:World} {g0:G}
theorem wF{Je Cg post:ATU Jo}{t:Jo}(h:(Je.map (·.i)).Nodup)(TN:Je=Cg++t::post):(∀u∈Cg,u.i≠t.i)/\∀u∈post,u.i≠t.i:=by
 grind
theorem AiI(he:EnvOk P en)(hA:oo Ca.toList A){done O2:ATU Nat}{Je:ATU Jo}{σ σ1:St}(iO:Tr en Ca.toList A done O2 σ Je σ1)(Un:∀u∈Je,u.nh=false)(R:ATU Nat)
    (nE:∀i,i<Ca.size->i∈done\/(∃u∈Je,u.i=i)\/i∈R) (Bp:∀u∈Je,u.i<Ca.size) (Tn:(Je.map (·.i)).Nodup)
    (Zu:∀Cg t post,Je=Cg++t::post->∀u∈post,t.i∈Es A u.i\/t.o.apart Ca u.o=true) (gR:∀Cg t post,Je=Cg++t::post->∀d∈VD Ca.toList t.i,d∈done\/∃u∈Cg,u.i=d)
    (hR:∀i∈R,∀D:Nat->Bool,jH A D->(∀x∈Es A i,D x=true)->(∀r∈R,D r=false)->∀u∈Je,D u.i=true) (hRd:∀r∈R,r∉done/\∀u∈Je,u.i≠r)
    (h0:∀(i:Nat) (x:AV),σ.AU[i]?=some x->∀k∈x.Ck,k<σ.Aj.length) (nI:X4 σ.Aj) (hm:m<=σ.Aj.length)
    (cont:∀(listed:Array Bool) (a:Act) (w:World) (g:G),listed.size=Ca.size->(∀i∈done,Bf listed i=true)->(∀u∈Je,Bf listed u.i=true)->(∀r∈R,Bf listed r=false)->jH A (Bf listed)->LJ w g σ1 a->BK m w0 g0 w g->a.defers=a0.defers ->
     wpAny P .any Ca Q R.length listed a w) :
    ∀(n:Nat) (listed:Array Bool) (a:Act) (w:World) (g:G),listed.size=Ca.size->left (Bf listed) Je=n->Inv P A Ca.size done Je σ m a0 w0 g0 (Bf listed) a w g->wpAny P .any Ca Q (n+R.length) listed a w
 |0,listed,a,w,g,hs,hn,XI=>by
  have zn:=Adl hn;obtain⟨h1,h2,_⟩:=iO.ov he Un;have hR0:∀r∈R,Bf listed r=false:=λr hr=>by
   cases hd:Bf listed r with
   |false=>rfl
   |true =>
    rcases XI.only r hd with h |⟨u,hu,e⟩
    ·exact((hRd r hr).1 h).elim
    ·exact((hRd r hr).2 u hu e).elim
  have hB:Ij (Bf listed) Je σ.Aj=σ1.Aj:=by rw[bW λu hu _=>zn u hu,<-h2]
  rw[AQL];refine cont listed a w g hs XI.zm zn hR0 XI.kp ⟨by rw[<-hB];exact XI.heap,by rw[h1,dt];exact XI.len,λi x hx=>?_⟩ XI.step XI.dfr;rw[<-hB];refine XI.AU i x ?_;rw[bX (λu hu hd=>by rw[zn u hu]at hd;cases hd) rfl,<-h1];exact hx
 |n+1,listed,a,w,g,hs,hn,XI=>by
  obtain⟨Cg,t,post,TN,SJ,AhI⟩:=vi (D:=Bf listed) (Je:=Je) (by rw[hn];simp);rw[show n+1+R.length=(n+R.length)+1 by omega];have AG1:t.i∈Region.ready .any Ca listed:=(V5 hs).2 ⟨Bp t (by rw[TN];simp),SJ,λd hd=>by
   rcases gR Cg t post TN d hd with h |⟨u,hu,e⟩
   ·exact XI.zm d h
   ·rw[<-e];exact AhI u hu⟩
  refine⟨λh=>by(rw[h]at AG1;cases AG1),λi hi=>?_⟩;obtain⟨hil,hiu,Y4⟩:=(V5 hs).1 hi;have Yd:=pT hA XI.kp Y4;rcases nE i hil with h |⟨u,hu,rfl⟩|h
  ·rw[XI.zm i h]at hiu;cases hiu
  ·obtain⟨p1,p2,Zx⟩:=List.append_of_mem hu;obtain⟨hnp,hnq⟩:=wF Tn Zx;have vy:=AbB (listed:=listed) (i:=u.i) (by omega);refine XI.op he iO Un Zx hiu Yd (λv hv=>?_) (Zu p1 u p2 Zx) h0 nI hm vy hnp hnq λa' w' g' AKZ=>?_
   ·obtain⟨q1,q2,hq⟩:=List.append_of_mem hv;exact Zu q1 v (q2++u::p2) (by rw[Zx,hq];simp) u (by simp)
   ·refine AiI he hA iO Un R nE Bp Tn Zu gR hR hRd h0 nI hm cont n _ a' w' g' (by simpa using hs) ?_ AKZ;have:=Adk Zx hiu vy hnp hnq;omega
  ·have:=hR i h _ XI.kp Yd λr hr=>by
     cases hd:Bf listed r with
     |false=>rfl
     |true =>
      rcases XI.only r hd with h |⟨u,hu,e⟩
      ·exact((hRd r hr).1 h).elim
      ·exact((hRd r hr).2 u hu e).elim
   rw[this t (by rw[TN];simp)]at SJ;cases SJ
theorem xt:∀(ts:ATU Jo),∃Je iU,ts=Je++iU/\(∀u∈Je,u.nh=false)/\(iU=[]\/∃b r,iU=b::r/\b.nh=true)
 |[]=>⟨[],[],rfl,λ_ h=>by grind,.inl rfl⟩
 |t::ts=>by
  cases hb:t.nh with
  |true=>exact⟨[],t::ts,rfl,λ_ h=>by grind,.inr ⟨t,ts,rfl,hb⟩⟩
  |false =>
   obtain⟨Je,iU,e,h1,h2⟩:=xt ts
   grind
theorem Afk(he:EnvOk P en)(hA:oo Ca.toList A){σ':St}(Xm:∀a' w' g',LJ w' g' σ' a'->BK m w0 g0 w' g'->a'.defers=a0.defers->Q .normal a' w') :
    ∀(k:Nat) (ts:ATU Jo) (done O2:ATU Nat) (σ:St),ts.length=k->Tr en Ca.toList A done O2 σ ts σ'->(∀i,i<Ca.size->i∈done\/∃u∈ts,u.i=i)->(∀u∈ts,u.i<Ca.size)->(∀u∈ts,u.i∉done)->(ts.map (·.i)).Nodup ->
     (∀Cg t post,ts=Cg++t::post->∀u∈post,t.i∈Es A u.i\/t.o.apart Ca u.o=true)->(∀Cg t post,ts=Cg++t::post->∀d∈VD Ca.toList t.i,d∈done\/∃u∈Cg,u.i=d)->m<=σ.Aj.length ->
     ∀(listed:Array Bool) (a:Act) (w:World) (g:G),listed.size=Ca.size->(∀i∈done,Bf listed i=true)->(∀u∈ts,Bf listed u.i=false)->jH A (Bf listed)->LJ w g σ a->BK m w0 g0 w g->a.defers=a0.defers->wpAny P .any Ca Q k listed a w:=by
 intro k;induction k using Nat.strongRecOn with
 |_ k ih =>
  intro ts done O2 σ hk iO nE Bp AGi Tn Zu gR hm listed a w g hs gL SJ OO BS AGW AJ0;obtain⟨Je,iU,rfl,Un,AhJ⟩:=xt ts;obtain⟨Acu,σ1,ht1,ht2⟩:=iO.split;obtain⟨_,_,lx,AJ2⟩:=ht1.ov he Un;have AKl:(Je.map (·.i)).Nodup:=by
   rw[AQY,ASh]at Tn;exact Tn.1
  have AGv:left (Bf listed) Je=Je.length:=by
   unfold left;rw[List.filter_eq_self.2 λu hu=>by rw[SJ u (by simp[hu])];rfl]
  have Zt:∀u∈iU,∀v∈Je,v.i≠u.i:=λu hu v hv=>by
   rw[AQY,ASh]at Tn;exact Tn.2.2 v.i (List.mem_map.2 ⟨v,hv,rfl⟩) u.i (List.mem_map.2 ⟨u,hu,rfl⟩)
  have hBn:Ij (Bf listed) Je σ.Aj=σ.Aj:=Z5 λu hu hd=>by rw[SJ u (by simp[hu])]at hd;cases hd
  have hSn:∀i,(MV (Bf listed) Je σ.AU)[i]?=σ.AU[i]?:=λi=>Z6 λu hu hd=>by rw[SJ u (by simp[hu])]at hd;cases hd
  have AGu:k=Je.length+(iU.map (·.i)).length:=by rw[AQr,<-AQj];exact hk.symm
  rw[AGu];refine AiI (a0:=a0) (w0:=w0) (g0:=g0) he hA ht1 Un (iU.map (·.i)) (λi hi=>?_) (λu hu=>Bp u (by simp[hu])) AKl (λCg t post Zx u hu=>Zu Cg t (post++iU) (by rw[Zx];simp) u (by simp[hu])) (λCg t post Zx=>gR Cg t (post++iU) (by rw[Zx];simp))
   (λi hi D hD Yd hRf u hu=>?_) (λr hr=>?_) (λi x hx=>(BS.AU i x hx).UQ) BS.heap.scp hm (λAbA a' w' g' ff hd' Al9 hR' Ahl iN AhP AnO=>?_) Je.length listed a w g hs AGv ?_
  ·rcases nE i hi with h |⟨u,hu,e⟩
   ·exact .inl h
   ·rcases List.mem_append.1 hu with hu |hu
    ·exact .inr (.inl ⟨u,hu,e⟩)
    ·exact .inr (.inr (List.mem_map.2 ⟨u,hu,e⟩))
  ·rcases AhJ with rfl |⟨b,r,rfl,hb⟩
   ·cases hi
   ·obtain⟨p1,p2⟩:=iO.bD;rw[AQ0]at hi;rcases List.mem_cons.1 hi with rfl |hi
    ·exact Yd _ ((p2 hb).2 u hu)
    ·obtain⟨v,hv,rfl⟩:=List.mem_map.1 hi;have h1:=Yd _ (p1 (by simp[hb]) v hv);rw[hRf b.i (by simp)]at h1;cases h1
  ·obtain⟨v,hv,rfl⟩:=List.mem_map.1 hr;exact⟨AGi v (by simp[hv]),λu hu=>Zt v hv u hu⟩
  ·rcases AhJ with rfl |⟨b,r,rfl,hb⟩
   ·cases ht2;refine⟨List.eq_nil_iff_forall_not_mem.2 λi hi=>?_,Xm a' w' g' iN AhP AnO⟩;obtain⟨hil,hiu,_⟩:=(V5 ff).1 hi;rcases nE i hil with h |⟨u,hu,e⟩
    ·rw[hd' i h]at hiu;cases hiu
    ·rw[<-e,Al9 u (by simpa using hu)]at hiu;cases hiu
   ·rw[AQ0,ARe,AQr];have hbr:b.i∈Region.ready .any Ca AbA:=(V5 ff).2 ⟨Bp b (by simp),hR' b.i (by simp),λd hd=>by
     rcases gR Je b r rfl d hd with h |⟨u,hu,e⟩
     ·exact hd' d h
     ·rw[<-e];exact Al9 u hu⟩
    refine⟨λh=>by(rw[h]at hbr;cases hbr),λi hi=>?_⟩;obtain⟨hil,hiu,Y4⟩:=(V5 ff).1 hi;have Yd:=pT hA Ahl Y4;obtain⟨p1,p2⟩:=iO.bD;have hib:i=b.i:=by
     rcases nE i hil with h |⟨u,hu,rfl⟩
     ·rw[hd' i h]at hiu;cases hiu
     ·rcases List.mem_append.1 hu with hu |hu
      ·rw[Al9 u hu]at hiu;cases hiu
      ·rcases List.mem_cons.1 hu with rfl |hu
       ·rfl
       ·have:=Yd _ (p1 (by simp[hb]) u hu);rw[hR' b.i (by simp)]at this;cases this
    subst hib;cases ht2 with
    |cons hσ ok ha hbd next =>
     subst hσ;have ho:Ca[b.i]?=some b.o:=by rw[<-AQt];exact ok.1
     have rP:=ok.2;cases hq:b.e with
     |none=>simp[Jo.nh,hq]at hb
     |some e =>
      rw[hq]at rP;have Q3:=TL he rP.2;unfold wpOp;simp only[ho];rw[AQx (Kj iN rP.1)];have UO:m<=b.σ.Aj.length:=by rw[AJ2,AQj];omega
      refine .inl (Q3.wp a' w' g' iN _ Q λv w2 g2 H2 hv2 Qw=>?_);have YK:b.post=b.σ.after b.o.dst e:=by simp[Jo.post,hq]
      have Ie:=AbB (listed:=AbA) (i:=b.i) (by omega);have AGR:∀u∈r,u.i≠b.i:=(wF Tn rfl).2;refine ih r.length (by rw[<-hk];simp;omega) r (b.i::((Je.map (·.i)).reverse++done)) _ b.post rfl next (λi hi=>?_) (λu hu=>Bp u (by simp[hu])) (λu hu=>?_) ?_ (λCg t post Zx u hu=>Zu (Je++b::Cg) t post (by rw[Zx];simp) u hu) (λCg t post Zx d hd=>?_) (by rw[YK];exact AQJ UO Q3.grow)
       _ _ w2 g2 (by simpa using ff) (λi hi=>?_) (λu hu=>?_) (λi hi x hx=>?_) (by rw[YK];exact iN.after Q3.grow H2 hv2 Qw) (AhP.trans (Qw.toC UO)) (by rw[put_defers];exact AnO)
      ·rcases nE i hi with h |⟨u,hu,e⟩
       ·exact .inl (by simp[h])
       ·rcases List.mem_append.1 hu with hu |hu
        ·exact .inl (by simp;exact .inr (.inl ⟨u,hu,e⟩))
        ·rcases List.mem_cons.1 hu with rfl |hu
         ·exact .inl (by simp[e])
         ·exact .inr ⟨u,hu,e⟩
      ·have h1:=AGi u (by simp[hu]);have h2:=AGR u hu;have h3:∀v∈Je,v.i≠u.i:=λv hv=>Zt u (by simp[hu]) v hv;simp only[ARP,ARL,List.mem_reverse,List.mem_map,not_or,not_exists,not_and];exact⟨h2,λv hv=>h3 v hv,h1⟩
      ·rw[AQY,ASh,AQ0,List.nodup_cons]at Tn;exact Tn.2.1.2
      ·rcases gR (Je++b::Cg) t post (by rw[Zx];simp) d hd with h |⟨u,hu,e⟩
       ·exact .inl (by simp[h])
       ·rcases List.mem_append.1 hu with hu |hu
        ·exact .inl (by simp;exact .inr (.inl ⟨u,hu,e⟩))
        ·rcases List.mem_cons.1 hu with rfl |hu
         ·exact .inl (by simp[e])
         ·exact .inr ⟨u,hu,e⟩
      ·rw[Ie];split
       ·rfl
       ·rename_i LN;rcases List.mem_cons.1 hi with h |h
        ·exact(LN h).elim
        ·rcases List.mem_append.1 h with h |h
         ·obtain⟨u,hu,rfl⟩:=List.mem_map.1 (List.mem_reverse.1 h);exact Al9 u hu
         ·exact hd' i h
      ·rw[Ie,AQy (AGR u hu)];exact hR' u.i (by simp;exact .inr ⟨u,hu,rfl⟩)
      ·rw[Ie]at hi⊢;split
       ·rfl
       ·split at hi
        ·rename_i e;subst e;exact Yd x hx
        ·exact Ahl i hi x hx
  ·refine⟨gL,λi hi=>.inl ?_,OO,AJ0,BS.len,AGW,by rw[hBn];exact BS.heap,λi x hx=>?_,λu hu hd=>by(rw[SJ u (by simp[hu])]at hd;cases hd),λu hu hd=>by(rw[SJ u (by simp[hu])]at hd;cases hd)⟩
   ·have hil:i<Ca.size:=by
      unfold Bf at hi;rcases AQq i listed.size with h' |h'
      ·omega
      ·simp[ARd,Array.getElem?_eq_none h']at hi
    rcases nE i hil with h |⟨u,hu,rfl⟩
    ·exact h
    ·rw[SJ u hu]at hi;cases hi
   ·rw[hSn]at hx;rw[hBn];exact BS.AU i x hx
end
theorem gb:∀{l:ATU Nat},nodup l=true->l.Nodup
 |[],_=>List.nodup_nil
 |k::r,h=>by
  simp only[nodup,AQm]at h;rw[List.nodup_cons];exact⟨by grind,gb h.2⟩
theorem wL{all:ATU Oper}{A:ATU (Nat×ATU Nat)}:∀{L Cg post:ATU Nat} {i:Nat},d9 all A L=true->L=Cg++i::post->∀j∈post,i∈Es A j\/∃x y,all[i]?=some x/\all[j]?=some y/\x.apart all.toArray y=true
 |[],Cg,post,i,_,h=>by simp at h
 |k::L,[],post,i,hp,h=>by
  injection h with h1 h2;subst h1;subst h2;intro j hj;simp only[d9,AQm]at hp
  grind
 |k::L,p::Cg,post,i,hp,h=>by
  injection h with h1 h2;simp only[d9,AQm]at hp;exact wL hp.2 h2
theorem AbV{all:ATU Oper}:∀{L Cg post done:ATU Nat} {i:Nat},mq all L done=true->L=Cg++i::post->∀d∈VD all i,d∈done\/d∈Cg
 |[],Cg,post,done,i,_,h=>by simp at h
 |k::L,[],post,done,i,hp,h=>by
  injection h with h1 h2;subst h1;intro d hd;simp only[mq,AQm]at hp
  grind
 |k::L,p::Cg,post,done,i,hp,h=>by
  injection h with h1 h2;subst h1;simp only[mq,AQm]at hp;intro d hd;rcases AbV hp.2 h2 d hd with h |h
  ·grind
  ·grind
theorem rq{P:Program}{en:G5}{m:Nat}(he:EnvOk P en)(AKj:P.follows .mixedOrders=true){id:Nat}{Ca:Array Oper}{L:ATU Nat}(gO:Afj Ca.toList L=true){σ σ':St}(hx:VG en Ca.toList (Zd Ca.toList L []) L [] [] σ some=some σ')(hm:m<=σ.Aj.length) :
    m<=σ'.Aj.length/\∀(a:Act) (w:World) (g:G) (Q:Exit->Act->World->Prop),LJ w g σ a->(∀a' w' g',LJ w' g' σ' a'->BK m w g w' g'->a'.defers=a.defers->Q .normal a' w')->(Code.region id Ca true).wp P Q a w:=by
 simp only[Afj,AQm]at gO;obtain⟨⟨⟨⟨Tn,nE⟩,Bp⟩,Zu⟩,gR⟩:=gO;obtain⟨ts,bl,iO⟩:=dF he.bB hx;have hA:oo Ca.toList (Zd Ca.toList L []):=ow _ L [] (λi x h=>by cases h) Tn λi _ p hp=>by grind
 have grow:∀{ts:ATU Jo} {done O2:ATU Nat} {σ σ':St},Tr en Ca.toList (Zd Ca.toList L []) done O2 σ ts σ'->σ.Aj.length<=σ'.Aj.length:=by
  intro ts;induction ts with
  |nil=>intro done O2 σ σ' h;cases h;exact AQl _
  |cons t ts ih =>
   intro done O2 σ σ' h;cases h with
   |cons hσ ok ha hb next =>
    subst hσ;refine AQJ ?_ (ih next)
    have ok2:=ok.2;unfold Jo.post;cases hq:t.e with
    |none=>exact AQl _
    |some e =>
     rw[hq]at ok2;exact(TL he ok2.2).grow
 have AHb:∀Cg t post,ts=Cg++t::post->L=Cg.map (·.i)++t.i::post.map (·.i):=λCg t post h=>by grind
 refine⟨AQJ hm (grow iO),λa w g Q hs hq=>wp_region_any AKj ?_⟩;have Sx:LJ {w with drawn:=w.drawn+1} g σ a:=⟨hs.heap.drew,hs.len,λi x hx=>(hs.AU i x hx).Sb (Step.drew [] _ w g) (AQl _)⟩;have hlen:ts.length=Ca.size:=by
  have h1:ts.length=L.length:=by grind
  have hn:=gb Tn;have Y2:∀i∈L,i∈List.range Ca.size:=λi hi=>by
   grind
  have AKG:∀i∈List.range Ca.size,i∈L:=λi hi=>by
   grind
  have h2:=hn.length_le_of_subset Y2;have h3:=List.nodup_range.length_le_of_subset AKG
  grind
 have rS:∀i,Bf (Array.replicate Ca.size false) i=false:=λi=>by
  unfold Bf;rw[ARd,Array.getElem?_replicate];split<;>rfl
 refine Afk (m:=m) (a0:=a) (w0:=w) (g0:=g) he hA hq Ca.size ts [] [] σ hlen iO (λi hi=>.inr ?_) (λu hu=>?_) (λu _ h=>by grind) (by rw[bl];exact gb Tn) (λCg t post Zx u hu=>?_) (λCg t post Zx d hd=>?_) hm
  _ a _ g (by simp) (λi hi=>by grind) (λu _=>rS _) (λi hi=>by grind) Sx (Step.drew _ _ w g) rfl
 ·have:=List.all_eq_true.1 nE i (by grind)
  grind
 ·have hu':u.i∈L:=by grind
  grind
 ·rcases wL Zu (AHb Cg t post Zx) u.i (List.mem_map.2 ⟨u,hu,rfl⟩)with h |⟨x,y,hx,hy,h⟩
  ·grind
  ·have h1:=(iO.Aiq t (by grind)).1;have h2:=(iO.Aiq u (by rw[Zx];simp[hu])).1;rw[hx]at h1;injection h1 with h1;rw[hy]at h2;injection h2 with h2;subst h1;subst h2;exact .inr (by simpa using h)
 ·rcases AbV gR (AHb Cg t post Zx) d hd with h |h
  ·cases h
  ·obtain⟨u,hu,e⟩:=List.mem_map.1 h;exact .inr ⟨u,hu,e⟩
end Go.Va
namespace Go.Va
section
variable {P:Program} {en:G5} {m:Nat}
def yi(P:Program)(en:G5)(m:Nat)(c:Code):Prop:=∀(σ:St) (e:Ex) (σ':St),ev en m c (Ex×St) σ Sz=some (e,σ')->m<=σ.Aj.length->m<=σ'.Aj.length /\
 ∀(a:Act) (w:World) (g:G) (Q:Exit->Act->World->Prop),LJ w g σ a->(∀a' w' g',LJ w' g' σ' a'->BK m w g w' g'->a'.defers=a.defers->Q (rr e) a' w')->c.wp P Q a w
theorem dH(he:aN en){c:Code}{R:Type}{σ:St}{K:Ex->St->ATV R}{r:R}(h:ev en m c R σ K=some r):∃e s,ev en m c (Ex×St) σ Sz=some (e,s)/\K e s=some r:=by
 rw[X9 he]at h;cases hx:ev en m c _ σ _ with
 |none=>grind
 |some p=>grind
theorem Amr(he:JM P en){body:Code}(ih:yi P en m body):yi P en m (.loop body):=by
 intro σ e σ' h hm;simp only[ev]at h;split at h
 ·rename_i hh ho _ _;split at h
  ·grind
  ·rename_i σ0 hσ0;have h:(fix (pZ en m hh ho body) σ0).bind (λp=>Sz p.1 p.2)=some _:=h;cases hf:fix (pZ en m hh ho body) σ0 with
   |none=>grind
   |some p =>
    rw[hf]at h;have h:p=(e,σ'):=by grind
    subst h;obtain⟨n,hn⟩:=(XC.1 hf).n;have Xm:∀n s,ToN (pZ en m hh ho body) n s (e,σ')->m<=s.Aj.length->m<=σ'.Aj.length:=by
     intro n s hs;generalize ht:(e,σ')=t at hs;induction hs with
     |done hd =>
      subst ht;intro hms;obtain⟨e1,s',hb,hc⟩:=Yq he.bB hd;rcases hc with ⟨_,aD,_,hr⟩|⟨_,aD,hh2,hr⟩
      ·grind
      ·injection hr with hr;injection hr with h1 h2;subst h2;exact XE hh2
     |fZ hd _ ihn =>
      intro hms;obtain⟨e1,s',hb,hc⟩:=Yq he.bB hd;rcases hc with ⟨_,aD,AhC,hr⟩|⟨_,aD,_,hr⟩
      ·injection hr with hr;subst hr;exact ihn ht (XE AhC)
      ·grind
    have zw :=XE hσ0;refine⟨Xm n σ0 hn zw,λa w g Q hs hq=>?_⟩;obtain⟨g0,ya,vS,_⟩:=Ye hσ0 hs hm;refine Ad7 (λn a' w'=>∃s g',ToN _ n s _/\LJ w' g' s a'/\m<=s.Aj.length/\BK m w g w' g'/\a'.defers=a.defers) (λn a1 w1 hR=>?_)  ⟨σ0,g0,hn,ya,zw,vS,rfl⟩;obtain⟨s,g1,vT,Sx,hms,Yg,jj⟩:=hR;cases vT with
    |done hd =>
     obtain⟨e1,s',hb,hc⟩:=Yq he.bB hd;rcases hc with ⟨_,aD,_,hr⟩|⟨LN,aD,hh2,hr⟩
     ·grind
     ·injection hr with hr;injection hr with h1 h2;subst h1;subst h2;obtain⟨Av8,rV⟩:=ih _ _ _ hb hms;refine rV a1 w1 g1 _ Sx λa2 w2 g2 ak zA hd2=>?_;obtain⟨g3,vQ,AhO,_⟩:=Ye hh2 ak Av8;have hQ:=hq a2 w2 g3 vQ ((Yg.trans zA).trans AhO) (hd2.trans jj);cases e with
      |normal=>grind
      |exit k=>exact hQ
      |ret=>exact hQ
    |fZ hd AKI =>
     rename_i k;obtain⟨e1,s',hb,hc⟩:=Yq he.bB hd;rcases hc with ⟨he1,aD,AhC,hr⟩|⟨_,aD,_,hr⟩
     ·injection hr with hr;subst hr;subst he1;obtain⟨Av8,rV⟩:=ih _ _ _ hb hms;refine rV a1 w1 g1 _ Sx λa2 w2 g2 ak zA hd2=>?_;obtain⟨g3,vQ,AhO,hm3⟩:=Ye AhC ak Av8;exact⟨k,AQV _,_,g3,AKI,vQ,hm3,(Yg.trans zA).trans AhO,hd2.trans jj⟩
     ·grind
 ·grind
theorem b6:∀{l:ATU (ATV Unit)},vo l=some ()->∀x∈l,x=some ()
 |[],_,_,h=>by grind
 |[x],h,y,hy=>by rw[AQG]at hy;subst hy;exact h
 |x::y::r,h,z,hz=>by
  simp only[vo]at h;cases hf:x with
  |none=>grind
  |some u =>
   rw[hf]at h;rcases List.mem_cons.1 hz with rfl |hz
   ·grind
   ·exact b6 h z hz
theorem AgT(he:JM P en){σ σ0:St}{l:ATV (ATU Nat)}(h:AlN m σ l=some σ0)(hm:m<=σ.Aj.length):m<=σ0.Aj.length/\∀{a:Act} {w:World} {g:G},LJ w g σ a->∃g0,LJ w g0 σ0 a/\BK m w g w g0:=by
 cases l with
 |none=>simp only[AlN,AQh]at h;subst h;exact⟨hm,λhs=>⟨_,hs,BK.refl _ _ _⟩⟩
 |some l =>
  have h:σ.head {A7:=l} m=some σ0:=h;exact⟨XE h,λhs=>by obtain⟨g1,h1,h2,_⟩:=Ye h hs hm;exact⟨g1,h1,h2⟩⟩
theorem AgY(he:aN en){σ:St}{o:Oper}{e:Ih}(ha:jW en σ o=none)(hs:wY en σ o=none)(ht:tlE en σ o=none)(hc:∀c,o.op≠.call c)(h:exec en σ o some=some e):∃e0,Ss en σ o some=some e0:=by
 have h:WB en σ o some=some e:=by
  unfold exec at h
  grind
 unfold WB at h;rw[ha,hs,ht]at h;simp only at h;split at h
 ·cases hd:kF en o with
  |false=>grind
  |true =>
   rw[hd]at h;rw[NH en he]at h;cases hx:Ss en σ o some with
   |none=>grind
   |some e0=>grind
 ·rw[NH en he]at h;cases hx:Ss en σ o some with
  |none=>grind
  |some e0=>grind
theorem fv{α:Type}{k:IntKind}{x y:Int}{c:BoundsCode}{w w1:World}{r:α}(h:(boundsPanic k x y c:Sem α).run P w=.ok r w1):False:=by
 unfold boundsPanic at h;split at h
 ·rw[Sem.run_bind]at h;generalize (Sem.run P _ w)=q at h;cases q with
  |halt e w=>cases h
  |ok b w2=>simp[runtimePanic]at h
 ·simp[runtimePanic]at h
theorem eJ{t:TypeId}{w w1:World}{n:Nat}(h:(sizeOf t).run P w=.ok n w1):∀w',(sizeOf t).run P w'=.ok n w':=by
 intro w';unfold sizeOf typeInfo at h⊢;simp only[Sem.run_bind]at h⊢;have hp:(program).run P w=.ok P w:=rfl;have hp':(program).run P w'=.ok P w':=rfl;simp only[hp,hp',Result.andThen_ok]at h⊢;cases hq:P.info? t with
 |none=>rw[hq]at h;simp at h
 |some i=>rw[hq]at h;simp at h⊢;exact h.1
theorem nP{t:TypeId}{u v c:Value}{w w1:World}(h:(Instr.indexAt t u v).run P w=.ok c w1):∀w',(Instr.indexAt t u v).run P w'=.ok c w':=by
 intro w';unfold Instr.indexAt at h⊢;cases v with
 |int k i =>
  simp only[asIntOf,pure_bind]at h⊢;cases hu:P.underlying t with
  |none=>simp[underlying,hu]at h
  |some d =>
   cases d with
   |slice elem =>
    cases u with
    |slice base len cap =>
     simp[underlying,hu]at h⊢;cases base with
     |none=>exact(fv (by simpa using h)).elim
     |some a =>
      simp only at h⊢;split at h
      ·rename_i hc;rw[AQx hc];simp only[Sem.run_map]at h⊢;cases hs:(sizeOf elem).run P w with
       |halt e w=>rw[hs]at h;cases h
       |ok n w2 =>
        rw[hs]at h;rw[eJ hs w'];simp at h⊢;exact h.1
      ·exact(fv (by simpa using h)).elim
    |_=>simp[underlying,hu]at h
   |array len elem =>
    cases u with
    |pointer p =>
     cases p with
     |none=>simp[underlying,hu,Instr.sureAddr]at h
     |some a =>
      simp[underlying,hu,Instr.sureAddr]at h⊢;split at h
      ·rename_i hc;rw[AQx hc];cases hs:(sizeOf elem).run P w with
       |halt e w=>rw[hs]at h;cases h
       |ok n w2 =>
        rw[hs]at h;rw[eJ hs w'];simp at h⊢;exact h.1
      ·split at h
       ·cases h
       ·exact(fv h).elim
    |_=>simp[underlying,hu,Instr.sureAddr]at h
   |_=>simp[underlying,hu]at h
 |pointer p=>cases p<;>simp[asIntOf]at h
 |_=>simp[asIntOf]at h
def tM(P:Program){α:Type}(s:Sem α):Prop:=∀w w1 c,s.run P w=.ok c w1->∀w',s.run P w'=.ok c w'
theorem tM.pure{α:Type}(x:α):tM P (Pure.pure x:Sem α):=λw w1 c h w'=>by simp at h⊢;exact h.1
theorem tM.bind{α β:Type}{s:Sem α}{f:α->Sem β}(h1:tM P s)(h2:∀x,tM P (f x)):tM P (s >>= f):=λw w1 c h w'=>by
 rw[Sem.run_bind]at h⊢;cases hs:s.run P w with
 |halt e w2=>rw[hs]at h;cases h
 |ok x w2 =>
  rw[hs]at h;rw[h1 _ _ _ hs w'];exact h2 x _ _ _ h w'
theorem tM.info(t:TypeId):tM P (typeInfo t):=λw w1 c h w'=>by
 unfold typeInfo at h⊢;simp only[Sem.run_bind]at h⊢;have hp:(program).run P w=.ok P w:=rfl;have hp':(program).run P w'=.ok P w':=rfl;simp only[hp,hp',Result.andThen_ok]at h⊢;cases hq:P.info? t with
 |none=>rw[hq]at h;simp at h
 |some i=>rw[hq]at h;simp at h⊢;exact h.1
theorem tM.mapM{α β:Type}{f:α->Sem β}(h:∀x,tM P (f x)):∀l:ATU α,tM P (l.mapM f)
 |[]=>by exact .pure _
 |x::l=>by rw[List.mapM_cons];exact .bind (h x) λy=>.bind (tM.mapM h l) λys=>.pure _
theorem tM.map{α β:Type}{s:Sem α}(f:α->β)(h:tM P s):tM P (f <$> s):=by
 exact .bind h λx=>.pure _
theorem uA(t:TypeId)(G3:Array (Nat×Value)):tM P (Instr.build t G3):=by
 have NC:∀t,tM P (sizeOf t):=λt=>by exact .bind (.info t) λ_=>.pure _
 have SJ:tM P (underlying t):=by
  refine .bind (λw w1 c h w'=>?_) λp=>?_
  ·have hp:(program).run P w=.ok P w:=rfl;have hp':(program).run P w'=.ok P w':=rfl
   grind
  ·split
   ·exact .pure _
   ·exact λw w1 c h=>by simp at h
 refine .bind (.bind (.info t) λi=>?_) λz=>?_
 ·split
  ·exact .pure _
  ·exact λw w1 c h=>by simp at h
 ·refine .bind SJ λd=>?_;split
  ·refine .bind ?_ λps=>?_
   ·rw[Array.mapM_eq_mapM_toList];exact .map _ (.mapM (λf=>.bind (NC _) λ_=>.pure _) _)
   ·split
    ·exact .pure _
    ·exact λw w1 c h=>by simp at h
  ·refine .bind (NC _) λn=>?_;split
   ·exact .pure _
   ·exact λw w1 c h=>by simp at h
  ·exact λw w1 c h=>by simp at h
theorem pP(he:EnvOk P en){σ:St}{o:Oper}{e:Ih}(hp:AbK o=true)(hx:exec en σ o some=some e){w w1:World}{g:G}{a:Act}(hs:LJ w g σ a){n:Next}(hr:(execOp a.eval o).run P w=.ok n w1) :
    ∃c,∀w',(execOp a.eval o).run P w'=.ok (.value c) w':=by
 unfold AbK at hp;split at hp
 ·rename_i x ho;exact⟨a.eval x,λw'=>by simp[execOp,ho]⟩
 ·rename_i x ho;exact⟨a.eval x,λw'=>by simp[execOp,ho]⟩
 ·rename_i x i ho;simp only[execOp,ho,Instr.extract]at hr⊢;split at hr
  ·split at hr
   ·rename_i v hv;exact⟨v,λw'=>by simp⟩
   ·cases hr
  ·cases hr
 ·rename_i t x f ho;have ha:jW en σ o=none:=by unfold jW;rw[ho]
  obtain⟨e0,hx⟩:=AgY he.bB ha (by unfold wY Adv;rw[ho]) (by unfold tlE;rw[ho]) (λc e=>by grind) hx;unfold Ss at hx;rw[ho]at hx;simp only at hx;split at hx
  ·rename_i ti ht;have YL:=AX hs x;unfold ny at hx;split at hx
   ·rename_i k i p q hq;rw[hq]at YL;split at hx
    ·rename_i fo hfo;obtain⟨_,_,_,b,_,e1⟩:=L1 YL;exact⟨.pointer (some ⟨b,i.toNat*(g.A2 k).oQ+q+fo,none⟩),λw'=>by simp[execOp,ho,e1,(WC   (he.t ht) hfo b _).1]⟩
    ·grind
   ·rename_i ks t' y hq;rw[hq]at YL;split at hx
    ·rename_i hc;obtain⟨_,b,off,ds,e1,_⟩:=Z2 YL;cases hfo:ti.XQ[f]? with
     |none =>
      rw[hfo]at hc;obtain⟨rfl,hc⟩:=hc;split at hx
      ·rename_i Vb u z hz
       exfalso
       have:∀(f:Nat) (t:Ty) (x:t.V) (v:AV),Yb ks t x f=some v->V2 t f≠none:=by
        intro f;induction f with
        |zero=>intro t x v h;cases t<;>simp[Yb,V2]at h⊢
        |succ f ih =>
         intro t x v h;cases t with
         |AH a b =>
          have:=ih b x.2 v h;simp only[V2]
          grind
         |_=>simp[Yb]at h
       exact this f _ y _ hz hc
      ·grind
     |some fo=>exact⟨.pointer (some ⟨b,off+fo,none⟩),λw'=>by simp[execOp,ho,e1,(WC   (he.t ht) hfo b _).1]⟩
    ·grind
   ·grind
  ·grind
 ·rename_i t x i ho;simp only[execOp,ho]at hr⊢;rw[Sem.run_bind]at hr;cases hq:(Instr.indexAt t _ _).run P w with
  |halt e w=>rw[hq]at hr;cases hr
  |ok c w2=>exact⟨c,λw'=>by rw[Sem.run_bind,nP hq w'];rfl⟩
 ·rename_i t G3 ho;simp only[execOp,ho]at hr⊢;rw[Sem.run_bind]at hr;cases hq:(Instr.build t _).run P w with
  |halt e w=>rw[hq]at hr;cases hr
  |ok c w2=>exact⟨c,λw'=>by rw[Sem.run_bind,uA _ _ _ _ _ hq w'];rfl⟩
 ·grind
theorem c8(he:JM P en){h:SH}{Ca:Array Oper}{σ':St}{Q:Exit->Act->World->Prop}{a0:Act}{w0:World}{g0:G}
    (Xm:∀a' w' g',LJ w' g' σ' a'->BK m w0 g0 w' g'->a'.defers=a0.defers->Q .normal a' w') (fM:Region.noSelect Ca=true) (hQ:∀c a w,¬Q (.panic c) a w) :
    ∀(k:Nat) (listed:Array Bool) (σ:St),Acv en h m Ca σ' k listed σ=some ()->m<=σ.Aj.length->∀(a:Act) (w:World) (g:G),LJ w g σ a->BK m w0 g0 w g->a.defers=a0.defers->wpAny P .any Ca Q k listed a w
 |0,listed,σ,hw,hm,a,w,g,hs,BS,hd=>by
  simp only[Acv]at hw;split at hw
  ·rename_i hr;split at hw
   ·rename_i s hh;unfold nt at hw;split at hw
    ·rename_i e;subst e;obtain⟨g1,Sx,SA,_⟩:=Ye hh hs hm;exact⟨by grind,Xm a w g1 Sx (BS.trans SA) hd⟩
    ·grind
   ·grind
  ·grind
 |k+1,listed,σ,hw,hm,a,w,g,hs,BS,hd=>by
  simp only[Acv]at hw;split at hw
  ·rename_i i hi;have hp:=List.find?_some hi;have nH:=List.mem_of_find?_eq_some hi;rw[AQm]at hp;simp only[Sr]at hw;split at hw
   ·grind
   ·rename_i o ho;have ho':Ca[i]?=some o:=by grind
    rw[ho']at hp;rcases QB hw with ⟨hwt,h1⟩|⟨hwt,h1⟩
    ·rw[TK en he.bB]at h1;cases hx:exec en σ o some with
     |none=>grind
     |some e =>
      rw[hx]at h1;have Q3:=TL he.toEnvOk hx;have QC:=Q3.grow;have rV:=Q3.wp a w g hs (wpAny P .any Ca Q k (listed.setIfInBounds i true)) (λ_ _ _=>False) λv w' g' hH hv iN=>c8 he Xm fM hQ k _ _ h1 (AQJ hm QC) _ _ _ (hs.after QC hH hv iN) (BS.trans (iN.toC hm)) (by rw[Go.Va.put_defers];exact hd);have Ep:∃n w1,(execOp a.eval o).run P w=.ok n w1:=by
       unfold Oper.wp at rV;cases hq:(execOp a.eval o).run P w with
       |ok n w1=>grind
       |halt e w1=>rw[hq]at rV;cases e<;>exact rV.elim
      obtain⟨n,w1,Ep⟩:=Ep;obtain⟨c,hc⟩:=pP he.toEnvOk hp.1 hx hs Ep;have hy:Yields P Ca o c a:=.inl ⟨Kj hs hwt,hc⟩;refine wpAny_take ho' fM hp.2 (by grind) (λc a w h=>(hQ c _ _ h).elim) hy ?_;unfold Oper.wp at rV;rw[hc w]at rV;exact rV
    ·have hy:Yields P Ca o undef a:=.inr ⟨Kj hs hwt,rfl⟩;refine wpAny_take ho' fM hp.2 (by grind) (λc a w h=>(hQ c _ _ h).elim) hy ?_;exact c8 he Xm fM hQ k _ _ h1 hm _ _ _ (hs.skip o.dst) BS (by rw[Go.Va.put_defers];exact hd)
  split at hw
  ·grind
  ·rename_i hr;refine⟨λe=>by grind,λi hi=>?_⟩;have h1:=b6 hw _ (List.mem_map_of_mem hi);simp only[Sr]at h1;unfold wpOp;split at h1
   ·grind
   ·rename_i o ho;have ho':Ca[i]?=some o:=by grind
    simp only[ho'];rcases QB h1 with ⟨hw,h1⟩|⟨hw,h1⟩
    ·rw[TK en he.bB]at h1;cases hx:exec en σ o some with
     |none=>grind
     |some e =>
      rw[hx]at h1;have Q3:=TL he.toEnvOk hx;have QC:=Q3.grow;rw[AQx (Kj hs hw)];refine .inl (Q3.wp a w g hs _ Q λv w' g' hH hv iN=>?_);exact c8 he Xm fM hQ k _ _ h1 (AQJ hm QC) _ _ _ (hs.after QC hH hv iN) (BS.trans (iN.toC hm)) (by rw[put_defers];exact hd)
    ·rw[Kj hs hw];exact c8 he Xm fM hQ k _ _ h1 hm _ _ _ (hs.skip o.dst) BS (by rw[put_defers];exact hd)
theorem LJ.cut{w:World}{g:G}{σ:St}{a:Act}(hs:LJ w g σ a):LJ w (g.cut σ.Aj.length) σ a:=by
 have kW:∀b,g.own b=.Jl->(g.cut σ.Aj.length).own b=.Jl:=λb h=>by simp[G.cut,h]
 refine⟨⟨λb hb=>by simp[G.cut,hs.heap.B3 b hb],λk x hx=>?_⟩,hs.len,λi x hx=>?_⟩
 ·have:=(hs.heap.MR k x hx).O0  kW (jg (A4 hx)) λj hj=>jg (hs.heap.scp k x hx j hj);rwa [bR]at this
 ·have h:=hs.AU i x hx;have:=h.O0    kW λk hk=>jg (h.UQ k hk);rwa [NG]at this
theorem zH(he:EnvOk P en){σ:St}{o:Oper}{e:Ih}{t:TypeId}{x:Operand}(ho:o.op=.load t x){k:Nat}{i:Int}{p:ATU Nat}{f:Nat}{a0:AV}(hx:σ.Cp x=.ptr k i p f)(hb:σ.Aj[k]?=some (.box a0))(hex:exec en σ o some=some e)
    {w:World} {g:G} {a:Act} (hs:LJ w g σ a):∃b,(g.A2 k).a=some ⟨b,0,none⟩/\∃c,∀w',w'.heap[b]?=w.heap[b]?->(execOp a.eval o).run P w'=.ok (.value c) w':=by
 have ha:jW en σ o=none:=by
  unfold jW
  grind
 obtain⟨e0,hex⟩:=AgY he.bB ha (by unfold wY Adv;rw[ho]) (by unfold tlE;rw[ho]) (λc e=>by grind) hex;unfold Ss at hex;rw[ho]at hex;simp only at hex;split at hex
 ·rename_i ti ht;have YL:=AX hs x;rw[hx]at YL hex;obtain⟨hk,h0,h1,b,OM,hpe⟩:=L1 YL;refine⟨b,OM,?_⟩;have hld:∃v,atP σ.Aj k i p f=some v/\v.size=ti.ty.size:=by
   split at hex
   ·split at hex
    ·unfold cF at hex;simp only[hb]at hex;cases hex
    ·grind
   ·unfold br at hex
    grind
  obtain⟨v,hv,NC⟩:=hld;obtain⟨cs,nF,DW⟩:=Xr hs.heap hv h1 OM;have hl:cs.length=ti.ty.size:=by rw[nF.len,NC]
  obtain⟨c,_,oY⟩:=T2 (P:=P) (w:=w) (he.t ht) hl DW (λhg=>by rw[hl];exact T9 hg);refine⟨c,λw' nJ=>?_⟩;obtain⟨c',hr,AhR⟩:=T2 (P:=P) (w:=w') (he.t ht) hl (λj u hu=>(Xw nJ).trans (DW j u hu)) (λhg=>by rw[hl];exact T9 hg);have:c'=c:=by
   cases hq:ti.ty.isAgg with
   |true=>rw[hq]at oY AhR;rw[oY,AhR]
   |false=>rw[hq]at oY AhR;rw[oY]at AhR;injection AhR with h _;exact h.symm
  subst this;simp[execOp,ho,hpe,Instr.loadAt,Instr.sureAddr,hr]
 ·grind
theorem Awv{ts:Array TypeId}{t:TypeId}{ad:ATV Addr}{n cp:Nat}{w w1:World}{v:Value}(h:(Builtin.len_ ts t #[.slice ad n cp]).run P w=.ok v w1)(w':World):(Builtin.len_ ts t #[.slice ad n cp]).run P w'=.ok v w':=by
 unfold Builtin.len_ at h⊢;cases ht:ts[0]? with
 |none=>simp[ht]at h
 |some t =>
  cases hu:P.underlying t with
  |none=>simp[ht,underlying,hu]at h
  |some d =>
   cases d with
   |pointer q =>
    cases hq:P.underlying q with
    |none=>simp[ht,underlying,hu,hq]at h
    |some d=>cases d<;>simp[ht,underlying,hu,hq,goInt]at h⊢<;>exact h.1
   |slice _=>simp[ht,underlying,hu,goInt]at h⊢;exact h.1
   |array _ _=>simp[ht,underlying,hu,goInt]at h⊢;exact h.1
   |_=>simp[ht,underlying,hu,goInt]at h
theorem Adm{o:Oper}{c:Call}(ho:o.op=.call c)(hc:c.callee=.builtin .len){a:Act}{X:Operand}(hX:c.args.toList=[X]){ad:ATV Addr}{n cp:Nat}(hv:a.eval X=.slice ad n cp){w w1:World}{nx:Next}(hr:(execOp a.eval o).run P w=.ok nx w1) :
    ∃v,∀w',(execOp a.eval o).run P w'=.ok (.value v) w':=by
 have hA:c.args=#[X]:=by grind
 have key:∀w',(execOp a.eval o).run P w'=((Builtin.len_ c.argTypes o.type #[.slice ad n cp]).run P w').andThen λv w'=>.ok (.value v) w':=λw'=>by
  simp[execOp,ho,resolve,hc,hA,hv,invoke,builtin]
 rw[key]at hr;cases hq:(Builtin.len_ _ _ _).run P w with
 |ok v w2=>exact⟨v,λw'=>by rw[key,Awv hq w'];rfl⟩
 |halt e w2=>rw[hq]at hr;cases hr
theorem Adz(he:EnvOk P en){Tk:ATU Blk}{σ:St}{o:Oper}{e:Ih}(hp:zT Tk σ o=true)(hx:exec en σ o some=some e){w w1:World}{g:G}{a:Act}(hs:LJ w g σ a){nx:Next}(hr:(execOp a.eval o).run P w=.ok nx w1)
    {B:Nat->Prop} {w0:World} (hN:∀k b,(g.A2 k).a=some ⟨b,0,none⟩->(∃a0,Tk[k]?=some (.box a0))->B b) (hw:∀b,B b->w.heap[b]?=w0.heap[b]?):∃c,∀w',(∀b,B b->w'.heap[b]?=w0.heap[b]?)->(execOp a.eval o).run P w'=.ok (.value c) w':=by
 unfold zT at hp;rw[ARA]at hp;rcases hp with hp |hp
 ·obtain⟨c,hc⟩:=pP he hp hx hs hr;exact⟨c,λw' _=>hc w'⟩
 ·split at hp
  ·rename_i t x ho;split at hp
   ·rename_i k i p f YL;split at hp
    ·rename_i a1 a0 xY hbb;obtain⟨b,OM,c,hc⟩:=zH he ho YL hbb hx hs;have hbn:=hN k b OM ⟨a1,xY⟩;exact⟨c,λw' nJ=>hc w' ((nJ b hbn).trans (hw b hbn).symm)⟩
    ·grind
   ·grind
  ·rename_i c ho;have go:∀(X:Operand),c.callee=.builtin .len->c.args.toList=[X]->(∃ad n cp,a.eval X=.slice ad n cp)->∃v,∀w',(∀b,B b->w'.heap[b]?=w0.heap[b]?)->(execOp a.eval o).run P w'=.ok (.value v) w':=λX h1 h2 ⟨ad,n,cp,h3⟩=>by
    obtain⟨v,hv⟩:=Adm ho h1 h2 h3 hr;exact⟨v,λw' _=>hv w'⟩
   split at hp
   ·rename_i hc rQ;unfold Qr at rQ;cases hl:c.args.toList with
    |nil=>grind
    |cons X r =>
     rw[hl]at rQ;cases r with
     |nil =>
      simp only[AQ0,ARN,AR3,and_true]at rQ;have hv:=AX hs X;rw[rQ]at hv;obtain⟨_,ad,cp,ds,hv,_⟩:=bQ hv;exact go X hc hl ⟨_,_,_,hv⟩
     |cons _ _=>grind
   ·rename_i hc rQ;unfold Qr at rQ;cases hl:c.args.toList with
    |nil=>grind
    |cons X r =>
     rw[hl]at rQ;cases r with
     |nil =>
      simp only[AQ0,ARN,AR3,and_true]at rQ;have hv:=AX hs X;rw[rQ]at hv;obtain⟨ad,hv⟩:=Ze hv;exact go X hc hl ⟨_,_,_,hv⟩
     |cons _ _=>grind
   ·grind
  ·rename_i op t x y yt ho;rw[AQm]at hp;obtain⟨h1,h2⟩:=hp;split at h2
   ·rename_i ks k u Vb k' v YL hyy;have hk:k=k':=by grind
    subst hk;have e1:=AX hs x;rw[YL]at e1;have e1:=DF e1;have e2:=AX hs y;rw[hyy]at e2;have e2:=DF e2;split at h1
    ·exact⟨_,λw' _=>by simp[execOp,ho,e1,e2,binOp];rfl⟩
    ·exact⟨_,λw' _=>by simp[execOp,ho,e1,e2,binOp];rfl⟩
    ·grind
   ·grind
  ·grind
theorem ve{R:Type}{all:ATU Oper}{Tk:ATU Blk}{i:Nat}{σ:St}{K:St->ATV R}{r:R}(h:evQ en all Tk i σ K=some r):∃o,all[i]?=some o/\Yc all σ o (λσ=>exec en σ o λe=>if e.BF.all (nbx Tk)then K (σ.after o.dst e)else none) (λσ=>K (σ.skip o.dst))=some r:=by
 unfold evQ at h
 grind
theorem Ad3{w:World}{g:G}{n:Nat}:BK m w g w (g.cut n) :=
 ⟨rfl,rfl,rfl,AQl _,λb _ h=>⟨by simp[G.cut,h],rfl⟩,λb h=>⟨by simp[G.cut,h],rfl⟩,λb k p h hk hm=>(hm (List.mem_range.2 hk)).elim,λk hk=>rfl⟩
def cS(gS:G)(Tk:ATU Blk)(b:Nat):Prop:=∃k a1,Tk[k]?=some (.box a1)/\(gS.A2 k).a=some ⟨b,0,none⟩
theorem zW{σ:St}{o:Oper}{e:Ih}(Q3:OL P σ o e){Tk:ATU Blk}{gS:G}(hme:e.BF.all (nbx Tk)=true){w:World}{g:G}{a:Act}(hs:LJ w g σ a)(hm:m<=σ.Aj.length)(hNl:Tk.length<=σ.Aj.length)(Cv:∀k a1 b,Tk[k]?=some (.box a1)->(gS.A2 k).a=some ⟨b,0,none⟩->g.own b=.BQ k []){next:Act->World->Prop}{Q:Exit->Act->World->Prop}
    (hn:∀v w' g',LJ w' g' (σ.after o.dst e) (a.put o.dst v)->BK m w g w' g'->(∀b,cS gS Tk b->w'.heap[b]?=w.heap[b]?)->(∀k,k<σ.Aj.length->g'.A2 k=g.A2 k)->(∀k a1 b,Tk[k]?=some (.box a1)->(gS.A2 k).a=some ⟨b,0,none⟩->g'.own b=.BQ k [])->next (a.put o.dst v) w'):o.wp P a w next Q:=by
 refine Q3.wp a w g hs next Q λv w' g' hH hv st=>?_
 have both:∀k a1 b,Tk[k]?=some _->(gS.A2 k).a=some _->w'.heap[b]?=w.heap[b]?/\g'.own b=.BQ k []:=λk a1 b hk hb=>by
  have h:=st.BQ b k [] (Cv k a1 b hk hb) (AQR (A4 hk) hNl) (λh=>by
   have:=List.all_eq_true.1 hme k h;unfold nbx at this;rw[hk]at this;cases this)
  exact⟨h.2,h.1⟩
 exact hn v w' g' (hs.after Q3.grow hH hv st) (st.toC hm) (λb ⟨k,a1,h1,h2⟩=>(both k a1 b h1 h2).1) (λk hk=>st.A2 k hk) λk a1 b h1 h2=>(both k a1 b h1 h2).2
theorem jb(he:JM P en){h:SH}{Ca:Array Oper}{σ':St}{Q:Exit->Act->World->Prop}{a0:Act}{w0:World}{g0 gS:G}
    (Xm:∀a' w' g',LJ w' g' σ' a'->BK m w0 g0 w' g'->a'.defers=a0.defers->Q .normal a' w') (fM:Region.noSelect Ca=true) (hQ:∀c a w,¬Q (.panic c) a w) {Tk:ATU Blk} (H0:Bi w0 gS Tk) :
    ∀(k:Nat) (listed:Array Bool) (σ:St),yT en h m Tk Ca σ' k listed σ=some ()->m<=σ.Aj.length->Tk.length<=σ.Aj.length->∀(a:Act) (w:World) (g:G),LJ w g σ a->BK m w0 g0 w g->a.defers=a0.defers->(∀b,cS gS Tk b->w.heap[b]?=w0.heap[b]?)->(∀k,k<Tk.length->g.A2 k=gS.A2 k)->(∀k a1 b,Tk[k]?=some (.box a1)->(gS.A2 k).a=some ⟨b,0,none⟩->g.own b=.BQ k []) ->
     wpAnyH P .any Ca Q (λw=>∀b,cS gS Tk b->w.heap[b]?=w0.heap[b]?) k listed a w
 |0,listed,σ,hw,hm,hl,a,w,g,hs,BS,hd,hS,Vv,Cv=>by
  simp only[yT]at hw;split at hw
  ·rename_i hr;split at hw
   ·rename_i s hh;unfold nt at hw;split at hw
    ·rename_i e;subst e;obtain⟨g1,Sx,SA,_⟩:=Ye hh hs hm;exact⟨by grind,Xm a w g1 Sx (BS.trans SA) hd⟩
    ·grind
   ·grind
  ·grind
 |k+1,listed,σ,hw,hm,hl,a,w,g,hs,BS,hd,hS,Vv,Cv=>by
  have one:∀(o:Oper) (e:Ih) (i:Nat),exec en σ o some=some e->(if e.BF.all (nbx Tk)then yT en h m Tk Ca σ' k (listed.setIfInBounds i true) (σ.after o.dst e)else none)=some ()->∀(Q':Exit->Act->World->Prop),
      o.wp P a w (λa' w'=>(∀b,cS gS Tk b->w'.heap[b]?=w0.heap[b]?)/\wpAnyH P .any Ca Q (λw=>∀b,cS gS Tk b->w.heap[b]?=w0.heap[b]?) k (listed.setIfInBounds i true) a' w') Q':=by
   intro o e i hx h1 Q';split at h1
   ·rename_i hme;have Q3:=TL he.toEnvOk hx;refine zW (m:=m) (gS:=gS) Q3 hme hs hm hl Cv λv w' g' ff st' hS' AF7 AGM=>?_;have hS2:∀b,cS gS Tk b->w'.heap[b]?=w0.heap[b]?:=λb hb=>(hS' b hb).trans (hS b hb);exact⟨hS2,jb he Xm fM hQ H0 k _ _ h1 (AQJ hm Q3.grow) (AQJ hl Q3.grow) _ _ _ ff (BS.trans st') (by rw[Go.Va.put_defers];exact hd) hS2 (λk hk=>(AF7 k (AQR hk hl)).trans (Vv k hk)) AGM⟩
   ·grind
  simp only[yT]at hw;split at hw
  ·rename_i i hi;have hp:=List.find?_some hi;have nH:=List.mem_of_find?_eq_some hi;rw[AQm]at hp;obtain⟨o,ho,hw⟩:=ve hw;have ho':Ca[i]?=some o:=by grind
   rw[ho']at hp;rcases QB hw with ⟨hwt,h1⟩|⟨hwt,h1⟩
   ·rw[TK en he.bB]at h1;cases hx:exec en σ o some with
    |none=>grind
    |some e =>
     rw[hx]at h1;have rV:=one o e i hx h1 (λ_ _ _=>False);have Ep:∃n w1,(execOp a.eval o).run P w=.ok n w1:=by
      unfold Oper.wp at rV;cases hq:(execOp a.eval o).run P w with
      |ok n w1=>grind
      |halt e w1=>rw[hq]at rV;cases e<;>exact rV.elim
     obtain⟨n,w1,Ep⟩:=Ep;obtain⟨c,hc⟩:=Adz he.toEnvOk hp.1 hx hs Ep (B:=cS gS Tk) (w0:=w0) (λk b hb AlW=>by
      obtain⟨a1,AlW⟩:=AlW;rw[Vv k (A4 AlW)]at hb;exact⟨k,a1,AlW,hb⟩) hS
     have hy:YieldsIf P Ca (λw=>∀b,cS gS Tk b->w.heap[b]?=w0.heap[b]?) o c a:=.inl ⟨Kj hs hwt,hc⟩;refine wpAnyH_take ho' fM hp.2 (by grind) (λc a w h=>(hQ c _ _ h).elim) hy hS ?_;unfold Oper.wp at rV;rw[hc w hS]at rV;exact rV.2
   ·have hy:YieldsIf P Ca (λw=>∀b,cS gS Tk b->w.heap[b]?=w0.heap[b]?) o undef a:=.inr ⟨Kj hs hwt,rfl⟩;refine wpAnyH_take ho' fM hp.2 (by grind) (λc a w h=>(hQ c _ _ h).elim) hy hS ?_;exact jb he Xm fM hQ H0 k _ _ h1 hm hl _ _ _ (hs.skip o.dst) BS (by rw[Go.Va.put_defers];exact hd) hS Vv Cv
  split at hw
  ·grind
  ·rename_i hr;refine⟨λe=>by grind,λi hi=>?_⟩;have h1:=b6 hw _ (List.mem_map_of_mem hi);obtain⟨o,ho,h1⟩:=ve h1;unfold wpOp;have ho':Ca[i]?=some o:=by grind
   simp only[ho'];rcases QB h1 with ⟨hw,h1⟩|⟨hw,h1⟩
   ·rw[TK en he.bB]at h1;cases hx:exec en σ o some with
    |none=>rw[hx]at h1;cases h1
    |some e =>
     rw[hx]at h1;rw[AQx (Kj hs hw)];exact .inl (one o e i hx h1 Q)
   ·rw[Kj hs hw];exact⟨hS,jb he Xm fM hQ H0 k _ _ h1 hm hl _ _ _ (hs.skip o.dst) BS (by rw[put_defers];exact hd) hS Vv Cv⟩
theorem QX(he:JM P en):∀c:Code,yi P en m c
 |.skip=>λσ e σ' h hm=>by
  obtain⟨rfl,rfl⟩:=h;exact⟨hm,λa w g Q hs hq=>wp_skip (hq a w g hs (BK.refl _ _ _) rfl)⟩
 |.ret=>λσ e σ' h hm=>by
  obtain⟨rfl,rfl⟩:=h;exact⟨hm,λa w g Q hs hq=>wp_ret (hq a w g hs (BK.refl _ _ _) rfl)⟩
 |.exit n=>λσ e σ' h hm=>by
  obtain⟨rfl,rfl⟩:=h;exact⟨hm,λa w g Q hs hq=>wp_exit (hq a w g hs (BK.refl _ _ _) rfl)⟩
 |.seq c d=>λσ e σ' h hm=>by
  simp only[ev]at h;have hj:∃e1 s1,m<=s1.Aj.length/\(∀(a:Act) (w:World) (g:G) (Q:Exit->Act->World->Prop),LJ w g σ a->(∀a' w' g',LJ w' g' s1 a'->BK m w g w' g'->a'.defers=a.defers->Q (rr e1) a' w')->c.wp P Q a w) /\
      (match e1 with |.normal=>ev en m d _ s1 Sz |.exit n=>Sz (.exit n) s1 |.ret=>Sz .ret s1)=some (e,σ'):=by
   split at h
   ·obtain⟨e1,s1,h1,h2⟩:=dH he.bB h;obtain⟨UO,ye⟩:=QX he c σ e1 s1 h1 hm;exact⟨e1,s1,UO,ye,h2⟩
   ·rw[AQ5]at h;obtain⟨σ0,h0,h⟩:=h;obtain⟨zw,AvT⟩:=AgT he h0 hm;rw[AQ5]at h;obtain⟨⟨e1,s2⟩,h1,h2⟩:=h;obtain⟨e0,s1,h3,h4⟩:=dH he.bB h1;rw[AQ5]at h4;obtain⟨s3,h5,h6⟩:=h4;simp only[AQh,AQs]at h6;obtain⟨rfl,rfl⟩:=h6;obtain⟨UO,ye⟩:=QX he c σ0 e0 s1 h3 zw;refine⟨e0,s3,XE h5,λa w g Q hs hq=>?_,h2⟩;obtain⟨g0,ya,vS⟩:=AvT hs;refine ye a w g0 Q ya λa' w' g' ff BS hd=>?_;obtain⟨g3,vQ,AhO,_⟩:=Ye h5 ff UO;exact hq a' w' g3 vQ (vS.trans (BS.trans AhO)) hd
  obtain⟨e1,s1,UO,ye,h2⟩:=hj;cases e1 with
  |normal =>
   obtain⟨Tm,ih2⟩:=QX he d s1 e σ' h2 UO;refine⟨Tm,λa w g Q hs hq=>wp_seq (ye a w g _ hs λa1 w1 g1 Sx Yg jj=>?_)⟩;exact ih2 a1 w1 g1 Q Sx λa2 w2 g2 ak zA hd2=>hq a2 w2 g2 ak (Yg.trans zA) (hd2.trans jj)
  |exit n =>
   obtain⟨rfl,rfl⟩:=h2;exact⟨UO,λa w g Q hs hq=>wp_seq (ye a w g _ hs λa1 w1 g1 Sx Yg jj=>hq a1 w1 g1 Sx Yg jj)⟩
  |ret =>
   obtain⟨rfl,rfl⟩:=h2;exact⟨UO,λa w g Q hs hq=>wp_seq (ye a w g _ hs λa1 w1 g1 Sx Yg jj=>hq a1 w1 g1 Sx Yg jj)⟩
 |.cond c x y=>λσ e σ' h hm=>by
  simp only[ev]at h;split at h
  ·rename_i ks t hc;have hb:∀(a:Act) (w:World) (g:G),LJ w g σ a->a.eval c=.bool t:=λa w g hs=>by
    have:=AX hs c;rw[hc]at this;exact TG this
   cases t
   ·obtain⟨UO,ye⟩:=QX he y σ e σ' h hm;exact⟨UO,λa w g Q hs hq=>wp_cond_false (hb a w g hs) (ye a w g Q hs hq)⟩
   ·obtain⟨UO,ye⟩:=QX he x σ e σ' h hm;exact⟨UO,λa w g Q hs hq=>wp_cond_true (hb a w g hs) (ye a w g Q hs hq)⟩
  ·grind
 |.block n c=>λσ e σ' h hm=>by
  simp only[ev]at h;obtain⟨e1,s1,h1,h2⟩:=dH he.bB h;obtain⟨UO,ye⟩:=QX he c σ e1 s1 h1 hm;cases e1 with
  |normal =>
   obtain⟨rfl,rfl⟩:=h2;exact⟨UO,λa w g Q hs hq=>wp_block (ye a w g _ hs λa1 w1 g1 Sx Yg jj=>hq a1 w1 g1 Sx Yg jj)⟩
  |exit k =>
   simp only at h2;cases hk:k==n with
   |true =>
    rw[hk]at h2;obtain⟨rfl,rfl⟩:=h2;have X0:k=n:=by grind
    subst X0;exact⟨UO,λa w g Q hs hq=>wp_block (ye a w g _ hs λa1 w1 g1 Sx Yg jj=>by
     simp only[rr,Exit.inBlock];exact hq a1 w1 g1 Sx Yg jj)⟩
   |false =>
    rw[hk]at h2;obtain⟨rfl,rfl⟩:=h2;have X0:¬k=n:=by grind
    exact⟨UO,λa w g Q hs hq=>wp_block (ye a w g _ hs λa1 w1 g1 Sx Yg jj=>by
     simp only[rr,Exit.inBlock,AQy X0];exact hq a1 w1 g1 Sx Yg jj)⟩
  |ret =>
   obtain⟨rfl,rfl⟩:=h2;exact⟨UO,λa w g Q hs hq=>wp_block (ye a w g _ hs λa1 w1 g1 Sx Yg jj=>hq a1 w1 g1 Sx Yg jj)⟩
 |.region id Ca false=>λσ e σ' h hm=>by
  simp only[ev]at h;rw[Vu he.bB]at h;cases hx:Sr en Ca.toList (List.range Ca.size) σ some with
  |none=>grind
  |some s =>
   rw[hx]at h;obtain⟨rfl,rfl⟩:=h;refine⟨(dG (Q:=λ_ _ _=>True) he.toEnvOk _ _ _ hx hm).1,λa w g Q hs hq=>wp_region ((dG he.toEnvOk _ _ _ hx hm).2 a w g hs hq)⟩
 |.region id Ca true=>λσ e σ' h hm=>by
  simp only[ev]at h;split at h
  ·rw[AQ5]at h;obtain⟨σ0,h0,h⟩:=h;obtain⟨zw,AvT⟩:=AgT he h0 hm;rw[AQ5]at h;obtain⟨s,h1,h2⟩:=h;obtain⟨rfl,rfl⟩:=h2;unfold AmD at h1;split at h1
   ·grind
   rename_i fM;rw[Vu he.bB,AQ5]at h1;obtain⟨s0,h3,h4⟩:=h1;rw[AQ5]at h4;obtain⟨s1,h5,h6⟩:=h4;rw[AQ5]at h6;obtain⟨_,h7,h8⟩:=h6;injection h8 with h8;subst h8;refine⟨XE h5,λa w g Q hs hq=>Code.wp_mono (Q:=λe a w=>match e with |.panic _=>False |e=>Q e a w) (λe a w h=>by grind) (wp_region_any he.mixed ?_)⟩
   obtain⟨g1,hs,Yg⟩:=AvT hs;cases hqt:(SH.ZJ _)with
   |false =>
    rw[hqt]at h7;exact c8 (Q:=λe a w=>match e with |.panic _=>False |e=>Q e a w) he    (λa' w' g' h1 h2 h3=>hq a' w' g' h1 (Yg.trans h2) h3) (by grind) (λc a w h=>h) _ _ σ0 h7 zw a _ g1 ⟨hs.heap.drew,hs.len,λi x hx=>(hs.AU i x hx).Sb (Step.drew [] _ w g1) (AQl _)⟩ (Step.drew _ _ w g1) rfl
   |true =>
    rw[hqt]at h7;have hsD :=LJ.cut ⟨hs.heap.drew,hs.len,λi x hx=>(hs.AU i x hx).Sb (Step.drew _ _ _ _) (AQl _)⟩;exact wpAny_of_held _ _ _ _ (jb (Q:=λe a w=>match e with |.panic _=>False |e=>Q e a w) he     (λa' w' g' h1 h2 h3=>hq a' w' g' h1 (((Yg.trans ((Step.drew [] _ w g1).toC zw)).trans Ad3).trans h2) h3) (by grind) (λc a w h=>h) hsD.heap _ _ σ0 h7 zw (AQl _) a _ _ hsD (BK.refl _ _ _) rfl (λ_ _=>rfl) (λ_ _=>rfl) λk a1 b hk hb=>by
     obtain⟨_,b',_,_,ha',ho,_⟩:=hsD.heap.MR k _ hk
     grind)
  split at h
  ·rename_i gO;rw[Vt he.bB]at h;cases hx:VG en Ca.toList (Zd Ca.toList (Yn en Ca.toList Ca.toList.length []) []) (Yn en Ca.toList Ca.toList.length []) [] [] σ some with
   |none=>grind
   |some s =>
    rw[hx]at h;obtain⟨rfl,rfl⟩:=h;exact rq he.toEnvOk he.mixed gO hx hm
  ·grind
 |.loop body=>Amr he (QX he body)
 |.goto _=>λ_ _ _ h _=>by simp[ev]at h
 |.label _=>λ_ _ _ h _=>by simp[ev]at h
 |.rangeFunc ..=>λ_ _ _ h _=>by simp[ev]at h
 |.scope _=>λ_ _ _ h _=>by simp[ev]at h
 |.refuse _=>λ_ _ _ h _=>by simp[ev]at h
end
end Go.Va
namespace Go.Va
def AiE(tmps:Array Value):ResultVar->Sem Value
 |.tmp t=>pure (tmps.getD t undef)
 |.cell a t=>do loadVar t (<-asAddr (tmps.getD a undef))
theorem lU(fn:Func)(tmps:Array Value):results fn tmps=(do let vs <-fn.results.mapM (AiE tmps);pure (if h:vs.size=1 then vs[0]else .tuple vs)):=by
 congr 1
section
variable {P:Program} {en:G5}
theorem zY(he:EnvOk P en){σ:St}{w:World}{g:G}{a:Act}(hs:LJ w g σ a):∀{rs:ATU ResultVar} {l:ATU AV},iT en.Eb σ rs=some l ->
    ∃vs,(rs.mapM (AiE a.tmps)).run P w=.ok vs w/\DI w g σ.Aj.length l vs
 |[],l,h=>by
  simp only[iT,AQh]at h;subst h;exact⟨[],rfl,trivial⟩
 |.tmp t::rs,l,h=>by
  simp only[iT]at h;split at h
  ·rename_i x l' hx hl;injection h with h;subst h;obtain⟨vs,hr,hv⟩:=zY he hs hl;exact⟨a.tmps.getD t _::vs,by simp only[List.mapM_cons,AiE,Sem.run_bind,Sem.run_pure,Result.andThen_ok,hr],hs.AU t x hx,hv⟩
  ·grind
 |.cell b t::rs,l,h=>by
  simp only[iT]at h;split at h
  ·rename_i ti k i p o ht hx;split at h
   ·rename_i x l' Vv hl;split at h
    ·rename_i NC;injection h with h;subst h;obtain⟨vs,hr,hv⟩:=zY he hs hl;obtain⟨hk,h0,h1,bb,hb,hp⟩:=L1 (hs.AU b _ hx);obtain⟨cs,nF,DW⟩:=Xr hs.heap Vv h1 hb;obtain⟨v,rU,oY⟩:=T2  (he.t ht) (by rw[nF.len,NC.1]) DW (λhg=>by rw[nF.len,NC.1];exact T9 hg);rw[<-NC.2]at oY;refine⟨v::vs,?_,Bv (Xb nF) nF oY,hv⟩;have:(asAddr (a.tmps.getD b undef)).run P w=.ok ⟨bb,i.toNat*(g.A2 k).oQ+o,none⟩ w:=by rw[hp];rfl
     simp only[List.mapM_cons,AiE,Sem.run_bind,Sem.run_pure,Result.andThen_ok,hr,this,rU]
    ·grind
   ·grind
  ·grind
theorem kr{w:World}{g:G}{n:Nat}:∀{l:ATU AV} {vs:ATU Value},DI w g n l vs->CK w g n true (X7 l) vs
 |[],[],_=>rfl
 |a::l,v::vs,⟨h1,h2⟩=>by
  refine⟨v,vs,rfl,?_,kr h2⟩;split
  ·exact .inl rfl
  ·rename_i ht;exact(B6.iff (by grind)).1 h1
 |[],_::_,h=>h.elim
 |_::_,[],h=>h.elim
theorem AmE{w:World}{g:G}{n:Nat}{l:ATU AV}{vs:ATU Value}(h:DI w g n l vs):B6 w g n (wU l) (if h:vs.toArray.size=1 then vs.toArray[0]else .tuple vs.toArray):=by
 match l,vs,h with
 |[],[],_=>rfl
 |[a],[v],h=>exact h.1
 |a::b::l,v::u::vs,h =>
  have:¬(v::u::vs).toArray.size=1:=by simp
  exact⟨_,rfl,kr h⟩
theorem oA{w:World}{g:G}{n:Nat}:∀{l:ATU AV} {vs:ATU Value},DI w g n l vs->l.length=vs.length
 |[],[],_=>rfl
 |_::_,_::_,h=>by simp[oA h.2]
 |[],_::_,h=>h.elim
 |_::_,[],h=>h.elim
theorem Z1{w:World}{g:G}{n:Nat}:∀{l:ATU AV} {vs:ATU Value} {i:Nat} {x:AV},DI w g n l vs->l[i]?=some x->∃v,vs[i]?=some v/\B6 w g n x v
 |_::_,v::_,0,_,h,hx=>by simp at hx;subst hx;exact⟨v,rfl,h.1⟩
 |_::_,_::_,i+1,_,h,hx=>by
  obtain⟨v,hv,hr⟩:=Z1  h.2 (by simpa using hx)
  grind
 |[],[],_,_,_,hx=>by grind
 |[],_::_,_,_,h,_=>h.elim
 |_::_,[],_,_,h,_=>h.elim
theorem jV{w w':World}{g g':G}{n n':Nat}(st:Step [] n w g w' g')(hn:n<=n'):∀{l:ATU AV} {vs:ATU Value},DI w g n l vs->DI w' g' n' l vs
 |[],[],_=>trivial
 |_::_,_::_,h=>⟨h.1.Sb st hn,jV st hn h.2⟩
 |[],_::_,h=>h.elim
 |_::_,[],h=>h.elim
theorem ft{w:World}{g:G}{n:Nat}{x:AV}:∀{l:ATU AV} {vs:ATU Value} {i:Nat} {v:Value},DI w g n l vs->vs[i]?=some v->B6 w g n x v->DI w g n (l.set i x) vs
 |_::_,_::_,0,v,h,hv,hx=>by
  simp at hv;subst hv;exact⟨hx,h.2⟩
 |_::_,_::_,i+1,v,h,hv,hx=>⟨h.1,ft h.2 (by grind) hx⟩
 |[],[],_,_,_,hv,_=>by grind
 |[],_::_,_,_,h,_,_=>h.elim
 |_::_,[],_,_,h,_,_=>h.elim
theorem uT{m:Nat}{w:World}:∀{cs:ATU (Nat×Co)} {l l':ATU AV} {bs HT:ATU Blk} {g:G} {vs:ATU Value},dj cs l bs=some (l',HT)->Bi w g bs->DI w g bs.length l vs->m<=bs.length ->
    ∃g',Bi w g' HT/\DI w g' HT.length l' vs/\BK m w g w g'
 |[],l,l',bs,HT,g,vs,h,H,hx,hm=>by
  obtain⟨rfl,rfl⟩:=h;exact⟨g,H,hx,BK.refl _ _ _⟩
 |(i,c)::r,l,l',bs,HT,g,vs,h,H,hx,hm=>by
  simp only[dj]at h;split at h
  ·grind
  ·rename_i v hv;split at h
   ·rename_i v' nb hco;obtain⟨u,hu,hr⟩:=Z1 hx hv;obtain⟨g1,H1,jm,SA⟩:=y9 H hco hr;obtain⟨g2,H2,yd,Qw⟩:=uT (m:=m) h H1 (ft (jV SA (by simp) hx) hu jm) (by grind);exact⟨g2,H2,yd,(SA.toC hm).trans Qw⟩
   ·grind
theorem Abh{m:Nat}{w:World}:∀{cs:ATU (Nat×Ty)} {l l':ATU AV} {bs HT:ATU Blk} {g:G} {vs:ATU Value},rF m cs l bs=some (l',HT)->Bi w g bs->DI w g bs.length l vs ->
    ∃g',Bi w g' HT/\DI w g' HT.length l' vs/\BK m w g w g'/\HT.length=bs.length
 |[],l,l',bs,HT,g,vs,h,H,hx=>by
  obtain⟨rfl,rfl⟩:=h;exact⟨g,H,hx,BK.refl _ _ _,rfl⟩
 |(i,t)::r,l,l',bs,HT,g,vs,h,H,hx=>by
  simp only[rF]at h;split at h
  ·grind
  ·rename_i v hv;split at h
   ·rename_i v' nb hf;obtain⟨g1,H1,hl,SA,ha,jm,_,_⟩:=rH H hf;obtain⟨u,hu,hr⟩:=Z1 hx hv;have AKh:∀{l:ATU AV} {vs:ATU _},DI w g bs.length l vs->DI w g1 nb.length (l.map AV.cQ) vs:=by
     intro l;induction l with
     |nil=>intro vs h;cases vs with
      |nil=>trivial
      |cons _ _=>exact h.elim
     |cons a l ih=>intro vs h;cases vs with
      |nil=>exact h.elim
      |cons v vs=>exact⟨by rw[hl];exact ha a v h.1,ih h.2⟩
    obtain⟨g2,H2,yd,Qw,b9⟩:=Abh  h H1 (ft (AKh hx) hu (by grind));exact⟨g2,H2,yd,SA.trans Qw,b9.trans hl⟩
   ·grind
theorem eO{w:World}{g:G}{E:ATU Blk}{args:ATU AV}{vs:ATU Value}(H:Bi w g E)(h:DI w g E.length args vs){n:Nat}(hn:args.length<=n) :
    LJ w g ⟨args++List.replicate (n-args.length) (.un 0),E⟩ {tmps:=vs.toArray++Array.replicate (n-vs.toArray.size) undef,defers:=[]} where
 heap:=H
 len:=by simp[oA h]
 AU i x hx:=by
  rw[AQF]at hx;split at hx
  ·obtain⟨v,hv,hr⟩:=Z1 h hx;have hi:=A4 hv;have:(vs.toArray++Array.replicate (n-vs.toArray.size) undef).getD i undef=v:=by
    rw[ARd,Array.getElem?_append_left (by grind)];simp[hv]
   rw[this];exact hr
  ·rw[List.getElem?_replicate]at hx;split at hx
   ·injection hx with hx;subst hx;exact Sc
   ·grind
theorem ae{m:Nat}{w:World}{a:Act}:∀{l:ATU Fi} {σ σ2:St} {g:G},aR m l σ=some σ2->LJ w g σ a->m<=σ.Aj.length->∃g',LJ w g' σ2 a/\BK m w g w g'/\m<=σ2.Aj.length
 |[],σ,σ2,g,h,hs,hm=>by
  simp only[aR,AQh]at h;subst h;exact⟨g,hs,BK.refl _ _ _,hm⟩
 |.co k c::r,σ,σ2,g,h,hs,hm=>by
  simp only[aR]at h;split at h
  ·rename_i bs hb;obtain⟨g1,H1,st⟩:=AgI hs.heap hb;have hl:=jf hb;obtain⟨g2,h2,Qw,Tm⟩:=ae  h ⟨H1,hs.len,λi x hx=>(hs.AU i x hx).Sb st hl⟩ (AQJ hm hl);exact⟨g2,h2,(st.toC hm).trans Qw,Tm⟩
  ·grind
 |.Bd j::r,σ,σ2,g,h,hs,hm=>by
  refine ae (σ:=⟨σ.AU,σ.Aj.set j _⟩) h ⟨⟨hs.heap.B3,λk x hx=>?_⟩,hs.len,λi x hx=>by rw[AQo];exact hs.AU i x hx⟩ (by grind);rw[AQo];rw[AQE]at hx;split at hx
  ·split at hx
   ·injection hx with hx;subst hx;trivial
   ·grind
  ·exact hs.heap.MR k x hx
 |.mvs s p::r,σ,σ2,g,h,hs,hm=>by
  simp only[aR]at h;split at h
  ·rename_i σ1 h1;unfold mvP at h1;split at h1
   ·obtain⟨g1,Sx,SA,UO⟩:=zK h1 hs hm;obtain⟨g2,ak,Qw,Tm⟩:=ae h Sx UO;exact⟨g2,ak,SA.trans Qw,Tm⟩
   ·rename_i a0 ya;obtain⟨g1,Sx,SA,UO⟩:=Aih ya h1 hs hm;obtain⟨g2,ak,Qw,Tm⟩:=ae h Sx UO;exact⟨g2,ak,SA.trans Qw,Tm⟩
   ·grind
  ·grind
 |.mv k p::r,σ,σ2,g,h,hs,hm=>by
  simp only[aR]at h;split at h
  ·rename_i σ1 h1;obtain⟨g1,Sx,SA,UO⟩:=zK h1 hs hm;obtain⟨g2,ak,Qw,Tm⟩:=ae h Sx UO;exact⟨g2,ak,SA.trans Qw,Tm⟩
  ·grind
theorem cy(he:JM P en){f:FuncId}{fn:Func}(hf:P.funcs[f]?=some fn){args:ATU AV}{E:ATU Blk}{av:AV}{E':ATU Blk}(h:T6 en fn (AV×ATU Blk) args E (λv b=>some (v,b))=some (av,E')) :
    E.length<=E'.length/\∀(w:World) (g:G) (vs:ATU Value),Bi w g E->DI w g E.length args vs->Calls P f vs.toArray w λe w'=>∃v g',e=.returned v/\Bi w' g' E'/\B6 w' g' E'.length av v/\BK E.length w g w' g':=by
 unfold T6 at h;split at h
 ·grind
 ·rename_i c hc;split at h
  ·rename_i hl;obtain⟨e,σ',h1,h2⟩:=dH he.bB h;obtain⟨hm,rV⟩:=QX he c _ e σ' h1 (AQl _);have key:∀(σ2:St) (l l0:ATU AV) (Tk:ATU Blk) (l':ATU AV) (HT:ATU Blk),aR E.length en.fi.Xm σ'=some σ2->iT en.Eb σ2 fn.results.toList=some l->rF E.length en.fi.O4 l σ2.Aj=some (l0,Tk)->dj en.fi.gk l0 Tk=some (l',HT)->lA E.length HT (wU l')=some (av,E')->(rr e=.normal\/rr e=.ret) ->
       E.length<=E'.length/\∀(w:World) (g:G) (vs:ATU Value),Bi w g E->DI w g E.length args vs->Calls P f vs.toArray w λe w'=>∃v g',e=.returned v/\Bi w' g' E'/\B6 w' g' E'.length av v/\BK E.length w g w' g':=by
    intro σ2 l l0 Tk l' HT AJ4 dQ mU hco hlv hex;unfold lA at hlv
    dsimp only at hlv
    split at hlv
    ·rename_i hp;simp only[AQh,AQs]at hlv;obtain⟨hav,hE⟩:=hlv;have hmn:=(Aiw (Vz hp).1).1;have hEl:E'.length=(pS HT HT.length (iP (List.range E.length) (wU l').Ck)).length:=by grind
     refine⟨by grind,λw g vs H hx=>?_⟩;refine calls_of_wp hf hc ?_;refine rV _ w g _ (eO H hx hl) λa' w' g0 ya vS hd=>?_;obtain⟨g',ff,iN,Tm⟩:=ae AJ4 ya hm;have BS:=vS.trans iN;obtain⟨aJ,hr,hv⟩:=zY he.toEnvOk ff dQ;obtain⟨g1,H1,jm,SA,U6⟩:=Abh mU ff.heap hv;obtain⟨g2,H2,hv2,Qw⟩:=uT hco H1 jm (by rw[U6];exact Tm);have YK:∃u,(results fn a'.tmps).run P w'=.ok u w'/\∃v' g'',Ending.returned u=Ending.returned v'/\Bi w' g'' E'/\B6 w' g'' E'.length av v'/\BK E.length w g w' g'':=by
      refine⟨if h:aJ.toArray.size=1 then aJ.toArray[0]else .tuple aJ.toArray,?_,_,g2.pick _,rfl,by rw[<-hE];exact pL H2 hp,?_,((BS.trans SA).trans Qw).trans (pM hp).1⟩
      ·rw[lU,Array.mapM_eq_mapM_toList];simp only[Sem.run_bind,Sem.run_map,hr];rfl
      ·rw[hEl,<-hav];exact((AmE hv2).O0 (λb h=>eh h) λk hk=>ei ((Vz hp).2.2.1 k hk)).Et
     obtain⟨u,jm,hv2⟩:=YK;rcases hex with h |h<;>rw[h]<;>exact⟨hd,u,jm,hv2⟩
    ·grind
   have Ajh:(match aR E.length en.fi.Xm σ' with
         |none=>none
         |some σ=>match iT en.Eb σ fn.results.toList with
          |some l=>match rF E.length en.fi.O4 l σ.Aj with
           |some (l,bs)=>match dj en.fi.gk l bs with
            |some (l',HT)=>match lA E.length HT (wU l')with
             |some (v,bs)=>some (v,bs)
             |none=>none
            |none=>none
           |none=>none
          |none=>none)=some (av,E')->(rr e=.normal\/rr e=.ret)->E.length<=E'.length/\∀(w:World) (g:G) (vs:ATU Value),Bi w g E->DI w g E.length args vs->Calls P f vs.toArray w λe w'=>∃v g',e=.returned v/\Bi w' g' E'/\B6 w' g' E'.length av v/\BK E.length w g w' g':=by
    intro h hex;split at h
    ·grind
    grind
   cases e with
   |exit n=>grind
   |normal=>exact Ajh h2 (.inl rfl)
   |ret=>exact Ajh h2 (.inr rfl)
  ·grind
theorem Ao.of(he:JM P en){f:FuncId}{fn:Func}(hf:P.funcs[f]?=some fn)(hn:(fn.name=="runtime.NumGoroutine")=false)(hb:fn.body.isNone=false){c:Callee}(hc:jG c)
    (h:∀args E av E',c.run (AV×ATU Blk) args E (λv b=>some (v,b))=some (av,E')->T6 en fn (AV×ATU Blk) args E (λv b=>some (v,b))=some (av,E')):Ao P f c where
 bB:=hc
 snd args E av E' hr:=by
  obtain⟨h1,h2⟩:=cy he hf (h args E av E' hr);refine⟨h1,λw g vs H hx o a next Q hn'=>?_⟩
  have:(callFunc f vs.toArray).run P w=.ok (.enter f vs.toArray) w:=by
   have x7:¬fn.name="runtime.NumGoroutine":=by grind
   have iK:¬fn.body=none:=by
    grind
   simp[callFunc,hf,x7,iK]
  rw[this];refine(h2 w g vs H hx).mono λe w' ⟨v,g',e1,hH,hv,BS⟩=>?_;subst e1;exact hn' v w' g' hH hv BS
theorem Ao.of2{f:FuncId}{fn:Func}(hf:P.funcs[f]?=some fn)(hn:(fn.name=="runtime.NumGoroutine")=false)(hb:fn.body.isNone=false){c:Callee}(hc:jG c)
    (h:∀args E av E',c.run (AV×ATU Blk) args E (λv b=>some (v,b))=some (av,E')->∃en,JM P en/\T6 en fn (AV×ATU Blk) args E (λv b=>some (v,b))=some (av,E')):Ao P f c where
 bB:=hc
 snd args E av E' hr:=by
  obtain⟨en,he,h0⟩:=h args E av E' hr;obtain⟨h1,h2⟩:=cy he hf h0;refine⟨h1,λw g vs H hx o a next Q hn'=>?_⟩
  have:(callFunc f vs.toArray).run P w=.ok (.enter f vs.toArray) w:=by
   have x7:¬fn.name="runtime.NumGoroutine":=by grind
   have iK:¬fn.body=none:=by
    grind
   simp[callFunc,hf,x7,iK]
  rw[this];refine(h2 w g vs H hx).mono λe w' ⟨v,g',e1,hH,hv,BS⟩=>?_;subst e1;exact hn' v w' g' hH hv BS
end
end Go.Va
