import Derived.MapKept
import Derived.Laws.Strings
import Derived.Laws.StructEq
import Derived.OrdersHeld
import Derived.Test.YtoinnpeenpmgkaaGreatK0
set_option linter.unusedVariables false
set_option linter.unusedSimpArgs false
namespace Go.Va
theorem wX(φ:Nat->Nat)(a:AV):(a.OR φ).OL=a.OL:=by cases a<;>rfl
theorem pV(φ:Nat->Nat)(a:AV):(a.OR φ).isAgg=a.isAgg:=by cases a<;>rfl
theorem AdX(φ:Nat->Nat)(a:AV):(a.OR φ).Dv=a.Dv:=by cases a<;>rfl
theorem uY(LD:ATO Nat)(a:AV):(a.Wy LD).OL=a.OL:=by cases a<;>rfl
theorem oA(LD:ATO Nat)(a:AV):(a.Wy LD).isAgg=a.isAgg:=by cases a<;>rfl
theorem Ada(LD:ATO Nat)(a:AV):(a.Wy LD).Dv=a.Dv:=by cases a<;>rfl
structure Ren (φ:Nat->Nat) (g g':G) (n' k:Nat):Prop where
 lt:φ k<n'
 A5:g'.A5 (φ k)=g.A5 k
 own:∀b r,g.own b=.BV k r->g'.own b=.BV (φ k) r
theorem Al.AiZ{φ:Nat->Nat}{g g':G}(hi:∀b,g.own b=.Jd->g'.own b=.Jd){ks:ATO Nat}(hk:∀k∈ks,∀b r,g.own b=.BV k r->g'.own b=.BV (φ k) r){b:Nat}(h:Al g.own ks b):Al g'.own (ks.map φ) b:=by
 rcases h with h |⟨k,hks,r,h⟩
 ·exact .inl (hi b h)
 ·exact .inr ⟨φ k,List.mem_map.2 ⟨k,hks,rfl⟩,r,hk k hks b r h⟩
theorem OX:∀(a:AV) {k:Nat},k∈a.Tz->k∈a.Cx
 |.AB _ _ _,_,h=>h
 |.FQ _ _ _,_,h=>h
 |.UT _ _ _ _ _,_,h=>h
 |.WM _ _ _ _ _ _,_,h=>h
 |.pr a b,_,h=>(List.mem_append.1 h).elim (λh=>AQH _ (OX a h)) λh=>AQI _ (OX b h)
 |.cons a b,_,h=>(List.mem_append.1 h).elim (λh=>AQH _ (OX a h)) λh=>AQI _ (OX b h)
 |.fn _ c,_,h=>OX c h
 |.zs,_,h=>by cases h
 |.AK _,_,h=>by cases h
 |.ptr _ _ _ _,_,h=>by cases h
 |.KG,_,h=>by cases h
 |.nil,_,h=>by cases h
 |.mp _,_,h=>by cases h
 |.un _,_,h=>by cases h
theorem eC:∀(b:Blk) {k:Nat},k∈b.Tz->k∈b.Cx
 |.box a,_,h=>OX a h
 |.row _ _ _ _,_,h=>h
 |.map _ _ _ _ _,_,h=>h
 |.R1 _ _ _ _ _,_,h=>h
 |.tail _ _ _,_,h=>h
 |.Bg,_,h=>h
section
variable {w:World} {g g':G} {n n':Nat} {φ:Nat->Nat}
def AcN(φ:Nat->Nat)(g g':G)(n' k:Nat):Prop:=φ k<n'/\g'.A5 (φ k)=g.A5 k
def Aq8(φ:Nat->Nat)(g g':G)(k:Nat):Prop:=∀b r,g.own b=.BV k r->g'.own b=.BV (φ k) r
theorem AbW{ks:ATO Nat}(hk:∀k∈ks,AcN φ g g' n' k):∀k∈ks.map φ,k<n':=λk h=>by
 obtain⟨j,hj,rfl⟩:=List.mem_map.1 h;exact(hk j hj).1
theorem CN.bH(hi:∀b,g.own b=.Jd->g'.own b=.Jd):∀(a:AV) (m:Bool) {cs:ATO Value},CN w g n m a cs->(∀k∈a.Cx,AcN φ g g' n' k)->(∀k∈a.Tz,Aq8 φ g g' k)->CN w g' n' m (a.OR φ) cs
 |.AB ks t x,false,cs,⟨hk,r⟩,h,ho=>⟨AbW h,r.mono λb a=>⟨a.AiZ hi ho,rfl⟩⟩
 |.zs,false,_,h,_,_=>h
 |.AK k,false,_,⟨hk,e⟩,h,_=>by
  have:=h k (by simp[AV.Cx]);exact⟨this.1,by rw[this.2];exact e⟩
 |.ptr k i p o,false,_,⟨hk,h0,h1,b,hb,e⟩,h,_=>by
  have:=h k (by simp[AV.Cx]);exact⟨this.1,h0,by rw[this.2];exact h1,b,by rw[this.2];exact hb,by rw[this.2];exact e⟩
 |.FQ ks t x,false,cs,⟨hk,b,off,ds,e,ha,r,hc⟩,h,ho=>⟨AbW h,b,off,ds,e,ha.AiZ hi ho,r.mono λb a=>⟨a.AiZ hi ho,rfl⟩,hc⟩
 |.KG,false,_,h,_,_=>h
 |.pr a b,false,_,⟨c,d,e,h1,h2⟩,h,ho=>⟨c,d,e,CN.bH hi a false h1 (λk hk=>h k (by simp[AV.Cx,hk])) λk hk=>ho k (by simp[AV.Tz,hk]),CN.bH hi b false h2 (λk hk=>h k (by simp[AV.Cx,hk])) λk hk=>ho k (by simp[AV.Tz,hk])⟩
 |.fn f c,false,_,⟨vs,e,hx⟩,h,ho=>⟨vs,e,CN.bH hi c true hx (λk hk=>h k (by simpa [AV.Cx]using hk)) λk hk=>ho k (by simpa [AV.Tz]using hk)⟩
 |.un k,false,_,h,_,_=>h
 |.cons a b,true,_,⟨v,r,e,h1,h2⟩,h,ho=>by
  refine⟨v,r,e,?_,CN.bH hi b true h2 (λk hk=>h k (by simp[AV.Cx,hk])) λk hk=>ho k (by simp[AV.Tz,hk])⟩;rw[wX,pV];exact h1.imp id λ⟨cs,hx,hv⟩=>⟨cs,CN.bH hi a false hx (λk hk=>h k (by simp[AV.Cx,hk])) (λk hk=>ho k (by simp[AV.Tz,hk])),hv⟩
 |.nil,true,_,h,_,_=>h
 |.cons _ _,false,_,h,_,_=>h.elim
 |.nil,false,_,h,_,_=>h.elim
 |.mp k,false,_,⟨hk,b,hb,e⟩,h,_=>by
  have:=h k (by simp[AV.Cx]);exact⟨this.1,b,by rw[this.2];exact hb,e⟩
 |.UT k i p o e,false,_,⟨hk,h0,h1,b,v,ha,ho,e1,e2,hc⟩,h,hO=>by
  have:=h k (by simp[AV.Cx]);exact⟨this.1,h0,by rw[this.2];exact h1,b,v,by rw[this.2];exact ha,hO k (by simp[AV.Tz]) b [] ho,e1,e2,by rw[this.2];exact hc⟩
 |.WM k i p o j u,false,_,⟨hk,h0,h1,b,b',l,c,ha,ho,e1,e2,hc⟩,h,hO=>by
  have:=h k (by simp[AV.Cx]);exact⟨this.1,h0,by rw[this.2];exact h1,b,b',l,c,by rw[this.2];exact ha,hO k (by simp[AV.Tz]) b [] ho,e1,e2,by rw[this.2];exact hc⟩
 |.WM _ _ _ _ _ _,true,_,h,_,_=>h.elim
 |.UT _ _ _ _ _,true,_,h,_,_=>h.elim
 |.AB _ _ _,true,_,h,_,_=>h.elim
 |.zs,true,_,h,_,_=>h.elim
 |.AK _,true,_,h,_,_=>h.elim
 |.mp _,true,_,h,_,_=>h.elim
 |.ptr _ _ _ _,true,_,h,_,_=>h.elim
 |.FQ _ _ _,true,_,h,_,_=>h.elim
 |.KG,true,_,h,_,_=>h.elim
 |.pr _ _,true,_,h,_,_=>h.elim
 |.fn _ _,true,_,h,_,_=>h.elim
 |.un _,true,_,h,_,_=>h.elim
theorem Ren.r0{k:Nat}(h:Ren φ g g' n' k):AcN φ g g' n' k:=⟨h.lt,h.A5⟩
theorem CN.OR(hi:∀b,g.own b=.Jd->g'.own b=.Jd)(a:AV)(m:Bool){cs:ATO Value}(h:CN w g n m a cs)(hk:∀k∈a.Cx,Ren φ g g' n' k):CN w g' n' m (a.OR φ) cs :=
 h.bH hi a m (λk h=>(hk k h).r0) λk h=>(hk k (OX a h)).own
theorem CN.UC:∀(a:AV) (m:Bool) {cs:ATO Value},CN w g n m a cs->∀k∈a.Cx,k<n
 |.AB ks t x,false,cs,h,k,hk=>h.1 k hk
 |.zs,false,_,_,_,hk=>by cases hk
 |.AK j,false,_,h,k,hk=>by
  have :=by simpa [AV.Cx]using hk
  rw[this];exact h.1
 |.ptr j i p o,false,_,h,k,hk=>by
  have :=by simpa [AV.Cx]using hk
  rw[this];exact h.1
 |.FQ ks t x,false,cs,h,k,hk=>h.1 k hk
 |.KG,false,_,_,_,hk=>by cases hk
 |.pr a b,false,_,⟨c,d,e,h1,h2⟩,k,hk=>by
  rcases List.mem_append.1 hk with hk |hk
  ·exact CN.UC a _ h1 k hk
  ·exact CN.UC b _ h2 k hk
 |.fn f c,false,_,⟨vs,e,hx⟩,k,hk=>CN.UC c true hx k hk
 |.un _,false,_,_,_,hk=>by cases hk
 |.cons a b,true,_,⟨v,r,e,h1,h2⟩,k,hk=>by
  rcases List.mem_append.1 hk with hk |hk
  ·rcases h1 with h1 |⟨cs,h1,_⟩
   ·cases a<;>simp[AV.OL]at h1;cases hk
   ·exact CN.UC a _ h1 k hk
  ·exact CN.UC b true h2 k hk
 |.nil,true,_,_,_,hk=>by cases hk
 |.cons _ _,false,_,h,_,_=>h.elim
 |.nil,false,_,h,_,_=>h.elim
 |.mp j,false,_,h,k,hk=>by
  have :=by simpa [AV.Cx]using hk
  rw[this];exact h.1
 |.UT j i p o e,false,_,h,k,hk=>by
  have :=by simpa [AV.Cx]using hk
  rw[this];exact h.1
 |.WM j i p o q u,false,_,h,k,hk=>by
  have :=by simpa [AV.Cx]using hk
  rw[this];exact h.1
 |.WM _ _ _ _ _ _,true,_,h,_,_=>h.elim
 |.UT _ _ _ _ _,true,_,h,_,_=>h.elim
 |.AB _ _ _,true,_,h,_,_=>h.elim
 |.zs,true,_,h,_,_=>h.elim
 |.AK _,true,_,h,_,_=>h.elim
 |.mp _,true,_,h,_,_=>h.elim
 |.ptr _ _ _ _,true,_,h,_,_=>h.elim
 |.FQ _ _ _,true,_,h,_,_=>h.elim
 |.KG,true,_,h,_,_=>h.elim
 |.pr _ _,true,_,h,_,_=>h.elim
 |.fn _ _,true,_,h,_,_=>h.elim
 |.un _,true,_,h,_,_=>h.elim
theorem Cb.UC{a:AV}{v:Value}(h:Cb w g n a v):∀k∈a.Cx,k<n:=by
 cases ht:a.Dv with
 |false =>
  rcases(Cb.iff ht).1 h with h |⟨cs,h,_⟩
  ·intro k hk;cases a<;>simp[AV.OL]at h;cases hk
  ·exact CN.UC a _ h
 |true =>
  cases a with
  |cons a b=>obtain⟨vs,e,h⟩:=h;exact CN.UC _ true h
  |nil=>intro k hk;cases hk
  |_=>cases ht
theorem Cb.bH(hi:∀b,g.own b=.Jd->g'.own b=.Jd){a:AV}{v:Value}(h:Cb w g n a v)(hk:∀k∈a.Cx,AcN φ g g' n' k)(ho:∀k∈a.Tz,Aq8 φ g g' k):Cb w g' n' (a.OR φ) v:=by
 cases ht:a.Dv with
 |false =>
  rw[Cb.iff ht]at h;rw[Cb.iff (by rw[AdX];exact ht),wX,pV];exact h.imp id λ⟨cs,h,hv⟩=>⟨cs,CN.bH hi a _ h hk ho,hv⟩
 |true =>
  cases a with
  |cons a b=>obtain⟨vs,e,h⟩:=h;exact⟨vs,e,CN.bH hi _ true h hk ho⟩
  |nil=>exact h
  |_=>cases ht
theorem Cb.OR(hi:∀b,g.own b=.Jd->g'.own b=.Jd){a:AV}{v:Value}(h:Cb w g n a v)(hk:∀k∈a.Cx,Ren φ g g' n' k):Cb w g' n' (a.OR φ) v :=
 h.bH hi (λk h=>(hk k h).r0) λk h=>(hk k (OX a h)).own
theorem Nu.bH(hi:∀b,g.own b=.Jd->g'.own b=.Jd){k:Nat}{b:Blk}(h:Nu w g n k b)(hk:Ren φ g g' n' k)(RY:∀j∈b.Cx,AcN φ g g' n' j)(hO:∀j∈b.Tz,Aq8 φ g g' j):Nu w g' n' (φ k) (b.OR φ):=by
 cases b with
 |Bg=>trivial
 |map m kt vt es st =>
  obtain⟨RZ,b,Hh,DX,ha,ho,hh,S7,hm⟩:=h;have hmm:(m.OR φ).Cx=m.Cx.map φ:=by cases m<;>rfl
  refine⟨by rw[hmm];exact AbW RY,b,Hh,DX,by rw[hk.A5];exact ha,hk.own b [] ho,hh,S7,hm.on λi x c r=>?_⟩;cases m with
  |Aw=>exact J9.mono (λb q hb=>⟨hk.own b _ hb,rfl⟩) r
  |sh ks=>exact H9.mono (λb a=>⟨a.AiZ hi hO,rfl⟩) r
 |R1 e t xs i p =>
  obtain⟨h1,h2,h3,h4,h5,u,o,x0,b,BG,ds,q1,q2,q3,ha,ho,hh,c1,c2,c3,c4,hc⟩:=h;refine⟨by rw[hk.A5];exact h1,by rw[hk.A5];exact h2,h3,h4,h5,u,o,x0,b,BG,ds,q1,q2,q3,?_⟩;rw[hk.A5];exact⟨ha,hk.own b [] ho,hh,c1,c2,c3,c4,hc.mono λi x c r=>r.mono λb q hb=>⟨hk.own b _ hb,rfl⟩⟩
 |tail e t xs =>
  obtain⟨hf,hlen,QL,B5,hr⟩:=h;refine⟨hf,by rw[hk.A5];exact hlen,by rw[hk.A5];exact QL,B5,?_⟩;rw[hk.A5];exact hr.imp id λ⟨b,o,BG,ds,ha,ho,hh,h1,h2,h3,h4,hc⟩=>⟨b,o,BG,ds,ha,hk.own b [] ho,hh,h1,h2,h3,h4,hc.mono λi x c r=>r.mono λb q hb=>⟨hk.own b _ hb,rfl⟩⟩
 |box a =>
  obtain⟨h1,b,cs,e,ha,ho,hh,hx⟩:=h;exact⟨by rw[hk.A5];exact h1,b,cs,e,by rw[hk.A5];exact ha,hk.own b [] ho,hh,CN.bH hi a _ hx RY hO⟩
 |row e m t xs =>
  obtain⟨RZ,hlen,QL,B5,hr⟩:=h;have hm:(m.OR φ).Cx=m.Cx.map φ:=by cases m<;>rfl
  refine⟨by rw[hm];exact AbW RY,by rw[hk.A5];exact hlen,by rw[hk.A5];exact QL,B5,?_⟩;rw[hk.A5];refine hr.imp id λ⟨b,BG,ds,ha,ho,hh,h1,h2,h3,h4,hc⟩=>⟨b,BG,ds,ha,hk.own b [] ho,hh,h1,h2,h3,h4,?_⟩;cases m with
  |Aw=>exact hc.mono λi x c r=>r.mono λb q hb=>⟨hk.own b _ hb,rfl⟩
  |sh ks=>exact hc.mono λx c r=>r.mono λb a=>⟨a.AiZ hi hO,rfl⟩
theorem Nu.OR(hi:∀b,g.own b=.Jd->g'.own b=.Jd){k:Nat}{b:Blk}(h:Nu w g n k b)(hk:Ren φ g g' n' k)(RY:∀j∈b.Cx,Ren φ g g' n' j):Nu w g' n' (φ k) (b.OR φ) :=
 h.bH hi hk (λk h=>(RY k h).r0) λk h=>(RY k (eC b h)).own
structure Dep (LD:List Nat) (g g':G) (n:Nat):Prop where
 Jd:∀b,g.own b=.Jd->Al g'.own LD b
 BV:∀b k r,g.own b=.BV k r->k<n->g'.own b=.BV k r
 A5:∀k,k<n->g'.A5 k=g.A5 k
 lt:∀k∈LD,k<n
theorem Al.Wy{LD:ATO Nat}(d:Dep LD g g' n){ks:ATO Nat}(hk:∀k∈ks,k<n){b:Nat}(h:Al g.own ks b):Al g'.own (ks++LD) b:=by
 rcases h with h |⟨k,hks,r,h⟩
 ·exact(d.Jd b h).mono λk hk=>AQI _ hk
 ·exact .inr ⟨k,AQH _ hks,r,d.BV b k r h (hk k hks)⟩
theorem Aa3{LD ks:ATO Nat}(d:Dep LD g g' n)(hk:∀k∈ks,k<n):∀k∈ks++LD,k<n:=λk h=>by
 rcases List.mem_append.1 h with h |h
 ·grind
 ·exact d.lt k h
theorem CN.Wy{LD:ATO Nat}(d:Dep LD g g' n):∀(a:AV) (m:Bool) {cs:ATO Value},CN w g n m a cs->CN w g' n m (a.Wy LD) cs
 |.AB ks t x,false,cs,⟨hk,r⟩=>by
  simp only[AV.Wy];cases hf:t.BZ with
  |true=>exact⟨by grind,(H9.BZ hf).2 ((H9.BZ hf).1 r)⟩
  |false=>exact⟨by simpa using Aa3 d hk,by simpa using r.mono λb a=>⟨a.Wy d hk,rfl⟩⟩
 |.zs,false,_,h=>h
 |.AK k,false,_,⟨hk,e⟩=>⟨hk,by rw[d.A5 k hk];exact e⟩
 |.mp k,false,_,⟨hk,b,hb,e⟩=>⟨hk,b,by rw[d.A5 k hk];exact hb,e⟩
 |.ptr k i p o,false,_,⟨hk,h0,h1,b,hb,e⟩=>⟨hk,h0,by rw[d.A5 k hk];exact h1,b,by rw[d.A5 k hk];exact hb,by rw[d.A5 k hk];exact e⟩
 |.FQ ks t x,false,cs,⟨hk,b,off,ds,e,ha,r,hc⟩=>⟨Aa3 d hk,b,off,ds,e,ha.Wy d hk,r.mono λb a=>⟨a.Wy d hk,rfl⟩,hc⟩
 |.KG,false,_,h=>h
 |.pr a b,false,_,⟨c,e,he,h1,h2⟩=>⟨c,e,he,CN.Wy d a _ h1,CN.Wy d b _ h2⟩
 |.fn f c,false,_,⟨vs,e,hx⟩=>⟨vs,e,CN.Wy d c true hx⟩
 |.un k,false,_,h=>h
 |.cons a b,true,_,⟨v,r,e,h1,h2⟩=>by
  refine⟨v,r,e,?_,CN.Wy d b true h2⟩;rw[uY,oA];exact h1.imp id λ⟨cs,hx,hv⟩=>⟨cs,CN.Wy d a _ hx,hv⟩
 |.nil,true,_,h=>h
 |.cons _ _,false,_,h=>h.elim
 |.nil,false,_,h=>h.elim
 |.UT k i p o e,false,_,⟨hk,h0,h1,b,v,ha,ho,e1,e2,hc⟩=>⟨hk,h0,by rw[d.A5 k hk];exact h1,b,v,by rw[d.A5 k hk];exact ha,d.BV b k [] ho hk,e1,e2,by rw[d.A5 k hk];exact hc⟩
 |.WM k i p o j u,false,_,⟨hk,h0,h1,b,b',l,c,ha,ho,e1,e2,hc⟩=>⟨hk,h0,by rw[d.A5 k hk];exact h1,b,b',l,c,by rw[d.A5 k hk];exact ha,d.BV b k [] ho hk,e1,e2,by rw[d.A5 k hk];exact hc⟩
 |.WM _ _ _ _ _ _,true,_,h=>h.elim
 |.UT _ _ _ _ _,true,_,h=>h.elim
 |.AB _ _ _,true,_,h=>h.elim
 |.zs,true,_,h=>h.elim
 |.AK _,true,_,h=>h.elim
 |.mp _,true,_,h=>h.elim
 |.ptr _ _ _ _,true,_,h=>h.elim
 |.FQ _ _ _,true,_,h=>h.elim
 |.KG,true,_,h=>h.elim
 |.pr _ _,true,_,h=>h.elim
 |.fn _ _,true,_,h=>h.elim
 |.un _,true,_,h=>h.elim
theorem Cb.Wy{LD:ATO Nat}(d:Dep LD g g' n){a:AV}{v:Value}(h:Cb w g n a v):Cb w g' n (a.Wy LD) v:=by
 cases ht:a.Dv with
 |false =>
  rw[Cb.iff ht]at h;rw[Cb.iff (by rw[Ada];exact ht),uY,oA];exact h.imp id λ⟨cs,h,hv⟩=>⟨cs,CN.Wy d a _ h,hv⟩
 |true =>
  cases a with
  |cons a b=>obtain⟨vs,e,h⟩:=h;exact⟨vs,e,CN.Wy d _ true h⟩
  |nil=>exact h
  |_=>cases ht
theorem Nu.Wy{LD:ATO Nat}(d:Dep LD g g' n){k:Nat}(hk:k<n){b:Blk}(h:Nu w g n k b):Nu w g' n k (b.Wy LD):=by
 cases b with
 |Bg=>trivial
 |map m kt vt es st =>
  obtain⟨RZ,b,Hh,DX,ha,ho,hh,S7,hm⟩:=h;refine⟨?_,b,Hh,DX,by rw[d.A5 k hk];exact ha,d.BV b k [] ho hk,hh,S7,hm.on λi x c r=>?_⟩
  ·cases m with
   |Aw=>exact RZ
   |sh ks=>exact Aa3 d RZ
  ·cases m with
   |Aw=>exact J9.mono (λb q hb=>⟨d.BV b k _ hb hk,rfl⟩) r
   |sh ks=>exact H9.mono (λb a=>⟨a.Wy d RZ,rfl⟩) r
 |R1 e t xs i p =>
  obtain⟨h1,h2,h3,h4,h5,u,o,x0,b,BG,ds,q1,q2,q3,ha,ho,hh,c1,c2,c3,c4,hc⟩:=h;refine⟨by rw[d.A5 k hk];exact h1,by rw[d.A5 k hk];exact h2,h3,h4,h5,u,o,x0,b,BG,ds,q1,q2,q3,?_⟩;rw[d.A5 k hk];exact⟨ha,d.BV b k [] ho hk,hh,c1,c2,c3,c4,hc.mono λi x c r=>r.mono λb q hb=>⟨d.BV b k _ hb hk,rfl⟩⟩
 |tail e t xs =>
  obtain⟨hf,hlen,QL,B5,hr⟩:=h;refine⟨hf,by rw[d.A5 k hk];exact hlen,by rw[d.A5 k hk];exact QL,B5,?_⟩;rw[d.A5 k hk];exact hr.imp id λ⟨b,o,BG,ds,ha,ho,hh,h1,h2,h3,h4,hc⟩=>⟨b,o,BG,ds,ha,d.BV b k [] ho hk,hh,h1,h2,h3,h4,hc.mono λi x c r=>r.mono λb q hb=>⟨d.BV b k _ hb hk,rfl⟩⟩
 |box a =>
  obtain⟨h1,b,cs,e,ha,ho,hh,hx⟩:=h;exact⟨by rw[d.A5 k hk];exact h1,b,cs,e,by rw[d.A5 k hk];exact ha,d.BV b k [] ho hk,hh,CN.Wy d a _ hx⟩
 |row e m t xs =>
  obtain⟨RZ,hlen,QL,B5,hr⟩:=h;refine⟨?_,by rw[d.A5 k hk];exact hlen,by rw[d.A5 k hk];exact QL,B5,?_⟩
  ·cases m with
   |Aw=>exact RZ
   |sh ks=>exact Aa3 d RZ
  ·rw[d.A5 k hk];refine hr.imp id λ⟨b,BG,ds,ha,ho,hh,h1,h2,h3,h4,hc⟩=>⟨b,BG,ds,ha,d.BV b k [] ho hk,hh,h1,h2,h3,h4,?_⟩;cases m with
   |Aw=>exact hc.mono λi x c r=>r.mono λb q hb=>⟨d.BV b k _ hb hk,rfl⟩
   |sh ks=>exact hc.mono λx c r=>r.mono λb a=>⟨a.Wy d RZ,rfl⟩
end
def DV(w:World)(g:G)(n:Nat):ATO AV->ATO Value->Prop
 |[],[]=>True
 |a::mU,v::vs=>Cb w g n a v/\DV w g n mU vs
 |_,_=>False
structure An (P:Program) (f:FuncId) (c:Callee):Prop where
 aH:jf c
 snd:∀(args:List AV) (E:List Blk) (av:AV) (E':List Blk),c.run (AV×List Blk) args E (λv b=>some (v,b))=some (av,E')->E.length<=E'.length /\
  ∀(w:World) (g:G) (vs:List Value),Bo w g E->DV w g E.length args vs->∀(o:Oper) (a:Act) (next:Act->World->Prop) (Q:Exit->Act->World->Prop),
   (∀v w' g',Bo w' g' E'->Cb w' g' E'.length av v->Step (List.range E.length) E.length w g w' g'->next (a.put o.dst v) w')->o.upon P a next Q ((callFunc f vs.toArray).run P w)
theorem rT:∀{π:ATO Nat} {k:Nat},k∈π->idxOf π k<π.length
 |x::r,k,h=>by
  simp only[idxOf];split
  ·simp
  ·rename_i MO;have:k∈r:=by
    rcases List.mem_cons.1 h with h |h
    ·subst h;simp at MO
    ·exact h
   have:=rT this;simp;omega
theorem rS:∀{π:ATO Nat} {k:Nat},k∈π->π[idxOf π k]?=some k
 |x::r,k,h=>by
  simp only[idxOf];split
  ·rename_i he;simp at he;simp[he]
  ·rename_i MO;have:k∈r:=by
    rcases List.mem_cons.1 h with h |h
    ·subst h;simp at MO
    ·exact h
   simpa using rS this
theorem fh:∀{π:ATO Nat} {j k:Nat},nodup π=true->π[j]?=some k->idxOf π k=j
 |x::r,0,k,_,h=>by simp at h;subst h;simp[idxOf]
 |x::r,j+1,k,hn,h=>by
  simp only[nodup,AQg,ARv]at hn;have hr:r[j]?=some k:=by simpa using h
  have:x≠k:=λe=>by
   subst e;have hm:x∈r:=ARs hr;have:=hn.1;simp[hm]at this
  simp only[idxOf];rw[AQs (by simpa using this),fh hn.2 hr]
theorem lK:∀{π:ATO Nat} {L bs:ATO Blk} {k:Nat} {x:Blk},L.length=π.length->(Rj bs π L)[k]?=some x->(k∉π/\bs[k]?=some x)\/∃j:Nat,π[j]?=some k/\L[j]?=some x
 |[],[],bs,k,x,_,h=>.inl ⟨by simp,h⟩
 |p::π,b::L,bs,k,x,hl,h=>by
  rcases lK (π:=π) (L:=L) (by simpa using hl) h with ⟨h1,h2⟩|⟨j,h1,h2⟩
  ·rw[AQy]at h2;split at h2
   ·rename_i he;subst he;split at h2
    ·injection h2 with h2;exact .inr ⟨0,rfl,by rw[<-h2];rfl⟩
    ·cases h2
   ·rename_i MO;exact .inl ⟨by simp only[ARI,not_or];exact⟨λe=>MO e.symm,h1⟩,h2⟩
  ·exact .inr ⟨j+1,by simpa using h1,by simpa using h2⟩
 |[],_::_,_,_,_,hl,_=>by simp at hl
 |_::_,[],_,_,_,hl,_=>by simp at hl
theorem bL:∀(π:ATO Nat) (L bs:ATO Blk),(Rj bs π L).length=bs.length
 |[],_,_=>by simp[Rj]
 |_::_,[],_=>by simp[Rj]
 |p::π,b::L,bs=>by rw[Rj,bL π L,AQi]
def G.call(g:G)(π π1 LD:ATO Nat):G:=⟨λb=>match g.own b with |.Jd=>.Jd |.BV k r=>if k∈π1 then .BV (idxOf π k) r else if k∈LD then .Jd else .no |.no=>.no,λj=>g.A5 (π.getD j 0)⟩
def G.ret(g gc:G)(n:Nat)(π π1:ATO Nat):G :=
 ⟨λb=>match gc.own b with |.BV j r=>.BV (YR n π j) r |t=>match g.own b with |.BV k r=>if k∈π1 then t else .BV k r |_=>t,λk=>if k<n then g.A5 k else gc.A5 (k-n+π.length)⟩
def G.back(g gc:G)(n:Nat)(π:ATO Nat):G:=⟨λb=>match gc.own b with |.BV j r=>.BV (YR n π j) r |t=>t,λk=>if k<n then g.A5 k else gc.A5 (k-n+π.length)⟩
section
variable {w:World} {g:G} {bs:ATO Blk} {π π1 LD:ATO Nat}
theorem eH{k:Nat}(hk:k∈π):AcN (idxOf π) g (g.call π π1 LD) π.length k:=by
 refine⟨rT hk,?_⟩;have:=rS hk;simp[G.call,List.getD,this]
theorem jN{k:Nat}(hk:k∈π)(h1:k∈π1):Ren (idxOf π) g (g.call π π1 LD) π.length k where
 lt:=rT hk
 A5:=(eH hk).2
 own b r h:=by simp[G.call,h,h1]
theorem jM{b:Nat}(h:g.own b=.Jd):(g.call π π1 LD).own b=.Jd:=by simp[G.call,h]
theorem W5(hb:∀k∈LD,k∉π1){ks:ATO Nat}(hk:∀k∈ks,k∈LD){b:Nat}(h:Al g.own ks b):Al (g.call π π1 LD).own [] b:=by
 rcases h with h |⟨k,hks,r,h⟩
 ·exact .inl (jM h)
 ·have h1:=hk k hks;exact .inl (by simp[G.call,h,hb k h1,h1])
theorem Ac1(H:Bo w g bs){YG:ATO Nat}(hn:nodup π=true)(h1:∀k∈π,k∉YG->k∈π1)(OC:∀k∈π,∃b,bs[k]?=some b/\(∀j∈b.Cx,j∈π)/\(k∈YG\/∀j∈b.Tz,j∉YG)):Bo w (g.call π π1 LD) (π.map λk=>bif YG.contains k then .Bg else((bs[k]?).getD .Bg).OR (idxOf π)):=by
 refine⟨λb hb=>by simp[G.call,H.B7 b hb],λj x hx=>?_⟩;rw[AQC]at hx;cases hj:π[j]? with
 |none=>rw[hj]at hx;cases hx
 |some k =>
  rw[hj]at hx;injection hx with hx;subst hx;have hk:k∈π:=ARs hj;obtain⟨b,hb,RY,hh⟩:=OC k hk;cases hc:YG.contains k with
  |true=>simp only[hc,AQp];trivial
  |false =>
   have hkh:k∉YG:=by simpa using hc
   have AF9:=hh.resolve_left hkh;have:=(H.MP k b hb).bH (φ:=idxOf π) (g':=g.call π π1 LD) (n':=π.length) (λb h=>jM h) (jN hk (h1 k hk hkh)) (λj hj=>eH (RY j hj)) λj hj=>(jN (RY j (eC b hj)) (h1 j (RY j (eC b hj)) (AF9 j hj))).own;rw[fh hn hj]at this;simp only[hc,hb,Option.getD_some,AQl,AQo];exact this
theorem bG{t:Ty}{v:AV}{y:t.V}(h:rd bs t v=some y):v.isAgg=t.isAgg:=by
 have plain:∀(t:Ty) (ks:ATO Nat) (u:Ty) (z:u.V) (y:t.V),JA u t z=some y->(AV.AB ks u z).isAgg=t.isAgg:=λt ks u z y h=>by
  obtain⟨e,_⟩:=BR h;subst e;rfl
 cases t with
 |AG a b=>cases v<;>simp only[rd,reduceCtorEq]at h<;>first |exact plain _ _ _ _ _ h |rfl
 |sl t=>cases v<;>simp only[rd,reduceCtorEq]at h<;>first |exact plain _ _ _ _ _ h |rfl
 |int k=>cases v<;>simp only[rd,reduceCtorEq]at h<;>exact plain _ _ _ _ _ h
 |bool=>cases v<;>simp only[rd,reduceCtorEq]at h<;>exact plain _ _ _ _ _ h
 |str=>cases v<;>simp only[rd,reduceCtorEq]at h<;>exact plain _ _ _ _ _ h
 |unit=>cases v<;>simp only[rd,reduceCtorEq]at h<;>exact plain _ _ _ _ _ h
 |R4 z=>cases v<;>simp only[rd,reduceCtorEq]at h<;>exact plain _ _ _ _ _ h
theorem AkW(H:Bo w g bs){k:Nat}{i:Int}{a:AV}(h:atB bs k i=some a)(hi:i.toNat<(g.A5 k).len){b:Nat}(hb:(g.A5 k).a=some ⟨b,0,none⟩):g.own b=.BV k []:=by
 unfold atB at h;split at h
 ·rename_i a' hx;obtain⟨h1,b',cs,e,ha,ho,hh,hr⟩:=H.MP k _ hx;rw[hb]at ha;injection ha with ha;injection ha with ha;subst ha;exact ho
 ·rename_i e m t xs hx;obtain⟨RZ,hlen,QL,B5,hr⟩:=H.MP k _ hx;rcases hr with ⟨ZP,_⟩|⟨b',BG,ds,ha,ho,_⟩
  ·rw[hlen,ZP]at hi;simp at hi
  ·rw[hb]at ha;injection ha with ha;injection ha with ha;subst ha;exact ho
 ·cases h
theorem Avb(H:Bo w g bs)(hb:∀k∈LD,k∉π1){m:PM}{v a:AV}{l:ATO Nat}(h:zi bs m v=some (a,l))(hl:∀k∈l,k∈LD)(hr:∀k∈AfL m v,k∈π)(hh:∀k∈a.Tz,k∈π->k∈π1){x:Value}(hx:Cb w g bs.length v x):Cb w (g.call π π1 LD) π.length (a.OR (idxOf π)) x:=by
 cases m with
 |d t =>
  simp only[zi]at h;split at h
  ·rename_i y hy;simp only[AQb,AQm]at h;obtain⟨rfl,rfl⟩:=h;obtain⟨Y8,Sp⟩:=WN hy;obtain⟨cs,UA,hv⟩:=B9 Y8 Sp hx;refine BD rfl (cs:=cs) ⟨λk hk=>by(cases hk),(Ri H t v y cs hy UA).1.mono λb hA=>⟨W5 hb hl hA,rfl⟩⟩ ?_;rw[bG hy]at hv;exact hv
  ·cases h
 |p t =>
  cases v with
  |FQ ks u y =>
   simp only[zi]at h;split at h
   ·rename_i z hz;simp only[AQb,AQm]at h;obtain⟨rfl,rfl⟩:=h;obtain⟨e,he⟩:=BR hz;subst e;simp only at he;subst he;obtain⟨hk,b,off,ds,rfl,ha,nq,hc⟩:=ZA hx;exact fw (λk hk=>by cases hk) (W5 hb hl ha) (nq.mono λb hA=>⟨W5 hb hl hA,rfl⟩) hc
   ·cases h
  |ptr k i p o =>
   simp only[zi]at h;split at h
   ·rename_i c hc;split at h
    ·rename_i y hy;simp only[AQb,AQm]at h;obtain⟨rfl,rfl⟩:=h;obtain⟨hk,h0,h1,b,OB,rfl⟩:=LX hx;obtain⟨cs,UA,D2⟩:=W2 H hc h1 OB;have Cw:g.own b=.BV k []:=by
      unfold atP at hc;split at hc
      ·rename_i d hd;exact AkW H hd h1 OB
      ·cases hc
     exact fw (λk hk=>by cases hk) (W5 hb hl (.mem (AQE) Cw)) ((Ri H t c y cs hy UA).1.mono λb hA=>⟨W5 hb hl (hA.mono λk hk=>AQB _ hk),rfl⟩) D2
    ·cases h
   ·cases h
  |_=>simp[zi]at h
 |VE =>
  simp only[zi,AQb,AQm]at h;obtain⟨rfl,rfl⟩:=h;exact hx.bH (λb h=>jM h) (λk hk=>eH (hr k hk)) λk hk=>(jN (hr k (OX _ hk)) (hh k hk (hr k (OX _ hk)))).own
theorem Aa5(H:Bo w g bs)(hb:∀k∈LD,k∉π1):∀{ms:ATO PM} {vs mU:ATO AV} {l aK:ATO Nat} {xs:ATO Value},jy bs ms vs=some (mU,l,aK)->(∀k∈l,k∈LD)->(∀k∈aK,k∈π)->(∀a∈mU,∀k∈a.Tz,k∈π->k∈π1)->DV w g bs.length vs xs ->
    DV w (g.call π π1 LD) π.length (mU.map (·.OR (idxOf π))) xs
 |[],[],mU,l,aK,[],h,_,_,_,_=>by
  simp only[jy,AQb,AQm]at h;obtain⟨rfl,_,_⟩:=h;trivial
 |m::ms,v::vs,mU,l,aK,x::xs,h,hl,hr,hh,hx=>by
  simp only[jy]at h;split at h
  ·rename_i a l1 ANq ls rs h1 h2;simp only[AQb,AQm]at h;obtain⟨rfl,rfl,rfl⟩:=h;exact⟨Avb H hb h1 (λk hk=>hl k (AQH _ hk)) (λk hk=>hr k (AQH _ hk)) (hh a (by simp)) hx.1,
    Aa5 H hb h2 (λk hk=>hl k (AQI _ hk)) (λk hk=>hr k (AQI _ hk)) (λa ha=>hh a (by simp[ha])) hx.2⟩
  ·cases h
 |[],[],_,_,_,_::_,_,_,_,_,hx=>hx.elim
 |[],_::_,_,_,_,_,h,_,_,_,_=>by simp[jy]at h
 |_::_,[],_,_,_,_,h,_,_,_,_=>by simp[jy]at h
 |_::_,_::_,_,_,_,[],_,_,_,_,hx=>hx.elim
end
theorem qE{n:Nat}{π:ATO Nat}{j k:Nat}(h:π[j]?=some k):YR n π j=k:=by simp[YR,h]
theorem qD{n:Nat}{π:ATO Nat}{j:Nat}(h:π.length<=j):YR n π j=n+(j-π.length):=by
 have:π[j]?=none:=AQN h;simp[YR,this]
theorem Adb(bs:ATO Blk):Bh [] bs=bs:=rfl
theorem ou{P:Program}{f:FuncId}{c:Callee}(hc:An P f c){bs:ATO Blk}{args:ATO AV}{e:H8}(h:YV c bs args some=some e) :
    bs.length<=e.Aj.length/\(e.BJ=[]->∃l,e.Aj=bs++l)/\∀(w:World) (g:G) (vs:ATO Value),Bo w g bs->DV w g bs.length args vs->∀(o:Oper) (a:Act) (next:Act->World->Prop) (Q:Exit->Act->World->Prop),
     (∀v w' g',Bo w' g' e.Aj->Cb w' g' e.Aj.length e.val v->Step e.BJ bs.length w g w' g'->next (a.put o.dst v) w')->o.upon P a next Q ((callFunc f vs.toArray).run P w):=by
 unfold YV at h;split at h
 ·cases h
 ·rename_i mU LD aK AbE
  dsimp only at h
  split at h
  ·rename_i hck;simp only[AQg]at hck;obtain⟨⟨⟨⟨⟨AJy,S7⟩,Awa⟩,OC⟩,hhd⟩,AF4⟩:=hck;generalize hπ:pT bs bs.length (ik [] aK)=π at *;generalize AOh:(π.filter λk=>c.AdC.contains (idxOf π k))=YG at *;generalize hπ1:(π.filter λk=>!YG.contains k)=π1 at *;rw[hc.aH]at h;cases Es:c.run (AV×ATO Blk) (mU.map (·.OR (idxOf π))) (π.map λk=>bif YG.contains k then .Bg else((bs[k]?).getD .Bg).OR (idxOf π)) λv b=>some (v,b)with
   |none=>rw[Es]at h;cases h
   |some p =>
    obtain⟨av,E'⟩:=p;rw[Es]at h;simp only[AP9]at h;split at h
    ·rename_i S5;injection h with h;subst h;obtain⟨Qs,QU⟩:=hc.snd _ _ _ _ Es;rw[AQl]at Qs QU;have AiA:∀k,k∈π1↔k∈π/\k∉YG:=λk=>by rw[<-hπ1];simp
     have AFW:∀k∈LD,k∉π/\k<bs.length:=λk hk=>by
      have:=List.all_eq_true.1 AJy k hk;simpa using this
     have hbp:∀k∈LD,k∉π1/\k<bs.length:=λk hk=>⟨λh=>(AFW k hk).1 ((AiA k).1 h).1,(AFW k hk).2⟩;have AhI:∀k∈π,∃b,bs[k]?=some b/\(∀j∈b.Cx,j∈π)/\(k∈YG\/∀j∈b.Tz,j∉YG):=λk hk=>by
      have:=List.all_eq_true.1 OC k hk;split at this
      ·rename_i b hb;simp only[AQg,ARr]at this;exact⟨b,hb,λj hj=>by have:=List.all_eq_true.1 this.1 j hj;simpa using this,this.2.imp (λh=>by simpa using h) λh j hj=>by have:=List.all_eq_true.1 h j hj;simpa using this⟩
      ·cases this
     have hr':∀k∈aK,k∈π:=λk hk=>by have:=List.all_eq_true.1 Awa k hk;simpa using this
     have hh':∀a∈mU,∀k∈a.Tz,k∈π->k∈π1:=λa ha k hk hp=>(AiA k).2 ⟨hp,by have:=List.all_eq_true.1 (List.all_eq_true.1 hhd a ha) k hk;simpa using this⟩;have AKD:∀k∈π,k<bs.length:=λk hk=>by obtain⟨b,hb,_⟩:=AhI k hk;exact A7 hb
     let n:=bs.length
     let φ:=YR n π
     let E1:=List.zipWith (λk b=>bif YG.contains k then((Bh π1 bs)[k]?).getD .Bg else(b.OR φ).Wy LD) π E'
     let E2:=(E'.drop π.length).map λb=>(b.OR φ).Wy LD
     have hE1:E1.length=π.length:=by simp only[E1,List.length_zipWith];omega
     have hlen:(Rj (Bh π1 bs) π E1++E2).length=n+(E'.length-π.length):=by
      rw[AQd,bL,AH];simp[E2,n]
     refine⟨by show n<=(Rj (Bh π1 bs) π E1++E2).length;rw[hlen];omega,λh0=>?_,λw g vs H hx o a next Q hn=>?_⟩
     ·have h0:π1=[]:=h0;have h0':π=[]:=by rw[h0]at AF4;simpa using AF4
      refine⟨E2,?_⟩;show Rj (Bh π1 bs) π E1++E2=_;rw[h0,h0'];simp[Rj,Adb]
     ·have Hc:=Ac1 (LD:=LD) H S7 (λk h1 h2=>(AiA k).2 ⟨h1,h2⟩) AhI;have Ac:=Aa5 (LD:=LD) H (λk hk=>(hbp k hk).1) AbE (λk hk=>hk) hr' hh' hx;refine QU w (g.call π π1 LD) vs Hc Ac o a next Q λv w' gc H' hv st=>?_
      let g1:=g.back gc n π
      let g':=g.ret gc n π π1
      have Bw:∀b,g.own b≠.no->b<w.heap.size:=λb h=>Vp H h;have Wd:∀b k r,g.own b=.BV k r->k∉π1->(gc.own b=.Jd/\k∈LD\/gc.own b=.no)/\w'.heap[b]?=w.heap[b]?:=λb k r hb hk=>by
       by_cases hkb:k∈LD
       ·have:=st.Jd b (by simp[G.call,hb,hk,hkb]);exact⟨.inl ⟨this.1,hkb⟩,this.2⟩
       ·have:=st.no b (Bw b (by rw[hb];simp)) (by simp[G.call,hb,hk,hkb]);exact⟨.inr this.1,this.2⟩
      have BX:Step π1 n w g w' g':=by
       refine⟨st.os,st.tape,st.output,st.size,λb hb h=>?_,λb h=>?_,λb k r h hk hm=>?_,λk hk=>?_⟩
       ·have:=st.no b hb (by simp[G.call,h]);exact⟨by simp[g',G.ret,this.1,h],this.2⟩
       ·have:=st.Jd b (by simp[G.call,h]);exact⟨by simp[g',G.ret,this.1,h],this.2⟩
       ·obtain⟨h1,h2⟩:=Wd b k r h hm;refine⟨?_,h2⟩;rcases h1 with ⟨h1,_⟩|h1<;>simp[g',G.ret,h1,h,hm]
       ·have XC:k<bs.length:=hk;simp[g',G.ret,n,XC]
      have Amq:∀j,j<E'.length->Ren φ gc g1 (n+(E'.length-π.length)) j:=λj hj=>by
       rcases AQk j π.length with aA |aA
       ·obtain⟨k,hk⟩:∃k,π[j]?=some k:=⟨_,ARi aA⟩;have hkm:k∈π:=ARs hk;have fY:k<bs.length:=AKD k hkm;refine⟨by rw[show φ j=k from qE hk];omega,?_,λb r hb=>by simp[g1,G.back,hb,φ]⟩;rw[show φ j=k from qE hk];have h1:gc.A5 j=(g.call π π1 LD).A5 j:=st.A5 j aA;rw[h1];simp[g1,G.back,n,fY,G.call,List.getD,hk]
       ·refine⟨by rw[show φ j=n+(j-π.length)from qD aA];omega,?_,λb r hb=>by simp[g1,G.back,hb,φ]⟩;rw[show φ j=n+(j-π.length)from qD aA];have:¬n+(j-π.length)<n:=by omega
        simp only[g1,G.back,AQs this];congr 1;omega
      have kG:∀b,gc.own b=.Jd->g1.own b=.Jd:=λb hb=>by simp[g1,G.back,hb]
      have AF1:Dep LD g1 g' (n+(E'.length-π.length)):=by
       refine⟨λb hb=>?_,λb k r hb hk=>?_,λk hk=>rfl,λk hk=>by have:=(hbp k hk).2;omega⟩
       ·have hgc:gc.own b=.Jd:=by
          simp only[g1,G.back]at hb;split at hb
          ·cases hb
          ·exact hb
        cases hg:g.own b with
        |no=>exact .inl (by simp[g',G.ret,hgc,hg])
        |Jd=>exact .inl (by simp[g',G.ret,hgc,hg])
        |BV k r =>
         by_cases hk:k∈π1
         ·exact .inl (by simp[g',G.ret,hgc,hg,hk])
         ·obtain⟨h1,_⟩:=Wd b k r hg hk;rcases h1 with ⟨_,hkb⟩|h1
          ·exact .inr ⟨k,hkb,r,by simp[g',G.ret,hgc,hg,hk]⟩
          ·rw[hgc]at h1;cases h1
       ·simp only[g1,G.back]at hb;split at hb
        ·rename_i j r' hj;simp only[g',G.ret,hj];exact hb
        ·rename_i h1;exact(h1 k r hb).elim
      refine hn v w' g' ⟨λb hb=>?_,λk x hx=>?_⟩ ?_ BX
      ·have h1:=H'.B7 b hb;have h2:=H.B7 b (AQD st.size hb);simp[g',G.ret,h1,h2]
      ·have hx:(Rj (Bh π1 bs) π E1++E2)[k]?=some x:=hx;show Nu w' g' (Rj (Bh π1 bs) π E1++E2).length k x;rw[hlen];have one:∀(j:Nat) (b:Blk),E'[j]?=some b->Nu w' g' (n+(E'.length-π.length)) (φ j) ((b.OR φ).Wy LD):=λj b hj=>by
        have aA:=A7 hj;have hb:=H'.MP j b hj;have hbr:=hb.OR kG (Amq j aA) λi hi=>Amq i (by
         cases b with
         |Bg=>cases hi
         |map m kt vt es st=>exact hb.1 i hi
         |R1 e t xs i' p=>cases hi
         |tail e t xs=>cases hi
         |box a=>obtain⟨_,_,_,_,_,_,_,hx⟩:=hb;exact CN.UC a false hx i hi
         |row e m t xs=>exact hb.1 i hi)
        exact hbr.Wy AF1 (Amq j aA).lt
       rw[AQz]at hx;split at hx
       ·have pI:∀y,(Bh π1 bs)[k]?=some y->k∉π1->Nu w' g' (n+(E'.length-π.length)) k y:=λy hy hk=>by
          obtain⟨z,hz,rfl⟩:=DC hy;exact(H.MP k z hz).step BX (by omega) (A7 hz) hk
        rcases lK hE1 hx with ⟨hk,h⟩|⟨j,hj,h⟩
        ·exact pI x h λh1=>hk ((AiA k).1 h1).1
        ·simp only[E1,List.getElem?_zipWith,hj]at h;cases hq:E'[j]? with
         |none=>rw[hq]at h;cases h
         |some b =>
          rw[hq]at h;injection h with h;cases hc:YG.contains k with
          |true =>
           rw[hc,AQp]at h;have hkh:k∈YG:=by simpa using hc
           cases hd:(Bh π1 bs)[k]? with
           |none=>rw[hd]at h;subst h;trivial
           |some y=>rw[hd]at h;subst h;exact pI _ hd λh1=>((AiA k).1 h1).2 hkh
          |false =>
           rw[hc,AQo]at h;subst h;have:=one j b hq;rwa [show φ j=k from qE hj]at this
       ·rename_i hk;rw[bL,AH]at hx hk;simp only[E2,AQC,AR9]at hx;cases hq:E'[π.length+(k-bs.length)]? with
        |none=>rw[hq]at hx;cases hx
        |some b =>
         rw[hq]at hx;injection hx with hx;subst hx;have:=one _ b hq;rwa [show φ (π.length+(k-bs.length))=k from by
          rw[show φ (π.length+(k-bs.length))=n+(π.length+(k-bs.length)-π.length)from qD (by omega)];simp only[n];omega]at this
      ·show Cb w' g' (Rj (Bh π1 bs) π E1++E2).length ((av.OR φ).Wy LD) v;rw[hlen];exact(hv.OR kG λk hk=>Amq k (hv.UC k hk)).Wy AF1
    ·cases h
  ·cases h
def Aor(l:ATO Nat)(c:Callee):Callee:={c with AdC:=l}
theorem Aim{P:Program}{f:FuncId}{c:Callee}(l:ATO Nat)(h:An P f c):An P f (Aor l c):=⟨h.aH,h.snd⟩
theorem sJ{r q L:ATO Nat}{a b:Nat}(h:(r++a::L) <:+ (q++b::L)):a=b:=by
 obtain⟨s,hs⟩:=h;have:(s++r)++(a::L)=q++(b::L):=by grind
 have:=List.append_inj_right' this rfl;injection this
theorem kY:∀(f:Nat) (L:ATO Nat),∃r,r9 f L=r++L
 |0,L=>⟨[0],rfl⟩
 |f+1,L=>by
  obtain⟨r,h⟩:=kY f _;exact⟨r++[1],by rw[r9,h];simp⟩
theorem dq:∀(p L:ATO Nat),∃r,Vo p L=r++L
 |[],L=>⟨[],rfl⟩
 |f::p,L=>by
  obtain⟨r,hr⟩:=dq p _;obtain⟨s,hs⟩:=kY f L;exact⟨r++s,by rw[Vo,hr,hs,AQh]⟩
def Fr(w:World)(own:Nat->Vf)(w':World)(OO:Nat->Vf)(k:Nat)(P:ATO Nat):Prop:=∀b q,own b=.BV k q->¬P <:+ q->OO b=.BV k q/\w'.heap[b]?=w.heap[b]?
def AkM(w:World)(own:Nat->Vf)(k:Nat)(u:Ty)(zs:ATO u.V)(P:ATO Nat)(t:Ty)(L:ATO Nat)(x':t.V)(ys:ATO u.V)(cs:ATO Value)(o:Nat):Prop :=
 ∃c0 c1 c2,cs=c0++c1++c2/\c0.length=o/\J9 w own k (.sl u) P ys c1/\∀w' OO T7,Fr w own w' OO k P->J9 w' OO k (.sl u) P zs T7->J9 w' OO k t L x' (c0++T7++c2)
section
variable {w:World} {own:Nat->Vf} {k:Nat} {u:Ty} {zs:ATO u.V}
theorem sib{w':World}{OO:Nat->Vf}{P:ATO Nat}{t:Ty}{L:ATO Nat}{x:t.V}{cs:ATO Value}(mJ:Fr w own w' OO k P)(hP:∀q,¬P <:+ (q++L))(h:J9 w own k t L x cs):J9 w' OO k t L x cs :=
 h.mono λb q hb=>mJ b _ hb (hP q)
theorem vP(p:ATO Nat)(ih:∀(t:Ty) (L:ATO Nat) (x x':t.V) (cs:ATO Value) (o:Nat) (ys:ATO u.V),TU (.sl u) zs p t x=some x'->kz (.sl u) p t x=some ys->Mf t p=some o->J9 w own k t L x cs->AkM w own k u zs (Vo p L) t L x' ys cs o) :
    ∀(f:Nat) (t:Ty) (L:ATO Nat) (x x':t.V) (cs:ATO Value) (t1:Ty) (o1 o2:Nat) (ys:ATO u.V),SE t x f (λt' y=>TU (.sl u) zs p t' y)=some x'->AvA t x f (λt' y=>kz (.sl u) p t' y)=some ys ->
     mP t f=some t1->VB t f=some o1->Mf t1 p=some o2->J9 w own k t L x cs->AkM w own k u zs (Vo p (r9 f L)) t L x' ys cs (o1+o2)
 |0,.AG a b,L,x,x',cs,t1,o1,o2,ys,hs,hg,ht,ho,yj,h=>by
  obtain⟨c,d,e,h1,h2⟩:=h;simp only[mP,AQb]at ht;subst ht;simp only[VB,AQb]at ho;simp only[SE]at hs;split at hs
  ·rename_i y hy;injection hs with hs;subst hs;obtain⟨c0,c1,c2,e2,hl,hr,hk⟩:=ih a (0::L) x.1 y c o2 ys hy hg yj h1;refine⟨c0,c1,c2++d,by grind,by omega,hr,λw' OO T7 mJ hz=>⟨c0++T7++c2,d,by grind,hk w' OO T7 mJ hz,sib mJ (λq hq=>?_) h2⟩⟩;obtain⟨r,hr⟩:=dq p (r9 0 L);rw[hr]at hq;have:=sJ (r:=r) (q:=q) (L:=L) (a:=0) (b:=1) hq;cases this
  ·grind
 |f+1,.AG a b,L,x,x',cs,t1,o1,o2,ys,hs,hg,ht,ho,yj,h=>by
  obtain⟨c,d,e,h1,h2⟩:=h;simp only[VB]at ho;split at ho
  ·rename_i o3 ho3;injection ho with ho;simp only[SE]at hs;split at hs
   ·rename_i y hy;injection hs with hs;subst hs;obtain⟨c0,c1,c2,e2,hl,hr,hk⟩:=vP p ih f b (1::L) x.2 y d t1 o3 o2 ys hy hg ht ho3 yj h2;refine⟨c++c0,c1,c2,by grind,by rw[AQd,h1.len];omega,hr,λw' OO T7 mJ hz=>⟨c,c0++T7++c2,by grind,sib mJ (λq hq=>?_) h1,hk w' OO T7 mJ hz⟩⟩;obtain⟨r,hr⟩:=dq p (r9 (f+1) L);obtain⟨s,hs⟩:=kY f (1::L);rw[hr,r9,hs,<-AQh]at hq;have:=sJ (r:=r++s) (q:=q) (L:=L) (a:=1) (b:=0) hq;cases this
   ·grind
  ·grind
 |f,.int _,_,_,_,_,_,_,_,_,hs,_,_,_,_,_=>by simp[SE]at hs
 |f,.bool,_,_,_,_,_,_,_,_,hs,_,_,_,_,_=>by simp[SE]at hs
 |f,.str,_,_,_,_,_,_,_,_,hs,_,_,_,_,_=>by simp[SE]at hs
 |f,.unit,_,_,_,_,_,_,_,_,hs,_,_,_,_,_=>by simp[SE]at hs
 |f,.sl _,_,_,_,_,_,_,_,_,hs,_,_,_,_,_=>by simp[SE]at hs
 |f,.R4 _,_,_,_,_,_,_,_,_,hs,_,_,_,_,_=>by simp[SE]at hs
theorem ly:∀(p:ATO Nat) (t:Ty) (L:ATO Nat) (x x':t.V) (cs:ATO Value) (o:Nat) (ys:ATO u.V),TU (.sl u) zs p t x=some x'->kz (.sl u) p t x=some ys->Mf t p=some o->J9 w own k t L x cs->AkM w own k u zs (Vo p L) t L x' ys cs o
 |[],t,L,x,x',cs,o,ys,hs,hg,ho,h=>by
  simp only[Mf,AQb]at ho;subst ho;obtain⟨e,he⟩:=BR hs;obtain⟨e',he'⟩:=BR hg;subst e;subst he;subst he';exact⟨[],cs,[],by simp,rfl,h,λw' OO T7 _ hz=>by simpa [Vo]using hz⟩
 |f::p,t,L,x,x',cs,o,ys,hs,hg,ho,h=>by
  simp only[Mf]at ho;split at ho
  ·rename_i t1 o1 h1 h2;split at ho
   ·rename_i o2 h3;injection ho with ho;subst ho;exact vP p (ly p) f t L x x' cs t1 o1 o2 ys hs hg h1 h2 h3 h
   ·grind
  ·grind
end
def G.jZ(g:G)(n k:Nat)(P:ATO Nat)(i:BI):G:=⟨λb=>match g.own b with |.BV j q=>if j=k/\P <:+ q then .BV n (q.take (q.length-P.length))else .BV j q |t=>t,λj=>if j=n then i else g.A5 j⟩
def G.fQ(g:G)(n k:Nat)(P:ATO Nat):G:=⟨λb=>match g.own b with |.BV j q=>if j=n then .BV k (q++P)else .BV j q |t=>t,g.A5⟩
section
variable {w:World} {g:G} {bs:ATO Blk}
theorem ZF{n k:Nat}{P:ATO Nat}{i:BI}{b:Nat}{q:ATO Nat}(h:g.own b=.BV k (q++P)):(g.jZ n k P i).own b=.BV n q:=by
 have:P <:+ (q++P):=⟨q,rfl⟩;simp[G.jZ,h]
theorem XI{n k:Nat}{P:ATO Nat}{i:BI}{b j:Nat}{q:ATO Nat}(h:g.own b=.BV j q)(hn:¬(j=k/\P <:+ q)):(g.jZ n k P i).own b=.BV j q:=by
 simp only[G.jZ,h,AQs hn]
theorem Aa7{n k:Nat}{P:ATO Nat}{b:Nat}{q:ATO Nat}(h:g.own b=.BV n q):(g.fQ n k P).own b=.BV k (q++P):=by simp[G.fQ,h]
theorem iD{n k:Nat}{P:ATO Nat}{b j:Nat}{q:ATO Nat}(h:g.own b=.BV j q)(hn:j≠n):(g.fQ n k P).own b=.BV j q:=by simp only[G.fQ,h,AQs hn]
theorem lX{k:Nat}{P:ATO Nat}{i:BI}:Step [k] bs.length w g w (g.jZ bs.length k P i) where
 os:=rfl
 tape:=rfl
 output:=rfl
 size:=AQf _
 no b _ h:=⟨by simp[G.jZ,h],rfl⟩
 Jd b h:=⟨by simp[G.jZ,h],rfl⟩
 BV b j q h hj hm:=⟨XI h λhc=>hm (by grind),rfl⟩
 A5 j hj:=by simp[G.jZ,Nat.ne_of_lt hj]
theorem xw{n k N:Nat}{P:ATO Nat}:Step [n,k] N w g w (g.fQ n k P) where
 os:=rfl
 tape:=rfl
 output:=rfl
 size:=AQf _
 no b _ h:=⟨by simp[G.fQ,h],rfl⟩
 Jd b h:=⟨by simp[G.fQ,h],rfl⟩
 BV b j q h hj hm:=⟨iD h λhc=>hm (by grind),rfl⟩
 A5 j hj:=rfl
theorem Tg{A:Type}{l:ATO A}{k j:Nat}{x y:A}(h:(l.set k x)[j]?=some y):(j=k/\y=x)\/(j≠k/\l[j]?=some y):=by
 grind
theorem Bu.lj{A:Type}{I J:Nat->A->ATO Value->Prop}:∀{lo:Nat} {xs:ATO A} {cs:ATO Value},(∀j x c,lo<=j->j<lo+xs.length->I j x c->J j x c)->Bu I lo xs cs->Bu J lo xs cs
 |_,[],_,_,h=>h
 |lo,_::xs,_,h,⟨c,d,e,r,l⟩=>⟨c,d,e,h _ _ _ (AQf _) (by simp) r,Bu.lj (λj x c h1 h2=>h j x c (by omega) (by grind)) l⟩
theorem ZG(H:Bo w g bs){k ek:Nat}{t u:Ty}{xs:ATO t.V}(hb:bs[k]?=some (.row ek .Aw t xs)){i:Int}{p:ATO Nat}{o:Nat}(hi:i.toNat<(g.A5 k).len){ys:ATO u.V}
    (hg:kz (.sl u) p t (xs.getD i.toNat t.zero)=some ys) (ho:Mf t p=some o) (hu:u.size≠0) {b:Nat} (OB:(g.A5 k).a=some ⟨b,0,none⟩) {v:Value} (hv:w.cell? ⟨b,i.toNat*(g.A5 k).oI+o,none⟩=some v)
    {zs:ATO u.V} {x':t.V} (hs:TU (.sl u) zs p t (xs.getD i.toNat t.zero)=some x') :
    ∃g1,Bo w g1 ((Bh [k] bs).set k .Bg++[.row 0 .Aw u ys])/\Step [k] bs.length w g w g1/\Cb w g1 (bs.length+1) (.AK bs.length) v /\
     (∀(w':World) (g2:G) (N:Nat) (e0:Nat),(∀b q,g1.own b=.BV k q->g2.own b=.BV k q/\w'.heap[b]?=w.heap[b]?)->(∀j,j<=bs.length->g2.A5 j=g1.A5 j) ->
      Nu w' g2 N bs.length (.row e0 .Aw u zs)->Nu w' (g2.fQ bs.length k (Vo p [i.toNat])) N k (.row ek .Aw t (xs.set i.toNat x'))) /\
     (zs=[]->tyP t p=some (.sl u)->0<=i->∀N,Nu w g1 N k (.R1 ek t xs i p)):=by
 have rI:=A7 hb;obtain⟨RZ,hlen,QL,B5,hr⟩:=H.MP k _ hb;have Bw:i.toNat<xs.length:=by rw[<-hlen];exact hi
 rcases hr with ⟨ZP,_⟩|⟨b',BG,ds,ha,Cw,⟨el,V2,hh⟩,Pk,oN,hc3,hc4,MN⟩
 ·rw[ZP]at Bw;simp at Bw
 rw[OB]at ha;injection ha with ha;injection ha with ha;subst ha;have MN:Bu (λi=>J9 w g.own k t [i]) 0 xs ds:=MN;obtain⟨c0,c,d,e1,iK,hrc,hr0,nq⟩:=Bu.A5 (λi x c h=>J9.len h) MN Bw;rw[AQF]at hrc nq;have hgd:xs.getD i.toNat t.zero=xs[i.toNat]:=by simp[List.getD,Bw]
 let P:=Vo p [i.toNat]
 obtain⟨r0,hP⟩:=dq p [i.toNat];obtain⟨a0,a1,a2,e2,iL,hys,bm⟩:AkM w g.own k u zs P t [i.toNat] x' ys c o:=ly p t [i.toNat] (xs.getD i.toNat t.zero) x' c o ys hs hg ho (by rw[hgd];exact hrc);have AKA:=hys;obtain⟨ad,cap,e3,OY⟩:=AKA;have hvh:v=.slice ad ys.length cap:=by
  rw[QO hh,<-AQn,QL]at hv;have hq:ds[i.toNat*t.size+o]?=some (.slice ad ys.length cap):=by
   rw[e1,e2,e3,AQh,AQv (by omega),iK];rw[show i.toNat*t.size+o-i.toNat*t.size=a0.length by omega];simp
  subst hc4;rw[AQ8]at hq;split at hq
  ·rw[hv]at hq;injection hq
  ·cases hq
 let i1:BI:=⟨ad,ys.length,cap,u.size⟩
 let n:=bs.length
 let g1:=g.jZ n k P i1
 have st:Step [k] n w g w g1:=lX;have U8:g1.A5 n=i1:=by simp[g1,G.jZ]
 have fY:k≠n:=by simp only[n];omega
 have oQ:((Bh [k] bs).set k Blk.Bg++[Blk.row 0 .Aw u ys]).length=n+1:=by simp[AH,n]
 refine⟨g1,?_,st,?_,?_,?_⟩
 ·refine H.bZ st (λb hb=>by simp[g1,G.jZ,H.B7 b hb]) (by rw[oQ];omega) λj x hj=>?_;rw[AQz]at hj;split at hj
  ·rcases Tg hj with ⟨rfl,rfl⟩|⟨MO,hj⟩
   ·exact .inl rfl
   ·obtain⟨y,hy,rfl⟩:=DC hj;exact .inr (.inl ⟨by simpa using MO,y,hy,rfl⟩)
  ·rename_i ag;simp only[AQi,AH]at hj ag;have oO:j-bs.length=0:=by
    rcases AQx (j-bs.length)with h |h
    ·exact h
    ·rw[AQN (by simp;omega)]at hj;cases hj
   rw[oO]at hj;obtain rfl:j=n:=by simp only[n];omega
   simp only[List.getElem?_cons_zero,AQb]at hj;subst hj;refine .inr (.inr ⟨λj hj=>(by cases hj),by rw[U8],by rw[U8],ARJ hu,?_⟩);rw[U8];refine OY.imp id λ⟨b,el,BG,ds,q1,q2,q3,q4,q5,q6,q7,q8⟩=>⟨b,BG,ds,q1,ZF (q:=[]) (by simpa using q2),⟨el,.inl rfl,q3⟩,q4,q5,q6,q7,?_⟩;exact q8.mono λi x c r=>r.mono λb q hb=>⟨ZF (by simpa using hb),rfl⟩
 ·rw[hvh];exact BD (cs:=[_]) rfl ⟨AQP _,by rw[U8]⟩ rfl
 ·intro w' g2 N e0 Wd AFS hB;obtain⟨_,AbL,_,_,hr2⟩:=hB;have AJt:g2.A5 n=i1:=by rw[AFS n (AQf _),U8]
  rw[AJt]at AbL hr2;have hzl:zs.length=ys.length:=AbL.symm;have hz:J9 w' (g2.fQ n k P).own k (.sl u) P zs a1:=by
   refine⟨ad,cap,by rw[e3,hzl],hr2.imp id λ⟨b,BG,ds,q1,q2,⟨el,_,q3⟩,q4,q5,q6,q7,q8⟩=>⟨b,el,BG,ds,q1,by simpa using Aa7 (P:=P) (k:=k) q2,q3,q4,q5,q6,q7,?_⟩⟩;have q8:Bu (λi=>J9 w' g2.own n u [i]) 0 zs ds:=q8;exact q8.mono λi x c r=>r.mono λb q hb=>⟨by simpa using Aa7 (P:=P) (k:=k) hb,rfl⟩
  have mJ:Fr w g.own w' (g2.fQ n k P).own k P:=λb q hb hn=>by
   have h1:=Wd b q (XI hb λhc=>hn hc.2);exact⟨iD h1.1 fY,h1.2⟩
  have AbH:=bm w' _ _ mJ hz;rw[<-e2]at AbH;have rG:∀j,j≠i.toNat->∀{x:t.V} {c:ATO Value},J9 w g.own k t [j] x c->J9 w' (g2.fQ n k P).own k t [j] x c:=λj hj x c h=>sib mJ (λq hq=>by
   rw[show P=r0++i.toNat::[]from hP]at hq;exact hj (sJ (L:=[]) hq).symm) h
  have vJ:=Bu.join Bw (Bu.lj (λj x c _ h2 h=>rG j (by rw[AQu]at h2;omega) h) hr0) (by rw[AQF];exact AbH) (Bu.lj (λj x c h1 _ h=>rG j (by omega) h) (by rw[AQF];exact nq));have R9:=mJ b [] Cw (by
   rw[show P=r0++[i.toNat]from hP]
   rintro⟨s,hs⟩
   simp at hs)
  have Sn:(g2.fQ n k P).A5 k=g.A5 k:=by
   show g2.A5 k=_;rw[AFS k (by omega)];simp[g1,G.jZ,fY]
  refine⟨λj hj=>(by cases hj),by rw[Sn,AQi];exact hlen,by rw[Sn];exact QL,B5,.inr ⟨b,BG,ds,by rw[Sn];exact OB,R9.1,⟨el,V2,R9.2.trans hh⟩,by rw[Sn,AQi];exact Pk,by rw[Sn];exact oN,by rw[Sn];exact hc3,by rw[AQi];exact hc4,?_⟩⟩;show Bu _ 0 _ ds;rw[e1];exact vJ
 ·intro hz0 iM h0 N;subst hz0;have mJ:Fr w g.own w g1.own k P:=λb q hb hn=>⟨XI hb λhc=>hn hc.2,rfl⟩;have AbH:=bm w g1.own [.slice none 0 0] mJ ⟨none,0,rfl,.inl ⟨rfl,rfl⟩⟩;have rG:∀j,j≠i.toNat->∀{x:t.V} {c:ATO Value},J9 w g.own k t [j] x c->J9 w g1.own k t [j] x c:=λj hj x c h=>sib mJ (λq hq=>by
   rw[show P=r0++i.toNat::[]from hP]at hq;exact hj (sJ (L:=[]) hq).symm) h
  have vJ:=Bu.join Bw (Bu.lj (λj x c _ h2 h=>rG j (by rw[AQu]at h2;omega) h) hr0) (by rw[AQF];exact AbH) (Bu.lj (λj x c h1 _ h=>rG j (by omega) h) (by rw[AQF];exact nq));have R9:=mJ b [] Cw (by
   rw[show P=r0++[i.toNat]from hP]
   rintro⟨s,hs⟩
   simp at hs)
  have Sn:g1.A5 k=g.A5 k:=by simp[g1,G.jZ,fY]
  refine⟨by rw[Sn];exact hlen,by rw[Sn];exact QL,B5,h0,Bw,u,o,x',b,BG,_,ho,iM,hs,by rw[Sn];exact OB,R9.1,⟨el,V2,hh⟩,by rw[Sn];exact Pk,by rw[Sn];exact oN,by rw[Sn];exact hc3,rfl,?_⟩;rw[Array.toList_setIfInBounds,List.take_set,hc4,e1,e2,e3];have:(c0++(a0++[Value.slice ad ys.length cap]++a2)++d).set (i.toNat*t.size+o) (.slice none 0 0)=c0++(a0++[.slice none 0 0]++a2)++d:=by
   rw[<-iK,<-iL,AQh,AQh,AQh,ARy _ _ (by omega),ARy _ _ (by omega),show c0.length+a0.length-c0.length-a0.length=0 by omega];simp
  rw[this];exact vJ
theorem AdP(H:Bo w g bs){k ek:Nat}{t u:Ty}{xs:ATO t.V}(hb:bs[k]?=some (.row ek .Aw t xs)){i:Int}{p:ATO Nat}{o:Nat}(hi:i.toNat<(g.A5 k).len){ys zs:ATO u.V}{x':t.V}
    (hg:kz (.sl u) p t (xs.getD i.toNat t.zero)=some ys) (hs:TU (.sl u) zs p t (xs.getD i.toNat t.zero)=some x') (ho:Mf t p=some o) {b:Nat} (OB:(g.A5 k).a=some ⟨b,0,none⟩) :
    ∃ad c,w.cell? ⟨b,i.toNat*(g.A5 k).oI+o,none⟩=some (.slice ad ys.length c):=by
 obtain⟨RZ,hlen,QL,B5,hr⟩:=H.MP k _ hb;have Bw:i.toNat<xs.length:=by grind
 rcases hr with ⟨ZP,_⟩|⟨b',BG,ds,ha,Cw,⟨el,V2,hh⟩,Pk,oN,hc3,hc4,MN⟩
 ·grind
 rw[OB]at ha;injection ha with ha;injection ha with ha;subst ha;obtain⟨c0,c,d,e1,iK,hrc,hr0,nq⟩:=Bu.A5 (λi x c h=>J9.len h) MN Bw;rw[AQF]at hrc;have hgd:xs.getD i.toNat t.zero=xs[i.toNat]:=by grind
 obtain⟨a0,a1,a2,e2,iL,⟨ad,cap,e3,_⟩,_⟩:=ly p t [i.toNat] (xs.getD i.toNat t.zero) x' c o ys hs hg ho (by rw[hgd];exact hrc);refine⟨ad,cap,?_⟩;rw[QO hh,<-AQn,QL];have hq:ds[i.toNat*t.size+o]?=some (.slice ad ys.length cap):=by
  rw[e1,e2,e3,AQh,AQv (by omega),iK];rw[show i.toNat*t.size+o-i.toNat*t.size=a0.length by omega];simp
 grind
end
theorem lu:∀{l:ATO AV} {j0 j k:Nat} {a:AV} {i:Int} {p:ATO Nat} {o:Nat},wO j0 l=some (j,a,k,i,p,o)->j0<=j/\l[j-j0]?=some a/\a.Rh=some (k,i,p,o)
 |[],_,_,_,_,_,_,_,h=>by simp[wO]at h
 |b::r,j0,j,k,a,i,p,o,h=>by
  simp only[wO]at h;split at h
  ·grind
  ·obtain⟨h1,h2,h3⟩:=lu h
   grind
theorem fB{w:World}{g:G}{n:Nat}:∀{a:AV} {cs:ATO Value} {k:Nat} {i:Int} {p:ATO Nat} {o:Nat},CN w g n false a cs->a.Rh=some (k,i,p,o) ->
    k<n/\0<=i/\i.toNat<(g.A5 k).len/\∃b v,(g.A5 k).a=some ⟨b,0,none⟩/\g.own b=.BV k []/\w.cell? ⟨b,i.toNat*(g.A5 k).oI+o,none⟩=some v
 |.UT k i p o e,cs,_,_,_,_,⟨hk,h0,h1,b,v,ha,ho,e1,e2,hc⟩,h=>by
  obtain⟨rfl,rfl,rfl,rfl⟩:=h
  grind
 |.pr a b,cs,k,i,p,o,⟨c,d,e,h1,h2⟩,h=>by
  simp only[AV.Rh]at h;split at h
  ·rename_i z hz;injection h with h;subst h;exact fB h1 hz
  ·exact fB h2 h
 |.AB _ _ _,_,_,_,_,_,_,h=>by simp[AV.Rh]at h
 |.zs,_,_,_,_,_,_,h=>by simp[AV.Rh]at h
 |.AK _,_,_,_,_,_,_,h=>by simp[AV.Rh]at h
 |.mp _,_,_,_,_,_,_,h=>by simp[AV.Rh]at h
 |.ptr _ _ _ _,_,_,_,_,_,_,h=>by simp[AV.Rh]at h
 |.FQ _ _ _,_,_,_,_,_,_,h=>by simp[AV.Rh]at h
 |.KG,_,_,_,_,_,_,h=>by simp[AV.Rh]at h
 |.fn _ _,_,_,_,_,_,_,h=>by simp[AV.Rh]at h
 |.un _,_,_,_,_,_,_,h=>by simp[AV.Rh]at h
 |.cons _ _,_,_,_,_,_,h,_=>h.elim
 |.nil,_,_,_,_,_,h,_=>h.elim
theorem Aab{a:AV}{z:Nat×Int×ATO Nat×Nat}(h:a.Rh=some z)(N:Nat):a.Dv=false/\a.OL=false/\(a.bF N).Dv=false/\(a.bF N).isAgg=a.isAgg:=by
 cases a with
 |UT k i p o e=>exact⟨rfl,rfl,rfl,rfl⟩
 |pr a b =>
  refine⟨rfl,rfl,?_,?_⟩
  ·simp only[AV.bF];split<;>rfl
  ·simp only[AV.bF];split<;>rfl
 |_=>simp[AV.Rh]at h
theorem sC{w:World}{g g1:G}{n N k:Nat}(st:Step [k] n w g w g1){i:Int}{p:ATO Nat}{o:Nat}{v b:_}(OB:(g.A5 k).a=some ⟨b,0,none⟩)(hc:w.cell? ⟨b,i.toNat*(g.A5 k).oI+o,none⟩=some v)(hr:CN w g1 (n+1) false (.AK N) [v]) :
    ∀{a:AV} {cs:ATO Value},CN w g n false a cs->a.Rh=some (k,i,p,o)->(∀q∈(a.bF N).Cx,[k].contains q=false)->CN w g1 (n+1) false (a.bF N) cs
 |.UT _ _ _ _ _,cs,⟨_,_,_,b',v',ha,_,e1,_,hc'⟩,h,_=>by
  obtain⟨rfl,rfl,rfl,rfl⟩:=h;rw[OB]at ha;injection ha with ha;injection ha with ha;subst ha;rw[hc]at hc';injection hc' with hc';subst hc';rw[e1];exact hr
 |.pr a b,cs,⟨c,d,e,h1,h2⟩,h,hq=>by
  simp only[AV.Rh]at h;simp only[AV.bF]at hq⊢;split at h
  ·rename_i z hz;injection h with h;subst h;rw[hz]at hq;refine⟨c,d,e,sC st OB hc hr h1 hz λq rN=>hq q (by simp[AV.Cx,rN]),?_⟩;have:=CN.step st (AQK n) b _ h2;rwa [OV λq rN=>hq q (by simp[AV.Cx,rN])]at this
  ·rename_i hz;rw[hz]at hq;refine⟨c,d,e,?_,sC st OB hc hr h2 h λq rN=>hq q (by simp[AV.Cx,rN])⟩;have:=CN.step st (AQK n) a _ h1;rwa [OV λq rN=>hq q (by simp[AV.Cx,rN])]at this
 |.AB _ _ _,_,_,h,_=>by simp[AV.Rh]at h
 |.zs,_,_,h,_=>by simp[AV.Rh]at h
 |.AK _,_,_,h,_=>by simp[AV.Rh]at h
 |.mp _,_,_,h,_=>by simp[AV.Rh]at h
 |.ptr _ _ _ _,_,_,h,_=>by simp[AV.Rh]at h
 |.FQ _ _ _,_,_,h,_=>by simp[AV.Rh]at h
 |.KG,_,_,h,_=>by simp[AV.Rh]at h
 |.fn _ _,_,_,h,_=>by simp[AV.Rh]at h
 |.un _,_,_,h,_=>by simp[AV.Rh]at h
 |.cons _ _,_,h,_,_=>h.elim
 |.nil,_,h,_,_=>h.elim
theorem uo{w:World}{g:G}{n:Nat}:∀{l:ATO AV} {vs:ATO Value} {j:Nat} {a:AV},DV w g n l vs->l[j]?=some a->∃v,vs[j]?=some v/\Cb w g n a v
 |_::_,v::_,0,_,h,hx=>by simp at hx;subst hx;exact⟨v,rfl,h.1⟩
 |_::_,_::_,j+1,_,h,hx=>by
  obtain⟨v,hv,hr⟩:=uo  h.2 (by simpa using hx)
  grind
 |[],[],_,_,_,hx=>by grind
 |[],_::_,_,_,h,_=>h.elim
 |_::_,[],_,_,h,_=>h.elim
theorem oo{w:World}{g g1:G}{n n1:Nat}{a1:AV}:∀{l:ATO AV} {vs:ATO Value} {j:Nat} {v:Value},DV w g n l vs->vs[j]?=some v->Cb w g1 n1 a1 v->(∀a∈l.set j (.un 1),∀v,Cb w g n a v->Cb w g1 n1 a v)->DV w g1 n1 (l.set j a1) vs
 |a::l,v0::vs,0,v,h,hv,hx,ht=>by
  simp at hv;subst hv;refine⟨hx,?_⟩;have key:∀{l:ATO AV} {vs:ATO _},(∀a∈l,∀v,Cb w g n a v->Cb w g1 n1 a v)->DV w g n l vs->DV w g1 n1 l vs:=by
   intro l;induction l with
   |nil=>intro vs _ h;cases vs with
    |nil=>trivial
    |cons _ _=>exact h.elim
   |cons a l ih=>intro vs ht h;cases vs with
    |nil=>exact h.elim
    |cons v vs=>exact⟨ht a (by simp) v h.1,ih (λa ha=>ht a (by grind)) h.2⟩
  exact key (λa ha=>ht a (by grind)) h.2
 |a::l,v0::vs,j+1,v,h,hv,hx,ht=>⟨ht a (by simp) v0 h.1,oo h.2 (by grind) hx λa ha=>ht a (by grind)⟩
 |[],[],_,_,_,hv,_,_=>by grind
 |[],_::_,_,_,h,_,_,_=>h.elim
 |_::_,[],_,_,h,_,_,_=>h.elim
theorem Ac0{P:Program}{f:FuncId}{c:Callee}(hc:An P f c){bs:ATO Blk}{args:ATO AV}{e:H8}(h:jL c bs args some=some e) :
    bs.length<=e.Aj.length/\(e.BJ=[]->∃l,e.Aj=bs++l)/\∀(w:World) (g:G) (vs:ATO Value),Bo w g bs->DV w g bs.length args vs->∀(o:Oper) (a:Act) (next:Act->World->Prop) (Q:Exit->Act->World->Prop),
     (∀v w' g',Bo w' g' e.Aj->Cb w' g' e.Aj.length e.val v->Step e.BJ bs.length w g w' g'->next (a.put o.dst v) w')->o.upon P a next Q ((callFunc f vs.toArray).run P w):=by
 unfold jL at h;split at h
 ·exact ou hc h
 ·rename_i j a0 k i p of hix;split at h
  ·rename_i ek t xs hb;split at h
   ·rename_i u iM;split at h
    ·rename_i ys hg;split at h
     ·rename_i vG;obtain⟨oR,hu,zF⟩:=vG;rw[ZC c hc.aH]at h;cases hx:YV c ((Bh [k] bs).set k Blk.Bg++[Blk.row 0 .Aw u ys]) (args.set j (a0.bF bs.length)) some with
      |none=>grind
      |some e0 =>
       rw[hx]at h;simp only[AP9]at h;split at h
       ·grind
       ·rename_i rK;split at h
        ·rename_i e1 u' zs' hn0;split at h
         ·rename_i zs vF;split at h
          ·rename_i x' H6;injection h with h;subst h;obtain⟨ec,hec⟩:=BR vF;injection ec with ec;have ec:=ec.symm;subst ec;subst hec;obtain⟨hlen,_,AFX⟩:=ou hc hx;have zM:((Bh [k] bs).set k Blk.Bg++[Blk.row 0 .Aw u ys]).length=bs.length+1:=by simp[AH]
           have AvZ:k∉e0.BJ:=by grind
           refine⟨by simp only[AQi,AH];omega,λhm=>by simp at hm,λw g vs H AbE o a next Q hn=>?_⟩
           obtain⟨_,Av5,hG⟩:=lu hix;rw[Nat.sub_zero]at Av5;obtain⟨v,hvj,hav⟩:=uo AbE Av5;obtain⟨pl1,pl2,pl3,pl4⟩:=Aab hG bs.length;obtain⟨cs,UA,hval⟩:=B9 pl1 pl2 hav;obtain⟨_,h0,hi,b,v',OB,Cw,D2⟩:=fB UA hG;obtain⟨g1,H1,Sf,Ado,bm,_⟩:=ZG H hb hi hg oR hu OB D2 H6;have AGs:∀a∈args.set j (a0.bF bs.length),∀q∈a.Cx,[k].contains q=false:=λa ha q hq=>by
            grind
           have aA:=A7 Av5;have AGy:Cb w g1 (bs.length+1) (a0.bF bs.length) v:=by
            obtain⟨cs1,AvI,iN⟩:=B9 rfl rfl Ado;have e1:cs1=[v']:=iN;subst e1;exact BD pl3 (sC Sf OB D2 AvI UA hG (AGs _ (ARs (i:=j) (by grind)))) (by grind)
           have AJs:DV w g1 (bs.length+1) (args.set j (a0.bF bs.length)) vs:=oo AbE hvj AGy λa ha v h=>by
            obtain⟨q,hq⟩:=List.getElem?_of_mem ha;rcases Tg hq with ⟨rfl,rfl⟩|⟨MO,rN⟩
            ·exact RP
            ·have:=h.step Sf (AQK _);rwa [OV (AGs a (ARs (i:=q) (by grind)))]at this
           refine AFX w g1 vs H1 (by grind) o a next Q λv2 w2 g2 H2 hv2 Qn=>?_
           let N:=e0.Aj.length
           have oP:(((Bh [k,bs.length] e0.Aj).set bs.length Blk.Bg).set k (.row ek .Aw t (xs.set i.toNat x'))).length=N:=by simp[AH,N]
           have stA:Step [bs.length,k] N w2 g2 w2 (g2.fQ bs.length k (Vo p [i.toNat])):=xw;have Am4:Step [k,bs.length] N w2 g2 w2 (g2.fQ bs.length k (Vo p [i.toNat])):=stA.weaken (λq hq=>by simp at hq⊢;exact hq.symm) (AQf _);have Ah7:Nu w2 (g2.fQ bs.length k (Vo p [i.toNat])) N k (.row ek .Aw t (xs.set i.toNat x')):=by
            refine bm w2 g2 N e1 (λb q hb=>Qn.BV b k q hb (by omega) AvZ) (λj hj=>Qn.A5 j (by omega)) (H2.MP bs.length _ hn0)
           refine hn v2 w2 (g2.fQ bs.length k (Vo p [i.toNat])) ?_ ?_ ?_
           ·refine H2.bZ Am4 (λb hb=>by simp[G.fQ,H2.B7 b hb]) (by rw[oP];exact AQf _) λj' y R8=>?_;rw[oP];rcases Tg R8 with ⟨rfl,rfl⟩|⟨MO,R8⟩
            ·exact .inr (.inr Ah7)
            ·rcases Tg R8 with ⟨rfl,rfl⟩|⟨Av3,R8⟩
             ·exact .inl rfl
             ·obtain⟨y',iP,rfl⟩:=DC R8;exact .inr (.inl ⟨by simp only[ARI,ASh,or_false,not_or];exact⟨MO,Av3⟩,y',iP,rfl⟩)
           ·rw[oP];exact hv2.step Am4 (AQf _)
           ·refine⟨Qn.os.trans Sf.os,Qn.tape.trans Sf.tape,Qn.output.trans Sf.output,Qn.size,λb hb h=>?_,λb h=>?_,λb j' q h R8 hm=>?_,λj' R8=>?_⟩
            ·have h1:=Sf.no b hb h;have h2:=Qn.no b hb h1.1;exact⟨by simp[G.fQ,h2.1],h2.2⟩
            ·have h1:=Sf.Jd b h;have h2:=Qn.Jd b h1.1;exact⟨by simp[G.fQ,h2.1],h2.2⟩
            ·simp only[ARD,not_or]at hm;have h1:=Sf.BV b j' q h R8 (by simpa using hm.2);have h2:=Qn.BV b j' q h1.1 (by omega) hm.1;exact⟨iD h2.1 (by omega),h2.2⟩
            ·show g2.A5 j'=_;rw[Qn.A5 j' (by omega),Sf.A5 j' R8]
          ·grind
         ·grind
        ·cases h
     ·grind
    ·cases h
   ·grind
  ·cases h
section
variable {w:World} {g:G} {n:Nat}
def G.X9(g:G)(Z:ATO Nat):G:=⟨λb=>match g.own b with |.BV k r=>if k∈Z then .Jd else .BV k r |t=>t,g.A5⟩
theorem rF{Z:ATO Nat}{b:Nat}(h:g.own b=.Jd):(g.X9 Z).own b=.Jd:=by simp[G.X9,h]
theorem QT{Z:ATO Nat}{b k:Nat}{r:ATO Nat}(h:g.own b=.BV k r)(hk:k∉Z):(g.X9 Z).own b=.BV k r:=by simp[G.X9,h,hk]
theorem Al.RU{Z ks:ATO Nat}{b:Nat}(h:Al g.own ks b):Al (g.X9 Z).own (ks.filter λk=>!decide (k∈Z)) b:=by
 rcases h with h |⟨k,hk,r,h⟩
 ·exact .inl (rF h)
 ·by_cases hz:k∈Z
  ·exact .inl (by simp[G.X9,h,hz])
  ·exact .inr ⟨k,by simp[hk,hz],r,QT h hz⟩
theorem Al.Aht{Z ks:ATO Nat}{b:Nat}(h:Al g.own ks b):Al (g.X9 Z).own ks b:=h.RU.mono λk hk=>(List.mem_filter.1 hk).1
theorem AdQ(a:AV):a.cj.Dv=a.Dv:=by cases a<;>rfl
theorem pG(a:AV):a.cj.OL=true\/a.cj.isAgg=a.isAgg:=by cases a<;>first |exact .inl rfl |exact .inr rfl
theorem AiH{a:AV}(h:a.OL=true):a.cj.OL=true:=by cases a<;>simp_all [AV.OL,AV.cj]
theorem CN.RU(Z:ATO Nat):∀(a:AV) (m:Bool) {cs:ATO Value},CN w g n m a cs->CN w (g.X9 Z) n m a.cj cs
 |.AB ks t x,false,cs,⟨hk,r⟩=>⟨hk,r.mono λb a=>⟨a.Aht,rfl⟩⟩
 |.zs,false,_,h=>h
 |.AK _,false,_,h=>h
 |.mp _,false,_,h=>h
 |.ptr _ _ _ _,false,_,h=>h
 |.FQ ks t x,false,cs,⟨hk,b,off,ds,e,ha,r,hc⟩=>⟨hk,b,off,ds,e,ha.Aht,r.mono λb a=>⟨a.Aht,rfl⟩,hc⟩
 |.KG,false,_,h=>h
 |.UT _ _ _ _ _,false,_,⟨_,_,_,_,_,_,_,e,h1,_⟩=>by subst e;exact⟨rfl,by intro u hu;simp at hu;subst hu;exact h1⟩
 |.WM _ _ _ _ _ _,false,_,⟨_,_,_,_,_,_,_,_,_,e,_⟩=>by subst e;exact⟨rfl,by intro u hu;simp at hu;subst hu;rfl⟩
 |.pr a b,false,_,⟨c,e,he,h1,h2⟩=>⟨c,e,he,CN.RU Z a false h1,CN.RU Z b false h2⟩
 |.fn f c,false,_,⟨vs,e,hx⟩=>⟨vs,e,CN.RU Z c true hx⟩
 |.un k,false,_,h=>h
 |.cons a b,true,_,⟨v,r,e,h1,h2⟩=>by
  refine⟨v,r,e,?_,CN.RU Z b true h2⟩;rcases pG a with hd |hd
  ·exact .inl hd
  ·exact h1.imp AiH λ⟨cs,hx,hv⟩=>⟨cs,CN.RU Z a false hx,by rw[hd];exact hv⟩
 |.nil,true,_,h=>h
 |.cons _ _,false,_,h=>h.elim
 |.nil,false,_,h=>h.elim
 |.UT _ _ _ _ _,true,_,h=>h.elim
 |.WM _ _ _ _ _ _,true,_,h=>h.elim
 |.AB _ _ _,true,_,h=>h.elim
 |.zs,true,_,h=>h.elim
 |.AK _,true,_,h=>h.elim
 |.mp _,true,_,h=>h.elim
 |.ptr _ _ _ _,true,_,h=>h.elim
 |.FQ _ _ _,true,_,h=>h.elim
 |.KG,true,_,h=>h.elim
 |.pr _ _,true,_,h=>h.elim
 |.fn _ _,true,_,h=>h.elim
 |.un _,true,_,h=>h.elim
theorem Cb.RU(Z:ATO Nat){a:AV}{v:Value}(h:Cb w g n a v):Cb w (g.X9 Z) n a.cj v:=by
 cases ht:a.Dv with
 |false =>
  rw[Cb.iff ht]at h;rw[Cb.iff (by rw[AdQ];exact ht)];rcases pG a with hd |hd
  ·exact .inl hd
  ·exact h.imp AiH λ⟨cs,h,hv⟩=>⟨cs,CN.RU Z a false h,by rw[hd];exact hv⟩
 |true =>
  cases a with
  |cons a b=>obtain⟨vs,e,h⟩:=h;exact⟨vs,e,CN.RU Z (.cons a b) true h⟩
  |nil=>exact h
  |_=>cases ht
theorem Nu.RU{Z:ATO Nat}{k:Nat}(hk:k∉Z){b:Blk}(h:Nu w g n k b):Nu w (g.X9 Z) n k b.cj:=by
 cases b with
 |Bg=>trivial
 |map m kt vt es st =>
  obtain⟨RZ,b,Hh,DX,ha,ho,hh,S7,hm⟩:=h;refine⟨RZ,b,Hh,DX,ha,QT ho hk,hh,S7,hm.on λi x c r=>?_⟩;cases m with
  |Aw=>exact J9.mono (λb q hb=>⟨QT hb hk,rfl⟩) r
  |sh ks=>exact H9.mono (λb a=>⟨a.Aht,rfl⟩) r
 |R1 e t xs i p =>
  obtain⟨h1,h2,h3,h4,h5,u,o,x0,b,BG,ds,q1,q2,q3,ha,ho,hh,c1,c2,c3,c4,hc⟩:=h;exact⟨h1,h2,h3,h4,h5,u,o,x0,b,BG,ds,q1,q2,q3,ha,QT ho hk,hh,c1,c2,c3,c4,hc.mono λi x c r=>r.mono λb q hb=>⟨QT hb hk,rfl⟩⟩
 |tail e t xs =>
  obtain⟨hf,hlen,QL,B5,hr⟩:=h;exact⟨hf,hlen,QL,B5,hr.imp id λ⟨b,o,BG,ds,ha,ho,hh,h1,h2,h3,h4,hc⟩=>⟨b,o,BG,ds,ha,QT ho hk,hh,h1,h2,h3,h4,hc.mono λi x c r=>r.mono λb q hb=>⟨QT hb hk,rfl⟩⟩⟩
 |box a =>
  obtain⟨h1,b,cs,e,ha,ho,hh,hx⟩:=h;exact⟨h1,b,cs,e,ha,QT ho hk,hh,CN.RU Z a false hx⟩
 |row e m t xs =>
  obtain⟨RZ,hlen,QL,B5,hr⟩:=h;refine⟨RZ,hlen,QL,B5,hr.imp id λ⟨b,BG,ds,ha,ho,hh,h1,h2,h3,h4,hc⟩=>⟨b,BG,ds,ha,QT ho hk,hh,h1,h2,h3,h4,?_⟩⟩;cases m with
  |Aw=>exact hc.mono λi x c r=>r.mono λb q hb=>⟨QT hb hk,rfl⟩
  |sh ks=>exact hc.mono λx c r=>r.mono λb a=>⟨a.Aht,rfl⟩
theorem vu{bs:ATO Blk}(H:Bo w g bs)(Z:ATO Nat):Bo w (g.X9 Z) ((Blk.G4 bs Z).map Blk.cj):=by
 refine⟨λb hb=>by simp[G.X9,H.B7 b hb],λk x hx=>?_⟩;rw[AQC]at hx;cases hq:(Blk.G4 bs Z)[k]? with
 |none=>rw[hq]at hx;cases hx
 |some y =>
  rw[hq]at hx;injection hx with hx;subst hx;rw[AQl,Bd];rcases Lf hq with rfl |⟨hn,h⟩
  ·trivial
  ·exact(H.MP k y h).RU hn
theorem Xe:∀a:AV,a.fa=false->a.cj=a
 |.pr a b,h=>by
  simp only[AV.fa,ARc]at h;simp[AV.cj,Xe a h.1,Xe b h.2]
 |.cons a b,h=>by
  simp only[AV.fa,ARc]at h;simp[AV.cj,Xe a h.1,Xe b h.2]
 |.fn f c,h=>by simp[AV.cj,Xe c h]
 |.AB _ _ _,_=>rfl
 |.zs,_=>rfl
 |.AK _,_=>rfl
 |.mp _,_=>rfl
 |.ptr _ _ _ _,_=>rfl
 |.FQ _ _ _,_=>rfl
 |.KG,_=>rfl
 |.nil,_=>rfl
 |.UT _ _ _ _ _,h=>by cases h
 |.WM _ _ _ _ _ _,h=>by cases h
 |.un _,_=>rfl
theorem AhD{b:Blk}(h:b.fa=false):b.cj=b:=by
 cases b with
 |box a=>simp[Blk.cj,Xe a h]
 |_=>rfl
theorem Adk{bs:ATO Blk}(H:Bo w g bs)(hn:bs.all (λb=>!b.fa)=true)(Z:ATO Nat):Bo w (g.X9 Z) (Blk.G4 bs Z):=by
 have:=vu H Z;rwa [AQY (g:=id) (λb hb=>?_),List.map_id]at this;obtain⟨j,hj⟩:=List.getElem?_of_mem hb;rcases Lf hj with h |⟨_,h⟩
 ·subst h;rfl
 ·have:=List.all_eq_true.1 hn b (ARs h);exact AhD (by simpa using this)
theorem wv:∀(Z:ATO Nat) (a b:ATO Blk),(∀k∈Z,a.length<=k)->∃l,Blk.G4 (a++b) Z=a++l
 |[],a,b,_=>⟨b,rfl⟩
 |k::Z,a,b,h=>by
  have hk:=h k (by simp);simp only[Blk.G4];rw[ARy _ _ hk];exact wv Z a _ λj hj=>h j (by simp[hj])
end
section
variable {w:World} {g:G} {n:Nat} {v:Value}
end
section
variable {w:World} {g:G} {bs:ATO Blk} {m:Nat}
theorem Amb{a b:AV}{f:Nat}(h:a.bh f=some b):a.isAgg=true:=by
 cases a with
 |AB ks t x =>
  cases t<;>first |rfl |(cases f<;>simp[AV.bh,XM]at h)
 |pr _ _=>rfl
 |_=>cases f<;>simp[AV.bh]at h
theorem zp(H:Bo w g bs){c:Co}{a a':AV}{nb:ATO Blk}(h:coV bs c a=some (a',nb)){cs:ATO Value}(hx:CN w g bs.length false a cs) :
    ∃g',Bo w g' (bs++nb)/\CN w g' (bs++nb).length false a' cs/\a'.isAgg=a.isAgg/\Step [] bs.length w g w g':=by
 have stay:∀a':AV,CN w g bs.length false a' cs->a'.isAgg=a.isAgg->∃g',Bo w g' (bs++[])/\CN w g' (bs++[]).length false a' cs/\a'.isAgg=a.isAgg/\Step [] bs.length w g w g':=λa' h1 h2=>⟨g,by rw[AQO];exact H,by rw[AQO];exact h1,h2,Step.refl _ _ _ _⟩;cases c with
 |AB t =>
  simp only[coV]at h;split at h
  ·rename_i x hr;simp only[AQb,AQm]at h;obtain⟨rfl,rfl⟩:=h;have:=Ri H t a x cs hr hx;exact stay _ ⟨this.2,this.1⟩ (bG hr).symm
  ·cases h
 |gV ks =>
  simp only[coV]at h;split at h
  ·rename_i l t x;split at h
   ·rename_i hc;simp only[AQb,AQm]at h;obtain⟨rfl,rfl⟩:=h;rw[AQg,ARr]at hc;have hks:∀k∈ks,k<bs.length:=λk hk=>by have:=List.all_eq_true.1 hc.2 k hk;simpa using this
    refine stay _ ⟨hks,Aov hx.2 λhf b hb=>?_⟩ rfl;rcases hc.1 with h |h
    ·rw[h]at hf;cases hf
    ·exact hb.mono λk hk=>by have:=List.all_eq_true.1 h k hk;simpa using this
   ·cases h
  ·cases h
 |row p e t Aw =>
  simp only[coV]at h;split at h
  ·rename_i hz;split at h
   ·rename_i OY;split at h
    ·rename_i b hb;simp only[AQb,AQm]at h;obtain⟨rfl,rfl⟩:=h;obtain⟨_,B5⟩:=lJ OY;obtain⟨c0,c1,c2,e1,ho,⟨ad,Pk⟩,_⟩:=SD p a cs .zs hx hz
     let g':=g.V1 (λj r=>.BV j r) none bs.length ⟨ad,0,0,t.size⟩
     have st:Step [] bs.length w g w g':=Step.V1 H.B7 rfl rfl rfl (AQf _) (λ_ _ _=>rfl) (λq h=>by cases h) (AQf _) λ_ _ _ _=>rfl;have U8:g'.A5 bs.length=⟨ad,0,0,t.size⟩:=by simp[g',G.V1]
     have vW:=hx.RO st (AQK bs.length);obtain⟨d0,d1,d2,e2,yj,⟨ui,kD⟩,H6⟩:=SD p a cs .zs vW hz;have hlen:c0.length=d0.length:=by rw[ho]at yj;injection yj
     have zE:ad=ui:=by
      have h1:cs[c0.length]?=some (.slice ad 0 0):=by
       rw[e1,Pk,AQh,AQv (AQf _),ARV];rfl
      have h2:cs[d0.length]?=some (.slice ui 0 0):=by
       rw[e2,kD,AQh,AQv (AQf _),ARV];rfl
      rw[hlen,h2]at h1;injection h1 with h1;injection h1 with h1;exact h1.symm
     have dj:=H6 (.AK bs.length) b d1 hb ⟨AQP _,by rw[U8,kD,zE]⟩;rw[<-e2]at dj;have RY:(if(t.BZ||Aw)=true then RM.Aw else RM.sh []).Cx=[]:=by split<;>rfl
     refine⟨g',H.push st (Ny H.B7 (AQf _) λq h=>by cases h) ⟨(by rw[RY];intro j hj;cases hj),by rw[U8];rfl,by rw[U8],B5,.inl ⟨rfl,by rw[U8]⟩⟩,by rw[AQd];exact dj,?_,st⟩;cases p with
     |nil =>
      simp only[AV.Wz,AQb]at hz;simp only[AV.bQ,AQb]at hb;subst hz;subst hb;rfl
     |cons f p =>
      simp only[AV.Wz]at hz;split at hz
      ·rename_i q hq;simp only[AV.bQ,hq]at hb;split at hb
       ·rw[bP hb,Amb hq]
       ·cases hb
      ·cases hz
    ·cases h
   ·cases h
  ·simp only[AQb,AQm]at h;obtain⟨rfl,rfl⟩:=h;exact stay _ hx rfl
theorem iG{k:Nat}{c:Co}{bs HH:ATO Blk}(h:coB k c bs=some HH):bs.length<=HH.length:=by
 unfold coB at h;split at h
 ·split at h
  ·injection h with h;subst h;simp
  ·cases h
 ·cases h
theorem Ag7(H:Bo w g bs){k:Nat}{c:Co}{HH:ATO Blk}(h:coB k c bs=some HH):∃g',Bo w g' HH/\Step [] bs.length w g w g':=by
 unfold coB at h;split at h
 ·rename_i a0 hb;split at h
  ·rename_i a' nb hco;injection h with h;subst h;obtain⟨hlen,bb,cs,e,ha,ho,hh,hx⟩:=H.MP k _ hb;obtain⟨g',h1,h2,h3,h4⟩:=zp H hco hx;have hk:=A7 hb;have ia:(bs.set k (.box a')++nb).length=(bs++nb).length:=by simp
   refine⟨g',⟨h1.B7,λj x hj=>?_⟩,h4⟩;rw[ia];rw[AQz]at hj;split at hj
   ·rename_i aA;rw[AQi]at aA;rw[AQy]at hj;split at hj
    ·rename_i ek;subst ek;injection hj with hj;subst hj;have hl:=h4.BV bb k [] ho hk (by simp);exact⟨by rw[h4.A5 k hk];exact hlen,bb,cs,e,by rw[h4.A5 k hk];exact ha,hl.1,hh,h2⟩
    ·exact h1.MP j x (by rw[AQw aA];exact hj)
   ·rename_i aA;rw[AQi]at aA hj;exact h1.MP j x (by rw[AQv (by omega)];exact hj)
  ·cases h
 ·cases h
theorem Abu:∀{l:ATO (Nat×Co)} {bs HH:ATO Blk} {g:G},rr l bs=some HH->Bo w g bs->bs.length<=HH.length/\∃g',Bo w g' HH/\Step [] bs.length w g w g'
 |[],bs,HH,g,h,H=>by
  simp only[rr,AQb]at h;subst h;exact⟨AQf _,g,H,Step.refl _ _ _ _⟩
 |(k,c)::r,bs,HH,g,h,H=>by
  simp only[rr]at h;split at h
  ·rename_i b1 h1;obtain⟨g1,H1,s1⟩:=Ag7 H h1;obtain⟨hl,g2,H2,s2⟩:=Abu h H1;exact⟨AQD (iG h1) hl,g2,H2,s1.trans s2 (iG h1)⟩
  ·cases h
theorem vi:∀{l:ATO (Nat×Co)} {bs HH:ATO Blk},rr l bs=some HH->bs.length<=HH.length
 |[],bs,HH,h=>by simp only[rr,AQb]at h;subst h;exact AQf _
 |(k,c)::r,bs,HH,h=>by
  simp only[rr]at h;split at h
  ·rename_i b1 h1;exact AQD (iG h1) (vi h)
  ·cases h
theorem wT:∀{l:ATO (Nat×ATO (ATO Nat)×Co)} {args:ATO AV} {bs HH:ATO Blk},preB l args bs=some HH->∃l',rr l' bs=some HH
 |[],args,bs,HH,h=>⟨[],h⟩
 |(j,q,c)::r,args,bs,HH,h=>by
  simp only[preB]at h;split at h
  ·split at h
   ·rename_i k _;split at h
    ·rename_i b1 h1;obtain⟨l',h2⟩:=wT h;exact⟨(k,c)::l',by simp only[rr,h1];exact h2⟩
    ·cases h
   ·cases h
  ·cases h
end
section
variable {P:Program} {σ:St} {o:Oper} {en:GX} {e:H8}
theorem Aed{c:Call}(ho:o.op=.call c)(hc:c.callee=.builtin .cap)(hx:Qi σ c.args=[.zs]){t:TypeId}{r:ATO TypeId}(aC:c.argTypes.toList=t::r){ti:TI}(ht:Fp P t ti)(hs:ti.EA=true):OA P σ o ⟨.int .i64 0,σ.Aj,[]⟩:=by
 obtain⟨a0,ha,ZP⟩:=AfM hx;refine .Je <| Mg (s:=λρ=>Builtin.cap_ c.argTypes o.type #[ρ a0]) (λρ=>?_) λa w g BX=>?_
 ·rw[Ki ho hc,ha];simp[builtin]
 ·have Yp:=A0 BX a0;rw[ZP]at Yp;obtain⟨ad,hv⟩:=YQ Yp;have h0:c.argTypes[0]?=some t:=by rw[<-AQn,aC];rfl
  exact Cc (by rw[hv];simp[Builtin.cap_,h0,underlying,BH ht hs,goInt])
end
section
variable {P:Program} {σ:St} {o:Oper} {en:GX} {e:H8}
theorem Aej{t:TypeId}{x:Operand}(ho:o.op=.load t x){ti:TI}(ht:Fp P t ti)(Jc:ti.EA=true)(h:bT σ.Aj ti (σ.Cr x) some=some e):OA P σ o e:=by
 unfold bT at h;split at h
 ·rename_i k i p f hx;split at h
  ·rename_i el tr xs hb;split at h
   ·rename_i u iM;split at h
    ·rename_i ys x0 hg hs;split at h
     ·rename_i hc;injection h with h;subst h;obtain⟨hti,oR,hu⟩:=hc;refine⟨by simp[AH],λh=>(by grind),λa w g BX next Q hn=>?_⟩
      have Yp:=A0 BX x;rw[hx]at Yp;obtain⟨hk,h0,h1,b,OB,hpe⟩:=LX Yp;obtain⟨ad,c,D2⟩:=AdP BX.heap hb h1 hg hs oR OB;obtain⟨g1,H1,Sf,Ado,_,AMe⟩:=ZG BX.heap hb h1 hg oR hu OB D2 hs;have Es:(execOp a.eval o).run P w=.ok (.value (.slice ad ys.length c)) w:=by
       have hl:=TP (P:=P) (w:=w) ht (b:=b) (off:=i.toNat*(g.A5 k).oI+f) (cs:=[.slice ad ys.length c]) (by rw[hti];rfl) (λj v hv=>by
        grind) (λ_=>rfl)
       obtain⟨v,hv,tM⟩:=hl;rw[hti]at tM;have:[Value.slice ad ys.length c]=[v]:=tM;injection this with h2 _;subst h2;simp[execOp,ho,hpe,Instr.loadAt,Instr.sureAddr,hv]
      unfold Oper.wp;rw[Es];have UN:((Bh [k] σ.Aj).set k (Blk.R1 el tr xs i p)++[Blk.row 0 .Aw u ys]).length=σ.Aj.length+1:=by simp[AH]
      refine hn _ w g1 ⟨H1.B7,λj y hj=>?_⟩ (by grind) Sf;rw[UN];have zM:((Bh [k] σ.Aj).set k Blk.Bg++[Blk.row 0 .Aw u ys]).length=σ.Aj.length+1:=by grind
      by_cases mK:j=k
      ·grind
      ·have:=H1.MP j y (by
         grind)
       rwa [zM]at this
     ·grind
    ·grind
   ·grind
  ·grind
 ·grind
structure mG (P:Program) (aF:TypeId) (kt:Ty):Prop where
 check:∀(w:World) (em:Bool) (x:kt.V),(Instr.checkKey em 10000 aF (FC kt x)).run P w=.ok () w
 find:∀(w:World) (x:kt.V) (ks:List kt.V) (ms:List MapEntry),ms.map (·.key)=ks.map (FC kt) ->
  (∀j:Nat,(∀i,i<j->∀y,ks[i]?=some y->Bm kt x y=false)->(∀y,ks[j]?=some y->Bm kt x y=true)->(Instr.findKey aF (FC kt x) ms).run P w=.ok (if h:j<ms.length then some (j,ms[j].val)else none) w)
 stays:∀(w:World) (x:kt.V),(Instr.keyThatStays (FC kt x) (FC kt x)).run P w=.ok (FC kt x) w
 eq:∀x y:kt.V,Bm kt x y=true->x=y
theorem bU{s t:ByteArray}:Jf s t=true↔s=t:=by
 unfold Jf;rw[ByteArray.toList_eq,ByteArray.toList_eq,ARd];constructor
 ·intro h;cases s with
  |mk a=>cases t with
   |mk b=>simp at h;rw[h]
 ·grind
theorem AnS{s t:ByteArray}:(s==t)=true↔s=t:=by
 constructor
 ·intro h;have:(s.data==t.data)=true:=h;cases s;simp at this;rw[this]
 ·rintro rfl
  show(s.data==s.data)=true;simp
theorem xy{s t:ByteArray}:Jf s t=(s==t):=by rw[ASa,bU,AnS]
theorem ko{kt:Ty}{d:TypeDesc}(hs:∀x y:kt.V,Instr.sameNow d (FC kt x) (FC kt y)=some (Bm kt x y)){x:kt.V}:∀(ks:ATO kt.V) (ms:ATO MapEntry) (n j:Nat),ms.map (·.key)=ks.map (FC kt) ->
    (∀i,i<j->∀y,ks[i]?=some y->Bm kt x y=false)->(∀y,ks[j]?=some y->Bm kt x y=true)->Instr.findNow d (FC kt x) ms n=some (if h:j<ms.length then some (n+j,ms[j].val)else none)
 |[],ms,n,j,hm,_,_=>by
  have :=by simpa using hm
  subst this;rfl
 |k::ks,m::ms,n,0,hm,_,h1=>by
  simp only[AQU,ARZ]at hm;simp[Instr.findNow,hm.1,hs,h1 k rfl]
 |k::ks,m::ms,n,j+1,hm,h0,h1=>by
  simp only[AQU,ARZ]at hm;have ih:=ko hs ks ms (n+1) j hm.2 (λi hi y hy=>h0 (i+1) (by omega) y (by grind)) (λy hy=>h1 y (by grind));simp only[Instr.findNow,hm.1,hs,h0 0 (by omega) k rfl]
  grind
 |k::ks,[],n,j,hm,_,_=>by grind
theorem mG.plain{aF:TypeId}{kt:Ty}{d:TypeDesc}(hu:P.underlying aF=some d)(hs:∀x y:kt.V,Instr.sameNow d (FC kt x) (FC kt y)=some (Bm kt x y))(hc:∀(w:World) (em:Bool) (x:kt.V),(Instr.checkKey em 10000 aF (FC kt x)).run P w=.ok () w)
    (BX:∀(w:World) (x:kt.V),(Instr.keyThatStays (FC kt x) (FC kt x)).run P w=.ok (FC kt x) w) (heq:∀x y:kt.V,Bm kt x y=true->x=y):mG P aF kt where
 check:=hc
 find w x ks ms hm j h0 h1:=by
  have:=ko hs  ks ms 0 j hm h0 h1;simp[Instr.findKey,underlying,hu,this]
 stays:=BX
 eq:=heq
theorem AmE{aF:TypeId}{q q':IntKind}(hu:P.underlying aF=some (.int q')):mG P aF (.int q) :=
 .plain hu (λx y=>by simp[FC,Instr.sameNow,Bm]) (λw em x=>by
     rw[Instr.checkKey];simp[underlying,hu]) (λw x=>by
     have:Instr.sameBits 10000 (.int q x) (.int q x)=true:=by simp[Instr.sameBits]
     simp[Instr.keyThatStays,FC,this]) λx y h=>by simpa [Bm]using h
theorem AmF{aF:TypeId}(hu:P.underlying aF=some .string):mG P aF .str :=
 .plain hu (λx y=>by simp[FC,Instr.sameNow,Bm,xy]) (λw em x=>by
     rw[Instr.checkKey];simp[underlying,hu]) (λw x=>by
     have:Instr.sameBits 10000 (.string x) (.string x)=true:=by exact AnS.2 rfl
     simp[Instr.keyThatStays,FC,this]) λx y h=>bU.1 (by simpa [Bm]using h)
theorem dA{e2:TypeId}{te:TI}(Et:Fp P e2 te){q:IntKind}(hq:te.ty=.int q){w:World}{cs:Array Value}{i:Nat}{v:Value}(h:cs[i]?=some v):(part e2 cs i).run P w=.ok v w:=by
 have ha:=cx (w:=w) Et;rw[hq]at ha;simp[part,ha,Ty.isAgg,h]
theorem fT{e2:TypeId}{q q':IntKind}(hu:P.underlying e2=some (.int q'))(d:Nat)(w:World)(a b:Int):(Op.equalIn (d+1) e2 (.int q a) (.int q b)).run P w=.ok (a==b) w:=by
 simp[Op.equalIn,underlying,hu]
theorem oH{aF e2:TypeId}(hu:P.underlying aF=some (.array 2 e2)){te:TI}(Et:Fp P e2 te){q:IntKind}(hq:te.ty=.int q)(w:World)(a b c d:Int) :
    (Op.equal aF (.agg #[.int q a,.int q b]) (.agg #[.int q c,.int q d])).run P w=.ok (a==c&&b==d) w:=by
 have hs:=D9 (w:=w) Et;rw[hq]at hs;have hi:=U9 Et hq;have p0:∀x y ,(part e2 #[.int q x,.int q y] 0).run P w=.ok _ w:=λx y=>dA Et hq rfl;have p1:∀x y ,(part e2 #[.int q x,.int q y] 1).run P w=.ok _ w:=λx y=>dA Et hq rfl;have eq:=λx y=>fT  (q:=q) hi 9998 w x y;unfold Op.equal Op.maxDepth;rw[Op.equalIn];simp only[Sem.run_bind,run_underlying hu,Result.andThen_ok,hs];simp only[Std.Legacy.Range.forIn_eq_forIn_range',Std.Legacy.Range.size,List.range'_succ,List.forIn_nil];by_cases h1:a=c<;>by_cases h2:b=d<;>simp[p0,p1,eq,h1,h2,Ty.size]
theorem au{aF e2:TypeId}(hu:P.underlying aF=some (.array 2 e2)){te:TI}(Et:Fp P e2 te){q:IntKind}(hq:te.ty=.int q)(w:World){x:(Ty.AG (.int q) (.AG (.int q) .unit)).V} :
    ∀(ks:ATO (Ty.AG (.int q) (.AG (.int q) .unit)).V) (ms:ATO MapEntry) (n j:Nat),ms.map (·.key)=ks.map (FC (.AG (.int q) (.AG (.int q) .unit))) ->
    (∀i,i<j->∀y,ks[i]?=some y->Bm (.AG (.int q) (.AG (.int q) .unit)) x y=false)->(∀y,ks[j]?=some y->Bm (.AG (.int q) (.AG (.int q) .unit)) x y=true) ->
    (Instr.findAsking aF (FC (.AG (.int q) (.AG (.int q) .unit)) x) ms n).run P w=.ok (if h:j<ms.length then some (n+j,ms[j].val)else none) w
 |[],ms,n,j,hm,_,_=>by
  have :=by simpa using hm
  subst this;simp[Instr.findAsking]
 |k::ks,m::ms,n,0,hm,_,h1=>by
  simp only[AQU,ARZ]at hm;have:=h1 k rfl;simp only[Bm,Bool.and_true]at this;simp[Instr.findAsking,hm.1,FC,oH hu Et hq,this]
 |k::ks,m::ms,n,j+1,hm,h0,h1=>by
  simp only[AQU,ARZ]at hm;have ih:=au hu Et hq w ks ms (n+1) j hm.2 (λi hi y hy=>h0 (i+1) (by omega) y (by grind)) (λy hy=>h1 y (by grind));have:=h0 0 (by omega) k rfl;simp only[Bm,Bool.and_true]at this;simp only[Instr.findAsking,hm.1,Sem.run_bind];rw[show(Op.equal aF _ _).run P w=.ok false w by simp[FC,oH hu Et hq,this]];simp
  grind
 |k::ks,[],n,j,hm,_,_=>by grind
theorem AmD{aF e2:TypeId}(hu:P.underlying aF=some (.array 2 e2)){te:TI}(Et:Fp P e2 te){q:IntKind}(hq:te.ty=.int q):mG P aF (.AG (.int q) (.AG (.int q) .unit)) where
 check w em x:=by
  have hs:=D9 (w:=w) Et;rw[hq]at hs;have hi:=U9 Et hq;have p0:(part e2 #[.int q x.1,.int q x.2.1] 0).run P w=.ok _ w:=dA Et hq rfl;have p1:(part e2 #[.int q x.1,.int q _] 1).run P w=.ok (.int q x.2.1) w:=dA Et hq rfl;have hc:∀y,(Instr.checkKey em 9999 e2 (.int q y)).run P w=.ok () w:=λy=>by
   rw[Instr.checkKey];simp[underlying,hi]
  rw[Instr.checkKey];simp only[Sem.run_bind,run_underlying hu,Result.andThen_ok,FC];simp only[Std.Legacy.Range.forIn_eq_forIn_range',Std.Legacy.Range.size,List.range'_succ,List.forIn_nil];simp[hs,p0,p1,hc,Ty.size]
 find w x ks ms hm j h0 h1:=by
  have hf:=au hu Et hq w  ks ms 0 j hm h0 h1;simp only[Instr.findKey,run_underlying hu];cases ms with
  |nil=>simp[underlying,hu,Instr.findNow]
  |cons m ms =>
   cases ks with
   |nil=>grind
   |cons k ks =>
    have:Instr.findNow (.array 2 e2) (FC _ x) (m::ms) 0=none:=by simp[Instr.findNow,Instr.sameNow]
    simp[underlying,hu,this,hf]
 stays w x:=by
  have:Instr.sameBits 10000 (.agg #[.int q x.1,.int q x.2.1]) (.agg #[.int q x.1,.int q x.2.1])=true:=by
   simp[Instr.sameBits]
  simp[Instr.keyThatStays,FC,this]
 eq x y h:=by
  simp only[Bm,Bool.and_true]at h
  grind
theorem mG.of{Ee:Tab}{aF:TypeId}{tk:TI}(ht:gG P Ee=true)(hk:Fp P aF tk)(h:tk.ty.EF=true)(hh:bp Ee tk=true):mG P aF tk.ty:=by
 unfold bp at hh;split at hh
 ·simp only[AQg,ARd]at hh;obtain⟨ni,hh⟩:=hh;split at hh
  ·rename_i te Et;simp only[AQg,ARd]at hh;have hu:=hk.Hh (by omega);rw[ni]at hu;rw[hh.2];exact AmD hu (Fp.of ht Et) hh.1
  ·grind
 ·cases hq:tk.ty with
  |int q=>exact AmE (U9 hk hq)
  |str=>exact AmF (SZ hk hq)
  |AG a b =>
   rename_i ah;rw[hq]at h;cases a with
   |int q=>grind
   |_=>simp[Ty.EF]at h
  |_=>rw[hq]at h;simp[Ty.EF]at h
theorem AmB{w:World}{A:Nat->Prop}:∀{kt:Ty} {x:kt.V} {cs:ATO Value} {v:Value},kt.EF=true->H9 w A kt x cs->Cp kt.isAgg cs v->v=FC kt x
 |.int k,x,cs,v,_,h,hv=>by
  subst h;simpa [FC]using hv.symm
 |.str,x,cs,v,_,h,hv=>by
  subst h;simpa [FC]using hv.symm
 |.AG a b,x,cs,v,hk,h,hv=>by
  cases a with
  |int q=>cases b with
   |AG b c=>cases b with
    |int q'=>cases c with
     |unit =>
      obtain⟨c1,d1,rfl,h1,c2,d2,rfl,h2,h3⟩:=h;subst h1;subst h2;subst h3;simpa [Cp,Ty.isAgg,FC]using hv
     |_=>simp[Ty.EF]at hk
    |_=>simp[Ty.EF]at hk
   |_=>simp[Ty.EF]at hk
  |_=>simp[Ty.EF]at hk
 |.bool,_,_,_,hk,_,_=>by simp[Ty.EF]at hk
 |.unit,_,_,_,hk,_,_=>by simp[Ty.EF]at hk
 |.sl _,_,_,_,hk,_,_=>by simp[Ty.EF]at hk
 |.R4 _,_,_,_,hk,_,_=>by simp[Ty.EF]at hk
theorem kT{w:World}{g:G}{bs:ATO Blk}(H:Bo w g bs){kt:Ty}{a:AV}{key:kt.V}{v:Value}(hk:kt.EF=true)(h:rd bs kt a=some key)(hv:Cb w g bs.length a v):v=FC kt key:=by
 obtain⟨h1,h2⟩:=WN h;obtain⟨cs,UA,hv⟩:=B9 h1 h2 hv;rw[bG h]at hv;exact AmB hk (Ri H kt a key cs h UA).1 hv
theorem XU:∀{kt:Ty},kt.EF=true->∀{x:kt.V},Bm kt x x=true
 |.int _,_,x=>by simp[Bm]
 |.str,_,x=>bU.2 rfl
 |.AG a b,hk,x=>by
  cases a with
  |int q=>cases b with
   |AG b c=>cases b with
    |int q'=>cases c with
     |unit=>simp[Bm]
     |_=>simp[Ty.EF]at hk
    |_=>simp[Ty.EF]at hk
   |_=>simp[Ty.EF]at hk
  |_=>simp[Ty.EF]at hk
 |.bool,hk,_=>by simp[Ty.EF]at hk
 |.unit,hk,_=>by simp[Ty.EF]at hk
 |.sl _,hk,_=>by simp[Ty.EF]at hk
 |.R4 _,hk,_=>by simp[Ty.EF]at hk
theorem pA{kt vt:Ty}(k:kt.V):∀(es:ATO (kt.V×vt.V)),(∃(j:Nat) (x:kt.V×vt.V),es[j]?=some x/\Bm kt k x.1=true/\(∀i,i<j->∀y,es[i]?=some y->Bm kt k y.1=false)/\O9 kt vt es k=some x.2/\∀v,Cs kt vt es k v=es.set j (k,v)) \/
    ((∀(i:Nat) y,es[i]?=some y->Bm kt k y.1=false)/\O9 kt vt es k=none/\∀v,Cs kt vt es k v=es++[(k,v)])
 |[]=>.inr ⟨λi y h=>by grind,rfl,λ_=>rfl⟩
 |x::r=>by
  cases hk:Bm kt k x.1 with
  |true=>exact .inl ⟨0,x,rfl,hk,λi hi=>by omega,by simp[O9,hk],λv=>by simp[Cs,hk]⟩
  |false =>
   rcases pA k r with ⟨j,y,h1,h2,h3,h4,h5⟩|⟨h1,h2,h3⟩
   ·refine .inl ⟨j+1,y,by grind,h2,λi hi z hz=>?_,by simp[O9,hk,h4],λv=>by simp[Cs,hk,h5]⟩
    grind
   ·refine .inr ⟨λi z hz=>?_,by simp[O9,hk,h2],λv=>by simp[Cs,hk,h3]⟩
    grind
section
variable {w:World} {own:Nat->Vf} {k:Nat} {md:RM} {kt vt:Ty} {st:ATP kt.V}
theorem W0.AmC:∀{i:Nat} {es:ATO (kt.V×vt.V)} {ms:ATO MapEntry},W0 w own k md kt vt st i es ms->ms.map (·.key)=(es.map (·.1)).map (FC kt)
 |_,[],_,h=>by cases h;rfl
 |_,x::xs,_,⟨m,r,e,h1,_,h3⟩=>by subst e;simp[h1.1,W0.AmC h3]
theorem W0.len{i:Nat}{es:ATO (kt.V×vt.V)}{ms:ATO MapEntry}(h:W0 w own k md kt vt st i es ms):ms.length=es.length:=by
 have:=congrArg List.length h.AmC;simpa using this
theorem W0.get:∀{i:Nat} {es:ATO (kt.V×vt.V)} {ms:ATO MapEntry} {j:Nat} {x:kt.V×vt.V},W0 w own k md kt vt st i es ms->es[j]?=some x ->
    ∃m,ms[j]?=some m/\(m.key=FC kt x.1/\m.born=i+j)/\(st=some x.1\/∃cs,UI w own k md vt (i+j) x.2 cs/\Cp vt.isAgg cs m.val)
 |i,x::xs,_,0,y,⟨m,r,e,h1,h2,h3⟩,hj=>by
  grind
 |i,x::xs,_,j+1,y,⟨m,r,e,h1,h2,h3⟩,hj=>by
  subst e;obtain⟨m',h4,h5,h6⟩:=h3.get (j:=j) (by simpa using hj)
  grind
 |_,[],_,_,_,_,hj=>by grind
theorem W0.mk:∀{i:Nat} {es:ATO (kt.V×vt.V)} {ms:ATO MapEntry},ms.length=es.length->(∀(j:Nat) (x:kt.V×vt.V) (m:MapEntry),es[j]?=some x->ms[j]?=some m->(m.key=FC kt x.1/\m.born=i+j)/\(st=some x.1\/∃cs,UI w own k md vt (i+j) x.2 cs/\Cp vt.isAgg cs m.val))->W0 w own k md kt vt st i es ms
 |_,[],ms,hl,_=>by
  cases ms with
  |nil=>rfl
  |cons _ _=>grind
 |i,x::xs,[],hl,_=>by grind
 |i,x::xs,m::ms,hl,h=>by
  obtain⟨h1,h2⟩:=h 0 x m rfl rfl;refine⟨m,ms,rfl,h1,h2,W0.mk (by grind) λj y m' hy hm=>?_⟩;have:=h (j+1) y m' (by grind) (by grind)
  grind
end
theorem xP{t:Nat}{ti:TI}(h:Fp P t ti)(w:World):∃z,(zeroValue t).run P w=.ok z w/\Cp ti.ty.isAgg (RR ti.ty) z:=by
 obtain⟨i,z,hi,_,_,hz,oS,ha⟩:=h.info;refine⟨z,by simp[zeroValue,typeInfo,hi,hz],?_⟩;cases hg:ti.ty.isAgg with
 |true =>
  obtain⟨c,rfl⟩:=ha.2 hg;have:c.toList=RR _:=oS;simp[Cp,<-this]
 |false =>
  have hn:∀c,z≠.agg c:=λc e=>by grind
  have:z.cells=#[z]:=by cases z<;>first |rfl |grind
  rw[this]at oS;simp[Cp,<-oS]
theorem de{w:World}{g:G}{k:Nat}{md:RM}{kt vt:Ty}{st:ATP kt.V}{aF:TypeId}(K:mG P aF kt){es:ATO (kt.V×vt.V)}{Hh:Array MapEntry}(hm:W0 w g.own k md kt vt st 0 es Hh.toList)(key:kt.V) :
    (∃(j:Nat) (x:kt.V×vt.V) (m:MapEntry),es[j]?=some x/\x.1=key/\Hh[j]?=some m/\(∀i,i<j->∀y,es[i]?=some y->Bm kt key y.1=false)/\O9 kt vt es key=some x.2/\(∀v,Cs kt vt es key v=es.set j (key,v))/\(st=some x.1\/∃cs,UI w g.own k md vt j x.2 cs/\Cp vt.isAgg cs m.val)/\(m.key=FC kt key/\m.born=j) /\
     (Instr.findKey aF (FC kt key) Hh.toList).run P w=.ok (some (j,m.val)) w) \/
    ((∀(i:Nat) y,es[i]?=some y->Bm kt key y.1=false)/\O9 kt vt es key=none/\(∀v,Cs kt vt es key v=es++[(key,v)])/\(Instr.findKey aF (FC kt key) Hh.toList).run P w=.ok none w):=by
 rcases pA key es with ⟨j,x,h1,h2,h3,h4,h5⟩|⟨h1,h2,h3⟩
 ·obtain⟨m,h6,⟨h7,h7b⟩,h8⟩:=hm.get h1;have aA:j<Hh.toList.length:=A7 h6;have hf:=K.find w key (es.map (·.1)) Hh.toList hm.AmC j (λi hi y hy=>by
   grind) (λy hy=>by
   grind)
  have hmv:Hh.toList[j]=m:=by
   grind
  rw[dif_pos aA,hmv]at hf;have e:=(K.eq _ _ h2).symm
  grind
 ·have hf:=K.find w key (es.map (·.1)) Hh.toList hm.AmC es.length (λi hi y hy=>by
    grind) (λy hy=>by
    grind)
  rw[dif_neg (by rw[hm.len];omega)]at hf;exact .inr ⟨h1,h2,h3,hf⟩
theorem jC{w:World}{g:G}{n k:Nat}{v:Value}(h:Cb w g n (.mp k) v):k<n/\∃b,(g.A5 k).a=some ⟨b,0,none⟩/\v=.map (some b):=by
 obtain⟨cs,⟨hk,b,hb,e⟩,hv⟩:=B9 rfl rfl h;subst e;exact⟨hk,b,hb,by simpa [AV.isAgg]using hv.symm⟩
theorem xj{t:TypeId}(ho:o.op=.makeMap t none){m:RM}{kt vt:Ty}(hm:m.Cx=[]):OA P σ o ⟨.mp σ.Aj.length,σ.Aj++[.map m kt vt [] none],[]⟩:=by
 refine⟨by simp,λ_=>⟨_,rfl⟩,λa w g hs next Q hn=>?_⟩
 have hr:(execOp a.eval o).run P w=.ok (.value (.map (some w.heap.size))) (w.alloc (.map #[] 0)):=by
  simp[execOp,ho,Instr.makeMap]
 unfold Oper.wp;rw[hr];have st:=Step.add hs.heap (.map #[] 0) ⟨some ⟨w.heap.size,0,none⟩,0,0,0⟩;refine hn _ _ _ (hs.heap.new ?_) ?_ st
 ·exact⟨(by grind),w.heap.size,#[],0,by simp[G.add],by simp[G.add],heap_alloc_new w _,by simp,rfl⟩
 ·exact BD  rfl ⟨by simp,w.heap.size,by simp[G.add],rfl⟩ (by simp[Cp,AV.isAgg])
theorem wA{w:World}{g:G}{k b:Nat}{md:RM}{kt vt:Ty}{st:ATP kt.V}{t aF el:TypeId}{te:TI}(ht:P.underlying t=some (.map aF el))(Et:Fp P el te)(hvt:vt=te.ty)(hd:te.ty.data=true)(K:mG P aF kt){es:ATO (kt.V×vt.V)}{Hh:Array MapEntry}{DX:Nat}(hb:w.heap[b]?=some (.map Hh DX))
    (hm:W0 w g.own k md kt vt st 0 es Hh.toList) (key:kt.V) (ok:Bool):∃v,(Instr.lookup t (.map (some b)) (FC kt key) ok).run P w=.ok (if ok then .tuple #[v,.bool (Ul kt vt es key)]else v) w /\
     ((∃(j:Nat) (x:kt.V×vt.V) (m:MapEntry),es[j]?=some x/\x.1=key/\Hh[j]?=some m/\m.val=v/\BA kt vt es key=x.2/\(st=some x.1\/∃cs,UI w g.own k md vt j x.2 cs/\Cp vt.isAgg cs v))\/(BA kt vt es key=vt.zero/\Cp vt.isAgg (RR vt) v)):=by
 subst hvt;rcases de K hm key with ⟨j,x,m,h1,h2,h3,_,h4,_,h5,_,hf⟩|⟨_,h2,_,hf⟩
 ·refine⟨m.val,?_,.inl ⟨j,x,m,h1,h2,h3,rfl,by simp[BA,h4],h5⟩⟩;cases ok<;>simp[Instr.lookup,underlying,ht,MapKept.run_getObj_map hb,K.check,hf,Ul,h4]
 ·obtain⟨z,hz,hzv⟩:=xP Et w;refine⟨z,?_,.inr ⟨by simp[BA,h2],hzv⟩⟩;cases ok<;>simp[Instr.lookup,underlying,ht,MapKept.run_getObj_map hb,K.check,hf,hz,Ul,h2]
theorem Ajp{t:TypeId}{m x:Operand}{ok:Bool}(ho:o.op=.lookup t m x ok){ti tk te:TI}(ht:Fp P t ti)(rK:ti.Pb≠0)(Et:Fp P ti.elem te)(hd:te.ty.data=true)(K:tk.ty.EF=true->mG P ti.Pb tk.ty){z:AV}
    (h:gp σ.Aj tk te ok (σ.Cr m) (σ.Cr x) some=some z):OA P σ o ⟨z,σ.Aj,[]⟩ :=
 .Je <| Mg (s:=λρ=>Instr.lookup t (ρ m) (ρ x) ok) (λρ=>by simp[execOp,ho]) λa w g BX=>by
  unfold gp at h;split at h
  ·rename_i k hm;split at h
   ·rename_i md kt vt es hb;split at h
    ·rename_i key hx;split at h
     ·rename_i hc;obtain⟨hkt,hvt,WY⟩:=hc;subst hkt;subst hvt;have hmm:=A0 BX m;rw[hm]at hmm;obtain⟨hk,b,OB,hbe⟩:=jC hmm;obtain⟨RZ,b',Hh,DX,ha,Cw,hh,S7,kI⟩:=BX.heap.MP k _ hb;rw[OB]at ha;injection ha with ha;injection ha with ha;subst ha;have kH:=kT BX.heap WY hx (A0 BX x);obtain⟨v,hr,dk⟩:=wA (ht.mp rK) Et rfl hd (K WY) hh kI key ok;have hv:Cb w g σ.Aj.length (.AB (bz (md.own k) te.ty) te.ty (BA tk.ty te.ty es key)) v:=by
       have nq:∃cs,H9 w (Al g.own (md.own k)) te.ty (BA tk.ty te.ty es key) cs/\Cp te.ty.isAgg cs v:=by
        rcases dk with ⟨j,y,mm,h1,h2,h3,h4,h5,h6⟩|⟨h1,h2⟩
        ·rw[h5];rcases h6 with h6 |⟨cs,h6,h7⟩
         ·grind
         ·refine⟨cs,?_,h7⟩;cases md with
          |Aw=>exact J9.rd (λb q hb=>.mem (AQE) hb) h6
          |sh ks=>exact h6
        ·rw[h1];exact⟨_,H9.zero hd,h2⟩
       obtain⟨cs,h1,h2⟩:=nq;refine BD rfl (cs:=cs) ⟨λj hj=>?_,?_⟩ h2
       ·unfold bz at hj;split at hj
        ·grind
        ·cases md with
         |Aw=>simp[RM.own]at hj;subst hj;exact hk
         |sh ks=>exact RZ j hj
       ·unfold bz;split
        ·rename_i hf;exact(H9.BZ hf).2 ((H9.BZ hf).1 h1)
        ·grind
      cases ok with
      |false =>
       simp only[AQo,AQb]at h;subst h;exact⟨v,by grind,hv⟩
      |true =>
       simp only[AQp,AQb]at h;subst h;refine⟨_,by grind,[v,.bool (Ul tk.ty te.ty es key)],rfl,v,_,rfl,(Cb.iff rfl).1 hv,.bool (Ul tk.ty te.ty es key),[],rfl,?_,rfl⟩;exact(Cb.iff rfl).1 (dv _)
     ·grind
    ·grind
   ·grind
  ·grind
theorem Aeh{t:TypeId}{m x:Operand}(ho:o.op=.lookup t m x false){ti tk te:TI}(ht:Fp P t ti)(rK:ti.Pb≠0)(Et:Fp P ti.elem te)(hd:te.ty.data=true)(K:tk.ty.EF=true->mG P ti.Pb tk.ty)
    (h:po σ.Aj tk te (σ.Cr m) (σ.Cr x) some=some e):OA P σ o e:=by
 unfold po at h;split at h
 ·rename_i k hm;split at h
  ·rename_i kt u es hb;split at h
   ·rename_i key hx;split at h
    ·rename_i hc;injection h with h;subst h;obtain⟨hkt,hvt,WY,hu⟩:=hc;subst hkt;refine⟨by simp[AH],λh=>(by cases h),λa w g BX next Q hn=>?_⟩
     have H:=BX.heap;have hmm:=A0 BX m;rw[hm]at hmm;obtain⟨hk,b,OB,hbe⟩:=jC hmm;obtain⟨RZ,b',Hh,DX,ha,Cw,hh,S7,kI⟩:=H.MP k _ hb;rw[OB]at ha;injection ha with ha;injection ha with ha;subst ha;have kH:=kT H WY hx (A0 BX x);obtain⟨v,hr,dk⟩:=wA (ht.mp rK) Et hvt hd (K WY) hh kI key false;have Es:(execOp a.eval o).run P w=.ok (.value v) w:=by
      simp only[AQX,ARA]at hr;simp[execOp,ho,hbe,kH,hr]
     unfold Oper.wp;rw[Es];obtain ⟨J,ad,cap,hv,OY,Wd⟩:∃(J:Nat) (ad:ATP Addr) (cap:Nat),v=.slice ad (BA tk.ty (.sl u) es key).length cap/\J9 w g.own k (.sl u) [J] (BA tk.ty (.sl u) es key) [.slice ad (BA tk.ty (.sl u) es key).length cap] /\
         ∀(i:Nat) (y:tk.ty.V×(Ty.sl u).V),es[i]?=some y->y.1=key\/i≠J:=by
      rcases dk with ⟨j,y,mm,h1,h2,h3,h4,h5,h6⟩|⟨h1,h2⟩
      ·rcases h6 with h6 |⟨cs,h6,h7⟩
       ·cases h6
       ·have h6':J9 w g.own k (.sl u) [j] y.2 cs:=h6;obtain⟨ad,cap,e1,h8⟩:=h6;subst e1;have hv:[Value.slice ad y.2.length cap]=[v]:=h7;injection hv with hv _;refine⟨j,ad,cap,by rw[h5];exact hv.symm,by rw[h5];exact h6',λi z hz=>?_⟩;by_cases hi:i=j
        ·subst hi;rw[h1]at hz;injection hz with hz;subst hz;exact .inl h2
        ·exact .inr hi
      ·have hv:[Value.slice none 0 0]=[v]:=h2;injection hv with hv _;refine⟨es.length,none,0,by rw[h1];exact hv.symm,by rw[h1];exact⟨none,0,rfl,.inl ⟨rfl,rfl⟩⟩,λi z hz=>.inr ?_⟩;have:=A7 hz;omega
     let ys:=BA tk.ty (.sl u) es key
     let i1:BI:=⟨ad,ys.length,cap,u.size⟩
     let n:=σ.Aj.length
     let g1:=g.jZ n k [J] i1
     have st:Step [k] n w g w g1:=lX;have U8:g1.A5 n=i1:=by simp[g1,G.jZ]
     have fY:k≠n:=by simp only[n];omega
     have oQ:((Bh [k] σ.Aj).set k (Blk.map .Aw tk.ty (.sl u) es (some key))++[Blk.row 0 .Aw u ys]).length=n+1:=by simp[AH,n]
     refine hn v w g1 ?_ ?_ st
     ·refine H.bZ st (λb hb=>by simp[g1,G.jZ,H.B7 b hb]) (by rw[oQ];exact AQK _) λj y hj=>?_;rw[AQz]at hj;split at hj
      ·rcases Tg hj with ⟨mK,rfl⟩|⟨MO,hj⟩
       ·rw[mK];have Sn:g1.A5 k=g.A5 k:=by simp[g1,G.jZ,fY]
        refine .inr (.inr ⟨λj hj=>(by cases hj),b,Hh,DX,by rw[Sn];exact OB,XI Cw (λhc=>by have:=hc.2;simp at this),hh,S7,W0.mk kI.len λi z mm hz hmz=>?_⟩);obtain⟨m',h1,h2,h3⟩:=kI.get hz;rw[hmz]at h1;injection h1 with h1;subst h1;refine⟨h2,?_⟩;rcases Wd i z hz with h |h
        ·exact .inl (by rw[h])
        ·rcases h3 with h3 |⟨cs,h3,h4⟩
         ·cases h3
         ·refine .inr ⟨cs,?_,h4⟩;rw[AQF]at h3⊢;exact J9.mono (λb q hb=>⟨XI hb λhc=>by
           obtain⟨s,hs⟩:=hc.2;have:=List.append_inj_right' hs rfl;simp at this;exact h this.symm,rfl⟩) h3
       ·obtain⟨y,hy,rfl⟩:=DC hj;exact .inr (.inl ⟨by simpa using MO,y,hy,rfl⟩)
      ·rename_i ag;simp only[AQi,AH]at hj ag;have oO:j-σ.Aj.length=0:=by
        rcases AQx (j-σ.Aj.length)with h |h
        ·exact h
        ·rw[AQN (by simp;omega)]at hj;cases hj
       rw[oO]at hj;obtain rfl:j=n:=by simp only[n];omega
       simp only[List.getElem?_cons_zero,AQb]at hj;subst hj;refine .inr (.inr ⟨λj hj=>(by cases hj),by rw[U8],by rw[U8],ARJ hu,?_⟩);rw[U8];obtain⟨ui,Tt,e3,OY⟩:=OY;injection e3 with e3 _;injection e3 with e3 _ e4;subst e3;subst e4;refine OY.imp id λ⟨b,el,BG,ds,q1,q2,q3,q4,q5,q6,q7,q8⟩=>⟨b,BG,ds,q1,ZF (q:=[]) (by simpa using q2),⟨el,.inl rfl,q3⟩,q4,q5,q6,q7,?_⟩;exact q8.mono λi x c r=>r.mono λb q hb=>⟨ZF (by simpa using hb),rfl⟩
     ·rw[oQ,hv];exact BD (cs:=[_]) rfl ⟨AQP _,by rw[U8]⟩ rfl
    ·cases h
   ·cases h
  ·cases h
 ·cases h
theorem Ail{w:World}{g:G}{BJ:ATO Nat}{b k:Nat}{Hh:Array MapEntry}{DX:Nat}{ob:Obj}(hh:w.heap[b]?=some (.map Hh DX))(ho:g.own b=.BV k [])(hk:k∈BJ):∀q,q<w.heap.size->(∀k p,g.own q=.BV k p->k∉BJ)->({w with heap:=w.heap.setIfInBounds b ob}:World).heap[q]?=w.heap[q]?:=by
 intro q _ hq;exact ARO (λe=>by subst e;exact hq k [] ho hk)
theorem AwJ{P:Program}{w:World}{g:G}{bs:ATO Blk}(H:Bo w g bs){t:TypeId}{am ax av:AV}{mv xv vv:Value}(hAm:Cb w g bs.length am mv)(hAx:Cb w g bs.length ax xv)(hAv:Cb w g bs.length av vv){ti tk te:TI}(ht:Fp P t ti)(rK:ti.Pb≠0)(K:tk.ty.EF=true->mG P ti.Pb tk.ty){e:H8}
    (h:dT bs tk te am ax av some=some e):e.BJ≠[]/\e.Aj.length=bs.length/\e.val=.un 0/\∃w' g',(Instr.mapUpdate t mv xv vv).run P w=.ok () w'/\Bo w' g' e.Aj/\Step e.BJ bs.length w g w' g':=by
 unfold dT at h;split at h
 ·rename_i k;split at h
  ·rename_i md kt vt es st0 hb;split at h
   ·rename_i key y m' rs hx aB;split at h
    ·rename_i hc;obtain⟨hkt,hvt,WY,QJ,hrk⟩:=hc;subst hkt;have h':e=⟨.un 0,(Blk.G4 (Bh (k::rs) bs) rs).set k (.map m' tk.ty vt (Cs tk.ty vt es key y) none),k::rs⟩/\(st0=none\/st0=some key):=by
      cases st0 with
      |none=>injection h with h;exact⟨h.symm,.inl rfl⟩
      |some k0 =>
       simp only at h;cases hq:Bm tk.ty k0 key with
       |false=>rw[hq]at h;cases h
       |true =>
        rw[hq,AQp]at h;injection h with h;exact⟨h.symm,.inr (by rw[(K WY).eq _ _ hq])⟩
     obtain⟨rfl,vU⟩:=h';refine⟨by simp,by simp[Bd,AH],rfl,?_⟩;have hmm:=hAm;obtain⟨hk,b,OB,hbe⟩:=jC hmm;obtain⟨RZ,b',Hh,DX,ha,Cw,hh,S7,kI⟩:=H.MP k _ hb;rw[OB]at ha;injection ha with ha;injection ha with ha;subst ha;have kH:=kT H WY hx hAx;obtain⟨hy,hrs,AJ2,AJZ⟩:=QE aB;obtain⟨Y8,Sp⟩:=WN hy;obtain⟨cv,YE,hvv⟩:=B9 Y8 Sp hAv;rw[bG hy]at hvv;obtain⟨bn,gZ⟩:=dS aB;have Yn:=Xq QJ;have zK:k∉rs:=by simpa using hrk
     have Bw:b<w.heap.size:=Vp H (by rw[Cw];simp);obtain ⟨J,uq,eJ,Es,AhO⟩:∃(J:Nat) (uq:Array MapEntry) (eJ:Nat),(Instr.mapUpdate t mv xv vv).run P w=.ok () {w with heap:=w.heap.setIfInBounds b (.map uq eJ)} /\
         ((((Cs tk.ty vt es key y).map (·.1)).Nodup/\eJ=uq.size)/\uq.toList.length=(Cs tk.ty vt es key y).length/\∀(i:Nat) (z:tk.ty.V×vt.V) (mm:MapEntry),(Cs tk.ty vt es key y)[i]?=some z->uq.toList[i]?=some mm ->
          (i=J/\z=(key,y)/\(mm.key=FC tk.ty key/\mm.born=i)/\mm.val=vv)\/(i≠J/\es[i]?=some z/\Hh.toList[i]?=some mm/\st0≠some z.1)):=by
      have hu:=ht.mp rK;have Y6:∀z:tk.ty.V,Bm tk.ty key z=false->st0≠some z:=λz hz e=>by
       rcases vU with h |h
       ·rw[h]at e;cases e
       ·rw[h]at e;injection e with e;subst e;rw[XU WY]at hz;cases hz
      rcases de (K WY) kI key with ⟨j,z,mm,h1,h2,h3,h4,h5,h6,h7,⟨h8,h8b⟩,hf⟩|⟨h1,h2,h3,hf⟩
      ·refine⟨j,Hh.modify j λe=>{e with key:=FC tk.ty key,val:=vv},DX,?_,?_⟩
       ·rw[hbe,kH];simp[Instr.mapUpdate,underlying,hu,MapKept.run_getObj_map hh,(K WY).check,hf,h3,h8,(K WY).stays,MapKept.run_setObj_map _ hh]
       ·rw[h6 y];have hl:Hh.toList.length=es.length:=kI.len;refine⟨⟨by
         rw[List.map_set];have:(es.map (·.1)).set j key=es.map (·.1):=by
          have hg:(es.map (·.1))[j]?=some key:=by rw[AQC,h1,<-h2];rfl
          apply ARn;intro i;rw[AQy];split
          ·rename_i e;subst e;rw[AQr (A7 hg),hg]
          ·rfl
         rw[this];exact S7.1,by simp[S7.2]⟩,by simpa using hl,λi z' m2 hz S6=>?_⟩
        rw[AQn,ARK]at S6;rw[AQy]at hz;by_cases zJ:j=i
        ·subst zJ;have aA:=A7 h1;simp only[AQV,aA]at hz;injection hz with hz;simp only[AQV,h3,Option.map_some,AQb]at S6;subst S6;exact .inl ⟨rfl,hz.symm,⟨rfl,h8b⟩,rfl⟩
        ·simp only[AQs zJ]at hz S6;refine .inr ⟨λe=>zJ e.symm,hz,by rw[AQn];exact S6,?_⟩;intro e;rcases vU with h |h
         ·rw[h]at e;cases e
         ·rw[h]at e;injection e with e;have g1:(es.map (·.1))[j]?=some key:=by rw[AQC,h1,<-h2];rfl
          have g2:(es.map (·.1))[i]?=some key:=by rw[AQC,hz,e];rfl
          exact zJ ((List.getElem?_inj (A7 g1) S7.1).1 (g1.trans g2.symm))
      ·refine⟨es.length,Hh.push {key:=FC tk.ty key,val:=vv,born:=DX},DX+1,?_,?_⟩
       ·rw[hbe,kH];simp[Instr.mapUpdate,underlying,hu,MapKept.run_getObj_map hh,(K WY).check,hf,MapKept.run_setObj_map _ hh]
       ·rw[h3 y];have hl:Hh.toList.length=es.length:=kI.len;refine⟨⟨by
         rw[AQT,ASc];refine⟨S7.1,by simp,λa ha b hb=>?_⟩;simp at hb;subst hb
         rintro rfl
         obtain⟨z,hz,rfl⟩:=List.mem_map.1 ha;obtain⟨i,hi⟩:=List.getElem?_of_mem hz;have:=h1 i z hi;rw[XU WY]at this;exact Bool.noConfusion this,by simp[S7.2]⟩,by simpa using hl,λi z' m2 hz S6=>?_⟩
        rw[Array.toList_push]at S6;by_cases hi:i<es.length
        ·rw[AQw hi]at hz;rw[AQw (by rw[hl];exact hi)]at S6;exact .inr ⟨by omega,hz,S6,Y6 _ (h1 i z' hz)⟩
        ·have tK:=A7 hz;rw[AQd,AQt]at tK;obtain rfl:i=es.length:=by omega
         simp at hz;rw[<-hl]at S6;simp at S6;subst S6;subst hz;exact .inl ⟨rfl,rfl,⟨rfl,by show DX=es.length;rw[S7.2,<-hl];simp⟩,rfl⟩
     obtain⟨AJ1,AbL,AhO⟩:=AhO
     let w':World:={w with heap:=w.heap.setIfInBounds b (.map uq eJ)}
     let M:=Lg av [J]
     have zC:M.map (·.1)=rs:=by rw[hrs];exact GU _ _
     let f:=XB md k M
     let g':=g.V1 f none bs.length ⟨none,0,0,0⟩
     have vQ:∀b' r,g.own b'=.BV k r->g'.own b'=.BV k r:=λb' r h=>by
      have:=I0 (f:=f) (ob:=none) (n:=bs.length) (i:=⟨none,0,0,0⟩) (by simp) h;rw[this];exact Qo (by rw[zC];exact zK)
     have Nt:w'.heap.size=w.heap.size:=by simp[w']
     have st:Step (k::rs) bs.length w g w' g':=Step.V1 H.B7 rfl rfl rfl (by rw[Nt];exact AQf _) (Ail hh Cw (by simp)) (λq h=>by cases h) (AQf _) λj r _ hm =>
      Qo (by rw[zC];exact λh=>hm (AQB _ h))
     have Av2:∀b',b'≠b->w'.heap[b']?=w.heap[b']?:=λb' h=>ARO (Ne.symm h);have AhW:∀b' j r,g.own b'=.BV j r->j≠k->w'.heap[b']?=w.heap[b']?:=λb' j r h hj=>Av2 b' λe=>by subst e;rw[Cw]at h;injection h with h;exact hj h.symm
     have AhX:∀b' q,g.own b'=.BV k q->q≠[]->w'.heap[b']?=w.heap[b']?:=λb' q h hq=>Av2 b' λe=>by subst e;rw[Cw]at h;injection h with _ h;exact hq h.symm
     have vO:∀b',g.own b'=.Jd->w'.heap[b']?=w.heap[b']?:=λb' h=>Av2 b' λe=>by subst e;rw[Cw]at h;cases h
     have hon:∀(i':Nat) (x:vt.V) (c:ATO Value),UI w g.own k md vt i' x c->UI w' g'.own k m' vt i' x c:=by
      intro i' x c V2;refine V2.on ?_;rcases AJZ with ⟨rfl,rfl,_⟩|⟨ks,rfl,rfl⟩
      ·exact λb' q h=>⟨vQ b' _ h,AhX b' _ h (by simp)⟩
      ·intro b' h;rcases h with h |⟨j,hj,r,h⟩
       ·exact⟨.inl (Wv (by simp) h),vO b' h⟩
       ·have vI:=bn j hj;have mK:=Yn j vI;exact⟨.inr ⟨j,vI,r,by
         have:=I0 (f:=f) (ob:=none) (n:=bs.length) (i:=⟨none,0,0,0⟩) (by simp) h;rw[this];exact Qo (by rw[zC];exact λh=>mK (AQB _ h))⟩,AhW b' j r h λe=>mK (by simp[e])⟩
     have bm:InR w' g'.own k m' vt [J] y cv:=by
      refine ta H aB YE (M:=M) (λjq hj=>dt (by rw[GU];exact AJ2) hj) (λ_ h=>h) (λj hj=>Vb (by rw[zC];exact λh=>Yn j hj (AQB _ h))) gZ
       (λb' j r h _=>I0 (by simp) h) (λb' h=>Wv (by simp) h) λb' h=>?_
      rcases h with h |⟨j,r,h,hj⟩
      ·exact vO b' h
      ·refine AhW b' j r h λe=>?_;subst e;rcases hj with hj |hj
       ·rw[zC]at hj;exact zK hj
       ·exact Yn j hj (by simp)
     have AGx:UI w' g'.own k m' vt J y cv:=by
      cases m' with
      |Aw=>exact bm
      |sh ks=>exact bm
     refine⟨w',g',Es,H.bZ st (Ny H.B7 (by rw[Nt];exact AQf _) (λq h=>by cases h)) (by simp[Bd,AH]) λj z hj=>?_,st⟩;rcases Tg hj with ⟨mK,rfl⟩|⟨MO,hj⟩
     ·rw[mK];have Sn:g'.A5 k=g.A5 k:=st.A5 k hk;refine .inr (.inr ⟨by simpa [Bd,AH]using tc H aB YE RZ,b,uq,eJ,by rw[Sn];exact OB,vQ b [] Cw,by simp[w',Bw],AJ1,W0.mk AbL λi z mm hz hmz=>?_⟩);rw[AQF];rcases AhO i z mm hz hmz with ⟨rfl,rfl,h3,h4⟩|⟨h1,h2,h3,h4⟩
      ·exact⟨h3,.inr ⟨cv,AGx,by rw[h4];exact hvv⟩⟩
      ·obtain⟨m2,h5,h6,h7⟩:=kI.get h2;rw[h3]at h5;injection h5 with h5;subst h5;rw[AQF]at h6;refine⟨h6,?_⟩;rcases h7 with h7 |⟨cs,h7,h8⟩
       ·exact(h4 h7).elim
       ·rw[AQF]at h7;exact .inr ⟨cs,hon _ _ _ h7,h8⟩
     ·rcases Lf hj with h |⟨rH,h⟩
      ·exact .inl h
      ·obtain⟨y',iP,rfl⟩:=DC h;exact .inr (.inl ⟨by simp only[ARI,not_or];exact⟨MO,rH⟩,y',iP,rfl⟩)
    ·cases h
   ·cases h
  ·cases h
 ·cases h
theorem mh{bs:ATO Blk}{tk te:TI}{am ax av:AV}{e:H8}(h:dT bs tk te am ax av some=some e):e.BJ≠[]/\e.Aj.length=bs.length:=by
 unfold dT at h;split at h
 ·split at h
  ·split at h
   ·split at h
    ·split at h
     ·injection h with h;subst h;exact⟨by simp,by simp[Bd,AH]⟩
     ·rename_i y0 _;generalize Bm _ y0 _=q at h;cases q with
      |false=>cases h
      |true=>injection h with h;subst h;exact⟨by simp,by simp[Bd,AH]⟩
    ·cases h
   ·cases h
  ·cases h
 ·cases h
theorem Acd{t:TypeId}{m x v:Operand}(ho:o.op=.mapUpdate t m x v\/o.op=.insert t m x v){ti tk te:TI}(ht:Fp P t ti)(rK:ti.Pb≠0)(K:tk.ty.EF=true->mG P ti.Pb tk.ty)
    (h:dT σ.Aj tk te (σ.Cr m) (σ.Cr x) (σ.Cr v) some=some e):OA P σ o e:=by
 obtain⟨s1,s2⟩:=mh h;refine⟨by rw[s2];exact AQf _,λh=>(s1 h).elim,λa w g BX next Q hn=>?_⟩
 ·obtain⟨h1,h2,h3,w',g',Es,hH,st⟩:=AwJ BX.heap (A0 BX m) (A0 BX x) (A0 BX v) ht rK K h;have ay:(execOp a.eval o).run P w=.ok .skip w':=by
   rcases ho with ho |ho<;>simp[execOp,ho,Es]
  unfold Oper.wp;rw[ay];exact hn undef w' g' hH (by rw[h3];exact RP) st
theorem Aoz{w:World}{g:G}{bs:ATO Blk}(H:Bo w g bs){k:Nat}{kt u:Ty}{es:ATO (kt.V×(Ty.sl u).V)}(hb:bs[k]?=some (.map .Aw kt (.sl u) es none))(hu:u.size≠0){J:Nat}{key:kt.V}{ys:(Ty.sl u).V}(hJ:es[J]?=some (key,ys)){b:Nat}(OB:(g.A5 k).a=some ⟨b,0,none⟩)
    {Hh:Array MapEntry} {DX:Nat} (hh:w.heap[b]?=some (.map Hh DX)) {mm:MapEntry} (hm:Hh[J]?=some mm) :
    mm.born=J/\DX=Hh.size/\∃g1,Bo w g1 ((Bh [k] bs).set k (.map .Aw kt (.sl u) es (some key))++[.row 0 .Aw u ys])/\Step [k] bs.length w g w g1/\Cb w g1 (bs.length+1) (.AK bs.length) mm.val/\g1.A5 k=g.A5 k:=by
 have hk:=A7 hb;obtain⟨RZ,b',uq,eJ,ha,Cw,hh',S7,kI⟩:=H.MP k _ hb;rw[OB]at ha;injection ha with ha;injection ha with ha;subst ha;rw[hh]at hh';injection hh' with hh';injection hh' with e1 e2;subst e1;subst e2;obtain⟨m',q1,⟨_,q2⟩,q3⟩:=kI.get hJ;rw[AQn,hm]at q1;injection q1 with q1;subst q1;rw[AQF]at q2 q3;refine⟨q2,S7.2,?_⟩;obtain⟨ad,cap,hv,OY⟩:∃(ad:ATP Addr) (cap:Nat),mm.val=.slice ad ys.length cap/\J9 w g.own k (.sl u) [J] ys [.slice ad ys.length cap]:=by
  rcases q3 with h6 |⟨cs,h6,h7⟩
  ·cases h6
  ·have h6':J9 w g.own k (.sl u) [J] ys cs:=h6;obtain⟨ad,cap,e1,h8⟩:=h6;subst e1;have hv:[Value.slice ad ys.length cap]=[mm.val]:=h7;injection hv with hv _;exact⟨ad,cap,hv.symm,h6'⟩
 let i1:BI:=⟨ad,ys.length,cap,u.size⟩
 let n:=bs.length
 let g1:=g.jZ n k [J] i1
 have st:Step [k] n w g w g1:=lX;have U8:g1.A5 n=i1:=by simp[g1,G.jZ]
 have fY:k≠n:=by simp only[n];omega
 have Sn:g1.A5 k=g.A5 k:=by simp[g1,G.jZ,fY]
 have oQ:((Bh [k] bs).set k (Blk.map .Aw kt (.sl u) es (some key))++[Blk.row 0 .Aw u ys]).length=n+1:=by simp[AH,n]
 refine⟨g1,?_,st,?_,Sn⟩
 ·refine H.bZ st (λb hb=>by simp[g1,G.jZ,H.B7 b hb]) (by rw[oQ];exact AQK _) λj y hj=>?_;rw[AQz]at hj;split at hj
  ·rcases Tg hj with ⟨mK,rfl⟩|⟨MO,hj⟩
   ·rw[mK];refine .inr (.inr ⟨λj hj=>(by cases hj),b,Hh,DX,by rw[Sn];exact OB,XI Cw (λhc=>by have:=hc.2;simp at this),hh,S7,W0.mk kI.len λi z mm hz hmz=>?_⟩);obtain⟨m',h1,h2,h3⟩:=kI.get hz;rw[hmz]at h1;injection h1 with h1;subst h1;refine⟨h2,?_⟩;by_cases hi:i=J
    ·subst hi;rw[hJ]at hz;injection hz with hz;subst hz;exact .inl rfl
    ·rcases h3 with h3 |⟨cs,h3,h4⟩
     ·cases h3
     ·refine .inr ⟨cs,?_,h4⟩;rw[AQF]at h3⊢;exact J9.mono (λb q hb=>⟨XI hb λhc=>by
       obtain⟨s,hs⟩:=hc.2;have:=List.append_inj_right' hs rfl;simp at this;exact hi this.symm,rfl⟩) h3
   ·obtain⟨y,hy,rfl⟩:=DC hj;exact .inr (.inl ⟨by simpa using MO,y,hy,rfl⟩)
  ·rename_i ag;simp only[AQi,AH]at hj ag;have oO:j-bs.length=0:=by
    rcases AQx (j-bs.length)with h |h
    ·exact h
    ·rw[AQN (by simp;omega)]at hj;cases hj
   rw[oO]at hj;obtain rfl:j=n:=by simp only[n];omega
   simp only[List.getElem?_cons_zero,AQb]at hj;subst hj;refine .inr (.inr ⟨λj hj=>(by cases hj),by rw[U8],by rw[U8],ARJ hu,?_⟩);rw[U8];obtain⟨ui,Tt,e3,OY⟩:=OY;injection e3 with e3 _;injection e3 with e3 _ e4;subst e3;subst e4;refine OY.imp id λ⟨b,el,BG,ds,q1,q2,q3,q4,q5,q6,q7,q8⟩=>⟨b,BG,ds,q1,ZF (q:=[]) (by simpa using q2),⟨el,.inl rfl,q3⟩,q4,q5,q6,q7,?_⟩;exact q8.mono λi x c r=>r.mono λb q hb=>⟨ZF (by simpa using hb),rfl⟩
 ·rw[hv];exact BD (cs:=[_]) rfl ⟨AQP _,by rw[U8]⟩ rfl
end
theorem Nv(Yk:Nat->Bool):∀a:AV,(a.drop Yk).drop Yk=a.drop Yk
 |.AB ks t x=>by
  simp only[AV.drop];split
  ·rfl
  ·rename_i h;simp only[AV.drop,AQs h]
 |.FQ ks t x=>by
  simp only[AV.drop];split
  ·rfl
  ·rename_i h;simp only[AV.drop,AQs h]
 |.UT k i p o e=>by
  simp only[AV.drop];split
  ·rfl
  ·rename_i h;simp only[AV.drop,AQs h]
 |.WM k i p o j u=>by
  simp only[AV.drop];split
  ·rfl
  ·rename_i h;simp only[AV.drop,AQs h]
 |.pr a b=>by simp only[AV.drop,Nv Yk a,Nv Yk b]
 |.fn f c=>by simp only[AV.drop,Nv Yk c]
 |.cons a b=>by simp only[AV.drop,Nv Yk a,Nv Yk b]
 |.zs=>rfl
 |.AK _=>rfl
 |.ptr _ _ _ _=>rfl
 |.KG=>rfl
 |.nil=>rfl
 |.mp _=>rfl
 |.un _=>rfl
theorem mW(Yk:Nat->Bool):∀b:Blk,(b.drop Yk).drop Yk=b.drop Yk
 |.box a=>by simp only[Blk.drop,Nv]
 |.row e m t xs=>by cases h:m.Cx.any Yk<;>simp[Blk.drop,h]
 |.map m kt vt es st=>by cases h:m.Cx.any Yk<;>simp[Blk.drop,h]
 |.R1 _ _ _ _ _=>rfl
 |.tail _ _ _=>rfl
 |.Bg=>rfl
theorem mY{bs:ATO Blk}{k:Nat}{X Y:Blk}:(Bh [k] ((Blk.G4 (Bh [k] bs) []).set k X)).set k Y=(Bh [k] bs).set k Y:=by
 apply ARn;intro i;by_cases h:i=k
 ·subst h;simp only[AQy];simp[AH,Bd]
 ·have h' :=Ne.symm h;rw[ASg h',ASg h'];unfold Bh;rw[AQC,ASg h'];unfold Blk.G4;simp;cases bs[i]? with
  |none=>simp
  |some y=>simp[mW]
section
variable {kt vt:Ty}
theorem sq{k:kt.V}:∀{es:ATO (kt.V×vt.V)} {j:Nat} {x:kt.V×vt.V},es[j]?=some x->Bm kt k x.1=true->(∀i,i<j->∀y,es[i]?=some y->Bm kt k y.1=false)->YF kt vt es k=j
 |y::r,0,x,h,he,_=>by
  simp at h;subst h;unfold YF;rw[he];rfl
 |y::r,j+1,x,h,he,hn=>by
  unfold YF;rw[hn 0 (by omega) y rfl,AQo,sq  (j:=j) (by grind) he λi hi z hz=>hn (i+1) (by omega) z (by grind)]
 |[],_,_,h,_,_=>by grind
theorem wG{k:kt.V}:∀{es:ATO (kt.V×vt.V)},(∀(i:Nat) y,es[i]?=some y->Bm kt k y.1=false)->YF kt vt es k=es.length
 |[],_=>rfl
 |y::r,h=>by
  unfold YF;rw[h 0 y rfl,wG  λi z hz=>h (i+1) z (by grind)];rfl
theorem xc{Hh:Array MapEntry}{j:Nat}{m:MapEntry}{v:Value}(h:Hh[j]?=some m)(hk:m.key=v):Hh.modify j (λe=>{e with key:=v})=Hh:=by
 apply Array.ext_getElem?;intro i;rw[ARK];split
 ·rename_i e;subst e;rw[h];simp[<-hk]
 ·rfl
theorem Ad1{w:World}{b:Nat}{o:Obj}(h:w.heap[b]?=some o):({w with heap:=w.heap.setIfInBounds b o}:World)=w:=by
 have:w.heap.setIfInBounds b o=w.heap:=by
  grind
 rw[this]
theorem AJa{P:Program}{w:World}{g:G}{bs:ATO Blk}(H:Bo w g bs){k:Nat}{u:Ty}{tk:TI}{es:ATO (tk.ty.V×(Ty.sl u).V)}(hb:bs[k]?=some (.map .Aw tk.ty (.sl u) es none)){ax:AV}{key:tk.ty.V}(hx:rd bs tk.ty ax=some key){mv xv:Value}(hAm:Cb w g bs.length (.mp k) mv)(hAx:Cb w g bs.length ax xv)
    {t:TypeId} {ti te:TI} (ht:Fp P t ti) (rK:ti.Pb≠0) (Et:Fp P ti.elem te) (hvt:.sl u=te.ty) (WY:tk.ty.EF=true) (hu:u.size≠0) (K:tk.ty.EF=true->mG P ti.Pb tk.ty) :
    ∃v w' g',(Instr.mapEntry t mv xv).run P w=.ok (.tuple #[v,.int .i64 (YF tk.ty (.sl u) es key:Nat)]) w' /\
     Bo w' g' ((Bh [k] bs).set k (.map .Aw tk.ty (.sl u) (Cs tk.ty (.sl u) es key (BA tk.ty (.sl u) es key)) (some key))++[.row 0 .Aw u (BA tk.ty (.sl u) es key)])/\Cb w' g' (bs.length+1) (.AK bs.length) v/\Step [k] bs.length w g w' g':=by
 obtain⟨hk,b,OB,hbe⟩:=jC hAm;obtain⟨RZ,b',Hh,DX,ha,Cw,hh,S7,kI⟩:=H.MP k _ hb;rw[OB]at ha;injection ha with ha;injection ha with ha;subst ha;have kH:=kT H WY hx hAx;have Sp:=ht.mp rK;have hl:Hh.toList.length=es.length:=kI.len;rcases de (K WY) kI key with ⟨j,x,m,h1,h2,h3,h4,h5,h6,h7,⟨h8,h8b⟩,hf⟩|⟨h1,h2,h3,hf⟩
 ·have hJ:es[j]?=some (key,x.2):=by rw[h1,<-h2]
  obtain⟨vD,AN3,g1,H1,st,hav,_⟩:=Aoz H hb hu hJ OB hh h3;have hg:BA tk.ty (.sl u) es key=x.2:=by unfold BA;rw[h5];rfl
  have hp:Cs tk.ty (.sl u) es key x.2=es:=by
   rw[h6];apply ARn;intro i;rw[AQy];split
   ·rename_i e;subst e;rw[AQr (A7 hJ),hJ]
   ·rfl
  have vM:YF tk.ty (.sl u) es key=j:=sq hJ (XU WY) h4;refine⟨m.val,w,g1,?_,by rw[hg,hp];exact H1,hav,st⟩;rw[hbe,kH];have hw:=Ad1 (o:=.map (Hh.modify j λe=>{e with key:=FC tk.ty key}) DX) (by rw[xc h3 h8];exact hh);simp[Instr.mapEntry,underlying,Sp,MapKept.run_getObj_map hh,(K WY).check,hf,h3,h8,(K WY).stays,MapKept.run_setObj_map _ hh,hw,vM,vD,goInt]
 ·obtain⟨z,hz,hzv⟩:=xP Et w;rw[<-hvt]at hzv;have hzs:z=.slice none 0 0:=by
   have:[Value.slice none 0 0]=[z]:=hzv;injection this with h _;exact h.symm
  subst hzs;have hg:BA tk.ty (.sl u) es key=[]:=by unfold BA;rw[h2];rfl
  have vM:YF tk.ty (.sl u) es key=es.length:=wG h1;have hA0:Cb w g bs.length .zs (.slice none 0 0):=BD (cs:=[_]) rfl ⟨none,rfl⟩ rfl;have AKv:dT bs tk te (.mp k) ax .zs some=some ⟨.un 0,(Blk.G4 (Bh [k] bs) []).set k (.map .Aw tk.ty (.sl u) (Cs tk.ty (.sl u) es key []) none),[k]⟩:=by
   have aB:take bs .Aw (.sl u) .zs=some ([],.Aw,[]):=by simp[take,rd,AV.R5,AV.YZ,nodup]
   unfold dT;simp only[hb,hx,aB];rw[AQr ⟨trivial,hvt,WY,by rfl,by rfl⟩]
  obtain⟨_,_,_,w',g',Es,H',st'⟩:=AwJ H hAm hAx hA0 ht rK K AKv;have hw:w'={w with heap:=w.heap.setIfInBounds b (.map (Hh.push {key:=FC tk.ty key,val:=.slice none 0 0,born:=DX}) (DX+1))}:=by
   rw[hbe,kH]at Es;simp[Instr.mapUpdate,underlying,Sp,MapKept.run_getObj_map hh,(K WY).check,hf,MapKept.run_setObj_map _ hh]at Es;exact Es.symm
  have Bw:b<w.heap.size:=Vp H (by rw[Cw];simp);have zG:((Blk.G4 (Bh [k] bs) []).set k (Blk.map .Aw tk.ty (.sl u) (Cs tk.ty (.sl u) es key []) none))[k]?=some (.map .Aw tk.ty (.sl u) (Cs tk.ty (.sl u) es key []) none):=by
   rw[List.getElem?_set_self (by simpa [Bd,AH]using hk)]
  have hJ:(Cs tk.ty (.sl u) es key [])[es.length]?=some (key,[]):=by rw[h3];simp
  have AJv:(g'.A5 k).a=some ⟨b,0,none⟩:=by rw[st'.A5 k hk];exact OB
  have hh':w'.heap[b]?=some (.map (Hh.push {key:=FC tk.ty key,val:=.slice none 0 0,born:=DX}) (DX+1)):=by
   rw[hw];simp[Bw]
  have Nt:Hh.size=es.length:=by rw[<-hl];simp
  have hm:(Hh.push {key:=FC tk.ty key,val:=.slice none 0 0,born:=DX})[es.length]?=some {key:=FC tk.ty key,val:=.slice none 0 0,born:=DX}:=by
   rw[<-Nt];simp
  obtain⟨vD,_,g1,H1,Sf,hav,_⟩:=Aoz H' zG hu hJ AJv hh' hm;have zM:((Blk.G4 (Bh [k] bs) []).set k (Blk.map .Aw tk.ty (.sl u) (Cs tk.ty (.sl u) es key []) none)).length=bs.length:=by simp[Bd,AH]
  rw[zM]at hav Sf;rw[mY]at H1;have Qn:=st'.trans Sf (AQf _);refine⟨.slice none 0 0,w',g1,?_,by rw[hg];exact H1,hav,⟨Qn.os,Qn.tape,Qn.output,Qn.size,Qn.no,Qn.Jd,λb k' p h1 h2 h3=>Qn.BV b k' p h1 h2 (by simpa using h3),Qn.A5⟩⟩;have vD:DX=es.length:=vD;rw[hbe,kH,hw];simp[Instr.mapEntry,underlying,Sp,MapKept.run_getObj_map hh,(K WY).check,hf,hz,MapKept.run_setObj_map _ hh,vM,vD,goInt]
variable {P:Program} {σ:St} {o:Oper} {en:GX} {e:H8}
theorem Am1{t:TypeId}{m x:Operand}(ho:o.op=.mapEntry t m x){ti tk te:TI}(ht:Fp P t ti)(rK:ti.Pb≠0)(Et:Fp P ti.elem te)(K:tk.ty.EF=true->mG P ti.Pb tk.ty)
    (h:Adc σ.Aj tk te (σ.Cr m) (σ.Cr x) some=some e):OA P σ o e:=by
 unfold Adc at h;split at h
 ·rename_i k hm;split at h
  ·rename_i kt u es hb;split at h
   ·rename_i key hx;split at h
    ·rename_i hc;obtain⟨rfl,hvt,WY,hu⟩:=hc;injection h with h;subst h;refine⟨by simp[AH],λh=>(by grind),λa w g BX next Q hn=>?_⟩
     have hAm:=A0 BX m;rw[hm]at hAm;obtain⟨v,w',g',Es,hH,hav,st⟩:=AJa BX.heap hb hx hAm (A0 BX x) ht rK Et hvt WY hu K;have ay:(execOp a.eval o).run P w=.ok (.value (.tuple #[v,.int .i64 (YF _ _ es key)])) w':=by
      simp[execOp,ho,Es]
     unfold Oper.wp;rw[ay];have UN:((Bh [k] σ.Aj).set k (Blk.map .Aw _ _ (Cs _ _ es key (BA _ _ es key)) (some key))++[Blk.row 0 .Aw u (BA _ _ es key)]).length=σ.Aj.length+1:=by simp[AH]
     refine hn _ w' g' hH ?_ st;rw[UN];have hr:=(Cb.iff  rfl).1 hav;exact⟨[v,.int .i64 _],rfl,v,[.int .i64 _],rfl,hr,_,[],rfl,.inr ⟨[.int .i64 _],⟨λ_ h=>(by grind),rfl⟩,rfl⟩,rfl⟩
    ·grind
   ·grind
  ·grind
 ·grind
theorem AkX{w:World}{g:G}{n:Nat}:∀{kt:Ty} {x:kt.V},kt.EF=true->Cb w g n (.AB [] kt x) (FC kt x):=by
 intro kt x hk;have key:∀cs,H9 w (Al g.own []) kt x cs->Cp kt.isAgg cs (FC kt x)->Cb w g n (.AB [] kt x) (FC kt x):=λcs h1 h2=>BD (cs:=cs) rfl ⟨λ_ h=>(by cases h),h1⟩ h2
 match kt,x,hk with
 |.int q,x,_=>exact key [.int q x] rfl rfl
 |.str,x,_=>exact key [.string x] rfl rfl
 |.AG (.int q) (.AG (.int q') .unit),x,_=>exact key [.int q x.1,.int q' x.2.1] ⟨[_],[_],rfl,rfl,[_],[],rfl,rfl,rfl⟩ rfl
theorem Ajk{t:TypeId}{m j v:Operand}(ho:o.op=.entryStore t m j v){ti tk te:TI}(ht:Fp P t ti)(rK:ti.Pb≠0)(K:tk.ty.EF=true->mG P ti.Pb tk.ty)
    (h:Ade σ.Aj tk te (σ.Cr m) (σ.Cr j) (σ.Cr v) some=some e):OA P σ o e:=by
 unfold Ade at h;split at h
 ·rename_i k hm;split at h
  ·rename_i md kt vt es key hb;split at h
   ·rename_i n hj;split at h
    ·rename_i hc;obtain⟨hkt,WY⟩:=hc;subst hkt;obtain⟨hn,hmh,h⟩:n=Int.ofNat (YF tk.ty vt es key)/\Ul tk.ty vt es key=true/\dT σ.Aj tk te (σ.Cr m) (.AB [] tk.ty key) (σ.Cr v) some=some e:=by
      cases hq:W9 tk.ty vt es key n with
      |false=>rw[hq]at h;cases h
      |true =>
       rw[hq,AQp]at h;simp only[W9,AQg,ARd]at hq;exact⟨hq.1,hq.2,h⟩
     obtain⟨s1,s2⟩:=mh h;refine⟨by rw[s2];exact AQf _,λh=>(s1 h).elim,λa w g BX next Q hnx=>?_⟩
     have hAm:=A0 BX m;rw[hm]at hAm h;obtain⟨h1,h2,h3,w',g',Es,hH,st⟩:=AwJ BX.heap hAm (AkX WY) (A0 BX v) ht rK K h;obtain⟨hk,b,OB,hbe⟩:=jC hAm;obtain⟨RZ,b',Hh,DX,ha,Cw,hh,S7,kI⟩:=BX.heap.MP k _ hb;rw[OB]at ha;injection ha with ha;injection ha with ha;subst ha;have hjv:a.eval j=.int .i64 n:=kT (kt:=.int .i64) BX.heap rfl hj (A0 BX j);have Sp:=ht.mp rK;have ay:(execOp a.eval o).run P w=.ok .skip w':=by
      rcases de (K WY) kI key with ⟨J,x,mm,h1',h2',h3',vy,h5',h6',h7',⟨h8,h8b⟩,hf⟩|⟨_,h2',_,_⟩
      ·have hJ:es[J]?=some (key,x.2):=by rw[h1',<-h2']
       have vM:YF tk.ty vt es key=J:=sq hJ (XU WY) vy;rw[vM]at hn;rw[hbe]at Es;simp[Instr.mapUpdate,underlying,Sp,MapKept.run_getObj_map hh,(K WY).check,hf,h3',h8,(K WY).stays,MapKept.run_setObj_map _ hh]at Es;have hJl:J<Hh.size:=by
        have:=A7 (show Hh.toList[J]?=some mm by rw[AQn];exact h3');simpa using this
       have AJN:Hh.findIdx? (λe=>(e.born:Int)==n)=some J:=by
        rw[Array.findIdx?_eq_some_iff_getElem];have hbn:∀i (h:i<Hh.size),Hh[i].born=i:=λi hi=>by
         have tK:i<es.length:=by rw[<-kI.len];simpa using hi
         obtain⟨m',q1,⟨_,q2⟩,_⟩:=kI.get (ARi tK);rw[AQn,AQZ hi]at q1;injection q1 with q1;rw[q1,q2];omega
        refine⟨hJl,by rw[hbn,hn];simp,λi hi=>?_⟩;rw[hbn,hn];simp;omega
       have AhV:Hh.modify J (λe=>{e with val:=a.eval v})=Hh.modify J (λe=>{e with key:=FC tk.ty key,val:=a.eval v}):=by
        apply Array.ext_getElem?;intro i;rw[ARK,ARK];split
        ·rename_i e;subst e;rw[h3'];simp[h8]
        ·rfl
       simp[execOp,ho,hbe,hjv,Instr.entryStore,asInt,asIntOf,MapKept.run_getObj_map hh,AJN,MapKept.run_setObj_map _ hh,AhV,Es]
      ·simp[Ul,h2']at hmh
     unfold Oper.wp;rw[ay];exact hnx undef w' g' hH (by rw[h3];exact RP) st
    ·cases h
   ·cases h
  ·cases h
 ·cases h
end
section
variable {P:Program} {σ:St} {o:Oper}
def Aaj:TypeDesc->Bool
 |.int _=>true
 |.bool=>true
 |.string=>true
 |_=>false
theorem lz{t:TypeId}{d:TypeDesc}(hu:P.underlying t=some d)(hd:Aaj d=true){w:World}{cs:Array Value}{i:Nat}{v:Value}(h:cs[i]?=some v):(part t cs i).run P w=.ok v w:=by
 cases d<;>simp[Aaj]at hd<;>simp[part,isAgg,underlying,hu,h]
theorem Abr(d:Nat)(w:World):∀(t:Ty) (p q:ATO Value) (fs:ATO Field) (u v:t.V) (n:Nat),p.length=n->q.length=n->Xa P t n fs=true->(Op.eqFields (d+1) (p++La t u).toArray (q++La t v).toArray fs).run P w=.ok (QS t u v) w
 |.unit,p,q,[],u,v,n,_,_,_=>by simp[Op.eqFields,QS]
 |.AG a b,p,q,f::fs,u,v,n,hp,hq,h=>by
  simp only[Xa,AQg,ART,ARd]at h;obtain⟨⟨⟨h1,h2⟩,h3⟩,h4⟩:=h;have key:∀(x y:Value) (r:Bool) (dd:TypeDesc),La a u.1=[x]->La a v.1=[y]->P.underlying f.type=some dd->Aaj dd=true ->
      (Op.equalIn (d+1) f.type x y).run P w=.ok r w->r=QS a u.1 v.1->(Op.eqFields (d+1) (p++La (.AG a b) u).toArray (q++La (.AG a b) v).toArray (f::fs)).run P w=.ok (QS (.AG a b) u v) w:=by
   intro x y r dd hx hy hu hd he hr;have ih:=Abr d w b (p++[x]) (q++[y]) fs u.2 v.2 (n+1) (by simp[hp]) (by simp[hq]) h4;have ex:p++La (.AG a b) u=p++[x]++La b u.2:=by simp[La,hx]
   have ey:q++La (.AG a b) v=q++[y]++La b v.2:=by simp[La,hy]
   rw[ex,ey];have px:(part f.type (p++[x]++La b u.2).toArray n).run P w=.ok x w:=lz hu hd (by simp[<-hp]);have py:(part f.type (q++[y]++La b v.2).toArray n).run P w=.ok y w:=lz hu hd (by simp[<-hq]);simp only[Op.eqFields,h1,ne_eq,not_false_eq_true,AQV,Sem.run_bind,h2,px,py,Result.andThen_ok,he];subst hr;cases hq:QS a u.1 v.1 with
   |false=>simp[QS,hq]
   |true=>simp only[AQS,AQX,ARA];rw[ih];simp[QS,hq]
  split at h3
  ·rename_i k k' hu;rw[ARd]at h3;subst h3;exact key _ _ _ _ rfl rfl hu rfl (fT hu d w _ _) rfl
  ·rename_i hu;exact key _ _ _ _ rfl rfl hu rfl (by simp[Op.equalIn,underlying,hu];rfl) rfl
  ·rename_i hu;exact key _ _ _ _ rfl rfl hu rfl (by simp[Op.equalIn,underlying,hu]) xy.symm
  ·cases h3
 |.unit,_,_,_::_,_,_,_,_,_,h=>by simp[Xa]at h
 |.AG _ _,_,_,[],_,_,_,_,_,h=>by simp[Xa]at h
 |.int _,_,_,_,_,_,_,_,_,h=>by simp[Xa]at h
 |.bool,_,_,_,_,_,_,_,_,h=>by simp[Xa]at h
 |.str,_,_,_,_,_,_,_,_,h=>by simp[Xa]at h
 |.sl _,_,_,_,_,_,_,_,_,h=>by simp[Xa]at h
 |.R4 _,_,_,_,_,_,_,_,_,h=>by simp[Xa]at h
theorem oF:∀{t:Ty} {n:Nat} {fs:ATO Field},Xa P t n fs=true->t.BZ=true/\t.isAgg=true
 |.unit,_,[],_=>⟨rfl,rfl⟩
 |.AG a b,n,f::fs,h=>by
  simp only[Xa,AQg]at h;obtain⟨⟨_,h3⟩,h4⟩:=h;have:=(oF h4).1;refine⟨?_,rfl⟩;split at h3<;>first |(cases h3;done)|simp[Ty.BZ,this]
 |.unit,_,_::_,h=>by simp[Xa]at h
 |.AG _ _,_,[],h=>by simp[Xa]at h
 |.int _,_,_,h=>by simp[Xa]at h
 |.bool,_,_,h=>by simp[Xa]at h
 |.str,_,_,h=>by simp[Xa]at h
 |.sl _,_,_,h=>by simp[Xa]at h
 |.R4 _,_,_,h=>by simp[Xa]at h
theorem Am2{Ee:Tab}(ht:gG P Ee=true){op:BinOp}{t yt:TypeId}{x y:Operand}(ho:o.op=.binOp op t x y yt){z:AV}(h:eqS σ.Aj Ee op t (σ.Cr x) (σ.Cr y)=some z):OA P σ o ⟨z,σ.Aj,[]⟩ :=
 .Je <| Mg (s:=λρ=>do eqGuard op t x y (ρ x) (ρ y);binOp op t (ρ x) (ρ y)) (λρ=>by simp[execOp,ho]) λa w g BX=>by
  unfold eqS at h;split at h
  ·rename_i ti hti;split at h
   ·rename_i he;have hT:=Fp.of ht hti;have heq:=hT.eqs he;unfold Ahk at heq;split at heq
    ·rename_i fs hu;simp only[AQg,ARv]at heq;obtain⟨⟨h1,h2⟩,h3⟩:=heq;have hF:P.fieldsOf t=fs:=by simp[Program.fieldsOf,hu]
     obtain⟨AF7,vC⟩:=oF h3;have get:∀(X:Operand) (u:ti.ty.V),rd σ.Aj ti.ty (σ.Cr X)=some u->a.eval X=.agg (La ti.ty u).toArray:=λX u hr=>by
      obtain⟨q1,q2⟩:=WN hr;obtain⟨cs,UA,hv⟩:=B9 q1 q2 (A0 BX X);rw[bG hr,vC]at hv;have:=(H9.BZ AF7).1 (Ri BX.heap _ _ u cs hr UA).1;subst this;exact hv
     have run:∀u v:ti.ty.V,(Op.equalIn 10000 t (.agg (La ti.ty u).toArray) (.agg (La ti.ty v).toArray)).run P w=.ok (QS ti.ty u v) w:=λu v=>by
      rw[show(10000:Nat)=9999+1 from rfl,run_equalIn_struct w 9999 t _ _ (by rw[hF];exact hu) h1,hF];have:=Abr (P:=P) 9998 w ti.ty [] [] fs.toList u v 0 rfl rfl h3;simpa using this
     split at h
     ·split at h
      ·rename_i u v hx hy;injection h with h;subst h;refine⟨.bool (QS ti.ty u v),?_,dv _⟩;simp only[get x u hx,get y v hy,Sem.run_bind,run_eqGuard_agg w .eql t x y _ _ h2,Result.andThen_ok,run_eql_struct,run]
      ·cases h
     ·split at h
      ·rename_i u v hx hy;injection h with h;subst h;refine⟨.bool (!QS ti.ty u v),?_,dv _⟩;simp only[get x u hx,get y v hy,Sem.run_bind,run_eqGuard_agg w .neq t x y _ _ h2,Result.andThen_ok,run_neq_struct,run]
      ·cases h
     ·cases h
    ·cases heq
   ·cases h
  ·cases h
end
structure EnvOk (P:Program) (en:GX):Prop where
 Ee:gG P en.Ee=true
 fns:∀g c,en.fns g=some c->An P g c
theorem EnvOk.aH{P:Program}{en:GX}(h:EnvOk P en):Z7 en:=λg c hc=>(h.fns g c hc).aH
section
variable {P:Program} {σ:St} {o:Oper} {en:GX} {e:H8}
theorem EnvOk.t(he:EnvOk P en){t:Nat}{ti:TI}(h:en.Ee.get t=some ti):Fp P t ti:=Fp.of he.Ee h
theorem om{w:World}{g:G}{a:Act}(hs:LA w g σ a):∀(l:ATO Operand),DV w g σ.Aj.length (l.map σ.Cr) (l.map a.eval)
 |[]=>trivial
 |x::l=>⟨A0 hs x,om hs l⟩
theorem oh{w:World}{g:G}{n:Nat}:∀{l k:ATO AV} {xs ys:ATO Value},DV w g n l xs->DV w g n k ys->DV w g n (l++k) (xs++ys)
 |[],_,[],_,_,h=>h
 |_::_,_,_::_,_,h1,h2=>⟨h1.1,oh h1.2 h2⟩
 |[],_,_::_,_,h,_=>h.elim
 |_::_,_,[],_,h,_=>h.elim
theorem AnU{w:World}{g:G}{n:Nat}:∀{a:AV} {vs:ATO Value},CN w g n true a vs->DV w g n (Abm a) vs
 |.cons a b,_,⟨v,r,e,h1,h2⟩=>by
  subst e;refine⟨?_,AnU h2⟩;have ht:a.Dv=false:=by
   rcases h1 with h |⟨cs,h,_⟩
   ·cases a<;>first |rfl |simp[AV.OL]at h
   ·exact WL h
  exact(Cb.iff ht).2 h1
 |.nil,_,h=>by cases h;trivial
 |.UT _ _ _ _ _,_,h=>h.elim
 |.WM _ _ _ _ _ _,_,h=>h.elim
 |.AB _ _ _,_,h=>h.elim
 |.zs,_,h=>h.elim
 |.AK _,_,h=>h.elim
 |.mp _,_,h=>h.elim
 |.ptr _ _ _ _,_,h=>h.elim
 |.FQ _ _ _,_,h=>h.elim
 |.KG,_,h=>h.elim
 |.pr _ _,_,h=>h.elim
 |.fn _ _,_,h=>h.elim
 |.un _,_,h=>h.elim
theorem Aji(he:EnvOk P en){c:Call}(ho:o.op=.call c){fo:Operand}(hc:c.callee=.value fo){g0:Nat}{ae:AV}(hf:σ.Cr fo=.fn g0 ae){ca:Callee}(hg:en.fns g0=some ca)(h:jL ca σ.Aj (Qi σ c.args++Abm ae) some=some e):OA P σ o e:=by
 obtain⟨h1,h2,h3⟩:=Ac0 (he.fns _ _ hg) h;refine⟨h1,h2,λa w g hs next Q hn=>?_⟩
 have hv:=A0 hs fo;rw[hf]at hv;obtain⟨cs,⟨vs,e1,hx⟩,UA⟩:=B9 rfl rfl hv;have e2 :=by
  subst e1;simpa [AV.isAgg]using UA.symm
 have hr:(execOp a.eval o).run P w=(callFunc g0 (c.args.toList.map a.eval++vs).toArray).run P w:=by
  have:(c.args.toList.map a.eval++vs).toArray=#[]++c.args.map a.eval++vs.toArray:=by
   simp
  rw[this];simp[execOp,ho,resolve,hc,e2,Deferred.ofValue,invoke]
 unfold Oper.wp;rw[hr];exact h3 w g _ hs.heap (oh (om hs _) (AnU hx)) o a next Q hn
theorem oE(he:EnvOk P en){ti:TI}(u:Ty)(h:(match en.Ee.get ti.elem with |some te=>if ti.EA=true then some te.ty else none |none=>none)=some u):ti.EA=true/\∃mL,mL.ty=u/\Fp P ti.elem mL:=by
 split at h
 ·rename_i te Et;split at h
  ·rename_i Jc;injection h with h;exact⟨Jc,te,h,he.t Et⟩
  ·grind
 ·grind
theorem Ajl{t:TypeId}{x i:Operand}(ho:o.op=.indexAddr t x i){ti te:TI}(ht:Fp P t ti)(Et:Fp P ti.elem te)(Jc:ti.EA=true){k:Nat}{i0:Int}{p:ATO Nat}{f e0:Nat}(hx:σ.Cr x=.UT k i0 p f e0){ks:ATO Nat}{kk:IntKind}{j:Int}(hi:σ.Cr i=.AB ks (.int kk) j)
    {ek:Nat} {tr:Ty} {xs:ATO tr.V} (hb:σ.Aj[k]?=some (.row ek .Aw tr xs)) {ys:ATO te.ty.V} (hg:kz (.sl te.ty) p tr (xs.getD i0.toNat tr.zero)=some ys) {x':tr.V} (hs:TU (.sl te.ty) [] p tr (xs.getD i0.toNat tr.zero)=some x')
    (hu:te.ty.size≠0) (oR:Mf tr p=some f) (hj:0<=j/\j<(ys.length:Int)):OA P σ o ⟨.WM k i0 p f j te.ty,σ.Aj,[]⟩ :=
 .Je <| Mg (s:=λρ=>Instr.indexAt t (ρ x) (ρ i)) (λρ=>by simp[execOp,ho]) λa w g BX=>by
  have Yp:=A0 BX x;rw[hx]at Yp;have hii:=A0 BX i;rw[hi]at hii;have hii:=DR hii;obtain⟨cs,⟨hk,h0,h1,b,v,OB,Cw,e1,e2,D2⟩,hval⟩:=B9 rfl rfl Yp;subst e1;have hv:a.eval x=v:=by
   have:[v]=[a.eval x]:=hval
   grind
  obtain⟨g1,H1,Sf,Ado,_,_⟩:=ZG BX.heap hb h1 hg oR hu OB D2 hs;obtain⟨_,hvs⟩:=FE Ado;obtain⟨_,An8,AF5,_,gd⟩:=H1.MP σ.Aj.length (.row 0 .Aw _ ys) (by simp[AH]);have Bw :=XA hj;rcases gd with ⟨ZP,_⟩|⟨b',BG,ds,ha,_⟩
  ·grind
  ·rw[ha,An8]at hvs;have Sp:=BH ht Jc;refine⟨.pointer (some ⟨b',j.toNat*te.ty.size,none⟩),?_,BD  rfl ⟨hk,h0,h1,b,b',_,_,OB,Cw,rfl,⟨hj.1,Bw⟩,by rw[D2,hvs]⟩ (by simp[Cp,AV.isAgg])⟩;rw[hv,hii,hvs];simp[Instr.indexAt,asIntOf,underlying,Sp,hj.1,hj.2,D9 Et,Z9]
theorem lU{t:TypeId}{x i:Operand}(ho:o.op=.indexAddr t x i){ti te:TI}(ht:Fp P t ti)(Et:Fp P ti.elem te)(Jc:ti.EA=true){z:AV}(h:vY σ.Aj te.ty (σ.Cr x) (σ.Cr i) some=some z):OA P σ o ⟨z,σ.Aj,[]⟩:=by
 unfold vY at h;split at h
 ·rename_i k i0 p f e0 ks kk j hx hi;split at h
  ·rename_i ek tr xs hb;split at h
   ·rename_i ys x' hg hs;split at h
    ·rename_i hc;split at h
     ·rename_i hj;injection h with h;subst h;exact Ajl ho ht Et Jc hx hi hb hg hs hc.1 hc.2 hj
     ·grind
    ·grind
   ·grind
  ·grind
 ·exact nP ho ht Et Jc h
theorem eW(he:EnvOk P en)(h:R7 en σ o some=some e):OA P σ o e:=by
 unfold R7 at h
 dsimp only at h
 split at h
 ·rename_i x ho;injection h with h;subst h;exact xk (.inl ho)
 ·rename_i x ho;injection h with h;subst h;exact xk (.inr ho)
 ·rename_i c a b ho;split at h
  ·rename_i ks t hc;have:=Aju (P:=P) ho hc;cases t
   ·injection h with h;subst h;exact this
   ·injection h with h;subst h;exact this
  ·cases h
 ·rename_i el ho;split at h
  ·rename_i ti ht;injection h with h;subst h;exact Aea ho (he.t ht)
  ·cases h
 ·rename_i el x ho;split at h
  ·rename_i ht;injection h with h;subst h;exact AmZ ho ht
  ·cases h
 ·rename_i t GR ho;split at h
  ·rename_i ti ht;split at h
   ·cases h
   ·rename_i oR;split at h
    ·rename_i v hv;injection h with h;subst h;exact Aec ho (he.t ht) (λe=>oR (by rw[e];rfl)) hv
    ·cases h
  ·cases h
 ·rename_i t len GR ho;split at h
  ·rename_i ti ht;split at h
   ·rename_i te Et;split at h
    ·rename_i m xs rs hp;split at h
     ·rename_i hc;obtain⟨h1,h2⟩:=lR ho (he.t ht) (he.t Et) hp hc;split at h
      ·rename_i h0;injection h with h;subst h;exact h1 h0
      ·rename_i h0;injection h with h;subst h;exact h2 h0
     ·cases h
    ·cases h
   ·cases h
  ·cases h
 ·rename_i t x ho;split at h
  ·rename_i ti ht;split at h
   ·split at h
    ·rename_i Jc;exact Aej ho (he.t ht) Jc h
    ·cases h
   ·obtain⟨z,hz,rfl⟩:=Yz (f:=λR K=>aG σ.Aj ti (σ.Cr x) K) (λR K=>pj ..) (g:=λv=>⟨v,σ.Aj,[]⟩) h;exact Ajo ho (he.t ht) hz
  ·cases h
 ·rename_i t r ho;split at h
  ·rename_i ti ht;split at h
   ·cases h
   ·rename_i hr;split at h
    ·rename_i tk te aB Et;split at h
     ·injection h with h;subst h;have:r=none:=by cases r<;>simp_all
      subst this;exact xj ho (VA _ _)
     ·cases h
    ·cases h
  ·cases h
 ·rename_i t m x ok ho;split at h
  ·rename_i ti ht;split at h
   ·rename_i tk te aB Et;split at h
    ·rename_i hc;split at h
     ·split at h
      ·cases h
      ·rename_i ga;have:ok=false:=by simpa using ga
       subst this;exact Aeh ho (he.t ht) hc.1 (he.t Et) hc.2.1 (λhk=>mG.of he.Ee (he.t aB) hk hc.2.2) h
     ·obtain⟨z,hz,rfl⟩:=Yz (f:=λR K=>gp σ.Aj tk te ok (σ.Cr m) (σ.Cr x) K) (λR K=>pn ..) (g:=λv=>⟨v,σ.Aj,[]⟩) h;exact Ajp ho (he.t ht) hc.1 (he.t Et) hc.2.1 (λhk=>mG.of he.Ee (he.t aB) hk hc.2.2) hz
    ·cases h
   ·cases h
  ·cases h
 ·rename_i t m x v ho;split at h
  ·rename_i ti ht;split at h
   ·rename_i tk te aB Et;split at h
    ·rename_i hc;exact Acd (.inl ho) (he.t ht) hc.1 (λhk=>mG.of he.Ee (he.t aB) hk hc.2.2) h
    ·cases h
   ·cases h
  ·cases h
 ·rename_i t m x v ho;split at h
  ·rename_i ti ht;split at h
   ·rename_i tk te aB Et;split at h
    ·rename_i hc;exact Acd (.inr ho) (he.t ht) hc.1 (λhk=>mG.of he.Ee (he.t aB) hk hc.2.2) h
    ·cases h
   ·cases h
  ·cases h
 ·rename_i t m x ho;split at h
  ·rename_i ti ht;split at h
   ·rename_i tk te aB Et;split at h
    ·rename_i hc;exact Am1 ho (he.t ht) hc.1 (he.t Et) (λhk=>mG.of he.Ee (he.t aB) hk hc.2) h
    ·cases h
   ·cases h
  ·cases h
 ·rename_i t m x v ho;split at h
  ·rename_i ti ht;split at h
   ·rename_i tk te aB Et;split at h
    ·rename_i hc;exact Ajk ho (he.t ht) hc.1 (λhk=>mG.of he.Ee (he.t aB) hk hc.2) h
    ·cases h
   ·cases h
  ·cases h
 ·rename_i t x v ho;split at h
  ·rename_i ti ht;exact Aek ho (he.t ht) h
  ·cases h
 ·rename_i x ho;split at h
  ·rename_i k i p q hx;injection h with h;subst h;rw[<-hx];exact dP ho λw g n v hv=>by rw[hx]at hv;exact sx hv
  ·rename_i ks t y hx;injection h with h;subst h;rw[<-hx];exact dP ho λw g n v hv=>by rw[hx]at hv;exact sy hv
  ·cases h
 ·rename_i op t x y yt ho;split at h
  ·rename_i z hz;injection h with h;subst h;exact Am2 he.Ee ho hz
  obtain⟨z,hz,rfl⟩:=Yz (f:=λR K=>qG op (match en.Ee.get t with |some ti=>ti.ty==.bool |none=>false) (σ.Cr x) (σ.Cr y) K) (λR K=>uw ..) (g:=λv=>⟨v,σ.Aj,[]⟩) h
  refine Aeb ho (λhb=>?_) hz;split at hb
  ·rename_i ti ht;exact zk (he.t ht) (by simpa using hb)
  ·cases hb
 ·rename_i op t x ho;obtain⟨z,hz,rfl⟩:=Yz (f:=λR K=>unA op (σ.Cr x) K) (λR K=>Acj ..) (g:=λv=>⟨v,σ.Aj,[]⟩) h;exact Ajv ho hz
 ·rename_i s t x ho;split at h
  ·rename_i ts ti aC ht;obtain⟨z,hz,rfl⟩:=Yz (f:=λR K=>cM σ.Aj (match en.Ee.get ts.elem with |some te=>if ts.EA=true then some te.ty else none |none=>none) ti.ty (σ.Cr x) K) (λR K=>ow ..) (g:=λv=>⟨v,σ.Aj,[]⟩) h
   exact xh ho (he.t aC) (he.t ht) (oE he) hz
  ·cases h
 ·rename_i fn first ae ho
  split at h
  ·split at h
   ·rename_i h0;injection h with h;subst h;exact sO ho h0
   ·cases h
  ·cases h
 ·rename_i t l c ho;split at h
  ·rename_i ti ht;split at h
   ·rename_i te Et;split at h
    ·rename_i Jc;exact Ajq ho (he.t ht) (he.t Et) Jc h
    ·cases h
   ·cases h
  ·cases h
 ·rename_i t x lo hi mx ho;split at h
  ·rename_i d ti hd ht;split at h
   ·split at h
    ·split at h
     ·rename_i Jc;split at h
      ·rename_i te Et;exact Am0 ho (he.t ht) Jc (he.t Et) h
      ·cases h
     ·cases h
    ·cases h
   ·obtain⟨z,hz,rfl⟩:=Yz (f:=λR K=>X3 σ.Aj ti (match en.Ee.get ti.elem with |some te=>if ti.EA=true then some te.ty else none |none=>none) (σ.Cr x) (lo.map σ.Cr) (hi.map σ.Cr) (mx.map σ.Cr) K) (λR K=>lO ..) (g:=λv=>⟨v,σ.Aj,[]⟩) h
    exact Aei ho (he.t ht) (oE he) hz
  ·cases h
 ·rename_i t x f ho;split at h
  ·rename_i ti ht;obtain⟨z,hz,rfl⟩:=Yz (f:=λR K=>nc ti f (σ.Cr x) K) (λR K=>vn ..) (g:=λv=>⟨v,σ.Aj,[]⟩) h;exact nO ho (he.t ht) hz
  ·cases h
 ·rename_i t x i ho;split at h
  ·rename_i ti ht;split at h
   ·rename_i te Et;split at h
    ·rename_i Jc;obtain⟨z,hz,rfl⟩:=Yz (f:=λR K=>vY σ.Aj te.ty (σ.Cr x) (σ.Cr i) K) (λR K=>vZ ..) (g:=λv=>⟨v,σ.Aj,[]⟩) h;exact lU ho (he.t ht) (he.t Et) Jc hz
    ·cases h
   ·cases h
  ·cases h
 ·rename_i t x i ho;split at h
  ·rename_i ti ht;split at h
   ·rename_i hs;obtain⟨z,hz,rfl⟩:=Yz (f:=λR K=>qS (σ.Cr x) (σ.Cr i) K) (λR K=>uP ..) (g:=λv=>⟨v,σ.Aj,[]⟩) h;exact Aeg ho (he.t ht) hs hz
   ·cases h
  ·cases h
 ·rename_i x i ho;split at h
  ·rename_i v hv;split at h
   ·cases h
   ·rename_i ht;injection h with h;subst h;exact xi ho hv (by simpa using ht)
  ·cases h
 ·rename_i c ho;unfold Xc at h;split at h
  ·rename_i hc;split at h
   ·rename_i x t r hx aC;split at h
    ·rename_i ti ht;obtain⟨z,hz,rfl⟩:=Yz (f:=λR K=>sc σ.Aj ti x K) (λR K=>wz ..) (g:=λv=>⟨v,σ.Aj,[]⟩) h;exact Am3 ho hc hx aC (he.t ht) hz
    ·cases h
   ·cases h
  ·rename_i hc;split at h
   ·rename_i x y hx;obtain⟨z,hz,rfl⟩:=Yz (f:=λR K=>mmA false x y K) (λR K=>iU ..) (g:=λv=>⟨v,σ.Aj,[]⟩) h;exact Ajr (mx:=false) ho hc hx hz
   ·cases h
  ·rename_i hc;split at h
   ·rename_i x y hx;obtain⟨z,hz,rfl⟩:=Yz (f:=λR K=>mmA true x y K) (λR K=>iU ..) (g:=λv=>⟨v,σ.Aj,[]⟩) h;exact Ajr (mx:=true) ho hc hx hz
   ·cases h
  ·rename_i hc;split at h
   ·rename_i x y t tx hx aC;split at h
    ·rename_i ti fL ht yl;split at h
     ·rename_i te Et;split at h
      ·rename_i hk;rw[AQg]at hk;exact Aas ho hc hx aC (he.t ht) (he.t Et) hk.1 (he.t yl) hk.2 h
      ·split at h
       ·rename_i hk;rw[AQg]at hk;exact xg ho hc hx aC (he.t ht) (he.t Et) hk.1 (he.t yl) hk.2 h
       ·cases h
     ·cases h
    ·cases h
   ·cases h
  ·cases h
  ·rename_i fo hc;split at h
   ·rename_i g0 ae hf;split at h
    ·rename_i ca hg;exact Aji he ho hc hf hg h
    ·cases h
   ·cases h
  ·cases h
 ·cases h
theorem Ahu{e':H8}{t:Ty}(h:OA P σ o e)(hf:Amd σ.Aj.length t e=some e'):OA P σ o e':=by
 unfold Amd at hf;split at hf
 ·rename_i x hr;split at hf
  ·rename_i hN;injection hf with hf;subst hf;have hZ:∀k∈(e.val.Vx e.Aj).filter (λk=>!decide (k<σ.Aj.length)),σ.Aj.length<=k:=λk hk=>by
    have:=(List.mem_filter.1 hk).2;simpa using this
   refine⟨by rw[Bd];exact h.grow,λhm=>?_,λa w g hs next Q hn=>h.wp a w g hs next Q λv w' g' H hv st=>?_⟩
   ·obtain⟨l,hl⟩:=h.ext hm;simp only;generalize (e.val.Vx e.Aj).filter (λk=>!decide (k<σ.Aj.length))=Z at hZ;rw[hl];exact wv Z _ _ hZ
   ·generalize hZe:(e.val.Vx e.Aj).filter (λk=>!decide (k<σ.Aj.length))=Z at hZ hn;refine hn v w' (g'.X9 Z) (Adk H hN Z) ?_ ⟨st.os,st.tape,st.output,st.size,λb hb h=>?_,λb h=>?_,λb k p h hk hm=>?_,λk hk=>st.A5 k hk⟩
    ·rw[Bd];obtain⟨h1,h2⟩:=WN hr;obtain⟨cs,UA,hv⟩:=B9 h1 h2 hv;obtain⟨nq,Bw⟩:=Ri H t e.val x cs hr UA;refine BD (a:=.AB _ t x) rfl ⟨λk hk=>Bw k (List.mem_filter.1 hk).1,nq.mono λb a=>⟨a.RU.mono λk hk=>?_,rfl⟩⟩ (by rw[show(AV.AB _ t x).isAgg=e.val.isAgg from(bG hr).symm];exact hv);subst hZe;simp only[List.mem_filter,ARv,AQ0,ARo]at hk⊢;refine⟨hk.1,?_⟩;rcases AQk k σ.Aj.length with h |h
     ·exact h
     ·exact absurd ⟨hk.1,by omega⟩ hk.2
    ·have:=st.no b hb h;exact⟨by simp[G.X9,this.1],this.2⟩
    ·have:=st.Jd b h;exact⟨rF this.1,this.2⟩
    ·have:=st.BV b k p h hk hm;exact⟨QT this.1 λhz=>by have:=hZ k hz;omega,this.2⟩
  ·cases hf
 ·cases hf
def G.sha(g:G)(k:Nat):G:=⟨λb=>match g.own b with |.BV j r=>if j=k/\r≠[]then .Jd else .BV j r |t=>t,g.A5⟩
theorem J9.rdS{w:World}{own:Nat->Vf}{k:Nat}{A:Nat->Prop}(h:∀b q,q≠[]->own b=.BV k q->A b):∀{t:Ty} {L:ATO Nat} {x:t.V} {cs:ATO Value},L≠[]->J9 w own k t L x cs->H9 w A t x cs
 |.int _,_,_,_,_,r=>r
 |.bool,_,_,_,_,r=>r
 |.str,_,_,_,_,r=>r
 |.unit,_,_,_,_,r=>r
 |.AG _ _,_,_,_,_,⟨c,d,e,r1,r2⟩=>⟨c,d,e,J9.rdS h (by simp) r1,J9.rdS h (by simp) r2⟩
 |.sl t,L,xs,cs,hL,⟨ad,cap,e,r⟩=>by
  rcases r with ⟨hx,fb⟩|⟨b,e1,BG,ds,ha,ho,hh,h1,h2,h3,h4,hc⟩
  ·subst hx;exact⟨ad,cap,[],e,by simp,rfl,.inl rfl⟩
  ·refine⟨ad,cap,ds,e,h1,hc.toR λi x c r=>J9.rdS h (by simp) r,.inr ⟨b,0,ha,h b L hL ho,λj q hq=>?_⟩⟩;rw[QO hh,AQF,<-AQn];subst h4;rw[AQ8]at hq;split at hq
   ·exact hq
   ·cases hq
 |.R4 _,_,_,_,_,r=>r.elim
theorem Ad5{e':H8}(h:OA P σ o e)(hf:Ab8 σ.Aj.length e=some e'):OA P σ o e':=by
 unfold Ab8 at hf;split at hf
 ·rename_i k hval;split at hf
  ·rename_i hk;split at hf
   ·rename_i el t xs hb;injection hf with hf;subst hf;refine⟨by simpa using h.grow,λhm=>?_,λa w g hs next Q hn=>h.wp a w g hs next Q λv w' g' H hv st=>?_⟩
    ·obtain⟨l,hl⟩:=h.ext hm;simp only;rw[hl,ARy _ _ hk];exact⟨_,rfl⟩
    ·have hal:∀{ks:ATO Nat} {b:Nat},Al g'.own ks b->Al (g'.sha k).own ks b:=λ{ks b} ha=>by
       rcases ha with ha |⟨j,hj,r,ha⟩
       ·exact .inl (by simp[G.sha,ha])
       ·by_cases hc:j=k/\r≠[]
        ·exact .inl (by simp[G.sha,ha,hc])
        ·exact .inr ⟨j,hj,r,by simp only[G.sha,ha,AQs hc]⟩
     have R9:∀{b j:Nat},g'.own b=.BV j []->(g'.sha k).own b=.BV j []:=λ{b j} h=>by simp[G.sha,h]
     have hav:∀(a:AV) (m:Bool) {cs:ATO Value},CN w' g' e.Aj.length m a cs->CN w' (g'.sha k) e.Aj.length m a cs:=by
      intro a;induction a with
      |AB ks t x=>intro m cs hx;cases m with
       |false=>exact⟨hx.1,hx.2.mono λb a=>⟨hal a,rfl⟩⟩
       |true=>exact hx.elim
      |FQ ks t x=>intro m cs hx;cases m with
       |false =>
        obtain⟨hk,b,off,ds,e,ha,r,hc⟩:=hx;exact⟨hk,b,off,ds,e,hal ha,r.mono λb a=>⟨hal a,rfl⟩,hc⟩
       |true=>exact hx.elim
      |UT k i p o e=>intro m cs hx;cases m with
       |false =>
        obtain⟨hk,h0,h1,b,v,ha,ho,e1,e2,hc⟩:=hx;exact⟨hk,h0,h1,b,v,ha,R9 ho,e1,e2,hc⟩
       |true=>exact hx.elim
      |WM k i p o j u=>intro m cs hx;cases m with
       |false =>
        obtain⟨hk,h0,h1,b,b',l,c,ha,ho,e1,e2,hc⟩:=hx;exact⟨hk,h0,h1,b,b',l,c,ha,R9 ho,e1,e2,hc⟩
       |true=>exact hx.elim
      |pr a b iha ihb=>intro m cs hx;cases m with
       |false =>
        obtain⟨c,d,e,h1,h2⟩:=hx;exact⟨c,d,e,iha false h1,ihb false h2⟩
       |true=>exact hx.elim
      |fn f c ih=>intro m cs hx;cases m with
       |false =>
        obtain⟨vs,e,hx⟩:=hx;exact⟨vs,e,ih true hx⟩
       |true=>exact hx.elim
      |cons a b iha ihb=>intro m cs hx;cases m with
       |true =>
        obtain⟨v,r,e,h1,h2⟩:=hx;exact⟨v,r,e,h1.imp id λ⟨cs,hx,hv⟩=>⟨cs,iha false hx,hv⟩,ihb true h2⟩
       |false=>exact hx.elim
      |_=>intro m cs hx;cases m<;>exact hx
     refine hn v w' (g'.sha k) ⟨λb hb=>by simp[G.sha,H.B7 b hb],λj x hx=>?_⟩ ?_ ⟨st.os,st.tape,st.output,st.size,λb hb h=>?_,λb h=>?_,λb j p h hj hm=>?_,λj hj=>st.A5 j hj⟩
     ·rw[AQi];rw[AQy]at hx;split at hx
      ·rename_i ek;subst ek;split at hx
       ·injection hx with hx;subst hx;obtain⟨RZ,hlen,QL,B5,hr⟩:=H.MP k _ hb;cases hfl:t.BZ with
        |true=>exact⟨hfl,hlen,QL,B5,hr.imp id λ⟨b,BG,ds,ha,ho,hh,h1,h2,h3,h4,hc⟩=>⟨b,0,BG,ds,ha,R9 ho,hh,h1,h2,by rw[AQF];exact h3,h4,D8.2 ((D8.1 hc).mono λi x c h=>(UI.BZ hfl).2 ((UI.BZ hfl).1 h))⟩⟩
        |false =>
        refine⟨λj hj=>(by cases hj),hlen,QL,B5,hr.imp id λ⟨b,BG,ds,ha,ho,hh,h1,h2,h3,h4,hc⟩=>⟨b,BG,ds,ha,R9 ho,hh,h1,h2,h3,h4,?_⟩⟩;exact hc.toR λi x c r=>J9.rdS (λb q hq hb=>.inl (by simp[G.sha,hb,hq])) (by simp) r
       ·cases hx
      ·rename_i MO;have hB:=H.MP j x hx;cases x with
       |Bg=>trivial
       |map m kt vt es st =>
        obtain⟨RZ,b,Hh,DX,ha,ho,hh,S7,hm⟩:=hB;refine⟨RZ,b,Hh,DX,ha,R9 ho,hh,S7,hm.on λi x c r=>?_⟩;cases m with
        |Aw =>
         refine J9.mono (λb q hb=>⟨?_,rfl⟩) r;have:¬(j=k/\q++[i]≠[]):=λhq=>MO hq.1.symm;show(match g'.own b with |.BV j r=>if j=k/\r≠[]then Vf.Jd else .BV j r |t=>t)=_
         rw[hb];exact AQs this
        |sh ks=>exact H9.mono (λb a=>⟨hal a,rfl⟩) r
       |R1 e2 t xs i p =>
        obtain⟨h1,h2,h3,h4,h5,u,o,x0,b,BG,ds,q1,q2,q3,ha,ho,hh,c1,c2,c3,c4,hc⟩:=hB;refine⟨h1,h2,h3,h4,h5,u,o,x0,b,BG,ds,q1,q2,q3,ha,R9 ho,hh,c1,c2,c3,c4,hc.mono λi x c r=>r.mono λb q hb=>⟨?_,rfl⟩⟩;have:¬(j=k/\q++[i]≠[]):=λhq=>MO hq.1.symm;show(match g'.own b with |.BV j r=>if j=k/\r≠[]then Vf.Jd else .BV j r |t=>t)=_
        rw[hb];exact AQs this
       |tail e2 t xs =>
        obtain⟨hfl,hlen,QL,B5,hr⟩:=hB;exact⟨hfl,hlen,QL,B5,hr.imp id λ⟨b,o,BG,ds,ha,ho,hh,h1,h2,h3,h4,hc⟩=>⟨b,o,BG,ds,ha,R9 ho,hh,h1,h2,h3,h4,D8.2 ((D8.1 hc).mono λi x c h=>(UI.BZ hfl).2 ((UI.BZ hfl).1 h))⟩⟩
       |box a =>
        obtain⟨h1,b,cs,e,ha,ho,hh,hx⟩:=hB;exact⟨h1,b,cs,e,ha,R9 ho,hh,hav a false hx⟩
       |row e2 m t xs =>
        obtain⟨RZ,hlen,QL,B5,hr⟩:=hB;refine⟨RZ,hlen,QL,B5,hr.imp id λ⟨b,BG,ds,ha,ho,hh,h1,h2,h3,h4,hc⟩=>⟨b,BG,ds,ha,R9 ho,hh,h1,h2,h3,h4,?_⟩⟩;cases m with
        |Aw =>
         refine hc.mono λi x c r=>r.mono λb q hb=>⟨?_,rfl⟩;have:¬(j=k/\q++[i]≠[]):=λhq=>MO hq.1.symm;show(match g'.own b with |.BV j r=>if j=k/\r≠[]then Vf.Jd else .BV j r |t=>t)=_
         rw[hb];exact AQs this
        |sh ks=>exact hc.mono λx c r=>r.mono λb a=>⟨hal a,rfl⟩
     ·rw[AQi];rw[hval]at hv;obtain⟨hk1,iN⟩:=FE hv;rw[iN];exact BD (cs:=[_]) rfl ⟨hk1,rfl⟩ rfl
     ·have:=st.no b hb h;exact⟨by simp[G.sha,this.1],this.2⟩
     ·have:=st.Jd b h;exact⟨by simp[G.sha,this.1],this.2⟩
     ·have:=st.BV b j p h hj hm;have MO:¬(j=k/\p≠[]):=λhq=>by have:=hq.1;omega
      exact⟨by simp only[G.sha,this.1,AQs MO],this.2⟩
   ·cases hf
  ·cases hf
 ·cases hf
theorem Ajs{t:TypeId}{x:Operand}(ho:o.op=.load t x){ti:TI}(ht:Fp P t ti)(Jc:ti.EA=true){k:Nat}{i:Int}{p:ATO Nat}{f e0:Nat}(hx:σ.Cr x=.ptr k i p f){el:Nat}{tr:Ty}{xs:ATO tr.V}(hb:σ.Aj[k]?=some (.row el .Aw tr xs)){v:AV}(U8:atP σ.Aj k i p f=some v)(Nt:v.size=1):OA P σ o ⟨.UT k i p f e0,σ.Aj,[]⟩ :=
 .Je <| Mg (s:=λρ=>Instr.loadAt t (ρ x)) (λρ=>by simp[execOp,ho]) λa w g BX=>by
  have Yp:=A0 BX x;rw[hx]at Yp;obtain⟨hk,h0,h1,b,OB,hpe⟩:=LX Yp;obtain⟨RZ,hlen,QL,B5,hr⟩:=BX.heap.MP k _ hb;obtain⟨cs,np,D2⟩:=W2 BX.heap U8 h1 OB;have Y3:ti.ty.size=1/\ti.ty.isAgg=false:=by
   unfold TI.EA at Jc;split at Jc
   ·rename_i u hu;rw[hu];exact⟨rfl,rfl⟩
   ·cases Jc
  have hl:cs.length=ti.ty.size:=by rw[np.len,Nt,Y3.1]
  obtain⟨v1,iN,tM⟩:=TP (w:=w) ht hl D2 (λhg=>by rw[hl];exact Y3.1);rw[Y3.2]at tM;have UA:cs=[v1]:=tM;subst UA;rcases hr with ⟨ZP,_⟩|⟨b',BG,ds,ha,Cw,_⟩
  ·rw[hlen,ZP]at h1;simp at h1
  ·rw[OB]at ha;injection ha with ha;injection ha with ha;subst ha;refine⟨v1,by rw[hpe];simp[Instr.loadAt,Instr.sureAddr,iN],BD (cs:=[v1]) rfl ⟨hk,h0,h1,b,v1,OB,Cw,rfl,np.one v1 (by simp),?_⟩ rfl⟩;have:=D2 0 v1 rfl;simpa using this
theorem Ab0{w:World}{g:G}{n k:Nat}{i:Int}{p:ATO Nat}{e b:Nat}(hk:k<n)(h0:0<=i)(h1:i.toNat<(g.A5 k).len)(OB:(g.A5 k).a=some ⟨b,0,none⟩)(Cw:g.own b=.BV k []){A:Nat->Prop} :
    ∀{t:Ty} {x:t.V} {f o:Nat} {z:AV} {cs:ATO Value},lr k i p e t x f o=some z->H9 w A t x cs->(∀j u,cs[j]?=some u->w.cell? ⟨b,i.toNat*(g.A5 k).oI+o+j,none⟩=some u)->CN w g n false z cs/\z.isAgg=t.isAgg/\z.Dv=false
 |.unit,x,f,o,z,cs,h,hr,_=>by
  simp only[lr,AQb]at h;subst h;exact⟨⟨λk hk=>(by cases hk),hr⟩,rfl,rfl⟩
 |.AG a c,x,f,o,z,cs,h,⟨c1,c2,ecs,r1,r2⟩,hc=>by
  simp only[lr]at h;split at h
  ·rename_i r hrr;have UN:=r1.len;obtain⟨ih,_,_⟩:=Ab0 hk h0 h1 OB Cw hrr r2 (λj u hu=>by
    have:=hc (c1.length+j) u (by rw[ecs,AQv (by omega)];rw[show c1.length+j-c1.length=j by omega];exact hu);rw[<-this];congr 2;omega)
   split at h
   ·rename_i Jc;injection h with h;subst h;obtain⟨ad,n0,cap,e1⟩:∃ad n0 cap,c1=[.slice ad n0 cap]:=by
     cases a with
     |sl u=>obtain⟨ad,cap,ds,e1,_⟩:=r1;exact⟨_,_,_,e1⟩
     |_=>cases Jc
    refine⟨⟨c1,c2,ecs,⟨hk,h0,h1,b,_,OB,Cw,e1,rfl,?_⟩,ih⟩,rfl,rfl⟩;have:=hc 0 _ (by rw[ecs,e1];rfl);simpa using this
   ·split at h
    ·rename_i hf;injection h with h;subst h;exact⟨⟨c1,c2,ecs,⟨λk hk=>(by cases hk),(H9.BZ hf).2 ((H9.BZ hf).1 r1)⟩,ih⟩,rfl,rfl⟩
    ·cases h
  ·cases h
 |.int _,_,_,_,_,_,h,_,_=>by simp[lr]at h
 |.bool,_,_,_,_,_,h,_,_=>by simp[lr]at h
 |.str,_,_,_,_,_,h,_,_=>by simp[lr]at h
 |.sl _,_,_,_,_,_,h,_,_=>by simp[lr]at h
 |.R4 _,_,_,_,_,_,h,_,_=>by simp[lr]at h
theorem Ajt{t:TypeId}{x:Operand}(ho:o.op=.load t x){ti:TI}(ht:Fp P t ti){k:Nat}{i:Int}{p:ATO Nat}{f e0:Nat}(hx:σ.Cr x=.ptr k i p f){el:Nat}{tr:Ty}{xs:ATO tr.V}(hb:σ.Aj[k]?=some (.row el .Aw tr xs)){ks:ATO Nat}{t':Ty}{y:t'.V}(U8:atP σ.Aj k i p f=some (.AB ks t' y))(iM:t'=ti.ty){z:AV}(hz:lr k i p e0 t' y 0 f=some z):OA P σ o ⟨z,σ.Aj,[]⟩ :=
 .Je <| Mg (s:=λρ=>Instr.loadAt t (ρ x)) (λρ=>by simp[execOp,ho]) λa w g BX=>by
  subst iM;have Yp:=A0 BX x;rw[hx]at Yp;obtain⟨hk,h0,h1,b,OB,hpe⟩:=LX Yp;obtain⟨RZ,hlen,QL,B5,hr⟩:=BX.heap.MP k _ hb;obtain⟨cs,np,D2⟩:=W2 BX.heap U8 h1 OB;have hl:cs.length=ti.ty.size:=np.len;obtain⟨v1,iN,tM⟩:=TP (P:=P) (w:=w) ht hl D2 (λhg=>by rw[hl];exact TV hg);rcases hr with ⟨ZP,_⟩|⟨b',BG,ds,ha,Cw,_⟩
  ·rw[hlen,ZP]at h1;simp at h1
  ·rw[OB]at ha;injection ha with ha;injection ha with ha;subst ha;obtain⟨h2,h3,h4⟩:=Ab0 hk h0 h1 OB Cw hz np.2 D2;exact⟨v1,by rw[hpe];simp[Instr.loadAt,Instr.sureAddr,iN],BD h4 h2 (by rw[h3];exact tM)⟩
theorem AfN(he:EnvOk P en){v:AV}(h:jA en σ o=some v):OA P σ o ⟨v,σ.Aj,[]⟩:=by
 unfold jA at h;split at h
 ·rename_i t x ho;split at h
  ·cases h
  ·rename_i d hd;split at h
   ·rename_i e ti k i p f _ ht hxp;split at h
    ·rename_i el tr xs v0 hb U8;split at h
     ·rename_i hc;injection h with h;subst h;exact Ajs ho (he.t ht) hc.1 hxp hb U8 hc.2
     ·split at h
      ·rename_i ks t' y AFR;split at h
       ·rename_i iM;exact Ajt ho (he.t ht) hxp hb U8 iM h
       ·cases h
      ·cases h
    ·cases h
   ·cases h
 ·rename_i t GR ho;split at h
  ·rename_i ti ht;split at h
   ·cases h
   ·rename_i hn;split at h
    ·rename_i te Et;split at h
     ·rename_i iM;exact sM ho (he.t ht) (he.t Et) hn iM h
     ·cases h
    ·cases h
  ·cases h
 ·rename_i t x i ho;split at h
  ·rename_i ti ht;split at h
   ·cases h
   ·rename_i hn;split at h
    ·rename_i te Et;split at h
     ·rename_i ks kk j hi;split at h
      ·rename_i hj;split at h
       ·rename_i v' hv;split at h
        ·rename_i Nt;injection h with h;subst h;exact sN ho (he.t ht) (he.t Et) hn hi hj hv Nt
        ·cases h
       ·cases h
      ·cases h
     ·cases h
    ·cases h
  ·cases h
 ·rename_i t x f ho;split at h
  ·rename_i ti ht;split at h
   ·rename_i fo u v' hfo hu hv;split at h
    ·rename_i hc;injection h with h;subst h;exact Aee ho (he.t ht) hfo hu hv hc
    ·cases h
   ·cases h
  ·cases h
 ·rename_i c ho;split at h
  ·rename_i t r hc hx aC;split at h
   ·rename_i ti ht;split at h
    ·rename_i hs;injection h with h;subst h;exact Aed ho hc hx aC (he.t ht) hs
    ·cases h
   ·cases h
  ·cases h
 ·rename_i t x i ho;split at h
  ·rename_i ti ht;split at h
   ·cases h
   ·rename_i hn;split at h
    ·rename_i te Et;split at h
     ·rename_i ks kk j hi;split at h
      ·rename_i hj;exact fH ho (he.t ht) (he.t Et) hn hi hj.1 hj.2 h
      ·cases h
     ·cases h
    ·cases h
  ·cases h
 ·cases h
theorem Aat{t:TypeId}{x v:Operand}(ho:o.op=.store t x v){ti:TI}(ht:Fp P t ti){k:Nat}{i:Int}{p:ATO Nat}{f:Nat}{j:Int}{u:Ty}(hx:σ.Cr x=.WM k i p f j u)(h:AaA σ.Aj ti k i p f j u (σ.Cr v)=some e):OA P σ o e:=by
 unfold AaA at h;split at h
 ·rename_i ek tr xs hb;split at h
  ·rename_i ys hg;split at h
   ·rename_i y aB;split at h
    ·rename_i y' iP;split at h
     ·rename_i x' H6;split at h
      ·rename_i hc;obtain⟨iM,oR,hu,AKr,AJ7,YG⟩:=hc;injection h with h;subst h;have rI:=A7 hb;have zM:((Bh [k] σ.Aj).set k Blk.Bg++[Blk.row 0 .Aw u ys]).length=σ.Aj.length+1:=by simp[AH]
       refine⟨by simp only[AQi,AH,Bd,zM];omega,λhm=>by simp at hm,λa w g BX next Q hn=>?_⟩
       have Yp:=A0 BX x;rw[hx]at Yp;obtain⟨cs,⟨hk,h0,h1,b,b',l,c,OB,Cw,e1,oO,D2⟩,hval⟩:=B9 rfl rfl Yp;subst e1;have hpv:a.eval x=.pointer (some ⟨b',j.toNat*u.size,none⟩):=by
        have:[Value.pointer (some ⟨b',j.toNat*u.size,none⟩)]=[a.eval x]:=hval;injection this with h _;exact h.symm
       obtain⟨g1,H1,Sf,Ado,bm,_⟩:=ZG BX.heap hb h1 hg oR hu OB D2 H6;have hN:((Bh [k] σ.Aj).set k Blk.Bg++[Blk.row 0 .Aw u ys])[σ.Aj.length]?=some (.row 0 .Aw u ys):=by rw[AQv (by simp[AH])];simp[AH]
       obtain⟨_,hvs⟩:=FE Ado;injection hvs with ha1 UN _;obtain⟨_,An8,AF5,_,_⟩:=H1.MP σ.Aj.length (.row 0 .Aw u ys) hN;have AKe:Cb w g1 (σ.Aj.length+1) (.ptr σ.Aj.length j [] 0) (.pointer (some ⟨b',j.toNat*u.size,none⟩)):=by
        have:=fv (w:=w) (g:=g1) (n:=σ.Aj.length+1) (p:=[]) (o:=0) (AQP σ.Aj.length) oO.1 (by rw[<-UN];exact oO.2) ha1.symm;rwa [AF5,AR3]at this
       have iN:Cb w g1 (σ.Aj.length+1) (σ.Cr v) (a.eval v):=by
        have:=(A0 BX v).step Sf (AQK _);rwa [OV λq hq=>by
         simp only[List.contains_eq_mem,AQA,AQ0];intro e;subst e;simp only[List.contains_eq_mem,AQ0]at YG;exact YG hq]at this
       obtain⟨w2,g2,Es,H2,Qn⟩:=Zr (σ:=⟨[],(Bh [k] σ.Aj).set k Blk.Bg++[Blk.row 0 .Aw u ys]⟩) H1 ht hN aB ⟨AJ7,AKr,rfl,rfl⟩ iP (by show Cb w g1 _ _ _;rw[zM];exact AKe) (by show Cb w g1 _ _ _;rw[zM];exact iN);simp only at H2 Qn;rw[zM]at Qn;have AvZ:k∉[σ.Aj.length]:=by simp;omega
       have fY:k≠σ.Aj.length:=by omega
       generalize hE:(Blk.G4 (Bh [σ.Aj.length] ((Bh [k] σ.Aj).set k Blk.Bg++[Blk.row 0 .Aw u ys])) []).set σ.Aj.length (.row 0 .Aw u (ys.set j.toNat y'))=E at H2 hn;have hEl:E.length=σ.Aj.length+1:=by rw[<-hE];simp[Bd,AH]
       have hEN:E[σ.Aj.length]?=some (.row 0 .Aw u (ys.set j.toNat y')):=by rw[<-hE,List.getElem?_set_self (by simp[Bd,AH])]
       have stA:Step [σ.Aj.length,k] E.length w2 g2 w2 (g2.fQ σ.Aj.length k (Vo p [i.toNat])):=xw;have Am4:Step [k,σ.Aj.length] E.length w2 g2 w2 (g2.fQ σ.Aj.length k (Vo p [i.toNat])):=stA.weaken (λq hq=>by simp at hq⊢;exact hq.symm) (AQf _);have oP:(((Bh [k,σ.Aj.length] E).set σ.Aj.length Blk.Bg).set k (.row ek .Aw tr (xs.set i.toNat x'))).length=E.length:=by simp[AH]
       have Ah7:Nu w2 (g2.fQ σ.Aj.length k (Vo p [i.toNat])) E.length k (.row ek .Aw tr (xs.set i.toNat x')) :=
        bm w2 g2 E.length 0 (λb q hb=>Qn.BV b k q hb (by omega) AvZ) (λj hj=>Qn.A5 j (by omega)) (H2.MP σ.Aj.length _ hEN)
       unfold Oper.wp;simp only[execOp,ho,hpv,Sem.run_bind,Es,Result.andThen_ok];refine hn undef w2 (g2.fQ σ.Aj.length k (Vo p [i.toNat])) ?_ RP ?_
       ·refine H2.bZ Am4 (λb hb=>by simp[G.fQ,H2.B7 b hb]) (by rw[oP];exact AQf _) λj' y R8=>?_;rw[oP];rcases Tg R8 with ⟨rfl,rfl⟩|⟨MO,R8⟩
        ·exact .inr (.inr Ah7)
        ·rcases Tg R8 with ⟨rfl,rfl⟩|⟨Av3,R8⟩
         ·exact .inl rfl
         ·obtain⟨y',iP,rfl⟩:=DC R8;exact .inr (.inl ⟨by simp only[ARI,ASh,or_false,not_or];exact⟨MO,Av3⟩,y',iP,rfl⟩)
       ·refine⟨Qn.os.trans Sf.os,Qn.tape.trans Sf.tape,Qn.output.trans Sf.output,Qn.size,λb hb h=>?_,λb h=>?_,λb j' q h R8 hm=>?_,λj' R8=>?_⟩
        ·have h1:=Sf.no b hb h;have h2:=Qn.no b hb h1.1;exact⟨by simp[G.fQ,h2.1],h2.2⟩
        ·have h1:=Sf.Jd b h;have h2:=Qn.Jd b h1.1;exact⟨by simp[G.fQ,h2.1],h2.2⟩
        ·simp only[ARD,AQA,not_or]at hm;have h1:=Sf.BV b j' q h R8 (by simpa using hm.2);have h2:=Qn.BV b j' q h1.1 (by omega) (by simpa using hm.1);exact⟨iD h2.1 (by omega),h2.2⟩
        ·show g2.A5 j'=_;rw[Qn.A5 j' (by omega),Sf.A5 j' R8]
      ·cases h
     ·cases h
    ·cases h
   ·cases h
  ·cases h
 ·cases h
theorem AiL(he:EnvOk P en)(h:AdS en σ o=some e):OA P σ o e:=by
 unfold AdS at h;split at h
 ·rename_i t x v ho;split at h
  ·rename_i ti k i p f j u ht hx;exact Aat ho (he.t ht) hx h
  ·cases h
 ·cases h
theorem Ana(he:EnvOk P en)(h:tlE en σ o=some (true,e)):OA P σ o e:=by
 unfold tlE at h;split at h
 ·rename_i t x lo ho;split at h
  ·rename_i ti k ks kk l htt hx hl;split at h
   ·rename_i el u xs te hb Et;split at h
    ·rename_i hc;obtain⟨Jc,hu⟩:=hc;subst hu;simp only[AQb,AQm,AQg,ARo]at h;obtain⟨⟨h0,h1⟩,rfl⟩:=h;exact Ajj ho (he.t htt) Jc (he.t Et) hx hl hb h0 h1
    ·cases h
   ·cases h
  ·cases h
 ·rename_i t x y ho;split at h
  ·rename_i ti k ks kk l htt hx hl;split at h
   ·rename_i el u xs te hb Et;split at h
    ·rename_i hc;obtain⟨Jc,hu⟩:=hc;subst hu;simp only[AQb,AQm,AQg,ARo]at h;obtain⟨⟨h0,h1⟩,rfl⟩:=h;exact Ajm ho (he.t htt) Jc (he.t Et) hx hl hb h0 h1
    ·cases h
   ·cases h
  ·cases h
 ·rename_i c ho;split at h
  ·rename_i k t hc hx aC;split at h
   ·rename_i el u xs ti hb htt;split at h
    ·rename_i Jc;simp only[AQb,AQm,true_and]at h;subst h;exact Ajn ho hc hx aC (he.t htt) Jc hb
    ·cases h
   ·cases h
  ·rename_i k y t tx hc hx aC;split at h
   ·rename_i el u xs0 ti fL hb htt yl;split at h
    ·rename_i te Et;split at h
     ·rename_i xs ys m2 rs vF kK;split at h
      ·rename_i vG;obtain⟨Jc,hkx,_,vE,V2,_⟩:=vG;obtain⟨ec,hec⟩:=BR vF;injection ec with ec;subst ec;simp only at hec;subst hec;simp only[AQb,AQm,ARo]at h;obtain⟨RX,rfl⟩:=h;exact Ajh ho hc hx aC (he.t htt) (he.t Et) Jc (he.t yl) hkx vE hb V2 kK RX
      ·cases h
     ·cases h
    ·cases h
   ·cases h
  ·cases h
 ·cases h
theorem Ajc(he:EnvOk P en)(h:xe en σ o=some e):OA P σ o e:=by
 exact AiL he h
theorem eV(he:EnvOk P en)(h:Wb en σ o some=some e):OA P σ o e:=by
 unfold Wb at h;split at h
 ·rename_i v hv;injection h with h;subst h;exact AfN he hv
 split at h
 ·rename_i e' hv;injection h with h;subst h;exact Ajc he hv
 split at h
 ·rename_i c e' hv;cases c with
  |false=>cases h
  |true=>injection h with h;subst h;exact Ana he hv
 split at h
 ·cases hd:ki en o with
  |false=>rw[hd]at h;exact eW he h
  |true =>
   rw[hd]at h;simp only[AQp]at h;rw[Nx en he.aH]at h;cases hx:R7 en σ o some with
   |none=>rw[hx]at h;cases h
   |some e0 =>
    rw[hx]at h;simp only[AP9]at h;split at h
    ·rename_i e' hf;injection h with h;subst h;exact Ad5 (eW he hx) hf
    ·cases h
 ·rename_i t _;rw[Nx en he.aH]at h;cases hx:R7 en σ o some with
  |none=>rw[hx]at h;cases h
  |some e0 =>
   rw[hx]at h;simp only[AP9]at h;split at h
   ·rename_i e' hf;injection h with h;subst h;exact Ahu (eW he hx) hf
   ·cases h
theorem Tx(he:EnvOk P en)(h:exec en σ o some=some e):OA P σ o e:=by
 unfold exec at h;split at h
 ·split at h
  ·split at h
   ·rename_i bs hp;rw[Xb en he.aH]at h;cases hx:Wb en ⟨σ.AU,bs⟩ o some with
    |none=>rw[hx]at h;cases h
    |some e0 =>
     rw[hx,AP9]at h;split at h
     ·cases h
     ·rename_i hm;injection h with h;subst h;have hs:=eV he hx;obtain⟨l',hf⟩:=wT hp;have hl:=vi hf;refine⟨AQD hl hs.grow,λzN=>by rw[zN]at hm;exact(hm rfl).elim,λa w g BX next Q hn=>?_⟩
      obtain⟨_,g',H',st⟩:=Abu hf BX.heap;exact hs.wp a w g' ⟨H',BX.len,λi x hx=>(BX.AU i x hx).RO st hl⟩ next Q λv w' g2 h1 h2 h3=>hn v w' g2 h1 h2 (st.trans h3 hl)
   ·cases h
  ·exact eV he h
 ·exact eV he h
end
def BL(m:Nat)(w:World)(g:G)(w':World)(g':G):Prop:=Step (List.range m) m w g w' g'
theorem BL.refl(m:Nat)(w:World)(g:G):BL m w g w g:=Step.refl _ _ _ _
theorem Step.toC{BJ:ATO Nat}{n m:Nat}{w w':World}{g g':G}(s:Step BJ n w g w' g')(h:m<=n):BL m w g w' g' :=
 ⟨s.os,s.tape,s.output,s.size,s.no,s.Jd,λ_ k _ _ hk hm=>(hm (List.mem_range.2 hk)).elim,λk hk=>s.A5 k (AQL hk h)⟩
theorem BL.trans{m:Nat}{w w1 w2:World}{g g1 g2:G}(s:BL m w g w1 g1)(t:BL m w1 g1 w2 g2):BL m w g w2 g2:=by
 have h:=Step.trans s t (AQf _);exact⟨h.os,h.tape,h.output,h.size,h.no,h.Jd,λ_ k _ _ hk hm=>(hm (List.mem_range.2 hk)).elim,h.A5⟩
theorem Ai7{l:ATO AV}{d:Nat}{x:AV}(h:l[d]?=some x):l.set d x=l:=by
 apply ARn;intro i;rw[AQy];split
 ·rename_i he;subst he;split
  ·exact h.symm
  ·rename_i hl;rw[AQN (Nat.le_of_not_lt hl)]
 ·rfl
inductive Want (all:List Oper) (σ:St) (o:Oper):Bool->Prop where
 |plain (h:o.guard=none):Want all σ o true
 |guard {g:Nat} {iz:Bool} {d:Nat} {b:Bool} (h:o.guard=some (g,iz)) (hd:(all[g]?).bind (·.dst)=some d) (hb:σ.AU[d]?=some (.bool b)):Want all σ o (b==iz)
 |nil {g:Nat} {iz:Bool} {d:Nat} (h:o.guard=some (g,iz)) (hd:(all[g]?).bind (·.dst)=some d) (hb:σ.AU[d]?=some .nil):Want all σ o false
theorem Qr{R:Type}{all:ATO Oper}{σ:St}{o:Oper}{Kt Kf:St->ATP R}{r:R}(h:XN all σ o Kt Kf=some r):(Want all σ o true/\Kt σ=some r)\/(Want all σ o false/\Kf σ=some r):=by
 unfold XN at h;split at h
 ·rename_i hg;exact .inl ⟨.plain hg,h⟩
 ·rename_i g iz hg;split at h
  ·cases h
  ·rename_i d hd;split at h
   ·rename_i b hb;have e:({σ with AU:=σ.AU.set d (.bool b)}:St)=σ:=by
     have:=Ai7 hb;cases σ;simp only at this⊢;rw[this]
    cases b
    ·simp only[AQo]at h;rw[e]at h;split at h
     ·rename_i hw;subst hw;exact .inr ⟨.guard hg hd hb,h⟩
     ·rename_i hw;have:iz=false:=by simpa using hw
      subst this;exact .inl ⟨.guard hg hd hb,h⟩
    ·simp only[AQp]at h;rw[e]at h;split at h
     ·rename_i hw;subst hw;exact .inl ⟨.guard hg hd hb,h⟩
     ·rename_i hw;have:iz=false:=by simpa using hw
      subst this;exact .inr ⟨.guard hg hd hb,h⟩
   ·rename_i hb;exact .inr ⟨.nil hg hd hb,h⟩
   ·cases h
theorem kA{R:Type}{all:ATO Oper}{σ:St}{o:Oper}{T:Type}{Kt Kf:St->ATP R}{Kt' Kf':St->ATP T}{K:T->ATP R}(h1:∀σ,Kt σ=(Kt' σ).bind K)(h2:∀σ,Kf σ=(Kf' σ).bind K):XN all σ o Kt Kf=(XN all σ o Kt' Kf').bind K:=by
 unfold XN;split
 ·exact h1 _
 ·split
  ·rfl
  ·split
   ·rename_i b _;cases b<;>simp only[AQp,AQo]<;>split<;>first |exact h1 _ |exact h2 _
   ·exact h2 _
   ·rfl
section
variable {P:Program} {en:GX} {R:Type}
theorem vg(he:Z7 en)(σ:St)(o:Oper){T:Type}{K:H8->ATP R}{K':H8->ATP T}{k:T->ATP R}(h:∀e,K e=(K' e).bind k):exec en σ o K=(exec en σ o K').bind k:=by
 rw[Tw en he σ o K,Tw en he σ o K'];cases exec en σ o some with
 |none=>rfl
 |some e=>exact h e
theorem U7(he:Z7 en)(all:ATO Oper):∀(is:ATO Nat) (σ:St) (K:St->ATP R),R6 en all is σ K=(R6 en all is σ some).bind K
 |[],_,_=>rfl
 |i::is,σ,K=>by
  simp only[R6];split
  ·rfl
  ·refine kA (λσ=>?_) λσ=>U7 he all is _ K;exact vg he σ _ λe=>U7 he all is _ K
theorem U6(he:Z7 en)(all:ATO Oper)(A:ATO (Nat×ATO Nat)):∀(is done OU:ATO Nat) (σ:St) (K:St->ATP R),Vi en all A is done OU σ K=(Vi en all A is done OU σ some).bind K
 |[],_,_,_,_=>rfl
 |i::is,done,OU,σ,K=>by
  simp only[Vi];split
  ·rfl
  ·split
   ·refine kA (λσ=>?_) λσ=>U6 he all A is _ _ _ K;refine vg he σ _ λe=>?_;split
    ·exact U6 he all A is _ _ _ K
    ·split
     ·exact U6 he all A is _ _ _ K
     ·rfl
   ·rfl
theorem Ad8{w:World}{g:G}{σ:St}{a:Act}(hs:LA w g σ a){d:Nat}{b:Bool}(h:σ.AU[d]?=some (.bool b)):a.tmps[d]?=some (.bool b):=by
 have h1:=Tq (hs.AU d _ h);have hl:d<a.tmps.size:=by rw[<-hs.len];exact A7 h
 rw[AQZ hl];rw[AQ6,AQZ hl]at h1;exact congrArg some h1
theorem Ajf{w:World}{g:G}{σ:St}{a:Act}(hs:LA w g σ a){d:Nat}(h:σ.AU[d]?=some .nil):a.tmps[d]?=some (.tuple #[]):=by
 have h1:a.tmps.getD d undef=.tuple #[]:=hs.AU d _ h;have hl:d<a.tmps.size:=by rw[<-hs.len];exact A7 h
 rw[AQZ hl];rw[AQ6,AQZ hl]at h1;exact congrArg some h1
theorem J6{w:World}{g:G}{σ:St}{a:Act}{Cf:Array Oper}{o:Oper}{t:Bool}(hs:LA w g σ a)(h:Want Cf.toList σ o t):Region.wanted o (yielded Cf a.tmps)=t:=by
 cases h with
 |plain h=>simp[Region.wanted,h]
 |guard h hd hb =>
  have h1:=Ad8 hs hb;rw[AQn]at hd;simp[Region.wanted,h,yielded,hd,h1]
 |nil h hd hb =>
  have h1:=Ajf hs hb;rw[AQn]at hd;simp[Region.wanted,h,yielded,hd,h1]
theorem LA.skip{w:World}{g:G}{σ:St}{a:Act}(h:LA w g σ a)(d:ATP Nat):LA w g (σ.skip d) (a.put d undef) where
 heap:=h.heap
 len:=by simp only[St.skip,dG,Xt];exact h.len
 AU:=pZ h.len h.AU (show Cb w g _ .nil undef from rfl)
theorem put_defers(a:Act)(d:ATP Tmp)(v:Value):(a.put d v).defers=a.defers:=by cases d<;>rfl
theorem db(he:EnvOk P en){Cf:Array Oper}{m:Nat}{Q:Exit->Act->World->Prop}:∀(is:ATO Nat) (σ σ':St),R6 en Cf.toList is σ some=some σ'->m<=σ.Aj.length->m<=σ'.Aj.length/\∀(a:Act) (w:World) (g:G),LA w g σ a ->
    (∀a' w' g',LA w' g' σ' a'->BL m w g w' g'->a'.defers=a.defers->Q .normal a' w')->wpOps P Cf Q is a w
 |[],σ,σ',h,hm=>by
  simp only[R6,AQb]at h;subst h;exact⟨hm,λa w g hs hq=>hq a w g hs (BL.refl _ _ _) rfl⟩
 |i::is,σ,σ',h,hm=>by
  simp only[R6]at h;split at h
  ·cases h
  ·rename_i o ho;have ho':Cf[i]?=some o:=by rw[<-AQn];exact ho
   rcases Qr h with ⟨hw,h⟩|⟨hw,h⟩
   ·rw[Tw en he.aH]at h;cases hx:exec en σ o some with
    |none=>rw[hx]at h;cases h
    |some e =>
     rw[hx]at h;have QU:=Tx he hx;have Qs:=QU.grow;obtain⟨hm',ih⟩:=db he (Q:=Q) is _ _ h (AQD hm Qs);refine⟨hm',λa w g hs hq=>?_⟩;simp only[wpOps,ho'];rw[AQr (J6 hs hw)];refine .inl (QU.wp a w g hs _ Q λv w' g' hH hv BX=>?_);exact ih _ _ _ (hs.after Qs hH hv BX) λa'' w'' g'' Awb Aia hd=>hq a'' w'' g'' Awb ((BX.toC hm).trans Aia) (by rw[hd,put_defers])
   ·obtain⟨hm',ih⟩:=db he (Q:=Q) is _ _ h hm;refine⟨hm',λa w g hs hq=>?_⟩;simp only[wpOps,ho'];rw[J6 hs hw];simp only[AQX,ARA];exact ih _ _ _ (hs.skip o.dst) λa'' w'' g'' Awb Aia hd=>hq a'' w'' g'' Awb Aia (by rw[hd,put_defers])
end
theorem Vz{n:Nat}{ks:ATO Nat}{k:Nat}:k∈aU n ks↔k<n/\k∈ks:=by simp[aU]
section
variable {w:World} {g:G} {n:Nat}
theorem Al.Ev{ks:ATO Nat}(h:∀k∈ks,k<n){b:Nat}(a:Al g.own ks b):Al g.own (aU n ks) b:=a.mono λk hk=>Vz.2 ⟨h k hk,hk⟩
theorem jO(a:AV):(a.Ev n).OL=a.OL:=by cases a<;>rfl
theorem fS(a:AV):(a.Ev n).isAgg=a.isAgg:=by cases a<;>rfl
theorem uO(a:AV):(a.Ev n).Dv=a.Dv:=by cases a<;>rfl
theorem CN.Ev:∀(a:AV) (m:Bool) {cs:ATO Value},CN w g n m a cs->CN w g n m (a.Ev n) cs
 |.AB ks t x,false,cs,⟨hk,r⟩=>⟨λk h=>(Vz.1 h).1,r.mono λb a=>⟨a.Ev hk,rfl⟩⟩
 |.zs,false,_,h=>h
 |.AK _,false,_,h=>h
 |.mp _,false,_,h=>h
 |.ptr _ _ _ _,false,_,h=>h
 |.FQ ks t x,false,cs,⟨hk,b,off,ds,e,ha,r,hc⟩=>⟨λk h=>(Vz.1 h).1,b,off,ds,e,ha.Ev hk,r.mono λb a=>⟨a.Ev hk,rfl⟩,hc⟩
 |.KG,false,_,h=>h
 |.UT _ _ _ _ _,false,_,h=>h
 |.WM _ _ _ _ _ _,false,_,h=>h
 |.pr a b,false,_,⟨c,e,he,h1,h2⟩=>⟨c,e,he,CN.Ev a _ h1,CN.Ev b _ h2⟩
 |.fn f c,false,_,⟨vs,e,hx⟩=>⟨vs,e,CN.Ev c true hx⟩
 |.un k,false,_,h=>h
 |.cons a b,true,_,⟨v,r,e,h1,h2⟩=>by
  refine⟨v,r,e,?_,CN.Ev b true h2⟩;rw[jO,fS];exact h1.imp id λ⟨cs,hx,hv⟩=>⟨cs,CN.Ev a _ hx,hv⟩
 |.nil,true,_,h=>h
 |.cons _ _,false,_,h=>h.elim
 |.nil,false,_,h=>h.elim
 |.UT _ _ _ _ _,true,_,h=>h.elim
 |.WM _ _ _ _ _ _,true,_,h=>h.elim
 |.AB _ _ _,true,_,h=>h.elim
 |.zs,true,_,h=>h.elim
 |.AK _,true,_,h=>h.elim
 |.mp _,true,_,h=>h.elim
 |.ptr _ _ _ _,true,_,h=>h.elim
 |.FQ _ _ _,true,_,h=>h.elim
 |.KG,true,_,h=>h.elim
 |.pr _ _,true,_,h=>h.elim
 |.fn _ _,true,_,h=>h.elim
 |.un _,true,_,h=>h.elim
theorem Cb.Ev{a:AV}{v:Value}(h:Cb w g n a v):Cb w g n (a.Ev n) v:=by
 cases ht:a.Dv with
 |false =>
  rw[Cb.iff ht]at h;rw[Cb.iff (by rw[uO];exact ht),jO,fS];exact h.imp id λ⟨cs,hx,hv⟩=>⟨cs,CN.Ev a _ hx,hv⟩
 |true =>
  cases a with
  |cons a b=>obtain⟨vs,e,h⟩:=h;exact⟨vs,e,CN.Ev _ true h⟩
  |nil=>exact h
  |_=>cases ht
theorem Nu.Ev{k:Nat}{b:Blk}(h:Nu w g n k b):Nu w g n k (b.Ev n):=by
 cases b with
 |Bg=>trivial
 |map m kt vt es st =>
  cases m with
  |Aw=>exact h
  |sh ks =>
   obtain⟨RZ,b,Hh,DX,ha,ho,hh,S7,hm⟩:=h;exact⟨λj hj=>(Vz.1 hj).1,b,Hh,DX,ha,ho,hh,S7,hm.on λi x c r=>by
    exact r.mono λb a=>⟨a.Ev RZ,rfl⟩⟩
 |R1 e t xs i p=>exact h
 |tail e t xs=>exact h
 |box a =>
  obtain⟨h1,b,cs,e,ha,ho,hh,hx⟩:=h;exact⟨h1,b,cs,e,ha,ho,hh,CN.Ev a _ hx⟩
 |row e m t xs =>
  cases m with
  |Aw=>exact h
  |sh ks =>
   obtain⟨RZ,hlen,QL,B5,hr⟩:=h;refine⟨λj hj=>(Vz.1 hj).1,hlen,QL,B5,hr.imp id λ⟨b,BG,ds,ha,ho,hh,h1,h2,h3,h4,hc⟩=>⟨b,BG,ds,ha,ho,hh,h1,h2,h3,h4,?_⟩⟩;exact hc.mono λx c r=>r.mono λb a=>⟨a.Ev RZ,rfl⟩
end
def G.pick(g:G)(π:ATO Nat):G:=⟨λb=>match g.own b with |.BV k r=>if k∈π then .BV (idxOf π k) r else .no |t=>t,λj=>g.A5 (π.getD j 0)⟩
theorem Vd{bs:ATO Blk}{m:Nat}{π Cx:ATO Nat}(h:AdV bs m π Cx=true):π.take m=List.range m/\nodup π=true/\(∀k∈Cx,k∈π)/\∀k∈π,∃b,bs[k]?=some b/\∀j∈b.Cx,j∈π:=by
 simp only[AdV,AQg,ARd]at h
 grind
theorem AiT{m:Nat}{π:ATO Nat}(h:π.take m=List.range m):m<=π.length/\∀j,j<m->π[j]?=some j:=by
 have hl:(π.take m).length=m:=by grind
 rw[AQu]at hl;refine⟨by omega,λj hj=>?_⟩;have:(π.take m)[j]?=some j:=by grind
 grind
section
variable {w:World} {g:G} {bs:ATO Blk} {π Cx:ATO Nat} {m:Nat}
theorem dE{k:Nat}(hk:k∈π):Ren (idxOf π) g (g.pick π) π.length k where
 lt:=rT hk
 A5:=by
  have:=rS hk;simp[G.pick,this]
 own b r h:=by simp[G.pick,h,hk]
theorem dC{b:Nat}(h:g.own b=.Jd):(g.pick π).own b=.Jd:=by simp[G.pick,h]
theorem pM(H:Bo w g bs)(h:AdV bs m π Cx=true):Bo w (g.pick π) (π.map λk=>(((bs[k]?).getD .Bg).OR (idxOf π)).Ev π.length):=by
 obtain⟨_,hn,_,OC⟩:=Vd h;refine⟨λb hb=>by simp[G.pick,H.B7 b hb],λj x hx=>?_⟩;rw[AQC]at hx;cases hj:π[j]? with
 |none=>grind
 |some k =>
  rw[hj]at hx;injection hx with hx;subst hx;have hk :=ARs hj;obtain⟨b,hb,RY⟩:=OC k hk;have:=(H.MP k b hb).OR    (λb h=>dC h) (dE hk) (λj hj=>dE (RY j hj));rw[fh hn hj]at this;simp only[hb,AQl];exact this.Ev
theorem pN(h:AdV bs m π Cx=true):BL m w g w (g.pick π)/\m<=π.length:=by
 obtain⟨ht,hn,_,OC⟩:=Vd h;obtain⟨h1,h2⟩:=AiT ht;refine⟨⟨rfl,rfl,rfl,AQf _,λb _ h=>⟨by simp[G.pick,h],rfl⟩,λb h=>⟨dC h,rfl⟩,λb k p h hk hm=>(hm (List.mem_range.2 hk)).elim,λk hk=>?_⟩,h1⟩;simp[G.pick,h2 k hk]
theorem oV:∀{Be:ATO Nat} {l:ATO AV} {j i:Nat} {x:AV},(Sc Be j l)[i]?=some x->∃y,l[i]?=some y/\(x=y\/x=.un 0)
 |Be,a::r,j,0,x,h=>by
  simp only[Sc,List.getElem?_cons_zero,AQb]at h
  grind
 |Be,a::r,j,i+1,x,h=>by
  simp only[Sc]at h;obtain⟨y,hy,hx⟩:=oV h
  grind
 |_,[],_,_,_,h=>by simp[Sc]at h
theorem fj(Be:ATO Nat):∀(l:ATO AV) (j:Nat),(Sc Be j l).length=l.length
 |[],_=>rfl
 |_::r,j=>by simp[Sc,fj Be r]
theorem AmO{σ σ0:St}{l:ATO Nat}(h:σ.Az m l=some σ0){a:Act}(hs:LA w g σ a):∃g0,LA w g0 σ0 a/\BL m w g w g0/\m<=σ0.Aj.length:=by
 unfold St.Az at h
 dsimp only at h
 split at h
 ·rename_i hp;injection h with h;subst h;obtain⟨BX,hm⟩:=pN   hp;obtain⟨_,_,RY,_⟩:=Vd hp;refine⟨_,⟨pM hs.heap hp,by simp[fj];exact hs.len,λi x hx=>?_⟩,BX,by grind⟩;simp only[AQl];rw[AQC]at hx;cases hq:(Sc l 0 σ.AU)[i]? with
  |none=>grind
  |some y =>
   rw[hq]at hx;injection hx with hx;subst hx;obtain⟨z,hz,hyz⟩:=oV hq;rcases hyz with rfl |rfl
   ·exact((hs.AU i y hz).OR (λb h=>dC h) λk hk=>dE (RY k (List.mem_flatMap.2 ⟨y,ARs hq,hk⟩))).Ev
   ·exact RP
 ·grind
theorem Ahw{m:Nat}{Z:ATO Nat}:BL m w g w (g.X9 Z) :=
 ⟨rfl,rfl,rfl,AQf _,λb _ h=>⟨by simp[G.X9,h],rfl⟩,λb h=>⟨rF h,rfl⟩,λb k p h hk hm=>(hm (List.mem_range.2 hk)).elim,λk hk=>rfl⟩
theorem rE{bs:ATO Blk}(H:Bo w g bs){m:Nat}{t:Ty}{v v':AV}{HH:ATO Blk}(h:Ahv m t v bs=some (v',HH)) :
    ∃g',Bo w g' HH/\HH.length=bs.length/\BL m w g w g'/\(∀a u,Cb w g bs.length a u->Cb w g' bs.length a.cj u)/\(∀u,Cb w g bs.length v u->Cb w g' bs.length v' u)/\(∀k,g'.A5 k=g.A5 k)/\∀cs,CN w g bs.length false v cs->CN w g' bs.length false v' cs:=by
 unfold Ahv at h;split at h
 ·rename_i x hr;obtain⟨rfl,rfl⟩:=h;have key:∀cs,CN w g bs.length false v cs->CN w (g.X9 ((v.Vx bs).filter λk=>!decide (k<m))) bs.length false (.AB ((v.Vx bs).filter λk=>decide (k<m)) t x) cs:=by
   intro cs UA;obtain⟨nq,Bw⟩:=Ri H t v x cs hr UA;refine⟨λk hk=>Bw k (List.mem_filter.1 hk).1,nq.mono λb a=>⟨a.RU.mono λk hk=>?_,rfl⟩⟩
   grind
  refine⟨g.X9 _,vu H _,by simp[Bd],Ahw,λa u h=>h.RU _,λu hu=>?_,λk=>rfl,?_⟩
  ·obtain⟨h1,h2⟩:=WN hr;obtain⟨cs,UA,hv⟩:=B9 h1 h2 hu;exact BD  rfl (key cs UA) (by rw[show(AV.AB _ t x).isAgg=v.isAgg from(bG hr).symm];exact hv)
  ·grind
 ·grind
end
section
variable {w:World} {g:G} {bs:ATO Blk} {m:Nat}
end
section
variable {w:World} {g:G} {bs:ATO Blk} {m:Nat}
theorem zo(H:Bo w g bs){c:Co}{a a':AV}{nb:ATO Blk}(h:coV bs c a=some (a',nb)){v:Value}(hx:Cb w g bs.length a v):∃g',Bo w g' (bs++nb)/\Cb w g' (bs++nb).length a' v/\Step [] bs.length w g w g':=by
 have sI:a'=a/\nb=[]->∃g',Bo w g' (bs++nb)/\Cb w g' (bs++nb).length a' v/\Step [] bs.length w g w g':=by
  rintro⟨rfl,rfl⟩
  exact⟨g,by grind,by grind,Step.refl _ _ _ _⟩
 have APl:a.Dv=true\/a.OL=true->a'=a/\nb=[]:=by
  intro hq;cases c with
  |AB t =>
   simp only[coV]at h;split at h
   ·rename_i y hy;obtain⟨h1,h2⟩:=WN hy
    grind
   ·grind
  |gV ks=>cases a<;>simp_all [coV,AV.Dv,AV.OL]
  |row p e t Aw =>
   have:a.Wz p≠some .zs:=by
    cases a<;>simp[AV.Dv,AV.OL]at hq<;>cases p<;>simp[AV.Wz,AV.bh]
   simp only[coV]at h
   grind
 by_cases ht:a.Dv=true
 ·grind
 ·by_cases hu:a.OL=true
  ·grind
  ·obtain⟨cs,UA,hv⟩:=B9 (by grind) (by grind) hx;obtain⟨g',h1,h2,h3,h4⟩:=zp H h UA;exact⟨g',h1,BD (WL h2) h2 (by grind),h4⟩
theorem Avw{σ σ':St}{s:Nat}{b:Bool}{c:Co}(h:coS σ s b c=some σ'){a:Act}(hs:LA w g σ a)(hm:m<=σ.Aj.length):∃g',LA w g' σ' a/\BL m w g w g'/\m<=σ'.Aj.length:=by
 unfold coS at h;split at h
 ·grind
 ·rename_i v hv;cases b with
  |false =>
   simp only[AQo]at h;split at h
   ·rename_i v' nb hco;injection h with h;subst h;obtain⟨g',h1,h2,h3⟩:=zo hs.heap hco (hs.AU s v hv);refine⟨g',⟨h1,by simp only[AQi];exact hs.len,λi x hx=>?_⟩,h3.toC hm,by grind⟩;rw[AQy]at hx;split at hx
    ·grind
    ·exact(hs.AU i x hx).RO h3 (by simp)
   ·grind
  |true =>
   split at h
   ·rename_i k i p o;split at h
    ·rename_i a0 hb;split at h
     ·rename_i a' nb hco;injection h with h;subst h;obtain⟨hlen,bb,cs,e,ha,ho,hh,hx⟩:=hs.heap.MP k _ hb;obtain⟨g',h1,h2,h3,h4⟩:=zp hs.heap hco hx;have hk:=A7 hb;have ia:(σ.Aj.set k (.box a')++nb).length=(σ.Aj++nb).length:=by simp
      refine⟨g',⟨⟨h1.B7,λj x hj=>?_⟩,hs.len,λi x vW=>(hs.AU i x vW).RO h4 (by simp)⟩,h4.toC hm,by grind⟩;rw[ia];rw[AQz]at hj;split at hj
      ·rename_i aA;rw[AQi]at aA;rw[AQy]at hj;split at hj
       ·rename_i ek;subst ek;injection hj with hj;subst hj;have hl:=h4.BV bb k [] ho hk (by simp);exact⟨by rw[h4.A5 k hk];exact hlen,bb,cs,e,by rw[h4.A5 k hk];exact ha,hl.1,hh,h2⟩
       ·exact h1.MP j x (by grind)
      ·rename_i aA;rw[AQi]at aA hj;exact h1.MP j x (by grind)
     ·grind
    ·grind
   ·grind
theorem jQ:∀{l:ATO (Nat×Bool×Co)} {σ σ':St} {g:G},cJ l σ=some σ'->∀{a:Act},LA w g σ a->m<=σ.Aj.length->∃g',LA w g' σ' a/\BL m w g w g'/\m<=σ'.Aj.length
 |[],σ,σ',g,h,a,hs,hm=>by
  simp only[cJ,AQb]at h;subst h;exact⟨g,hs,BL.refl _ _ _,hm⟩
 |(s,b,c)::r,σ,σ',g,h,a,hs,hm=>by
  simp only[cJ]at h;split at h
  ·rename_i σ1 h1;obtain⟨g1,Sb,Sf,UB⟩:=Avw h1 hs hm;obtain⟨g2,ZO,Qn,S6⟩:=jQ h Sb UB;exact⟨g2,ZO,Sf.trans Qn,S6⟩
  ·grind
theorem lp{bs:ATO Blk}(H:Bo w g bs){k e:Nat}{md:RM}{t:Ty}{xs:ATO t.V}(hb:bs[k]?=some (.row e md t xs))(QJ:k∉md.Cx) :
    ∃g',Bo w g' (Blk.G4 (Bh [k] bs) [k]++[.row e md t xs])/\Step [k] bs.length w g w g'/\g'.A5 bs.length=g.A5 k:=by
 obtain⟨RZ,hlen,QL,B5,hr⟩:=H.MP k _ hb
 let n:=bs.length
 let f:Nat->ATO Nat->Vf:=λj r=>if j=k then .BV n r else .BV j r
 let g':=g.V1 f none n (g.A5 k)
 have st:Step [k] n w g w g':=Step.V1 H.B7 rfl rfl rfl (AQf _) (λ_ _ _=>rfl) (λq h=>by grind) (AQf _) λj r _ hm=>by
  grind
 have QI:g'.A5 n=g.A5 k:=by simp[g',G.V1]
 refine⟨g',H.bZ st (Ny H.B7 (AQf _) λq h=>by grind) (by simp[Bd,AH]) λj y hj=>?_,st,QI⟩;rw[AQz]at hj;split at hj
 ·rcases Lf hj with h |⟨rH,h⟩
  ·grind
  ·obtain⟨y',iP,rfl⟩:=DC h
   grind
 ·rename_i Bw;rw[Bd,AH]at hj Bw;have oO:j-bs.length=0:=by
   grind
  rw[oO]at hj;obtain rfl:j=n:=by omega
  simp only[List.getElem?_cons_zero,AQb]at hj;subst hj;refine .inr (.inr ⟨λj hj=>by have:=RZ j hj;simp[Bd,AH];omega,by grind,by grind,B5,?_⟩);rw[QI];refine hr.imp id λ⟨b,BG,ds,ha,Cw,AhK,p1,p2,p3,p4,MN⟩=>⟨b,BG,ds,ha,by rw[I0 (by simp) Cw];simp[f],AhK,p1,p2,p3,p4,?_⟩;rw[D8];refine(D8.1 MN).mono λi x c V2=>V2.on ?_;cases md with
  |Aw=>exact λb q hb=>⟨by rw[I0 (by simp) hb];simp[f],rfl⟩
  |sh ks =>
   intro b hb;rcases hb with hb |⟨j,hj,r,hb⟩
   ·exact⟨.inl (Wv (by simp) hb),rfl⟩
   ·refine⟨.inr ⟨j,hj,r,?_⟩,rfl⟩;have:j≠k:=λe=>QJ (e▸hj);rw[I0 (by simp) hb];simp[f,this]
theorem su:∀{l:ATO Nat} {σ σ':St} {g:G},mvS m l σ=some σ'->∀{a:Act},LA w g σ a->m<=σ.Aj.length->∃g',LA w g' σ' a/\BL m w g w g'/\m<=σ'.Aj.length
 |[],σ,σ',g,h,a,hs,hm=>by
  simp only[mvS,AQb]at h;subst h;exact⟨g,hs,BL.refl _ _ _,hm⟩
 |s::r,σ,σ',g,h,a,hs,hm=>by
  simp only[mvS]at h;split at h
  ·rename_i k hv;split at h
   ·split at h
    ·rename_i e md t xs hb;split at h
     ·grind
     ·rename_i QJ;obtain⟨g1,H1,st,U8⟩:=lp hs.heap hb (by grind);have hl:(Blk.G4 (Bh [k] σ.Aj) [k]++[Blk.row e md t xs]).length=σ.Aj.length+1:=by simp[Bd,AH]
      have Sb:LA w g1 ⟨(Vh [k] σ.AU).set s (.AK σ.Aj.length),Blk.G4 (Bh [k] σ.Aj) [k]++[.row e md t xs]⟩ a:=by
       refine⟨H1,by simp[Vh];exact hs.len,λi x hx=>?_⟩;simp only[hl];rw[AQy]at hx;split at hx
       ·rename_i e';subst e';split at hx
        ·injection hx with hx;subst hx;obtain⟨hk,hv2⟩:=FE (hs.AU s _ hv);rw[hv2];exact BD  rfl ⟨AQP _,by grind⟩ rfl
        ·grind
       ·obtain⟨y,hy,rfl⟩:=ZH hx;exact(hs.AU i y hy).step st (AQK _)
      obtain⟨g2,ZO,Qn,S6⟩:=su h Sb (by grind);exact⟨g2,ZO,(st.toC hm).trans Qn,S6⟩
    ·grind
   ·exact su h hs hm
  ·exact su h hs hm
theorem AfP{w:World}{g:G}{n j N:Nat}{p:ATO Nat}{a a2:AV}{v:Value}(h:Cb w g n a v)(hp:a.Wz p=some (.AK j))(H6:a.bQ p (.AK N)=some a2)(hN:N<n)(U8:g.A5 N=g.A5 j):Cb w g n a2 v:=by
 cases p with
 |nil =>
  simp only[AV.Wz,AQb]at hp;simp only[AV.bQ,AQb]at H6;subst hp;subst H6;obtain⟨_,hv⟩:=FE h;rw[hv,<-U8];exact BD  rfl ⟨hN,rfl⟩ rfl
 |cons f p =>
  have h2 :=by
   simp only[AV.bQ]at H6;split at H6
   ·split at H6
    ·exact bP H6
    ·grind
   ·grind
  have h1:a.isAgg=true/\a.Dv=false/\a.OL=false:=by
   simp only[AV.Wz]at hp;cases a with
   |pr x y=>exact⟨rfl,rfl,rfl⟩
   |AB ks t x =>
    cases t with
    |AG b c=>exact⟨rfl,rfl,rfl⟩
    |_=>simp[AV.bh,XM]at hp
   |_=>simp[AV.bh]at hp
  obtain⟨cs,UA,hv⟩:=B9 h1.2.1 h1.2.2 h;obtain⟨c0,c1,c2,e1,_,hr,bm⟩:=SD _ _ cs _ UA hp;obtain⟨_,Pk⟩:=hr;have yn:=bm _ a2 c1 H6 ⟨hN,by grind⟩;rw[<-e1]at yn;have ht:a2.Dv=false:=by cases a2<;>first |rfl |cases h2
  exact BD ht yn (by grind)
theorem AiE{m s:Nat}{p:ATO Nat}{a:Act}{a0:AV}{σ σ2:St}{g:G}(yk:σ.AU[s]?=some a0)(h:mvV m s p a0 σ=some σ2)(hs:LA w g σ a)(hm:m<=σ.Aj.length):∃g',LA w g' σ2 a/\BL m w g w g'/\m<=σ2.Aj.length:=by
 unfold mvV at h;split at h
 ·split at h
  ·split at h
   ·rename_i e md t xs hj;split at h
    ·grind
    ·rename_i QJ;split at h
     ·rename_i j' a2 gb H6;split at h
      ·rename_i hc;subst hc;injection h with h;subst h;obtain⟨g1,H1,st,U8⟩:=lp hs.heap hj (by grind);have hl:(Blk.G4 (Bh [j'] σ.Aj) [j']++[Blk.row e md t xs]).length=σ.Aj.length+1:=by simp[Bd,AH]
       refine⟨g1,⟨H1,by simp[Vh];exact hs.len,λi x hx=>?_⟩,st.toC hm,by grind⟩;rw[hl];rcases Tg hx with ⟨rfl,rfl⟩|⟨MO,hx⟩
       ·have hv:=(hs.AU i a0 yk).step st (AQK _);exact AfP hv gb H6 (AQP _) (by rw[U8,st.A5 j' (A7 hj)])
       ·obtain⟨y,hy,rfl⟩:=ZH (show(Vh [j'] _)[i]?=some x from hx);exact(hs.AU i y hy).step st (AQK _)
      ·grind
     ·grind
   ·grind
  ·injection h with h;subst h;exact⟨g,hs,BL.refl _ _ _,hm⟩
 ·grind
theorem z8{m k:Nat}{p:ATO Nat}{w:World}{a:Act}{σ σ2:St}{g:G}(h:mvB m k p σ=some σ2)(hs:LA w g σ a)(hm:m<=σ.Aj.length):∃g',LA w g' σ2 a/\BL m w g w g'/\m<=σ2.Aj.length:=by
 unfold mvB at h;split at h
 ·rename_i a0 hb;split at h
  ·split at h
   ·split at h
    ·rename_i e md t xs hj;split at h
     ·grind
     ·rename_i QJ;split at h
      ·rename_i j' a2 gb H6;split at h
       ·rename_i hc;obtain⟨rfl,hkj⟩:=hc;injection h with h;subst h;obtain⟨g1,H1,st,U8⟩:=lp hs.heap hj (by grind);have hl:(Blk.G4 (Bh [j'] σ.Aj) [j']++[Blk.row e md t xs]).length=σ.Aj.length+1:=by simp[Bd,AH]
        have hk:=A7 hb;have gY:(Blk.G4 (Bh [j'] σ.Aj) [j']++[Blk.row e md t xs])[k]?=some (.box (a0.drop λq=>[j'].contains q)):=by
         rw[AQw (by grind)];simp only[Blk.G4,Bh,AQy,AQC,hb,Option.map_some,Blk.drop,AQs (λe:j'=k=>hkj e.symm)]
        obtain⟨h1,bb,cs,el,ha,ho,hh,hx⟩:=H1.MP k _ gY;rw[hl]at hx;obtain⟨c0,c1,c2,e1,_,hr,bm⟩:=SD p _ cs.toList _ hx gb;obtain⟨aA,Pk⟩:=hr;have yn:=bm (.AK σ.Aj.length) a2 c1 H6 ⟨AQP _,by rw[Pk,U8,st.A5 j' (A7 hj)]⟩;rw[<-e1]at yn;refine⟨g1,⟨⟨H1.B7,λq x hq=>?_⟩,by simp[Vh];exact hs.len,λi x hx=>?_⟩,st.toC hm,by grind⟩
        ·rw[AQi,hl];rw[AQy]at hq;split at hq
         ·rename_i e';subst e';split at hq
          ·injection hq with hq;subst hq;exact⟨h1,bb,cs,el,ha,ho,hh,yn⟩
          ·grind
         ·have:=H1.MP q x hq;rwa [hl]at this
        ·simp only[AQi,hl];obtain⟨y,hy,rfl⟩:=ZH (show(Vh [j'] σ.AU)[i]?=some x from hx);exact(hs.AU i y hy).step st (AQK _)
       ·grind
      ·grind
    ·grind
   ·injection h with h;subst h;exact⟨g,hs,BL.refl _ _ _,hm⟩
  ·grind
 ·grind
theorem AbY:∀{l:ATO (Nat×ATO Nat)} {σ σ':St} {g:G},AiD m l σ=some σ'->∀{a:Act},LA w g σ a->m<=σ.Aj.length->∃g',LA w g' σ' a/\BL m w g w g'/\m<=σ'.Aj.length
 |[],σ,σ',g,h,a,hs,hm=>by
  simp only[AiD,AQb]at h;subst h;exact⟨g,hs,BL.refl _ _ _,hm⟩
 |(s,p)::r,σ,σ',g,h,a,hs,hm=>by
  simp only[AiD]at h;split at h
  ·rename_i σ1 h1;have h2 :=by
    unfold mvP at h1;split at h1
    ·exact z8 h1 hs hm
    ·rename_i a0 yk;exact AiE yk h1 hs hm
    ·grind
   obtain⟨g1,Sb,Sf,UB⟩:=h2;obtain⟨g2,ZO,Qn,S6⟩:=AbY h Sb UB;exact⟨g2,ZO,Sf.trans Qn,S6⟩
  ·grind
theorem dh:∀{l:ATO (Nat×Bool×Ty)} {σ σ':St} {g:G},rD m l σ=some σ'->∀{a:Act},LA w g σ a->m<=σ.Aj.length->∃g',LA w g' σ' a/\BL m w g w g'/\m<=σ'.Aj.length
 |[],σ,σ',g,h,a,hs,hm=>by
  simp only[rD,AQb]at h;subst h;exact⟨g,hs,BL.refl _ _ _,hm⟩
 |(s,false,t)::r,σ,σ',g,h,a,hs,hm=>by
  simp only[rD]at h;split at h
  ·exact dh h hs hm
  ·rename_i v _ hv;split at h
   ·rename_i v' HH hf;obtain⟨g1,H1,hl,Sf,ha,iN,_,_⟩:=rE hs.heap hf;have Sb:LA w g1 ⟨(σ.AU.map AV.cj).set s v',HH⟩ a:=by
     refine⟨H1,by simpa using hs.len,λi x hx=>?_⟩;simp only[hl];rw[AQy]at hx;split at hx
     ·rename_i e;subst e;split at hx
      ·injection hx with hx;subst hx;exact iN _ (hs.AU s v hv)
      ·grind
     ·rw[AQC]at hx;cases hq:σ.AU[i]? with
      |none=>grind
      |some y =>
       rw[hq]at hx;injection hx with hx;subst hx;exact ha _ _ (hs.AU i y hq)
    obtain⟨g2,ZO,Qn,S6⟩:=dh h Sb (by grind);exact⟨g2,ZO,Sf.trans Qn,S6⟩
   ·grind
  ·grind
 |(s,true,t)::r,σ,σ',g,h,a,hs,hm=>by
  simp only[rD]at h;split at h
  ·rename_i k _ _ _ hv;split at h
   ·rename_i a0 hb;split at h
    ·rename_i a' HH hf;obtain⟨g1,H1,hl,Sf,ha,iN,U8,kM⟩:=rE hs.heap hf;split at h
     ·rename_i a1 gY;have Sb:LA w g1 ⟨σ.AU.map AV.cj,HH.set k (.box a')⟩ a:=by
       refine⟨⟨H1.B7,λj x hj=>?_⟩,by simpa using hs.len,λi x hx=>?_⟩
       ·rw[AQi];rw[AQy]at hj;split at hj
        ·rename_i e;subst e;split at hj
         ·injection hj with hj;subst hj;obtain⟨p1,b,cs,e,ha1,ho,hh,hx⟩:=H1.MP k _ gY;obtain⟨q1,b2,cs2,e2,ha2,yj,hh2,yn⟩:=hs.heap.MP k _ hb;rw[U8,ha2]at ha1;injection ha1 with ha1;injection ha1 with ha1;subst ha1;rw[hh2]at hh;injection hh with hh;injection hh with hh;exact⟨p1,b2,cs2,e2,by grind,ho,hh2,by grind⟩
         ·grind
        ·exact H1.MP j x hj
       ·simp only[AQi,hl];rw[AQC]at hx;cases hq:σ.AU[i]? with
        |none=>grind
        |some y =>
         rw[hq]at hx;injection hx with hx;subst hx;exact ha _ _ (hs.AU i y hq)
      obtain⟨g2,ZO,Qn,S6⟩:=dh h Sb (by grind);exact⟨g2,ZO,Sf.trans Qn,S6⟩
     ·grind
    ·grind
   ·grind
  ·exact dh h hs hm
theorem AaL{ks:ATO Nat}{n:Nat}(hk:∀j∈ks,j<n):∀{a:AV} {cs:ATO Value},CN w g n false a cs->CN w g n false (a.wid ks) cs
 |.AB l t x,cs,h=>by
  unfold AV.wid;split
  ·rename_i hc;have bn:∀j∈l,j∈ks:=λj hj=>by grind
   exact⟨hk,h.2.mono λb a=>⟨a.mono bn,rfl⟩⟩
  ·grind
 |.pr _ _,_,⟨c,d,e,h1,h2⟩=>⟨c,d,e,AaL hk h1,AaL hk h2⟩
 |.zs,_,h=>h
 |.AK _,_,h=>h
 |.ptr _ _ _ _,_,h=>h
 |.FQ _ _ _,_,h=>h
 |.KG,_,h=>h
 |.UT _ _ _ _ _,_,h=>h
 |.WM _ _ _ _ _ _,_,h=>h
 |.mp _,_,h=>h
 |.fn _ _,_,h=>h
 |.un _,_,h=>h
 |.cons _ _,_,h=>h.elim
 |.nil,_,h=>h.elim
theorem tu:∀{l:ATO (Nat×ATO Nat)} {bs HH:ATO Blk},tt l bs=some HH->Bo w g bs->Bo w g HH/\HH.length=bs.length
 |[],bs,HH,h,H=>by
  simp only[tt,AQb]at h;subst h;exact⟨H,rfl⟩
 |(k,ks)::r,bs,HH,h,H=>by
  simp only[tt]at h;split at h
  ·rename_i e l t xs hb;split at h
   ·rename_i hc;rw[AQg]at hc;have bn:∀j∈l,j∈ks:=λj hj=>by grind
    have Bw:∀j∈ks,j<bs.length:=λj hj=>by grind
    have H1:Bo w g (bs.set k (.row e (.sh ks) t xs)):=by
     refine⟨H.B7,λj x hx=>?_⟩;rw[AQi];rw[AQy]at hx;split at hx
     ·rename_i ek;subst ek;split at hx
      ·injection hx with hx;subst hx;obtain⟨RZ,hlen,QL,B5,hr⟩:=H.MP k _ hb;refine⟨Bw,hlen,QL,B5,hr.imp id λ⟨b,BG,ds,ha,ho,hh,h1,h2,h3,h4,hc⟩=>⟨b,BG,ds,ha,ho,hh,h1,h2,h3,h4,?_⟩⟩;exact hc.mono λx c r=>r.mono λb a=>⟨a.mono bn,rfl⟩
      ·grind
     ·exact H.MP j x hx
    obtain⟨H2,hl⟩:=tu h H1
    grind
   ·grind
  ·rename_i a hb;split at h
   ·rename_i hc;have Bw:∀j∈ks,j<bs.length:=λj hj=>by grind
    have H1:Bo w g (bs.set k (.box (a.wid ks))):=by
     refine⟨H.B7,λj x hx=>?_⟩;rw[AQi];rw[AQy]at hx;split at hx
     ·rename_i ek;subst ek;split at hx
      ·injection hx with hx;subst hx;obtain⟨hlen,b,cs,e,ha,ho,hh,hr⟩:=H.MP k _ hb;exact⟨hlen,b,cs,e,ha,ho,hh,AaL Bw hr⟩
      ·grind
     ·exact H.MP j x hx
    obtain⟨H2,hl⟩:=tu h H1
    grind
   ·grind
  ·grind
theorem XP{h:SH}{σ σ':St}(hh:σ.head h m=some σ'){a:Act}(hs:LA w g σ a)(hm:m<=σ.Aj.length):∃g',LA w g' σ' a/\BL m w g w g'/\m<=σ'.Aj.length:=by
 unfold St.head at hh;split at hh
 ·grind
 ·rename_i σ0 h0;rw[AQ1]at h0;obtain⟨σz,hz,h0⟩:=h0;rw[AQ1]at hz;obtain⟨σy,hy,hz⟩:=hz;obtain⟨gy,hsy,sty,hmy⟩:=su hy hs hm;obtain⟨gz,Nt,AKM,hmz⟩:=AbY hz hsy hmy;have stz:=sty.trans AKM;obtain⟨g0,yk,st0,zN⟩:=dh h0 Nt hmz;split at hh
  ·grind
  ·rename_i σ1 h1;obtain⟨g1,Sb,Sf,UB⟩:=jQ h1 yk zN;split at hh
   ·grind
   ·rename_i σ2 h2;obtain⟨g2,ZO,Qn,S6⟩:=AmO h2 Sb;split at hh
    ·grind
    ·rename_i bs h3;obtain⟨H3,hl⟩:=tu h3 ZO.heap;have vS:LA w g2 ⟨σ2.AU,bs⟩ a:=⟨H3,ZO.len,λi x hx=>by simp only[hl];exact ZO.AU i x hx⟩;obtain⟨g3,hs4,st3,hm3⟩:=jQ hh vS (by simp only[hl];exact S6);exact⟨g3,hs4,(((stz.trans st0).trans Sf).trans Qn).trans st3,hm3⟩
end
theorem Al1{σ σ':St}{s:Nat}{b:Bool}{c:Co}(h:coS σ s b c=some σ'):σ.Aj.length<=σ'.Aj.length:=by
 unfold coS at h;split at h
 ·grind
 grind
theorem ov:∀{l:ATO (Nat×Bool×Co)} {σ σ':St},cJ l σ=some σ'->σ.Aj.length<=σ'.Aj.length
 |[],σ,σ',h=>by
  simp only[cJ,AQb]at h;subst h;exact AQf _
 |(s,b,c)::r,σ,σ',h=>by
  simp only[cJ]at h;split at h
  ·rename_i σ1 h1;exact AQD (Al1 h1) (ov h)
  ·grind
theorem ml:∀{l:ATO (Nat×ATO Nat)} {bs HH:ATO Blk},tt l bs=some HH->HH.length=bs.length
 |[],bs,HH,h=>by
  simp only[tt,AQb]at h;subst h;rfl
 |(k,ks)::r,bs,HH,h=>by
  simp only[tt]at h;split at h
  ·split at h
   ·rw[ml h,AQi]
   ·grind
  ·split at h
   ·rw[ml h,AQi]
   ·grind
  ·grind
theorem Xf{h:SH}{m:Nat}{σ σ':St}(hh:σ.head h m=some σ'):m<=σ'.Aj.length:=by
 unfold St.head at hh;split at hh
 ·grind
 ·split at hh
  ·grind
  ·split at hh
   ·grind
   ·rename_i σ2 h2;split at hh
    ·grind
    ·rename_i bs h3;refine AQD ?_ (ov hh);simp only[ml h3];unfold St.Az at h2
     dsimp only at h2
     split at h2
     ·rename_i hp;injection h2 with h2;subst h2;have:=(AiT (Vd hp).1).1;simpa using this
     ·grind
def rl:Ex->Exit
 |.normal=>.normal
 |.exit n=>.exit n
 |.ret=>.ret
theorem Aet{P:Program}{Q:Exit->Act->World->Prop}{c:Code}(R:Nat->Act->World->Prop)(round:∀n a w,R n a w->c.wp P (Exit.then (λa' w'=>∃k,k<n/\R k a' w') Q) a w){n:Nat}{a:Act}{w:World}(h0:R n a w):(Code.loop c).wp P Q a w:=by
 intro b k cs;have key:∀n a w,R n a w->∃e a' w',Q e a' w'/\Arrives P (lone (b.at a (.code c::.inLoop c::k)) cs w) b k cs e a' w':=by
  intro n;induction n using Nat.strongRecOn with
  |_ n ih =>
   intro a w hI;obtain⟨e,a₁,w₁,hq,ni⟩:=round n a w hI b _ cs;cases e with
   |normal =>
    obtain⟨j,Bw,hI₁⟩:=hq;obtain⟨e₂,a₂,w₂,hq₂,AFQ⟩:=ih j Bw a₁ w₁ hI₁;exact⟨e₂,a₂,w₂,hq₂,.of_steps (Steps.trans ni (.one step_inLoop)) AFQ⟩
   |exit id=>exact⟨_,a₁,w₁,hq,.pass  rfl (λ_ _=>.inl (by simp)) ni⟩
   |goto l=>exact⟨_,a₁,w₁,hq,.pass  rfl (λ_ _=>.inl (by simp)) ni⟩
   |ret=>exact⟨_,a₁,w₁,hq,.pass  rfl (λ_ _=>.inl (by simp)) ni⟩
   |panic ch=>exact⟨_,a₁,w₁,hq,.pass  rfl (λ_ _=>.inl (by simp)) ni⟩
   |outgrown=>exact⟨_,a₁,w₁,hq,.pass  rfl (λ_ _=>.inl (by simp)) ni⟩
 obtain⟨e,a',w',hq,ni⟩:=key n a w h0;exact⟨e,a',w',hq,.of_steps (.one step_loop) ni⟩
inductive ToN {S T:Type} (f:S->Option (S⊕T)):Nat->S->T->Prop
 |done {s:S} {t:T} (h:f s=some (.inr t)):ToN f 0 s t
 |fy {s s':S} {t:T} {n:Nat} (h:f s=some (.inl s')) (k:ToN f n s' t):ToN f (n+1) s t
theorem To.n{S T:Type}{f:S->ATP (S⊕T)}{s:S}{t:T}(h:To f s t):∃n,ToN f n s t:=by
 induction h with
 |done h=>exact⟨0,.done h⟩
 |fy h _ ih=>obtain⟨n,hn⟩:=ih;exact⟨n+1,.fy h hn⟩
structure Jz (P:Program) (en:GX):Prop extends EnvOk P en where
 mixed:P.follows .mixedOrders=true
section
variable {P:Program} {en:GX} {m:Nat}
abbrev Se(e:Ex)(σ:St):Option (Ex×St):=some (e,σ)
theorem AaK{c:Code}(hn:∀(R:Type) (σ:St) (K:Ex->St->ATP R),ev en m c R σ K=(ev en m c (Ex×St) σ Se).bind λp=>K p.1 p.2){R T:Type}{σ:St}{K:Ex->St->ATP R}{K':Ex->St->ATP T}{k:T->ATP R}
    (h:∀e s,K e s=(K' e s).bind k):ev en m c R σ K=(ev en m c T σ K').bind k:=by
 grind
theorem AmQ(he:Z7 en){all:ATO Oper}{is:ATO Nat}{σ:St}{R T:Type}{K:St->ATP R}{K':St->ATP T}{k:T->ATP R}(h:∀s,K s=(K' s).bind k):R6 en all is σ K=(R6 en all is σ K').bind k:=by
 rw[U7 he all is σ K,U7 he all is σ K'];cases R6 en all is σ some with
 |none=>rfl
 |some p=>grind
theorem AkV(he:Z7 en){all:ATO Oper}{A:ATO (Nat×ATO Nat)}{is done OU:ATO Nat}{σ:St}{R T:Type}{K:St->ATP R}{K':St->ATP T}{k:T->ATP R}(h:∀s,K s=(K' s).bind k):Vi en all A is done OU σ K=(Vi en all A is done OU σ K').bind k:=by
 rw[U6 he all A is done OU σ K,U6 he all A is done OU σ K'];cases Vi en all A is done OU σ some with
 |none=>rfl
 |some p=>grind
theorem XK(he:Z7 en):∀(c:Code) (R:Type) (σ:St) (K:Ex->St->ATP R),ev en m c R σ K=(ev en m c (Ex×St) σ Se).bind λp=>K p.1 p.2
 |.skip,_,_,_=>rfl
 |.ret,_,_,_=>rfl
 |.exit _,_,_,_=>rfl
 |.seq a b,R,σ,K=>by
  simp only[ev];split
  ·refine AaK (XK he a) λe s=>?_;cases e with
   |normal=>exact XK he b R s K
   |exit n=>rfl
   |ret=>rfl
  ·rw[AQq];congr 1
   funext s0
   rw[AQq];congr 1
   funext ⟨e,s⟩
   cases e with
   |normal=>exact XK he b R s K
   |exit n=>rfl
   |ret=>rfl
 |.cond c a b,R,σ,K=>by
  simp only[ev];split
  ·rename_i t _;cases t
   ·exact XK he b R σ K
   ·exact XK he a R σ K
  ·rfl
 |.block n a,R,σ,K=>by
  refine AaK (XK he a) λe s=>?_
  grind
 |.region _ Cf false,R,σ,K=>by
  exact AmQ he λs=>rfl
 |.region _ Cf true,R,σ,K=>by
  simp only[ev];split
  ·rw[AQq];congr 1
   funext s0
   generalize AmV en m _ Cf s0=x;cases x<;>rfl
  ·split
   ·exact AkV he λs=>rfl
   ·rfl
 |.loop body,R,σ,K=>by
  simp only[ev];split
  ·split
   ·rfl
   ·generalize fix _ _=x;cases x<;>rfl
  ·rfl
 |.goto _,_,_,_=>rfl
 |.label _,_,_,_=>rfl
 |.rangeFunc ..,_,_,_=>rfl
 |.scope _,_,_,_=>rfl
 |.refuse _,_,_,_=>rfl
theorem X4(he:Z7 en){h ho:SH}{body:Code}{s:St}{r:St⊕(Ex×St)}(hh:p9 en m h ho body s=some r):∃e s',ev en m body (Ex×St) s Se=some (e,s') /\
    ((e=.normal/\∃ZX,s'.head h m=some ZX/\r=.inl ZX)\/(e≠.normal/\∃ZX,s'.head ho m=some ZX/\r=.inr (e,ZX))):=by
 unfold p9 at hh;rw[XK he]at hh;cases hx:ev en m body _ s _ with
 |none=>grind
 |some p =>
  obtain⟨e,s'⟩:=p;rw[hx]at hh;simp only[AP9]at hh;refine⟨e,s',rfl,?_⟩;cases e with
  |normal =>
   cases hn:s'.head h m with
   |none=>grind
   |some ZX=>grind
  |exit n =>
   cases hn:s'.head ho m with
   |none=>grind
   |some ZX=>grind
  |ret =>
   cases hn:s'.head ho m with
   |none=>grind
   |some ZX=>grind
end
theorem VC{σ τ:St}{l:ATO Operand}(h:∀x∈l,σ.Cr x=τ.Cr x):l.map σ.Cr=l.map τ.Cr:=AQY h
theorem Zh{σ τ:St}{l:ATO (Nat×Operand)}(h:∀x∈l.map (·.2),σ.Cr x=τ.Cr x):l.map (λp=>(p.1,σ.Cr p.2))=l.map (λp=>(p.1,τ.Cr p.2)) :=
 AQY λp hp=>by rw[h p.2 (List.mem_map.2 ⟨p,hp,rfl⟩)]
theorem YY{R:Type}{en:GX}{σ τ:St}{o:Oper}{K:H8->ATP R}(hb:σ.Aj=τ.Aj)(h:∀x∈o.op.operands,σ.Cr x=τ.Cr x):R7 en σ o K=R7 en τ o K:=by
 obtain⟨dst,op,type,pos,after,guard⟩:=o;unfold R7
 dsimp only at h⊢
 rw[hb];cases op<;>simp only[Op.operands]at h<;>dsimp only
 case build t ps=>rw[Zh (l:=ps.toList) λx hx=>h x (by simpa using hx)]
 case buildSlice t n ps=>rw[Zh (l:=ps.toList) λx hx=>h x (by simpa using hx)]
 case makeFunc fn first captured =>
  rw[VC (l:=captured.toList) λx hx=>h x (by simp[Array.mem_toList_iff.1 hx])]
 case call c =>
  have ha:Qi σ c.args=Qi τ c.args:=VC λx hx=>h x (by simp[Call.operands,Array.mem_toList_iff.1 hx]);unfold Xc;rw[ha,hb];cases hc:c.callee with
  |value f =>
   have hf:σ.Cr f=τ.Cr f:=h f (by simp[Call.operands,hc]);simp only[hf]
  |builtin b=>cases b<;>rfl
  |invoke r n=>rfl
 case slice t x lo hi mx =>
  have hx:σ.Cr x=τ.Cr x:=h x (by simp);have hlo:lo.map σ.Cr=lo.map τ.Cr:=by cases lo with |none=>rfl |some y=>simp[h y (by simp)]
  have hhi:hi.map σ.Cr=hi.map τ.Cr:=by cases hi with |none=>rfl |some y=>simp[h y (by simp)]
  have vM:mx.map σ.Cr=mx.map τ.Cr:=by cases mx with |none=>rfl |some y=>simp[h y (by simp)]
  rw[hx,hlo,hhi,vM]
 all_goals (first |rfl |(simp_all;done))
theorem YX{R:Type}{en:GX}{σ τ:St}{o:Oper}{K:H8->ATP R}(hb:σ.Aj=τ.Aj)(h:∀x∈o.op.operands,σ.Cr x=τ.Cr x):Wb en σ o K=Wb en τ o K:=by
 have ha:jA en σ o=jA en τ o:=by
  obtain⟨dst,op,type,pos,after,guard⟩:=o;unfold jA;cases op<;>simp only[Op.operands]at h<;>dsimp only
  case load t x=>rw[h x (by simp),hb]
  case build t ps=>rw[Zh (l:=ps.toList) λx hx=>h x (by simpa using hx)]
  case index t x i=>rw[h x (by simp),h i (by simp)]
  case field t x f=>rw[h x (by simp)]
  case indexAddr t x i=>rw[h x (by simp),h i (by simp)]
  case call c =>
   have ha:Qi σ c.args=Qi τ c.args:=VC λx hx=>h x (by simp[Call.operands,Array.mem_toList_iff.1 hx]);rw[ha]
 have hs:xe en σ o=xe en τ o:=by
  obtain⟨dst,op,type,pos,after,guard⟩:=o;unfold xe AdS;cases op<;>simp only[Op.operands]at h<;>dsimp only
  case store t x v=>rw[h x (by simp),h v (by simp),hb]
 have ht:tlE en σ o=tlE en τ o:=by
  obtain⟨dst,op,type,pos,after,guard⟩:=o;unfold tlE;cases op<;>simp only[Op.operands]at h<;>dsimp only
  case slice t x lo hi mx =>
   cases lo with
   |none=>rfl
   |some lo=>cases hi with
    |some _=>rfl
    |none=>cases mx with
     |some _=>rfl
     |none=>dsimp only;rw[h x (by simp),h lo (by simp),hb]
  case indexAddr t x i=>rw[h x (by simp),h i (by simp),hb]
  case call c =>
   have ha:Qi σ c.args=Qi τ c.args:=VC λx hx=>h x (by simp[Call.operands,Array.mem_toList_iff.1 hx]);rw[ha,hb]
 unfold Wb;rw[ha,hs,ht,hb];split
 ·rfl
 split
 ·rfl
 split
 ·rfl
 ·split
  ·have hd:ki en o=ki en o:=rfl;cases ki en o
   ·exact YY hb h
   ·simp only[AQp];rw[show τ.Aj=σ.Aj from hb.symm];exact YY hb h
  ·exact YY hb h
theorem zz{R:Type}{en:GX}{σ τ:St}{o:Oper}{K:H8->ATP R}(hb:σ.Aj=τ.Aj)(h:∀x∈o.op.operands,σ.Cr x=τ.Cr x):exec en σ o K=exec en τ o K:=by
 unfold exec;split
 ·rename_i c d ho _;have ha:Qi σ c.args=Qi τ c.args:=VC λx hx=>h x (by rw[ho];simp[Op.operands,Call.operands,Array.mem_toList_iff.1 hx]);rw[ha,hb];split
  ·split
   ·exact YX rfl h
   ·rfl
  ·exact YX hb h
 ·exact YX hb h
theorem Nw:∀a:AV,a.OR id=a
 |.AB ks t x=>by simp[AV.OR]
 |.FQ ks t x=>by simp[AV.OR]
 |.AK k=>rfl
 |.mp k=>rfl
 |.ptr k i p o=>rfl
 |.UT _ _ _ _ _=>rfl
 |.WM _ _ _ _ _ _=>rfl
 |.pr a b=>by simp[AV.OR,Nw a,Nw b]
 |.fn g c=>by simp[AV.OR,Nw c]
 |.cons a b=>by simp[AV.OR,Nw a,Nw b]
 |.zs=>rfl
 |.KG=>rfl
 |.nil=>rfl
 |.un n=>rfl
theorem aT(b:Blk):b.OR id=b:=by
 cases b with
 |Bg=>rfl
 |map m kt vt es st=>cases m<;>simp[Blk.OR,RM.OR]
 |R1 e t xs i p=>rfl
 |tail e t xs=>rfl
 |box a=>simp[Blk.OR,Nw]
 |row e m t xs=>cases m<;>simp[Blk.OR,RM.OR]
def XE(bs:ATO Blk):Prop:=∀(k:Nat) (x:Blk),bs[k]?=some x->∀j∈x.Cx,j<bs.length
theorem AfT{w:World}{g:G}{n k:Nat}{x:Blk}(h:Nu w g n k x):∀j∈x.Cx,j<n:=by
 cases x with
 |Bg=>intro j hj;cases hj
 |map m kt vt es st=>exact h.1
 |R1 e t xs i p=>intro j hj;cases hj
 |tail e t xs=>intro j hj;cases hj
 |box a=>obtain⟨_,_,_,_,_,_,_,hx⟩:=h;exact CN.UC a false hx
 |row e m t xs=>exact h.1
theorem Bo.scp{w:World}{g:G}{bs:ATO Blk}(H:Bo w g bs):XE bs:=λk x hx=>AfT (H.MP k x hx)
def G.cut(g:G)(n:Nat):G:=⟨λb=>match g.own b with |.BV k r=>if k<n then .BV k r else .no |t=>t,g.A5⟩
def G.di(g g':G)(n:Nat):G:=⟨λb=>match g.own b with |.BV k r=>if k<n then g'.own b else .BV k r |_=>g'.own b,λk=>if k<n then g'.A5 k else g.A5 k⟩
section
variable {P:Program} {o:Oper} {e:H8}
theorem iH{g:G}{n k:Nat}(hk:k<n):Ren id g (g.cut n) n k:=⟨hk,rfl,λb r h=>by simp[G.cut,h,hk]⟩
theorem Aef{σ:St}(QU:OA P σ o e)(hm:e.BJ=[]){l l':ATO Blk}(zL:e.Aj=σ.Aj++l')(hor:l=[]\/l'=[]){w:World}{g:G}{a:Act}(H:Bo w g (σ.Aj++l))(hsc:XE σ.Aj)(hlen:σ.AU.length=a.tmps.size)
    (Jc:∀(i:Nat) (x:AV),σ.AU[i]?=some x->Cb w g (σ.Aj++l).length x (a.tmps.getD i undef)/\∀k∈x.Cx,k<σ.Aj.length) {next:Act->World->Prop} {Q:Exit->Act->World->Prop}
    (hn:∀v w' g',Bo w' g' (σ.Aj++(l++l'))->Cb w' g' (σ.Aj++(l++l')).length e.val v->(∀k∈e.val.Cx,k<e.Aj.length)->Step [] (σ.Aj++l).length w g w' g'->next (a.put o.dst v) w'):o.wp P a w next Q:=by
 rcases hor with rfl |rfl
 ·simp only[AQO,ARg]at H Jc hn;refine QU.wp a w g ⟨H,hlen,λi x hx=>(Jc i x hx).1⟩ next Q λv w' g' H' hv BX=>?_
  rw[hm]at BX;rw[zL]at H' hv;exact hn v w' g' H' hv (by rw[zL];exact hv.UC) BX
 ·simp only[AQO]at zL hn
  let n:=σ.Aj.length
  have hnl:n<=(σ.Aj++l).length:=by simp[n]
  have Y6:∀k,k<n->Ren id g (g.cut n) n k:=λk hk=>iH hk;have kG:∀b,g.own b=.Jd->(g.cut n).own b=.Jd:=λb h=>by simp[G.cut,h]
  have Hr:Bo w (g.cut n) σ.Aj:=by
   refine⟨λb hb=>by simp[G.cut,H.B7 b hb],λk x hx=>?_⟩;have hk:=A7 hx;have h1:=H.MP k x (by rw[AQw hk];exact hx);have:=h1.OR (φ:=id) kG (Y6 k hk) λj hj=>Y6 j (hsc k x hx j hj);rwa [aT]at this
  refine QU.wp a w (g.cut n) ⟨Hr,hlen,λi x hx=>?_⟩ next Q λv w' g' H' hv BX=>?_
  ·obtain⟨h1,h2⟩:=Jc i x hx;have:=h1.OR (φ:=id) (g':=g.cut n) (n':=n) kG λk hk=>Y6 k (h2 k hk);rwa [Nw]at this
  ·rw[hm]at BX;rw[zL]at H' hv;have Aml:∀b,g.own b≠.no->b<w.heap.size:=λb h=>Vp H h;have rG:∀b k r,g.own b=.BV k r->¬k<n->g'.own b=.no/\w'.heap[b]?=w.heap[b]?:=λb k r h hk=>BX.no b (Aml b (by rw[h];simp)) (by simp[G.cut,h,hk]);have st:Step [] (σ.Aj++l).length w g w' (g.di g' n):=by
    refine⟨BX.os,BX.tape,BX.output,BX.size,λb hb h=>?_,λb h=>?_,λb k r h hk hm=>?_,λk hk=>?_⟩
    ·have:=BX.no b hb (by simp[G.cut,h]);exact⟨by simp[G.di,h,this.1],this.2⟩
    ·have:=BX.Jd b (kG b h);exact⟨by simp[G.di,h,this.1],this.2⟩
    ·by_cases fY:k<n
     ·have:=BX.BV b k r (by simp[G.cut,h,fY]) fY (by simp);exact⟨by simp[G.di,h,fY,this.1],this.2⟩
     ·exact⟨by simp[G.di,h,fY],(rG b k r h fY).2⟩
    ·by_cases fY:k<n
     ·have:=BX.A5 k fY;simp only[G.di,AQr fY,this];rfl
     ·simp[G.di,fY]
   have AhE:∀k,k<n->Ren id g' (g.di g' n) (σ.Aj++l).length k:=λk hk=>by
    refine⟨by show k<_;omega,by simp[G.di,hk],λb r h=>?_⟩;simp only[G.di,id];split
    ·rename_i k' r' hg;split
     ·exact h
     ·rename_i XC;rw[(rG b k' r' hg XC).1]at h;cases h
    ·exact h
   have An7:∀b,g'.own b=.Jd->(g.di g' n).own b=.Jd:=λb h=>by
    simp only[G.di];split
    ·rename_i k' r' hg;split
     ·exact h
     ·rename_i XC;rw[(rG b k' r' hg XC).1]at h;cases h
    ·exact h
   refine hn v w' (g.di g' n) ⟨λb hb=>?_,λk x hx=>?_⟩ ?_ (by rw[zL];exact hv.UC) st
   ·have h1:=H'.B7 b hb;have h2:=H.B7 b (AQD BX.size hb);simp[G.di,h2,h1]
   ·by_cases hk:k<n
    ·rw[AQw hk]at hx;have:=(H'.MP k x hx).OR (φ:=id) An7 (AhE k hk) λj hj=>AhE j (hsc k x hx j hj);rwa [aT]at this
    ·exact(H.MP k x hx).RO st (AQf _) (A7 hx)
   ·have:=hv.OR (φ:=id) An7 λk hk=>AhE k (hv.UC k hk);rwa [Nw]at this
end
theorem lg:∀(r l:ATO Nat) {x:Nat},x∈ik l r->x∈l\/x∈r
 |[],_,_,h=>.inl h
 |k::r,l,x,h=>by
  simp only[ik]at h;split at h
  ·rcases lg r l h with h |h
   ·exact .inl h
   ·exact .inr (by simp[h])
  ·rcases lg r _ h with h |h
   ·rcases List.mem_append.1 h with h |h
    ·exact .inl h
    ·simp at h;exact .inr (by simp[h])
   ·exact .inr (by simp[h])
def oa(all:ATO Oper)(A:ATO (Nat×ATO Nat)):Prop:=∀i x,x∈Eu A i->x∈Vg all i\/∃d∈Vg all i,x∈Eu A d
theorem og(all:ATO Oper):∀(is:ATO Nat) (A:ATO (Nat×ATO Nat)),oa all A->nodup is=true->(∀i∈is,∀p∈A,p.1≠i)->oa all (YP all is A)
 |[],_,h,_,_=>h
 |i::is,A,h,hn,hf=>by
  simp only[nodup,AQg,ARv]at hn;refine og all is _ ?_ hn.2 ?_
  ·have AdC:∀d y,y∈Eu A d->y∈Eu ((i,ik [] (Vg all i++(Vg all i).flatMap (Eu A)))::A) d:=by
     intro d y hy;simp only[Eu];split
     ·rename_i he;have he:i=d:=by simpa using he
      subst he;have:∀(A:ATO (Nat×ATO Nat)),(∀p∈A,p.1≠i)->Eu A i=[]:=by
       intro A;induction A with
       |nil=>exact λ_=>rfl
       |cons p A ih =>
        intro hp;obtain⟨k,l⟩:=p;simp only[Eu];rw[AQs (by simpa using hp (k,l) (by simp))];exact ih λq hq=>hp q (by simp[hq])
      rw[this A (hf i (by simp))]at hy;cases hy
     ·exact hy
   intro j x hx;by_cases he:i=j
   ·subst he;simp only[Eu,ASi,AQV]at hx;rcases lg _ _ hx with hx |hx
    ·cases hx
    ·rcases List.mem_append.1 hx with hx |hx
     ·exact .inl hx
     ·obtain⟨d,hd,hx⟩:=List.mem_flatMap.1 hx;exact .inr ⟨d,hd,AdC d x hx⟩
   ·simp only[Eu]at hx;rw[AQs (by simpa using he)]at hx;rcases h j x hx with h |⟨d,hd,hx⟩
    ·exact .inl h
    ·exact .inr ⟨d,hd,AdC d x hx⟩
  ·intro j hj p hp;rcases List.mem_cons.1 hp with rfl |hp
   ·intro e;have e:i=j:=e;subst e;have:=hn.1;simp[hj]at this
   ·exact hf j (by simp[hj]) p hp
def jg(A:ATO (Nat×ATO Nat))(D:Nat->Bool):Prop:=∀i,D i=true->∀x∈Eu A i,D x=true
theorem pU{all:ATO Oper}{A:ATO (Nat×ATO Nat)}(hA:oa all A){D:Nat->Bool}(hc:jg A D){i:Nat}(hd:∀d∈Vg all i,D d=true):∀x∈Eu A i,D x=true:=λx hx=>by
 rcases hA i x hx with h |⟨d,hdi,h⟩
 ·exact hd x h
 ·exact hc d (hd d hdi) x h
structure Jg where
 i:Nat
 o:Oper
 σ:St
 e:Option H8
def Jg.val(t:Jg):AV:=match t.e with |some e=>e.val |none=>.nil
def Jg.post(t:Jg):St:=match t.e with |some e=>t.σ.after t.o.dst e |none=>t.σ.skip t.o.dst
def Jg.mV(t:Jg):Bool:=match t.e with |some e=>!e.BJ.isEmpty |none=>false
def Jg.grow(t:Jg):Bool:=match t.e with |some e=>e.BJ.isEmpty&&decide (e.Aj.length≠t.σ.Aj.length)|none=>false
def Jg.Ok(en:GX)(all:ATO Oper)(t:Jg):Prop:=all[t.i]?=some t.o/\match t.e with |some e=>Want all t.σ t.o true/\exec en t.σ t.o some=some e |none=>Want all t.σ t.o false
inductive Tr (en:GX) (all:List Oper) (A:List (Nat×List Nat)):List Nat->List Nat->St->List Jg->St->Prop
 |nil {done OU:List Nat} {σ:St}:Tr en all A done OU σ [] σ
 |cons {done OU:List Nat} {σ σ':St} {t:Jg} {ts:List Jg} (hσ:t.σ=σ) (ok:t.Ok en all) (ha:∀x∈OU,x∈Eu A t.i) (hb:t.mV=true->∀x∈done,x∈Eu A t.i)
     (next:Tr en all A (t.i::done) (if t.mV||t.grow then t.i::OU else OU) t.post ts σ'):Tr en all A done OU σ (t::ts) σ'
section
variable {en:GX} {all:ATO Oper} {A:ATO (Nat×ATO Nat)}
theorem da(he:Z7 en):∀{is done OU:ATO Nat} {σ σ':St},Vi en all A is done OU σ some=some σ'->∃ts:ATO Jg,ts.map (·.i)=is/\Tr en all A done OU σ ts σ'
 |[],done,OU,σ,σ',h=>by
  simp only[Vi,AQb]at h;subst h;exact⟨[],rfl,.nil⟩
 |i::is,done,OU,σ,σ',h=>by
  simp only[Vi]at h;split at h
  ·cases h
  ·rename_i o ho;split at h
   ·rename_i AJr;have AhC:∀x∈OU,x∈Eu A i:=λx hx=>by have:=List.all_eq_true.1 AJr x hx;simpa using this
    rcases Qr h with ⟨hw,h⟩|⟨hw,h⟩
    ·rw[Tw en he]at h;cases hx:exec en σ o some with
     |none=>rw[hx]at h;cases h
     |some e =>
      rw[hx]at h;simp only[AP9]at h;split at h
      ·rename_i hm;obtain⟨ts,h1,h2⟩:=da he h;refine⟨⟨i,o,σ,some e⟩::ts,by simp[h1],.cons rfl ⟨ho,hw,hx⟩ AhC (λhb=>?_) ?_⟩
       ·simp[Jg.mV,hm]at hb
       ·simp only[Jg.mV,Jg.grow,hm,AQS,ASl,AR8,Jg.post];by_cases hl:e.Aj.length=σ.Aj.length
        ·simpa [hl]using h2
        ·simpa [hl]using h2
      ·rename_i hm;split at h
       ·rename_i fX;obtain⟨ts,h1,h2⟩:=da he h;refine⟨⟨i,o,σ,some e⟩::ts,by simp[h1],.cons rfl ⟨ho,hw,hx⟩ AhC (λhb x hx=>?_) ?_⟩
        ·have:=List.all_eq_true.1 fX x hx;simpa using this
        ·simp only[Jg.mV,Jg.post];have hm':e.BJ.isEmpty=false:=by simpa using hm
         simpa [hm']using h2
       ·cases h
    ·obtain⟨ts,h1,h2⟩:=da he h;refine⟨⟨i,o,σ,none⟩::ts,by simp[h1],.cons rfl ⟨ho,hw⟩ AhC (λhb=>by cases hb) ?_⟩;simpa [Jg.mV,Jg.grow,Jg.post]using h2
   ·cases h
theorem Tr.AfH:∀{ts:ATO Jg} {done OU:ATO Nat} {σ σ':St},Tr en all A done OU σ ts σ'->∀x∈OU,∀u∈ts,x∈Eu A u.i
 |[],_,_,_,_,_,_,_,_,hu=>by cases hu
 |t::ts,_,_,_,_,.cons _ _ ha _ next,x,hx,u,hu=>by
  rcases List.mem_cons.1 hu with rfl |hu
  ·exact ha x hx
  ·exact next.AfH x (by split<;>simp[hx]) u hu
theorem Tr.aI:∀{Cj post:ATO Jg} {t:Jg} {done OU:ATO Nat} {σ σ':St},Tr en all A done OU σ (Cj++t::post) σ' ->
    ((t.mV||t.grow)=true->∀u∈post,t.i∈Eu A u.i)/\(t.mV=true->(∀x∈done,x∈Eu A t.i)/\∀u∈Cj,u.i∈Eu A t.i)
 |[],post,t,done,OU,σ,σ',.cons hσ ok ha hb next=>by
  refine⟨λh u hu=>next.AfH t.i (by rw[AQr h];simp) u hu,λh=>⟨hb h,λu hu=>by cases hu⟩⟩
 |p::Cj,post,t,done,OU,σ,σ',.cons hσ ok ha hb next=>by
  obtain⟨h1,h2⟩:=next.aI
  refine⟨h1,λh=>⟨λx hx=>(h2 h).1 x (by simp[hx]),λu hu=>?_⟩⟩;rcases List.mem_cons.1 hu with rfl |hu
  ·exact(h2 h).1 u.i (by simp)
  ·exact(h2 h).2 u hu
theorem Tr.split:∀{Cj ts:ATO Jg} {done OU:ATO Nat} {σ σ':St},Tr en all A done OU σ (Cj++ts) σ'->∃AcR σ1,Tr en all A done OU σ Cj σ1/\Tr en all A ((Cj.map (·.i)).reverse++done) AcR σ1 ts σ'
 |[],ts,done,OU,σ,σ',h=>⟨OU,σ,.nil,h⟩
 |p::Cj,ts,done,OU,σ,σ',.cons hσ ok ha hb next=>by
  obtain⟨AcR,σ1,h1,h2⟩:=next.split
  exact⟨AcR,σ1,.cons hσ ok ha hb h1,by simpa using h2⟩
theorem Tr.AiN:∀{ts:ATO Jg} {done OU:ATO Nat} {σ σ':St},Tr en all A done OU σ ts σ'->∀u∈ts,u.Ok en all
 |[],_,_,_,_,_,_,hu=>by cases hu
 |t::ts,_,_,_,_,.cons _ ok _ _ next,u,hu=>by
  rcases List.mem_cons.1 hu with rfl |hu
  ·exact ok
  ·exact next.AiN u hu
end
def MS(D:Nat->Bool):ATO Jg->ATO AV->ATO AV
 |[],sl=>sl
 |t::ts,sl=>MS D ts (if D t.i then aj t.o.dst t.val sl else sl)
def Jg.nb(t:Jg)(bs:ATO Blk):ATO Blk:=match t.e with |some e=>e.Aj |none=>bs
def Ia(D:Nat->Bool):ATO Jg->ATO Blk->ATO Blk
 |[],bs=>bs
 |t::ts,bs=>Ia D ts (if D t.i&&t.grow then t.nb bs else bs)
theorem iV{d:ATP Nat}{v:AV}{sl:ATO AV}{k:Nat}(h:d≠some k):(aj d v sl)[k]?=sl[k]?:=by
 cases d with
 |none=>rfl
 |some d =>
  have:d≠k:=λe=>h (by rw[e]);simp[aj,AQy,this]
theorem lC{d:ATP Nat}{v:AV}{sl sl':ATO AV}{k:Nat}(h:sl[k]?=sl'[k]?):(aj d v sl)[k]?=(aj d v sl')[k]?:=by
 cases d with
 |none=>exact h
 |some d =>
  simp only[aj,AQy];split
  ·rename_i e;subst e;have:d<sl.length↔d<sl'.length:=by
    constructor
    ·intro hl;rw[ARi hl]at h;exact A7 h.symm
    ·intro hl;rw[ARi hl]at h;exact A7 h
   by_cases hl:d<sl.length
   ·rw[AQr hl,AQr (this.1 hl)]
   ·rw[AQs hl,AQs (λh=>hl (this.2 h))]
  ·exact h
theorem pR{d:Nat}{v:AV}{sl:ATO AV}{x:AV}(h:(aj (some d) v sl)[d]?=some x):x=v:=by
 simp only[aj,AQy,AQV]at h;split at h
 ·injection h with h;exact h.symm
 ·cases h
theorem cP(D:Nat->Bool):∀(ts:ATO Jg) (sl:ATO AV),(MS D ts sl).length=sl.length
 |[],_=>rfl
 |t::ts,sl=>by
  rw[MS,cP D ts];split
  ·exact dG ..
  ·rfl
theorem YW(D:Nat->Bool):∀(Cj ts:ATO Jg) (sl:ATO AV),MS D (Cj++ts) sl=MS D ts (MS D Cj sl)
 |[],_,_=>rfl
 |t::Cj,ts,sl=>by rw[AR4,MS,MS,YW D Cj ts]
theorem cO(D:Nat->Bool):∀(Cj ts:ATO Jg) (bs:ATO Blk),Ia D (Cj++ts) bs=Ia D ts (Ia D Cj bs)
 |[],_,_=>rfl
 |t::Cj,ts,bs=>by rw[AR4,Ia,Ia,cO D Cj ts]
theorem jW{D:Nat->Bool}{k:Nat}:∀{ts:ATO Jg} {sl sl':ATO AV},sl[k]?=sl'[k]?->(MS D ts sl)[k]?=(MS D ts sl')[k]?
 |[],_,_,h=>h
 |t::ts,sl,sl',h=>by
  simp only[MS];refine jW ?_;split
  ·exact lC h
  ·exact h
theorem aY{D:Nat->Bool}{k:Nat}:∀{ts:ATO Jg} {sl sl':ATO AV},(∀u∈ts,D u.i=false->u.o.dst≠some k)->sl[k]?=sl'[k]?->(MS D ts sl)[k]?=(MS (λ_=>true) ts sl')[k]?
 |[],_,_,_,h=>h
 |t::ts,sl,sl',hu,h=>by
  simp only[MS,AQV];refine aY (λu hm=>hu u (by simp[hm])) ?_;cases hD:D t.i with
  |true=>simp only[AQV];exact lC h
  |false =>
   simp only[AQX,ARA];rw[iV (hu t (by simp) hD)];exact h
theorem ZE{D:Nat->Bool}{k:Nat}:∀{ts:ATO Jg} {sl:ATO AV},(∀u∈ts,D u.i=true->u.o.dst≠some k)->(MS D ts sl)[k]?=sl[k]?
 |[],_,_=>rfl
 |t::ts,sl,hu=>by
  simp only[MS];rw[ZE λu hm=>hu u (by simp[hm])];split
  ·rename_i h;exact iV (hu t (by simp) h)
  ·rfl
theorem zt{D D':Nat->Bool}:∀{ts:ATO Jg} {sl:ATO AV},(∀u∈ts,D u.i=D' u.i)->MS D ts sl=MS D' ts sl
 |[],_,_=>rfl
 |t::ts,sl,h=>by
  rw[MS,MS,h t (by simp)];exact zt λu hu=>h u (by simp[hu])
theorem zr{D D':Nat->Bool}:∀{ts:ATO Jg} {bs:ATO Blk},(∀u∈ts,D u.i=D' u.i)->Ia D ts bs=Ia D' ts bs
 |[],_,_=>rfl
 |t::ts,bs,h=>by
  rw[Ia,Ia,h t (by simp)];exact zr λu hu=>h u (by simp[hu])
theorem ZD{D:Nat->Bool}:∀{ts:ATO Jg} {bs:ATO Blk},(∀u∈ts,D u.i=true->u.grow=false)->Ia D ts bs=bs
 |[],_,_=>rfl
 |t::ts,bs,h=>by
  rw[Ia];have:(D t.i&&t.grow)=false:=by
   cases hD:D t.i with
   |false=>rfl
   |true=>rw[h t (by simp) hD];rfl
  rw[this];exact ZD λu hu=>h u (by simp[hu])
section
variable {P:Program} {en:GX} {all:ATO Oper} {A:ATO (Nat×ATO Nat)}
theorem cZ(he:EnvOk P en){t:Jg}(ok:t.Ok en all)(hb:t.mV=false):∃l,t.post.Aj=t.σ.Aj++l/\(t.grow=false->l=[])/\(∀e,t.e=some e->e.BJ=[]/\e.Aj=t.σ.Aj++l)/\t.post.AU=aj t.o.dst t.val t.σ.AU:=by
 unfold Jg.Ok at ok;unfold Jg.mV at hb;unfold Jg.post Jg.grow Jg.val;cases hq:t.e with
 |none=>exact⟨[],by simp[St.skip],λ_=>rfl,λe h=>by(cases h),rfl⟩
 |some e =>
  rw[hq]at ok hb;have hm:e.BJ=[]:=by simpa using hb
  have QU:=Tx he ok.2.2;obtain⟨l,hl⟩:=QU.ext hm;refine⟨l,hl,λh=>?_,λe' h=>by injection h with h;subst h;exact⟨hm,hl⟩,?_⟩
  ·simp only[hm,List.isEmpty_nil,AR8,AQ0,ne_eq,Decidable.not_not]at h;rw[hl,AQd]at h;exact AQ2 (by omega)
  ·simp only[St.after,hm,Vh]
theorem Tr.oe(he:EnvOk P en):∀{ts:ATO Jg} {done OU:ATO Nat} {σ σ':St},Tr en all A done OU σ ts σ'->(∀u∈ts,u.mV=false)->σ'.AU=MS (λ_=>true) ts σ.AU/\σ'.Aj=Ia (λ_=>true) ts σ.Aj/\(∃l,σ'.Aj=σ.Aj++l)
 |[],_,_,_,_,.nil,_=>⟨rfl,rfl,[],(AQO _).symm⟩
 |t::ts,done,OU,σ,σ',.cons hσ ok ha hb next,T8=>by
  obtain⟨l,h1,h2,h3,h4⟩:=cZ he ok (T8 t (by simp));obtain⟨i1,i2,l',i3⟩:=next.oe he λu hu=>T8 u (by simp[hu])
  subst hσ;refine⟨by rw[i1,MS,AQr rfl,h4],?_,l++l',by rw[i3,h1,AQh]⟩;rw[i2,Ia,AR8];congr 1;cases hg:t.grow with
  |false=>rw[h1,h2 hg,AQO];rfl
  |true =>
   cases hq:t.e with
   |none=>simp[Jg.grow,hq]at hg
   |some e=>simp only[AQV,Jg.nb,hq];rw[h1,(h3 e hq).2]
theorem Tr.uW(he:EnvOk P en)(D:Nat->Bool):∀{ts:ATO Jg} {done OU:ATO Nat} {σ σ':St},Tr en all A done OU σ ts σ'->(∀u∈ts,u.mV=false)->∀(b0:ATO Blk),(∃l,σ.Aj=b0++l)->∀bs,(∃l,bs=b0++l)->∃l,Ia D ts bs=b0++l
 |[],_,_,_,_,_,_,_,_,_,h=>h
 |t::ts,done,OU,σ,σ',.cons hσ ok ha hb next,T8,b0,zH,bs,hbs=>by
  obtain⟨l,h1,h2,h3,h4⟩:=cZ he ok (T8 t (by simp));obtain⟨l0,iK⟩:=zH;subst hσ;rw[Ia];refine next.uW he D (λu hu=>T8 u (by simp[hu])) b0 ⟨l0++l,by rw[h1,iK,AQh]⟩ _ ?_
  split
  ·cases hq:t.e with
   |none=>simpa [Jg.nb,hq]using hbs
   |some e=>exact⟨l0++l,by simp only[Jg.nb,hq];rw[(h3 e hq).2,iK,AQh]⟩
  ·exact hbs
end
theorem fl:∀{Be:ATO Nat} {l:ATO AV} {j i:Nat},(j+i)∈Be->(Sc Be j l)[i]?=l[i]?
 |Be,a::r,j,0,h=>by
  have h':j∈Be:=h;simp[Sc,h']
 |Be,a::r,j,i+1,h=>by
  simp only[Sc,List.getElem?_cons_succ];exact fl (by rwa [show j+1+i=j+(i+1) by omega])
 |_,[],_,_,_=>by simp[Sc]
theorem oW:∀{Be:ATO Nat} {l:ATO AV} {j i:Nat} {x:AV},(j+i)∉Be->(Sc Be j l)[i]?=some x->x=.un 0
 |Be,a::r,j,0,x,h,hx=>by
  have:Be.contains j=false:=by simpa using h
  simp only[Sc,this,AQX,ARA,List.getElem?_cons_zero,AQb]at hx;exact hx.symm
 |Be,a::r,j,i+1,x,h,hx=>by
  simp only[Sc,List.getElem?_cons_succ]at hx;exact oW (by rwa [show j+1+i=j+(i+1) by omega]) hx
 |_,[],_,_,_,_,hx=>by simp[Sc]at hx
def wE(Cf:Array Oper)(o:Oper)(σ:St):St:=⟨Sc (o.looksAt Cf) 0 σ.AU,σ.Aj⟩
theorem AdM{en:GX}{Cf:Array Oper}{o:Oper}{σ:St}{K:H8->ATP H8}:exec en (wE Cf o σ) o K=exec en σ o K:=by
 refine zz rfl λx hx=>?_;cases x with
 |tmp t =>
  have:t∈o.looksAt Cf:=AQH _ (List.mem_filterMap.2 ⟨.tmp t,by simpa using hx,rfl⟩);simp only[St.Cr,wE];rw[fl (j:=0) (by simpa using this)]
 |const v=>rfl
 |global g=>rfl
 |func f=>rfl
theorem aX{D:Nat->Bool}:∀{ts:ATO Jg} {bs:ATO Blk},(∀u∈ts,u.grow=true->D u.i=true)->Ia D ts bs=Ia (λ_=>true) ts bs
 |[],_,_=>rfl
 |t::ts,bs,h=>by
  rw[Ia,Ia];have:(D t.i&&t.grow)=(true&&t.grow):=by
   cases hg:t.grow with
   |false=>simp
   |true=>rw[h t (by simp) hg]
  rw[this];exact aX λu hu=>h u (by simp[hu])
theorem oK{t:Jg}{e:H8}(h:t.e=some e):t.post.Aj=e.Aj:=by simp[Jg.post,h,St.after]
theorem jU{D:Nat->Bool}:∀{ts:ATO Jg} {bs:ATO Blk},Ia D ts bs=bs\/∃u∈ts,D u.i=true/\u.grow=true/\Ia D ts bs=u.post.Aj
 |[],_=>.inl rfl
 |t::ts,bs=>by
  rw[Ia];rcases jU (D:=D) (ts:=ts) (bs:=if D t.i&&t.grow then t.nb bs else bs)with h |⟨u,hu,h1,h2,h3⟩
  ·rw[h];split
   ·rename_i hc;rw[AQg]at hc;cases hq:t.e with
    |none=>exact .inl (by simp[Jg.nb,hq])
    |some e=>exact .inr ⟨t,by simp,hc.1,hc.2,by rw[oK hq];simp[Jg.nb,hq]⟩
   ·exact .inl rfl
  ·exact .inr ⟨u,by simp[hu],h1,h2,h3⟩
theorem jV:∀{ts:ATO Jg} {sl:ATO AV} {k:Nat} {x:AV},(MS (λ_=>true) ts sl)[k]?=some x->sl[k]?=some x\/∃Cj u post,ts=Cj++u::post/\u.o.dst=some k/\x=u.val
 |[],_,_,_,h=>.inl h
 |t::ts,sl,k,x,h=>by
  simp only[MS,AQV]at h;rcases jV h with h |⟨Cj,u,post,e,h1,h2⟩
  ·by_cases hd:t.o.dst=some k
   ·rw[hd]at h;exact .inr ⟨[],t,ts,rfl,hd,pR h⟩
   ·rw[iV hd]at h;exact .inl h
  ·exact .inr ⟨t::Cj,u,post,by rw[e];rfl,h1,h2⟩
structure Inv (P:Program) (A:List (Nat×List Nat)) (N:Nat) (done:List Nat) (I7:List Jg) (σ:St) (m:Nat) (a0:Act) (w0:World) (g0:G) (D:Nat->Bool) (a:Act) (w:World) (g:G):Prop where
 zE:∀i∈done,D i=true
 only:∀i,D i=true->i∈done\/∃u∈I7,u.i=i
 jP:jg A D
 dfr:a.defers=a0.defers
 len:σ.AU.length=a.tmps.size
 step:BL m w0 g0 w g
 heap:Bo w g (Ia D I7 σ.Aj)
 AU:∀(i:Nat) (x:AV),(MS D I7 σ.AU)[i]?=some x->Cb w g (Ia D I7 σ.Aj).length x (a.tmps.getD i undef)
 Cx:∀u∈I7,D u.i=true->∀k∈u.val.Cx,k<u.post.Aj.length
 scp:∀u∈I7,D u.i=true->u.grow=true->XE u.post.Aj
section
variable {P:Program} {en:GX} {Cf:Array Oper} {A:ATO (Nat×ATO Nat)} {N m:Nat} {done OU:ATO Nat} {I7 Cj post:ATO Jg} {t:Jg} {σ σ1:St} {a0 a:Act} {w0 w:World} {g0 g:G} {D:Nat->Bool}
theorem Inv.find(he:EnvOk P en)(Xj:Inv P A N done I7 σ m a0 w0 g0 D a w g)(ig:Tr en Cf.toList A done OU σ I7 σ1)(T8:∀u∈I7,u.mV=false)(TA:I7=Cj++t::post)(Sp:D t.i=false)(XO:∀x∈Eu A t.i,D x=true)
    (cf:∀u∈Cj,u.i∈Eu A t.i\/u.o.apart Cf t.o=true) (gb:∀u∈post,t.i∈Eu A u.i\/t.o.apart Cf u.o=true)
    (h0:∀(i:Nat) (x:AV),σ.AU[i]?=some x->∀k∈x.Cx,k<σ.Aj.length) (nt:XE σ.Aj) :
    (∃l,Ia D I7 σ.Aj=t.σ.Aj++l/\Ia D post t.σ.Aj=t.σ.Aj++l/\(t.grow=true->l=[]))/\XE t.σ.Aj/\t.σ.AU.length=a.tmps.size/\(∀u∈post,D u.i=true->t.grow=false/\t.o.apart Cf u.o=true)/\(∀u∈Cj,u.grow=true->D u.i=true)/\Ia D Cj σ.Aj=t.σ.Aj /\
     (∀k∈t.o.looksAt Cf,∀x,t.σ.AU[k]?=some x->Cb w g (Ia D I7 σ.Aj).length x (a.tmps.getD k undef)/\∀j∈x.Cx,j<t.σ.Aj.length):=by
 subst TA;obtain⟨AcR,σt,htp,htt⟩:=ig.split;have hpb:∀u∈Cj,u.mV=false:=λu hu=>T8 u (by simp[hu]);obtain⟨Sb,ZO,l0,vS⟩:=htp.oe he hpb;cases htt with
 |cons hσ ok ha hb next =>
  subst hσ;have hgp:∀u∈Cj,u.grow=true->D u.i=true:=λu hu hg=>by
   obtain⟨p1,p2,rfl⟩:=List.append_of_mem hu;have AKp:Tr en Cf.toList A done OU σ (p1++u::(p2++t::post)) σ1:=by simpa using ig
   exact XO _ (AKp.aI.1 (by simp[hg]) t (by simp))
  have hB:Ia D Cj σ.Aj=t.σ.Aj:=by rw[aX hgp,<-ZO]
  have Yo:∀u∈post,D u.i=true->t.i∉Eu A u.i:=λu _ hd hm=>by
   rw[Xj.jP _ hd _ hm]at Sp;cases Sp
  have hgt:t.grow=true->∀u∈post,D u.i=false:=λhg u hu=>by
   cases hd:D u.i with
   |false=>rfl
   |true=>exact(Yo u hu hd (ig.aI.1 (by simp[hg]) u hu)).elim
  have Y7:Ia D (Cj++t::post) σ.Aj=Ia D post t.σ.Aj:=by
   rw[cO,Ia,hB,Sp];rfl
  obtain⟨l1,e1,_,_,_⟩:=cZ he ok (T8 t (by simp));obtain⟨l,hl⟩:=next.uW he D (λu hu=>T8 u (by simp[hu])) t.σ.Aj ⟨l1,e1⟩ t.σ.Aj ⟨[],(AQO _).symm⟩
  have hsc:XE t.σ.Aj:=by
   rw[<-hB];rcases jU (D:=D) (ts:=Cj) (bs:=σ.Aj)with h |⟨u,hu,h1,h2,h3⟩
   ·rw[h];exact nt
   ·rw[h3];exact Xj.scp u (by simp[hu]) h1 h2
  refine⟨⟨l,by rw[Y7];exact hl,hl,λhg=>?_⟩,hsc,by rw[Sb,cP];exact Xj.len,λu hu hd=>⟨?_,?_⟩,hgp,hB,λk hk x hx=>⟨?_,?_⟩⟩
  ·have:=ZD (D:=D) (ts:=post) (bs:=t.σ.Aj) λu hu hd=>by rw[hgt hg u hu]at hd;cases hd
   rw[this]at hl;have h2:t.σ.Aj.length=t.σ.Aj.length+l.length:=by rw[<-AQd,<-hl]
   exact AQ2 (by omega)
  ·cases hg:t.grow with
   |false=>rfl
   |true=>rw[hgt hg u hu]at hd;cases hd
  ·exact(gb u hu).resolve_left (Yo u hu hd)
  ·have h1:(MS D (Cj++t::post) σ.AU)[k]?=t.σ.AU[k]?:=by
     rw[YW,MS,Sp];simp only[AQX,ARA];rw[ZE,aY,<-Sb]
     ·intro u hu hd e;rcases cf u hu with h |h
      ·rw[XO _ h]at hd;cases hd
      ·exact(Oper.apart_spec h).1 k e hk
     ·rfl
     ·intro u hu hd e;have:=(gb u hu).resolve_left (Yo u hu hd);exact(Oper.apart_spec this).2.2 k e hk
   exact Xj.AU k x (by rw[h1];exact hx)
  ·rw[Sb]at hx;rcases jV hx with h |⟨p1,u,p2,e,h1,rfl⟩
   ·intro j hj;have:=h0 k x h j hj;rw[vS,AQd];omega
   ·intro j hj;have hu:u∈Cj:=by rw[e];simp
    have hD:D u.i=true:=by
     rcases cf u hu with h |h
     ·exact XO _ h
     ·exact((Oper.apart_spec h).1 k h1 hk).elim
    have:=Xj.Cx u (by simp[hu]) hD j hj;subst e;obtain⟨ANp,σu,q1,q2⟩:=htp.split;cases q2 with
    |cons hσ' ok' ha' zG next' =>
     obtain⟨_,_,l2,q3⟩:=next'.oe he λv hv=>hpb v (by simp[hv]);rw[q3,AQd];omega
end
theorem Wq{a:Act}{d:ATP Tmp}{v:Value}{k:Nat}(h:d≠some k):(a.put d v).tmps.getD k undef=a.tmps.getD k undef:=by
 cases d with
 |none=>rfl
 |some d =>
  have:d≠k:=λe=>h (by rw[e]);simp[Act.put,ARO this]
theorem TR{a:Act}{k:Nat}{v:Value}(h:k<a.tmps.size):(a.put (some k) v).tmps.getD k undef=v:=by
 simp[Act.put,h]
section
variable {P:Program} {en:GX} {Cf:Array Oper} {A:ATO (Nat×ATO Nat)} {N m:Nat} {done OU:ATO Nat} {I7 Cj post:ATO Jg} {t:Jg} {σ σ1:St} {a0 a:Act} {w0 w:World} {g0 g:G} {D D':Nat->Bool}
theorem Inv.next(he:EnvOk P en)(Xj:Inv P A N done I7 σ m a0 w0 g0 D a w g)(ig:Tr en Cf.toList A done OU σ I7 σ1)(T8:∀u∈I7,u.mV=false)(TA:I7=Cj++t::post)(Sp:D t.i=false)(XO:∀x∈Eu A t.i,D x=true)
    (cf:∀u∈Cj,u.i∈Eu A t.i\/u.o.apart Cf t.o=true) (gb:∀u∈post,t.i∈Eu A u.i\/t.o.apart Cf u.o=true)
    (h0:∀(i:Nat) (x:AV),σ.AU[i]?=some x->∀k∈x.Cx,k<σ.Aj.length) (nt:XE σ.Aj) (hm:m<=σ.Aj.length)
    (vB:∀i,D' i=if i=t.i then true else D i) (hnp:∀u∈Cj,u.i≠t.i) (hnq:∀u∈post,u.i≠t.i)
    {l l':ATO Blk} (hl:Ia D I7 σ.Aj=t.σ.Aj++l) (zL:t.post.Aj=t.σ.Aj++l') (hlg:t.grow=true->l=[]) (AJS:t.grow=false->l'=[])
    {v:Value} {w':World} {g':G} (H':Bo w' g' (t.σ.Aj++(l++l'))) (hv:Cb w' g' (t.σ.Aj++(l++l')).length t.val v) (RY:∀k∈t.val.Cx,k<t.post.Aj.length) (st:Step [] (Ia D I7 σ.Aj).length w g w' g') :
    Inv P A N done I7 σ m a0 w0 g0 D' (a.put t.o.dst v) w' g':=by
 obtain⟨_,hsc,hlen,Yo,hgp,hB,_⟩:=Xj.find he ig T8 TA Sp XO cf gb h0 nt;have AJd:∃l0,t.σ.Aj=σ.Aj++l0:=by
  subst TA;obtain⟨AcR,σt,htp,htt⟩:=ig.split;cases htt with
  |cons hσ ok ha hb next =>
   subst hσ;obtain⟨_,_,l0,vS⟩:=htp.oe he λu hu=>T8 u (by simp[hu]);exact⟨l0,vS⟩
 have ga:t.Ok en Cf.toList:=ig.AiN t (by rw[TA];simp);obtain⟨l1,e1,e2,e3,_⟩:=cZ he ga (T8 t (by rw[TA];simp));have ia:l1=l':=List.append_cancel_left (e1.symm.trans zL);subst ia;have hDt:D' t.i=true:=by rw[vB];simp
 have hDp:∀u∈Cj,D u.i=D' u.i:=λu hu=>by rw[vB,AQs (hnp u hu)]
 have hDq:∀u∈post,D u.i=D' u.i:=λu hu=>by rw[vB,AQs (hnq u hu)]
 have hB':Ia D' I7 σ.Aj=t.σ.Aj++(l++l1):=by
  have h1:Ia D I7 σ.Aj=Ia D post t.σ.Aj:=by
   rw[TA,cO,Ia,hB,Sp];rfl
  rw[TA,cO,Ia,<-zr hDp,hB,hDt,AR8,<-zr hDq];cases hg:t.grow with
  |false =>
   simp only[AQX,ARA];rw[<-h1,hl,AJS hg,AQO]
  |true =>
   simp only[AQV];have AGr:∀u∈post,D u.i=true->u.grow=false:=λu hu hd=>by
    have:=(Yo u hu hd).1;rw[hg]at this;cases this
   rw[ZD AGr,hlg hg,ARg];cases hq:t.e with
   |none=>simp[Jg.grow,hq]at hg
   |some e=>simp only[Jg.nb,hq];exact(e3 e hq).2
 have S5:(Ia D I7 σ.Aj).length<=(Ia D' I7 σ.Aj).length:=by rw[hl,hB'];simp
 refine⟨λi hi=>?_,λi hi=>?_,λi hi x hx=>?_,by rw[put_defers];exact Xj.dfr,by rw[Xt];exact Xj.len,?_,by rw[hB'];exact H',λk x hx=>?_,λu hu hd=>?_,λu hu hd hg=>?_⟩
 ·rw[vB];split
  ·rfl
  ·exact Xj.zE i hi
 ·rw[vB]at hi;split at hi
  ·rename_i e;exact .inr ⟨t,by rw[TA];simp,e.symm⟩
  ·exact Xj.only i hi
 ·rw[vB]at hi⊢;split
  ·rfl
  ·split at hi
   ·rename_i e;subst e;exact XO x hx
   ·exact Xj.jP i hi x hx
 ·refine Xj.step.trans (st.toC ?_);obtain⟨l0,iK⟩:=AJd;rw[hl,iK];simp only[AQd];omega
 ·by_cases hd:t.o.dst=some k
  ·have vW:(MS D' I7 σ.AU)[k]?=(aj (some k) t.val (MS D' Cj σ.AU))[k]?:=by
     rw[TA,YW,MS,hDt,AQr rfl,hd];refine ZE λu hu hd' e=>?_;rw[<-hDq u hu]at hd';exact(Oper.apart_spec (Yo u hu hd').2).2.1 k hd e
   rw[vW]at hx;have hval:=pR hx;subst hval;have rI:k<a.tmps.size:=by
    have:=A7 hx;rw[dG,cP,Xj.len]at this;exact this
   rw[hd,TR rI,hB'];exact hv
  ·rw[Wq hd];have vW:(MS D' I7 σ.AU)[k]?=(MS D I7 σ.AU)[k]?:=by
    rw[TA,YW,YW,MS,MS,hDt,Sp,<-zt hDq,<-zt hDp];simp only[AQV,AQX,ARA];exact jW (iV hd)
   rw[vW]at hx;exact(Xj.AU k x hx).RO st S5
 ·rw[vB]at hd;split at hd
  ·rename_i e;have hut:u=t:=by
    rw[TA]at hu;rcases List.mem_append.1 hu with hu |hu
    ·exact(hnp u hu e).elim
    ·rcases List.mem_cons.1 hu with hu |hu
     ·exact hu
     ·exact(hnq u hu e).elim
   subst hut;exact RY
  ·exact Xj.Cx u hu hd
 ·rw[vB]at hd;split at hd
  ·rename_i e;have hut:u=t:=by
    rw[TA]at hu;rcases List.mem_append.1 hu with hu |hu
    ·exact(hnp u hu e).elim
    ·rcases List.mem_cons.1 hu with hu |hu
     ·exact hu
     ·exact(hnq u hu e).elim
   subst hut;rw[hlg hg,ARg]at H';rw[zL];exact H'.scp
  ·exact Xj.scp u hu hd hg
end
theorem Acl{w:World}{g:G}{n:Nat}{σ:St}{a:Act}{Cf:Array Oper}{o:Oper}{b:Bool}(h:Want Cf.toList σ o b)(hlen:σ.AU.length=a.tmps.size)
    (hs:∀k∈o.looksAt Cf,∀x,σ.AU[k]?=some x->Cb w g n x (a.tmps.getD k undef)):Region.wanted o (yielded Cf a.tmps)=b:=by
 cases h with
 |plain h=>simp[Region.wanted,h]
 |@guard g0 iz d b h hd hb =>
  rw[AQn]at hd;have hk:d∈o.looksAt Cf:=AQI _ (by simp[h,hd]);have h1:=Tq (hs d hk _ hb);have hl:d<a.tmps.size:=by rw[<-hlen];exact A7 hb
  have h2:a.tmps[d]?=some (.bool b):=by
   rw[AQZ hl];rw[AQ6,AQZ hl]at h1;exact congrArg some h1
  simp[Region.wanted,h,yielded,hd,h2]
 |@nil g0 iz d h hd hb =>
  rw[AQn]at hd;have hk:d∈o.looksAt Cf:=AQI _ (by simp[h,hd]);have h1:a.tmps.getD d undef=.tuple #[]:=hs d hk _ hb;have hl:d<a.tmps.size:=by rw[<-hlen];exact A7 hb
  have h2:a.tmps[d]?=some (.tuple #[]):=by
   rw[AQZ hl];rw[AQ6,AQZ hl]at h1;exact congrArg some h1
  simp[Region.wanted,h,yielded,hd,h2]
section
variable {P:Program} {en:GX} {Cf:Array Oper} {A:ATO (Nat×ATO Nat)} {N m:Nat} {done OU:ATO Nat} {I7 Cj post:ATO Jg} {t:Jg} {σ σ1:St} {a0 a:Act} {w0 w:World} {g0 g:G} {D D':Nat->Bool} {Q:Exit->Act->World->Prop}
theorem Inv.op(he:EnvOk P en)(Xj:Inv P A N done I7 σ m a0 w0 g0 D a w g)(ig:Tr en Cf.toList A done OU σ I7 σ1)(T8:∀u∈I7,u.mV=false)(TA:I7=Cj++t::post)(Sp:D t.i=false)(XO:∀x∈Eu A t.i,D x=true)
    (cf:∀u∈Cj,u.i∈Eu A t.i\/u.o.apart Cf t.o=true) (gb:∀u∈post,t.i∈Eu A u.i\/t.o.apart Cf u.o=true)
    (h0:∀(i:Nat) (x:AV),σ.AU[i]?=some x->∀k∈x.Cx,k<σ.Aj.length) (nt:XE σ.Aj) (hm:m<=σ.Aj.length)
    (vB:∀i,D' i=if i=t.i then true else D i) (hnp:∀u∈Cj,u.i≠t.i) (hnq:∀u∈post,u.i≠t.i) {K:Act->World->Prop}
    (hK:∀a' w' g',Inv P A N done I7 σ m a0 w0 g0 D' a' w' g'->K a' w'):wpOp P Cf Q t.i K a w:=by
 obtain⟨⟨l,hl,_,hlg⟩,hsc,hlen,Yo,hgp,hB,Jc⟩:=Xj.find he ig T8 TA Sp XO cf gb h0 nt;have ga:t.Ok en Cf.toList:=ig.AiN t (by rw[TA];simp);obtain⟨l1,e1,e2,e3,_⟩:=cZ he ga (T8 t (by rw[TA];simp));have ho:Cf[t.i]?=some t.o:=by rw[<-AQn];exact ga.1
 have Ah8:∀k∈t.o.looksAt Cf,∀x,t.σ.AU[k]?=some x->Cb w g (Ia D I7 σ.Aj).length x (a.tmps.getD k undef):=λk hk x hx=>(Jc k hk x hx).1;have rL:=ga.2;unfold wpOp;simp only[ho];cases hq:t.e with
 |none =>
  rw[hq]at rL;rw[Acl rL hlen Ah8];simp only[AQX,ARA];have hg:t.grow=false:=by simp[Jg.grow,hq]
  have hval:t.val=.nil:=by simp[Jg.val,hq]
  have UN:=e2 hg;subst UN;refine hK _ _ g (Xj.next he ig T8 TA Sp XO cf gb h0 nt hm vB hnp hnq hl e1 hlg e2 ?_ ?_ ?_ (Step.refl _ _ _ _))
  ·rw[AQO,<-hl];exact Xj.heap
  ·rw[hval];exact(show Cb _ _ _ .nil undef from rfl)
  ·rw[hval];intro k hk;cases hk
 |some e =>
  rw[hq]at rL;rw[Acl rL.1 hlen Ah8];simp only[AQV];obtain⟨AGm,AJx⟩:=e3 e hq;have hval:t.val=e.val:=by simp[Jg.val,hq]
  have QU:OA P (wE Cf t.o t.σ) t.o e:=Tx he (by rw[AdM];exact rL.2);refine .inl (Aef QU AGm (l:=l) (l':=l1) AJx ?_ (w:=w) (g:=g) ?_ hsc (by simp only[wE,fj];exact hlen) (λi x hx=>?_) λv w' g' H' hv RY st=>?_)
  ·cases hg:t.grow with
   |true=>exact .inl (hlg hg)
   |false=>exact .inr (e2 hg)
  ·show Bo w g (t.σ.Aj++l);rw[<-hl];exact Xj.heap
  ·show Cb w g (t.σ.Aj++l).length x _/\∀k∈x.Cx,k<t.σ.Aj.length;rw[<-hl];by_cases hi:i∈t.o.looksAt Cf
   ·simp only[wE]at hx;rw[fl (j:=0) (by simpa using hi)]at hx;exact Jc i hi x hx
   ·have:=oW (j:=0) (by simpa using hi) hx;subst this;exact⟨RP,λk hk=>by cases hk⟩
  ·refine hK _ _ g' (Xj.next he ig T8 TA Sp XO cf gb h0 nt hm vB hnp hnq hl e1 hlg e2 H' (by rw[hval];exact hv) (by rw[hval,oK hq];exact RY) ?_);rw[hl];exact st
def Bi(listed:Array Bool)(i:Nat):Bool:=listed.getD i false
theorem AbV{listed:Array Bool}{i:Nat}(hi:i<listed.size)(j:Nat):Bi (listed.setIfInBounds i true) j=if j=i then true else Bi listed j:=by
 unfold Bi;by_cases h:j=i
 ·subst h;simp[hi]
 ·rw[AQs h,getD_set_ne false (Ne.symm h)]
theorem VF{listed:Array Bool}(hs:listed.size=Cf.size){i:Nat}:i∈Region.ready .any Cf listed↔i<Cf.size/\Bi listed i=false/\∀d∈Vg Cf.toList i,Bi listed d=true:=by
 rw[mem_ready];constructor
 ·rintro⟨h1,o,ho,h2⟩
  have hi:i<Cf.size:=(Array.getElem?_eq_some_iff.1 ho).1;refine⟨hi,?_,λd hd=>?_⟩
  ·unfold Bi;have tK:i<listed.size:=by omega
   simpa [AQ6,tK]using h1
  ·unfold Vg at hd;rw[AQn,ho]at hd;obtain⟨e,he,hd⟩:=List.mem_filterMap.1 hd;split at hd
   ·rename_i hb;injection hd with hd;subst hd;exact h2 e (by simpa using he) hb
   ·cases hd
 ·rintro⟨hi,h1,h2⟩
  have tK:i<listed.size:=by omega
  refine⟨?_,Cf[i],AQZ hi,λe he hb=>?_⟩
  ·unfold Bi at h1;simpa [AQ6,tK]using h1
  ·refine h2 e.on ?_;unfold Vg;rw[AQn,AQZ hi];exact List.mem_filterMap.2 ⟨e,by simpa using he,by rw[AQr hb]⟩
def left(D:Nat->Bool)(I7:ATO Jg):Nat:=(I7.filter λu=>!D u.i).length
theorem AdH(TA:I7=Cj++t::post)(Sp:D t.i=false)(vB:∀i,D' i=if i=t.i then true else D i)(hnp:∀u∈Cj,u.i≠t.i)(hnq:∀u∈post,u.i≠t.i):left D I7=left D' I7+1:=by
 have sI:∀(l:ATO Jg),(∀u∈l,u.i≠t.i)->l.filter (λu=>!D u.i)=l.filter λu=>!D' u.i:=λl h=>List.filter_congr λu hu=>by rw[vB,AQs (h u hu)]
 subst TA;unfold left;rw[ASb,ASb,List.filter_cons,List.filter_cons,sI Cj hnp,sI post hnq,Sp,show D' t.i=true by rw[vB];simp];simp;omega
end
theorem AdI{D:Nat->Bool}{I7:ATO Jg}(h:left D I7=0):∀u∈I7,D u.i=true:=λu hu=>by
 have:=AQ2 h;cases hd:D u.i with
 |true=>rfl
 |false =>
  have hm:u∈I7.filter λu=>!D u.i:=List.mem_filter.2 ⟨hu,by grind⟩;rw[this]at hm;cases hm
theorem vj{D:Nat->Bool}:∀{I7:ATO Jg},left D I7≠0->∃Cj t post,I7=Cj++t::post/\D t.i=false/\∀u∈Cj,D u.i=true
 |[],h=>(h rfl).elim
 |u::I7,h=>by
  cases hd:D u.i with
  |false=>exact⟨[],u,I7,rfl,hd,λ_ hu=>by grind⟩
  |true =>
   have:left D I7≠0:=by
    unfold left at h⊢
    grind
   obtain⟨Cj,t,post,e,h1,h2⟩:=vj this
   grind
section
variable {P:Program} {en:GX} {Cf:Array Oper} {A:ATO (Nat×ATO Nat)} {m:Nat} {Q:Exit->Act->World->Prop} {a0:Act} {w0:World} {g0:G}
theorem wK{I7 Cj post:ATO Jg}{t:Jg}(h:(I7.map (·.i)).Nodup)(TA:I7=Cj++t::post):(∀u∈Cj,u.i≠t.i)/\∀u∈post,u.i≠t.i:=by
 grind
theorem Ai5(he:EnvOk P en)(hA:oa Cf.toList A){done OU:ATO Nat}{I7:ATO Jg}{σ σ1:St}(ig:Tr en Cf.toList A done OU σ I7 σ1)(T8:∀u∈I7,u.mV=false)(R:ATO Nat)
    (nj:∀i,i<Cf.size->i∈done\/(∃u∈I7,u.i=i)\/i∈R) (Bw:∀u∈I7,u.i<Cf.size) (S7:(I7.map (·.i)).Nodup)
    (Y4:∀Cj t post,I7=Cj++t::post->∀u∈post,t.i∈Eu A u.i\/t.o.apart Cf u.o=true) (gg:∀Cj t post,I7=Cj++t::post->∀d∈Vg Cf.toList t.i,d∈done\/∃u∈Cj,u.i=d)
    (hR:∀i∈R,∀D:Nat->Bool,jg A D->(∀x∈Eu A i,D x=true)->(∀r∈R,D r=false)->∀u∈I7,D u.i=true) (hRd:∀r∈R,r∉done/\∀u∈I7,u.i≠r)
    (h0:∀(i:Nat) (x:AV),σ.AU[i]?=some x->∀k∈x.Cx,k<σ.Aj.length) (nt:XE σ.Aj) (hm:m<=σ.Aj.length)
    (cont:∀(listed:Array Bool) (a:Act) (w:World) (g:G),listed.size=Cf.size->(∀i∈done,Bi listed i=true)->(∀u∈I7,Bi listed u.i=true)->(∀r∈R,Bi listed r=false)->jg A (Bi listed)->LA w g σ1 a->BL m w0 g0 w g->a.defers=a0.defers ->
     wpAny P .any Cf Q R.length listed a w) :
    ∀(n:Nat) (listed:Array Bool) (a:Act) (w:World) (g:G),listed.size=Cf.size->left (Bi listed) I7=n->Inv P A Cf.size done I7 σ m a0 w0 g0 (Bi listed) a w g->wpAny P .any Cf Q (n+R.length) listed a w
 |0,listed,a,w,g,hs,hn,Xj=>by
  have zF:=AdI hn;obtain⟨h1,h2,_⟩:=ig.oe he T8;have hR0:∀r∈R,Bi listed r=false:=λr hr=>by
   cases hd:Bi listed r with
   |false=>rfl
   |true =>
    rcases Xj.only r hd with h |⟨u,hu,e⟩
    ·exact((hRd r hr).1 h).elim
    ·exact((hRd r hr).2 u hu e).elim
  have hB:Ia (Bi listed) I7 σ.Aj=σ1.Aj:=by rw[aX λu hu _=>zF u hu,<-h2]
  rw[AQF];refine cont listed a w g hs Xj.zE zF hR0 Xj.jP ⟨by rw[<-hB];exact Xj.heap,by rw[h1,cP];exact Xj.len,λi x hx=>?_⟩ Xj.step Xj.dfr;rw[<-hB];refine Xj.AU i x ?_;rw[aY (λu hu hd=>by rw[zF u hu]at hd;cases hd) rfl,<-h1];exact hx
 |n+1,listed,a,w,g,hs,hn,Xj=>by
  obtain⟨Cj,t,post,TA,Sp,Ah5⟩:=vj (D:=Bi listed) (I7:=I7) (by rw[hn];simp);rw[show n+1+R.length=(n+R.length)+1 by omega];have AGK:t.i∈Region.ready .any Cf listed:=(VF hs).2 ⟨Bw t (by rw[TA];simp),Sp,λd hd=>by
   rcases gg Cj t post TA d hd with h |⟨u,hu,e⟩
   ·exact Xj.zE d h
   ·rw[<-e];exact Ah5 u hu⟩
  refine⟨λh=>by(rw[h]at AGK;cases AGK),λi hi=>?_⟩;obtain⟨hil,hiu,YG⟩:=(VF hs).1 hi;have XO:=pU hA Xj.jP YG;rcases nj i hil with h |⟨u,hu,rfl⟩|h
  ·rw[Xj.zE i h]at hiu;cases hiu
  ·obtain⟨p1,p2,Y7⟩:=List.append_of_mem hu;obtain⟨hnp,hnq⟩:=wK S7 Y7;have vB:=AbV (listed:=listed) (i:=u.i) (by omega);refine Xj.op he ig T8 Y7 hiu XO (λv hv=>?_) (Y4 p1 u p2 Y7) h0 nt hm vB hnp hnq λa' w' g' AKE=>?_
   ·obtain⟨q1,q2,hq⟩:=List.append_of_mem hv;exact Y4 q1 v (q2++u::p2) (by rw[Y7,hq];simp) u (by simp)
   ·refine Ai5 he hA ig T8 R nj Bw S7 Y4 gg hR hRd h0 nt hm cont n _ a' w' g' (by simpa using hs) ?_ AKE;have:=AdH Y7 hiu vB hnp hnq;omega
  ·have:=hR i h _ Xj.jP XO λr hr=>by
     cases hd:Bi listed r with
     |false=>rfl
     |true =>
      rcases Xj.only r hd with h |⟨u,hu,e⟩
      ·exact((hRd r hr).1 h).elim
      ·exact((hRd r hr).2 u hu e).elim
   rw[this t (by rw[TA];simp)]at Sp;cases Sp
theorem xF:∀(ts:ATO Jg),∃I7 iw,ts=I7++iw/\(∀u∈I7,u.mV=false)/\(iw=[]\/∃b r,iw=b::r/\b.mV=true)
 |[]=>⟨[],[],rfl,λ_ h=>by grind,.inl rfl⟩
 |t::ts=>by
  cases hb:t.mV with
  |true=>exact⟨[],t::ts,rfl,λ_ h=>by grind,.inr ⟨t,ts,rfl,hb⟩⟩
  |false =>
   obtain⟨I7,iw,e,h1,h2⟩:=xF ts
   grind
theorem AfK(he:EnvOk P en)(hA:oa Cf.toList A){σ':St}(WX:∀a' w' g',LA w' g' σ' a'->BL m w0 g0 w' g'->a'.defers=a0.defers->Q .normal a' w') :
    ∀(k:Nat) (ts:ATO Jg) (done OU:ATO Nat) (σ:St),ts.length=k->Tr en Cf.toList A done OU σ ts σ'->(∀i,i<Cf.size->i∈done\/∃u∈ts,u.i=i)->(∀u∈ts,u.i<Cf.size)->(∀u∈ts,u.i∉done)->(ts.map (·.i)).Nodup ->
     (∀Cj t post,ts=Cj++t::post->∀u∈post,t.i∈Eu A u.i\/t.o.apart Cf u.o=true)->(∀Cj t post,ts=Cj++t::post->∀d∈Vg Cf.toList t.i,d∈done\/∃u∈Cj,u.i=d)->m<=σ.Aj.length ->
     ∀(listed:Array Bool) (a:Act) (w:World) (g:G),listed.size=Cf.size->(∀i∈done,Bi listed i=true)->(∀u∈ts,Bi listed u.i=false)->jg A (Bi listed)->LA w g σ a->BL m w0 g0 w g->a.defers=a0.defers->wpAny P .any Cf Q k listed a w:=by
 intro k;induction k using Nat.strongRecOn with
 |_ k ih =>
  intro ts done OU σ hk ig nj Bw AF2 S7 Y4 gg hm listed a w g hs fX Sp OC BX AGG AJF;obtain⟨I7,iw,rfl,T8,Ah6⟩:=xF ts;obtain⟨AcR,σ1,ht1,ht2⟩:=ig.split;obtain⟨_,_,lx,AJH⟩:=ht1.oe he T8;have AJ0:(I7.map (·.i)).Nodup:=by
   rw[AQT,ASc]at S7;exact S7.1
  have AGg:left (Bi listed) I7=I7.length:=by
   unfold left;rw[List.filter_eq_self.2 λu hu=>by rw[Sp u (by simp[hu])];rfl]
  have Y3:∀u∈iw,∀v∈I7,v.i≠u.i:=λu hu v hv=>by
   rw[AQT,ASc]at S7;exact S7.2.2 v.i (List.mem_map.2 ⟨v,hv,rfl⟩) u.i (List.mem_map.2 ⟨u,hu,rfl⟩)
  have hBn:Ia (Bi listed) I7 σ.Aj=σ.Aj:=ZD λu hu hd=>by rw[Sp u (by simp[hu])]at hd;cases hd
  have hSn:∀i,(MS (Bi listed) I7 σ.AU)[i]?=σ.AU[i]?:=λi=>ZE λu hu hd=>by rw[Sp u (by simp[hu])]at hd;cases hd
  have AGf:k=I7.length+(iw.map (·.i)).length:=by rw[AQl,<-AQd];exact hk.symm
  rw[AGf];refine Ai5 (a0:=a0) (w0:=w0) (g0:=g0) he hA ht1 T8 (iw.map (·.i)) (λi hi=>?_) (λu hu=>Bw u (by simp[hu])) AJ0 (λCj t post Y7 u hu=>Y4 Cj t (post++iw) (by rw[Y7];simp) u (by simp[hu])) (λCj t post Y7=>gg Cj t (post++iw) (by rw[Y7];simp))
   (λi hi D hD XO hRf u hu=>?_) (λr hr=>?_) (λi x hx=>(BX.AU i x hx).UC) BX.heap.scp hm (λAbU a' w' g' ea hd' Ams hR' AhI ic Aic An4=>?_) I7.length listed a w g hs AGg ?_
  ·rcases nj i hi with h |⟨u,hu,e⟩
   ·exact .inl h
   ·rcases List.mem_append.1 hu with hu |hu
    ·exact .inr (.inl ⟨u,hu,e⟩)
    ·exact .inr (.inr (List.mem_map.2 ⟨u,hu,e⟩))
  ·rcases Ah6 with rfl |⟨b,r,rfl,hb⟩
   ·cases hi
   ·obtain⟨p1,p2⟩:=ig.aI;rw[AQU]at hi;rcases List.mem_cons.1 hi with rfl |hi
    ·exact XO _ ((p2 hb).2 u hu)
    ·obtain⟨v,hv,rfl⟩:=List.mem_map.1 hi;have h1:=XO _ (p1 (by simp[hb]) v hv);rw[hRf b.i (by simp)]at h1;cases h1
  ·obtain⟨v,hv,rfl⟩:=List.mem_map.1 hr;exact⟨AF2 v (by simp[hv]),λu hu=>Y3 v hv u hu⟩
  ·rcases Ah6 with rfl |⟨b,r,rfl,hb⟩
   ·cases ht2;refine⟨List.eq_nil_iff_forall_not_mem.2 λi hi=>?_,WX a' w' g' ic Aic An4⟩;obtain⟨hil,hiu,_⟩:=(VF ea).1 hi;rcases nj i hil with h |⟨u,hu,e⟩
    ·rw[hd' i h]at hiu;cases hiu
    ·rw[<-e,Ams u (by simpa using hu)]at hiu;cases hiu
   ·rw[AQU,AQ4,AQl];have hbr:b.i∈Region.ready .any Cf AbU:=(VF ea).2 ⟨Bw b (by simp),hR' b.i (by simp),λd hd=>by
     rcases gg I7 b r rfl d hd with h |⟨u,hu,e⟩
     ·exact hd' d h
     ·rw[<-e];exact Ams u hu⟩
    refine⟨λh=>by(rw[h]at hbr;cases hbr),λi hi=>?_⟩;obtain⟨hil,hiu,YG⟩:=(VF ea).1 hi;have XO:=pU hA AhI YG;obtain⟨p1,p2⟩:=ig.aI;have hib:i=b.i:=by
     rcases nj i hil with h |⟨u,hu,rfl⟩
     ·rw[hd' i h]at hiu;cases hiu
     ·rcases List.mem_append.1 hu with hu |hu
      ·rw[Ams u hu]at hiu;cases hiu
      ·rcases List.mem_cons.1 hu with rfl |hu
       ·rfl
       ·have:=XO _ (p1 (by simp[hb]) u hu);rw[hR' b.i (by simp)]at this;cases this
    subst hib;cases ht2 with
    |cons hσ ok ha hbd next =>
     subst hσ;have ho:Cf[b.i]?=some b.o:=by rw[<-AQn];exact ok.1
     have rL:=ok.2;cases hq:b.e with
     |none=>simp[Jg.mV,hq]at hb
     |some e =>
      rw[hq]at rL;have QU:=Tx he rL.2;unfold wpOp;simp only[ho];rw[AQr (J6 ic rL.1)];have UB:m<=b.σ.Aj.length:=by rw[AJH,AQd];omega
      refine .inl (QU.wp a' w' g' ic _ Q λv w2 g2 H2 hv2 Qn=>?_);have Yo:b.post=b.σ.after b.o.dst e:=by simp[Jg.post,hq]
      have H6:=AbV (listed:=AbU) (i:=b.i) (by omega);have AGB:∀u∈r,u.i≠b.i:=(wK S7 rfl).2;refine ih r.length (by rw[<-hk];simp;omega) r (b.i::((I7.map (·.i)).reverse++done)) _ b.post rfl next (λi hi=>?_) (λu hu=>Bw u (by simp[hu])) (λu hu=>?_) ?_ (λCj t post Y7 u hu=>Y4 (I7++b::Cj) t post (by rw[Y7];simp) u hu) (λCj t post Y7 d hd=>?_) (by rw[Yo];exact AQD UB QU.grow)
       _ _ w2 g2 (by simpa using ea) (λi hi=>?_) (λu hu=>?_) (λi hi x hx=>?_) (by rw[Yo];exact ic.after QU.grow H2 hv2 Qn) (Aic.trans (Qn.toC UB)) (by rw[put_defers];exact An4)
      ·rcases nj i hi with h |⟨u,hu,e⟩
       ·exact .inl (by simp[h])
       ·rcases List.mem_append.1 hu with hu |hu
        ·exact .inl (by simp;exact .inr (.inl ⟨u,hu,e⟩))
        ·rcases List.mem_cons.1 hu with rfl |hu
         ·exact .inl (by simp[e])
         ·exact .inr ⟨u,hu,e⟩
      ·have h1:=AF2 u (by simp[hu]);have h2:=AGB u hu;have h3:∀v∈I7,v.i≠u.i:=λv hv=>Y3 u (by simp[hu]) v hv;simp only[ARI,ARD,List.mem_reverse,List.mem_map,not_or,not_exists,not_and];exact⟨h2,λv hv=>h3 v hv,h1⟩
      ·rw[AQT,ASc,AQU,List.nodup_cons]at S7;exact S7.2.1.2
      ·rcases gg (I7++b::Cj) t post (by rw[Y7];simp) d hd with h |⟨u,hu,e⟩
       ·exact .inl (by simp[h])
       ·rcases List.mem_append.1 hu with hu |hu
        ·exact .inl (by simp;exact .inr (.inl ⟨u,hu,e⟩))
        ·rcases List.mem_cons.1 hu with rfl |hu
         ·exact .inl (by simp[e])
         ·exact .inr ⟨u,hu,e⟩
      ·rw[H6];split
       ·rfl
       ·rename_i MO;rcases List.mem_cons.1 hi with h |h
        ·exact(MO h).elim
        ·rcases List.mem_append.1 h with h |h
         ·obtain⟨u,hu,rfl⟩:=List.mem_map.1 (List.mem_reverse.1 h);exact Ams u hu
         ·exact hd' i h
      ·rw[H6,AQs (AGB u hu)];exact hR' u.i (by simp;exact .inr ⟨u,hu,rfl⟩)
      ·rw[H6]at hi⊢;split
       ·rfl
       ·split at hi
        ·rename_i e;subst e;exact XO x hx
        ·exact AhI i hi x hx
  ·refine⟨fX,λi hi=>.inl ?_,OC,AJF,BX.len,AGG,by rw[hBn];exact BX.heap,λi x hx=>?_,λu hu hd=>by(rw[Sp u (by simp[hu])]at hd;cases hd),λu hu hd=>by(rw[Sp u (by simp[hu])]at hd;cases hd)⟩
   ·have hil:i<Cf.size:=by
      unfold Bi at hi;rcases AQk i listed.size with h' |h'
      ·omega
      ·simp[AQ6,Array.getElem?_eq_none h']at hi
    rcases nj i hil with h |⟨u,hu,rfl⟩
    ·exact h
    ·rw[Sp u hu]at hi;cases hi
   ·rw[hSn]at hx;rw[hBn];exact BX.AU i x hx
end
theorem fA:∀{l:ATO Nat},nodup l=true->l.Nodup
 |[],_=>List.nodup_nil
 |k::r,h=>by
  simp only[nodup,AQg]at h;rw[List.nodup_cons];exact⟨by grind,fA h.2⟩
theorem wP{all:ATO Oper}{A:ATO (Nat×ATO Nat)}:∀{L Cj post:ATO Nat} {i:Nat},dz all A L=true->L=Cj++i::post->∀j∈post,i∈Eu A j\/∃x y,all[i]?=some x/\all[j]?=some y/\x.apart all.toArray y=true
 |[],Cj,post,i,_,h=>by simp at h
 |k::L,[],post,i,hp,h=>by
  injection h with h1 h2;subst h1;subst h2;intro j hj;simp only[dz,AQg]at hp
  grind
 |k::L,p::Cj,post,i,hp,h=>by
  injection h with h1 h2;simp only[dz,AQg]at hp;exact wP hp.2 h2
theorem Acg{all:ATO Oper}:∀{L Cj post done:ATO Nat} {i:Nat},mb all L done=true->L=Cj++i::post->∀d∈Vg all i,d∈done\/d∈Cj
 |[],Cj,post,done,i,_,h=>by simp at h
 |k::L,[],post,done,i,hp,h=>by
  injection h with h1 h2;subst h1;intro d hd;simp only[mb,AQg]at hp
  grind
 |k::L,p::Cj,post,done,i,hp,h=>by
  injection h with h1 h2;subst h1;simp only[mb,AQg]at hp;intro d hd;rcases Acg hp.2 h2 d hd with h |h
  ·grind
  ·grind
theorem rk{P:Program}{en:GX}{m:Nat}(he:EnvOk P en)(AJY:P.follows .mixedOrders=true){id:Nat}{Cf:Array Oper}{L:ATO Nat}(ga:AfJ Cf.toList L=true){σ σ':St}(hx:Vi en Cf.toList (YP Cf.toList L []) L [] [] σ some=some σ')(hm:m<=σ.Aj.length) :
    m<=σ'.Aj.length/\∀(a:Act) (w:World) (g:G) (Q:Exit->Act->World->Prop),LA w g σ a->(∀a' w' g',LA w' g' σ' a'->BL m w g w' g'->a'.defers=a.defers->Q .normal a' w')->(Code.region id Cf true).wp P Q a w:=by
 simp only[AfJ,AQg]at ga;obtain⟨⟨⟨⟨S7,nj⟩,Bw⟩,Y4⟩,gg⟩:=ga;obtain⟨ts,aC,ig⟩:=da he.aH hx;have hA:oa Cf.toList (YP Cf.toList L []):=og _ L [] (λi x h=>by cases h) S7 λi _ p hp=>by grind
 have grow:∀{ts:ATO Jg} {done OU:ATO Nat} {σ σ':St},Tr en Cf.toList (YP Cf.toList L []) done OU σ ts σ'->σ.Aj.length<=σ'.Aj.length:=by
  intro ts;induction ts with
  |nil=>intro done OU σ σ' h;cases h;exact AQf _
  |cons t ts ih =>
   intro done OU σ σ' h;cases h with
   |cons hσ ok ha hb next =>
    subst hσ;refine AQD ?_ (ih next)
    have ok2:=ok.2;unfold Jg.post;cases hq:t.e with
    |none=>exact AQf _
    |some e =>
     rw[hq]at ok2;exact(Tx he ok2.2).grow
 have AGU:∀Cj t post,ts=Cj++t::post->L=Cj.map (·.i)++t.i::post.map (·.i):=λCj t post h=>by grind
 refine⟨AQD hm (grow ig),λa w g Q hs hq=>wp_region_any AJY ?_⟩;have Sb:LA {w with drawn:=w.drawn+1} g σ a:=⟨hs.heap.drew,hs.len,λi x hx=>(hs.AU i x hx).RO (Step.drew [] _ w g) (AQf _)⟩;have hlen:ts.length=Cf.size:=by
  have h1:ts.length=L.length:=by grind
  have hn:=fA S7;have bn:∀i∈L,i∈List.range Cf.size:=λi hi=>by
   grind
  have AKl:∀i∈List.range Cf.size,i∈L:=λi hi=>by
   grind
  have h2:=hn.length_le_of_subset bn;have h3:=List.nodup_range.length_le_of_subset AKl
  grind
 have rO:∀i,Bi (Array.replicate Cf.size false) i=false:=λi=>by
  unfold Bi;rw[AQ6,Array.getElem?_replicate];split<;>rfl
 refine AfK (m:=m) (a0:=a) (w0:=w) (g0:=g) he hA hq Cf.size ts [] [] σ hlen ig (λi hi=>.inr ?_) (λu hu=>?_) (λu _ h=>by grind) (by rw[aC];exact fA S7) (λCj t post Y7 u hu=>?_) (λCj t post Y7 d hd=>?_) hm
  _ a _ g (by simp) (λi hi=>by grind) (λu _=>rO _) (λi hi=>by grind) Sb (Step.drew _ _ w g) rfl
 ·have:=List.all_eq_true.1 nj i (by grind)
  grind
 ·have hu':u.i∈L:=by grind
  grind
 ·rcases wP Y4 (AGU Cj t post Y7) u.i (List.mem_map.2 ⟨u,hu,rfl⟩)with h |⟨x,y,hx,hy,h⟩
  ·grind
  ·have h1:=(ig.AiN t (by grind)).1;have h2:=(ig.AiN u (by rw[Y7];simp[hu])).1;rw[hx]at h1;injection h1 with h1;rw[hy]at h2;injection h2 with h2;subst h1;subst h2;exact .inr (by simpa using h)
 ·rcases Acg gg (AGU Cj t post Y7) d hd with h |h
  ·cases h
  ·obtain⟨u,hu,e⟩:=List.mem_map.1 h;exact .inr ⟨u,hu,e⟩
section
variable {P:Program} {en:GX} {m:Nat}
def yu(P:Program)(en:GX)(m:Nat)(c:Code):Prop:=∀(σ:St) (e:Ex) (σ':St),ev en m c (Ex×St) σ Se=some (e,σ')->m<=σ.Aj.length->m<=σ'.Aj.length /\
 ∀(a:Act) (w:World) (g:G) (Q:Exit->Act->World->Prop),LA w g σ a->(∀a' w' g',LA w' g' σ' a'->BL m w g w' g'->a'.defers=a.defers->Q (rl e) a' w')->c.wp P Q a w
theorem dc(he:Z7 en){c:Code}{R:Type}{σ:St}{K:Ex->St->ATP R}{r:R}(h:ev en m c R σ K=some r):∃e s,ev en m c (Ex×St) σ Se=some (e,s)/\K e s=some r:=by
 rw[XK he]at h;cases hx:ev en m c _ σ _ with
 |none=>grind
 |some p=>grind
theorem AmJ(he:Jz P en){body:Code}(ih:yu P en m body):yu P en m (.loop body):=by
 intro σ e σ' h hm;simp only[ev]at h;split at h
 ·rename_i hh ho _ _;split at h
  ·grind
  ·rename_i σ0 hσ0;have h:(fix (p9 en m hh ho body) σ0).bind (λp=>Se p.1 p.2)=some _:=h;cases hf:fix (p9 en m hh ho body) σ0 with
   |none=>grind
   |some p =>
    rw[hf]at h;have h:p=(e,σ'):=by grind
    subst h;obtain⟨n,hn⟩:=(Xd.1 hf).n;have WX:∀n s,ToN (p9 en m hh ho body) n s (e,σ')->m<=s.Aj.length->m<=σ'.Aj.length:=by
     intro n s hs;generalize ht:(e,σ')=t at hs;induction hs with
     |done hd =>
      subst ht;intro hms;obtain⟨e1,s',hb,hc⟩:=X4 he.aH hd;rcases hc with ⟨_,ZX,_,hr⟩|⟨_,ZX,hh2,hr⟩
      ·grind
      ·injection hr with hr;injection hr with h1 h2;subst h2;exact Xf hh2
     |fy hd _ ihn =>
      intro hms;obtain⟨e1,s',hb,hc⟩:=X4 he.aH hd;rcases hc with ⟨_,ZX,AhZ,hr⟩|⟨_,ZX,_,hr⟩
      ·injection hr with hr;subst hr;exact ihn ht (Xf AhZ)
      ·grind
    have zN :=Xf hσ0;refine⟨WX n σ0 hn zN,λa w g Q hs hq=>?_⟩;obtain⟨g0,yk,vU,_⟩:=XP hσ0 hs hm;refine Aet (λn a' w'=>∃s g',ToN _ n s _/\LA w' g' s a'/\m<=s.Aj.length/\BL m w g w' g'/\a'.defers=a.defers) (λn a1 w1 hR=>?_)  ⟨σ0,g0,hn,yk,zN,vU,rfl⟩;obtain⟨s,g1,vV,Sb,hms,XR,kD⟩:=hR;cases vV with
    |done hd =>
     obtain⟨e1,s',hb,hc⟩:=X4 he.aH hd;rcases hc with ⟨_,ZX,_,hr⟩|⟨MO,ZX,hh2,hr⟩
     ·grind
     ·injection hr with hr;injection hr with h1 h2;subst h1;subst h2;obtain⟨Av0,rR⟩:=ih _ _ _ hb hms;refine rR a1 w1 g1 _ Sb λa2 w2 g2 ZO zR hd2=>?_;obtain⟨g3,vS,Aib,_⟩:=XP hh2 ZO Av0;have hQ:=hq a2 w2 g3 vS ((XR.trans zR).trans Aib) (hd2.trans kD);cases e with
      |normal=>grind
      |exit k=>exact hQ
      |ret=>exact hQ
    |fy hd AKn =>
     rename_i k;obtain⟨e1,s',hb,hc⟩:=X4 he.aH hd;rcases hc with ⟨he1,ZX,AhZ,hr⟩|⟨_,ZX,_,hr⟩
     ·injection hr with hr;subst hr;subst he1;obtain⟨Av0,rR⟩:=ih _ _ _ hb hms;refine rR a1 w1 g1 _ Sb λa2 w2 g2 ZO zR hd2=>?_;obtain⟨g3,vS,Aib,hm3⟩:=XP AhZ ZO Av0;exact⟨k,AQP _,_,g3,AKn,vS,hm3,(XR.trans zR).trans Aib,hd2.trans kD⟩
     ·grind
 ·grind
theorem bj:∀{l:ATO (ATP Unit)},vp l=some ()->∀x∈l,x=some ()
 |[],_,_,h=>by grind
 |[x],h,y,hy=>by rw[AQA]at hy;subst hy;exact h
 |x::y::r,h,z,hz=>by
  simp only[vp]at h;cases hf:x with
  |none=>grind
  |some u =>
   rw[hf]at h;rcases List.mem_cons.1 hz with rfl |hz
   ·grind
   ·exact bj h z hz
theorem Ahi(he:Jz P en){σ σ0:St}{l:ATP (ATO Nat)}(h:Al6 m σ l=some σ0)(hm:m<=σ.Aj.length):m<=σ0.Aj.length/\∀{a:Act} {w:World} {g:G},LA w g σ a->∃g0,LA w g0 σ0 a/\BL m w g w g0:=by
 cases l with
 |none=>simp only[Al6,AQb]at h;subst h;exact⟨hm,λhs=>⟨_,hs,BL.refl _ _ _⟩⟩
 |some l =>
  have h:σ.head {Be:=l} m=some σ0:=h;exact⟨Xf h,λhs=>by obtain⟨g1,h1,h2,_⟩:=XP h hs hm;exact⟨g1,h1,h2⟩⟩
theorem Ahn(he:Z7 en){σ:St}{o:Oper}{e:H8}(ha:jA en σ o=none)(hs:xe en σ o=none)(ht:tlE en σ o=none)(hc:∀c,o.op≠.call c)(h:exec en σ o some=some e):∃e0,R7 en σ o some=some e0:=by
 have h:Wb en σ o some=some e:=by
  unfold exec at h
  grind
 unfold Wb at h;rw[ha,hs,ht]at h;simp only at h;split at h
 ·cases hd:ki en o with
  |false=>grind
  |true =>
   rw[hd]at h;rw[Nx en he]at h;cases hx:R7 en σ o some with
   |none=>grind
   |some e0=>grind
 ·rw[Nx en he]at h;cases hx:R7 en σ o some with
  |none=>grind
  |some e0=>grind
theorem eD{α:Type}{k:IntKind}{x y:Int}{c:BoundsCode}{w w1:World}{r:α}(h:(boundsPanic k x y c:Sem α).run P w=.ok r w1):False:=by
 unfold boundsPanic at h;split at h
 ·rw[Sem.run_bind]at h;generalize (Sem.run P _ w)=q at h;cases q with
  |halt e w=>cases h
  |ok b w2=>simp[runtimePanic]at h
 ·simp[runtimePanic]at h
theorem dO{t:TypeId}{w w1:World}{n:Nat}(h:(sizeOf t).run P w=.ok n w1):∀w',(sizeOf t).run P w'=.ok n w':=by
 intro w';unfold sizeOf typeInfo at h⊢;simp only[Sem.run_bind]at h⊢;have hp:(program).run P w=.ok P w:=rfl;have hp':(program).run P w'=.ok P w':=rfl;simp only[hp,hp',Result.andThen_ok]at h⊢;cases hq:P.info? t with
 |none=>rw[hq]at h;simp at h
 |some i=>rw[hq]at h;simp at h⊢;exact h.1
theorem nG{t:TypeId}{u v c:Value}{w w1:World}(h:(Instr.indexAt t u v).run P w=.ok c w1):∀w',(Instr.indexAt t u v).run P w'=.ok c w':=by
 intro w';unfold Instr.indexAt at h⊢;cases v with
 |int k i =>
  simp only[asIntOf,pure_bind]at h⊢;cases hu:P.underlying t with
  |none=>simp[underlying,hu]at h
  |some d =>
   cases d with
   |slice elem =>
    cases u with
    |slice base len cap =>
     simp[underlying,hu]at h⊢;cases base with
     |none=>exact(eD (by simpa using h)).elim
     |some a =>
      simp only at h⊢;split at h
      ·rename_i hc;rw[AQr hc];simp only[Sem.run_map]at h⊢;cases hs:(sizeOf elem).run P w with
       |halt e w=>rw[hs]at h;cases h
       |ok n w2 =>
        rw[hs]at h;rw[dO hs w'];simp at h⊢;exact h.1
      ·exact(eD (by simpa using h)).elim
    |_=>simp[underlying,hu]at h
   |array len elem =>
    cases u with
    |pointer p =>
     cases p with
     |none=>simp[underlying,hu,Instr.sureAddr]at h
     |some a =>
      simp[underlying,hu,Instr.sureAddr]at h⊢;split at h
      ·rename_i hc;rw[AQr hc];cases hs:(sizeOf elem).run P w with
       |halt e w=>rw[hs]at h;cases h
       |ok n w2 =>
        rw[hs]at h;rw[dO hs w'];simp at h⊢;exact h.1
      ·split at h
       ·cases h
       ·exact(eD h).elim
    |_=>simp[underlying,hu,Instr.sureAddr]at h
   |_=>simp[underlying,hu]at h
 |pointer p=>cases p<;>simp[asIntOf]at h
 |_=>simp[asIntOf]at h
def tJ(P:Program){α:Type}(s:Sem α):Prop:=∀w w1 c,s.run P w=.ok c w1->∀w',s.run P w'=.ok c w'
theorem tJ.pure{α:Type}(x:α):tJ P (Pure.pure x:Sem α):=λw w1 c h w'=>by simp at h⊢;exact h.1
theorem tJ.bind{α β:Type}{s:Sem α}{f:α->Sem β}(h1:tJ P s)(h2:∀x,tJ P (f x)):tJ P (s >>= f):=λw w1 c h w'=>by
 rw[Sem.run_bind]at h⊢;cases hs:s.run P w with
 |halt e w2=>rw[hs]at h;cases h
 |ok x w2 =>
  rw[hs]at h;rw[h1 _ _ _ hs w'];exact h2 x _ _ _ h w'
theorem tJ.info(t:TypeId):tJ P (typeInfo t):=λw w1 c h w'=>by
 unfold typeInfo at h⊢;simp only[Sem.run_bind]at h⊢;have hp:(program).run P w=.ok P w:=rfl;have hp':(program).run P w'=.ok P w':=rfl;simp only[hp,hp',Result.andThen_ok]at h⊢;cases hq:P.info? t with
 |none=>rw[hq]at h;simp at h
 |some i=>rw[hq]at h;simp at h⊢;exact h.1
theorem tJ.mapM{α β:Type}{f:α->Sem β}(h:∀x,tJ P (f x)):∀l:ATO α,tJ P (l.mapM f)
 |[]=>by exact .pure _
 |x::l=>by rw[List.mapM_cons];exact .bind (h x) λy=>.bind (tJ.mapM h l) λys=>.pure _
theorem tJ.map{α β:Type}{s:Sem α}(f:α->β)(h:tJ P s):tJ P (f <$> s):=by
 exact .bind h λx=>.pure _
theorem uz(t:TypeId)(GR:Array (Nat×Value)):tJ P (Instr.build t GR):=by
 have Nt:∀t,tJ P (sizeOf t):=λt=>by exact .bind (.info t) λ_=>.pure _
 have Sp:tJ P (underlying t):=by
  refine .bind (λw w1 c h w'=>?_) λp=>?_
  ·have hp:(program).run P w=.ok P w:=rfl;have hp':(program).run P w'=.ok P w':=rfl
   grind
  ·split
   ·exact .pure _
   ·exact λw w1 c h=>by simp at h
 refine .bind (.bind (.info t) λi=>?_) λz=>?_
 ·split
  ·exact .pure _
  ·exact λw w1 c h=>by simp at h
 ·refine .bind Sp λd=>?_;split
  ·refine .bind ?_ λps=>?_
   ·rw[Array.mapM_eq_mapM_toList];exact .map _ (.mapM (λf=>.bind (Nt _) λ_=>.pure _) _)
   ·split
    ·exact .pure _
    ·exact λw w1 c h=>by simp at h
  ·refine .bind (Nt _) λn=>?_;split
   ·exact .pure _
   ·exact λw w1 c h=>by simp at h
  ·exact λw w1 c h=>by simp at h
theorem pQ(he:EnvOk P en){σ:St}{o:Oper}{e:H8}(hp:Ab4 o=true)(hx:exec en σ o some=some e){w w1:World}{g:G}{a:Act}(hs:LA w g σ a){n:Next}(hr:(execOp a.eval o).run P w=.ok n w1) :
    ∃c,∀w',(execOp a.eval o).run P w'=.ok (.value c) w':=by
 unfold Ab4 at hp;split at hp
 ·rename_i x ho;exact⟨a.eval x,λw'=>by simp[execOp,ho]⟩
 ·rename_i x ho;exact⟨a.eval x,λw'=>by simp[execOp,ho]⟩
 ·rename_i x i ho;simp only[execOp,ho,Instr.extract]at hr⊢;split at hr
  ·split at hr
   ·rename_i v hv;exact⟨v,λw'=>by simp⟩
   ·cases hr
  ·cases hr
 ·rename_i t x f ho;have ha:jA en σ o=none:=by unfold jA;rw[ho]
  obtain⟨e0,hx⟩:=Ahn he.aH ha (by unfold xe AdS;rw[ho]) (by unfold tlE;rw[ho]) (λc e=>by grind) hx;unfold R7 at hx;rw[ho]at hx;simp only at hx;split at hx
  ·rename_i ti ht;have Yp:=A0 hs x;unfold nc at hx;split at hx
   ·rename_i k i p q hq;rw[hq]at Yp;split at hx
    ·rename_i fo hfo;obtain⟨_,_,_,b,_,e1⟩:=LX Yp;exact⟨.pointer (some ⟨b,i.toNat*(g.A5 k).oI+q+fo,none⟩),λw'=>by simp[execOp,ho,e1,(Wc   (he.t ht) hfo b _).1]⟩
    ·grind
   ·rename_i ks t' y hq;rw[hq]at Yp;split at hx
    ·rename_i hc;obtain⟨_,b,off,ds,e1,_⟩:=ZA Yp;cases hfo:ti.Xr[f]? with
     |none =>
      rw[hfo]at hc;obtain⟨rfl,hc⟩:=hc;split at hx
      ·rename_i UO u z hz
       exfalso
       have:∀(f:Nat) (t:Ty) (x:t.V) (v:AV),XM ks t x f=some v->VB t f≠none:=by
        intro f;induction f with
        |zero=>intro t x v h;cases t<;>simp[XM,VB]at h⊢
        |succ f ih =>
         intro t x v h;cases t with
         |AG a b =>
          have:=ih b x.2 v h;simp only[VB]
          grind
         |_=>simp[XM]at h
       exact this f _ y _ hz hc
      ·grind
     |some fo=>exact⟨.pointer (some ⟨b,off+fo,none⟩),λw'=>by simp[execOp,ho,e1,(Wc   (he.t ht) hfo b _).1]⟩
    ·grind
   ·grind
  ·grind
 ·rename_i t x i ho;simp only[execOp,ho]at hr⊢;rw[Sem.run_bind]at hr;cases hq:(Instr.indexAt t _ _).run P w with
  |halt e w=>rw[hq]at hr;cases hr
  |ok c w2=>exact⟨c,λw'=>by rw[Sem.run_bind,nG hq w'];rfl⟩
 ·rename_i t GR ho;simp only[execOp,ho]at hr⊢;rw[Sem.run_bind]at hr;cases hq:(Instr.build t _).run P w with
  |halt e w=>rw[hq]at hr;cases hr
  |ok c w2=>exact⟨c,λw'=>by rw[Sem.run_bind,uz _ _ _ _ _ hq w'];rfl⟩
 ·grind
theorem cz(he:Jz P en){h:SH}{Cf:Array Oper}{σ':St}{Q:Exit->Act->World->Prop}{a0:Act}{w0:World}{g0:G}
    (WX:∀a' w' g',LA w' g' σ' a'->BL m w0 g0 w' g'->a'.defers=a0.defers->Q .normal a' w') (ff:Region.noSelect Cf=true) (hQ:∀c a w,¬Q (.panic c) a w) :
    ∀(k:Nat) (listed:Array Bool) (σ:St),AcS en h m Cf σ' k listed σ=some ()->m<=σ.Aj.length->∀(a:Act) (w:World) (g:G),LA w g σ a->BL m w0 g0 w g->a.defers=a0.defers->wpAny P .any Cf Q k listed a w
 |0,listed,σ,hw,hm,a,w,g,hs,BX,hd=>by
  simp only[AcS]at hw;split at hw
  ·rename_i hr;split at hw
   ·rename_i s hh;unfold C2 at hw;split at hw
    ·rename_i e;subst e;obtain⟨g1,Sb,Sf,_⟩:=XP hh hs hm;exact⟨by grind,WX a w g1 Sb (BX.trans Sf) hd⟩
    ·grind
   ·grind
  ·grind
 |k+1,listed,σ,hw,hm,a,w,g,hs,BX,hd=>by
  simp only[AcS]at hw;split at hw
  ·rename_i i hi;have hp:=List.find?_some hi;have nq:=List.mem_of_find?_eq_some hi;rw[AQg]at hp;simp only[R6]at hw;split at hw
   ·grind
   ·rename_i o ho;have ho':Cf[i]?=some o:=by grind
    rw[ho']at hp;rcases Qr hw with ⟨hwt,h1⟩|⟨hwt,h1⟩
    ·rw[Tw en he.aH]at h1;cases hx:exec en σ o some with
     |none=>grind
     |some e =>
      rw[hx]at h1;have QU:=Tx he.toEnvOk hx;have Qs:=QU.grow;have rR:=QU.wp a w g hs (wpAny P .any Cf Q k (listed.setIfInBounds i true)) (λ_ _ _=>False) λv w' g' hH hv ic=>cz he WX ff hQ k _ _ h1 (AQD hm Qs) _ _ _ (hs.after Qs hH hv ic) (BX.trans (ic.toC hm)) (by rw[Go.Va.put_defers];exact hd);have Es:∃n w1,(execOp a.eval o).run P w=.ok n w1:=by
       unfold Oper.wp at rR;cases hq:(execOp a.eval o).run P w with
       |ok n w1=>grind
       |halt e w1=>rw[hq]at rR;cases e<;>exact rR.elim
      obtain⟨n,w1,Es⟩:=Es;obtain⟨c,hc⟩:=pQ he.toEnvOk hp.1 hx hs Es;have hy:Yields P Cf o c a:=.inl ⟨J6 hs hwt,hc⟩;refine wpAny_take ho' ff hp.2 (by grind) (λc a w h=>(hQ c _ _ h).elim) hy ?_;unfold Oper.wp at rR;rw[hc w]at rR;exact rR
    ·have hy:Yields P Cf o undef a:=.inr ⟨J6 hs hwt,rfl⟩;refine wpAny_take ho' ff hp.2 (by grind) (λc a w h=>(hQ c _ _ h).elim) hy ?_;exact cz he WX ff hQ k _ _ h1 hm _ _ _ (hs.skip o.dst) BX (by rw[Go.Va.put_defers];exact hd)
  split at hw
  ·grind
  ·rename_i hr;refine⟨λe=>by grind,λi hi=>?_⟩;have h1:=bj hw _ (List.mem_map_of_mem hi);simp only[R6]at h1;unfold wpOp;split at h1
   ·grind
   ·rename_i o ho;have ho':Cf[i]?=some o:=by grind
    simp only[ho'];rcases Qr h1 with ⟨hw,h1⟩|⟨hw,h1⟩
    ·rw[Tw en he.aH]at h1;cases hx:exec en σ o some with
     |none=>grind
     |some e =>
      rw[hx]at h1;have QU:=Tx he.toEnvOk hx;have Qs:=QU.grow;rw[AQr (J6 hs hw)];refine .inl (QU.wp a w g hs _ Q λv w' g' hH hv ic=>?_);exact cz he WX ff hQ k _ _ h1 (AQD hm Qs) _ _ _ (hs.after Qs hH hv ic) (BX.trans (ic.toC hm)) (by rw[put_defers];exact hd)
    ·rw[J6 hs hw];exact cz he WX ff hQ k _ _ h1 hm _ _ _ (hs.skip o.dst) BX (by rw[put_defers];exact hd)
theorem LA.cut{w:World}{g:G}{σ:St}{a:Act}(hs:LA w g σ a):LA w (g.cut σ.Aj.length) σ a:=by
 have kG:∀b,g.own b=.Jd->(g.cut σ.Aj.length).own b=.Jd:=λb h=>by simp[G.cut,h]
 refine⟨⟨λb hb=>by simp[G.cut,hs.heap.B7 b hb],λk x hx=>?_⟩,hs.len,λi x hx=>?_⟩
 ·have:=(hs.heap.MP k x hx).OR  kG (iH (A7 hx)) λj hj=>iH (hs.heap.scp k x hx j hj);rwa [aT]at this
 ·have h:=hs.AU i x hx;have:=h.OR    kG λk hk=>iH (h.UC k hk);rwa [Nw]at this
theorem zZ(he:EnvOk P en){σ:St}{o:Oper}{e:H8}{t:TypeId}{x:Operand}(ho:o.op=.load t x){k:Nat}{i:Int}{p:ATO Nat}{f:Nat}{a0:AV}(hx:σ.Cr x=.ptr k i p f)(hb:σ.Aj[k]?=some (.box a0))(hex:exec en σ o some=some e)
    {w:World} {g:G} {a:Act} (hs:LA w g σ a):∃b,(g.A5 k).a=some ⟨b,0,none⟩/\∃c,∀w',w'.heap[b]?=w.heap[b]?->(execOp a.eval o).run P w'=.ok (.value c) w':=by
 have ha:jA en σ o=none:=by
  unfold jA
  grind
 obtain⟨e0,hex⟩:=Ahn he.aH ha (by unfold xe AdS;rw[ho]) (by unfold tlE;rw[ho]) (λc e=>by grind) hex;unfold R7 at hex;rw[ho]at hex;simp only at hex;split at hex
 ·rename_i ti ht;have Yp:=A0 hs x;rw[hx]at Yp hex;obtain⟨hk,h0,h1,b,OB,hpe⟩:=LX Yp;refine⟨b,OB,?_⟩;have hld:∃v,atP σ.Aj k i p f=some v/\v.size=ti.ty.size:=by
   split at hex
   ·split at hex
    ·unfold bT at hex;simp only[hb]at hex;cases hex
    ·grind
   ·unfold aG at hex
    grind
  obtain⟨v,hv,Nt⟩:=hld;obtain⟨cs,np,D2⟩:=W2 hs.heap hv h1 OB;have hl:cs.length=ti.ty.size:=by rw[np.len,Nt]
  obtain⟨c,_,tM⟩:=TP (P:=P) (w:=w) (he.t ht) hl D2 (λhg=>by rw[hl];exact TV hg);refine⟨c,λw' ny=>?_⟩;obtain⟨c',hr,Aie⟩:=TP (P:=P) (w:=w') (he.t ht) hl (λj u hu=>(W6 ny).trans (D2 j u hu)) (λhg=>by rw[hl];exact TV hg);have:c'=c:=by
   cases hq:ti.ty.isAgg with
   |true=>rw[hq]at tM Aie;rw[tM,Aie]
   |false=>rw[hq]at tM Aie;rw[tM]at Aie;injection Aie with h _;exact h.symm
  subst this;simp[execOp,ho,hpe,Instr.loadAt,Instr.sureAddr,hr]
 ·grind
theorem Awn{ts:Array TypeId}{t:TypeId}{ad:ATP Addr}{n cp:Nat}{w w1:World}{v:Value}(h:(Builtin.len_ ts t #[.slice ad n cp]).run P w=.ok v w1)(w':World):(Builtin.len_ ts t #[.slice ad n cp]).run P w'=.ok v w':=by
 unfold Builtin.len_ at h⊢;cases ht:ts[0]? with
 |none=>simp[ht]at h
 |some t =>
  cases hu:P.underlying t with
  |none=>simp[ht,underlying,hu]at h
  |some d =>
   cases d with
   |pointer q =>
    cases hq:P.underlying q with
    |none=>simp[ht,underlying,hu,hq]at h
    |some d=>cases d<;>simp[ht,underlying,hu,hq,goInt]at h⊢<;>exact h.1
   |slice _=>simp[ht,underlying,hu,goInt]at h⊢;exact h.1
   |array _ _=>simp[ht,underlying,hu,goInt]at h⊢;exact h.1
   |_=>simp[ht,underlying,hu,goInt]at h
theorem AdJ{o:Oper}{c:Call}(ho:o.op=.call c)(hc:c.callee=.builtin .len){a:Act}{X:Operand}(hX:c.args.toList=[X]){ad:ATP Addr}{n cp:Nat}(hv:a.eval X=.slice ad n cp){w w1:World}{nx:Next}(hr:(execOp a.eval o).run P w=.ok nx w1) :
    ∃v,∀w',(execOp a.eval o).run P w'=.ok (.value v) w':=by
 have hA:c.args=#[X]:=by grind
 have key:∀w',(execOp a.eval o).run P w'=((Builtin.len_ c.argTypes o.type #[.slice ad n cp]).run P w').andThen λv w'=>.ok (.value v) w':=λw'=>by
  simp[execOp,ho,resolve,hc,hA,hv,invoke,builtin]
 rw[key]at hr;cases hq:(Builtin.len_ _ _ _).run P w with
 |ok v w2=>exact⟨v,λw'=>by rw[key,Awn hq w'];rfl⟩
 |halt e w2=>rw[hq]at hr;cases hr
theorem AdW(he:EnvOk P en){S4:ATO Blk}{σ:St}{o:Oper}{e:H8}(hp:Aah S4 σ o=true)(hx:exec en σ o some=some e){w w1:World}{g:G}{a:Act}(hs:LA w g σ a){nx:Next}(hr:(execOp a.eval o).run P w=.ok nx w1)
    {B:Nat->Prop} {w0:World} (hN:∀k b,(g.A5 k).a=some ⟨b,0,none⟩->(∃a0,S4[k]?=some (.box a0))->B b) (hw:∀b,B b->w.heap[b]?=w0.heap[b]?):∃c,∀w',(∀b,B b->w'.heap[b]?=w0.heap[b]?)->(execOp a.eval o).run P w'=.ok (.value c) w':=by
 unfold Aah at hp;rw[ARr]at hp;rcases hp with hp |hp
 ·obtain⟨c,hc⟩:=pQ he hp hx hs hr;exact⟨c,λw' _=>hc w'⟩
 ·split at hp
  ·rename_i t x ho;split at hp
   ·rename_i k i p f Yp;split at hp
    ·rename_i a1 a0 zH hbb;obtain⟨b,OB,c,hc⟩:=zZ he ho Yp hbb hx hs;have hbn:=hN k b OB ⟨a1,zH⟩;exact⟨c,λw' ny=>hc w' ((ny b hbn).trans (hw b hbn).symm)⟩
    ·grind
   ·grind
  ·rename_i c ho;have go:∀(X:Operand),c.callee=.builtin .len->c.args.toList=[X]->(∃ad n cp,a.eval X=.slice ad n cp)->∃v,∀w',(∀b,B b->w'.heap[b]?=w0.heap[b]?)->(execOp a.eval o).run P w'=.ok (.value v) w':=λX h1 h2 ⟨ad,n,cp,h3⟩=>by
    obtain⟨v,hv⟩:=AdJ ho h1 h2 h3 hr;exact⟨v,λw' _=>hv w'⟩
   split at hp
   ·rename_i hc rM;unfold Qi at rM;cases hl:c.args.toList with
    |nil=>grind
    |cons X r =>
     rw[hl]at rM;cases r with
     |nil =>
      simp only[AQU,ARz,ARZ,and_true]at rM;have hv:=A0 hs X;rw[rM]at hv;obtain⟨_,ad,cp,ds,hv,_⟩:=aS hv;exact go X hc hl ⟨_,_,_,hv⟩
     |cons _ _=>grind
   ·rename_i hc rM;unfold Qi at rM;cases hl:c.args.toList with
    |nil=>grind
    |cons X r =>
     rw[hl]at rM;cases r with
     |nil =>
      simp only[AQU,ARz,ARZ,and_true]at rM;have hv:=A0 hs X;rw[rM]at hv;obtain⟨ad,hv⟩:=YQ hv;exact go X hc hl ⟨_,_,_,hv⟩
     |cons _ _=>grind
   ·grind
  ·rename_i op t x y yt ho;rw[AQg]at hp;obtain⟨h1,h2⟩:=hp;split at h2
   ·rename_i ks k u UO k' v Yp hyy;have hk:k=k':=by grind
    subst hk;have e1:=A0 hs x;rw[Yp]at e1;have e1:=DR e1;have e2:=A0 hs y;rw[hyy]at e2;have e2:=DR e2;split at h1
    ·exact⟨_,λw' _=>by simp[execOp,ho,e1,e2,binOp];rfl⟩
    ·exact⟨_,λw' _=>by simp[execOp,ho,e1,e2,binOp];rfl⟩
    ·grind
   ·grind
  ·grind
theorem vf{R:Type}{all:ATO Oper}{S4:ATO Blk}{i:Nat}{σ:St}{K:St->ATP R}{r:R}(h:evQ en all S4 i σ K=some r):∃o,all[i]?=some o/\XN all σ o (λσ=>exec en σ o λe=>if e.BJ.all (nbx S4)then K (σ.after o.dst e)else none) (λσ=>K (σ.skip o.dst))=some r:=by
 unfold evQ at h
 grind
theorem Aep{w:World}{g:G}{n:Nat}:BL m w g w (g.cut n) :=
 ⟨rfl,rfl,rfl,AQf _,λb _ h=>⟨by simp[G.cut,h],rfl⟩,λb h=>⟨by simp[G.cut,h],rfl⟩,λb k p h hk hm=>(hm (List.mem_range.2 hk)).elim,λk hk=>rfl⟩
def ck(gS:G)(S4:ATO Blk)(b:Nat):Prop:=∃k a1,S4[k]?=some (.box a1)/\(gS.A5 k).a=some ⟨b,0,none⟩
theorem Aak{σ:St}{o:Oper}{e:H8}(QU:OA P σ o e){S4:ATO Blk}{gS:G}(hme:e.BJ.all (nbx S4)=true){w:World}{g:G}{a:Act}(hs:LA w g σ a)(hm:m<=σ.Aj.length)(hNl:S4.length<=σ.Aj.length)(Cw:∀k a1 b,S4[k]?=some (.box a1)->(gS.A5 k).a=some ⟨b,0,none⟩->g.own b=.BV k []){next:Act->World->Prop}{Q:Exit->Act->World->Prop}
    (hn:∀v w' g',LA w' g' (σ.after o.dst e) (a.put o.dst v)->BL m w g w' g'->(∀b,ck gS S4 b->w'.heap[b]?=w.heap[b]?)->(∀k,k<σ.Aj.length->g'.A5 k=g.A5 k)->(∀k a1 b,S4[k]?=some (.box a1)->(gS.A5 k).a=some ⟨b,0,none⟩->g'.own b=.BV k [])->next (a.put o.dst v) w'):o.wp P a w next Q:=by
 refine QU.wp a w g hs next Q λv w' g' hH hv st=>?_
 have both:∀k a1 b,S4[k]?=some _->(gS.A5 k).a=some _->w'.heap[b]?=w.heap[b]?/\g'.own b=.BV k []:=λk a1 b hk hb=>by
  have h:=st.BV b k [] (Cw k a1 b hk hb) (AQL (A7 hk) hNl) (λh=>by
   have:=List.all_eq_true.1 hme k h;unfold nbx at this;rw[hk]at this;cases this)
  exact⟨h.2,h.1⟩
 exact hn v w' g' (hs.after QU.grow hH hv st) (st.toC hm) (λb ⟨k,a1,h1,h2⟩=>(both k a1 b h1 h2).1) (λk hk=>st.A5 k hk) λk a1 b h1 h2=>(both k a1 b h1 h2).2
theorem iC(he:Jz P en){h:SH}{Cf:Array Oper}{σ':St}{Q:Exit->Act->World->Prop}{a0:Act}{w0:World}{g0 gS:G}
    (WX:∀a' w' g',LA w' g' σ' a'->BL m w0 g0 w' g'->a'.defers=a0.defers->Q .normal a' w') (ff:Region.noSelect Cf=true) (hQ:∀c a w,¬Q (.panic c) a w) {S4:ATO Blk} (H0:Bo w0 gS S4) :
    ∀(k:Nat) (listed:Array Bool) (σ:St),zf en h m S4 Cf σ' k listed σ=some ()->m<=σ.Aj.length->S4.length<=σ.Aj.length->∀(a:Act) (w:World) (g:G),LA w g σ a->BL m w0 g0 w g->a.defers=a0.defers->(∀b,ck gS S4 b->w.heap[b]?=w0.heap[b]?)->(∀k,k<S4.length->g.A5 k=gS.A5 k)->(∀k a1 b,S4[k]?=some (.box a1)->(gS.A5 k).a=some ⟨b,0,none⟩->g.own b=.BV k []) ->
     wpAnyH P .any Cf Q (λw=>∀b,ck gS S4 b->w.heap[b]?=w0.heap[b]?) k listed a w
 |0,listed,σ,hw,hm,hl,a,w,g,hs,BX,hd,hS,U8,Cw=>by
  simp only[zf]at hw;split at hw
  ·rename_i hr;split at hw
   ·rename_i s hh;unfold C2 at hw;split at hw
    ·rename_i e;subst e;obtain⟨g1,Sb,Sf,_⟩:=XP hh hs hm;exact⟨by grind,WX a w g1 Sb (BX.trans Sf) hd⟩
    ·grind
   ·grind
  ·grind
 |k+1,listed,σ,hw,hm,hl,a,w,g,hs,BX,hd,hS,U8,Cw=>by
  have one:∀(o:Oper) (e:H8) (i:Nat),exec en σ o some=some e->(if e.BJ.all (nbx S4)then zf en h m S4 Cf σ' k (listed.setIfInBounds i true) (σ.after o.dst e)else none)=some ()->∀(Q':Exit->Act->World->Prop),
      o.wp P a w (λa' w'=>(∀b,ck gS S4 b->w'.heap[b]?=w0.heap[b]?)/\wpAnyH P .any Cf Q (λw=>∀b,ck gS S4 b->w.heap[b]?=w0.heap[b]?) k (listed.setIfInBounds i true) a' w') Q':=by
   intro o e i hx h1 Q';split at h1
   ·rename_i hme;have QU:=Tx he.toEnvOk hx;refine Aak (m:=m) (gS:=gS) QU hme hs hm hl Cw λv w' g' ea st' hS' AFR AGw=>?_;have hS2:∀b,ck gS S4 b->w'.heap[b]?=w0.heap[b]?:=λb hb=>(hS' b hb).trans (hS b hb);exact⟨hS2,iC he WX ff hQ H0 k _ _ h1 (AQD hm QU.grow) (AQD hl QU.grow) _ _ _ ea (BX.trans st') (by rw[Go.Va.put_defers];exact hd) hS2 (λk hk=>(AFR k (AQL hk hl)).trans (U8 k hk)) AGw⟩
   ·grind
  simp only[zf]at hw;split at hw
  ·rename_i i hi;have hp:=List.find?_some hi;have nq:=List.mem_of_find?_eq_some hi;rw[AQg]at hp;obtain⟨o,ho,hw⟩:=vf hw;have ho':Cf[i]?=some o:=by grind
   rw[ho']at hp;rcases Qr hw with ⟨hwt,h1⟩|⟨hwt,h1⟩
   ·rw[Tw en he.aH]at h1;cases hx:exec en σ o some with
    |none=>grind
    |some e =>
     rw[hx]at h1;have rR:=one o e i hx h1 (λ_ _ _=>False);have Es:∃n w1,(execOp a.eval o).run P w=.ok n w1:=by
      unfold Oper.wp at rR;cases hq:(execOp a.eval o).run P w with
      |ok n w1=>grind
      |halt e w1=>rw[hq]at rR;cases e<;>exact rR.elim
     obtain⟨n,w1,Es⟩:=Es;obtain⟨c,hc⟩:=AdW he.toEnvOk hp.1 hx hs Es (B:=ck gS S4) (w0:=w0) (λk b hb Amf=>by
      obtain⟨a1,Amf⟩:=Amf;rw[U8 k (A7 Amf)]at hb;exact⟨k,a1,Amf,hb⟩) hS
     have hy:YieldsIf P Cf (λw=>∀b,ck gS S4 b->w.heap[b]?=w0.heap[b]?) o c a:=.inl ⟨J6 hs hwt,hc⟩;refine wpAnyH_take ho' ff hp.2 (by grind) (λc a w h=>(hQ c _ _ h).elim) hy hS ?_;unfold Oper.wp at rR;rw[hc w hS]at rR;exact rR.2
   ·have hy:YieldsIf P Cf (λw=>∀b,ck gS S4 b->w.heap[b]?=w0.heap[b]?) o undef a:=.inr ⟨J6 hs hwt,rfl⟩;refine wpAnyH_take ho' ff hp.2 (by grind) (λc a w h=>(hQ c _ _ h).elim) hy hS ?_;exact iC he WX ff hQ H0 k _ _ h1 hm hl _ _ _ (hs.skip o.dst) BX (by rw[Go.Va.put_defers];exact hd) hS U8 Cw
  split at hw
  ·grind
  ·rename_i hr;refine⟨λe=>by grind,λi hi=>?_⟩;have h1:=bj hw _ (List.mem_map_of_mem hi);obtain⟨o,ho,h1⟩:=vf h1;unfold wpOp;have ho':Cf[i]?=some o:=by grind
   simp only[ho'];rcases Qr h1 with ⟨hw,h1⟩|⟨hw,h1⟩
   ·rw[Tw en he.aH]at h1;cases hx:exec en σ o some with
    |none=>rw[hx]at h1;cases h1
    |some e =>
     rw[hx]at h1;rw[AQr (J6 hs hw)];exact .inl (one o e i hx h1 Q)
   ·rw[J6 hs hw];exact⟨hS,iC he WX ff hQ H0 k _ _ h1 hm hl _ _ _ (hs.skip o.dst) BX (by rw[put_defers];exact hd) hS U8 Cw⟩
theorem QP(he:Jz P en):∀c:Code,yu P en m c
 |.skip=>λσ e σ' h hm=>by
  obtain⟨rfl,rfl⟩:=h;exact⟨hm,λa w g Q hs hq=>wp_skip (hq a w g hs (BL.refl _ _ _) rfl)⟩
 |.ret=>λσ e σ' h hm=>by
  obtain⟨rfl,rfl⟩:=h;exact⟨hm,λa w g Q hs hq=>wp_ret (hq a w g hs (BL.refl _ _ _) rfl)⟩
 |.exit n=>λσ e σ' h hm=>by
  obtain⟨rfl,rfl⟩:=h;exact⟨hm,λa w g Q hs hq=>wp_exit (hq a w g hs (BL.refl _ _ _) rfl)⟩
 |.seq c d=>λσ e σ' h hm=>by
  simp only[ev]at h;have hj:∃e1 s1,m<=s1.Aj.length/\(∀(a:Act) (w:World) (g:G) (Q:Exit->Act->World->Prop),LA w g σ a->(∀a' w' g',LA w' g' s1 a'->BL m w g w' g'->a'.defers=a.defers->Q (rl e1) a' w')->c.wp P Q a w) /\
      (match e1 with |.normal=>ev en m d _ s1 Se |.exit n=>Se (.exit n) s1 |.ret=>Se .ret s1)=some (e,σ'):=by
   split at h
   ·obtain⟨e1,s1,h1,h2⟩:=dc he.aH h;obtain⟨UB,yo⟩:=QP he c σ e1 s1 h1 hm;exact⟨e1,s1,UB,yo,h2⟩
   ·rw[AQ1]at h;obtain⟨σ0,h0,h⟩:=h;obtain⟨zN,AvM⟩:=Ahi he h0 hm;rw[AQ1]at h;obtain⟨⟨e1,s2⟩,h1,h2⟩:=h;obtain⟨e0,s1,h3,h4⟩:=dc he.aH h1;rw[AQ1]at h4;obtain⟨s3,h5,h6⟩:=h4;simp only[AQb,AQm]at h6;obtain⟨rfl,rfl⟩:=h6;obtain⟨UB,yo⟩:=QP he c σ0 e0 s1 h3 zN;refine⟨e0,s3,Xf h5,λa w g Q hs hq=>?_,h2⟩;obtain⟨g0,yk,vU⟩:=AvM hs;refine yo a w g0 Q yk λa' w' g' ea BX hd=>?_;obtain⟨g3,vS,Aib,_⟩:=XP h5 ea UB;exact hq a' w' g3 vS (vU.trans (BX.trans Aib)) hd
  obtain⟨e1,s1,UB,yo,h2⟩:=hj;cases e1 with
  |normal =>
   obtain⟨S6,ih2⟩:=QP he d s1 e σ' h2 UB;refine⟨S6,λa w g Q hs hq=>wp_seq (yo a w g _ hs λa1 w1 g1 Sb XR kD=>?_)⟩;exact ih2 a1 w1 g1 Q Sb λa2 w2 g2 ZO zR hd2=>hq a2 w2 g2 ZO (XR.trans zR) (hd2.trans kD)
  |exit n =>
   obtain⟨rfl,rfl⟩:=h2;exact⟨UB,λa w g Q hs hq=>wp_seq (yo a w g _ hs λa1 w1 g1 Sb XR kD=>hq a1 w1 g1 Sb XR kD)⟩
  |ret =>
   obtain⟨rfl,rfl⟩:=h2;exact⟨UB,λa w g Q hs hq=>wp_seq (yo a w g _ hs λa1 w1 g1 Sb XR kD=>hq a1 w1 g1 Sb XR kD)⟩
 |.cond c x y=>λσ e σ' h hm=>by
  simp only[ev]at h;split at h
  ·rename_i ks t hc;have hb:∀(a:Act) (w:World) (g:G),LA w g σ a->a.eval c=.bool t:=λa w g hs=>by
    have:=A0 hs c;rw[hc]at this;exact Tq this
   cases t
   ·obtain⟨UB,yo⟩:=QP he y σ e σ' h hm;exact⟨UB,λa w g Q hs hq=>wp_cond_false (hb a w g hs) (yo a w g Q hs hq)⟩
   ·obtain⟨UB,yo⟩:=QP he x σ e σ' h hm;exact⟨UB,λa w g Q hs hq=>wp_cond_true (hb a w g hs) (yo a w g Q hs hq)⟩
  ·grind
 |.block n c=>λσ e σ' h hm=>by
  simp only[ev]at h;obtain⟨e1,s1,h1,h2⟩:=dc he.aH h;obtain⟨UB,yo⟩:=QP he c σ e1 s1 h1 hm;cases e1 with
  |normal =>
   obtain⟨rfl,rfl⟩:=h2;exact⟨UB,λa w g Q hs hq=>wp_block (yo a w g _ hs λa1 w1 g1 Sb XR kD=>hq a1 w1 g1 Sb XR kD)⟩
  |exit k =>
   simp only at h2;cases hk:k==n with
   |true =>
    rw[hk]at h2;obtain⟨rfl,rfl⟩:=h2;have XC:k=n:=by grind
    subst XC;exact⟨UB,λa w g Q hs hq=>wp_block (yo a w g _ hs λa1 w1 g1 Sb XR kD=>by
     simp only[rl,Exit.inBlock];exact hq a1 w1 g1 Sb XR kD)⟩
   |false =>
    rw[hk]at h2;obtain⟨rfl,rfl⟩:=h2;have XC:¬k=n:=by grind
    exact⟨UB,λa w g Q hs hq=>wp_block (yo a w g _ hs λa1 w1 g1 Sb XR kD=>by
     simp only[rl,Exit.inBlock,AQs XC];exact hq a1 w1 g1 Sb XR kD)⟩
  |ret =>
   obtain⟨rfl,rfl⟩:=h2;exact⟨UB,λa w g Q hs hq=>wp_block (yo a w g _ hs λa1 w1 g1 Sb XR kD=>hq a1 w1 g1 Sb XR kD)⟩
 |.region id Cf false=>λσ e σ' h hm=>by
  simp only[ev]at h;rw[U7 he.aH]at h;cases hx:R6 en Cf.toList (List.range Cf.size) σ some with
  |none=>grind
  |some s =>
   rw[hx]at h;obtain⟨rfl,rfl⟩:=h;refine⟨(db (Q:=λ_ _ _=>True) he.toEnvOk _ _ _ hx hm).1,λa w g Q hs hq=>wp_region ((db he.toEnvOk _ _ _ hx hm).2 a w g hs hq)⟩
 |.region id Cf true=>λσ e σ' h hm=>by
  simp only[ev]at h;split at h
  ·rw[AQ1]at h;obtain⟨σ0,h0,h⟩:=h;obtain⟨zN,AvM⟩:=Ahi he h0 hm;rw[AQ1]at h;obtain⟨s,h1,h2⟩:=h;obtain⟨rfl,rfl⟩:=h2;unfold AmV at h1;split at h1
   ·grind
   rename_i ff;rw[U7 he.aH,AQ1]at h1;obtain⟨s0,h3,h4⟩:=h1;rw[AQ1]at h4;obtain⟨s1,h5,h6⟩:=h4;rw[AQ1]at h6;obtain⟨_,h7,h8⟩:=h6;injection h8 with h8;subst h8;refine⟨Xf h5,λa w g Q hs hq=>Code.wp_mono (Q:=λe a w=>match e with |.panic _=>False |e=>Q e a w) (λe a w h=>by grind) (wp_region_any he.mixed ?_)⟩
   obtain⟨g1,hs,XR⟩:=AvM hs;cases hqt:(SH.Xu _)with
   |false =>
    rw[hqt]at h7;exact cz (Q:=λe a w=>match e with |.panic _=>False |e=>Q e a w) he    (λa' w' g' h1 h2 h3=>hq a' w' g' h1 (XR.trans h2) h3) (by grind) (λc a w h=>h) _ _ σ0 h7 zN a _ g1 ⟨hs.heap.drew,hs.len,λi x hx=>(hs.AU i x hx).RO (Step.drew [] _ w g1) (AQf _)⟩ (Step.drew _ _ w g1) rfl
   |true =>
    rw[hqt]at h7;have hsD :=LA.cut ⟨hs.heap.drew,hs.len,λi x hx=>(hs.AU i x hx).RO (Step.drew _ _ _ _) (AQf _)⟩;exact wpAny_of_held _ _ _ _ (iC (Q:=λe a w=>match e with |.panic _=>False |e=>Q e a w) he     (λa' w' g' h1 h2 h3=>hq a' w' g' h1 (((XR.trans ((Step.drew [] _ w g1).toC zN)).trans Aep).trans h2) h3) (by grind) (λc a w h=>h) hsD.heap _ _ σ0 h7 zN (AQf _) a _ _ hsD (BL.refl _ _ _) rfl (λ_ _=>rfl) (λ_ _=>rfl) λk a1 b hk hb=>by
     obtain⟨_,b',_,_,ha',ho,_⟩:=hsD.heap.MP k _ hk
     grind)
  split at h
  ·rename_i ga;rw[U6 he.aH]at h;cases hx:Vi en Cf.toList (YP Cf.toList (XZ en Cf.toList Cf.toList.length []) []) (XZ en Cf.toList Cf.toList.length []) [] [] σ some with
   |none=>grind
   |some s =>
    rw[hx]at h;obtain⟨rfl,rfl⟩:=h;exact rk he.toEnvOk he.mixed ga hx hm
  ·grind
 |.loop body=>AmJ he (QP he body)
 |.goto _=>λ_ _ _ h _=>by simp[ev]at h
 |.label _=>λ_ _ _ h _=>by simp[ev]at h
 |.rangeFunc ..=>λ_ _ _ h _=>by simp[ev]at h
 |.scope _=>λ_ _ _ h _=>by simp[ev]at h
 |.refuse _=>λ_ _ _ h _=>by simp[ev]at h
end
def Ai1(tmps:Array Value):ResultVar->Sem Value
 |.tmp t=>pure (tmps.getD t undef)
 |.cell a t=>do loadVar t (<-asAddr (tmps.getD a undef))
theorem lF(fn:Func)(tmps:Array Value):results fn tmps=(do let vs <-fn.results.mapM (Ai1 tmps);pure (if h:vs.size=1 then vs[0]else .tuple vs)):=by
 congr 1
section
variable {P:Program} {en:GX}
theorem Aam(he:EnvOk P en){σ:St}{w:World}{g:G}{a:Act}(hs:LA w g σ a):∀{rs:ATO ResultVar} {l:ATO AV},iu en.Ee σ rs=some l ->
    ∃vs,(rs.mapM (Ai1 a.tmps)).run P w=.ok vs w/\DV w g σ.Aj.length l vs
 |[],l,h=>by
  simp only[iu,AQb]at h;subst h;exact⟨[],rfl,trivial⟩
 |.tmp t::rs,l,h=>by
  simp only[iu]at h;split at h
  ·rename_i x l' hx hl;injection h with h;subst h;obtain⟨vs,hr,hv⟩:=Aam he hs hl;exact⟨a.tmps.getD t _::vs,by simp only[List.mapM_cons,Ai1,Sem.run_bind,Sem.run_pure,Result.andThen_ok,hr],hs.AU t x hx,hv⟩
  ·grind
 |.cell b t::rs,l,h=>by
  simp only[iu]at h;split at h
  ·rename_i ti k i p o ht hx;split at h
   ·rename_i x l' U8 hl;split at h
    ·rename_i Nt;injection h with h;subst h;obtain⟨vs,hr,hv⟩:=Aam he hs hl;obtain⟨hk,h0,h1,bb,hb,hp⟩:=LX (hs.AU b _ hx);obtain⟨cs,np,D2⟩:=W2 hs.heap U8 h1 hb;obtain⟨v,rQ,tM⟩:=TP  (he.t ht) (by rw[np.len,Nt.1]) D2 (λhg=>by rw[np.len,Nt.1];exact TV hg);rw[<-Nt.2]at tM;refine⟨v::vs,?_,BD (WL np) np tM,hv⟩;have:(asAddr (a.tmps.getD b undef)).run P w=.ok ⟨bb,i.toNat*(g.A5 k).oI+o,none⟩ w:=by rw[hp];rfl
     simp only[List.mapM_cons,Ai1,Sem.run_bind,Sem.run_pure,Result.andThen_ok,hr,this,rQ]
    ·grind
   ·grind
  ·grind
theorem jR{w:World}{g:G}{n:Nat}:∀{l:ATO AV} {vs:ATO Value},DV w g n l vs->CN w g n true (XH l) vs
 |[],[],_=>rfl
 |a::l,v::vs,⟨h1,h2⟩=>by
  refine⟨v,vs,rfl,?_,jR h2⟩;split
  ·exact .inl rfl
  ·rename_i ht;exact(Cb.iff (by grind)).1 h1
 |[],_::_,h=>h.elim
 |_::_,[],h=>h.elim
theorem AmW{w:World}{g:G}{n:Nat}{l:ATO AV}{vs:ATO Value}(h:DV w g n l vs):Cb w g n (wY l) (if h:vs.toArray.size=1 then vs.toArray[0]else .tuple vs.toArray):=by
 match l,vs,h with
 |[],[],_=>rfl
 |[a],[v],h=>exact h.1
 |a::b::l,v::u::vs,h =>
  have:¬(v::u::vs).toArray.size=1:=by simp
  exact⟨_,rfl,jR h⟩
theorem oi{w:World}{g:G}{n:Nat}:∀{l:ATO AV} {vs:ATO Value},DV w g n l vs->l.length=vs.length
 |[],[],_=>rfl
 |_::_,_::_,h=>by simp[oi h.2]
 |[],_::_,h=>h.elim
 |_::_,[],h=>h.elim
theorem Zz{w:World}{g:G}{n:Nat}:∀{l:ATO AV} {vs:ATO Value} {i:Nat} {x:AV},DV w g n l vs->l[i]?=some x->∃v,vs[i]?=some v/\Cb w g n x v
 |_::_,v::_,0,_,h,hx=>by simp at hx;subst hx;exact⟨v,rfl,h.1⟩
 |_::_,_::_,i+1,_,h,hx=>by
  obtain⟨v,hv,hr⟩:=Zz  h.2 (by simpa using hx)
  grind
 |[],[],_,_,_,hx=>by grind
 |[],_::_,_,_,h,_=>h.elim
 |_::_,[],_,_,h,_=>h.elim
theorem jz{w w':World}{g g':G}{n n':Nat}(st:Step [] n w g w' g')(hn:n<=n'):∀{l:ATO AV} {vs:ATO Value},DV w g n l vs->DV w' g' n' l vs
 |[],[],_=>trivial
 |_::_,_::_,h=>⟨h.1.RO st hn,jz st hn h.2⟩
 |[],_::_,h=>h.elim
 |_::_,[],h=>h.elim
theorem eB{w:World}{g:G}{n:Nat}{x:AV}:∀{l:ATO AV} {vs:ATO Value} {i:Nat} {v:Value},DV w g n l vs->vs[i]?=some v->Cb w g n x v->DV w g n (l.set i x) vs
 |_::_,_::_,0,v,h,hv,hx=>by
  simp at hv;subst hv;exact⟨hx,h.2⟩
 |_::_,_::_,i+1,v,h,hv,hx=>⟨h.1,eB h.2 (by grind) hx⟩
 |[],[],_,_,_,hv,_=>by grind
 |[],_::_,_,_,h,_,_=>h.elim
 |_::_,[],_,_,h,_,_=>h.elim
theorem uS{m:Nat}{w:World}:∀{cs:ATO (Nat×Co)} {l l':ATO AV} {bs HH:ATO Blk} {g:G} {vs:ATO Value},cK cs l bs=some (l',HH)->Bo w g bs->DV w g bs.length l vs->m<=bs.length ->
    ∃g',Bo w g' HH/\DV w g' HH.length l' vs/\BL m w g w g'
 |[],l,l',bs,HH,g,vs,h,H,hx,hm=>by
  obtain⟨rfl,rfl⟩:=h;exact⟨g,H,hx,BL.refl _ _ _⟩
 |(i,c)::r,l,l',bs,HH,g,vs,h,H,hx,hm=>by
  simp only[cK]at h;split at h
  ·grind
  ·rename_i v hv;split at h
   ·rename_i v' nb hco;obtain⟨u,hu,hr⟩:=Zz hx hv;obtain⟨g1,H1,iN,Sf⟩:=zo H hco hr;obtain⟨g2,H2,yn,Qn⟩:=uS (m:=m) h H1 (eB (jz Sf (by simp) hx) hu iN) (by grind);exact⟨g2,H2,yn,(Sf.toC hm).trans Qn⟩
   ·grind
theorem Aby{m:Nat}{w:World}:∀{cs:ATO (Nat×Ty)} {l l':ATO AV} {bs HH:ATO Blk} {g:G} {vs:ATO Value},rC m cs l bs=some (l',HH)->Bo w g bs->DV w g bs.length l vs ->
    ∃g',Bo w g' HH/\DV w g' HH.length l' vs/\BL m w g w g'/\HH.length=bs.length
 |[],l,l',bs,HH,g,vs,h,H,hx=>by
  obtain⟨rfl,rfl⟩:=h;exact⟨g,H,hx,BL.refl _ _ _,rfl⟩
 |(i,t)::r,l,l',bs,HH,g,vs,h,H,hx=>by
  simp only[rC]at h;split at h
  ·grind
  ·rename_i v hv;split at h
   ·rename_i v' nb hf;obtain⟨g1,H1,hl,Sf,ha,iN,_,_⟩:=rE H hf;obtain⟨u,hu,hr⟩:=Zz hx hv;have AJW:∀{l:ATO AV} {vs:ATO _},DV w g bs.length l vs->DV w g1 nb.length (l.map AV.cj) vs:=by
     intro l;induction l with
     |nil=>intro vs h;cases vs with
      |nil=>trivial
      |cons _ _=>exact h.elim
     |cons a l ih=>intro vs h;cases vs with
      |nil=>exact h.elim
      |cons v vs=>exact⟨by rw[hl];exact ha a v h.1,ih h.2⟩
    obtain⟨g2,H2,yn,Qn,iL⟩:=Aby  h H1 (eB (AJW hx) hu (by grind));exact⟨g2,H2,yn,Sf.trans Qn,iL.trans hl⟩
   ·grind
theorem dR{w:World}{g:G}{E:ATO Blk}{args:ATO AV}{vs:ATO Value}(H:Bo w g E)(h:DV w g E.length args vs){n:Nat}(hn:args.length<=n) :
    LA w g ⟨args++List.replicate (n-args.length) (.un 0),E⟩ {tmps:=vs.toArray++Array.replicate (n-vs.toArray.size) undef,defers:=[]} where
 heap:=H
 len:=by simp[oi h]
 AU i x hx:=by
  rw[AQz]at hx;split at hx
  ·obtain⟨v,hv,hr⟩:=Zz h hx;have hi:=A7 hv;have:(vs.toArray++Array.replicate (n-vs.toArray.size) undef).getD i undef=v:=by
    rw[AQ6,Array.getElem?_append_left (by grind)];simp[hv]
   rw[this];exact hr
  ·rw[List.getElem?_replicate]at hx;split at hx
   ·injection hx with hx;subst hx;exact RP
   ·grind
theorem ZI{m:Nat}{w:World}{a:Act}:∀{l:ATO Fi} {σ σ2:St} {g:G},af m l σ=some σ2->LA w g σ a->m<=σ.Aj.length->∃g',LA w g' σ2 a/\BL m w g w g'/\m<=σ2.Aj.length
 |[],σ,σ2,g,h,hs,hm=>by
  simp only[af,AQb]at h;subst h;exact⟨g,hs,BL.refl _ _ _,hm⟩
 |.co k c::r,σ,σ2,g,h,hs,hm=>by
  simp only[af]at h;split at h
  ·rename_i bs hb;obtain⟨g1,H1,st⟩:=Ag7 hs.heap hb;have hl:=iG hb;obtain⟨g2,h2,Qn,S6⟩:=ZI  h ⟨H1,hs.len,λi x hx=>(hs.AU i x hx).RO st hl⟩ (AQD hm hl);exact⟨g2,h2,(st.toC hm).trans Qn,S6⟩
  ·grind
 |.Bg j::r,σ,σ2,g,h,hs,hm=>by
  refine ZI (σ:=⟨σ.AU,σ.Aj.set j _⟩) h ⟨⟨hs.heap.B7,λk x hx=>?_⟩,hs.len,λi x hx=>by rw[AQi];exact hs.AU i x hx⟩ (by grind);rw[AQi];rw[AQy]at hx;split at hx
  ·split at hx
   ·injection hx with hx;subst hx;trivial
   ·grind
  ·exact hs.heap.MP k x hx
 |.mvs s p::r,σ,σ2,g,h,hs,hm=>by
  simp only[af]at h;split at h
  ·rename_i σ1 h1;unfold mvP at h1;split at h1
   ·obtain⟨g1,Sb,Sf,UB⟩:=z8 h1 hs hm;obtain⟨g2,ZO,Qn,S6⟩:=ZI h Sb UB;exact⟨g2,ZO,Sf.trans Qn,S6⟩
   ·rename_i a0 yk;obtain⟨g1,Sb,Sf,UB⟩:=AiE yk h1 hs hm;obtain⟨g2,ZO,Qn,S6⟩:=ZI h Sb UB;exact⟨g2,ZO,Sf.trans Qn,S6⟩
   ·grind
  ·grind
 |.mv k p::r,σ,σ2,g,h,hs,hm=>by
  simp only[af]at h;split at h
  ·rename_i σ1 h1;obtain⟨g1,Sb,Sf,UB⟩:=z8 h1 hs hm;obtain⟨g2,ZO,Qn,S6⟩:=ZI h Sb UB;exact⟨g2,ZO,Sf.trans Qn,S6⟩
  ·grind
theorem bJ(he:Jz P en){f:FuncId}{fn:Func}(hf:P.funcs[f]?=some fn){args:ATO AV}{E:ATO Blk}{av:AV}{E':ATO Blk}(h:TT en fn (AV×ATO Blk) args E (λv b=>some (v,b))=some (av,E')) :
    E.length<=E'.length/\∀(w:World) (g:G) (vs:ATO Value),Bo w g E->DV w g E.length args vs->Calls P f vs.toArray w λe w'=>∃v g',e=.returned v/\Bo w' g' E'/\Cb w' g' E'.length av v/\BL E.length w g w' g':=by
 unfold TT at h;split at h
 ·grind
 ·rename_i c hc;split at h
  ·rename_i hl;obtain⟨e,σ',h1,h2⟩:=dc he.aH h;obtain⟨hm,rR⟩:=QP he c _ e σ' h1 (AQf _);have key:∀(σ2:St) (l l0:ATO AV) (S4:ATO Blk) (l':ATO AV) (HH:ATO Blk),af E.length en.fi.WX σ'=some σ2->iu en.Ee σ2 fn.results.toList=some l->rC E.length en.fi.RU l σ2.Aj=some (l0,S4)->cK en.fi.iq l0 S4=some (l',HH)->lb E.length HH (wY l')=some (av,E')->(rl e=.normal\/rl e=.ret) ->
       E.length<=E'.length/\∀(w:World) (g:G) (vs:ATO Value),Bo w g E->DV w g E.length args vs->Calls P f vs.toArray w λe w'=>∃v g',e=.returned v/\Bo w' g' E'/\Cb w' g' E'.length av v/\BL E.length w g w' g':=by
    intro σ2 l l0 S4 l' HH AJJ dk mJ hco hlv hex;unfold lb at hlv
    dsimp only at hlv
    split at hlv
    ·rename_i hp;simp only[AQb,AQm]at hlv;obtain⟨hav,hE⟩:=hlv;have hmn:=(AiT (Vd hp).1).1;have hEl:E'.length=(pT HH HH.length (ik (List.range E.length) (wY l').Cx)).length:=by grind
     refine⟨by grind,λw g vs H hx=>?_⟩;refine calls_of_wp hf hc ?_;refine rR _ w g _ (dR H hx hl) λa' w' g0 yk vU hd=>?_;obtain⟨g',ea,ic,S6⟩:=ZI AJJ yk hm;have BX:=vU.trans ic;obtain⟨Z3,hr,hv⟩:=Aam he.toEnvOk ea dk;obtain⟨g1,H1,iN,Sf,UN⟩:=Aby mJ ea.heap hv;obtain⟨g2,H2,hv2,Qn⟩:=uS hco H1 iN (by rw[UN];exact S6);have Yo:∃u,(results fn a'.tmps).run P w'=.ok u w'/\∃v' g'',Ending.returned u=Ending.returned v'/\Bo w' g'' E'/\Cb w' g'' E'.length av v'/\BL E.length w g w' g'':=by
      refine⟨if h:Z3.toArray.size=1 then Z3.toArray[0]else .tuple Z3.toArray,?_,_,g2.pick _,rfl,by rw[<-hE];exact pM H2 hp,?_,((BX.trans Sf).trans Qn).trans (pN hp).1⟩
      ·rw[lF,Array.mapM_eq_mapM_toList];simp only[Sem.run_bind,Sem.run_map,hr];rfl
      ·rw[hEl,<-hav];exact((AmW hv2).OR (λb h=>dC h) λk hk=>dE ((Vd hp).2.2.1 k hk)).Ev
     obtain⟨u,iN,hv2⟩:=Yo;rcases hex with h |h<;>rw[h]<;>exact⟨hd,u,iN,hv2⟩
    ·grind
   have AjE:(match af E.length en.fi.WX σ' with
         |none=>none
         |some σ=>match iu en.Ee σ fn.results.toList with
          |some l=>match rC E.length en.fi.RU l σ.Aj with
           |some (l,bs)=>match cK en.fi.iq l bs with
            |some (l',HH)=>match lb E.length HH (wY l')with
             |some (v,bs)=>some (v,bs)
             |none=>none
            |none=>none
           |none=>none
          |none=>none)=some (av,E')->(rl e=.normal\/rl e=.ret)->E.length<=E'.length/\∀(w:World) (g:G) (vs:ATO Value),Bo w g E->DV w g E.length args vs->Calls P f vs.toArray w λe w'=>∃v g',e=.returned v/\Bo w' g' E'/\Cb w' g' E'.length av v/\BL E.length w g w' g':=by
    intro h hex;split at h
    ·grind
    grind
   cases e with
   |exit n=>grind
   |normal=>exact AjE h2 (.inl rfl)
   |ret=>exact AjE h2 (.inr rfl)
  ·grind
theorem An.of(he:Jz P en){f:FuncId}{fn:Func}(hf:P.funcs[f]?=some fn)(hn:(fn.name=="runtime.NumGoroutine")=false)(hb:fn.body.isNone=false){c:Callee}(hc:jf c)
    (h:∀args E av E',c.run (AV×ATO Blk) args E (λv b=>some (v,b))=some (av,E')->TT en fn (AV×ATO Blk) args E (λv b=>some (v,b))=some (av,E')):An P f c where
 aH:=hc
 snd args E av E' hr:=by
  obtain⟨h1,h2⟩:=bJ he hf (h args E av E' hr);refine⟨h1,λw g vs H hx o a next Q hn'=>?_⟩
  have:(callFunc f vs.toArray).run P w=.ok (.enter f vs.toArray) w:=by
   have hn1:¬fn.name="runtime.NumGoroutine":=by grind
   have gY:¬fn.body=none:=by
    grind
   simp[callFunc,hf,hn1,gY]
  rw[this];refine(h2 w g vs H hx).mono λe w' ⟨v,g',e1,hH,hv,BX⟩=>?_;subst e1;exact hn' v w' g' hH hv BX
theorem An.of2{f:FuncId}{fn:Func}(hf:P.funcs[f]?=some fn)(hn:(fn.name=="runtime.NumGoroutine")=false)(hb:fn.body.isNone=false){c:Callee}(hc:jf c)
    (h:∀args E av E',c.run (AV×ATO Blk) args E (λv b=>some (v,b))=some (av,E')->∃en,Jz P en/\TT en fn (AV×ATO Blk) args E (λv b=>some (v,b))=some (av,E')):An P f c where
 aH:=hc
 snd args E av E' hr:=by
  obtain⟨en,he,h0⟩:=h args E av E' hr;obtain⟨h1,h2⟩:=bJ he hf h0;refine⟨h1,λw g vs H hx o a next Q hn'=>?_⟩
  have:(callFunc f vs.toArray).run P w=.ok (.enter f vs.toArray) w:=by
   have hn1:¬fn.name="runtime.NumGoroutine":=by grind
   have gY:¬fn.body=none:=by
    grind
   simp[callFunc,hf,hn1,gY]
  rw[this];refine(h2 w g vs H hx).mono λe w' ⟨v,g',e1,hH,hv,BX⟩=>?_;subst e1;exact hn' v w' g' hH hv BX
end
end Go.Va
