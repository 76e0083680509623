import Derived.MapKept
import Derived.Laws.Strings
import Derived.Laws.StructEq
import Derived.OrdersHeld
import Derived.Test.YtoinnpeenpmgkaaGreatK0
set_option linter.unusedVariables false
set_option linter.unusedSimpArgs false
namespace Go.Va
theorem rH(φ:Nat->Nat)(a:AV):(a.Nm φ).Nc=a.Nc:=by cases a<;>rfl
theorem k8(φ:Nat->Nat)(a:AV):(a.Nm φ).isAgg=a.isAgg:=by cases a<;>rfl
theorem yW(φ:Nat->Nat)(a:AV):(a.Nm φ).C5=a.C5:=by cases a<;>rfl
theorem qc(KC:AL7 Nat)(a:AV):(a.US KC).Nc=a.Nc:=by cases a<;>rfl
theorem jR(KC:AL7 Nat)(a:AV):(a.US KC).isAgg=a.isAgg:=by cases a<;>rfl
theorem ya(KC:AL7 Nat)(a:AV):(a.US KC).C5=a.C5:=by cases a<;>rfl
structure Ren (φ:Nat->Nat) (g g':G) (n' k:Nat):Prop where
 lt:φ k<n'
 AQ:g'.AQ (φ k)=g.AQ k
 own:∀b r,g.own b=.BB k r->g'.own b=.BB (φ k) r
theorem Al.Aec{φ:Nat->Nat}{g g':G}(hi:∀b,g.own b=.Ik->g'.own b=.Ik){ks:AL7 Nat}(hk:∀k∈ks,∀b r,g.own b=.BB k r->g'.own b=.BB (φ k) r){b:Nat}(h:Al g.own ks b):Al g'.own (ks.map φ) b:=by
 rcases h with h |⟨k,hks,r,h⟩
 ·exact .inl (hi b h)
 ·exact .inr ⟨φ k,List.mem_map.2 ⟨k,hks,rfl⟩,r,hk k hks b r h⟩
theorem Nt:∀(a:AV) {k:Nat},k∈a.RL->k∈a.Cf
 |.Ax _ _ _,_,h=>h
 |.EJ _ _ _,_,h=>h
 |.Tf _ _ _ _ _,_,h=>h
 |.U6 _ _ _ _ _ _,_,h=>h
 |.pr a b,_,h=>(List.mem_append.1 h).elim (λh=>AJw _ (Nt a h)) λh=>AJx _ (Nt b h)
 |.cons a b,_,h=>(List.mem_append.1 h).elim (λh=>AJw _ (Nt a h)) λh=>AJx _ (Nt b h)
 |.fn _ c,_,h=>Nt c h
 |.zs,_,h=>by cases h
 |.Am _,_,h=>by cases h
 |.ptr _ _ _ _,_,h=>by cases h
 |.LO,_,h=>by cases h
 |.nil,_,h=>by cases h
 |.mp _,_,h=>by cases h
 |.un _,_,h=>by cases h
theorem aB:∀(b:Blk) {k:Nat},k∈b.RL->k∈b.Cf
 |.box a,_,h=>Nt a h
 |.row _ _ _ _,_,h=>h
 |.map _ _ _ _ _,_,h=>h
 |.QE _ _ _ _ _,_,h=>h
 |.tail _ _ _,_,h=>h
 |.AK,_,h=>h
section
variable {w:World} {g g':G} {n n':Nat} {φ:Nat->Nat}
def xH(φ:Nat->Nat)(g g':G)(n' k:Nat):Prop:=φ k<n'/\g'.AQ (φ k)=g.AQ k
def Ala(φ:Nat->Nat)(g g':G)(k:Nat):Prop:=∀b r,g.own b=.BB k r->g'.own b=.BB (φ k) r
theorem wZ{ks:AL7 Nat}(hk:∀k∈ks,xH φ g g' n' k):∀k∈ks.map φ,k<n':=λk h=>by
 obtain⟨j,hj,rfl⟩:=List.mem_map.1 h;exact(hk j hj).1
theorem Cs.YX(hi:∀b,g.own b=.Ik->g'.own b=.Ik):∀(a:AV) (m:Bool) {cs:AL7 Value},Cs w g n m a cs->(∀k∈a.Cf,xH φ g g' n' k)->(∀k∈a.RL,Ala φ g g' k)->Cs w g' n' m (a.Nm φ) cs
 |.Ax ks t x,false,cs,⟨hk,r⟩,h,ho=>⟨wZ h,r.mono λb a=>⟨a.Aec hi ho,rfl⟩⟩
 |.zs,false,_,h,_,_=>h
 |.Am k,false,_,⟨hk,e⟩,h,_=>by
  have:=h k (by simp[AV.Cf]);exact⟨this.1,by rw[this.2];exact e⟩
 |.ptr k i p o,false,_,⟨hk,h0,h1,b,hb,e⟩,h,_=>by
  have:=h k (by simp[AV.Cf]);exact⟨this.1,h0,by rw[this.2];exact h1,b,by rw[this.2];exact hb,by rw[this.2];exact e⟩
 |.EJ ks t x,false,cs,⟨hk,b,off,ds,e,ha,r,hc⟩,h,ho=>⟨wZ h,b,off,ds,e,ha.Aec hi ho,r.mono λb a=>⟨a.Aec hi ho,rfl⟩,hc⟩
 |.LO,false,_,h,_,_=>h
 |.pr a b,false,_,⟨c,d,e,h1,h2⟩,h,ho=>⟨c,d,e,Cs.YX hi a false h1 (λk hk=>h k (by simp[AV.Cf,hk])) λk hk=>ho k (by simp[AV.RL,hk]),Cs.YX hi b false h2 (λk hk=>h k (by simp[AV.Cf,hk])) λk hk=>ho k (by simp[AV.RL,hk])⟩
 |.fn f c,false,_,⟨vs,e,hx⟩,h,ho=>⟨vs,e,Cs.YX hi c true hx (λk hk=>h k (by simpa [AV.Cf]using hk)) λk hk=>ho k (by simpa [AV.RL]using hk)⟩
 |.un k,false,_,h,_,_=>h
 |.cons a b,true,_,⟨v,r,e,h1,h2⟩,h,ho=>by
  refine⟨v,r,e,?_,Cs.YX hi b true h2 (λk hk=>h k (by simp[AV.Cf,hk])) λk hk=>ho k (by simp[AV.RL,hk])⟩;rw[rH,k8];exact h1.imp id λ⟨cs,hx,hv⟩=>⟨cs,Cs.YX hi a false hx (λk hk=>h k (by simp[AV.Cf,hk])) (λk hk=>ho k (by simp[AV.RL,hk])),hv⟩
 |.nil,true,_,h,_,_=>h
 |.cons _ _,false,_,h,_,_=>h.elim
 |.nil,false,_,h,_,_=>h.elim
 |.mp k,false,_,⟨hk,b,hb,e⟩,h,_=>by
  have:=h k (by simp[AV.Cf]);exact⟨this.1,b,by rw[this.2];exact hb,e⟩
 |.Tf k i p o e,false,_,⟨hk,h0,h1,b,v,ha,ho,e1,e2,hc⟩,h,hO=>by
  have:=h k (by simp[AV.Cf]);exact⟨this.1,h0,by rw[this.2];exact h1,b,v,by rw[this.2];exact ha,hO k (by simp[AV.RL]) b [] ho,e1,e2,by rw[this.2];exact hc⟩
 |.U6 k i p o j u,false,_,⟨hk,h0,h1,b,b',l,c,ha,ho,e1,e2,hc⟩,h,hO=>by
  have:=h k (by simp[AV.Cf]);exact⟨this.1,h0,by rw[this.2];exact h1,b,b',l,c,by rw[this.2];exact ha,hO k (by simp[AV.RL]) b [] ho,e1,e2,by rw[this.2];exact hc⟩
 |.U6 _ _ _ _ _ _,true,_,h,_,_=>h.elim
 |.Tf _ _ _ _ _,true,_,h,_,_=>h.elim
 |.Ax _ _ _,true,_,h,_,_=>h.elim
 |.zs,true,_,h,_,_=>h.elim
 |.Am _,true,_,h,_,_=>h.elim
 |.mp _,true,_,h,_,_=>h.elim
 |.ptr _ _ _ _,true,_,h,_,_=>h.elim
 |.EJ _ _ _,true,_,h,_,_=>h.elim
 |.LO,true,_,h,_,_=>h.elim
 |.pr _ _,true,_,h,_,_=>h.elim
 |.fn _ _,true,_,h,_,_=>h.elim
 |.un _,true,_,h,_,_=>h.elim
theorem Ren.r0{k:Nat}(h:Ren φ g g' n' k):xH φ g g' n' k:=⟨h.lt,h.AQ⟩
theorem Cs.Nm(hi:∀b,g.own b=.Ik->g'.own b=.Ik)(a:AV)(m:Bool){cs:AL7 Value}(h:Cs w g n m a cs)(hk:∀k∈a.Cf,Ren φ g g' n' k):Cs w g' n' m (a.Nm φ) cs :=
 h.YX hi a m (λk h=>(hk k h).r0) λk h=>(hk k (Nt a h)).own
theorem Cs.SY:∀(a:AV) (m:Bool) {cs:AL7 Value},Cs w g n m a cs->∀k∈a.Cf,k<n
 |.Ax ks t x,false,cs,h,k,hk=>h.1 k hk
 |.zs,false,_,_,_,hk=>by cases hk
 |.Am j,false,_,h,k,hk=>by
  have:k=j:=by simpa [AV.Cf]using hk
  rw[this];exact h.1
 |.ptr j i p o,false,_,h,k,hk=>by
  have:k=j:=by simpa [AV.Cf]using hk
  rw[this];exact h.1
 |.EJ ks t x,false,cs,h,k,hk=>h.1 k hk
 |.LO,false,_,_,_,hk=>by cases hk
 |.pr a b,false,_,⟨c,d,e,h1,h2⟩,k,hk=>by
  rcases List.mem_append.1 hk with hk |hk
  ·exact Cs.SY a false h1 k hk
  ·exact Cs.SY b false h2 k hk
 |.fn f c,false,_,⟨vs,e,hx⟩,k,hk=>Cs.SY c true hx k hk
 |.un _,false,_,_,_,hk=>by cases hk
 |.cons a b,true,_,⟨v,r,e,h1,h2⟩,k,hk=>by
  rcases List.mem_append.1 hk with hk |hk
  ·rcases h1 with h1 |⟨cs,h1,_⟩
   ·cases a<;>simp[AV.Nc]at h1;cases hk
   ·exact Cs.SY a false h1 k hk
  ·exact Cs.SY b true h2 k hk
 |.nil,true,_,_,_,hk=>by cases hk
 |.cons _ _,false,_,h,_,_=>h.elim
 |.nil,false,_,h,_,_=>h.elim
 |.mp j,false,_,h,k,hk=>by
  have:k=j:=by simpa [AV.Cf]using hk
  rw[this];exact h.1
 |.Tf j i p o e,false,_,h,k,hk=>by
  have:k=j:=by simpa [AV.Cf]using hk
  rw[this];exact h.1
 |.U6 j i p o q u,false,_,h,k,hk=>by
  have:k=j:=by simpa [AV.Cf]using hk
  rw[this];exact h.1
 |.U6 _ _ _ _ _ _,true,_,h,_,_=>h.elim
 |.Tf _ _ _ _ _,true,_,h,_,_=>h.elim
 |.Ax _ _ _,true,_,h,_,_=>h.elim
 |.zs,true,_,h,_,_=>h.elim
 |.Am _,true,_,h,_,_=>h.elim
 |.mp _,true,_,h,_,_=>h.elim
 |.ptr _ _ _ _,true,_,h,_,_=>h.elim
 |.EJ _ _ _,true,_,h,_,_=>h.elim
 |.LO,true,_,h,_,_=>h.elim
 |.pr _ _,true,_,h,_,_=>h.elim
 |.fn _ _,true,_,h,_,_=>h.elim
 |.un _,true,_,h,_,_=>h.elim
theorem BS.SY{a:AV}{v:Value}(h:BS w g n a v):∀k∈a.Cf,k<n:=by
 cases ht:a.C5 with
 |false =>
  rcases(BS.iff ht).1 h with h |⟨cs,h,_⟩
  ·intro k hk;cases a<;>simp[AV.Nc]at h;cases hk
  ·exact Cs.SY a false h
 |true =>
  cases a with
  |cons a b=>obtain⟨vs,e,h⟩:=h;exact Cs.SY _ true h
  |nil=>intro k hk;cases hk
  |_=>cases ht
theorem BS.YX(hi:∀b,g.own b=.Ik->g'.own b=.Ik){a:AV}{v:Value}(h:BS w g n a v)(hk:∀k∈a.Cf,xH φ g g' n' k)(ho:∀k∈a.RL,Ala φ g g' k):BS w g' n' (a.Nm φ) v:=by
 cases ht:a.C5 with
 |false =>
  rw[BS.iff ht]at h;rw[BS.iff (by rw[yW];exact ht),rH,k8];exact h.imp id λ⟨cs,h,hv⟩=>⟨cs,Cs.YX hi a false h hk ho,hv⟩
 |true =>
  cases a with
  |cons a b=>obtain⟨vs,e,h⟩:=h;exact⟨vs,e,Cs.YX hi (.cons a b) true h hk ho⟩
  |nil=>exact h
  |_=>cases ht
theorem BS.Nm(hi:∀b,g.own b=.Ik->g'.own b=.Ik){a:AV}{v:Value}(h:BS w g n a v)(hk:∀k∈a.Cf,Ren φ g g' n' k):BS w g' n' (a.Nm φ) v :=
 h.YX hi (λk h=>(hk k h).r0) λk h=>(hk k (Nt a h)).own
theorem LZ.YX(hi:∀b,g.own b=.Ik->g'.own b=.Ik){k:Nat}{b:Blk}(h:LZ w g n k b)(hk:Ren φ g g' n' k)(QD:∀j∈b.Cf,xH φ g g' n' j)(hO:∀j∈b.RL,Ala φ g g' j):LZ w g' n' (φ k) (b.Nm φ):=by
 cases b with
 |AK=>trivial
 |map m kt vt es st =>
  obtain⟨QA,b,Gw,Dk,ha,ho,hh,Rm,hm⟩:=h;have yv:(m.Nm φ).Cf=m.Cf.map φ:=by cases m<;>rfl
  refine⟨by rw[yv];exact wZ QD,b,Gw,Dk,by rw[hk.AQ];exact ha,hk.own b [] ho,hh,Rm,hm.on λi x c r=>?_⟩;cases m with
  |Ai=>exact Jl.mono (λb q hb=>⟨hk.own b _ hb,rfl⟩) r
  |sh ks=>exact Ha.mono (λb a=>⟨a.Aec hi hO,rfl⟩) r
 |QE e t xs i p =>
  obtain⟨h1,h2,h3,h4,h5,u,o,x0,b,Bp,ds,q1,q2,q3,ha,ho,hh,c1,c2,c3,c4,hc⟩:=h;refine⟨by rw[hk.AQ];exact h1,by rw[hk.AQ];exact h2,h3,h4,h5,u,o,x0,b,Bp,ds,q1,q2,q3,?_⟩;rw[hk.AQ];exact⟨ha,hk.own b [] ho,hh,c1,c2,c3,c4,hc.mono λi x c r=>r.mono λb q hb=>⟨hk.own b _ hb,rfl⟩⟩
 |tail e t xs =>
  obtain⟨hf,hlen,Pu,BH,hr⟩:=h;refine⟨hf,by rw[hk.AQ];exact hlen,by rw[hk.AQ];exact Pu,BH,?_⟩;rw[hk.AQ];exact hr.imp id λ⟨b,o,Bp,ds,ha,ho,hh,h1,h2,h3,h4,hc⟩=>⟨b,o,Bp,ds,ha,hk.own b [] ho,hh,h1,h2,h3,h4,hc.mono λi x c r=>r.mono λb q hb=>⟨hk.own b _ hb,rfl⟩⟩
 |box a =>
  obtain⟨h1,b,cs,e,ha,ho,hh,hx⟩:=h;exact⟨by rw[hk.AQ];exact h1,b,cs,e,by rw[hk.AQ];exact ha,hk.own b [] ho,hh,Cs.YX hi a false hx QD hO⟩
 |row e m t xs =>
  obtain⟨QA,hlen,Pu,BH,hr⟩:=h;have hm:(m.Nm φ).Cf=m.Cf.map φ:=by cases m<;>rfl
  refine⟨by rw[hm];exact wZ QD,by rw[hk.AQ];exact hlen,by rw[hk.AQ];exact Pu,BH,?_⟩;rw[hk.AQ];refine hr.imp id λ⟨b,Bp,ds,ha,ho,hh,h1,h2,h3,h4,hc⟩=>⟨b,Bp,ds,ha,hk.own b [] ho,hh,h1,h2,h3,h4,?_⟩;cases m with
  |Ai=>exact hc.mono λi x c r=>r.mono λb q hb=>⟨hk.own b _ hb,rfl⟩
  |sh ks=>exact hc.mono λx c r=>r.mono λb a=>⟨a.Aec hi hO,rfl⟩
theorem LZ.Nm(hi:∀b,g.own b=.Ik->g'.own b=.Ik){k:Nat}{b:Blk}(h:LZ w g n k b)(hk:Ren φ g g' n' k)(QD:∀j∈b.Cf,Ren φ g g' n' j):LZ w g' n' (φ k) (b.Nm φ) :=
 h.YX hi hk (λk h=>(QD k h).r0) λk h=>(QD k (aB b h)).own
structure Dep (KC:List Nat) (g g':G) (n:Nat):Prop where
 Ik:∀b,g.own b=.Ik->Al g'.own KC b
 BB:∀b k r,g.own b=.BB k r->k<n->g'.own b=.BB k r
 AQ:∀k,k<n->g'.AQ k=g.AQ k
 lt:∀k∈KC,k<n
theorem Al.US{KC:AL7 Nat}(d:Dep KC g g' n){ks:AL7 Nat}(hk:∀k∈ks,k<n){b:Nat}(h:Al g.own ks b):Al g'.own (ks++KC) b:=by
 rcases h with h |⟨k,hks,r,h⟩
 ·exact(d.Ik b h).mono λk hk=>AJx _ hk
 ·exact .inr ⟨k,AJw _ hks,r,d.BB b k r h (hk k hks)⟩
theorem vE{KC ks:AL7 Nat}(d:Dep KC g g' n)(hk:∀k∈ks,k<n):∀k∈ks++KC,k<n:=λk h=>by
 rcases List.mem_append.1 h with h |h
 ·exact hk k h
 ·exact d.lt k h
theorem Cs.US{KC:AL7 Nat}(d:Dep KC g g' n):∀(a:AV) (m:Bool) {cs:AL7 Value},Cs w g n m a cs->Cs w g' n m (a.US KC) cs
 |.Ax ks t x,false,cs,⟨hk,r⟩=>by
  simp only[AV.US];cases hf:t.BA with
  |true=>exact⟨by simpa using hk,(Ha.BA hf).2 ((Ha.BA hf).1 r)⟩
  |false=>exact⟨by simpa using vE d hk,by simpa using r.mono λb a=>⟨a.US d hk,rfl⟩⟩
 |.zs,false,_,h=>h
 |.Am k,false,_,⟨hk,e⟩=>⟨hk,by rw[d.AQ k hk];exact e⟩
 |.mp k,false,_,⟨hk,b,hb,e⟩=>⟨hk,b,by rw[d.AQ k hk];exact hb,e⟩
 |.ptr k i p o,false,_,⟨hk,h0,h1,b,hb,e⟩=>⟨hk,h0,by rw[d.AQ k hk];exact h1,b,by rw[d.AQ k hk];exact hb,by rw[d.AQ k hk];exact e⟩
 |.EJ ks t x,false,cs,⟨hk,b,off,ds,e,ha,r,hc⟩=>⟨vE d hk,b,off,ds,e,ha.US d hk,r.mono λb a=>⟨a.US d hk,rfl⟩,hc⟩
 |.LO,false,_,h=>h
 |.pr a b,false,_,⟨c,e,he,h1,h2⟩=>⟨c,e,he,Cs.US d a false h1,Cs.US d b false h2⟩
 |.fn f c,false,_,⟨vs,e,hx⟩=>⟨vs,e,Cs.US d c true hx⟩
 |.un k,false,_,h=>h
 |.cons a b,true,_,⟨v,r,e,h1,h2⟩=>by
  refine⟨v,r,e,?_,Cs.US d b true h2⟩;rw[qc,jR];exact h1.imp id λ⟨cs,hx,hv⟩=>⟨cs,Cs.US d a false hx,hv⟩
 |.nil,true,_,h=>h
 |.cons _ _,false,_,h=>h.elim
 |.nil,false,_,h=>h.elim
 |.Tf k i p o e,false,_,⟨hk,h0,h1,b,v,ha,ho,e1,e2,hc⟩=>⟨hk,h0,by rw[d.AQ k hk];exact h1,b,v,by rw[d.AQ k hk];exact ha,d.BB b k [] ho hk,e1,e2,by rw[d.AQ k hk];exact hc⟩
 |.U6 k i p o j u,false,_,⟨hk,h0,h1,b,b',l,c,ha,ho,e1,e2,hc⟩=>⟨hk,h0,by rw[d.AQ k hk];exact h1,b,b',l,c,by rw[d.AQ k hk];exact ha,d.BB b k [] ho hk,e1,e2,by rw[d.AQ k hk];exact hc⟩
 |.U6 _ _ _ _ _ _,true,_,h=>h.elim
 |.Tf _ _ _ _ _,true,_,h=>h.elim
 |.Ax _ _ _,true,_,h=>h.elim
 |.zs,true,_,h=>h.elim
 |.Am _,true,_,h=>h.elim
 |.mp _,true,_,h=>h.elim
 |.ptr _ _ _ _,true,_,h=>h.elim
 |.EJ _ _ _,true,_,h=>h.elim
 |.LO,true,_,h=>h.elim
 |.pr _ _,true,_,h=>h.elim
 |.fn _ _,true,_,h=>h.elim
 |.un _,true,_,h=>h.elim
theorem BS.US{KC:AL7 Nat}(d:Dep KC g g' n){a:AV}{v:Value}(h:BS w g n a v):BS w g' n (a.US KC) v:=by
 cases ht:a.C5 with
 |false =>
  rw[BS.iff ht]at h;rw[BS.iff (by rw[ya];exact ht),qc,jR];exact h.imp id λ⟨cs,h,hv⟩=>⟨cs,Cs.US d a false h,hv⟩
 |true =>
  cases a with
  |cons a b=>obtain⟨vs,e,h⟩:=h;exact⟨vs,e,Cs.US d (.cons a b) true h⟩
  |nil=>exact h
  |_=>cases ht
theorem LZ.US{KC:AL7 Nat}(d:Dep KC g g' n){k:Nat}(hk:k<n){b:Blk}(h:LZ w g n k b):LZ w g' n k (b.US KC):=by
 cases b with
 |AK=>trivial
 |map m kt vt es st =>
  obtain⟨QA,b,Gw,Dk,ha,ho,hh,Rm,hm⟩:=h;refine⟨?_,b,Gw,Dk,by rw[d.AQ k hk];exact ha,d.BB b k [] ho hk,hh,Rm,hm.on λi x c r=>?_⟩
  ·cases m with
   |Ai=>exact QA
   |sh ks=>exact vE d QA
  ·cases m with
   |Ai=>exact Jl.mono (λb q hb=>⟨d.BB b k _ hb hk,rfl⟩) r
   |sh ks=>exact Ha.mono (λb a=>⟨a.US d QA,rfl⟩) r
 |QE e t xs i p =>
  obtain⟨h1,h2,h3,h4,h5,u,o,x0,b,Bp,ds,q1,q2,q3,ha,ho,hh,c1,c2,c3,c4,hc⟩:=h;refine⟨by rw[d.AQ k hk];exact h1,by rw[d.AQ k hk];exact h2,h3,h4,h5,u,o,x0,b,Bp,ds,q1,q2,q3,?_⟩;rw[d.AQ k hk];exact⟨ha,d.BB b k [] ho hk,hh,c1,c2,c3,c4,hc.mono λi x c r=>r.mono λb q hb=>⟨d.BB b k _ hb hk,rfl⟩⟩
 |tail e t xs =>
  obtain⟨hf,hlen,Pu,BH,hr⟩:=h;refine⟨hf,by rw[d.AQ k hk];exact hlen,by rw[d.AQ k hk];exact Pu,BH,?_⟩;rw[d.AQ k hk];exact hr.imp id λ⟨b,o,Bp,ds,ha,ho,hh,h1,h2,h3,h4,hc⟩=>⟨b,o,Bp,ds,ha,d.BB b k [] ho hk,hh,h1,h2,h3,h4,hc.mono λi x c r=>r.mono λb q hb=>⟨d.BB b k _ hb hk,rfl⟩⟩
 |box a =>
  obtain⟨h1,b,cs,e,ha,ho,hh,hx⟩:=h;exact⟨by rw[d.AQ k hk];exact h1,b,cs,e,by rw[d.AQ k hk];exact ha,d.BB b k [] ho hk,hh,Cs.US d a false hx⟩
 |row e m t xs =>
  obtain⟨QA,hlen,Pu,BH,hr⟩:=h;refine⟨?_,by rw[d.AQ k hk];exact hlen,by rw[d.AQ k hk];exact Pu,BH,?_⟩
  ·cases m with
   |Ai=>exact QA
   |sh ks=>exact vE d QA
  ·rw[d.AQ k hk];refine hr.imp id λ⟨b,Bp,ds,ha,ho,hh,h1,h2,h3,h4,hc⟩=>⟨b,Bp,ds,ha,d.BB b k [] ho hk,hh,h1,h2,h3,h4,?_⟩;cases m with
   |Ai=>exact hc.mono λi x c r=>r.mono λb q hb=>⟨d.BB b k _ hb hk,rfl⟩
   |sh ks=>exact hc.mono λx c r=>r.mono λb a=>⟨a.US d QA,rfl⟩
end
def Dj(w:World)(g:G)(n:Nat):AL7 AV->AL7 Value->Prop
 |[],[]=>True
 |a::iG,v::vs=>BS w g n a v/\Dj w g n iG vs
 |_,_=>False
structure Ap (P:Program) (f:FuncId) (c:Callee):Prop where
 Yk:dS c
 snd:∀(args:List AV) (E:List Blk) (av:AV) (E':List Blk),c.run (AV×List Blk) args E (λv b=>some (v,b))=some (av,E')->E.length<=E'.length /\
  ∀(w:World) (g:G) (vs:List Value),Ba w g E->Dj w g E.length args vs->∀(o:Oper) (a:Act) (next:Act->World->Prop) (Q:Exit->Act->World->Prop),
   (∀v w' g',Ba w' g' E'->BS w' g' E'.length av v->Step (List.range E.length) E.length w g w' g'->next (a.put o.dst v) w')->o.upon P a next Q ((callFunc f vs.toArray).run P w)
theorem ni:∀{π:AL7 Nat} {k:Nat},k∈π->idxOf π k<π.length
 |x::r,k,h=>by
  simp only[idxOf];split
  ·simp
  ·rename_i Lr;have:k∈r:=by
    rcases List.mem_cons.1 h with h |h
    ·subst h;simp at Lr
    ·exact h
   have:=ni this;simp;omega
theorem nh:∀{π:AL7 Nat} {k:Nat},k∈π->π[idxOf π k]?=some k
 |x::r,k,h=>by
  simp only[idxOf];split
  ·rename_i he;simp at he;simp[he]
  ·rename_i Lr;have:k∈r:=by
    rcases List.mem_cons.1 h with h |h
    ·subst h;simp at Lr
    ·exact h
   simpa using nh this
theorem aT:∀{π:AL7 Nat} {j k:Nat},nodup π=true->π[j]?=some k->idxOf π k=j
 |x::r,0,k,_,h=>by simp at h;subst h;simp[idxOf]
 |x::r,j+1,k,hn,h=>by
  simp only[nodup,AI5,AKk]at hn;have hr:r[j]?=some k:=by simpa using h
  have:x≠k:=λe=>by
   subst e;have hm:x∈r:=AKr hr;have:=hn.1;simp[hm]at this
  simp only[idxOf];rw[AJh (by simpa using this),aT hn.2 hr]
theorem gN:∀{π:AL7 Nat} {L bs:AL7 Blk} {k:Nat} {x:Blk},L.length=π.length->(P5 bs π L)[k]?=some x->(k∉π/\bs[k]?=some x)\/∃j:Nat,π[j]?=some k/\L[j]?=some x
 |[],[],bs,k,x,_,h=>.inl ⟨by simp,h⟩
 |p::π,b::L,bs,k,x,hl,h=>by
  rcases gN (π:=π) (L:=L) (by simpa using hl) h with ⟨h1,h2⟩|⟨j,h1,h2⟩
  ·rw[AJn]at h2;split at h2
   ·rename_i he;subst he;split at h2
    ·injection h2 with h2;exact .inr ⟨0,rfl,by rw[<-h2];rfl⟩
    ·cases h2
   ·rename_i Lr;exact .inl ⟨by simp only[AKo,not_or];exact⟨λe=>Lr e.symm,h1⟩,h2⟩
  ·exact .inr ⟨j+1,by simpa using h1,by simpa using h2⟩
 |[],_::_,_,_,_,hl,_=>by simp at hl
 |_::_,[],_,_,_,hl,_=>by simp at hl
theorem Y0:∀(π:AL7 Nat) (L bs:AL7 Blk),(P5 bs π L).length=bs.length
 |[],_,_=>by simp[P5]
 |_::_,[],_=>by simp[P5]
 |p::π,b::L,bs=>by rw[P5,Y0 π L,AI7]
def G.call(g:G)(π π1 KC:AL7 Nat):G:=⟨λb=>match g.own b with |.Ik=>.Ik |.BB k r=>if k∈π1 then .BB (idxOf π k) r else if k∈KC then .Ik else .no |.no=>.no,λj=>g.AQ (π.getD j 0)⟩
def G.ret(g gc:G)(n:Nat)(π π1:AL7 Nat):G :=
 ⟨λb=>match gc.own b with |.BB j r=>.BB (WS n π j) r |t=>match g.own b with |.BB k r=>if k∈π1 then t else .BB k r |_=>t,λk=>if k<n then g.AQ k else gc.AQ (k-n+π.length)⟩
def G.back(g gc:G)(n:Nat)(π:AL7 Nat):G:=⟨λb=>match gc.own b with |.BB j r=>.BB (WS n π j) r |t=>t,λk=>if k<n then g.AQ k else gc.AQ (k-n+π.length)⟩
section
variable {w:World} {g:G} {bs:AL7 Blk} {π π1 KC:AL7 Nat}
theorem aE{k:Nat}(hk:k∈π):xH (idxOf π) g (g.call π π1 KC) π.length k:=by
 refine⟨ni hk,?_⟩;have:=nh hk;simp[G.call,List.getD,this]
theorem eV{k:Nat}(hk:k∈π)(h1:k∈π1):Ren (idxOf π) g (g.call π π1 KC) π.length k where
 lt:=ni hk
 AQ:=(aE hk).2
 own b r h:=by simp[G.call,h,h1]
theorem eU{b:Nat}(h:g.own b=.Ik):(g.call π π1 KC).own b=.Ik:=by simp[G.call,h]
theorem Vn(hb:∀k∈KC,k∉π1){ks:AL7 Nat}(hk:∀k∈ks,k∈KC){b:Nat}(h:Al g.own ks b):Al (g.call π π1 KC).own [] b:=by
 rcases h with h |⟨k,hks,r,h⟩
 ·exact .inl (eU h)
 ·have h1:=hk k hks;exact .inl (by simp[G.call,h,hb k h1,h1])
theorem xU(H:Ba w g bs){Ut:AL7 Nat}(hn:nodup π=true)(h1:∀k∈π,k∉Ut->k∈π1)(SU:∀k∈π,∃b,bs[k]?=some b/\(∀j∈b.Cf,j∈π)/\(k∈Ut\/∀j∈b.RL,j∉Ut)):Ba w (g.call π π1 KC) (π.map λk=>bif Ut.contains k then .AK else((bs[k]?).getD .AK).Nm (idxOf π)):=by
 refine⟨λb hb=>by simp[G.call,H.BP b hb],λj x hx=>?_⟩;rw[AJr]at hx;cases hj:π[j]? with
 |none=>rw[hj]at hx;cases hx
 |some k =>
  rw[hj]at hx;injection hx with hx;subst hx;have hk:k∈π:=AKr hj;obtain⟨b,hb,QD,hh⟩:=SU k hk;cases hc:Ut.contains k with
  |true=>simp only[hc,AJe];trivial
  |false =>
   have hkh:k∉Ut:=by simpa using hc
   have Azv:=hh.resolve_left hkh;have:=(H.Ls k b hb).YX (φ:=idxOf π) (g':=g.call π π1 KC) (n':=π.length) (λb h=>eU h) (eV hk (h1 k hk hkh)) (λj hj=>aE (QD j hj)) λj hj=>(eV (QD j (aB b hj)) (h1 j (QD j (aB b hj)) (Azv j hj))).own;rw[aT hn hj]at this;simp only[hc,hb,Option.getD_some,AJa,AJd];exact this
theorem YW{t:Ty}{v:AV}{y:t.V}(h:rd bs t v=some y):v.isAgg=t.isAgg:=by
 have plain:∀(t:Ty) (ks:AL7 Nat) (u:Ty) (z:u.V) (y:t.V),IP u t z=some y->(AV.Ax ks u z).isAgg=t.isAgg:=λt ks u z y h=>by
  obtain⟨e,_⟩:=Bz h;subst e;rfl
 cases t with
 |Au a b=>cases v<;>simp only[rd,reduceCtorEq]at h<;>first |exact plain _ _ _ _ _ h |rfl
 |sl t=>cases v<;>simp only[rd,reduceCtorEq]at h<;>first |exact plain _ _ _ _ _ h |rfl
 |int k=>cases v<;>simp only[rd,reduceCtorEq]at h<;>exact plain _ _ _ _ _ h
 |bool=>cases v<;>simp only[rd,reduceCtorEq]at h<;>exact plain _ _ _ _ _ h
 |str=>cases v<;>simp only[rd,reduceCtorEq]at h<;>exact plain _ _ _ _ _ h
 |unit=>cases v<;>simp only[rd,reduceCtorEq]at h<;>exact plain _ _ _ _ _ h
 |QG z=>cases v<;>simp only[rd,reduceCtorEq]at h<;>exact plain _ _ _ _ _ h
theorem AfC(H:Ba w g bs){k:Nat}{i:Int}{a:AV}(h:atB bs k i=some a)(hi:i.toNat<(g.AQ k).len){b:Nat}(hb:(g.AQ k).a=some ⟨b,0,none⟩):g.own b=.BB k []:=by
 unfold atB at h;split at h
 ·rename_i a' hx;obtain⟨h1,b',cs,e,ha,ho,hh,hr⟩:=H.Ls k _ hx;rw[hb]at ha;injection ha with ha;injection ha with ha;subst ha;exact ho
 ·rename_i e m t xs hx;obtain⟨QA,hlen,Pu,BH,hr⟩:=H.Ls k _ hx;rcases hr with ⟨WC,_⟩|⟨b',Bp,ds,ha,ho,_⟩
  ·rw[hlen,WC]at hi;simp at hi
  ·rw[hb]at ha;injection ha with ha;injection ha with ha;subst ha;exact ho
 ·cases h
theorem AoH(H:Ba w g bs)(hb:∀k∈KC,k∉π1){m:PM}{v a:AV}{l:AL7 Nat}(h:tB bs m v=some (a,l))(hl:∀k∈l,k∈KC)(hr:∀k∈AaO m v,k∈π)(hh:∀k∈a.RL,k∈π->k∈π1){x:Value}(hx:BS w g bs.length v x):BS w (g.call π π1 KC) π.length (a.Nm (idxOf π)) x:=by
 cases m with
 |d t =>
  simp only[tB]at h;split at h
  ·rename_i y hy;simp only[AI0,AJb]at h;obtain⟨rfl,rfl⟩:=h;obtain⟨Xb,QY⟩:=U7 hy;obtain⟨cs,SV,hv⟩:=BQ Xb QY hx;refine Bl rfl (cs:=cs) ⟨λk hk=>by(cases hk),(P4 H t v y cs hy SV).1.mono λb hA=>⟨Vn hb hl hA,rfl⟩⟩ ?_;rw[YW hy]at hv;exact hv
  ·cases h
 |p t =>
  cases v with
  |EJ ks u y =>
   simp only[tB]at h;split at h
   ·rename_i z hz;simp only[AI0,AJb]at h;obtain⟨rfl,rfl⟩:=h;obtain⟨e,he⟩:=Bz hz;subst e;simp only at he;subst he;obtain⟨hk,b,off,ds,rfl,ha,fW,hc⟩:=Xz hx;exact bg (λk hk=>by cases hk) (Vn hb hl ha) (fW.mono λb hA=>⟨Vn hb hl hA,rfl⟩) hc
   ·cases h
  |ptr k i p o =>
   simp only[tB]at h;split at h
   ·rename_i c hc;split at h
    ·rename_i y hy;simp only[AI0,AJb]at h;obtain⟨rfl,rfl⟩:=h;obtain⟨hk,h0,h1,b,M6,rfl⟩:=KL hx;obtain⟨cs,SV,C9⟩:=Vj H hc h1 M6;have Ce:g.own b=.BB k []:=by
      unfold atP at hc;split at hc
      ·rename_i d hd;exact AfC H hd h1 M6
      ·cases hc
     exact bg (λk hk=>by cases hk) (Vn hb hl (.mem (AJt) Ce)) ((P4 H t c y cs hy SV).1.mono λb hA=>⟨Vn hb hl (hA.mono λk hk=>AJq _ hk),rfl⟩) C9
    ·cases h
   ·cases h
  |_=>simp[tB]at h
 |UJ =>
  simp only[tB,AI0,AJb]at h;obtain⟨rfl,rfl⟩:=h;exact hx.YX (λb h=>eU h) (λk hk=>aE (hr k hk)) λk hk=>(eV (hr k (Nt _ hk)) (hh k hk (hr k (Nt _ hk)))).own
theorem vG(H:Ba w g bs)(hb:∀k∈KC,k∉π1):∀{ms:AL7 PM} {vs iG:AL7 AV} {l Yn:AL7 Nat} {xs:AL7 Value},eu bs ms vs=some (iG,l,Yn)->(∀k∈l,k∈KC)->(∀k∈Yn,k∈π)->(∀a∈iG,∀k∈a.RL,k∈π->k∈π1)->Dj w g bs.length vs xs ->
    Dj w (g.call π π1 KC) π.length (iG.map (·.Nm (idxOf π))) xs
 |[],[],iG,l,Yn,[],h,_,_,_,_=>by
  simp only[eu,AI0,AJb]at h;obtain⟨rfl,_,_⟩:=h;trivial
 |m::ms,v::vs,iG,l,Yn,x::xs,h,hl,hr,hh,hx=>by
  simp only[eu]at h;split at h
  ·rename_i a l1 AGx ls rs h1 h2;simp only[AI0,AJb]at h;obtain⟨rfl,rfl,rfl⟩:=h;exact⟨AoH H hb h1 (λk hk=>hl k (AJw _ hk)) (λk hk=>hr k (AJw _ hk)) (hh a (by simp)) hx.1,
    vG H hb h2 (λk hk=>hl k (AJx _ hk)) (λk hk=>hr k (AJx _ hk)) (λa ha=>hh a (by simp[ha])) hx.2⟩
  ·cases h
 |[],[],_,_,_,_::_,_,_,_,_,hx=>hx.elim
 |[],_::_,_,_,_,_,h,_,_,_,_=>by simp[eu]at h
 |_::_,[],_,_,_,_,h,_,_,_,_=>by simp[eu]at h
 |_::_,_::_,_,_,_,[],_,_,_,_,hx=>hx.elim
end
theorem lY{n:Nat}{π:AL7 Nat}{j k:Nat}(h:π[j]?=some k):WS n π j=k:=by simp[WS,h]
theorem lX{n:Nat}{π:AL7 Nat}{j:Nat}(h:π.length<=j):WS n π j=n+(j-π.length):=by
 have:π[j]?=none:=AJC h;simp[WS,this]
theorem yb(bs:AL7 Blk):A6 [] bs=bs:=rfl
theorem jL{P:Program}{f:FuncId}{c:Callee}(hc:Ap P f c){bs:AL7 Blk}{args:AL7 AV}{e:G9}(h:WV c bs args some=some e) :
    bs.length<=e.An.length/\(e.Bu=[]->∃l,e.An=bs++l)/\∀(w:World) (g:G) (vs:AL7 Value),Ba w g bs->Dj w g bs.length args vs->∀(o:Oper) (a:Act) (next:Act->World->Prop) (Q:Exit->Act->World->Prop),
     (∀v w' g',Ba w' g' e.An->BS w' g' e.An.length e.val v->Step e.Bu bs.length w g w' g'->next (a.put o.dst v) w')->o.upon P a next Q ((callFunc f vs.toArray).run P w):=by
 unfold WV at h;split at h
 ·cases h
 ·rename_i iG KC Yn wG
  dsimp only at h
  split at h
  ·rename_i hck;simp only[AI5]at hck;obtain⟨⟨⟨⟨⟨ACD,Rm⟩,ApF⟩,SU⟩,hhd⟩,Azq⟩:=hck;generalize hπ:kY bs bs.length (da [] Yn)=π at *;generalize AHj:(π.filter λk=>c.yB.contains (idxOf π k))=Ut at *;generalize hπ1:(π.filter λk=>!Ut.contains k)=π1 at *;rw[hc.Yk]at h;cases DT:c.run (AV×AL7 Blk) (iG.map (·.Nm (idxOf π))) (π.map λk=>bif Ut.contains k then .AK else((bs[k]?).getD .AK).Nm (idxOf π)) λv b=>some (v,b)with
   |none=>rw[DT]at h;cases h
   |some p =>
    obtain⟨av,E'⟩:=p;rw[DT]at h;simp only[AIY]at h;split at h
    ·rename_i Ug;injection h with h;subst h;obtain⟨O6,PK⟩:=hc.snd _ _ _ _ DT;rw[AJa]at O6 PK;have AdK:∀k,k∈π1↔k∈π/\k∉Ut:=λk=>by rw[<-hπ1];simp
     have Azf:∀k∈KC,k∉π/\k<bs.length:=λk hk=>by
      have:=List.all_eq_true.1 ACD k hk;simpa using this
     have hbp:∀k∈KC,k∉π1/\k<bs.length:=λk hk=>⟨λh=>(Azf k hk).1 ((AdK k).1 h).1,(Azf k hk).2⟩;have AcK:∀k∈π,∃b,bs[k]?=some b/\(∀j∈b.Cf,j∈π)/\(k∈Ut\/∀j∈b.RL,j∉Ut):=λk hk=>by
      have:=List.all_eq_true.1 SU k hk;split at this
      ·rename_i b hb;simp only[AI5,AKe]at this;exact⟨b,hb,λj hj=>by have:=List.all_eq_true.1 this.1 j hj;simpa using this,this.2.imp (λh=>by simpa using h) λh j hj=>by have:=List.all_eq_true.1 h j hj;simpa using this⟩
      ·cases this
     have hr':∀k∈Yn,k∈π:=λk hk=>by have:=List.all_eq_true.1 ApF k hk;simpa using this
     have hh':∀a∈iG,∀k∈a.RL,k∈π->k∈π1:=λa ha k hk hp=>(AdK k).2 ⟨hp,by have:=List.all_eq_true.1 (List.all_eq_true.1 hhd a ha) k hk;simpa using this⟩;have ADN:∀k∈π,k<bs.length:=λk hk=>by obtain⟨b,hb,_⟩:=AcK k hk;exact AO hb
     let n:=bs.length
     let φ:=WS n π
     let E1:=List.zipWith (λk b=>bif Ut.contains k then((A6 π1 bs)[k]?).getD .AK else(b.Nm φ).US KC) π E'
     let E2:=(E'.drop π.length).map λb=>(b.Nm φ).US KC
     have hE1:E1.length=π.length:=by simp only[E1,List.length_zipWith];omega
     have hlen:(P5 (A6 π1 bs) π E1++E2).length=n+(E'.length-π.length):=by
      rw[AI2,Y0,Ay];simp[E2,n]
     refine⟨by show n<=(P5 (A6 π1 bs) π E1++E2).length;rw[hlen];omega,λh0=>?_,λw g vs H hx o a next Q hn=>?_⟩
     ·have h0:π1=[]:=h0;have h0':π=[]:=by rw[h0]at Azq;simpa using Azq
      refine⟨E2,?_⟩;show P5 (A6 π1 bs) π E1++E2=_;rw[h0,h0'];simp[P5,yb]
     ·have Hc:=xU (KC:=KC) H Rm (λk h1 h2=>(AdK k).2 ⟨h1,h2⟩) AcK;have Ac:=vG (KC:=KC) H (λk hk=>(hbp k hk).1) wG (λk hk=>hk) hr' hh' hx;refine PK w (g.call π π1 KC) vs Hc Ac o a next Q λv w' gc H' hv st=>?_
      let g1:=g.back gc n π
      let g':=g.ret gc n π π1
      have Bh:∀b,g.own b≠.no->b<w.heap.size:=λb h=>Sx H h;have Uu:∀b k r,g.own b=.BB k r->k∉π1->(gc.own b=.Ik/\k∈KC\/gc.own b=.no)/\w'.heap[b]?=w.heap[b]?:=λb k r hb hk=>by
       by_cases hkb:k∈KC
       ·have:=st.Ik b (by simp[G.call,hb,hk,hkb]);exact⟨.inl ⟨this.1,hkb⟩,this.2⟩
       ·have:=st.no b (Bh b (by rw[hb];simp)) (by simp[G.call,hb,hk,hkb]);exact⟨.inr this.1,this.2⟩
      have BJ:Step π1 n w g w' g':=by
       refine⟨st.os,st.tape,st.output,st.size,λb hb h=>?_,λb h=>?_,λb k r h hk hm=>?_,λk hk=>?_⟩
       ·have:=st.no b hb (by simp[G.call,h]);exact⟨by simp[g',G.ret,this.1,h],this.2⟩
       ·have:=st.Ik b (by simp[G.call,h]);exact⟨by simp[g',G.ret,this.1,h],this.2⟩
       ·obtain⟨h1,h2⟩:=Uu b k r h hm;refine⟨?_,h2⟩;rcases h1 with ⟨h1,_⟩|h1<;>simp[g',G.ret,h1,h,hm]
       ·have Ve:k<bs.length:=hk;simp[g',G.ret,n,Ve]
      have Ag7:∀j,j<E'.length->Ren φ gc g1 (n+(E'.length-π.length)) j:=λj hj=>by
       rcases AI9 j π.length with X5 |X5
       ·obtain⟨k,hk⟩:∃k,π[j]?=some k:=⟨_,AJ6 X5⟩;have hkm:k∈π:=AKr hk;have fR:k<bs.length:=ADN k hkm;refine⟨by rw[show φ j=k from lY hk];omega,?_,λb r hb=>by simp[g1,G.back,hb,φ]⟩;rw[show φ j=k from lY hk];have h1:gc.AQ j=(g.call π π1 KC).AQ j:=st.AQ j X5;rw[h1];simp[g1,G.back,n,fR,G.call,List.getD,hk]
       ·refine⟨by rw[show φ j=n+(j-π.length)from lX X5];omega,?_,λb r hb=>by simp[g1,G.back,hb,φ]⟩;rw[show φ j=n+(j-π.length)from lX X5];have:¬n+(j-π.length)<n:=by omega
        simp only[g1,G.back,AJh this];congr 1;omega
      have fQ:∀b,gc.own b=.Ik->g1.own b=.Ik:=λb hb=>by simp[g1,G.back,hb]
      have Azl:Dep KC g1 g' (n+(E'.length-π.length)):=by
       refine⟨λb hb=>?_,λb k r hb hk=>?_,λk hk=>rfl,λk hk=>by have:=(hbp k hk).2;omega⟩
       ·have hgc:gc.own b=.Ik:=by
          simp only[g1,G.back]at hb;split at hb
          ·cases hb
          ·exact hb
        cases hg:g.own b with
        |no=>exact .inl (by simp[g',G.ret,hgc,hg])
        |Ik=>exact .inl (by simp[g',G.ret,hgc,hg])
        |BB k r =>
         by_cases hk:k∈π1
         ·exact .inl (by simp[g',G.ret,hgc,hg,hk])
         ·obtain⟨h1,_⟩:=Uu b k r hg hk;rcases h1 with ⟨_,hkb⟩|h1
          ·exact .inr ⟨k,hkb,r,by simp[g',G.ret,hgc,hg,hk]⟩
          ·rw[hgc]at h1;cases h1
       ·simp only[g1,G.back]at hb;split at hb
        ·rename_i j r' hj;simp only[g',G.ret,hj];exact hb
        ·rename_i h1;exact(h1 k r hb).elim
      refine hn v w' g' ⟨λb hb=>?_,λk x hx=>?_⟩ ?_ BJ
      ·have h1:=H'.BP b hb;have h2:=H.BP b (AJs st.size hb);simp[g',G.ret,h1,h2]
      ·have hx:(P5 (A6 π1 bs) π E1++E2)[k]?=some x:=hx;show LZ w' g' (P5 (A6 π1 bs) π E1++E2).length k x;rw[hlen];have one:∀(j:Nat) (b:Blk),E'[j]?=some b->LZ w' g' (n+(E'.length-π.length)) (φ j) ((b.Nm φ).US KC):=λj b hj=>by
        have X5:=AO hj;have hb:=H'.Ls j b hj;have hbr:=hb.Nm fQ (Ag7 j X5) λi hi=>Ag7 i (by
         cases b with
         |AK=>cases hi
         |map m kt vt es st=>exact hb.1 i hi
         |QE e t xs i' p=>cases hi
         |tail e t xs=>cases hi
         |box a=>obtain⟨_,_,_,_,_,_,_,hx⟩:=hb;exact Cs.SY a false hx i hi
         |row e m t xs=>exact hb.1 i hi)
        exact hbr.US Azl (Ag7 j X5).lt
       rw[AJo]at hx;split at hx
       ·have jj:∀y,(A6 π1 bs)[k]?=some y->k∉π1->LZ w' g' (n+(E'.length-π.length)) k y:=λy hy hk=>by
          obtain⟨z,hz,rfl⟩:=C8 hy;exact(H.Ls k z hz).step BJ (by omega) (AO hz) hk
        rcases gN hE1 hx with ⟨hk,h⟩|⟨j,hj,h⟩
        ·exact jj x h λh1=>hk ((AdK k).1 h1).1
        ·simp only[E1,List.getElem?_zipWith,hj]at h;cases hq:E'[j]? with
         |none=>rw[hq]at h;cases h
         |some b =>
          rw[hq]at h;injection h with h;cases hc:Ut.contains k with
          |true =>
           rw[hc,AJe]at h;have hkh:k∈Ut:=by simpa using hc
           cases hd:(A6 π1 bs)[k]? with
           |none=>rw[hd]at h;subst h;trivial
           |some y=>rw[hd]at h;subst h;exact jj _ hd λh1=>((AdK k).1 h1).2 hkh
          |false =>
           rw[hc,AJd]at h;subst h;have:=one j b hq;rwa [show φ j=k from lY hj]at this
       ·rename_i hk;rw[Y0,Ay]at hx hk;simp only[E2,AJr,AKW]at hx;cases hq:E'[π.length+(k-bs.length)]? with
        |none=>rw[hq]at hx;cases hx
        |some b =>
         rw[hq]at hx;injection hx with hx;subst hx;have:=one _ b hq;rwa [show φ (π.length+(k-bs.length))=k from by
          rw[show φ (π.length+(k-bs.length))=n+(π.length+(k-bs.length)-π.length)from lX (by omega)];simp only[n];omega]at this
      ·show BS w' g' (P5 (A6 π1 bs) π E1++E2).length ((av.Nm φ).US KC) v;rw[hlen];exact(hv.Nm fQ λk hk=>Ag7 k (hv.SY k hk)).US Azl
    ·cases h
  ·cases h
def AiS(l:AL7 Nat)(c:Callee):Callee:={c with yB:=l}
theorem Adt{P:Program}{f:FuncId}{c:Callee}(l:AL7 Nat)(h:Ap P f c):Ap P f (AiS l c):=⟨h.Yk,h.snd⟩
theorem oe{r q L:AL7 Nat}{a b:Nat}(h:(r++a::L) <:+ (q++b::L)):a=b:=by
 obtain⟨s,hs⟩:=h;have:(s++r)++(a::L)=q++(b::L):=by simpa using hs
 have:=List.append_inj_right' this rfl;injection this
theorem gj:∀(f:Nat) (L:AL7 Nat),∃r,je f L=r++L
 |0,L=>⟨[0],rfl⟩
 |f+1,L=>by
  obtain⟨r,h⟩:=gj f (1::L);exact⟨r++[1],by rw[je,h];simp⟩
theorem ZM:∀(p L:AL7 Nat),∃r,TH p L=r++L
 |[],L=>⟨[],rfl⟩
 |f::p,L=>by
  obtain⟨r,hr⟩:=ZM p (je f L);obtain⟨s,hs⟩:=gj f L;exact⟨r++s,by rw[TH,hr,hs,AI6]⟩
def Fr(w:World)(own:Nat->Tq)(w':World)(Nj:Nat->Tq)(k:Nat)(P:AL7 Nat):Prop:=∀b q,own b=.BB k q->¬P <:+ q->Nj b=.BB k q/\w'.heap[b]?=w.heap[b]?
def Afs(w:World)(own:Nat->Tq)(k:Nat)(u:Ty)(zs:AL7 u.V)(P:AL7 Nat)(t:Ty)(L:AL7 Nat)(x':t.V)(ys:AL7 u.V)(cs:AL7 Value)(o:Nat):Prop :=
 ∃c0 c1 c2,cs=c0++c1++c2/\c0.length=o/\Jl w own k (.sl u) P ys c1/\∀w' Nj Si,Fr w own w' Nj k P->Jl w' Nj k (.sl u) P zs Si->Jl w' Nj k t L x' (c0++Si++c2)
section
variable {w:World} {own:Nat->Tq} {k:Nat} {u:Ty} {zs:AL7 u.V}
theorem sib{w':World}{Nj:Nat->Tq}{P:AL7 Nat}{t:Ty}{L:AL7 Nat}{x:t.V}{cs:AL7 Value}(dE:Fr w own w' Nj k P)(hP:∀q,¬P <:+ (q++L))(h:Jl w own k t L x cs):Jl w' Nj k t L x cs :=
 h.mono λb q hb=>dE b _ hb (hP q)
theorem qK(p:AL7 Nat)(ih:∀(t:Ty) (L:AL7 Nat) (x x':t.V) (cs:AL7 Value) (o:Nat) (ys:AL7 u.V),R5 (.sl u) zs p t x=some x'->fH (.sl u) p t x=some ys->K0 t p=some o->Jl w own k t L x cs->Afs w own k u zs (TH p L) t L x' ys cs o) :
    ∀(f:Nat) (t:Ty) (L:AL7 Nat) (x x':t.V) (cs:AL7 Value) (t1:Ty) (o1 o2:Nat) (ys:AL7 u.V),Ra t x f (λt' y=>R5 (.sl u) zs p t' y)=some x'->Ao3 t x f (λt' y=>fH (.sl u) p t' y)=some ys ->
     ic t f=some t1->TX t f=some o1->K0 t1 p=some o2->Jl w own k t L x cs->Afs w own k u zs (TH p (je f L)) t L x' ys cs (o1+o2)
 |0,.Au a b,L,x,x',cs,t1,o1,o2,ys,hs,hg,ht,ho,iU,h=>by
  obtain⟨c,d,e,h1,h2⟩:=h;simp only[ic,AI0]at ht;subst ht;simp only[TX,AI0]at ho;subst ho;simp only[Ra]at hs;split at hs
  ·rename_i y hy;injection hs with hs;subst hs;obtain⟨c0,c1,c2,e2,hl,hr,hk⟩:=ih a (0::L) x.1 y c o2 ys hy hg iU h1;refine⟨c0,c1,c2++d,by rw[e,e2];simp only[AI6],by omega,hr,λw' Nj Si dE hz=>⟨c0++Si++c2,d,by simp only[AI6],hk w' Nj Si dE hz,sib dE (λq hq=>?_) h2⟩⟩;obtain⟨r,hr⟩:=ZM p (je 0 L);rw[hr]at hq;have:=oe (r:=r) (q:=q) (L:=L) (a:=0) (b:=1) hq;cases this
  ·cases hs
 |f+1,.Au a b,L,x,x',cs,t1,o1,o2,ys,hs,hg,ht,ho,iU,h=>by
  obtain⟨c,d,e,h1,h2⟩:=h;simp only[ic]at ht;simp only[TX]at ho;split at ho
  ·rename_i o3 ho3;injection ho with ho;subst ho;simp only[Ra]at hs;split at hs
   ·rename_i y hy;injection hs with hs;subst hs;obtain⟨c0,c1,c2,e2,hl,hr,hk⟩:=qK p ih f b (1::L) x.2 y d t1 o3 o2 ys hy hg ht ho3 iU h2;refine⟨c++c0,c1,c2,by rw[e,e2];simp only[AI6],by rw[AI2,h1.len];omega,hr,λw' Nj Si dE hz=>⟨c,c0++Si++c2,by simp only[AI6],sib dE (λq hq=>?_) h1,hk w' Nj Si dE hz⟩⟩;obtain⟨r,hr⟩:=ZM p (je (f+1) L);obtain⟨s,hs⟩:=gj f (1::L);rw[hr,je,hs,<-AI6]at hq;have:=oe (r:=r++s) (q:=q) (L:=L) (a:=1) (b:=0) hq;cases this
   ·cases hs
  ·cases ho
 |f,.int _,_,_,_,_,_,_,_,_,hs,_,_,_,_,_=>by simp[Ra]at hs
 |f,.bool,_,_,_,_,_,_,_,_,hs,_,_,_,_,_=>by simp[Ra]at hs
 |f,.str,_,_,_,_,_,_,_,_,hs,_,_,_,_,_=>by simp[Ra]at hs
 |f,.unit,_,_,_,_,_,_,_,_,hs,_,_,_,_,_=>by simp[Ra]at hs
 |f,.sl _,_,_,_,_,_,_,_,_,hs,_,_,_,_,_=>by simp[Ra]at hs
 |f,.QG _,_,_,_,_,_,_,_,_,hs,_,_,_,_,_=>by simp[Ra]at hs
theorem gC:∀(p:AL7 Nat) (t:Ty) (L:AL7 Nat) (x x':t.V) (cs:AL7 Value) (o:Nat) (ys:AL7 u.V),R5 (.sl u) zs p t x=some x'->fH (.sl u) p t x=some ys->K0 t p=some o->Jl w own k t L x cs->Afs w own k u zs (TH p L) t L x' ys cs o
 |[],t,L,x,x',cs,o,ys,hs,hg,ho,h=>by
  simp only[K0,AI0]at ho;subst ho;obtain⟨e,he⟩:=Bz hs;obtain⟨e',he'⟩:=Bz hg;subst e;simp only at he he';subst he;subst he';exact⟨[],cs,[],by simp,rfl,h,λw' Nj Si _ hz=>by simpa [TH]using hz⟩
 |f::p,t,L,x,x',cs,o,ys,hs,hg,ho,h=>by
  simp only[K0]at ho;split at ho
  ·rename_i t1 o1 h1 h2;split at ho
   ·rename_i o2 h3;injection ho with ho;subst ho;exact qK p (gC p) f t L x x' cs t1 o1 o2 ys hs hg h1 h2 h3 h
   ·cases ho
  ·cases ho
end
def G.fq(g:G)(n k:Nat)(P:AL7 Nat)(i:BI):G:=⟨λb=>match g.own b with |.BB j q=>if j=k/\P <:+ q then .BB n (q.take (q.length-P.length))else .BB j q |t=>t,λj=>if j=n then i else g.AQ j⟩
def G.bR(g:G)(n k:Nat)(P:AL7 Nat):G:=⟨λb=>match g.own b with |.BB j q=>if j=n then .BB k (q++P)else .BB j q |t=>t,g.AQ⟩
section
variable {w:World} {g:G} {bs:AL7 Blk}
theorem XF{n k:Nat}{P:AL7 Nat}{i:BI}{b:Nat}{q:AL7 Nat}(h:g.own b=.BB k (q++P)):(g.fq n k P i).own b=.BB n q:=by
 have:P <:+ (q++P):=⟨q,rfl⟩;simp[G.fq,h,this]
theorem VU{n k:Nat}{P:AL7 Nat}{i:BI}{b j:Nat}{q:AL7 Nat}(h:g.own b=.BB j q)(hn:¬(j=k/\P <:+ q)):(g.fq n k P i).own b=.BB j q:=by
 simp only[G.fq,h,AJh hn]
theorem vI{n k:Nat}{P:AL7 Nat}{b:Nat}{q:AL7 Nat}(h:g.own b=.BB n q):(g.bR n k P).own b=.BB k (q++P):=by simp[G.bR,h]
theorem dk{n k:Nat}{P:AL7 Nat}{b j:Nat}{q:AL7 Nat}(h:g.own b=.BB j q)(hn:j≠n):(g.bR n k P).own b=.BB j q:=by simp only[G.bR,h,AJh hn]
theorem gX{k:Nat}{P:AL7 Nat}{i:BI}:Step [k] bs.length w g w (g.fq bs.length k P i) where
 os:=rfl
 tape:=rfl
 output:=rfl
 size:=AI4 _
 no b _ h:=⟨by simp[G.fq,h],rfl⟩
 Ik b h:=⟨by simp[G.fq,h],rfl⟩
 BB b j q h hj hm:=⟨VU h λhc=>hm (by simp[hc.1]),rfl⟩
 AQ j hj:=by simp[G.fq,Nat.ne_of_lt hj]
theorem r5{n k N:Nat}{P:AL7 Nat}:Step [n,k] N w g w (g.bR n k P) where
 os:=rfl
 tape:=rfl
 output:=rfl
 size:=AI4 _
 no b _ h:=⟨by simp[G.bR,h],rfl⟩
 Ik b h:=⟨by simp[G.bR,h],rfl⟩
 BB b j q h hj hm:=⟨dk h λhc=>hm (by simp[hc]),rfl⟩
 AQ j hj:=rfl
theorem Ry{A:Type}{l:AL7 A}{k j:Nat}{x y:A}(h:(l.set k x)[j]?=some y):(j=k/\y=x)\/(j≠k/\l[j]?=some y):=by
 rw[AJn]at h;split at h
 ·rename_i e;subst e;split at h
  ·injection h with h;exact .inl ⟨rfl,h.symm⟩
  ·cases h
 ·rename_i e;exact .inr ⟨λh=>e h.symm,h⟩
theorem Bd.gu{A:Type}{I J:Nat->A->AL7 Value->Prop}:∀{lo:Nat} {xs:AL7 A} {cs:AL7 Value},(∀j x c,lo<=j->j<lo+xs.length->I j x c->J j x c)->Bd I lo xs cs->Bd J lo xs cs
 |_,[],_,_,h=>h
 |lo,_::xs,_,h,⟨c,d,e,r,l⟩=>⟨c,d,e,h _ _ _ (AI4 _) (by simp) r,Bd.gu (λj x c h1 h2=>h j x c (by omega) (by simp only[AJL];omega)) l⟩
theorem XG(H:Ba w g bs){k ek:Nat}{t u:Ty}{xs:AL7 t.V}(hb:bs[k]?=some (.row ek .Ai t xs)){i:Int}{p:AL7 Nat}{o:Nat}(hi:i.toNat<(g.AQ k).len){ys:AL7 u.V}
    (hg:fH (.sl u) p t (xs.getD i.toNat t.zero)=some ys) (ho:K0 t p=some o) (hu:u.size≠0) {b:Nat} (M6:(g.AQ k).a=some ⟨b,0,none⟩) {v:Value} (hv:w.cell? ⟨b,i.toNat*(g.AQ k).jZ+o,none⟩=some v)
    {zs:AL7 u.V} {x':t.V} (hs:R5 (.sl u) zs p t (xs.getD i.toNat t.zero)=some x') :
    ∃g1,Ba w g1 ((A6 [k] bs).set k .AK++[.row 0 .Ai u ys])/\Step [k] bs.length w g w g1/\BS w g1 (bs.length+1) (.Am bs.length) v /\
     (∀(w':World) (g2:G) (N:Nat) (e0:Nat),(∀b q,g1.own b=.BB k q->g2.own b=.BB k q/\w'.heap[b]?=w.heap[b]?)->(∀j,j<=bs.length->g2.AQ j=g1.AQ j) ->
      LZ w' g2 N bs.length (.row e0 .Ai u zs)->LZ w' (g2.bR bs.length k (TH p [i.toNat])) N k (.row ek .Ai t (xs.set i.toNat x'))) /\
     (zs=[]->tyP t p=some (.sl u)->0<=i->∀N,LZ w g1 N k (.QE ek t xs i p)):=by
 have iT:=AO hb;obtain⟨QA,hlen,Pu,BH,hr⟩:=H.Ls k _ hb;have Bh:i.toNat<xs.length:=by rw[<-hlen];exact hi
 rcases hr with ⟨WC,_⟩|⟨b',Bp,ds,ha,Ce,⟨el,Tx,hh⟩,M7,j9,wK,hc4,Ps⟩
 ·rw[WC]at Bh;simp at Bh
 rw[M6]at ha;injection ha with ha;injection ha with ha;subst ha;have Ps:Bd (λi=>Jl w g.own k t [i]) 0 xs ds:=Ps;obtain⟨c0,c,d,e1,dF,wT,yx,fW⟩:=Bd.AQ (λi x c h=>Jl.len h) Ps Bh;rw[AJu]at wT fW;have hgd:xs.getD i.toNat t.zero=xs[i.toNat]:=by simp[List.getD,Bh]
 let P:=TH p [i.toNat]
 obtain⟨r0,hP⟩:=ZM p [i.toNat];obtain⟨a0,a1,a2,e2,af,hys,YO⟩:Afs w g.own k u zs P t [i.toNat] x' ys c o:=gC p t [i.toNat] (xs.getD i.toNat t.zero) x' c o ys hs hg ho (by rw[hgd];exact wT);have ADJ:=hys;obtain⟨ad,cap,e3,OI⟩:=ADJ;have hvh:v=.slice ad ys.length cap:=by
  rw[PE hh,<-AJc,Pu]at hv;have hq:ds[i.toNat*t.size+o]?=some (.slice ad ys.length cap):=by
   rw[e1,e2,e3,AI6,AJk (by omega),dF];rw[show i.toNat*t.size+o-i.toNat*t.size=a0.length by omega];simp
  subst hc4;rw[AJM]at hq;split at hq
  ·rw[hv]at hq;injection hq
  ·cases hq
 let i1:BI:=⟨ad,ys.length,cap,u.size⟩
 let n:=bs.length
 let g1:=g.fq n k P i1
 have st:Step [k] n w g w g1:=gX;have Sl:g1.AQ n=i1:=by simp[g1,G.fq]
 have fR:k≠n:=by simp only[n];omega
 have kj:((A6 [k] bs).set k Blk.AK++[Blk.row 0 .Ai u ys]).length=n+1:=by simp[Ay,n]
 refine⟨g1,?_,st,?_,?_,?_⟩
 ·refine H.Y7 st (λb hb=>by simp[g1,G.fq,H.BP b hb]) (by rw[kj];omega) λj x hj=>?_;rw[AJo]at hj;split at hj
  ·rcases Ry hj with ⟨rfl,rfl⟩|⟨Lr,hj⟩
   ·exact .inl rfl
   ·obtain⟨y,hy,rfl⟩:=C8 hj;exact .inr (.inl ⟨by simpa using Lr,y,hy,rfl⟩)
  ·rename_i ae;simp only[AI7,Ay]at hj ae;have kg:j-bs.length=0:=by
    rcases AJm (j-bs.length)with h |h
    ·exact h
    ·rw[AJC (by simp;omega)]at hj;cases hj
   rw[kg]at hj;obtain rfl:j=n:=by simp only[n];omega
   simp only[List.getElem?_cons_zero,AI0]at hj;subst hj;refine .inr (.inr ⟨λj hj=>(by cases hj),by rw[Sl],by rw[Sl],AKL hu,?_⟩);rw[Sl];refine OI.imp id λ⟨b,el,Bp,ds,q1,q2,q3,q4,q5,q6,q7,q8⟩=>⟨b,Bp,ds,q1,XF (q:=[]) (by simpa using q2),⟨el,.inl rfl,q3⟩,q4,q5,q6,q7,?_⟩;exact q8.mono λi x c r=>r.mono λb q hb=>⟨XF (by simpa using hb),rfl⟩
 ·rw[hvh];exact Bl (cs:=[_]) rfl ⟨AJE _,by rw[Sl]⟩ rfl
 ·intro w' g2 N e0 Uu Ay9 hB;obtain⟨_,wP,_,_,wS⟩:=hB;have ACy:g2.AQ n=i1:=by rw[Ay9 n (AI4 _),Sl]
  rw[ACy]at wP wS;have hzl:zs.length=ys.length:=wP.symm;have hz:Jl w' (g2.bR n k P).own k (.sl u) P zs a1:=by
   refine⟨ad,cap,by rw[e3,hzl],wS.imp id λ⟨b,Bp,ds,q1,q2,⟨el,_,q3⟩,q4,q5,q6,q7,q8⟩=>⟨b,el,Bp,ds,q1,by simpa using vI (P:=P) (k:=k) q2,q3,q4,q5,q6,q7,?_⟩⟩;have q8:Bd (λi=>Jl w' g2.own n u [i]) 0 zs ds:=q8;exact q8.mono λi x c r=>r.mono λb q hb=>⟨by simpa using vI (P:=P) (k:=k) hb,rfl⟩
  have dE:Fr w g.own w' (g2.bR n k P).own k P:=λb q hb hn=>by
   have h1:=Uu b q (VU hb λhc=>hn hc.2);exact⟨dk h1.1 fR,h1.2⟩
  have wL:=YO w' _ _ dE hz;rw[<-e2]at wL;have mW:∀j,j≠i.toNat->∀{x:t.V} {c:AL7 Value},Jl w g.own k t [j] x c->Jl w' (g2.bR n k P).own k t [j] x c:=λj hj x c h=>sib dE (λq hq=>by
   rw[show P=r0++i.toNat::[]from hP]at hq;exact hj (oe (L:=[]) hq).symm) h
  have qE:=Bd.join Bh (Bd.gu (λj x c _ h2 h=>mW j (by rw[AJj]at h2;omega) h) yx) (by rw[AJu];exact wL) (Bd.gu (λj x c h1 _ h=>mW j (by omega) h) (by rw[AJu];exact fW));have QM:=dE b [] Ce (by
   rw[show P=r0++[i.toNat]from hP]
   rintro⟨s,hs⟩
   simp at hs)
  have QV:(g2.bR n k P).AQ k=g.AQ k:=by
   show g2.AQ k=_;rw[Ay9 k (by omega)];simp[g1,G.fq,fR]
  refine⟨λj hj=>(by cases hj),by rw[QV,AI7];exact hlen,by rw[QV];exact Pu,BH,.inr ⟨b,Bp,ds,by rw[QV];exact M6,QM.1,⟨el,Tx,QM.2.trans hh⟩,by rw[QV,AI7];exact M7,by rw[QV];exact j9,by rw[QV];exact wK,by rw[AI7];exact hc4,?_⟩⟩;show Bd _ 0 _ ds;rw[e1];exact qE
 ·intro hz0 dG h0 N;subst hz0;have dE:Fr w g.own w g1.own k P:=λb q hb hn=>⟨VU hb λhc=>hn hc.2,rfl⟩;have wL:=YO w g1.own [.slice none 0 0] dE ⟨none,0,rfl,.inl ⟨rfl,rfl⟩⟩;have mW:∀j,j≠i.toNat->∀{x:t.V} {c:AL7 Value},Jl w g.own k t [j] x c->Jl w g1.own k t [j] x c:=λj hj x c h=>sib dE (λq hq=>by
   rw[show P=r0++i.toNat::[]from hP]at hq;exact hj (oe (L:=[]) hq).symm) h
  have qE:=Bd.join Bh (Bd.gu (λj x c _ h2 h=>mW j (by rw[AJj]at h2;omega) h) yx) (by rw[AJu];exact wL) (Bd.gu (λj x c h1 _ h=>mW j (by omega) h) (by rw[AJu];exact fW));have QM:=dE b [] Ce (by
   rw[show P=r0++[i.toNat]from hP]
   rintro⟨s,hs⟩
   simp at hs)
  have QV:g1.AQ k=g.AQ k:=by simp[g1,G.fq,fR]
  refine⟨by rw[QV];exact hlen,by rw[QV];exact Pu,BH,h0,Bh,u,o,x',b,Bp,_,ho,dG,hs,by rw[QV];exact M6,QM.1,⟨el,Tx,hh⟩,by rw[QV];exact M7,by rw[QV];exact j9,by rw[QV];exact wK,rfl,?_⟩;rw[Array.toList_setIfInBounds,List.take_set,hc4,e1,e2,e3];have:(c0++(a0++[Value.slice ad ys.length cap]++a2)++d).set (i.toNat*t.size+o) (.slice none 0 0)=c0++(a0++[.slice none 0 0]++a2)++d:=by
   rw[<-dF,<-af,AI6,AI6,AI6,AKz _ _ (by omega),AKz _ _ (by omega),show c0.length+a0.length-c0.length-a0.length=0 by omega];simp
  rw[this];exact qE
theorem yP(H:Ba w g bs){k ek:Nat}{t u:Ty}{xs:AL7 t.V}(hb:bs[k]?=some (.row ek .Ai t xs)){i:Int}{p:AL7 Nat}{o:Nat}(hi:i.toNat<(g.AQ k).len){ys zs:AL7 u.V}{x':t.V}
    (hg:fH (.sl u) p t (xs.getD i.toNat t.zero)=some ys) (hs:R5 (.sl u) zs p t (xs.getD i.toNat t.zero)=some x') (ho:K0 t p=some o) {b:Nat} (M6:(g.AQ k).a=some ⟨b,0,none⟩) :
    ∃ad c,w.cell? ⟨b,i.toNat*(g.AQ k).jZ+o,none⟩=some (.slice ad ys.length c):=by
 obtain⟨QA,hlen,Pu,BH,hr⟩:=H.Ls k _ hb;have Bh:i.toNat<xs.length:=by rw[<-hlen];exact hi
 rcases hr with ⟨WC,_⟩|⟨b',Bp,ds,ha,Ce,⟨el,Tx,hh⟩,M7,j9,wK,hc4,Ps⟩
 ·rw[WC]at Bh;simp at Bh
 rw[M6]at ha;injection ha with ha;injection ha with ha;subst ha;have Ps:Bd (λi=>Jl w g.own k t [i]) 0 xs ds:=Ps;obtain⟨c0,c,d,e1,dF,wT,yx,fW⟩:=Bd.AQ (λi x c h=>Jl.len h) Ps Bh;rw[AJu]at wT;have hgd:xs.getD i.toNat t.zero=xs[i.toNat]:=by simp[List.getD,Bh]
 obtain⟨a0,a1,a2,e2,af,⟨ad,cap,e3,_⟩,_⟩:=gC p t [i.toNat] (xs.getD i.toNat t.zero) x' c o ys hs hg ho (by rw[hgd];exact wT);refine⟨ad,cap,?_⟩;rw[PE hh,<-AJc,Pu];have hq:ds[i.toNat*t.size+o]?=some (.slice ad ys.length cap):=by
  rw[e1,e2,e3,AI6,AJk (by omega),dF];rw[show i.toNat*t.size+o-i.toNat*t.size=a0.length by omega];simp
 subst hc4;rw[AJM]at hq;split at hq
 ·exact hq
 ·cases hq
end
theorem gA:∀{l:AL7 AV} {j0 j k:Nat} {a:AV} {i:Int} {p:AL7 Nat} {o:Nat},rz j0 l=some (j,a,k,i,p,o)->j0<=j/\l[j-j0]?=some a/\a.OU=some (k,i,p,o)
 |[],_,_,_,_,_,_,_,h=>by simp[rz]at h
 |b::r,j0,j,k,a,i,p,o,h=>by
  simp only[rz]at h;split at h
  ·rename_i k' i' p' o' hg;simp only[AI0,AJb]at h;obtain⟨rfl,rfl,rfl,rfl,rfl,rfl⟩:=h;exact⟨AI4 _,by simp,hg⟩
  ·obtain⟨h1,h2,h3⟩:=gA h;refine⟨by omega,?_,h3⟩;rw[show j-j0=(j-(j0+1))+1 by omega,AK9];exact h2
theorem bm{w:World}{g:G}{n:Nat}:∀{a:AV} {cs:AL7 Value} {k:Nat} {i:Int} {p:AL7 Nat} {o:Nat},Cs w g n false a cs->a.OU=some (k,i,p,o) ->
    k<n/\0<=i/\i.toNat<(g.AQ k).len/\∃b v,(g.AQ k).a=some ⟨b,0,none⟩/\g.own b=.BB k []/\w.cell? ⟨b,i.toNat*(g.AQ k).jZ+o,none⟩=some v
 |.Tf k i p o e,cs,_,_,_,_,⟨hk,h0,h1,b,v,ha,ho,e1,e2,hc⟩,h=>by
  simp only[AV.OU,AI0,AJb]at h;obtain⟨rfl,rfl,rfl,rfl⟩:=h;exact⟨hk,h0,h1,b,v,ha,ho,hc⟩
 |.pr a b,cs,k,i,p,o,⟨c,d,e,h1,h2⟩,h=>by
  simp only[AV.OU]at h;split at h
  ·rename_i z hz;injection h with h;subst h;exact bm h1 hz
  ·exact bm h2 h
 |.Ax _ _ _,_,_,_,_,_,_,h=>by simp[AV.OU]at h
 |.zs,_,_,_,_,_,_,h=>by simp[AV.OU]at h
 |.Am _,_,_,_,_,_,_,h=>by simp[AV.OU]at h
 |.mp _,_,_,_,_,_,_,h=>by simp[AV.OU]at h
 |.ptr _ _ _ _,_,_,_,_,_,_,h=>by simp[AV.OU]at h
 |.EJ _ _ _,_,_,_,_,_,_,h=>by simp[AV.OU]at h
 |.LO,_,_,_,_,_,_,h=>by simp[AV.OU]at h
 |.fn _ _,_,_,_,_,_,_,h=>by simp[AV.OU]at h
 |.un _,_,_,_,_,_,_,h=>by simp[AV.OU]at h
 |.cons _ _,_,_,_,_,_,h,_=>h.elim
 |.nil,_,_,_,_,_,h,_=>h.elim
theorem uA{a:AV}{z:Nat×Int×AL7 Nat×Nat}(h:a.OU=some z)(N:Nat):a.C5=false/\a.Nc=false/\(a.YV N).C5=false/\(a.YV N).isAgg=a.isAgg:=by
 cases a with
 |Tf k i p o e=>exact⟨rfl,rfl,rfl,rfl⟩
 |pr a b =>
  refine⟨rfl,rfl,?_,?_⟩
  ·simp only[AV.YV];split<;>rfl
  ·simp only[AV.YV];split<;>rfl
 |_=>simp[AV.OU]at h
theorem nX{w:World}{g g1:G}{n N k:Nat}(st:Step [k] n w g w g1){i:Int}{p:AL7 Nat}{o:Nat}{v b:_}(M6:(g.AQ k).a=some ⟨b,0,none⟩)(hc:w.cell? ⟨b,i.toNat*(g.AQ k).jZ+o,none⟩=some v)(hr:Cs w g1 (n+1) false (.Am N) [v]) :
    ∀{a:AV} {cs:AL7 Value},Cs w g n false a cs->a.OU=some (k,i,p,o)->(∀q∈(a.YV N).Cf,[k].contains q=false)->Cs w g1 (n+1) false (a.YV N) cs
 |.Tf _ _ _ _ _,cs,⟨_,_,_,b',v',ha,_,e1,_,hc'⟩,h,_=>by
  simp only[AV.OU,AI0,AJb]at h;obtain⟨rfl,rfl,rfl,rfl⟩:=h;rw[M6]at ha;injection ha with ha;injection ha with ha;subst ha;rw[hc]at hc';injection hc' with hc';subst hc';rw[e1];exact hr
 |.pr a b,cs,⟨c,d,e,h1,h2⟩,h,hq=>by
  simp only[AV.OU]at h;simp only[AV.YV]at hq⊢;split at h
  ·rename_i z hz;injection h with h;subst h;rw[hz]at hq;refine⟨c,d,e,nX st M6 hc hr h1 hz λq fU=>hq q (by simp[AV.Cf,fU]),?_⟩;have:=Cs.step st (AJz n) b false h2;rwa [Nr λq fU=>hq q (by simp[AV.Cf,fU])]at this
  ·rename_i hz;rw[hz]at hq;refine⟨c,d,e,?_,nX st M6 hc hr h2 h λq fU=>hq q (by simp[AV.Cf,fU])⟩;have:=Cs.step st (AJz n) a false h1;rwa [Nr λq fU=>hq q (by simp[AV.Cf,fU])]at this
 |.Ax _ _ _,_,_,h,_=>by simp[AV.OU]at h
 |.zs,_,_,h,_=>by simp[AV.OU]at h
 |.Am _,_,_,h,_=>by simp[AV.OU]at h
 |.mp _,_,_,h,_=>by simp[AV.OU]at h
 |.ptr _ _ _ _,_,_,h,_=>by simp[AV.OU]at h
 |.EJ _ _ _,_,_,h,_=>by simp[AV.OU]at h
 |.LO,_,_,h,_=>by simp[AV.OU]at h
 |.fn _ _,_,_,h,_=>by simp[AV.OU]at h
 |.un _,_,_,h,_=>by simp[AV.OU]at h
 |.cons _ _,_,h,_,_=>h.elim
 |.nil,_,h,_,_=>h.elim
theorem pD{w:World}{g:G}{n:Nat}:∀{l:AL7 AV} {vs:AL7 Value} {j:Nat} {a:AV},Dj w g n l vs->l[j]?=some a->∃v,vs[j]?=some v/\BS w g n a v
 |_::_,v::_,0,_,h,hx=>by simp at hx;subst hx;exact⟨v,rfl,h.1⟩
 |_::_,_::_,j+1,_,h,hx=>by
  obtain⟨v,hv,hr⟩:=pD (j:=j) h.2 (by simpa using hx);exact⟨v,by simpa using hv,hr⟩
 |[],[],_,_,_,hx=>by simp at hx
 |[],_::_,_,_,h,_=>h.elim
 |_::_,[],_,_,h,_=>h.elim
theorem jJ{w:World}{g g1:G}{n n1:Nat}{a1:AV}:∀{l:AL7 AV} {vs:AL7 Value} {j:Nat} {v:Value},Dj w g n l vs->vs[j]?=some v->BS w g1 n1 a1 v->(∀a∈l.set j (.un 1),∀v,BS w g n a v->BS w g1 n1 a v)->Dj w g1 n1 (l.set j a1) vs
 |a::l,v0::vs,0,v,h,hv,hx,ht=>by
  simp at hv;subst hv;refine⟨hx,?_⟩;have key:∀{l:AL7 AV} {vs:AL7 Value},(∀a∈l,∀v,BS w g n a v->BS w g1 n1 a v)->Dj w g n l vs->Dj w g1 n1 l vs:=by
   intro l;induction l with
   |nil=>intro vs _ h;cases vs with
    |nil=>trivial
    |cons _ _=>exact h.elim
   |cons a l ih=>intro vs ht h;cases vs with
    |nil=>exact h.elim
    |cons v vs=>exact⟨ht a (by simp) v h.1,ih (λa ha=>ht a (by simp[ha])) h.2⟩
  exact key (λa ha=>ht a (by simp[ha])) h.2
 |a::l,v0::vs,j+1,v,h,hv,hx,ht=>⟨ht a (by simp) v0 h.1,jJ h.2 (by simpa using hv) hx λa ha=>ht a (by simp[ha])⟩
 |[],[],_,_,_,hv,_,_=>by simp at hv
 |[],_::_,_,_,h,_,_,_=>h.elim
 |_::_,[],_,_,h,_,_,_=>h.elim
theorem xT{P:Program}{f:FuncId}{c:Callee}(hc:Ap P f c){bs:AL7 Blk}{args:AL7 AV}{e:G9}(h:eR c bs args some=some e) :
    bs.length<=e.An.length/\(e.Bu=[]->∃l,e.An=bs++l)/\∀(w:World) (g:G) (vs:AL7 Value),Ba w g bs->Dj w g bs.length args vs->∀(o:Oper) (a:Act) (next:Act->World->Prop) (Q:Exit->Act->World->Prop),
     (∀v w' g',Ba w' g' e.An->BS w' g' e.An.length e.val v->Step e.Bu bs.length w g w' g'->next (a.put o.dst v) w')->o.upon P a next Q ((callFunc f vs.toArray).run P w):=by
 unfold eR at h;split at h
 ·exact jL hc h
 ·rename_i j a0 k i p of hix;split at h
  ·rename_i ek t xs hb;split at h
   ·rename_i u dG;split at h
    ·rename_i ys hg;split at h
     ·rename_i qA;obtain⟨kn,hu,mU⟩:=qA;rw[XB c hc.Yk]at h;cases hx:WV c ((A6 [k] bs).set k Blk.AK++[Blk.row 0 .Ai u ys]) (args.set j (a0.YV bs.length)) some with
      |none=>rw[hx]at h;cases h
      |some e0 =>
       rw[hx]at h;simp only[AIY]at h;split at h
       ·cases h
       ·rename_i km;split at h
        ·rename_i e1 u' zs' hn0;split at h
         ·rename_i zs qz;split at h
          ·rename_i x' Fx;injection h with h;subst h;obtain⟨ec,hec⟩:=Bz qz;injection ec with ec;have ec:=ec.symm;subst ec;simp only at hec;subst hec;obtain⟨hlen,_,Azg⟩:=jL hc hx;have iT:=AO hb;have oY:((A6 [k] bs).set k Blk.AK++[Blk.row 0 .Ai u ys]).length=bs.length+1:=by simp[Ay]
           rw[oY]at hlen;have Apv:k∉e0.Bu:=by simpa using km
           refine⟨by simp only[AI7,Ay];omega,λhm=>by simp at hm,λw g vs H wG o a next Q hn=>?_⟩
           obtain⟨_,ApB,hG⟩:=gA hix;rw[Nat.sub_zero]at ApB;obtain⟨v,hvj,wH⟩:=pD wG ApB;obtain⟨pl1,pl2,pl3,pl4⟩:=uA hG bs.length;obtain⟨cs,SV,hval⟩:=BQ pl1 pl2 wH;obtain⟨_,h0,hi,b,v',M6,Ce,C9⟩:=bm SV hG;obtain⟨g1,H1,QP,yn,YO,_⟩:=XG H hb hi hg kn hu M6 C9 Fx;have AzN:∀a∈args.set j (a0.YV bs.length),∀q∈a.Cf,[k].contains q=false:=λa ha q hq=>by
            have:=List.all_eq_true.1 mU a ha;simp only[AKk,ALf,AJP]at this;simp only[ALf,AJp,AJP];intro e;subst e;exact this hq
           have X5:=AO ApB;have AzS:BS w g1 (bs.length+1) (a0.YV bs.length) v:=by
            obtain⟨cs1,Apb,cT⟩:=BQ rfl rfl yn;have e1:cs1=[v']:=cT;subst e1;exact Bl pl3 (nX QP M6 C9 Apb SV hG (AzN _ (AKr (i:=j) (by rw[ALc X5])))) (by rw[pl4];exact hval)
           have Ao8:Dj w g1 (bs.length+1) (args.set j (a0.YV bs.length)) vs:=jJ wG hvj AzS λa ha v h=>by
            obtain⟨q,hq⟩:=List.getElem?_of_mem ha;rcases Ry hq with ⟨rfl,rfl⟩|⟨Lr,fU⟩
            ·exact Qy
            ·have:=h.step QP (AJz _);rwa [Nr (AzN a (AKr (i:=q) (by rw[AK2 (Ne.symm Lr)];exact fU)))]at this
           refine Azg w g1 vs H1 (by rw[oY];exact Ao8) o a next Q λv2 w2 g2 H2 hv2 OH=>?_
           rw[oY]at OH;have fR:k≠bs.length:=by omega
           let N:=e0.An.length
           have ki:(((A6 [k,bs.length] e0.An).set bs.length Blk.AK).set k (.row ek .Ai t (xs.set i.toNat x'))).length=N:=by simp[Ay,N]
           have stA:Step [bs.length,k] N w2 g2 w2 (g2.bR bs.length k (TH p [i.toNat])):=r5;have AhM:Step [k,bs.length] N w2 g2 w2 (g2.bR bs.length k (TH p [i.toNat])):=stA.weaken (λq hq=>by simp at hq⊢;exact hq.symm) (AI4 _);have Adb:LZ w2 (g2.bR bs.length k (TH p [i.toNat])) N k (.row ek .Ai t (xs.set i.toNat x')):=by
            refine YO w2 g2 N e1 (λb q hb=>OH.BB b k q hb (by omega) Apv) (λj hj=>OH.AQ j (by omega)) (H2.Ls bs.length _ hn0)
           refine hn v2 w2 (g2.bR bs.length k (TH p [i.toNat])) ?_ ?_ ?_
           ·refine H2.Y7 AhM (λb hb=>by simp[G.bR,H2.BP b hb]) (by rw[ki];exact AI4 _) λj' y QW=>?_;rw[ki];rcases Ry QW with ⟨rfl,rfl⟩|⟨Lr,QW⟩
            ·exact .inr (.inr Adb)
            ·rcases Ry QW with ⟨rfl,rfl⟩|⟨Apz,QW⟩
             ·exact .inl rfl
             ·obtain⟨y',cZ,rfl⟩:=C8 QW;exact .inr (.inl ⟨by simp only[AKo,AK5,or_false,not_or];exact⟨Lr,Apz⟩,y',cZ,rfl⟩)
           ·rw[ki];exact hv2.step AhM (AI4 _)
           ·refine⟨OH.os.trans QP.os,OH.tape.trans QP.tape,OH.output.trans QP.output,OH.size,λb hb h=>?_,λb h=>?_,λb j' q h QW hm=>?_,λj' QW=>?_⟩
            ·have h1:=QP.no b hb h;have h2:=OH.no b hb h1.1;exact⟨by simp[G.bR,h2.1],h2.2⟩
            ·have h1:=QP.Ik b h;have h2:=OH.Ik b h1.1;exact⟨by simp[G.bR,h2.1],h2.2⟩
            ·simp only[AJ2,AJp,not_or]at hm;have h1:=QP.BB b j' q h QW (by simpa using hm.2);have h2:=OH.BB b j' q h1.1 (by omega) hm.1;exact⟨dk h2.1 (by omega),h2.2⟩
            ·show g2.AQ j'=_;rw[OH.AQ j' (by omega),QP.AQ j' QW]
          ·cases h
         ·cases h
        ·cases h
     ·cases h
    ·cases h
   ·cases h
  ·cases h
section
variable {w:World} {g:G} {n:Nat}
def G.Wl(g:G)(Z:AL7 Nat):G:=⟨λb=>match g.own b with |.BB k r=>if k∈Z then .Ik else .BB k r |t=>t,g.AQ⟩
theorem mT{Z:AL7 Nat}{b:Nat}(h:g.own b=.Ik):(g.Wl Z).own b=.Ik:=by simp[G.Wl,h]
theorem PI{Z:AL7 Nat}{b k:Nat}{r:AL7 Nat}(h:g.own b=.BB k r)(hk:k∉Z):(g.Wl Z).own b=.BB k r:=by simp[G.Wl,h,hk]
theorem Al.Sj{Z ks:AL7 Nat}{b:Nat}(h:Al g.own ks b):Al (g.Wl Z).own (ks.filter λk=>!decide (k∈Z)) b:=by
 rcases h with h |⟨k,hk,r,h⟩
 ·exact .inl (mT h)
 ·by_cases hz:k∈Z
  ·exact .inl (by simp[G.Wl,h,hz])
  ·exact .inr ⟨k,by simp[hk,hz],r,PI h hz⟩
theorem Al.Acz{Z ks:AL7 Nat}{b:Nat}(h:Al g.own ks b):Al (g.Wl Z).own ks b:=h.Sj.mono λk hk=>(List.mem_filter.1 hk).1
theorem yQ(a:AV):a.Za.C5=a.C5:=by cases a<;>rfl
theorem kN(a:AV):a.Za.Nc=true\/a.Za.isAgg=a.isAgg:=by cases a<;>first |exact .inl rfl |exact .inr rfl
theorem AdT{a:AV}(h:a.Nc=true):a.Za.Nc=true:=by cases a<;>simp_all [AV.Nc,AV.Za]
theorem Cs.Sj(Z:AL7 Nat):∀(a:AV) (m:Bool) {cs:AL7 Value},Cs w g n m a cs->Cs w (g.Wl Z) n m a.Za cs
 |.Ax ks t x,false,cs,⟨hk,r⟩=>⟨hk,r.mono λb a=>⟨a.Acz,rfl⟩⟩
 |.zs,false,_,h=>h
 |.Am _,false,_,h=>h
 |.mp _,false,_,h=>h
 |.ptr _ _ _ _,false,_,h=>h
 |.EJ ks t x,false,cs,⟨hk,b,off,ds,e,ha,r,hc⟩=>⟨hk,b,off,ds,e,ha.Acz,r.mono λb a=>⟨a.Acz,rfl⟩,hc⟩
 |.LO,false,_,h=>h
 |.Tf _ _ _ _ _,false,_,⟨_,_,_,_,_,_,_,e,h1,_⟩=>by subst e;exact⟨rfl,by intro u hu;simp at hu;subst hu;exact h1⟩
 |.U6 _ _ _ _ _ _,false,_,⟨_,_,_,_,_,_,_,_,_,e,_⟩=>by subst e;exact⟨rfl,by intro u hu;simp at hu;subst hu;rfl⟩
 |.pr a b,false,_,⟨c,e,he,h1,h2⟩=>⟨c,e,he,Cs.Sj Z a false h1,Cs.Sj Z b false h2⟩
 |.fn f c,false,_,⟨vs,e,hx⟩=>⟨vs,e,Cs.Sj Z c true hx⟩
 |.un k,false,_,h=>h
 |.cons a b,true,_,⟨v,r,e,h1,h2⟩=>by
  refine⟨v,r,e,?_,Cs.Sj Z b true h2⟩;rcases kN a with hd |hd
  ·exact .inl hd
  ·exact h1.imp AdT λ⟨cs,hx,hv⟩=>⟨cs,Cs.Sj Z a false hx,by rw[hd];exact hv⟩
 |.nil,true,_,h=>h
 |.cons _ _,false,_,h=>h.elim
 |.nil,false,_,h=>h.elim
 |.Tf _ _ _ _ _,true,_,h=>h.elim
 |.U6 _ _ _ _ _ _,true,_,h=>h.elim
 |.Ax _ _ _,true,_,h=>h.elim
 |.zs,true,_,h=>h.elim
 |.Am _,true,_,h=>h.elim
 |.mp _,true,_,h=>h.elim
 |.ptr _ _ _ _,true,_,h=>h.elim
 |.EJ _ _ _,true,_,h=>h.elim
 |.LO,true,_,h=>h.elim
 |.pr _ _,true,_,h=>h.elim
 |.fn _ _,true,_,h=>h.elim
 |.un _,true,_,h=>h.elim
theorem BS.Sj(Z:AL7 Nat){a:AV}{v:Value}(h:BS w g n a v):BS w (g.Wl Z) n a.Za v:=by
 cases ht:a.C5 with
 |false =>
  rw[BS.iff ht]at h;rw[BS.iff (by rw[yQ];exact ht)];rcases kN a with hd |hd
  ·exact .inl hd
  ·exact h.imp AdT λ⟨cs,h,hv⟩=>⟨cs,Cs.Sj Z a false h,by rw[hd];exact hv⟩
 |true =>
  cases a with
  |cons a b=>obtain⟨vs,e,h⟩:=h;exact⟨vs,e,Cs.Sj Z (.cons a b) true h⟩
  |nil=>exact h
  |_=>cases ht
theorem LZ.Sj{Z:AL7 Nat}{k:Nat}(hk:k∉Z){b:Blk}(h:LZ w g n k b):LZ w (g.Wl Z) n k b.Za:=by
 cases b with
 |AK=>trivial
 |map m kt vt es st =>
  obtain⟨QA,b,Gw,Dk,ha,ho,hh,Rm,hm⟩:=h;refine⟨QA,b,Gw,Dk,ha,PI ho hk,hh,Rm,hm.on λi x c r=>?_⟩;cases m with
  |Ai=>exact Jl.mono (λb q hb=>⟨PI hb hk,rfl⟩) r
  |sh ks=>exact Ha.mono (λb a=>⟨a.Acz,rfl⟩) r
 |QE e t xs i p =>
  obtain⟨h1,h2,h3,h4,h5,u,o,x0,b,Bp,ds,q1,q2,q3,ha,ho,hh,c1,c2,c3,c4,hc⟩:=h;exact⟨h1,h2,h3,h4,h5,u,o,x0,b,Bp,ds,q1,q2,q3,ha,PI ho hk,hh,c1,c2,c3,c4,hc.mono λi x c r=>r.mono λb q hb=>⟨PI hb hk,rfl⟩⟩
 |tail e t xs =>
  obtain⟨hf,hlen,Pu,BH,hr⟩:=h;exact⟨hf,hlen,Pu,BH,hr.imp id λ⟨b,o,Bp,ds,ha,ho,hh,h1,h2,h3,h4,hc⟩=>⟨b,o,Bp,ds,ha,PI ho hk,hh,h1,h2,h3,h4,hc.mono λi x c r=>r.mono λb q hb=>⟨PI hb hk,rfl⟩⟩⟩
 |box a =>
  obtain⟨h1,b,cs,e,ha,ho,hh,hx⟩:=h;exact⟨h1,b,cs,e,ha,PI ho hk,hh,Cs.Sj Z a false hx⟩
 |row e m t xs =>
  obtain⟨QA,hlen,Pu,BH,hr⟩:=h;refine⟨QA,hlen,Pu,BH,hr.imp id λ⟨b,Bp,ds,ha,ho,hh,h1,h2,h3,h4,hc⟩=>⟨b,Bp,ds,ha,PI ho hk,hh,h1,h2,h3,h4,?_⟩⟩;cases m with
  |Ai=>exact hc.mono λi x c r=>r.mono λb q hb=>⟨PI hb hk,rfl⟩
  |sh ks=>exact hc.mono λx c r=>r.mono λb a=>⟨a.Acz,rfl⟩
theorem qq{bs:AL7 Blk}(H:Ba w g bs)(Z:AL7 Nat):Ba w (g.Wl Z) ((Blk.Gl bs Z).map Blk.Za):=by
 refine⟨λb hb=>by simp[G.Wl,H.BP b hb],λk x hx=>?_⟩;rw[AJr]at hx;cases hq:(Blk.Gl bs Z)[k]? with
 |none=>rw[hq]at hx;cases hx
 |some y =>
  rw[hq]at hx;injection hx with hx;subst hx;rw[AJa,A3];rcases Km hq with rfl |⟨hn,h⟩
  ·trivial
  ·exact(H.Ls k y h).Sj hn
theorem Vv:∀a:AV,a.aO=false->a.Za=a
 |.pr a b,h=>by
  simp only[AV.aO,AJY]at h;simp[AV.Za,Vv a h.1,Vv b h.2]
 |.cons a b,h=>by
  simp only[AV.aO,AJY]at h;simp[AV.Za,Vv a h.1,Vv b h.2]
 |.fn f c,h=>by simp[AV.Za,Vv c h]
 |.Ax _ _ _,_=>rfl
 |.zs,_=>rfl
 |.Am _,_=>rfl
 |.mp _,_=>rfl
 |.ptr _ _ _ _,_=>rfl
 |.EJ _ _ _,_=>rfl
 |.LO,_=>rfl
 |.nil,_=>rfl
 |.Tf _ _ _ _ _,h=>by cases h
 |.U6 _ _ _ _ _ _,h=>by cases h
 |.un _,_=>rfl
theorem AcG{b:Blk}(h:b.aO=false):b.Za=b:=by
 cases b with
 |box a=>simp[Blk.Za,Vv a h]
 |_=>rfl
theorem yj{bs:AL7 Blk}(H:Ba w g bs)(hn:bs.all (λb=>!b.aO)=true)(Z:AL7 Nat):Ba w (g.Wl Z) (Blk.Gl bs Z):=by
 have:=qq H Z;rwa [AJQ (g:=id) (λb hb=>?_),List.map_id]at this;obtain⟨j,hj⟩:=List.getElem?_of_mem hb;rcases Km hj with h |⟨_,h⟩
 ·subst h;rfl
 ·have:=List.all_eq_true.1 hn b (AKr h);exact AcG (by simpa using this)
theorem q9:∀(Z:AL7 Nat) (a b:AL7 Blk),(∀k∈Z,a.length<=k)->∃l,Blk.Gl (a++b) Z=a++l
 |[],a,b,_=>⟨b,rfl⟩
 |k::Z,a,b,h=>by
  have hk:=h k (by simp);simp only[Blk.Gl];rw[AKz _ _ hk];exact q9 Z a _ λj hj=>h j (by simp[hj])
end
section
variable {w:World} {g:G} {n:Nat} {v:Value}
end
section
variable {w:World} {g:G} {bs:AL7 Blk} {m:Nat}
theorem AgR{a b:AV}{f:Nat}(h:a.YG f=some b):a.isAgg=true:=by
 cases a with
 |Ax ks t x =>
  cases t<;>first |rfl |(cases f<;>simp[AV.YG,VZ]at h)
 |pr _ _=>rfl
 |_=>cases f<;>simp[AV.YG]at h
theorem tJ(H:Ba w g bs){c:Co}{a a':AV}{nb:AL7 Blk}(h:xY bs c a=some (a',nb)){cs:AL7 Value}(hx:Cs w g bs.length false a cs) :
    ∃g',Ba w g' (bs++nb)/\Cs w g' (bs++nb).length false a' cs/\a'.isAgg=a.isAgg/\Step [] bs.length w g w g':=by
 have stay:∀a':AV,Cs w g bs.length false a' cs->a'.isAgg=a.isAgg->∃g',Ba w g' (bs++[])/\Cs w g' (bs++[]).length false a' cs/\a'.isAgg=a.isAgg/\Step [] bs.length w g w g':=λa' h1 h2=>⟨g,by rw[AJD];exact H,by rw[AJD];exact h1,h2,Step.refl _ _ _ _⟩;cases c with
 |Ax t =>
  simp only[xY]at h;split at h
  ·rename_i x hr;simp only[AI0,AJb]at h;obtain⟨rfl,rfl⟩:=h;have:=P4 H t a x cs hr hx;exact stay _ ⟨this.2,this.1⟩ (YW hr).symm
  ·cases h
 |cN ks =>
  simp only[xY]at h;split at h
  ·rename_i l t x;split at h
   ·rename_i hc;simp only[AI0,AJb]at h;obtain⟨rfl,rfl⟩:=h;rw[AI5,AKe]at hc;have hks:∀k∈ks,k<bs.length:=λk hk=>by have:=List.all_eq_true.1 hc.2 k hk;simpa using this
    refine stay _ ⟨hks,AiW hx.2 λhf b hb=>?_⟩ rfl;rcases hc.1 with h |h
    ·rw[h]at hf;cases hf
    ·exact hb.mono λk hk=>by have:=List.all_eq_true.1 h k hk;simpa using this
   ·cases h
  ·cases h
 |row p e t Ai =>
  simp only[xY]at h;split at h
  ·rename_i hz;split at h
   ·rename_i OI;split at h
    ·rename_i b hb;simp only[AI0,AJb]at h;obtain⟨rfl,rfl⟩:=h;obtain⟨_,BH⟩:=gM OI;obtain⟨c0,c1,c2,e1,ho,⟨ad,M7⟩,_⟩:=Q8 p a cs .zs hx hz
     let g':=g.Ui (λj r=>.BB j r) none bs.length ⟨ad,0,0,t.size⟩
     have st:Step [] bs.length w g w g':=Step.Ui H.BP rfl rfl rfl (AI4 _) (λ_ _ _=>rfl) (λq h=>by cases h) (AI4 _) λ_ _ _ _=>rfl;have Sl:g'.AQ bs.length=⟨ad,0,0,t.size⟩:=by simp[g',G.Ui]
     have qR:=hx.Qx st (AJz bs.length);obtain⟨d0,d1,d2,e2,iU,⟨pz,fM⟩,Fx⟩:=Q8 p a cs .zs qR hz;have hlen:c0.length=d0.length:=by rw[ho]at iU;injection iU
     have ub:ad=pz:=by
      have h1:cs[c0.length]?=some (.slice ad 0 0):=by
       rw[e1,M7,AI6,AJk (AI4 _),AKI];rfl
      have h2:cs[d0.length]?=some (.slice pz 0 0):=by
       rw[e2,fM,AI6,AJk (AI4 _),AKI];rfl
      rw[hlen,h2]at h1;injection h1 with h1;injection h1 with h1;exact h1.symm
     have ZK:=Fx (.Am bs.length) b d1 hb ⟨AJE _,by rw[Sl,fM,ub]⟩;rw[<-e2]at ZK;have QD:(if(t.BA||Ai)=true then RM.Ai else RM.sh []).Cf=[]:=by split<;>rfl
     refine⟨g',H.push st (L5 H.BP (AI4 _) λq h=>by cases h) ⟨(by rw[QD];intro j hj;cases hj),by rw[Sl];rfl,by rw[Sl],BH,.inl ⟨rfl,by rw[Sl]⟩⟩,by rw[AI2];exact ZK,?_,st⟩;cases p with
     |nil =>
      simp only[AV.UU,AI0]at hz;simp only[AV.Y2,AI0]at hb;subst hz;subst hb;rfl
     |cons f p =>
      simp only[AV.UU]at hz;split at hz
      ·rename_i q hq;simp only[AV.Y2,hq]at hb;split at hb
       ·rw[Y1 hb,AgR hq]
       ·cases hb
      ·cases hz
    ·cases h
   ·cases h
  ·simp only[AI0,AJb]at h;obtain⟨rfl,rfl⟩:=h;exact stay _ hx rfl
theorem dt{k:Nat}{c:Co}{bs Gx:AL7 Blk}(h:coB k c bs=some Gx):bs.length<=Gx.length:=by
 unfold coB at h;split at h
 ·split at h
  ·injection h with h;subst h;simp
  ·cases h
 ·cases h
theorem Acb(H:Ba w g bs){k:Nat}{c:Co}{Gx:AL7 Blk}(h:coB k c bs=some Gx):∃g',Ba w g' Gx/\Step [] bs.length w g w g':=by
 unfold coB at h;split at h
 ·rename_i a0 hb;split at h
  ·rename_i a' nb yo;injection h with h;subst h;obtain⟨hlen,bb,cs,e,ha,ho,hh,hx⟩:=H.Ls k _ hb;obtain⟨g',h1,h2,h3,h4⟩:=tJ H yo hx;have hk:=AO hb;have kl:(bs.set k (.box a')++nb).length=(bs++nb).length:=by simp
   refine⟨g',⟨h1.BP,λj x hj=>?_⟩,h4⟩;rw[kl];rw[AJo]at hj;split at hj
   ·rename_i X5;rw[AI7]at X5;rw[AJn]at hj;split at hj
    ·rename_i ek;subst ek;injection hj with hj;subst hj;have hl:=h4.BB bb k [] ho hk (by simp);exact⟨by rw[h4.AQ k hk];exact hlen,bb,cs,e,by rw[h4.AQ k hk];exact ha,hl.1,hh,h2⟩
    ·exact h1.Ls j x (by rw[AJl X5];exact hj)
   ·rename_i X5;rw[AI7]at X5 hj;exact h1.Ls j x (by rw[AJk (by omega)];exact hj)
  ·cases h
 ·cases h
theorem wu:∀{l:AL7 (Nat×Co)} {bs Gx:AL7 Blk} {g:G},mH l bs=some Gx->Ba w g bs->bs.length<=Gx.length/\∃g',Ba w g' Gx/\Step [] bs.length w g w g'
 |[],bs,Gx,g,h,H=>by
  simp only[mH,AI0]at h;subst h;exact⟨AI4 _,g,H,Step.refl _ _ _ _⟩
 |(k,c)::r,bs,Gx,g,h,H=>by
  simp only[mH]at h;split at h
  ·rename_i b1 h1;obtain⟨g1,H1,s1⟩:=Acb H h1;obtain⟨hl,g2,H2,s2⟩:=wu h H1;exact⟨AJs (dt h1) hl,g2,H2,s1.trans s2 (dt h1)⟩
  ·cases h
theorem qj:∀{l:AL7 (Nat×Co)} {bs Gx:AL7 Blk},mH l bs=some Gx->bs.length<=Gx.length
 |[],bs,Gx,h=>by simp only[mH,AI0]at h;subst h;exact AI4 _
 |(k,c)::r,bs,Gx,h=>by
  simp only[mH]at h;split at h
  ·rename_i b1 h1;exact AJs (dt h1) (qj h)
  ·cases h
theorem rD:∀{l:AL7 (Nat×AL7 (AL7 Nat)×Co)} {args:AL7 AV} {bs Gx:AL7 Blk},preB l args bs=some Gx->∃l',mH l' bs=some Gx
 |[],args,bs,Gx,h=>⟨[],h⟩
 |(j,q,c)::r,args,bs,Gx,h=>by
  simp only[preB]at h;split at h
  ·split at h
   ·rename_i k _;split at h
    ·rename_i b1 h1;obtain⟨l',h2⟩:=rD h;exact⟨(k,c)::l',by simp only[mH,h1];exact h2⟩
    ·cases h
   ·cases h
  ·cases h
end
section
variable {P:Program} {σ:St} {o:Oper} {en:Gd} {e:G9}
theorem zg{c:Call}(ho:o.op=.call c)(hc:c.callee=.builtin .cap)(hx:OV σ c.args=[.zs]){t:TypeId}{r:AL7 TypeId}(WG:c.argTypes.toList=t::r){ti:TI}(ht:EC P t ti)(hs:ti.DZ=true):M3 P σ o ⟨.int .i64 0,σ.An,[]⟩:=by
 obtain⟨a0,ha,WC⟩:=AaP hx;refine .Il <| K1 (s:=λρ=>Builtin.cap_ c.argTypes o.type #[ρ a0]) (λρ=>?_) λa w g BJ=>?_
 ·rw[Jq ho hc,ha];simp[builtin]
 ·have Wv:=AJ BJ a0;rw[WC]at Wv;obtain⟨ad,hv⟩:=WR Wv;have h0:c.argTypes[0]?=some t:=by rw[<-AJc,WG];rfl
  exact BX (by rw[hv];simp[Builtin.cap_,h0,underlying,Bs ht hs,goInt])
end
section
variable {P:Program} {σ:St} {o:Oper} {en:Gd} {e:G9}
theorem zm{t:TypeId}{x:Operand}(ho:o.op=.load t x){ti:TI}(ht:EC P t ti)(IR:ti.DZ=true)(h:Y5 σ.An ti (σ.B7 x) some=some e):M3 P σ o e:=by
 unfold Y5 at h;split at h
 ·rename_i k i p f hx;split at h
  ·rename_i el tr xs hb;split at h
   ·rename_i u dG;split at h
    ·rename_i ys x0 hg hs;split at h
     ·rename_i hc;injection h with h;subst h;obtain⟨hti,kn,hu⟩:=hc;refine⟨by simp[Ay],λh=>(by grind),λa w g BJ next Q hn=>?_⟩
      have Wv:=AJ BJ x;rw[hx]at Wv;obtain⟨hk,h0,h1,b,M6,yw⟩:=KL Wv;obtain⟨ad,c,C9⟩:=yP BJ.heap hb h1 hg hs kn M6;obtain⟨g1,H1,QP,yn,_,AFo⟩:=XG BJ.heap hb h1 hg kn hu M6 C9 hs;have DT:(execOp a.eval o).run P w=.ok (.value (.slice ad ys.length c)) w:=by
       have hl:=RY (P:=P) (w:=w) ht (b:=b) (off:=i.toNat*(g.AQ k).jZ+f) (cs:=[.slice ad ys.length c]) (by rw[hti];rfl) (λj v hv=>by
        grind) (λ_=>rfl)
       obtain⟨v,hv,o5⟩:=hl;rw[hti]at o5;have:[Value.slice ad ys.length c]=[v]:=o5;injection this with h2 _;subst h2;simp[execOp,ho,yw,Instr.loadAt,Instr.sureAddr,hv]
      unfold Oper.wp;rw[DT];have Tz:((A6 [k] σ.An).set k (Blk.QE el tr xs i p)++[Blk.row 0 .Ai u ys]).length=σ.An.length+1:=by simp[Ay]
      refine hn _ w g1 ⟨H1.BP,λj y hj=>?_⟩ (by grind) QP;rw[Tz];have oY:((A6 [k] σ.An).set k Blk.AK++[Blk.row 0 .Ai u ys]).length=σ.An.length+1:=by grind
      by_cases cP:j=k
      ·grind
      ·have:=H1.Ls j y (by
         grind)
       rwa [oY]at this
     ·grind
    ·grind
   ·grind
  ·grind
 ·grind
structure ix (P:Program) (Yg:TypeId) (kt:Ty):Prop where
 check:∀(w:World) (em:Bool) (x:kt.V),(Instr.checkKey em 10000 Yg (EO kt x)).run P w=.ok () w
 find:∀(w:World) (x:kt.V) (ks:List kt.V) (ms:List MapEntry),ms.map (·.key)=ks.map (EO kt) ->
  (∀j:Nat,(∀i,i<j->∀y,ks[i]?=some y->A7 kt x y=false)->(∀y,ks[j]?=some y->A7 kt x y=true)->(Instr.findKey Yg (EO kt x) ms).run P w=.ok (if h:j<ms.length then some (j,ms[j].val)else none) w)
 stays:∀(w:World) (x:kt.V),(Instr.keyThatStays (EO kt x) (EO kt x)).run P w=.ok (EO kt x) w
 eq:∀x y:kt.V,A7 kt x y=true->x=y
theorem Y6{s t:ByteArray}:Jj s t=true↔s=t:=by
 unfold Jj;rw[ByteArray.toList_eq,ByteArray.toList_eq,AJ5];constructor
 ·intro h;cases s with
  |mk a=>cases t with
   |mk b=>simp at h;rw[h]
 ·grind
theorem Air{s t:ByteArray}:(s==t)=true↔s=t:=by
 constructor
 ·intro h;have:(s.data==t.data)=true:=h;cases s;simp at this;rw[this]
 ·rintro rfl
  show(s.data==s.data)=true;simp
theorem r7{s t:ByteArray}:Jj s t=(s==t):=by rw[Bool.eq_iff_iff,Y6,Air]
theorem fB{kt:Ty}{d:TypeDesc}(hs:∀x y:kt.V,Instr.sameNow d (EO kt x) (EO kt y)=some (A7 kt x y)){x:kt.V}:∀(ks:AL7 kt.V) (ms:AL7 MapEntry) (n j:Nat),ms.map (·.key)=ks.map (EO kt) ->
    (∀i,i<j->∀y,ks[i]?=some y->A7 kt x y=false)->(∀y,ks[j]?=some y->A7 kt x y=true)->Instr.findNow d (EO kt x) ms n=some (if h:j<ms.length then some (n+j,ms[j].val)else none)
 |[],ms,n,j,hm,_,_=>by
  have :=by simpa using hm
  subst this;rfl
 |k::ks,m::ms,n,0,hm,_,h1=>by
  simp only[AJI,AKw]at hm;simp[Instr.findNow,hm.1,hs,h1 k rfl]
 |k::ks,m::ms,n,j+1,hm,h0,h1=>by
  simp only[AJI,AKw]at hm;have ih:=fB hs ks ms (n+1) j hm.2 (λi hi y hy=>h0 (i+1) (by omega) y (by grind)) (λy hy=>h1 y (by grind));simp only[Instr.findNow,hm.1,hs,h0 0 (by omega) k rfl]
  grind
 |k::ks,[],n,j,hm,_,_=>by grind
theorem ix.plain{Yg:TypeId}{kt:Ty}{d:TypeDesc}(hu:P.underlying Yg=some d)(hs:∀x y:kt.V,Instr.sameNow d (EO kt x) (EO kt y)=some (A7 kt x y))(hc:∀(w:World) (em:Bool) (x:kt.V),(Instr.checkKey em 10000 Yg (EO kt x)).run P w=.ok () w)
    (BJ:∀(w:World) (x:kt.V),(Instr.keyThatStays (EO kt x) (EO kt x)).run P w=.ok (EO kt x) w) (heq:∀x y:kt.V,A7 kt x y=true->x=y):ix P Yg kt where
 check:=hc
 find w x ks ms hm j h0 h1:=by
  have:=fB hs  ks ms 0 j hm h0 h1;simp[Instr.findKey,underlying,hu,this]
 stays:=BJ
 eq:=heq
theorem Aho{Yg:TypeId}{q q':IntKind}(hu:P.underlying Yg=some (.int q')):ix P Yg (.int q) :=
 .plain hu (λx y=>by simp[EO,Instr.sameNow,A7]) (λw em x=>by
     rw[Instr.checkKey];simp[underlying,hu]) (λw x=>by
     have:Instr.sameBits 10000 (.int q x) (.int q x)=true:=by simp[Instr.sameBits]
     simp[Instr.keyThatStays,EO,this]) λx y h=>by simpa [A7]using h
theorem Ahp{Yg:TypeId}(hu:P.underlying Yg=some .string):ix P Yg .str :=
 .plain hu (λx y=>by simp[EO,Instr.sameNow,A7,r7]) (λw em x=>by
     rw[Instr.checkKey];simp[underlying,hu]) (λw x=>by
     have:Instr.sameBits 10000 (.string x) (.string x)=true:=by exact Air.2 rfl
     simp[Instr.keyThatStays,EO,this]) λx y h=>Y6.1 (by simpa [A7]using h)
theorem ZT{e2:TypeId}{te:TI}(DY:EC P e2 te){q:IntKind}(hq:te.ty=.int q){w:World}{cs:Array Value}{i:Nat}{v:Value}(h:cs[i]?=some v):(part e2 cs i).run P w=.ok v w:=by
 have ha:=Zk (w:=w) DY;rw[hq]at ha;simp[part,ha,Ty.isAgg,h]
theorem bX{e2:TypeId}{q q':IntKind}(hu:P.underlying e2=some (.int q'))(d:Nat)(w:World)(a b:Int):(Op.equalIn (d+1) e2 (.int q a) (.int q b)).run P w=.ok (a==b) w:=by
 simp[Op.equalIn,underlying,hu]
theorem jY{Yg e2:TypeId}(hu:P.underlying Yg=some (.array 2 e2)){te:TI}(DY:EC P e2 te){q:IntKind}(hq:te.ty=.int q)(w:World)(a b c d:Int) :
    (Op.equal Yg (.agg #[.int q a,.int q b]) (.agg #[.int q c,.int q d])).run P w=.ok (a==c&&b==d) w:=by
 have hs:=Du (w:=w) DY;rw[hq]at hs;have hi:=Tl DY hq;have p0:∀x y ,(part e2 #[.int q x,.int q y] 0).run P w=.ok _ w:=λx y=>ZT DY hq rfl;have p1:∀x y ,(part e2 #[.int q x,.int q y] 1).run P w=.ok _ w:=λx y=>ZT DY hq rfl;have eq:=λx y=>bX  (q:=q) hi 9998 w x y;unfold Op.equal Op.maxDepth;rw[Op.equalIn];simp only[Sem.run_bind,run_underlying hu,Result.andThen_ok,hs];simp only[Std.Legacy.Range.forIn_eq_forIn_range',Std.Legacy.Range.size,List.range'_succ,List.forIn_nil];by_cases h1:a=c<;>by_cases h2:b=d<;>simp[p0,p1,eq,h1,h2,Ty.size]
theorem Ya{Yg e2:TypeId}(hu:P.underlying Yg=some (.array 2 e2)){te:TI}(DY:EC P e2 te){q:IntKind}(hq:te.ty=.int q)(w:World){x:(Ty.Au (.int q) (.Au (.int q) .unit)).V} :
    ∀(ks:AL7 (Ty.Au (.int q) (.Au (.int q) .unit)).V) (ms:AL7 MapEntry) (n j:Nat),ms.map (·.key)=ks.map (EO (.Au (.int q) (.Au (.int q) .unit))) ->
    (∀i,i<j->∀y,ks[i]?=some y->A7 (.Au (.int q) (.Au (.int q) .unit)) x y=false)->(∀y,ks[j]?=some y->A7 (.Au (.int q) (.Au (.int q) .unit)) x y=true) ->
    (Instr.findAsking Yg (EO (.Au (.int q) (.Au (.int q) .unit)) x) ms n).run P w=.ok (if h:j<ms.length then some (n+j,ms[j].val)else none) w
 |[],ms,n,j,hm,_,_=>by
  have :=by simpa using hm
  subst this;simp[Instr.findAsking]
 |k::ks,m::ms,n,0,hm,_,h1=>by
  simp only[AJI,AKw]at hm;have:=h1 k rfl;simp only[A7,Bool.and_true]at this;simp[Instr.findAsking,hm.1,EO,jY hu DY hq,this]
 |k::ks,m::ms,n,j+1,hm,h0,h1=>by
  simp only[AJI,AKw]at hm;have ih:=Ya hu DY hq w ks ms (n+1) j hm.2 (λi hi y hy=>h0 (i+1) (by omega) y (by grind)) (λy hy=>h1 y (by grind));have:=h0 0 (by omega) k rfl;simp only[A7,Bool.and_true]at this;simp only[Instr.findAsking,hm.1,Sem.run_bind];rw[show(Op.equal Yg _ _).run P w=.ok false w by simp[EO,jY hu DY hq,this]];simp
  grind
 |k::ks,[],n,j,hm,_,_=>by grind
theorem Ahn{Yg e2:TypeId}(hu:P.underlying Yg=some (.array 2 e2)){te:TI}(DY:EC P e2 te){q:IntKind}(hq:te.ty=.int q):ix P Yg (.Au (.int q) (.Au (.int q) .unit)) where
 check w em x:=by
  have hs:=Du (w:=w) DY;rw[hq]at hs;have hi:=Tl DY hq;have p0:(part e2 #[.int q x.1,.int q x.2.1] 0).run P w=.ok _ w:=ZT DY hq rfl;have p1:(part e2 #[.int q x.1,.int q _] 1).run P w=.ok (.int q x.2.1) w:=ZT DY hq rfl;have hc:∀y,(Instr.checkKey em 9999 e2 (.int q y)).run P w=.ok () w:=λy=>by
   rw[Instr.checkKey];simp[underlying,hi]
  rw[Instr.checkKey];simp only[Sem.run_bind,run_underlying hu,Result.andThen_ok,EO];simp only[Std.Legacy.Range.forIn_eq_forIn_range',Std.Legacy.Range.size,List.range'_succ,List.forIn_nil];simp[hs,p0,p1,hc,Ty.size]
 find w x ks ms hm j h0 h1:=by
  have hf:=Ya hu DY hq w  ks ms 0 j hm h0 h1;simp only[Instr.findKey,run_underlying hu];cases ms with
  |nil=>simp[underlying,hu,Instr.findNow]
  |cons m ms =>
   cases ks with
   |nil=>grind
   |cons k ks =>
    have:Instr.findNow (.array 2 e2) (EO _ x) (m::ms) 0=none:=by simp[Instr.findNow,Instr.sameNow]
    simp[underlying,hu,this,hf]
 stays w x:=by
  have:Instr.sameBits 10000 (.agg #[.int q x.1,.int q x.2.1]) (.agg #[.int q x.1,.int q x.2.1])=true:=by
   simp[Instr.sameBits]
  simp[Instr.keyThatStays,EO,this]
 eq x y h:=by
  simp only[A7,Bool.and_true]at h
  grind
theorem ix.of{Dm:vA}{Yg:TypeId}{tk:TI}(ht:cF P Dm=true)(hk:EC P Yg tk)(h:tk.ty.D4=true)(hh:YR Dm tk=true):ix P Yg tk.ty:=by
 unfold YR at hh;split at hh
 ·simp only[AI5,AJ5]at hh;obtain⟨iN,hh⟩:=hh;split at hh
  ·rename_i te DY;simp only[AI5,AJ5]at hh;have hu:=hk.Gw (by omega);rw[iN]at hu;rw[hh.2];exact Ahn hu (EC.of ht DY) hh.1
  ·grind
 ·cases hq:tk.ty with
  |int q=>exact Aho (Tl hk hq)
  |str=>exact Ahp (Rk hk hq)
  |Au a b =>
   rename_i X6;rw[hq]at h;cases a with
   |int q=>grind
   |_=>simp[Ty.D4]at h
  |_=>rw[hq]at h;simp[Ty.D4]at h
theorem Ahl{w:World}{A:Nat->Prop}:∀{kt:Ty} {x:kt.V} {cs:AL7 Value} {v:Value},kt.D4=true->Ha w A kt x cs->BK kt.isAgg cs v->v=EO kt x
 |.int k,x,cs,v,_,h,hv=>by
  subst h;simpa [EO]using hv.symm
 |.str,x,cs,v,_,h,hv=>by
  subst h;simpa [EO]using hv.symm
 |.Au a b,x,cs,v,hk,h,hv=>by
  cases a with
  |int q=>cases b with
   |Au b c=>cases b with
    |int q'=>cases c with
     |unit =>
      obtain⟨c1,d1,rfl,h1,c2,d2,rfl,h2,h3⟩:=h;subst h1;subst h2;subst h3;simpa [BK,Ty.isAgg,EO]using hv
     |_=>simp[Ty.D4]at hk
    |_=>simp[Ty.D4]at hk
   |_=>simp[Ty.D4]at hk
  |_=>simp[Ty.D4]at hk
 |.bool,_,_,_,hk,_,_=>by simp[Ty.D4]at hk
 |.unit,_,_,_,hk,_,_=>by simp[Ty.D4]at hk
 |.sl _,_,_,_,hk,_,_=>by simp[Ty.D4]at hk
 |.QG _,_,_,_,hk,_,_=>by simp[Ty.D4]at hk
theorem gb{w:World}{g:G}{bs:AL7 Blk}(H:Ba w g bs){kt:Ty}{a:AV}{key:kt.V}{v:Value}(hk:kt.D4=true)(h:rd bs kt a=some key)(hv:BS w g bs.length a v):v=EO kt key:=by
 obtain⟨h1,h2⟩:=U7 h;obtain⟨cs,SV,hv⟩:=BQ h1 h2 hv;rw[YW h]at hv;exact Ahl hk (P4 H kt a key cs h SV).1 hv
theorem V4:∀{kt:Ty},kt.D4=true->∀{x:kt.V},A7 kt x x=true
 |.int _,_,x=>by simp[A7]
 |.str,_,x=>Y6.2 rfl
 |.Au a b,hk,x=>by
  cases a with
  |int q=>cases b with
   |Au b c=>cases b with
    |int q'=>cases c with
     |unit=>simp[A7]
     |_=>simp[Ty.D4]at hk
    |_=>simp[Ty.D4]at hk
   |_=>simp[Ty.D4]at hk
  |_=>simp[Ty.D4]at hk
 |.bool,hk,_=>by simp[Ty.D4]at hk
 |.unit,hk,_=>by simp[Ty.D4]at hk
 |.sl _,hk,_=>by simp[Ty.D4]at hk
 |.QG _,hk,_=>by simp[Ty.D4]at hk
theorem kG{kt vt:Ty}(k:kt.V):∀(es:AL7 (kt.V×vt.V)),(∃(j:Nat) (x:kt.V×vt.V),es[j]?=some x/\A7 kt k x.1=true/\(∀i,i<j->∀y,es[i]?=some y->A7 kt k y.1=false)/\NI kt vt es k=some x.2/\∀v,BV kt vt es k v=es.set j (k,v)) \/
    ((∀(i:Nat) y,es[i]?=some y->A7 kt k y.1=false)/\NI kt vt es k=none/\∀v,BV kt vt es k v=es++[(k,v)])
 |[]=>.inr ⟨λi y h=>by grind,rfl,λ_=>rfl⟩
 |x::r=>by
  cases hk:A7 kt k x.1 with
  |true=>exact .inl ⟨0,x,rfl,hk,λi hi=>by omega,by simp[NI,hk],λv=>by simp[BV,hk]⟩
  |false =>
   rcases kG k r with ⟨j,y,h1,h2,h3,h4,h5⟩|⟨h1,h2,h3⟩
   ·refine .inl ⟨j+1,y,by grind,h2,λi hi z hz=>?_,by simp[NI,hk,h4],λv=>by simp[BV,hk,h5]⟩
    grind
   ·refine .inr ⟨λi z hz=>?_,by simp[NI,hk,h2],λv=>by simp[BV,hk,h3]⟩
    grind
section
variable {w:World} {own:Nat->Tq} {k:Nat} {md:RM} {kt vt:Ty} {st:AL8 kt.V}
theorem Vh.Ahm:∀{i:Nat} {es:AL7 (kt.V×vt.V)} {ms:AL7 MapEntry},Vh w own k md kt vt st i es ms->ms.map (·.key)=(es.map (·.1)).map (EO kt)
 |_,[],_,h=>by cases h;rfl
 |_,x::xs,_,⟨m,r,e,h1,_,h3⟩=>by subst e;simp[h1.1,Vh.Ahm h3]
theorem Vh.len{i:Nat}{es:AL7 (kt.V×vt.V)}{ms:AL7 MapEntry}(h:Vh w own k md kt vt st i es ms):ms.length=es.length:=by
 have:=congrArg List.length h.Ahm;simpa using this
theorem Vh.get:∀{i:Nat} {es:AL7 (kt.V×vt.V)} {ms:AL7 MapEntry} {j:Nat} {x:kt.V×vt.V},Vh w own k md kt vt st i es ms->es[j]?=some x ->
    ∃m,ms[j]?=some m/\(m.key=EO kt x.1/\m.born=i+j)/\(st=some x.1\/∃cs,S6 w own k md vt (i+j) x.2 cs/\BK vt.isAgg cs m.val)
 |i,x::xs,_,0,y,⟨m,r,e,h1,h2,h3⟩,hj=>by
  grind
 |i,x::xs,_,j+1,y,⟨m,r,e,h1,h2,h3⟩,hj=>by
  subst e;obtain⟨m',h4,h5,h6⟩:=h3.get (j:=j) (by simpa using hj)
  grind
 |_,[],_,_,_,_,hj=>by grind
theorem Vh.mk:∀{i:Nat} {es:AL7 (kt.V×vt.V)} {ms:AL7 MapEntry},ms.length=es.length->(∀(j:Nat) (x:kt.V×vt.V) (m:MapEntry),es[j]?=some x->ms[j]?=some m->(m.key=EO kt x.1/\m.born=i+j)/\(st=some x.1\/∃cs,S6 w own k md vt (i+j) x.2 cs/\BK vt.isAgg cs m.val))->Vh w own k md kt vt st i es ms
 |_,[],ms,hl,_=>by
  cases ms with
  |nil=>rfl
  |cons _ _=>grind
 |i,x::xs,[],hl,_=>by grind
 |i,x::xs,m::ms,hl,h=>by
  obtain⟨h1,h2⟩:=h 0 x m rfl rfl;refine⟨m,ms,rfl,h1,h2,Vh.mk (by grind) λj y m' hy hm=>?_⟩;have:=h (j+1) y m' (by grind) (by grind)
  grind
end
theorem sw{t:Nat}{ti:TI}(h:EC P t ti)(w:World):∃z,(zeroValue t).run P w=.ok z w/\BK ti.ty.isAgg (Qz ti.ty) z:=by
 obtain⟨i,z,hi,_,_,hz,ko,ha⟩:=h.info;refine⟨z,by simp[zeroValue,typeInfo,hi,hz],?_⟩;cases hg:ti.ty.isAgg with
 |true =>
  obtain⟨c,rfl⟩:=ha.2 hg;have:c.toList=Qz _:=ko;simp[BK,<-this]
 |false =>
  have hn:∀c,z≠.agg c:=λc e=>by grind
  have:z.cells=#[z]:=by cases z<;>first |rfl |grind
  rw[this]at ko;simp[BK,<-ko]
theorem ZG{w:World}{g:G}{k:Nat}{md:RM}{kt vt:Ty}{st:AL8 kt.V}{Yg:TypeId}(K:ix P Yg kt){es:AL7 (kt.V×vt.V)}{Gw:Array MapEntry}(hm:Vh w g.own k md kt vt st 0 es Gw.toList)(key:kt.V) :
    (∃(j:Nat) (x:kt.V×vt.V) (m:MapEntry),es[j]?=some x/\x.1=key/\Gw[j]?=some m/\(∀i,i<j->∀y,es[i]?=some y->A7 kt key y.1=false)/\NI kt vt es key=some x.2/\(∀v,BV kt vt es key v=es.set j (key,v))/\(st=some x.1\/∃cs,S6 w g.own k md vt j x.2 cs/\BK vt.isAgg cs m.val)/\(m.key=EO kt key/\m.born=j) /\
     (Instr.findKey Yg (EO kt key) Gw.toList).run P w=.ok (some (j,m.val)) w) \/
    ((∀(i:Nat) y,es[i]?=some y->A7 kt key y.1=false)/\NI kt vt es key=none/\(∀v,BV kt vt es key v=es++[(key,v)])/\(Instr.findKey Yg (EO kt key) Gw.toList).run P w=.ok none w):=by
 rcases kG key es with ⟨j,x,h1,h2,h3,h4,h5⟩|⟨h1,h2,h3⟩
 ·obtain⟨m,h6,⟨h7,h7b⟩,h8⟩:=hm.get h1;have X5:j<Gw.toList.length:=AO h6;have hf:=K.find w key (es.map (·.1)) Gw.toList hm.Ahm j (λi hi y hy=>by
   grind) (λy hy=>by
   grind)
  have hmv:Gw.toList[j]=m:=by
   grind
  rw[dif_pos X5,hmv]at hf;have e:=(K.eq _ _ h2).symm
  grind
 ·have hf:=K.find w key (es.map (·.1)) Gw.toList hm.Ahm es.length (λi hi y hy=>by
    grind) (λy hy=>by
    grind)
  rw[dif_neg (by rw[hm.len];omega)]at hf;exact .inr ⟨h1,h2,h3,hf⟩
theorem eD{w:World}{g:G}{n k:Nat}{v:Value}(h:BS w g n (.mp k) v):k<n/\∃b,(g.AQ k).a=some ⟨b,0,none⟩/\v=.map (some b):=by
 obtain⟨cs,⟨hk,b,hb,e⟩,hv⟩:=BQ rfl rfl h;subst e;exact⟨hk,b,hb,by simpa [AV.isAgg]using hv.symm⟩
theorem rQ{t:TypeId}(ho:o.op=.makeMap t none){m:RM}{kt vt:Ty}(hm:m.Cf=[]):M3 P σ o ⟨.mp σ.An.length,σ.An++[.map m kt vt [] none],[]⟩:=by
 refine⟨by simp,λ_=>⟨_,rfl⟩,λa w g hs next Q hn=>?_⟩
 have hr:(execOp a.eval o).run P w=.ok (.value (.map (some w.heap.size))) (w.alloc (.map #[] 0)):=by
  simp[execOp,ho,Instr.makeMap]
 unfold Oper.wp;rw[hr];have st:=Step.add hs.heap (.map #[] 0) ⟨some ⟨w.heap.size,0,none⟩,0,0,0⟩;refine hn _ _ _ (hs.heap.new ?_) ?_ st
 ·exact⟨(by grind),w.heap.size,#[],0,by simp[G.add],by simp[G.add],heap_alloc_new w _,by simp,rfl⟩
 ·exact Bl  rfl ⟨by simp,w.heap.size,by simp[G.add],rfl⟩ (by simp[BK,AV.isAgg])
theorem rf{w:World}{g:G}{k b:Nat}{md:RM}{kt vt:Ty}{st:AL8 kt.V}{t Yg el:TypeId}{te:TI}(ht:P.underlying t=some (.map Yg el))(DY:EC P el te)(hvt:vt=te.ty)(hd:te.ty.data=true)(K:ix P Yg kt){es:AL7 (kt.V×vt.V)}{Gw:Array MapEntry}{Dk:Nat}(hb:w.heap[b]?=some (.map Gw Dk))
    (hm:Vh w g.own k md kt vt st 0 es Gw.toList) (key:kt.V) (ok:Bool):∃v,(Instr.lookup t (.map (some b)) (EO kt key) ok).run P w=.ok (if ok then .tuple #[v,.bool (SA kt vt es key)]else v) w /\
     ((∃(j:Nat) (x:kt.V×vt.V) (m:MapEntry),es[j]?=some x/\x.1=key/\Gw[j]?=some m/\m.val=v/\Bg kt vt es key=x.2/\(st=some x.1\/∃cs,S6 w g.own k md vt j x.2 cs/\BK vt.isAgg cs v))\/(Bg kt vt es key=vt.zero/\BK vt.isAgg (Qz vt) v)):=by
 subst hvt;rcases ZG K hm key with ⟨j,x,m,h1,h2,h3,_,h4,_,h5,_,hf⟩|⟨_,h2,_,hf⟩
 ·refine⟨m.val,?_,.inl ⟨j,x,m,h1,h2,h3,rfl,by simp[Bg,h4],h5⟩⟩;cases ok<;>simp[Instr.lookup,underlying,ht,MapKept.run_getObj_map hb,K.check,hf,SA,h4]
 ·obtain⟨z,hz,hzv⟩:=sw DY w;refine⟨z,?_,.inr ⟨by simp[Bg,h2],hzv⟩⟩;cases ok<;>simp[Instr.lookup,underlying,ht,MapKept.run_getObj_map hb,K.check,hf,hz,SA,h2]
theorem Aez{t:TypeId}{m x:Operand}{ok:Bool}(ho:o.op=.lookup t m x ok){ti tk te:TI}(ht:EC P t ti)(km:ti.NK≠0)(DY:EC P ti.elem te)(hd:te.ty.data=true)(K:tk.ty.D4=true->ix P ti.NK tk.ty){z:AV}
    (h:cm σ.An tk te ok (σ.B7 m) (σ.B7 x) some=some z):M3 P σ o ⟨z,σ.An,[]⟩ :=
 .Il <| K1 (s:=λρ=>Instr.lookup t (ρ m) (ρ x) ok) (λρ=>by simp[execOp,ho]) λa w g BJ=>by
  unfold cm at h;split at h
  ·rename_i k hm;split at h
   ·rename_i md kt vt es hb;split at h
    ·rename_i key hx;split at h
     ·rename_i hc;obtain⟨hkt,hvt,Vf⟩:=hc;subst hkt;subst hvt;have yv:=AJ BJ m;rw[hm]at yv;obtain⟨hk,b,M6,zJ⟩:=eD yv;obtain⟨QA,b',Gw,Dk,ha,Ce,hh,Rm,fS⟩:=BJ.heap.Ls k _ hb;rw[M6]at ha;injection ha with ha;injection ha with ha;subst ha;have mY:=gb BJ.heap Vf hx (AJ BJ x);obtain⟨v,hr,W8⟩:=rf (ht.mp km) DY rfl hd (K Vf) hh fS key ok;have hv:BS w g σ.An.length (.Ax (YT (md.own k) te.ty) te.ty (Bg tk.ty te.ty es key)) v:=by
       have fW:∃cs,Ha w (Al g.own (md.own k)) te.ty (Bg tk.ty te.ty es key) cs/\BK te.ty.isAgg cs v:=by
        rcases W8 with ⟨j,y,mm,h1,h2,h3,h4,h5,h6⟩|⟨h1,h2⟩
        ·rw[h5];rcases h6 with h6 |⟨cs,h6,h7⟩
         ·grind
         ·refine⟨cs,?_,h7⟩;cases md with
          |Ai=>exact Jl.rd (λb q hb=>.mem (AJt) hb) h6
          |sh ks=>exact h6
        ·rw[h1];exact⟨_,Ha.zero hd,h2⟩
       obtain⟨cs,h1,h2⟩:=fW;refine Bl rfl (cs:=cs) ⟨λj hj=>?_,?_⟩ h2
       ·unfold YT at hj;split at hj
        ·grind
        ·cases md with
         |Ai=>simp[RM.own]at hj;subst hj;exact hk
         |sh ks=>exact QA j hj
       ·unfold YT;split
        ·rename_i hf;exact(Ha.BA hf).2 ((Ha.BA hf).1 h1)
        ·grind
      cases ok with
      |false =>
       simp only[AJd,AI0]at h;subst h;exact⟨v,by grind,hv⟩
      |true =>
       simp only[AJe,AI0]at h;subst h;refine⟨_,by grind,[v,.bool (SA tk.ty te.ty es key)],rfl,v,_,rfl,(BS.iff rfl).1 hv,.bool (SA tk.ty te.ty es key),[],rfl,?_,rfl⟩;exact(BS.iff rfl).1 (ZP _)
     ·grind
    ·grind
   ·grind
  ·grind
theorem zk{t:TypeId}{m x:Operand}(ho:o.op=.lookup t m x false){ti tk te:TI}(ht:EC P t ti)(km:ti.NK≠0)(DY:EC P ti.elem te)(hd:te.ty.data=true)(K:tk.ty.D4=true->ix P ti.NK tk.ty)
    (h:kC σ.An tk te (σ.B7 m) (σ.B7 x) some=some e):M3 P σ o e:=by
 unfold kC at h;split at h
 ·rename_i k hm;split at h
  ·rename_i kt u es hb;split at h
   ·rename_i key hx;split at h
    ·rename_i hc;injection h with h;subst h;obtain⟨hkt,hvt,Vf,hu⟩:=hc;subst hkt;refine⟨by simp[Ay],λh=>(by cases h),λa w g BJ next Q hn=>?_⟩
     have H:=BJ.heap;have yv:=AJ BJ m;rw[hm]at yv;obtain⟨hk,b,M6,zJ⟩:=eD yv;obtain⟨QA,b',Gw,Dk,ha,Ce,hh,Rm,fS⟩:=H.Ls k _ hb;rw[M6]at ha;injection ha with ha;injection ha with ha;subst ha;have mY:=gb H Vf hx (AJ BJ x);obtain⟨v,hr,W8⟩:=rf (ht.mp km) DY hvt hd (K Vf) hh fS key false;have DT:(execOp a.eval o).run P w=.ok (.value v) w:=by
      simp only[AJN,AKv]at hr;simp[execOp,ho,zJ,mY,hr]
     unfold Oper.wp;rw[DT];obtain ⟨J,ad,cap,hv,OI,Uu⟩:∃(J:Nat) (ad:AL8 Addr) (cap:Nat),v=.slice ad (Bg tk.ty (.sl u) es key).length cap/\Jl w g.own k (.sl u) [J] (Bg tk.ty (.sl u) es key) [.slice ad (Bg tk.ty (.sl u) es key).length cap] /\
         ∀(i:Nat) (y:tk.ty.V×(Ty.sl u).V),es[i]?=some y->y.1=key\/i≠J:=by
      rcases W8 with ⟨j,y,mm,h1,h2,h3,h4,h5,h6⟩|⟨h1,h2⟩
      ·rcases h6 with h6 |⟨cs,h6,h7⟩
       ·cases h6
       ·have h6':Jl w g.own k (.sl u) [j] y.2 cs:=h6;obtain⟨ad,cap,e1,h8⟩:=h6;subst e1;have hv:[Value.slice ad y.2.length cap]=[v]:=h7;injection hv with hv _;refine⟨j,ad,cap,by rw[h5];exact hv.symm,by rw[h5];exact h6',λi z hz=>?_⟩;by_cases hi:i=j
        ·subst hi;rw[h1]at hz;injection hz with hz;subst hz;exact .inl h2
        ·exact .inr hi
      ·have hv:[Value.slice none 0 0]=[v]:=h2;injection hv with hv _;refine⟨es.length,none,0,by rw[h1];exact hv.symm,by rw[h1];exact⟨none,0,rfl,.inl ⟨rfl,rfl⟩⟩,λi z hz=>.inr ?_⟩;have:=AO hz;omega
     let ys:=Bg tk.ty (.sl u) es key
     let i1:BI:=⟨ad,ys.length,cap,u.size⟩
     let n:=σ.An.length
     let g1:=g.fq n k [J] i1
     have st:Step [k] n w g w g1:=gX;have Sl:g1.AQ n=i1:=by simp[g1,G.fq]
     have fR:k≠n:=by simp only[n];omega
     have kj:((A6 [k] σ.An).set k (Blk.map .Ai tk.ty (.sl u) es (some key))++[Blk.row 0 .Ai u ys]).length=n+1:=by simp[Ay,n]
     refine hn v w g1 ?_ ?_ st
     ·refine H.Y7 st (λb hb=>by simp[g1,G.fq,H.BP b hb]) (by rw[kj];exact AJz _) λj y hj=>?_;rw[AJo]at hj;split at hj
      ·rcases Ry hj with ⟨cP,rfl⟩|⟨Lr,hj⟩
       ·rw[cP];have QV:g1.AQ k=g.AQ k:=by simp[g1,G.fq,fR]
        refine .inr (.inr ⟨λj hj=>(by cases hj),b,Gw,Dk,by rw[QV];exact M6,VU Ce (λhc=>by have:=hc.2;simp at this),hh,Rm,Vh.mk fS.len λi z mm hz hmz=>?_⟩);obtain⟨m',h1,h2,h3⟩:=fS.get hz;rw[hmz]at h1;injection h1 with h1;subst h1;refine⟨h2,?_⟩;rcases Uu i z hz with h |h
        ·exact .inl (by rw[h])
        ·rcases h3 with h3 |⟨cs,h3,h4⟩
         ·cases h3
         ·refine .inr ⟨cs,?_,h4⟩;rw[AJu]at h3⊢;exact Jl.mono (λb q hb=>⟨VU hb λhc=>by
           obtain⟨s,hs⟩:=hc.2;have:=List.append_inj_right' hs rfl;simp at this;exact h this.symm,rfl⟩) h3
       ·obtain⟨y,hy,rfl⟩:=C8 hj;exact .inr (.inl ⟨by simpa using Lr,y,hy,rfl⟩)
      ·rename_i ae;simp only[AI7,Ay]at hj ae;have kg:j-σ.An.length=0:=by
        rcases AJm (j-σ.An.length)with h |h
        ·exact h
        ·rw[AJC (by simp;omega)]at hj;cases hj
       rw[kg]at hj;obtain rfl:j=n:=by simp only[n];omega
       simp only[List.getElem?_cons_zero,AI0]at hj;subst hj;refine .inr (.inr ⟨λj hj=>(by cases hj),by rw[Sl],by rw[Sl],AKL hu,?_⟩);rw[Sl];obtain⟨pz,RH,e3,OI⟩:=OI;injection e3 with e3 _;injection e3 with e3 _ e4;subst e3;subst e4;refine OI.imp id λ⟨b,el,Bp,ds,q1,q2,q3,q4,q5,q6,q7,q8⟩=>⟨b,Bp,ds,q1,XF (q:=[]) (by simpa using q2),⟨el,.inl rfl,q3⟩,q4,q5,q6,q7,?_⟩;exact q8.mono λi x c r=>r.mono λb q hb=>⟨XF (by simpa using hb),rfl⟩
     ·rw[kj,hv];exact Bl (cs:=[_]) rfl ⟨AJE _,by rw[Sl]⟩ rfl
    ·cases h
   ·cases h
  ·cases h
 ·cases h
theorem Ads{w:World}{g:G}{Bu:AL7 Nat}{b k:Nat}{Gw:Array MapEntry}{Dk:Nat}{ob:Obj}(hh:w.heap[b]?=some (.map Gw Dk))(ho:g.own b=.BB k [])(hk:k∈Bu):∀q,q<w.heap.size->(∀k p,g.own q=.BB k p->k∉Bu)->({w with heap:=w.heap.setIfInBounds b ob}:World).heap[q]?=w.heap[q]?:=by
 intro q _ hq;exact AKN (λe=>by subst e;exact hq k [] ho hk)
theorem Ap9{P:Program}{w:World}{g:G}{bs:AL7 Blk}(H:Ba w g bs){t:TypeId}{am ax av:AV}{mv xv vv:Value}(hAm:BS w g bs.length am mv)(hAx:BS w g bs.length ax xv)(hAv:BS w g bs.length av vv){ti tk te:TI}(ht:EC P t ti)(km:ti.NK≠0)(K:tk.ty.D4=true->ix P ti.NK tk.ty){e:G9}
    (h:Z8 bs tk te am ax av some=some e):e.Bu≠[]/\e.An.length=bs.length/\e.val=.un 0/\∃w' g',(Instr.mapUpdate t mv xv vv).run P w=.ok () w'/\Ba w' g' e.An/\Step e.Bu bs.length w g w' g':=by
 unfold Z8 at h;split at h
 ·rename_i k;split at h
  ·rename_i md kt vt es st0 hb;split at h
   ·rename_i key y m' rs hx Ye;split at h
    ·rename_i hc;obtain⟨hkt,hvt,Vf,M8,hrk⟩:=hc;subst hkt;have h':e=⟨.un 0,(Blk.Gl (A6 (k::rs) bs) rs).set k (.map m' tk.ty vt (BV tk.ty vt es key y) none),k::rs⟩/\(st0=none\/st0=some key):=by
      cases st0 with
      |none=>injection h with h;exact⟨h.symm,.inl rfl⟩
      |some k0 =>
       simp only at h;cases hq:A7 tk.ty k0 key with
       |false=>rw[hq]at h;cases h
       |true =>
        rw[hq,AJe]at h;injection h with h;exact⟨h.symm,.inr (by rw[(K Vf).eq _ _ hq])⟩
     obtain⟨rfl,qP⟩:=h';refine⟨by simp,by simp[A3,Ay],rfl,?_⟩;have yv:=hAm;obtain⟨hk,b,M6,zJ⟩:=eD yv;obtain⟨QA,b',Gw,Dk,ha,Ce,hh,Rm,fS⟩:=H.Ls k _ hb;rw[M6]at ha;injection ha with ha;injection ha with ha;subst ha;have mY:=gb H Vf hx hAx;obtain⟨hy,hrs,AC9,AC6⟩:=Pq Ye;obtain⟨Xb,QY⟩:=U7 hy;obtain⟨cv,YJ,yz⟩:=BQ Xb QY hAv;rw[YW hy]at yz;obtain⟨YQ,iA⟩:=Z7 Ye;have Ws:=VF M8;have uf:k∉rs:=by simpa using hrk
     have Bh:b<w.heap.size:=Sx H (by rw[Ce];simp);obtain ⟨J,pE,aF,DT,AcQ⟩:∃(J:Nat) (pE:Array MapEntry) (aF:Nat),(Instr.mapUpdate t mv xv vv).run P w=.ok () {w with heap:=w.heap.setIfInBounds b (.map pE aF)} /\
         ((((BV tk.ty vt es key y).map (·.1)).Nodup/\aF=pE.size)/\pE.toList.length=(BV tk.ty vt es key y).length/\∀(i:Nat) (z:tk.ty.V×vt.V) (mm:MapEntry),(BV tk.ty vt es key y)[i]?=some z->pE.toList[i]?=some mm ->
          (i=J/\z=(key,y)/\(mm.key=EO tk.ty key/\mm.born=i)/\mm.val=vv)\/(i≠J/\es[i]?=some z/\Gw.toList[i]?=some mm/\st0≠some z.1)):=by
      have hu:=ht.mp km;have Xa:∀z:tk.ty.V,A7 tk.ty key z=false->st0≠some z:=λz hz e=>by
       rcases qP with h |h
       ·rw[h]at e;cases e
       ·rw[h]at e;injection e with e;subst e;rw[V4 Vf]at hz;cases hz
      rcases ZG (K Vf) fS key with ⟨j,z,mm,h1,h2,h3,h4,h5,h6,h7,⟨h8,h8b⟩,hf⟩|⟨h1,h2,h3,hf⟩
      ·refine⟨j,Gw.modify j λe=>{e with key:=EO tk.ty key,val:=vv},Dk,?_,?_⟩
       ·rw[zJ,mY];simp[Instr.mapUpdate,underlying,hu,MapKept.run_getObj_map hh,(K Vf).check,hf,h3,h8,(K Vf).stays,MapKept.run_setObj_map _ hh]
       ·rw[h6 y];have hl:Gw.toList.length=es.length:=fS.len;refine⟨⟨by
         rw[List.map_set];have:(es.map (·.1)).set j key=es.map (·.1):=by
          have hg:(es.map (·.1))[j]?=some key:=by rw[AJr,h1,<-h2];rfl
          apply AKj;intro i;rw[AJn];split
          ·rename_i e;subst e;rw[AJg (AO hg),hg]
          ·rfl
         rw[this];exact Rm.1,by simp[Rm.2]⟩,by simpa using hl,λi z' m2 hz RN=>?_⟩
        rw[AJc,AKM]at RN;rw[AJn]at hz;by_cases hij:j=i
        ·subst hij;have X5:=AO h1;simp only[AJK,X5]at hz;injection hz with hz;simp only[AJK,h3,Option.map_some,AI0]at RN;subst RN;exact .inl ⟨rfl,hz.symm,⟨rfl,h8b⟩,rfl⟩
        ·simp only[AJh hij]at hz RN;refine .inr ⟨λe=>hij e.symm,hz,by rw[AJc];exact RN,?_⟩;intro e;rcases qP with h |h
         ·rw[h]at e;cases e
         ·rw[h]at e;injection e with e;have g1:(es.map (·.1))[j]?=some key:=by rw[AJr,h1,<-h2];rfl
          have g2:(es.map (·.1))[i]?=some key:=by rw[AJr,hz,e];rfl
          exact hij ((List.getElem?_inj (AO g1) Rm.1).1 (g1.trans g2.symm))
      ·refine⟨es.length,Gw.push {key:=EO tk.ty key,val:=vv,born:=Dk},Dk+1,?_,?_⟩
       ·rw[zJ,mY];simp[Instr.mapUpdate,underlying,hu,MapKept.run_getObj_map hh,(K Vf).check,hf,MapKept.run_setObj_map _ hh]
       ·rw[h3 y];have hl:Gw.toList.length=es.length:=fS.len;refine⟨⟨by
         rw[AJJ,AKO];refine⟨Rm.1,by simp,λa ha b hb=>?_⟩;simp at hb;subst hb
         rintro rfl
         obtain⟨z,hz,rfl⟩:=List.mem_map.1 ha;obtain⟨i,hi⟩:=List.getElem?_of_mem hz;have:=h1 i z hi;rw[V4 Vf]at this;exact Bool.noConfusion this,by simp[Rm.2]⟩,by simpa using hl,λi z' m2 hz RN=>?_⟩
        rw[Array.toList_push]at RN;by_cases hi:i<es.length
        ·rw[AJl hi]at hz;rw[AJl (by rw[hl];exact hi)]at RN;exact .inr ⟨by omega,hz,RN,Xa _ (h1 i z' hz)⟩
        ·have ud:=AO hz;rw[AI2,AJi]at ud;obtain rfl:i=es.length:=by omega
         simp at hz;rw[<-hl]at RN;simp at RN;subst RN;subst hz;exact .inl ⟨rfl,rfl,⟨rfl,by show Dk=es.length;rw[Rm.2,<-hl];simp⟩,rfl⟩
     obtain⟨AC8,wP,AcQ⟩:=AcQ
     let w':World:={w with heap:=w.heap.setIfInBounds b (.map pE aF)}
     let M:=Ko av [J]
     have ua:M.map (·.1)=rs:=by rw[hrs];exact Gc _ _
     let f:=VM md k M
     let g':=g.Ui f none bs.length ⟨none,0,0,0⟩
     have qL:∀b' r,g.own b'=.BB k r->g'.own b'=.BB k r:=λb' r h=>by
      have:=Ia (f:=f) (ob:=none) (n:=bs.length) (i:=⟨none,0,0,0⟩) (by simp) h;rw[this];exact O1 (by rw[ua];exact uf)
     have KD:w'.heap.size=w.heap.size:=by simp[w']
     have st:Step (k::rs) bs.length w g w' g':=Step.Ui H.BP rfl rfl rfl (by rw[KD];exact AI4 _) (Ads hh Ce (by simp)) (λq h=>by cases h) (AI4 _) λj r _ hm =>
      O1 (by rw[ua];exact λh=>hm (AJq _ h))
     have Apy:∀b',b'≠b->w'.heap[b']?=w.heap[b']?:=λb' h=>AKN (Ne.symm h);have AcZ:∀b' j r,g.own b'=.BB j r->j≠k->w'.heap[b']?=w.heap[b']?:=λb' j r h hj=>Apy b' λe=>by subst e;rw[Ce]at h;injection h with h;exact hj h.symm
     have Ac0:∀b' q,g.own b'=.BB k q->q≠[]->w'.heap[b']?=w.heap[b']?:=λb' q h hq=>Apy b' λe=>by subst e;rw[Ce]at h;injection h with _ h;exact hq h.symm
     have qJ:∀b',g.own b'=.Ik->w'.heap[b']?=w.heap[b']?:=λb' h=>Apy b' λe=>by subst e;rw[Ce]at h;cases h
     have hon:∀(i':Nat) (x:vt.V) (c:AL7 Value),S6 w g.own k md vt i' x c->S6 w' g'.own k m' vt i' x c:=by
      intro i' x c Tx;refine Tx.on ?_;rcases AC6 with ⟨rfl,rfl,_⟩|⟨ks,rfl,rfl⟩
      ·exact λb' q h=>⟨qL b' _ h,Ac0 b' _ h (by simp)⟩
      ·intro b' h;rcases h with h |⟨j,hj,r,h⟩
       ·exact⟨.inl (UQ (by simp) h),qJ b' h⟩
       ·have qD:=YQ j hj;have cP:=Ws j qD;exact⟨.inr ⟨j,qD,r,by
         have:=Ia (f:=f) (ob:=none) (n:=bs.length) (i:=⟨none,0,0,0⟩) (by simp) h;rw[this];exact O1 (by rw[ua];exact λh=>cP (AJq _ h))⟩,AcZ b' j r h λe=>cP (by simp[e])⟩
     have YO:InR w' g'.own k m' vt [J] y cv:=by
      refine oH H Ye YJ (M:=M) (λjq hj=>ZN (by rw[Gc];exact AC9) hj) (λ_ h=>h) (λj hj=>Tm (by rw[ua];exact λh=>Ws j hj (AJq _ h))) iA
       (λb' j r h _=>Ia (by simp) h) (λb' h=>UQ (by simp) h) λb' h=>?_
      rcases h with h |⟨j,r,h,hj⟩
      ·exact qJ b' h
      ·refine AcZ b' j r h λe=>?_;subst e;rcases hj with hj |hj
       ·rw[ua]at hj;exact uf hj
       ·exact Ws j hj (by simp)
     have AzR:S6 w' g'.own k m' vt J y cv:=by
      cases m' with
      |Ai=>exact YO
      |sh ks=>exact YO
     refine⟨w',g',DT,H.Y7 st (L5 H.BP (by rw[KD];exact AI4 _) (λq h=>by cases h)) (by simp[A3,Ay]) λj z hj=>?_,st⟩;rcases Ry hj with ⟨cP,rfl⟩|⟨Lr,hj⟩
     ·rw[cP];have QV:g'.AQ k=g.AQ k:=st.AQ k hk;refine .inr (.inr ⟨by simpa [A3,Ay]using oI H Ye YJ QA,b,pE,aF,by rw[QV];exact M6,qL b [] Ce,by simp[w',Bh],AC8,Vh.mk wP λi z mm hz hmz=>?_⟩);rw[AJu];rcases AcQ i z mm hz hmz with ⟨rfl,rfl,h3,h4⟩|⟨h1,h2,h3,h4⟩
      ·exact⟨h3,.inr ⟨cv,AzR,by rw[h4];exact yz⟩⟩
      ·obtain⟨m2,h5,h6,h7⟩:=fS.get h2;rw[h3]at h5;injection h5 with h5;subst h5;rw[AJu]at h6;refine⟨h6,?_⟩;rcases h7 with h7 |⟨cs,h7,h8⟩
       ·exact(h4 h7).elim
       ·rw[AJu]at h7;exact .inr ⟨cs,hon _ _ _ h7,h8⟩
     ·rcases Km hj with h |⟨kh,h⟩
      ·exact .inl h
      ·obtain⟨y',cZ,rfl⟩:=C8 h;exact .inr (.inl ⟨by simp only[AKo,not_or];exact⟨Lr,kh⟩,y',cZ,rfl⟩)
    ·cases h
   ·cases h
  ·cases h
 ·cases h
theorem il{bs:AL7 Blk}{tk te:TI}{am ax av:AV}{e:G9}(h:Z8 bs tk te am ax av some=some e):e.Bu≠[]/\e.An.length=bs.length:=by
 unfold Z8 at h;split at h
 ·split at h
  ·split at h
   ·split at h
    ·split at h
     ·injection h with h;subst h;exact⟨by simp,by simp[A3,Ay]⟩
     ·rename_i y0 _;generalize A7 _ y0 _=q at h;cases q with
      |false=>cases h
      |true=>injection h with h;subst h;exact⟨by simp,by simp[A3,Ay]⟩
    ·cases h
   ·cases h
  ·cases h
 ·cases h
theorem xk{t:TypeId}{m x v:Operand}(ho:o.op=.mapUpdate t m x v\/o.op=.insert t m x v){ti tk te:TI}(ht:EC P t ti)(km:ti.NK≠0)(K:tk.ty.D4=true->ix P ti.NK tk.ty)
    (h:Z8 σ.An tk te (σ.B7 m) (σ.B7 x) (σ.B7 v) some=some e):M3 P σ o e:=by
 obtain⟨s1,s2⟩:=il h;refine⟨by rw[s2];exact AI4 _,λh=>(s1 h).elim,λa w g BJ next Q hn=>?_⟩
 ·obtain⟨h1,h2,h3,w',g',DT,hH,st⟩:=Ap9 BJ.heap (AJ BJ m) (AJ BJ x) (AJ BJ v) ht km K h;have Yc:(execOp a.eval o).run P w=.ok .skip w':=by
   rcases ho with ho |ho<;>simp[execOp,ho,DT]
  unfold Oper.wp;rw[Yc];exact hn undef w' g' hH (by rw[h3];exact Qy) st
theorem AiY{w:World}{g:G}{bs:AL7 Blk}(H:Ba w g bs){k:Nat}{kt u:Ty}{es:AL7 (kt.V×(Ty.sl u).V)}(hb:bs[k]?=some (.map .Ai kt (.sl u) es none))(hu:u.size≠0){J:Nat}{key:kt.V}{ys:(Ty.sl u).V}(hJ:es[J]?=some (key,ys)){b:Nat}(M6:(g.AQ k).a=some ⟨b,0,none⟩)
    {Gw:Array MapEntry} {Dk:Nat} (hh:w.heap[b]?=some (.map Gw Dk)) {mm:MapEntry} (hm:Gw[J]?=some mm) :
    mm.born=J/\Dk=Gw.size/\∃g1,Ba w g1 ((A6 [k] bs).set k (.map .Ai kt (.sl u) es (some key))++[.row 0 .Ai u ys])/\Step [k] bs.length w g w g1/\BS w g1 (bs.length+1) (.Am bs.length) mm.val/\g1.AQ k=g.AQ k:=by
 have hk:=AO hb;obtain⟨QA,b',pE,aF,ha,Ce,hh',Rm,fS⟩:=H.Ls k _ hb;rw[M6]at ha;injection ha with ha;injection ha with ha;subst ha;rw[hh]at hh';injection hh' with hh';injection hh' with e1 e2;subst e1;subst e2;obtain⟨m',q1,⟨_,q2⟩,q3⟩:=fS.get hJ;rw[AJc,hm]at q1;injection q1 with q1;subst q1;rw[AJu]at q2 q3;refine⟨q2,Rm.2,?_⟩;obtain⟨ad,cap,hv,OI⟩:∃(ad:AL8 Addr) (cap:Nat),mm.val=.slice ad ys.length cap/\Jl w g.own k (.sl u) [J] ys [.slice ad ys.length cap]:=by
  rcases q3 with h6 |⟨cs,h6,h7⟩
  ·cases h6
  ·have h6':Jl w g.own k (.sl u) [J] ys cs:=h6;obtain⟨ad,cap,e1,h8⟩:=h6;subst e1;have hv:[Value.slice ad ys.length cap]=[mm.val]:=h7;injection hv with hv _;exact⟨ad,cap,hv.symm,h6'⟩
 let i1:BI:=⟨ad,ys.length,cap,u.size⟩
 let n:=bs.length
 let g1:=g.fq n k [J] i1
 have st:Step [k] n w g w g1:=gX;have Sl:g1.AQ n=i1:=by simp[g1,G.fq]
 have fR:k≠n:=by simp only[n];omega
 have QV:g1.AQ k=g.AQ k:=by simp[g1,G.fq,fR]
 have kj:((A6 [k] bs).set k (Blk.map .Ai kt (.sl u) es (some key))++[Blk.row 0 .Ai u ys]).length=n+1:=by simp[Ay,n]
 refine⟨g1,?_,st,?_,QV⟩
 ·refine H.Y7 st (λb hb=>by simp[g1,G.fq,H.BP b hb]) (by rw[kj];exact AJz _) λj y hj=>?_;rw[AJo]at hj;split at hj
  ·rcases Ry hj with ⟨cP,rfl⟩|⟨Lr,hj⟩
   ·rw[cP];refine .inr (.inr ⟨λj hj=>(by cases hj),b,Gw,Dk,by rw[QV];exact M6,VU Ce (λhc=>by have:=hc.2;simp at this),hh,Rm,Vh.mk fS.len λi z mm hz hmz=>?_⟩);obtain⟨m',h1,h2,h3⟩:=fS.get hz;rw[hmz]at h1;injection h1 with h1;subst h1;refine⟨h2,?_⟩;by_cases hi:i=J
    ·subst hi;rw[hJ]at hz;injection hz with hz;subst hz;exact .inl rfl
    ·rcases h3 with h3 |⟨cs,h3,h4⟩
     ·cases h3
     ·refine .inr ⟨cs,?_,h4⟩;rw[AJu]at h3⊢;exact Jl.mono (λb q hb=>⟨VU hb λhc=>by
       obtain⟨s,hs⟩:=hc.2;have:=List.append_inj_right' hs rfl;simp at this;exact hi this.symm,rfl⟩) h3
   ·obtain⟨y,hy,rfl⟩:=C8 hj;exact .inr (.inl ⟨by simpa using Lr,y,hy,rfl⟩)
  ·rename_i ae;simp only[AI7,Ay]at hj ae;have kg:j-bs.length=0:=by
    rcases AJm (j-bs.length)with h |h
    ·exact h
    ·rw[AJC (by simp;omega)]at hj;cases hj
   rw[kg]at hj;obtain rfl:j=n:=by simp only[n];omega
   simp only[List.getElem?_cons_zero,AI0]at hj;subst hj;refine .inr (.inr ⟨λj hj=>(by cases hj),by rw[Sl],by rw[Sl],AKL hu,?_⟩);rw[Sl];obtain⟨pz,RH,e3,OI⟩:=OI;injection e3 with e3 _;injection e3 with e3 _ e4;subst e3;subst e4;refine OI.imp id λ⟨b,el,Bp,ds,q1,q2,q3,q4,q5,q6,q7,q8⟩=>⟨b,Bp,ds,q1,XF (q:=[]) (by simpa using q2),⟨el,.inl rfl,q3⟩,q4,q5,q6,q7,?_⟩;exact q8.mono λi x c r=>r.mono λb q hb=>⟨XF (by simpa using hb),rfl⟩
 ·rw[hv];exact Bl (cs:=[_]) rfl ⟨AJE _,by rw[Sl]⟩ rfl
end
theorem L1(Wp:Nat->Bool):∀a:AV,(a.drop Wp).drop Wp=a.drop Wp
 |.Ax ks t x=>by
  simp only[AV.drop];split
  ·rfl
  ·rename_i h;simp only[AV.drop,AJh h]
 |.EJ ks t x=>by
  simp only[AV.drop];split
  ·rfl
  ·rename_i h;simp only[AV.drop,AJh h]
 |.Tf k i p o e=>by
  simp only[AV.drop];split
  ·rfl
  ·rename_i h;simp only[AV.drop,AJh h]
 |.U6 k i p o j u=>by
  simp only[AV.drop];split
  ·rfl
  ·rename_i h;simp only[AV.drop,AJh h]
 |.pr a b=>by simp only[AV.drop,L1 Wp a,L1 Wp b]
 |.fn f c=>by simp only[AV.drop,L1 Wp c]
 |.cons a b=>by simp only[AV.drop,L1 Wp a,L1 Wp b]
 |.zs=>rfl
 |.Am _=>rfl
 |.ptr _ _ _ _=>rfl
 |.LO=>rfl
 |.nil=>rfl
 |.mp _=>rfl
 |.un _=>rfl
theorem iI(Wp:Nat->Bool):∀b:Blk,(b.drop Wp).drop Wp=b.drop Wp
 |.box a=>by simp only[Blk.drop,L1]
 |.row e m t xs=>by cases h:m.Cf.any Wp<;>simp[Blk.drop,h]
 |.map m kt vt es st=>by cases h:m.Cf.any Wp<;>simp[Blk.drop,h]
 |.QE _ _ _ _ _=>rfl
 |.tail _ _ _=>rfl
 |.AK=>rfl
theorem iK{bs:AL7 Blk}{k:Nat}{X Y:Blk}:(A6 [k] ((Blk.Gl (A6 [k] bs) []).set k X)).set k Y=(A6 [k] bs).set k Y:=by
 apply AKj;intro i;by_cases h:i=k
 ·subst h;simp only[AJn,AJK];simp[Ay,A3]
 ·have h':k≠i:=Ne.symm h;rw[AK2 h',AK2 h'];unfold A6;rw[AJr,AK2 h'];unfold Blk.Gl;simp only[AJr,Option.map_map];cases bs[i]? with
  |none=>simp
  |some y=>simp[iI]
section
variable {kt vt:Ty}
theorem nP{k:kt.V}:∀{es:AL7 (kt.V×vt.V)} {j:Nat} {x:kt.V×vt.V},es[j]?=some x->A7 kt k x.1=true->(∀i,i<j->∀y,es[i]?=some y->A7 kt k y.1=false)->UZ kt vt es k=j
 |y::r,0,x,h,he,_=>by
  simp at h;subst h;unfold UZ;rw[he];rfl
 |y::r,j+1,x,h,he,hn=>by
  unfold UZ;rw[hn 0 (by omega) y rfl,AJd,nP (es:=r) (j:=j) (by simpa using h) he λi hi z hz=>hn (i+1) (by omega) z (by simpa using hz)]
 |[],_,_,h,_,_=>by simp at h
theorem rk{k:kt.V}:∀{es:AL7 (kt.V×vt.V)},(∀(i:Nat) y,es[i]?=some y->A7 kt k y.1=false)->UZ kt vt es k=es.length
 |[],_=>rfl
 |y::r,h=>by
  unfold UZ;rw[h 0 y rfl,AJd,rk (es:=r) λi z hz=>h (i+1) z (by simpa using hz)];rfl
theorem rJ{Gw:Array MapEntry}{j:Nat}{m:MapEntry}{v:Value}(h:Gw[j]?=some m)(hk:m.key=v):Gw.modify j (λe=>{e with key:=v})=Gw:=by
 apply Array.ext_getElem?;intro i;rw[AKM];split
 ·rename_i e;subst e;rw[h];simp[<-hk]
 ·rfl
theorem yZ{w:World}{b:Nat}{o:Obj}(h:w.heap[b]?=some o):({w with heap:=w.heap.setIfInBounds b o}:World)=w:=by
 have:w.heap.setIfInBounds b o=w.heap:=by
  apply Array.ext_getElem?;intro i;rw[Array.getElem?_setIfInBounds];split
  ·rename_i e;subst e;split
   ·exact h.symm
   ·rename_i hn;rw[Array.getElem?_eq_none (by omega)]
  ·rfl
 rw[this]
theorem ACh{P:Program}{w:World}{g:G}{bs:AL7 Blk}(H:Ba w g bs){k:Nat}{u:Ty}{tk:TI}{es:AL7 (tk.ty.V×(Ty.sl u).V)}(hb:bs[k]?=some (.map .Ai tk.ty (.sl u) es none)){ax:AV}{key:tk.ty.V}(hx:rd bs tk.ty ax=some key){mv xv:Value}(hAm:BS w g bs.length (.mp k) mv)(hAx:BS w g bs.length ax xv)
    {t:TypeId} {ti te:TI} (ht:EC P t ti) (km:ti.NK≠0) (DY:EC P ti.elem te) (hvt:.sl u=te.ty) (Vf:tk.ty.D4=true) (hu:u.size≠0) (K:tk.ty.D4=true->ix P ti.NK tk.ty) :
    ∃v w' g',(Instr.mapEntry t mv xv).run P w=.ok (.tuple #[v,.int .i64 (UZ tk.ty (.sl u) es key:Nat)]) w' /\
     Ba w' g' ((A6 [k] bs).set k (.map .Ai tk.ty (.sl u) (BV tk.ty (.sl u) es key (Bg tk.ty (.sl u) es key)) (some key))++[.row 0 .Ai u (Bg tk.ty (.sl u) es key)])/\BS w' g' (bs.length+1) (.Am bs.length) v/\Step [k] bs.length w g w' g':=by
 obtain⟨hk,b,M6,zJ⟩:=eD hAm;obtain⟨QA,b',Gw,Dk,ha,Ce,hh,Rm,fS⟩:=H.Ls k _ hb;rw[M6]at ha;injection ha with ha;injection ha with ha;subst ha;have mY:=gb H Vf hx hAx;have QY:=ht.mp km;have hl:Gw.toList.length=es.length:=fS.len;rcases ZG (K Vf) fS key with ⟨j,x,m,h1,h2,h3,h4,h5,h6,h7,⟨h8,h8b⟩,hf⟩|⟨h1,h2,h3,hf⟩
 ·have hJ:es[j]?=some (key,x.2):=by rw[h1,<-h2]
  obtain⟨qy,AG6,g1,H1,st,wH,_⟩:=AiY H hb hu hJ M6 hh h3;have hg:Bg tk.ty (.sl u) es key=x.2:=by unfold Bg;rw[h5];rfl
  have hp:BV tk.ty (.sl u) es key x.2=es:=by
   rw[h6];apply AKj;intro i;rw[AJn];split
   ·rename_i e;subst e;rw[AJg (AO hJ),hJ]
   ·rfl
  have qI:UZ tk.ty (.sl u) es key=j:=nP hJ (V4 Vf) h4;refine⟨m.val,w,g1,?_,by rw[hg,hp];exact H1,wH,st⟩;rw[zJ,mY];have hw:=yZ (o:=.map (Gw.modify j λe=>{e with key:=EO tk.ty key}) Dk) (by rw[rJ h3 h8];exact hh);simp[Instr.mapEntry,underlying,QY,MapKept.run_getObj_map hh,(K Vf).check,hf,h3,h8,(K Vf).stays,MapKept.run_setObj_map _ hh,hw,qI,qy,goInt]
 ·obtain⟨z,hz,hzv⟩:=sw DY w;rw[<-hvt]at hzv;have hzs:z=.slice none 0 0:=by
   have:[Value.slice none 0 0]=[z]:=hzv;injection this with h _;exact h.symm
  subst hzs;have hg:Bg tk.ty (.sl u) es key=[]:=by unfold Bg;rw[h2];rfl
  have qI:UZ tk.ty (.sl u) es key=es.length:=rk h1;have hA0:BS w g bs.length .zs (.slice none 0 0):=Bl (cs:=[_]) rfl ⟨none,rfl⟩ rfl;have ADD:Z8 bs tk te (.mp k) ax .zs some=some ⟨.un 0,(Blk.Gl (A6 [k] bs) []).set k (.map .Ai tk.ty (.sl u) (BV tk.ty (.sl u) es key []) none),[k]⟩:=by
   have Ye:take bs .Ai (.sl u) .zs=some ([],.Ai,[]):=by simp[take,rd,AV.QH,AV.W3,nodup]
   unfold Z8;simp only[hb,hx,Ye];rw[AJg ⟨trivial,hvt,Vf,by rfl,by rfl⟩]
  obtain⟨_,_,_,w',g',DT,H',st'⟩:=Ap9 H hAm hAx hA0 ht km K ADD;have hw:w'={w with heap:=w.heap.setIfInBounds b (.map (Gw.push {key:=EO tk.ty key,val:=.slice none 0 0,born:=Dk}) (Dk+1))}:=by
   rw[zJ,mY]at DT;simp[Instr.mapUpdate,underlying,QY,MapKept.run_getObj_map hh,(K Vf).check,hf,MapKept.run_setObj_map _ hh]at DT;exact DT.symm
  have Bh:b<w.heap.size:=Sx H (by rw[Ce];simp);have sB:((Blk.Gl (A6 [k] bs) []).set k (Blk.map .Ai tk.ty (.sl u) (BV tk.ty (.sl u) es key []) none))[k]?=some (.map .Ai tk.ty (.sl u) (BV tk.ty (.sl u) es key []) none):=by
   rw[ALc (by simpa [A3,Ay]using hk)]
  have hJ:(BV tk.ty (.sl u) es key [])[es.length]?=some (key,[]):=by rw[h3];simp
  have ACA:(g'.AQ k).a=some ⟨b,0,none⟩:=by rw[st'.AQ k hk];exact M6
  have hh':w'.heap[b]?=some (.map (Gw.push {key:=EO tk.ty key,val:=.slice none 0 0,born:=Dk}) (Dk+1)):=by
   rw[hw];simp[Bh]
  have KD:Gw.size=es.length:=by rw[<-hl];simp
  have hm:(Gw.push {key:=EO tk.ty key,val:=.slice none 0 0,born:=Dk})[es.length]?=some {key:=EO tk.ty key,val:=.slice none 0 0,born:=Dk}:=by
   rw[<-KD];simp
  obtain⟨qy,_,g1,H1,QP,wH,_⟩:=AiY H' sB hu hJ ACA hh' hm;have oY:((Blk.Gl (A6 [k] bs) []).set k (Blk.map .Ai tk.ty (.sl u) (BV tk.ty (.sl u) es key []) none)).length=bs.length:=by simp[A3,Ay]
  rw[oY]at wH QP;rw[iK]at H1;have OH:=st'.trans QP (AI4 _);refine⟨.slice none 0 0,w',g1,?_,by rw[hg];exact H1,wH,⟨OH.os,OH.tape,OH.output,OH.size,OH.no,OH.Ik,λb k' p h1 h2 h3=>OH.BB b k' p h1 h2 (by simpa using h3),OH.AQ⟩⟩;have qy:Dk=es.length:=qy;rw[zJ,mY,hw];simp[Instr.mapEntry,underlying,QY,MapKept.run_getObj_map hh,(K Vf).check,hf,hz,MapKept.run_setObj_map _ hh,qI,qy,goInt]
variable {P:Program} {σ:St} {o:Oper} {en:Gd} {e:G9}
theorem AhJ{t:TypeId}{m x:Operand}(ho:o.op=.mapEntry t m x){ti tk te:TI}(ht:EC P t ti)(km:ti.NK≠0)(DY:EC P ti.elem te)(K:tk.ty.D4=true->ix P ti.NK tk.ty)
    (h:yc σ.An tk te (σ.B7 m) (σ.B7 x) some=some e):M3 P σ o e:=by
 unfold yc at h;split at h
 ·rename_i k hm;split at h
  ·rename_i kt u es hb;split at h
   ·rename_i key hx;split at h
    ·rename_i hc;obtain⟨rfl,hvt,Vf,hu⟩:=hc;injection h with h;subst h;refine⟨by simp[Ay],λh=>(by cases h),λa w g BJ next Q hn=>?_⟩
     have hAm:=AJ BJ m;rw[hm]at hAm;obtain⟨v,w',g',DT,hH,wH,st⟩:=ACh BJ.heap hb hx hAm (AJ BJ x) ht km DY hvt Vf hu K;have Yc:(execOp a.eval o).run P w=.ok (.value (.tuple #[v,.int .i64 (UZ tk.ty (.sl u) es key:Nat)])) w':=by
      simp[execOp,ho,DT]
     unfold Oper.wp;rw[Yc];have Tz:((A6 [k] σ.An).set k (Blk.map .Ai tk.ty (.sl u) (BV tk.ty (.sl u) es key (Bg tk.ty (.sl u) es key)) (some key))++[Blk.row 0 .Ai u (Bg tk.ty (.sl u) es key)]).length=σ.An.length+1:=by simp[Ay]
     refine hn _ w' g' hH ?_ st;rw[Tz];have hr:=(BS.iff (a:=.Am σ.An.length) rfl).1 wH;exact⟨[v,.int .i64 (UZ tk.ty (.sl u) es key:Nat)],rfl,v,[.int .i64 (UZ tk.ty (.sl u) es key:Nat)],rfl,hr,_,[],rfl,.inr ⟨[.int .i64 (UZ tk.ty (.sl u) es key:Nat)],⟨λ_ h=>(by cases h),rfl⟩,rfl⟩,rfl⟩
    ·cases h
   ·cases h
  ·cases h
 ·cases h
theorem AfD{w:World}{g:G}{n:Nat}:∀{kt:Ty} {x:kt.V},kt.D4=true->BS w g n (.Ax [] kt x) (EO kt x):=by
 intro kt x hk;have key:∀cs,Ha w (Al g.own []) kt x cs->BK kt.isAgg cs (EO kt x)->BS w g n (.Ax [] kt x) (EO kt x):=λcs h1 h2=>Bl (cs:=cs) rfl ⟨λ_ h=>(by cases h),h1⟩ h2
 match kt,x,hk with
 |.int q,x,_=>exact key [.int q x] rfl rfl
 |.str,x,_=>exact key [.string x] rfl rfl
 |.Au (.int q) (.Au (.int q') .unit),x,_=>exact key [.int q x.1,.int q' x.2.1] ⟨[_],[_],rfl,rfl,[_],[],rfl,rfl,rfl⟩ rfl
theorem Aeu{t:TypeId}{m j v:Operand}(ho:o.op=.entryStore t m j v){ti tk te:TI}(ht:EC P t ti)(km:ti.NK≠0)(K:tk.ty.D4=true->ix P ti.NK tk.ty)
    (h:yd σ.An tk te (σ.B7 m) (σ.B7 j) (σ.B7 v) some=some e):M3 P σ o e:=by
 unfold yd at h;split at h
 ·rename_i k hm;split at h
  ·rename_i md kt vt es key hb;split at h
   ·rename_i n hj;split at h
    ·rename_i hc;obtain⟨hkt,Vf⟩:=hc;subst hkt;obtain⟨hn,hmh,h⟩:n=Int.ofNat (UZ tk.ty vt es key)/\SA tk.ty vt es key=true/\Z8 σ.An tk te (σ.B7 m) (.Ax [] tk.ty key) (σ.B7 v) some=some e:=by
      cases hq:Vq tk.ty vt es key n with
      |false=>rw[hq]at h;cases h
      |true =>
       rw[hq,AJe]at h;simp only[Vq,AI5,AJ5]at hq;exact⟨hq.1,hq.2,h⟩
     obtain⟨s1,s2⟩:=il h;refine⟨by rw[s2];exact AI4 _,λh=>(s1 h).elim,λa w g BJ next Q hnx=>?_⟩
     have hAm:=AJ BJ m;rw[hm]at hAm h;obtain⟨h1,h2,h3,w',g',DT,hH,st⟩:=Ap9 BJ.heap hAm (AfD Vf) (AJ BJ v) ht km K h;obtain⟨hk,b,M6,zJ⟩:=eD hAm;obtain⟨QA,b',Gw,Dk,ha,Ce,hh,Rm,fS⟩:=BJ.heap.Ls k _ hb;rw[M6]at ha;injection ha with ha;injection ha with ha;subst ha;have hjv:a.eval j=.int .i64 n:=gb (kt:=.int .i64) BJ.heap rfl hj (AJ BJ j);have QY:=ht.mp km;have Yc:(execOp a.eval o).run P w=.ok .skip w':=by
      rcases ZG (K Vf) fS key with ⟨J,x,mm,h1',h2',h3',qv,h5',h6',h7',⟨h8,h8b⟩,hf⟩|⟨_,h2',_,_⟩
      ·have hJ:es[J]?=some (key,x.2):=by rw[h1',<-h2']
       have qI:UZ tk.ty vt es key=J:=nP hJ (V4 Vf) qv;rw[qI]at hn;rw[zJ]at DT;simp[Instr.mapUpdate,underlying,QY,MapKept.run_getObj_map hh,(K Vf).check,hf,h3',h8,(K Vf).stays,MapKept.run_setObj_map _ hh]at DT;have hJl:J<Gw.size:=by
        have:=AO (show Gw.toList[J]?=some mm by rw[AJc];exact h3');simpa using this
       have ACT:Gw.findIdx? (λe=>(e.born:Int)==n)=some J:=by
        rw[Array.findIdx?_eq_some_iff_getElem];have hbn:∀i (h:i<Gw.size),Gw[i].born=i:=λi hi=>by
         have ud:i<es.length:=by rw[<-fS.len];simpa using hi
         obtain⟨m',q1,⟨_,q2⟩,_⟩:=fS.get (AJ6 ud);rw[AJc,AJS hi]at q1;injection q1 with q1;rw[q1,q2];omega
        refine⟨hJl,by rw[hbn,hn];simp,λi hi=>?_⟩;rw[hbn,hn];simp;omega
       have AcY:Gw.modify J (λe=>{e with val:=a.eval v})=Gw.modify J (λe=>{e with key:=EO tk.ty key,val:=a.eval v}):=by
        apply Array.ext_getElem?;intro i;rw[AKM,AKM];split
        ·rename_i e;subst e;rw[h3'];simp[h8]
        ·rfl
       simp[execOp,ho,zJ,hjv,Instr.entryStore,asInt,asIntOf,MapKept.run_getObj_map hh,ACT,MapKept.run_setObj_map _ hh,AcY,DT]
      ·simp[SA,h2']at hmh
     unfold Oper.wp;rw[Yc];exact hnx undef w' g' hH (by rw[h3];exact Qy) st
    ·cases h
   ·cases h
  ·cases h
 ·cases h
end
section
variable {P:Program} {σ:St} {o:Oper}
def uI:TypeDesc->Bool
 |.int _=>true
 |.bool=>true
 |.string=>true
 |_=>false
theorem gD{t:TypeId}{d:TypeDesc}(hu:P.underlying t=some d)(hd:uI d=true){w:World}{cs:Array Value}{i:Nat}{v:Value}(h:cs[i]?=some v):(part t cs i).run P w=.ok v w:=by
 cases d<;>simp[uI]at hd<;>simp[part,isAgg,underlying,hu,h]
theorem wm(d:Nat)(w:World):∀(t:Ty) (p q:AL7 Value) (fs:AL7 Field) (u v:t.V) (n:Nat),p.length=n->q.length=n->Vr P t n fs=true->(Op.eqFields (d+1) (p++Kj t u).toArray (q++Kj t v).toArray fs).run P w=.ok (PH t u v) w
 |.unit,p,q,[],u,v,n,_,_,_=>by simp[Op.eqFields,PH]
 |.Au a b,p,q,f::fs,u,v,n,hp,hq,h=>by
  simp only[Vr,AI5,AKC,AJ5]at h;obtain⟨⟨⟨h1,h2⟩,h3⟩,h4⟩:=h;have key:∀(x y:Value) (r:Bool) (dd:TypeDesc),Kj a u.1=[x]->Kj a v.1=[y]->P.underlying f.type=some dd->uI dd=true ->
      (Op.equalIn (d+1) f.type x y).run P w=.ok r w->r=PH a u.1 v.1->(Op.eqFields (d+1) (p++Kj (.Au a b) u).toArray (q++Kj (.Au a b) v).toArray (f::fs)).run P w=.ok (PH (.Au a b) u v) w:=by
   intro x y r dd hx hy hu hd he hr;have ih:=wm d w b (p++[x]) (q++[y]) fs u.2 v.2 (n+1) (by simp[hp]) (by simp[hq]) h4;have ex:p++Kj (.Au a b) u=p++[x]++Kj b u.2:=by simp[Kj,hx]
   have ey:q++Kj (.Au a b) v=q++[y]++Kj b v.2:=by simp[Kj,hy]
   rw[ex,ey];have px:(part f.type (p++[x]++Kj b u.2).toArray n).run P w=.ok x w:=gD hu hd (by simp[<-hp]);have py:(part f.type (q++[y]++Kj b v.2).toArray n).run P w=.ok y w:=gD hu hd (by simp[<-hq]);simp only[Op.eqFields,h1,ne_eq,not_false_eq_true,AJK,Sem.run_bind,h2,px,py,Result.andThen_ok,he];subst hr;cases hq:PH a u.1 v.1 with
   |false=>simp[PH,hq]
   |true=>simp only[AJH,AJN,AKv];rw[ih];simp[PH,hq]
  split at h3
  ·rename_i k k' hu;rw[AJ5]at h3;subst h3;exact key _ _ _ _ rfl rfl hu rfl (bX hu d w _ _) rfl
  ·rename_i hu;exact key _ _ _ _ rfl rfl hu rfl (by simp[Op.equalIn,underlying,hu];rfl) rfl
  ·rename_i hu;exact key _ _ _ _ rfl rfl hu rfl (by simp[Op.equalIn,underlying,hu]) r7.symm
  ·cases h3
 |.unit,_,_,_::_,_,_,_,_,_,h=>by simp[Vr]at h
 |.Au _ _,_,_,[],_,_,_,_,_,h=>by simp[Vr]at h
 |.int _,_,_,_,_,_,_,_,_,h=>by simp[Vr]at h
 |.bool,_,_,_,_,_,_,_,_,h=>by simp[Vr]at h
 |.str,_,_,_,_,_,_,_,_,h=>by simp[Vr]at h
 |.sl _,_,_,_,_,_,_,_,_,h=>by simp[Vr]at h
 |.QG _,_,_,_,_,_,_,_,_,h=>by simp[Vr]at h
theorem jW:∀{t:Ty} {n:Nat} {fs:AL7 Field},Vr P t n fs=true->t.BA=true/\t.isAgg=true
 |.unit,_,[],_=>⟨rfl,rfl⟩
 |.Au a b,n,f::fs,h=>by
  simp only[Vr,AI5]at h;obtain⟨⟨_,h3⟩,h4⟩:=h;have:=(jW h4).1;refine⟨?_,rfl⟩;split at h3<;>first |(cases h3;done)|simp[Ty.BA,this]
 |.unit,_,_::_,h=>by simp[Vr]at h
 |.Au _ _,_,[],h=>by simp[Vr]at h
 |.int _,_,_,h=>by simp[Vr]at h
 |.bool,_,_,h=>by simp[Vr]at h
 |.str,_,_,h=>by simp[Vr]at h
 |.sl _,_,_,h=>by simp[Vr]at h
 |.QG _,_,_,h=>by simp[Vr]at h
theorem AhK{Dm:vA}(ht:cF P Dm=true){op:BinOp}{t yt:TypeId}{x y:Operand}(ho:o.op=.binOp op t x y yt){z:AV}(h:eqS σ.An Dm op t (σ.B7 x) (σ.B7 y)=some z):M3 P σ o ⟨z,σ.An,[]⟩ :=
 .Il <| K1 (s:=λρ=>do eqGuard op t x y (ρ x) (ρ y);binOp op t (ρ x) (ρ y)) (λρ=>by simp[execOp,ho]) λa w g BJ=>by
  unfold eqS at h;split at h
  ·rename_i ti hti;split at h
   ·rename_i he;have hT:=EC.of ht hti;have heq:=hT.eqs he;unfold Acr at heq;split at heq
    ·rename_i fs hu;simp only[AI5,AKk]at heq;obtain⟨⟨h1,h2⟩,h3⟩:=heq;have hF:P.fieldsOf t=fs:=by simp[Program.fieldsOf,hu]
     obtain⟨Azt,qx⟩:=jW h3;have get:∀(X:Operand) (u:ti.ty.V),rd σ.An ti.ty (σ.B7 X)=some u->a.eval X=.agg (Kj ti.ty u).toArray:=λX u hr=>by
      obtain⟨q1,q2⟩:=U7 hr;obtain⟨cs,SV,hv⟩:=BQ q1 q2 (AJ BJ X);rw[YW hr,qx]at hv;have:=(Ha.BA Azt).1 (P4 BJ.heap _ _ u cs hr SV).1;subst this;exact hv
     have run:∀u v:ti.ty.V,(Op.equalIn 10000 t (.agg (Kj ti.ty u).toArray) (.agg (Kj ti.ty v).toArray)).run P w=.ok (PH ti.ty u v) w:=λu v=>by
      rw[show(10000:Nat)=9999+1 from rfl,run_equalIn_struct w 9999 t _ _ (by rw[hF];exact hu) h1,hF];have:=wm (P:=P) 9998 w ti.ty [] [] fs.toList u v 0 rfl rfl h3;simpa using this
     split at h
     ·split at h
      ·rename_i u v hx hy;injection h with h;subst h;refine⟨.bool (PH ti.ty u v),?_,ZP _⟩;simp only[get x u hx,get y v hy,Sem.run_bind,run_eqGuard_agg w .eql t x y _ _ h2,Result.andThen_ok,run_eql_struct,run]
      ·cases h
     ·split at h
      ·rename_i u v hx hy;injection h with h;subst h;refine⟨.bool (!PH ti.ty u v),?_,ZP _⟩;simp only[get x u hx,get y v hy,Sem.run_bind,run_eqGuard_agg w .neq t x y _ _ h2,Result.andThen_ok,run_neq_struct,run]
      ·cases h
     ·cases h
    ·cases heq
   ·cases h
  ·cases h
end
structure EnvOk (P:Program) (en:Gd):Prop where
 Dm:cF P en.Dm=true
 fns:∀g c,en.fns g=some c->Ap P g c
theorem EnvOk.Yk{P:Program}{en:Gd}(h:EnvOk P en):X1 en:=λg c hc=>(h.fns g c hc).Yk
section
variable {P:Program} {σ:St} {o:Oper} {en:Gd} {e:G9}
theorem EnvOk.t(he:EnvOk P en){t:Nat}{ti:TI}(h:en.Dm.get t=some ti):EC P t ti:=EC.of he.Dm h
theorem jI{w:World}{g:G}{a:Act}(hs:Kg w g σ a):∀(l:AL7 Operand),Dj w g σ.An.length (l.map σ.B7) (l.map a.eval)
 |[]=>trivial
 |x::l=>⟨AJ hs x,jI hs l⟩
theorem jH{w:World}{g:G}{n:Nat}:∀{l k:AL7 AV} {xs ys:AL7 Value},Dj w g n l xs->Dj w g n k ys->Dj w g n (l++k) (xs++ys)
 |[],_,[],_,_,h=>h
 |_::_,_,_::_,_,h1,h2=>⟨h1.1,jH h1.2 h2⟩
 |[],_,_::_,_,h,_=>h.elim
 |_::_,_,[],_,h,_=>h.elim
theorem Ait{w:World}{g:G}{n:Nat}:∀{a:AV} {vs:AL7 Value},Cs w g n true a vs->Dj w g n (v8 a) vs
 |.cons a b,_,⟨v,r,e,h1,h2⟩=>by
  subst e;refine⟨?_,Ait h2⟩;have ht:a.C5=false:=by
   rcases h1 with h |⟨cs,h,_⟩
   ·cases a<;>first |rfl |simp[AV.Nc]at h
   ·exact U1 h
  exact(BS.iff ht).2 h1
 |.nil,_,h=>by cases h;trivial
 |.Tf _ _ _ _ _,_,h=>h.elim
 |.U6 _ _ _ _ _ _,_,h=>h.elim
 |.Ax _ _ _,_,h=>h.elim
 |.zs,_,h=>h.elim
 |.Am _,_,h=>h.elim
 |.mp _,_,h=>h.elim
 |.ptr _ _ _ _,_,h=>h.elim
 |.EJ _ _ _,_,h=>h.elim
 |.LO,_,h=>h.elim
 |.pr _ _,_,h=>h.elim
 |.fn _ _,_,h=>h.elim
 |.un _,_,h=>h.elim
theorem Aes(he:EnvOk P en){c:Call}(ho:o.op=.call c){fo:Operand}(hc:c.callee=.value fo){g0:Nat}{X4:AV}(hf:σ.B7 fo=.fn g0 X4){ca:Callee}(hg:en.fns g0=some ca)(h:eR ca σ.An (OV σ c.args++v8 X4) some=some e):M3 P σ o e:=by
 obtain⟨h1,h2,h3⟩:=xT (he.fns _ _ hg) h;refine⟨h1,h2,λa w g hs next Q hn=>?_⟩
 have hv:=AJ hs fo;rw[hf]at hv;obtain⟨cs,⟨vs,e1,hx⟩,SV⟩:=BQ rfl rfl hv;have e2 :=by
  subst e1;simpa [AV.isAgg]using SV.symm
 have hr:(execOp a.eval o).run P w=(callFunc g0 (c.args.toList.map a.eval++vs).toArray).run P w:=by
  have:(c.args.toList.map a.eval++vs).toArray=#[]++c.args.map a.eval++vs.toArray:=by
   simp
  rw[this];simp[execOp,ho,resolve,hc,e2,Deferred.ofValue,invoke]
 unfold Oper.wp;rw[hr];exact h3 w g _ hs.heap (jH (jI hs _) (Ait hx)) o a next Q hn
theorem jU(he:EnvOk P en){ti:TI}(u:Ty)(h:(match en.Dm.get ti.elem with |some te=>if ti.DZ=true then some te.ty else none |none=>none)=some u):ti.DZ=true/\∃iD,iD.ty=u/\EC P ti.elem iD:=by
 split at h
 ·rename_i te DY;split at h
  ·rename_i IR;injection h with h;exact⟨IR,te,h,he.t DY⟩
  ·grind
 ·grind
theorem Aev{t:TypeId}{x i:Operand}(ho:o.op=.indexAddr t x i){ti te:TI}(ht:EC P t ti)(DY:EC P ti.elem te)(IR:ti.DZ=true){k:Nat}{i0:Int}{p:AL7 Nat}{f e0:Nat}(hx:σ.B7 x=.Tf k i0 p f e0){ks:AL7 Nat}{kk:IntKind}{j:Int}(hi:σ.B7 i=.Ax ks (.int kk) j)
    {ek:Nat} {tr:Ty} {xs:AL7 tr.V} (hb:σ.An[k]?=some (.row ek .Ai tr xs)) {ys:AL7 te.ty.V} (hg:fH (.sl te.ty) p tr (xs.getD i0.toNat tr.zero)=some ys) {x':tr.V} (hs:R5 (.sl te.ty) [] p tr (xs.getD i0.toNat tr.zero)=some x')
    (hu:te.ty.size≠0) (kn:K0 tr p=some f) (hj:0<=j/\j<(ys.length:Int)):M3 P σ o ⟨.U6 k i0 p f j te.ty,σ.An,[]⟩ :=
 .Il <| K1 (s:=λρ=>Instr.indexAt t (ρ x) (ρ i)) (λρ=>by simp[execOp,ho]) λa w g BJ=>by
  have Wv:=AJ BJ x;rw[hx]at Wv;have hii:=AJ BJ i;rw[hi]at hii;have hii:=Di hii;obtain⟨cs,⟨hk,h0,h1,b,v,M6,Ce,e1,e2,C9⟩,hval⟩:=BQ rfl rfl Wv;subst e1;have hv:a.eval x=v:=by
   have:[v]=[a.eval x]:=hval
   grind
  obtain⟨g1,H1,QP,yn,_,_⟩:=XG BJ.heap hb h1 hg kn hu M6 C9 hs;obtain⟨_,hvs⟩:=EP yn;obtain⟨_,AiE,Azr,_,aS⟩:=H1.Ls σ.An.length (.row 0 .Ai _ ys) (by simp[Ay]);have Bh :=VL hj;rcases aS with ⟨WC,_⟩|⟨b',Bp,ds,ha,_⟩
  ·grind
  ·rw[ha,AiE]at hvs;have QY:=Bs ht IR;refine⟨.pointer (some ⟨b',j.toNat*te.ty.size,none⟩),?_,Bl  rfl ⟨hk,h0,h1,b,b',_,_,M6,Ce,rfl,⟨hj.1,Bh⟩,by rw[C9,hvs]⟩ (by simp[BK,AV.isAgg])⟩;rw[hv,hii,hvs];simp[Instr.indexAt,asIntOf,underlying,QY,hj.1,hj.2,Du DY,X3]
theorem gV{t:TypeId}{x i:Operand}(ho:o.op=.indexAddr t x i){ti te:TI}(ht:EC P t ti)(DY:EC P ti.elem te)(IR:ti.DZ=true){z:AV}(h:qU σ.An te.ty (σ.B7 x) (σ.B7 i) some=some z):M3 P σ o ⟨z,σ.An,[]⟩:=by
 unfold qU at h;split at h
 ·rename_i k i0 p f e0 ks kk j hx hi;split at h
  ·rename_i ek tr xs hb;split at h
   ·rename_i ys x' hg hs;split at h
    ·rename_i hc;split at h
     ·rename_i hj;injection h with h;subst h;exact Aev ho ht DY IR hx hi hb hg hs hc.1 hc.2 hj
     ·grind
    ·grind
   ·grind
  ·grind
 ·exact jo ho ht DY IR h
theorem aK(he:EnvOk P en)(h:QL en σ o some=some e):M3 P σ o e:=by
 unfold QL at h
 dsimp only at h
 split at h
 ·rename_i x ho;injection h with h;subst h;exact rR (.inl ho)
 ·rename_i x ho;injection h with h;subst h;exact rR (.inr ho)
 ·rename_i c a b ho;split at h
  ·rename_i ks t hc;have:=AeE (P:=P) ho hc;cases t
   ·injection h with h;subst h;exact this
   ·injection h with h;subst h;exact this
  ·cases h
 ·rename_i el ho;split at h
  ·rename_i ti ht;injection h with h;subst h;exact zd ho (he.t ht)
  ·cases h
 ·rename_i el x ho;split at h
  ·rename_i ht;injection h with h;subst h;exact AhH ho ht
  ·cases h
 ·rename_i t Gb ho;split at h
  ·rename_i ti ht;split at h
   ·cases h
   ·rename_i kn;split at h
    ·rename_i v hv;injection h with h;subst h;exact zf ho (he.t ht) (λe=>kn (by rw[e];rfl)) hv
    ·cases h
  ·cases h
 ·rename_i t len Gb ho;split at h
  ·rename_i ti ht;split at h
   ·rename_i te DY;split at h
    ·rename_i m xs rs hp;split at h
     ·rename_i hc;obtain⟨h1,h2⟩:=gU ho (he.t ht) (he.t DY) hp hc;split at h
      ·rename_i h0;injection h with h;subst h;exact h1 h0
      ·rename_i h0;injection h with h;subst h;exact h2 h0
     ·cases h
    ·cases h
   ·cases h
  ·cases h
 ·rename_i t x ho;split at h
  ·rename_i ti ht;split at h
   ·split at h
    ·rename_i IR;exact zm ho (he.t ht) IR h
    ·cases h
   ·obtain⟨z,hz,rfl⟩:=WA (f:=λR K=>Yi σ.An ti (σ.B7 x) K) (λR K=>kA ..) (g:=λv=>⟨v,σ.An,[]⟩) h;exact Aey ho (he.t ht) hz
  ·cases h
 ·rename_i t r ho;split at h
  ·rename_i ti ht;split at h
   ·cases h
   ·rename_i hr;split at h
    ·rename_i tk te Ye DY;split at h
     ·injection h with h;subst h;have:r=none:=by cases r<;>simp_all
      subst this;exact rQ ho (TV _ _)
     ·cases h
    ·cases h
  ·cases h
 ·rename_i t m x ok ho;split at h
  ·rename_i ti ht;split at h
   ·rename_i tk te Ye DY;split at h
    ·rename_i hc;split at h
     ·split at h
      ·cases h
      ·rename_i aR;have:ok=false:=by simpa using aR
       subst this;exact zk ho (he.t ht) hc.1 (he.t DY) hc.2.1 (λhk=>ix.of he.Dm (he.t Ye) hk hc.2.2) h
     ·obtain⟨z,hz,rfl⟩:=WA (f:=λR K=>cm σ.An tk te ok (σ.B7 m) (σ.B7 x) K) (λR K=>kB ..) (g:=λv=>⟨v,σ.An,[]⟩) h;exact Aez ho (he.t ht) hc.1 (he.t DY) hc.2.1 (λhk=>ix.of he.Dm (he.t Ye) hk hc.2.2) hz
    ·cases h
   ·cases h
  ·cases h
 ·rename_i t m x v ho;split at h
  ·rename_i ti ht;split at h
   ·rename_i tk te Ye DY;split at h
    ·rename_i hc;exact xk (.inl ho) (he.t ht) hc.1 (λhk=>ix.of he.Dm (he.t Ye) hk hc.2.2) h
    ·cases h
   ·cases h
  ·cases h
 ·rename_i t m x v ho;split at h
  ·rename_i ti ht;split at h
   ·rename_i tk te Ye DY;split at h
    ·rename_i hc;exact xk (.inr ho) (he.t ht) hc.1 (λhk=>ix.of he.Dm (he.t Ye) hk hc.2.2) h
    ·cases h
   ·cases h
  ·cases h
 ·rename_i t m x ho;split at h
  ·rename_i ti ht;split at h
   ·rename_i tk te Ye DY;split at h
    ·rename_i hc;exact AhJ ho (he.t ht) hc.1 (he.t DY) (λhk=>ix.of he.Dm (he.t Ye) hk hc.2) h
    ·cases h
   ·cases h
  ·cases h
 ·rename_i t m x v ho;split at h
  ·rename_i ti ht;split at h
   ·rename_i tk te Ye DY;split at h
    ·rename_i hc;exact Aeu ho (he.t ht) hc.1 (λhk=>ix.of he.Dm (he.t Ye) hk hc.2) h
    ·cases h
   ·cases h
  ·cases h
 ·rename_i t x v ho;split at h
  ·rename_i ti ht;exact zn ho (he.t ht) h
  ·cases h
 ·rename_i x ho;split at h
  ·rename_i k i p q hx;injection h with h;subst h;rw[<-hx];exact Z4 ho λw g n v hv=>by rw[hx]at hv;exact nS hv
  ·rename_i ks t y hx;injection h with h;subst h;rw[<-hx];exact Z4 ho λw g n v hv=>by rw[hx]at hv;exact nT hv
  ·cases h
 ·rename_i op t x y yt ho;split at h
  ·rename_i z hz;injection h with h;subst h;exact AhK he.Dm ho hz
  obtain⟨z,hz,rfl⟩:=WA (f:=λR K=>l5 op (match en.Dm.get t with |some ti=>ti.ty==.bool |none=>false) (σ.B7 x) (σ.B7 y) K) (λR K=>pG ..) (g:=λv=>⟨v,σ.An,[]⟩) h
  refine ze ho (λhb=>?_) hz;split at hb
  ·rename_i ti ht;exact tC (he.t ht) (by simpa using hb)
  ·cases hb
 ·rename_i op t x ho;obtain⟨z,hz,rfl⟩:=WA (f:=λR K=>unA op (σ.B7 x) K) (λR K=>xr ..) (g:=λv=>⟨v,σ.An,[]⟩) h;exact AeF ho hz
 ·rename_i s t x ho;split at h
  ·rename_i ts ti WG ht;obtain⟨z,hz,rfl⟩:=WA (f:=λR K=>Zu σ.An (match en.Dm.get ts.elem with |some te=>if ts.DZ=true then some te.ty else none |none=>none) ti.ty (σ.B7 x) K) (λR K=>jO ..) (g:=λv=>⟨v,σ.An,[]⟩) h
   exact rO ho (he.t WG) (he.t ht) (jU he) hz
  ·cases h
 ·rename_i fn first X4 ho
  split at h
  ·split at h
   ·rename_i h0;injection h with h;subst h;exact oq ho h0
   ·cases h
  ·cases h
 ·rename_i t l c ho;split at h
  ·rename_i ti ht;split at h
   ·rename_i te DY;split at h
    ·rename_i IR;exact AeA ho (he.t ht) (he.t DY) IR h
    ·cases h
   ·cases h
  ·cases h
 ·rename_i t x lo hi mx ho;split at h
  ·rename_i d ti hd ht;split at h
   ·split at h
    ·split at h
     ·rename_i IR;split at h
      ·rename_i te DY;exact AhI ho (he.t ht) IR (he.t DY) h
      ·cases h
     ·cases h
    ·cases h
   ·obtain⟨z,hz,rfl⟩:=WA (f:=λR K=>Wb σ.An ti (match en.Dm.get ti.elem with |some te=>if ti.DZ=true then some te.ty else none |none=>none) (σ.B7 x) (lo.map σ.B7) (hi.map σ.B7) (mx.map σ.B7) K) (λR K=>gR ..) (g:=λv=>⟨v,σ.An,[]⟩) h
    exact zl ho (he.t ht) (jU he) hz
  ·cases h
 ·rename_i t x f ho;split at h
  ·rename_i ti ht;obtain⟨z,hz,rfl⟩:=WA (f:=λR K=>iM ti f (σ.B7 x) K) (λR K=>qm ..) (g:=λv=>⟨v,σ.An,[]⟩) h;exact jm ho (he.t ht) hz
  ·cases h
 ·rename_i t x i ho;split at h
  ·rename_i ti ht;split at h
   ·rename_i te DY;split at h
    ·rename_i IR;obtain⟨z,hz,rfl⟩:=WA (f:=λR K=>qU σ.An te.ty (σ.B7 x) (σ.B7 i) K) (λR K=>qV ..) (g:=λv=>⟨v,σ.An,[]⟩) h;exact gV ho (he.t ht) (he.t DY) IR hz
    ·cases h
   ·cases h
  ·cases h
 ·rename_i t x i ho;split at h
  ·rename_i ti ht;split at h
   ·rename_i hs;obtain⟨z,hz,rfl⟩:=WA (f:=λR K=>mb (σ.B7 x) (σ.B7 i) K) (λR K=>pU ..) (g:=λv=>⟨v,σ.An,[]⟩) h;exact zj ho (he.t ht) hs hz
   ·cases h
  ·cases h
 ·rename_i x i ho;split at h
  ·rename_i v hv;split at h
   ·cases h
   ·rename_i ht;injection h with h;subst h;exact rP ho hv (by simpa using ht)
  ·cases h
 ·rename_i c ho;unfold Vt at h;split at h
  ·rename_i hc;split at h
   ·rename_i x t r hx WG;split at h
    ·rename_i ti ht;obtain⟨z,hz,rfl⟩:=WA (f:=λR K=>nK σ.An ti x K) (λR K=>re ..) (g:=λv=>⟨v,σ.An,[]⟩) h;exact AhL ho hc hx WG (he.t ht) hz
    ·cases h
   ·cases h
  ·rename_i hc;split at h
   ·rename_i x y hx;obtain⟨z,hz,rfl⟩:=WA (f:=λR K=>zS false x y K) (λR K=>dJ ..) (g:=λv=>⟨v,σ.An,[]⟩) h;exact AeB (mx:=false) ho hc hx hz
   ·cases h
  ·rename_i hc;split at h
   ·rename_i x y hx;obtain⟨z,hz,rfl⟩:=WA (f:=λR K=>zS true x y K) (λR K=>dJ ..) (g:=λv=>⟨v,σ.An,[]⟩) h;exact AeB (mx:=true) ho hc hx hz
   ·cases h
  ·rename_i hc;split at h
   ·rename_i x y t tx hx WG;split at h
    ·rename_i ti bL ht sH;split at h
     ·rename_i te DY;split at h
      ·rename_i hk;rw[AI5]at hk;exact uQ ho hc hx WG (he.t ht) (he.t DY) hk.1 (he.t sH) hk.2 h
      ·split at h
       ·rename_i hk;rw[AI5]at hk;exact rN ho hc hx WG (he.t ht) (he.t DY) hk.1 (he.t sH) hk.2 h
       ·cases h
     ·cases h
    ·cases h
   ·cases h
  ·cases h
  ·rename_i fo hc;split at h
   ·rename_i g0 X4 hf;split at h
    ·rename_i ca hg;exact Aes he ho hc hf hg h
    ·cases h
   ·cases h
  ·cases h
 ·cases h
theorem AcA{e':G9}{t:Ty}(h:M3 P σ o e)(hf:AgT σ.An.length t e=some e'):M3 P σ o e':=by
 unfold AgT at hf;split at hf
 ·rename_i x hr;split at hf
  ·rename_i hN;injection hf with hf;subst hf;have hZ:∀k∈(e.val.TS e.An).filter (λk=>!decide (k<σ.An.length)),σ.An.length<=k:=λk hk=>by
    have:=(List.mem_filter.1 hk).2;simpa using this
   refine⟨by rw[A3];exact h.grow,λhm=>?_,λa w g hs next Q hn=>h.wp a w g hs next Q λv w' g' H hv st=>?_⟩
   ·obtain⟨l,hl⟩:=h.ext hm;simp only;generalize (e.val.TS e.An).filter (λk=>!decide (k<σ.An.length))=Z at hZ;rw[hl];exact q9 Z _ _ hZ
   ·generalize hZe:(e.val.TS e.An).filter (λk=>!decide (k<σ.An.length))=Z at hZ hn;refine hn v w' (g'.Wl Z) (yj H hN Z) ?_ ⟨st.os,st.tape,st.output,st.size,λb hb h=>?_,λb h=>?_,λb k p h hk hm=>?_,λk hk=>st.AQ k hk⟩
    ·rw[A3];obtain⟨h1,h2⟩:=U7 hr;obtain⟨cs,SV,hv⟩:=BQ h1 h2 hv;obtain⟨fW,Bh⟩:=P4 H t e.val x cs hr SV;refine Bl (a:=.Ax _ t x) rfl ⟨λk hk=>Bh k (List.mem_filter.1 hk).1,fW.mono λb a=>⟨a.Sj.mono λk hk=>?_,rfl⟩⟩ (by rw[show(AV.Ax _ t x).isAgg=e.val.isAgg from(YW hr).symm];exact hv);subst hZe;simp only[List.mem_filter,AKk,AJP,AKl]at hk⊢;refine⟨hk.1,?_⟩;rcases AI9 k σ.An.length with h |h
     ·exact h
     ·exact absurd ⟨hk.1,by omega⟩ hk.2
    ·have:=st.no b hb h;exact⟨by simp[G.Wl,this.1],this.2⟩
    ·have:=st.Ik b h;exact⟨mT this.1,this.2⟩
    ·have:=st.BB b k p h hk hm;exact⟨PI this.1 λhz=>by have:=hZ k hz;omega,this.2⟩
  ·cases hf
 ·cases hf
def G.y8(g:G)(k:Nat):G:=⟨λb=>match g.own b with |.BB j r=>if j=k/\r≠[]then .Ik else .BB j r |t=>t,g.AQ⟩
theorem Jl.rdS{w:World}{own:Nat->Tq}{k:Nat}{A:Nat->Prop}(h:∀b q,q≠[]->own b=.BB k q->A b):∀{t:Ty} {L:AL7 Nat} {x:t.V} {cs:AL7 Value},L≠[]->Jl w own k t L x cs->Ha w A t x cs
 |.int _,_,_,_,_,r=>r
 |.bool,_,_,_,_,r=>r
 |.str,_,_,_,_,r=>r
 |.unit,_,_,_,_,r=>r
 |.Au _ _,_,_,_,_,⟨c,d,e,r1,r2⟩=>⟨c,d,e,Jl.rdS h (by simp) r1,Jl.rdS h (by simp) r2⟩
 |.sl t,L,xs,cs,hL,⟨ad,cap,e,r⟩=>by
  rcases r with ⟨hx,aP⟩|⟨b,e1,Bp,ds,ha,ho,hh,h1,h2,h3,h4,hc⟩
  ·subst hx;exact⟨ad,cap,[],e,by simp,rfl,.inl rfl⟩
  ·refine⟨ad,cap,ds,e,h1,hc.toR λi x c r=>Jl.rdS h (by simp) r,.inr ⟨b,0,ha,h b L hL ho,λj q hq=>?_⟩⟩;rw[PE hh,AJu,<-AJc];subst h4;rw[AJM]at hq;split at hq
   ·exact hq
   ·cases hq
 |.QG _,_,_,_,_,r=>r.elim
theorem y9{e':G9}(h:M3 P σ o e)(hf:xh σ.An.length e=some e'):M3 P σ o e':=by
 unfold xh at hf;split at hf
 ·rename_i k hval;split at hf
  ·rename_i hk;split at hf
   ·rename_i el t xs hb;injection hf with hf;subst hf;refine⟨by simpa using h.grow,λhm=>?_,λa w g hs next Q hn=>h.wp a w g hs next Q λv w' g' H hv st=>?_⟩
    ·obtain⟨l,hl⟩:=h.ext hm;simp only;rw[hl,AKz _ _ hk];exact⟨_,rfl⟩
    ·have hal:∀{ks:AL7 Nat} {b:Nat},Al g'.own ks b->Al (g'.y8 k).own ks b:=λ{ks b} ha=>by
       rcases ha with ha |⟨j,hj,r,ha⟩
       ·exact .inl (by simp[G.y8,ha])
       ·by_cases hc:j=k/\r≠[]
        ·exact .inl (by simp[G.y8,ha,hc])
        ·exact .inr ⟨j,hj,r,by simp only[G.y8,ha,AJh hc]⟩
     have QM:∀{b j:Nat},g'.own b=.BB j []->(g'.y8 k).own b=.BB j []:=λ{b j} h=>by simp[G.y8,h]
     have wH:∀(a:AV) (m:Bool) {cs:AL7 Value},Cs w' g' e.An.length m a cs->Cs w' (g'.y8 k) e.An.length m a cs:=by
      intro a;induction a with
      |Ax ks t x=>intro m cs hx;cases m with
       |false=>exact⟨hx.1,hx.2.mono λb a=>⟨hal a,rfl⟩⟩
       |true=>exact hx.elim
      |EJ ks t x=>intro m cs hx;cases m with
       |false =>
        obtain⟨hk,b,off,ds,e,ha,r,hc⟩:=hx;exact⟨hk,b,off,ds,e,hal ha,r.mono λb a=>⟨hal a,rfl⟩,hc⟩
       |true=>exact hx.elim
      |Tf k i p o e=>intro m cs hx;cases m with
       |false =>
        obtain⟨hk,h0,h1,b,v,ha,ho,e1,e2,hc⟩:=hx;exact⟨hk,h0,h1,b,v,ha,QM ho,e1,e2,hc⟩
       |true=>exact hx.elim
      |U6 k i p o j u=>intro m cs hx;cases m with
       |false =>
        obtain⟨hk,h0,h1,b,b',l,c,ha,ho,e1,e2,hc⟩:=hx;exact⟨hk,h0,h1,b,b',l,c,ha,QM ho,e1,e2,hc⟩
       |true=>exact hx.elim
      |pr a b iha ihb=>intro m cs hx;cases m with
       |false =>
        obtain⟨c,d,e,h1,h2⟩:=hx;exact⟨c,d,e,iha false h1,ihb false h2⟩
       |true=>exact hx.elim
      |fn f c ih=>intro m cs hx;cases m with
       |false =>
        obtain⟨vs,e,hx⟩:=hx;exact⟨vs,e,ih true hx⟩
       |true=>exact hx.elim
      |cons a b iha ihb=>intro m cs hx;cases m with
       |true =>
        obtain⟨v,r,e,h1,h2⟩:=hx;exact⟨v,r,e,h1.imp id λ⟨cs,hx,hv⟩=>⟨cs,iha false hx,hv⟩,ihb true h2⟩
       |false=>exact hx.elim
      |_=>intro m cs hx;cases m<;>exact hx
     refine hn v w' (g'.y8 k) ⟨λb hb=>by simp[G.y8,H.BP b hb],λj x hx=>?_⟩ ?_ ⟨st.os,st.tape,st.output,st.size,λb hb h=>?_,λb h=>?_,λb j p h hj hm=>?_,λj hj=>st.AQ j hj⟩
     ·rw[AI7];rw[AJn]at hx;split at hx
      ·rename_i ek;subst ek;split at hx
       ·injection hx with hx;subst hx;obtain⟨QA,hlen,Pu,BH,hr⟩:=H.Ls k _ hb;cases sC:t.BA with
        |true=>exact⟨sC,hlen,Pu,BH,hr.imp id λ⟨b,Bp,ds,ha,ho,hh,h1,h2,h3,h4,hc⟩=>⟨b,0,Bp,ds,ha,QM ho,hh,h1,h2,by rw[AJu];exact h3,h4,Dt.2 ((Dt.1 hc).mono λi x c h=>(S6.BA sC).2 ((S6.BA sC).1 h))⟩⟩
        |false =>
        refine⟨λj hj=>(by cases hj),hlen,Pu,BH,hr.imp id λ⟨b,Bp,ds,ha,ho,hh,h1,h2,h3,h4,hc⟩=>⟨b,Bp,ds,ha,QM ho,hh,h1,h2,h3,h4,?_⟩⟩;exact hc.toR λi x c r=>Jl.rdS (λb q hq hb=>.inl (by simp[G.y8,hb,hq])) (by simp) r
       ·cases hx
      ·rename_i Lr;have hB:=H.Ls j x hx;cases x with
       |AK=>trivial
       |map m kt vt es st =>
        obtain⟨QA,b,Gw,Dk,ha,ho,hh,Rm,hm⟩:=hB;refine⟨QA,b,Gw,Dk,ha,QM ho,hh,Rm,hm.on λi x c r=>?_⟩;cases m with
        |Ai =>
         refine Jl.mono (λb q hb=>⟨?_,rfl⟩) r;have:¬(j=k/\q++[i]≠[]):=λhq=>Lr hq.1.symm;show(match g'.own b with |.BB j r=>if j=k/\r≠[]then Tq.Ik else .BB j r |t=>t)=_
         rw[hb];exact AJh this
        |sh ks=>exact Ha.mono (λb a=>⟨hal a,rfl⟩) r
       |QE e2 t xs i p =>
        obtain⟨h1,h2,h3,h4,h5,u,o,x0,b,Bp,ds,q1,q2,q3,ha,ho,hh,c1,c2,c3,c4,hc⟩:=hB;refine⟨h1,h2,h3,h4,h5,u,o,x0,b,Bp,ds,q1,q2,q3,ha,QM ho,hh,c1,c2,c3,c4,hc.mono λi x c r=>r.mono λb q hb=>⟨?_,rfl⟩⟩;have:¬(j=k/\q++[i]≠[]):=λhq=>Lr hq.1.symm;show(match g'.own b with |.BB j r=>if j=k/\r≠[]then Tq.Ik else .BB j r |t=>t)=_
        rw[hb];exact AJh this
       |tail e2 t xs =>
        obtain⟨sC,hlen,Pu,BH,hr⟩:=hB;exact⟨sC,hlen,Pu,BH,hr.imp id λ⟨b,o,Bp,ds,ha,ho,hh,h1,h2,h3,h4,hc⟩=>⟨b,o,Bp,ds,ha,QM ho,hh,h1,h2,h3,h4,Dt.2 ((Dt.1 hc).mono λi x c h=>(S6.BA sC).2 ((S6.BA sC).1 h))⟩⟩
       |box a =>
        obtain⟨h1,b,cs,e,ha,ho,hh,hx⟩:=hB;exact⟨h1,b,cs,e,ha,QM ho,hh,wH a false hx⟩
       |row e2 m t xs =>
        obtain⟨QA,hlen,Pu,BH,hr⟩:=hB;refine⟨QA,hlen,Pu,BH,hr.imp id λ⟨b,Bp,ds,ha,ho,hh,h1,h2,h3,h4,hc⟩=>⟨b,Bp,ds,ha,QM ho,hh,h1,h2,h3,h4,?_⟩⟩;cases m with
        |Ai =>
         refine hc.mono λi x c r=>r.mono λb q hb=>⟨?_,rfl⟩;have:¬(j=k/\q++[i]≠[]):=λhq=>Lr hq.1.symm;show(match g'.own b with |.BB j r=>if j=k/\r≠[]then Tq.Ik else .BB j r |t=>t)=_
         rw[hb];exact AJh this
        |sh ks=>exact hc.mono λx c r=>r.mono λb a=>⟨hal a,rfl⟩
     ·rw[AI7];rw[hval]at hv;obtain⟨hk1,cT⟩:=EP hv;rw[cT];exact Bl (cs:=[_]) rfl ⟨hk1,rfl⟩ rfl
     ·have:=st.no b hb h;exact⟨by simp[G.y8,this.1],this.2⟩
     ·have:=st.Ik b h;exact⟨by simp[G.y8,this.1],this.2⟩
     ·have:=st.BB b j p h hj hm;have Lr:¬(j=k/\p≠[]):=λhq=>by have:=hq.1;omega
      exact⟨by simp only[G.y8,this.1,AJh Lr],this.2⟩
   ·cases hf
  ·cases hf
 ·cases hf
theorem AeC{t:TypeId}{x:Operand}(ho:o.op=.load t x){ti:TI}(ht:EC P t ti)(IR:ti.DZ=true){k:Nat}{i:Int}{p:AL7 Nat}{f e0:Nat}(hx:σ.B7 x=.ptr k i p f){el:Nat}{tr:Ty}{xs:AL7 tr.V}(hb:σ.An[k]?=some (.row el .Ai tr xs)){v:AV}(Sl:atP σ.An k i p f=some v)(KD:v.size=1):M3 P σ o ⟨.Tf k i p f e0,σ.An,[]⟩ :=
 .Il <| K1 (s:=λρ=>Instr.loadAt t (ρ x)) (λρ=>by simp[execOp,ho]) λa w g BJ=>by
  have Wv:=AJ BJ x;rw[hx]at Wv;obtain⟨hk,h0,h1,b,M6,yw⟩:=KL Wv;obtain⟨QA,hlen,Pu,BH,hr⟩:=BJ.heap.Ls k _ hb;obtain⟨cs,iP,C9⟩:=Vj BJ.heap Sl h1 M6;have W6:ti.ty.size=1/\ti.ty.isAgg=false:=by
   unfold TI.DZ at IR;split at IR
   ·rename_i u hu;rw[hu];exact⟨rfl,rfl⟩
   ·cases IR
  have hl:cs.length=ti.ty.size:=by rw[iP.len,KD,W6.1]
  obtain⟨v1,cT,o5⟩:=RY (w:=w) ht hl C9 (λhg=>by rw[hl];exact W6.1);rw[W6.2]at o5;have SV:cs=[v1]:=o5;subst SV;rcases hr with ⟨WC,_⟩|⟨b',Bp,ds,ha,Ce,_⟩
  ·rw[hlen,WC]at h1;simp at h1
  ·rw[M6]at ha;injection ha with ha;injection ha with ha;subst ha;refine⟨v1,by rw[yw];simp[Instr.loadAt,Instr.sureAddr,cT],Bl (cs:=[v1]) rfl ⟨hk,h0,h1,b,v1,M6,Ce,rfl,iP.one v1 (by simp),?_⟩ rfl⟩;have:=C9 0 v1 rfl;simpa using this
theorem w8{w:World}{g:G}{n k:Nat}{i:Int}{p:AL7 Nat}{e b:Nat}(hk:k<n)(h0:0<=i)(h1:i.toNat<(g.AQ k).len)(M6:(g.AQ k).a=some ⟨b,0,none⟩)(Ce:g.own b=.BB k []){A:Nat->Prop} :
    ∀{t:Ty} {x:t.V} {f o:Nat} {z:AV} {cs:AL7 Value},gw k i p e t x f o=some z->Ha w A t x cs->(∀j u,cs[j]?=some u->w.cell? ⟨b,i.toNat*(g.AQ k).jZ+o+j,none⟩=some u)->Cs w g n false z cs/\z.isAgg=t.isAgg/\z.C5=false
 |.unit,x,f,o,z,cs,h,hr,_=>by
  simp only[gw,AI0]at h;subst h;exact⟨⟨λk hk=>(by cases hk),hr⟩,rfl,rfl⟩
 |.Au a c,x,f,o,z,cs,h,⟨c1,c2,ecs,r1,r2⟩,hc=>by
  simp only[gw]at h;split at h
  ·rename_i r hrr;have Tz:=r1.len;obtain⟨ih,_,_⟩:=w8 hk h0 h1 M6 Ce hrr r2 (λj u hu=>by
    have:=hc (c1.length+j) u (by rw[ecs,AJk (by omega)];rw[show c1.length+j-c1.length=j by omega];exact hu);rw[<-this];congr 2;omega)
   split at h
   ·rename_i IR;injection h with h;subst h;obtain⟨ad,n0,cap,e1⟩:∃ad n0 cap,c1=[.slice ad n0 cap]:=by
     cases a with
     |sl u=>obtain⟨ad,cap,ds,e1,_⟩:=r1;exact⟨_,_,_,e1⟩
     |_=>cases IR
    refine⟨⟨c1,c2,ecs,⟨hk,h0,h1,b,_,M6,Ce,e1,rfl,?_⟩,ih⟩,rfl,rfl⟩;have:=hc 0 _ (by rw[ecs,e1];rfl);simpa using this
   ·split at h
    ·rename_i hf;injection h with h;subst h;exact⟨⟨c1,c2,ecs,⟨λk hk=>(by cases hk),(Ha.BA hf).2 ((Ha.BA hf).1 r1)⟩,ih⟩,rfl,rfl⟩
    ·cases h
  ·cases h
 |.int _,_,_,_,_,_,h,_,_=>by simp[gw]at h
 |.bool,_,_,_,_,_,h,_,_=>by simp[gw]at h
 |.str,_,_,_,_,_,h,_,_=>by simp[gw]at h
 |.sl _,_,_,_,_,_,h,_,_=>by simp[gw]at h
 |.QG _,_,_,_,_,_,h,_,_=>by simp[gw]at h
theorem AeD{t:TypeId}{x:Operand}(ho:o.op=.load t x){ti:TI}(ht:EC P t ti){k:Nat}{i:Int}{p:AL7 Nat}{f e0:Nat}(hx:σ.B7 x=.ptr k i p f){el:Nat}{tr:Ty}{xs:AL7 tr.V}(hb:σ.An[k]?=some (.row el .Ai tr xs)){ks:AL7 Nat}{t':Ty}{y:t'.V}(Sl:atP σ.An k i p f=some (.Ax ks t' y))(dG:t'=ti.ty){z:AV}(hz:gw k i p e0 t' y 0 f=some z):M3 P σ o ⟨z,σ.An,[]⟩ :=
 .Il <| K1 (s:=λρ=>Instr.loadAt t (ρ x)) (λρ=>by simp[execOp,ho]) λa w g BJ=>by
  subst dG;have Wv:=AJ BJ x;rw[hx]at Wv;obtain⟨hk,h0,h1,b,M6,yw⟩:=KL Wv;obtain⟨QA,hlen,Pu,BH,hr⟩:=BJ.heap.Ls k _ hb;obtain⟨cs,iP,C9⟩:=Vj BJ.heap Sl h1 M6;have hl:cs.length=ti.ty.size:=iP.len;obtain⟨v1,cT,o5⟩:=RY (P:=P) (w:=w) ht hl C9 (λhg=>by rw[hl];exact R6 hg);rcases hr with ⟨WC,_⟩|⟨b',Bp,ds,ha,Ce,_⟩
  ·rw[hlen,WC]at h1;simp at h1
  ·rw[M6]at ha;injection ha with ha;injection ha with ha;subst ha;obtain⟨h2,h3,h4⟩:=w8 hk h0 h1 M6 Ce hz iP.2 C9;exact⟨v1,by rw[yw];simp[Instr.loadAt,Instr.sureAddr,cT],Bl h4 h2 (by rw[h3];exact o5)⟩
theorem AaQ(he:EnvOk P en){v:AV}(h:eB en σ o=some v):M3 P σ o ⟨v,σ.An,[]⟩:=by
 unfold eB at h;split at h
 ·rename_i t x ho;split at h
  ·cases h
  ·rename_i d hd;split at h
   ·rename_i e ti k i p f _ ht hxp;split at h
    ·rename_i el tr xs v0 hb Sl;split at h
     ·rename_i hc;injection h with h;subst h;exact AeC ho (he.t ht) hc.1 hxp hb Sl hc.2
     ·split at h
      ·rename_i ks t' y Ay8;split at h
       ·rename_i dG;exact AeD ho (he.t ht) hxp hb Sl dG h
       ·cases h
      ·cases h
    ·cases h
   ·cases h
 ·rename_i t Gb ho;split at h
  ·rename_i ti ht;split at h
   ·cases h
   ·rename_i hn;split at h
    ·rename_i te DY;split at h
     ·rename_i dG;exact om ho (he.t ht) (he.t DY) hn dG h
     ·cases h
    ·cases h
  ·cases h
 ·rename_i t x i ho;split at h
  ·rename_i ti ht;split at h
   ·cases h
   ·rename_i hn;split at h
    ·rename_i te DY;split at h
     ·rename_i ks kk j hi;split at h
      ·rename_i hj;split at h
       ·rename_i v' hv;split at h
        ·rename_i KD;injection h with h;subst h;exact oo ho (he.t ht) (he.t DY) hn hi hj hv KD
        ·cases h
       ·cases h
      ·cases h
     ·cases h
    ·cases h
  ·cases h
 ·rename_i t x f ho;split at h
  ·rename_i ti ht;split at h
   ·rename_i fo u v' hfo hu hv;split at h
    ·rename_i hc;injection h with h;subst h;exact zh ho (he.t ht) hfo hu hv hc
    ·cases h
   ·cases h
  ·cases h
 ·rename_i c ho;split at h
  ·rename_i t r hc hx WG;split at h
   ·rename_i ti ht;split at h
    ·rename_i hs;injection h with h;subst h;exact zg ho hc hx WG (he.t ht) hs
    ·cases h
   ·cases h
  ·cases h
 ·rename_i t x i ho;split at h
  ·rename_i ti ht;split at h
   ·cases h
   ·rename_i hn;split at h
    ·rename_i te DY;split at h
     ·rename_i ks kk j hi;split at h
      ·rename_i hj;exact bG ho (he.t ht) (he.t DY) hn hi hj.1 hj.2 h
      ·cases h
     ·cases h
    ·cases h
  ·cases h
 ·cases h
theorem uR{t:TypeId}{x v:Operand}(ho:o.op=.store t x v){ti:TI}(ht:EC P t ti){k:Nat}{i:Int}{p:AL7 Nat}{f:Nat}{j:Int}{u:Ty}(hx:σ.B7 x=.U6 k i p f j u)(h:uX σ.An ti k i p f j u (σ.B7 v)=some e):M3 P σ o e:=by
 unfold uX at h;split at h
 ·rename_i ek tr xs hb;split at h
  ·rename_i ys hg;split at h
   ·rename_i y Ye;split at h
    ·rename_i y' cZ;split at h
     ·rename_i x' Fx;split at h
      ·rename_i hc;obtain⟨dG,kn,hu,ADy,ADd,Ut⟩:=hc;injection h with h;subst h;have iT:=AO hb;have oY:((A6 [k] σ.An).set k Blk.AK++[Blk.row 0 .Ai u ys]).length=σ.An.length+1:=by simp[Ay]
       refine⟨by simp only[AI7,Ay,A3,oY];omega,λhm=>by simp at hm,λa w g BJ next Q hn=>?_⟩
       have Wv:=AJ BJ x;rw[hx]at Wv;obtain⟨cs,⟨hk,h0,h1,b,b',l,c,M6,Ce,e1,kg,C9⟩,hval⟩:=BQ rfl rfl Wv;subst e1;have hpv:a.eval x=.pointer (some ⟨b',j.toNat*u.size,none⟩):=by
        have:[Value.pointer (some ⟨b',j.toNat*u.size,none⟩)]=[a.eval x]:=hval;injection this with h _;exact h.symm
       obtain⟨g1,H1,QP,yn,YO,_⟩:=XG BJ.heap hb h1 hg kn hu M6 C9 Fx;have hN:((A6 [k] σ.An).set k Blk.AK++[Blk.row 0 .Ai u ys])[σ.An.length]?=some (.row 0 .Ai u ys):=by rw[AJk (by simp[Ay])];simp[Ay]
       obtain⟨_,hvs⟩:=EP yn;injection hvs with wE Tz _;obtain⟨_,AiE,Azr,_,_⟩:=H1.Ls σ.An.length (.row 0 .Ai u ys) hN;have ADk:BS w g1 (σ.An.length+1) (.ptr σ.An.length j [] 0) (.pointer (some ⟨b',j.toNat*u.size,none⟩)):=by
        have:=bf (w:=w) (g:=g1) (n:=σ.An.length+1) (p:=[]) (o:=0) (AJE σ.An.length) kg.1 (by rw[<-Tz];exact kg.2) wE.symm;rwa [Azr,AKV]at this
       have cT:BS w g1 (σ.An.length+1) (σ.B7 v) (a.eval v):=by
        have:=(AJ BJ v).step QP (AJz _);rwa [Nr λq hq=>by
         simp only[ALf,AJp,AJP];intro e;subst e;simp only[ALf,AJP]at Ut;exact Ut hq]at this
       obtain⟨w2,g2,DT,H2,OH⟩:=Xo (σ:=⟨[],(A6 [k] σ.An).set k Blk.AK++[Blk.row 0 .Ai u ys]⟩) H1 ht hN Ye ⟨ADd,ADy,rfl,rfl⟩ cZ (by show BS w g1 _ _ _;rw[oY];exact ADk) (by show BS w g1 _ _ _;rw[oY];exact cT);simp only at H2 OH;rw[oY]at OH;have Apv:k∉[σ.An.length]:=by simp;omega
       have fR:k≠σ.An.length:=by omega
       generalize hE:(Blk.Gl (A6 [σ.An.length] ((A6 [k] σ.An).set k Blk.AK++[Blk.row 0 .Ai u ys])) []).set σ.An.length (.row 0 .Ai u (ys.set j.toNat y'))=E at H2 hn;have zI:E.length=σ.An.length+1:=by rw[<-hE];simp[A3,Ay]
       have hEN:E[σ.An.length]?=some (.row 0 .Ai u (ys.set j.toNat y')):=by rw[<-hE,ALc (by simp[A3,Ay])]
       have stA:Step [σ.An.length,k] E.length w2 g2 w2 (g2.bR σ.An.length k (TH p [i.toNat])):=r5;have AhM:Step [k,σ.An.length] E.length w2 g2 w2 (g2.bR σ.An.length k (TH p [i.toNat])):=stA.weaken (λq hq=>by simp at hq⊢;exact hq.symm) (AI4 _);have ki:(((A6 [k,σ.An.length] E).set σ.An.length Blk.AK).set k (.row ek .Ai tr (xs.set i.toNat x'))).length=E.length:=by simp[Ay]
       have Adb:LZ w2 (g2.bR σ.An.length k (TH p [i.toNat])) E.length k (.row ek .Ai tr (xs.set i.toNat x')) :=
        YO w2 g2 E.length 0 (λb q hb=>OH.BB b k q hb (by omega) Apv) (λj hj=>OH.AQ j (by omega)) (H2.Ls σ.An.length _ hEN)
       unfold Oper.wp;simp only[execOp,ho,hpv,Sem.run_bind,DT,Result.andThen_ok];refine hn undef w2 (g2.bR σ.An.length k (TH p [i.toNat])) ?_ Qy ?_
       ·refine H2.Y7 AhM (λb hb=>by simp[G.bR,H2.BP b hb]) (by rw[ki];exact AI4 _) λj' y QW=>?_;rw[ki];rcases Ry QW with ⟨rfl,rfl⟩|⟨Lr,QW⟩
        ·exact .inr (.inr Adb)
        ·rcases Ry QW with ⟨rfl,rfl⟩|⟨Apz,QW⟩
         ·exact .inl rfl
         ·obtain⟨y',cZ,rfl⟩:=C8 QW;exact .inr (.inl ⟨by simp only[AKo,AK5,or_false,not_or];exact⟨Lr,Apz⟩,y',cZ,rfl⟩)
       ·refine⟨OH.os.trans QP.os,OH.tape.trans QP.tape,OH.output.trans QP.output,OH.size,λb hb h=>?_,λb h=>?_,λb j' q h QW hm=>?_,λj' QW=>?_⟩
        ·have h1:=QP.no b hb h;have h2:=OH.no b hb h1.1;exact⟨by simp[G.bR,h2.1],h2.2⟩
        ·have h1:=QP.Ik b h;have h2:=OH.Ik b h1.1;exact⟨by simp[G.bR,h2.1],h2.2⟩
        ·simp only[AJ2,AJp,not_or]at hm;have h1:=QP.BB b j' q h QW (by simpa using hm.2);have h2:=OH.BB b j' q h1.1 (by omega) (by simpa using hm.1);exact⟨dk h2.1 (by omega),h2.2⟩
        ·show g2.AQ j'=_;rw[OH.AQ j' (by omega),QP.AQ j' QW]
      ·cases h
     ·cases h
    ·cases h
   ·cases h
  ·cases h
 ·cases h
theorem AdX(he:EnvOk P en)(h:yR en σ o=some e):M3 P σ o e:=by
 unfold yR at h;split at h
 ·rename_i t x v ho;split at h
  ·rename_i ti k i p f j u ht hx;exact uR ho (he.t ht) hx h
  ·cases h
 ·cases h
theorem AhS(he:EnvOk P en)(h:tlE en σ o=some (true,e)):M3 P σ o e:=by
 unfold tlE at h;split at h
 ·rename_i t x lo ho;split at h
  ·rename_i ti k ks kk l yy hx hl;split at h
   ·rename_i el u xs te hb DY;split at h
    ·rename_i hc;obtain⟨IR,hu⟩:=hc;subst hu;simp only[AI0,AJb,AI5,AKl]at h;obtain⟨⟨h0,h1⟩,rfl⟩:=h;exact Aet ho (he.t yy) IR (he.t DY) hx hl hb h0 h1
    ·cases h
   ·cases h
  ·cases h
 ·rename_i t x y ho;split at h
  ·rename_i ti k ks kk l yy hx hl;split at h
   ·rename_i el u xs te hb DY;split at h
    ·rename_i hc;obtain⟨IR,hu⟩:=hc;subst hu;simp only[AI0,AJb,AI5,AKl]at h;obtain⟨⟨h0,h1⟩,rfl⟩:=h;exact Aew ho (he.t yy) IR (he.t DY) hx hl hb h0 h1
    ·cases h
   ·cases h
  ·cases h
 ·rename_i c ho;split at h
  ·rename_i k t hc hx WG;split at h
   ·rename_i el u xs ti hb yy;split at h
    ·rename_i IR;simp only[AI0,AJb,true_and]at h;subst h;exact Aex ho hc hx WG (he.t yy) IR hb
    ·cases h
   ·cases h
  ·rename_i k y t tx hc hx WG;split at h
   ·rename_i el u xs0 ti bL hb yy sH;split at h
    ·rename_i te DY;split at h
     ·rename_i xs ys m2 rs qz fX;split at h
      ·rename_i qA;obtain⟨IR,hkx,_,oX,Tx,_⟩:=qA;obtain⟨ec,hec⟩:=Bz qz;injection ec with ec;subst ec;simp only at hec;subst hec;simp only[AI0,AJb,AKl]at h;obtain⟨Pv,rfl⟩:=h;exact Aer ho hc hx WG (he.t yy) (he.t DY) IR (he.t sH) hkx oX hb Tx fX Pv
      ·cases h
     ·cases h
    ·cases h
   ·cases h
  ·cases h
 ·cases h
theorem Aem(he:EnvOk P en)(h:rL en σ o=some e):M3 P σ o e:=by
 exact AdX he h
theorem aJ(he:EnvOk P en)(h:Ur en σ o some=some e):M3 P σ o e:=by
 unfold Ur at h;split at h
 ·rename_i v hv;injection h with h;subst h;exact AaQ he hv
 split at h
 ·rename_i e' hv;injection h with h;subst h;exact Aem he hv
 split at h
 ·rename_i c e' hv;cases c with
  |false=>cases h
  |true=>injection h with h;subst h;exact AhS he hv
 split at h
 ·cases hd:fu en o with
  |false=>rw[hd]at h;exact aK he h
  |true =>
   rw[hd]at h;simp only[AJe]at h;rw[L4 en he.Yk]at h;cases hx:QL en σ o some with
   |none=>rw[hx]at h;cases h
   |some e0 =>
    rw[hx]at h;simp only[AIY]at h;split at h
    ·rename_i e' hf;injection h with h;subst h;exact y9 (aK he hx) hf
    ·cases h
 ·rename_i t _;rw[L4 en he.Yk]at h;cases hx:QL en σ o some with
  |none=>rw[hx]at h;cases h
  |some e0 =>
   rw[hx]at h;simp only[AIY]at h;split at h
   ·rename_i e' hf;injection h with h;subst h;exact AcA (aK he hx) hf
   ·cases h
theorem RJ(he:EnvOk P en)(h:exec en σ o some=some e):M3 P σ o e:=by
 unfold exec at h;split at h
 ·split at h
  ·split at h
   ·rename_i bs hp;rw[Vs en he.Yk]at h;cases hx:Ur en ⟨σ.AF,bs⟩ o some with
    |none=>rw[hx]at h;cases h
    |some e0 =>
     rw[hx,AIY]at h;split at h
     ·cases h
     ·rename_i hm;injection h with h;subst h;have hs:=aJ he hx;obtain⟨l',hf⟩:=rD hp;have hl:=qj hf;refine⟨AJs hl hs.grow,λsD=>by rw[sD]at hm;exact(hm rfl).elim,λa w g BJ next Q hn=>?_⟩
      obtain⟨_,g',H',st⟩:=wu hf BJ.heap;exact hs.wp a w g' ⟨H',BJ.len,λi x hx=>(BJ.AF i x hx).Qx st hl⟩ next Q λv w' g2 h1 h2 h3=>hn v w' g2 h1 h2 (st.trans h3 hl)
   ·cases h
  ·exact aJ he h
 ·exact aJ he h
end
def Bq(m:Nat)(w:World)(g:G)(w':World)(g':G):Prop:=Step (List.range m) m w g w' g'
theorem Bq.refl(m:Nat)(w:World)(g:G):Bq m w g w g:=Step.refl _ _ _ _
theorem Step.vb{Bu:AL7 Nat}{n m:Nat}{w w':World}{g g':G}(s:Step Bu n w g w' g')(h:m<=n):Bq m w g w' g' :=
 ⟨s.os,s.tape,s.output,s.size,s.no,s.Ik,λ_ k _ _ hk hm=>(hm (List.mem_range.2 hk)).elim,λk hk=>s.AQ k (AJA hk h)⟩
theorem Bq.trans{m:Nat}{w w1 w2:World}{g g1 g2:G}(s:Bq m w g w1 g1)(t:Bq m w1 g1 w2 g2):Bq m w g w2 g2:=by
 have h:=Step.trans s t (AI4 _);exact⟨h.os,h.tape,h.output,h.size,h.no,h.Ik,λ_ k _ _ hk hm=>(hm (List.mem_range.2 hk)).elim,h.AQ⟩
theorem Aej{l:AL7 AV}{d:Nat}{x:AV}(h:l[d]?=some x):l.set d x=l:=by
 apply AKj;intro i;rw[AJn];split
 ·rename_i he;subst he;split
  ·exact h.symm
  ·rename_i hl;rw[AJC (Nat.le_of_not_lt hl)]
 ·rfl
inductive Want (all:List Oper) (σ:St) (o:Oper):Bool->Prop where
 |plain (h:o.guard=none):Want all σ o true
 |guard {g:Nat} {dh:Bool} {d:Nat} {b:Bool} (h:o.guard=some (g,dh)) (hd:(all[g]?).bind (·.dst)=some d) (hb:σ.AF[d]?=some (.bool b)):Want all σ o (b==dh)
 |nil {g:Nat} {dh:Bool} {d:Nat} (h:o.guard=some (g,dh)) (hd:(all[g]?).bind (·.dst)=some d) (hb:σ.AF[d]?=some .nil):Want all σ o false
theorem O5{R:Type}{all:AL7 Oper}{σ:St}{o:Oper}{Kt Kf:St->AL8 R}{r:R}(h:V0 all σ o Kt Kf=some r):(Want all σ o true/\Kt σ=some r)\/(Want all σ o false/\Kf σ=some r):=by
 unfold V0 at h;split at h
 ·rename_i hg;exact .inl ⟨.plain hg,h⟩
 ·rename_i g dh hg;split at h
  ·cases h
  ·rename_i d hd;split at h
   ·rename_i b hb;have e:({σ with AF:=σ.AF.set d (.bool b)}:St)=σ:=by
     have:=Aej hb;cases σ;simp only at this⊢;rw[this]
    cases b
    ·simp only[AJd]at h;rw[e]at h;split at h
     ·rename_i hw;subst hw;exact .inr ⟨.guard hg hd hb,h⟩
     ·rename_i hw;have:dh=false:=by simpa using hw
      subst this;exact .inl ⟨.guard hg hd hb,h⟩
    ·simp only[AJe]at h;rw[e]at h;split at h
     ·rename_i hw;subst hw;exact .inl ⟨.guard hg hd hb,h⟩
     ·rename_i hw;have:dh=false:=by simpa using hw
      subst this;exact .inr ⟨.guard hg hd hb,h⟩
   ·rename_i hb;exact .inr ⟨.nil hg hd hb,h⟩
   ·cases h
theorem fJ{R:Type}{all:AL7 Oper}{σ:St}{o:Oper}{T:Type}{Kt Kf:St->AL8 R}{Kt' Kf':St->AL8 T}{K:T->AL8 R}(h1:∀σ,Kt σ=(Kt' σ).bind K)(h2:∀σ,Kf σ=(Kf' σ).bind K):V0 all σ o Kt Kf=(V0 all σ o Kt' Kf').bind K:=by
 unfold V0;split
 ·exact h1 _
 ·split
  ·rfl
  ·split
   ·rename_i b _;cases b<;>simp only[AJe,AJd]<;>split<;>first |exact h1 _ |exact h2 _
   ·exact h2 _
   ·rfl
section
variable {P:Program} {en:Gd} {R:Type}
theorem qh(he:X1 en)(σ:St)(o:Oper){T:Type}{K:G9->AL8 R}{K':G9->AL8 T}{k:T->AL8 R}(h:∀e,K e=(K' e).bind k):exec en σ o K=(exec en σ o K').bind k:=by
 rw[RI en he σ o K,RI en he σ o K'];cases exec en σ o some with
 |none=>rfl
 |some e=>exact h e
theorem Tk(he:X1 en)(all:AL7 Oper):∀(is:AL7 Nat) (σ:St) (K:St->AL8 R),QK en all is σ K=(QK en all is σ some).bind K
 |[],_,_=>rfl
 |i::is,σ,K=>by
  simp only[QK];split
  ·rfl
  ·refine fJ (λσ=>?_) λσ=>Tk he all is _ K;exact qh he σ _ λe=>Tk he all is _ K
theorem Tj(he:X1 en)(all:AL7 Oper)(A:AL7 (Nat×AL7 Nat)):∀(is done Np:AL7 Nat) (σ:St) (K:St->AL8 R),Tv en all A is done Np σ K=(Tv en all A is done Np σ some).bind K
 |[],_,_,_,_=>rfl
 |i::is,done,Np,σ,K=>by
  simp only[Tv];split
  ·rfl
  ·split
   ·refine fJ (λσ=>?_) λσ=>Tj he all A is _ _ _ K;refine qh he σ _ λe=>?_;split
    ·exact Tj he all A is _ _ _ K
    ·split
     ·exact Tj he all A is _ _ _ K
     ·rfl
   ·rfl
theorem zc{w:World}{g:G}{σ:St}{a:Act}(hs:Kg w g σ a){d:Nat}{b:Bool}(h:σ.AF[d]?=some (.bool b)):a.tmps[d]?=some (.bool b):=by
 have h1:=RF (hs.AF d _ h);have hl:d<a.tmps.size:=by rw[<-hs.len];exact AO h
 rw[AJS hl];rw[AJ1,AJS hl]at h1;exact congrArg some h1
theorem Aep{w:World}{g:G}{σ:St}{a:Act}(hs:Kg w g σ a){d:Nat}(h:σ.AF[d]?=some .nil):a.tmps[d]?=some (.tuple #[]):=by
 have h1:a.tmps.getD d undef=.tuple #[]:=hs.AF d _ h;have hl:d<a.tmps.size:=by rw[<-hs.len];exact AO h
 rw[AJS hl];rw[AJ1,AJS hl]at h1;exact congrArg some h1
theorem Jk{w:World}{g:G}{σ:St}{a:Act}{B4:Array Oper}{o:Oper}{t:Bool}(hs:Kg w g σ a)(h:Want B4.toList σ o t):Region.wanted o (yielded B4 a.tmps)=t:=by
 cases h with
 |plain h=>simp[Region.wanted,h]
 |guard h hd hb =>
  have h1:=zc hs hb;rw[AJc]at hd;simp[Region.wanted,h,yielded,hd,h1]
 |nil h hd hb =>
  have h1:=Aep hs hb;rw[AJc]at hd;simp[Region.wanted,h,yielded,hd,h1]
theorem Kg.skip{w:World}{g:G}{σ:St}{a:Act}(h:Kg w g σ a)(d:AL8 Nat):Kg w g (σ.skip d) (a.put d undef) where
 heap:=h.heap
 len:=by simp only[St.skip,ZX,VH];exact h.len
 AF:=lf h.len h.AF (show BS w g _ .nil undef from rfl)
theorem put_defers(a:Act)(d:AL8 Tmp)(v:Value):(a.put d v).defers=a.defers:=by cases d<;>rfl
theorem ZE(he:EnvOk P en){B4:Array Oper}{m:Nat}{Q:Exit->Act->World->Prop}:∀(is:AL7 Nat) (σ σ':St),QK en B4.toList is σ some=some σ'->m<=σ.An.length->m<=σ'.An.length/\∀(a:Act) (w:World) (g:G),Kg w g σ a ->
    (∀a' w' g',Kg w' g' σ' a'->Bq m w g w' g'->a'.defers=a.defers->Q .normal a' w')->wpOps P B4 Q is a w
 |[],σ,σ',h,hm=>by
  simp only[QK,AI0]at h;subst h;exact⟨hm,λa w g hs hq=>hq a w g hs (Bq.refl _ _ _) rfl⟩
 |i::is,σ,σ',h,hm=>by
  simp only[QK]at h;split at h
  ·cases h
  ·rename_i o ho;have wR:B4[i]?=some o:=by rw[<-AJc];exact ho
   rcases O5 h with ⟨hw,h⟩|⟨hw,h⟩
   ·rw[RI en he.Yk]at h;cases hx:exec en σ o some with
    |none=>rw[hx]at h;cases h
    |some e =>
     rw[hx]at h;have PK:=RJ he hx;have O6:=PK.grow;obtain⟨hm',ih⟩:=ZE he (Q:=Q) is _ _ h (AJs hm O6);refine⟨hm',λa w g hs hq=>?_⟩;simp only[wpOps,wR];rw[AJg (Jk hs hw)];refine .inl (PK.wp a w g hs _ Q λv w' g' hH hv BJ=>?_);exact ih _ _ _ (hs.after O6 hH hv BJ) λa'' w'' ym ApG Adf hd=>hq a'' w'' ym ApG ((BJ.vb hm).trans Adf) (by rw[hd,put_defers])
   ·obtain⟨hm',ih⟩:=ZE he (Q:=Q) is _ _ h hm;refine⟨hm',λa w g hs hq=>?_⟩;simp only[wpOps,wR];rw[Jk hs hw];simp only[AJN,AKv];exact ih _ _ _ (hs.skip o.dst) λa'' w'' ym ApG Adf hd=>hq a'' w'' ym ApG Adf (by rw[hd,put_defers])
end
theorem TU{n:Nat}{ks:AL7 Nat}{k:Nat}:k∈Yx n ks↔k<n/\k∈ks:=by simp[Yx]
section
variable {w:World} {g:G} {n:Nat}
theorem Al.DV{ks:AL7 Nat}(h:∀k∈ks,k<n){b:Nat}(a:Al g.own ks b):Al g.own (Yx n ks) b:=a.mono λk hk=>TU.2 ⟨h k hk,hk⟩
theorem eW(a:AV):(a.DV n).Nc=a.Nc:=by cases a<;>rfl
theorem bU(a:AV):(a.DV n).isAgg=a.isAgg:=by cases a<;>rfl
theorem pT(a:AV):(a.DV n).C5=a.C5:=by cases a<;>rfl
theorem Cs.DV:∀(a:AV) (m:Bool) {cs:AL7 Value},Cs w g n m a cs->Cs w g n m (a.DV n) cs
 |.Ax ks t x,false,cs,⟨hk,r⟩=>⟨λk h=>(TU.1 h).1,r.mono λb a=>⟨a.DV hk,rfl⟩⟩
 |.zs,false,_,h=>h
 |.Am _,false,_,h=>h
 |.mp _,false,_,h=>h
 |.ptr _ _ _ _,false,_,h=>h
 |.EJ ks t x,false,cs,⟨hk,b,off,ds,e,ha,r,hc⟩=>⟨λk h=>(TU.1 h).1,b,off,ds,e,ha.DV hk,r.mono λb a=>⟨a.DV hk,rfl⟩,hc⟩
 |.LO,false,_,h=>h
 |.Tf _ _ _ _ _,false,_,h=>h
 |.U6 _ _ _ _ _ _,false,_,h=>h
 |.pr a b,false,_,⟨c,e,he,h1,h2⟩=>⟨c,e,he,Cs.DV a _ h1,Cs.DV b _ h2⟩
 |.fn f c,false,_,⟨vs,e,hx⟩=>⟨vs,e,Cs.DV c true hx⟩
 |.un k,false,_,h=>h
 |.cons a b,true,_,⟨v,r,e,h1,h2⟩=>by
  refine⟨v,r,e,?_,Cs.DV b true h2⟩;rw[eW,bU];exact h1.imp id λ⟨cs,hx,hv⟩=>⟨cs,Cs.DV a _ hx,hv⟩
 |.nil,true,_,h=>h
 |.cons _ _,false,_,h=>h.elim
 |.nil,false,_,h=>h.elim
 |.Tf _ _ _ _ _,true,_,h=>h.elim
 |.U6 _ _ _ _ _ _,true,_,h=>h.elim
 |.Ax _ _ _,true,_,h=>h.elim
 |.zs,true,_,h=>h.elim
 |.Am _,true,_,h=>h.elim
 |.mp _,true,_,h=>h.elim
 |.ptr _ _ _ _,true,_,h=>h.elim
 |.EJ _ _ _,true,_,h=>h.elim
 |.LO,true,_,h=>h.elim
 |.pr _ _,true,_,h=>h.elim
 |.fn _ _,true,_,h=>h.elim
 |.un _,true,_,h=>h.elim
theorem BS.DV{a:AV}{v:Value}(h:BS w g n a v):BS w g n (a.DV n) v:=by
 cases ht:a.C5 with
 |false =>
  rw[BS.iff ht]at h;rw[BS.iff (by rw[pT];exact ht),eW,bU];exact h.imp id λ⟨cs,hx,hv⟩=>⟨cs,Cs.DV a _ hx,hv⟩
 |true =>
  cases a with
  |cons a b=>obtain⟨vs,e,h⟩:=h;exact⟨vs,e,Cs.DV _ true h⟩
  |nil=>exact h
  |_=>cases ht
theorem LZ.DV{k:Nat}{b:Blk}(h:LZ w g n k b):LZ w g n k (b.DV n):=by
 cases b with
 |AK=>trivial
 |map m kt vt es st =>
  cases m with
  |Ai=>exact h
  |sh ks =>
   obtain⟨QA,b,Gw,Dk,ha,ho,hh,Rm,hm⟩:=h;exact⟨λj hj=>(TU.1 hj).1,b,Gw,Dk,ha,ho,hh,Rm,hm.on λi x c r=>by
    exact r.mono λb a=>⟨a.DV QA,rfl⟩⟩
 |QE e t xs i p=>exact h
 |tail e t xs=>exact h
 |box a =>
  obtain⟨h1,b,cs,e,ha,ho,hh,hx⟩:=h;exact⟨h1,b,cs,e,ha,ho,hh,Cs.DV a _ hx⟩
 |row e m t xs =>
  cases m with
  |Ai=>exact h
  |sh ks =>
   obtain⟨QA,hlen,Pu,BH,hr⟩:=h;refine⟨λj hj=>(TU.1 hj).1,hlen,Pu,BH,hr.imp id λ⟨b,Bp,ds,ha,ho,hh,h1,h2,h3,h4,hc⟩=>⟨b,Bp,ds,ha,ho,hh,h1,h2,h3,h4,?_⟩⟩;exact hc.mono λx c r=>r.mono λb a=>⟨a.DV QA,rfl⟩
end
def G.pick(g:G)(π:AL7 Nat):G:=⟨λb=>match g.own b with |.BB k r=>if k∈π then .BB (idxOf π k) r else .no |t=>t,λj=>g.AQ (π.getD j 0)⟩
theorem Tn{bs:AL7 Blk}{m:Nat}{π Cf:AL7 Nat}(h:yU bs m π Cf=true):π.take m=List.range m/\nodup π=true/\(∀k∈Cf,k∈π)/\∀k∈π,∃b,bs[k]?=some b/\∀j∈b.Cf,j∈π:=by
 simp only[yU,AI5,AJ5]at h
 grind
theorem Ad5{m:Nat}{π:AL7 Nat}(h:π.take m=List.range m):m<=π.length/\∀j,j<m->π[j]?=some j:=by
 have hl:(π.take m).length=m:=by grind
 rw[AJj]at hl;refine⟨by omega,λj hj=>?_⟩;have:(π.take m)[j]?=some j:=by grind
 grind
section
variable {w:World} {g:G} {bs:AL7 Blk} {π Cf:AL7 Nat} {m:Nat}
theorem ZV{k:Nat}(hk:k∈π):Ren (idxOf π) g (g.pick π) π.length k where
 lt:=ni hk
 AQ:=by
  have:=nh hk;simp[G.pick,this]
 own b r h:=by simp[G.pick,h,hk]
theorem ZU{b:Nat}(h:g.own b=.Ik):(g.pick π).own b=.Ik:=by simp[G.pick,h]
theorem kR(H:Ba w g bs)(h:yU bs m π Cf=true):Ba w (g.pick π) (π.map λk=>(((bs[k]?).getD .AK).Nm (idxOf π)).DV π.length):=by
 obtain⟨_,hn,_,SU⟩:=Tn h;refine⟨λb hb=>by simp[G.pick,H.BP b hb],λj x hx=>?_⟩;rw[AJr]at hx;cases hj:π[j]? with
 |none=>grind
 |some k =>
  rw[hj]at hx;injection hx with hx;subst hx;have hk :=AKr hj;obtain⟨b,hb,QD⟩:=SU k hk;have:=(H.Ls k b hb).Nm    (λb h=>ZU h) (ZV hk) (λj hj=>ZV (QD j hj));rw[aT hn hj]at this;simp only[hb,AJa];exact this.DV
theorem kS(h:yU bs m π Cf=true):Bq m w g w (g.pick π)/\m<=π.length:=by
 obtain⟨ht,hn,_,SU⟩:=Tn h;obtain⟨h1,h2⟩:=Ad5 ht;refine⟨⟨rfl,rfl,rfl,AI4 _,λb _ h=>⟨by simp[G.pick,h],rfl⟩,λb h=>⟨ZU h,rfl⟩,λb k p h hk hm=>(hm (List.mem_range.2 hk)).elim,λk hk=>?_⟩,h1⟩;simp[G.pick,h2 k hk]
theorem kr:∀{Bb:AL7 Nat} {l:AL7 AV} {j i:Nat} {x:AV},(QO Bb j l)[i]?=some x->∃y,l[i]?=some y/\(x=y\/x=.un 0)
 |Bb,a::r,j,0,x,h=>by
  simp only[QO,List.getElem?_cons_zero,AI0]at h
  grind
 |Bb,a::r,j,i+1,x,h=>by
  simp only[QO]at h;obtain⟨y,hy,hx⟩:=kr h
  grind
 |_,[],_,_,_,h=>by simp[QO]at h
theorem aU(Bb:AL7 Nat):∀(l:AL7 AV) (j:Nat),(QO Bb j l).length=l.length
 |[],_=>rfl
 |_::r,j=>by simp[QO,aU Bb r]
theorem Ahv{σ σ0:St}{l:AL7 Nat}(h:σ.Av m l=some σ0){a:Act}(hs:Kg w g σ a):∃g0,Kg w g0 σ0 a/\Bq m w g w g0/\m<=σ0.An.length:=by
 unfold St.Av at h
 dsimp only at h
 split at h
 ·rename_i hp;injection h with h;subst h;obtain⟨BJ,hm⟩:=kS   hp;obtain⟨_,_,QD,_⟩:=Tn hp;refine⟨_,⟨kR hs.heap hp,by simp[aU];exact hs.len,λi x hx=>?_⟩,BJ,by grind⟩;simp only[AJa];rw[AJr]at hx;cases hq:(QO l 0 σ.AF)[i]? with
  |none=>grind
  |some y =>
   rw[hq]at hx;injection hx with hx;subst hx;obtain⟨z,hz,hyz⟩:=kr hq;rcases hyz with rfl |rfl
   ·exact((hs.AF i y hz).Nm (λb h=>ZU h) λk hk=>ZV (QD k (List.mem_flatMap.2 ⟨y,AKr hq,hk⟩))).DV
   ·exact Qy
 ·grind
theorem AcC{m:Nat}{Z:AL7 Nat}:Bq m w g w (g.Wl Z) :=
 ⟨rfl,rfl,rfl,AI4 _,λb _ h=>⟨by simp[G.Wl,h],rfl⟩,λb h=>⟨mT h,rfl⟩,λb k p h hk hm=>(hm (List.mem_range.2 hk)).elim,λk hk=>rfl⟩
theorem mR{bs:AL7 Blk}(H:Ba w g bs){m:Nat}{t:Ty}{v v':AV}{Gx:AL7 Blk}(h:AcB m t v bs=some (v',Gx)) :
    ∃g',Ba w g' Gx/\Gx.length=bs.length/\Bq m w g w g'/\(∀a u,BS w g bs.length a u->BS w g' bs.length a.Za u)/\(∀u,BS w g bs.length v u->BS w g' bs.length v' u)/\(∀k,g'.AQ k=g.AQ k)/\∀cs,Cs w g bs.length false v cs->Cs w g' bs.length false v' cs:=by
 unfold AcB at h;split at h
 ·rename_i x hr;obtain⟨rfl,rfl⟩:=h;have key:∀cs,Cs w g bs.length false v cs->Cs w (g.Wl ((v.TS bs).filter λk=>!decide (k<m))) bs.length false (.Ax ((v.TS bs).filter λk=>decide (k<m)) t x) cs:=by
   intro cs SV;obtain⟨fW,Bh⟩:=P4 H t v x cs hr SV;refine⟨λk hk=>Bh k (List.mem_filter.1 hk).1,fW.mono λb a=>⟨a.Sj.mono λk hk=>?_,rfl⟩⟩
   grind
  refine⟨g.Wl _,qq H _,by simp[A3],AcC,λa u h=>h.Sj _,λu hu=>?_,λk=>rfl,?_⟩
  ·obtain⟨h1,h2⟩:=U7 hr;obtain⟨cs,SV,hv⟩:=BQ h1 h2 hu;exact Bl  rfl (key cs SV) (by rw[show(AV.Ax _ t x).isAgg=v.isAgg from(YW hr).symm];exact hv)
  ·grind
 ·grind
end
section
variable {w:World} {g:G} {bs:AL7 Blk} {m:Nat}
end
section
variable {w:World} {g:G} {bs:AL7 Blk} {m:Nat}
theorem tH(H:Ba w g bs){c:Co}{a a':AV}{nb:AL7 Blk}(h:xY bs c a=some (a',nb)){v:Value}(hx:BS w g bs.length a v):∃g',Ba w g' (bs++nb)/\BS w g' (bs++nb).length a' v/\Step [] bs.length w g w g':=by
 have bB:a'=a/\nb=[]->∃g',Ba w g' (bs++nb)/\BS w g' (bs++nb).length a' v/\Step [] bs.length w g w g':=by
  rintro⟨rfl,rfl⟩
  exact⟨g,by grind,by grind,Step.refl _ _ _ _⟩
 have AIj:a.C5=true\/a.Nc=true->a'=a/\nb=[]:=by
  intro hq;cases c with
  |Ax t =>
   simp only[xY]at h;split at h
   ·rename_i y hy;obtain⟨h1,h2⟩:=U7 hy
    grind
   ·grind
  |cN ks=>cases a<;>simp_all [xY,AV.C5,AV.Nc]
  |row p e t Ai =>
   have:a.UU p≠some .zs:=by
    cases a<;>simp[AV.C5,AV.Nc]at hq<;>cases p<;>simp[AV.UU,AV.YG]
   simp only[xY]at h
   grind
 by_cases ht:a.C5=true
 ·grind
 ·by_cases hu:a.Nc=true
  ·grind
  ·obtain⟨cs,SV,hv⟩:=BQ (by grind) (by grind) hx;obtain⟨g',h1,h2,h3,h4⟩:=tJ H h SV;exact⟨g',h1,Bl (U1 h2) h2 (by grind),h4⟩
theorem AoZ{σ σ':St}{s:Nat}{b:Bool}{c:Co}(h:coS σ s b c=some σ'){a:Act}(hs:Kg w g σ a)(hm:m<=σ.An.length):∃g',Kg w g' σ' a/\Bq m w g w g'/\m<=σ'.An.length:=by
 unfold coS at h;split at h
 ·grind
 ·rename_i v hv;cases b with
  |false =>
   simp only[AJd]at h;split at h
   ·rename_i v' nb yo;injection h with h;subst h;obtain⟨g',h1,h2,h3⟩:=tH hs.heap yo (hs.AF s v hv);refine⟨g',⟨h1,by simp only[AI7];exact hs.len,λi x hx=>?_⟩,h3.vb hm,by grind⟩;rw[AJn]at hx;split at hx
    ·grind
    ·exact(hs.AF i x hx).Qx h3 (by simp)
   ·grind
  |true =>
   split at h
   ·rename_i k i p o;split at h
    ·rename_i a0 hb;split at h
     ·rename_i a' nb yo;injection h with h;subst h;obtain⟨hlen,bb,cs,e,ha,ho,hh,hx⟩:=hs.heap.Ls k _ hb;obtain⟨g',h1,h2,h3,h4⟩:=tJ hs.heap yo hx;have hk:=AO hb;have kl:(σ.An.set k (.box a')++nb).length=(σ.An++nb).length:=by simp
      refine⟨g',⟨⟨h1.BP,λj x hj=>?_⟩,hs.len,λi x qR=>(hs.AF i x qR).Qx h4 (by simp)⟩,h4.vb hm,by grind⟩;rw[kl];rw[AJo]at hj;split at hj
      ·rename_i X5;rw[AI7]at X5;rw[AJn]at hj;split at hj
       ·rename_i ek;subst ek;injection hj with hj;subst hj;have hl:=h4.BB bb k [] ho hk (by simp);exact⟨by rw[h4.AQ k hk];exact hlen,bb,cs,e,by rw[h4.AQ k hk];exact ha,hl.1,hh,h2⟩
       ·exact h1.Ls j x (by grind)
      ·rename_i X5;rw[AI7]at X5 hj;exact h1.Ls j x (by grind)
     ·grind
    ·grind
   ·grind
theorem fa:∀{l:AL7 (Nat×Bool×Co)} {σ σ':St} {g:G},Zs l σ=some σ'->∀{a:Act},Kg w g σ a->m<=σ.An.length->∃g',Kg w g' σ' a/\Bq m w g w g'/\m<=σ'.An.length
 |[],σ,σ',g,h,a,hs,hm=>by
  simp only[Zs,AI0]at h;subst h;exact⟨g,hs,Bq.refl _ _ _,hm⟩
 |(s,b,c)::r,σ,σ',g,h,a,hs,hm=>by
  simp only[Zs]at h;split at h
  ·rename_i σ1 h1;obtain⟨g1,QN,QP,SX⟩:=AoZ h1 hs hm;obtain⟨g2,XN,OH,RN⟩:=fa h QN SX;exact⟨g2,XN,QP.trans OH,RN⟩
  ·grind
theorem gv{bs:AL7 Blk}(H:Ba w g bs){k e:Nat}{md:RM}{t:Ty}{xs:AL7 t.V}(hb:bs[k]?=some (.row e md t xs))(M8:k∉md.Cf) :
    ∃g',Ba w g' (Blk.Gl (A6 [k] bs) [k]++[.row e md t xs])/\Step [k] bs.length w g w g'/\g'.AQ bs.length=g.AQ k:=by
 obtain⟨QA,hlen,Pu,BH,hr⟩:=H.Ls k _ hb
 let n:=bs.length
 let f:Nat->AL7 Nat->Tq:=λj r=>if j=k then .BB n r else .BB j r
 let g':=g.Ui f none n (g.AQ k)
 have st:Step [k] n w g w g':=Step.Ui H.BP rfl rfl rfl (AI4 _) (λ_ _ _=>rfl) (λq h=>by cases h) (AI4 _) λj r _ hm=>by
  simp only[AJp]at hm;simp[f,hm]
 have Nu:g'.AQ n=g.AQ k:=by simp[g',G.Ui]
 refine⟨g',H.Y7 st (L5 H.BP (AI4 _) λq h=>by cases h) (by simp[A3,Ay]) λj y hj=>?_,st,Nu⟩;rw[AJo]at hj;split at hj
 ·rcases Km hj with h |⟨kh,h⟩
  ·exact .inl h
  ·obtain⟨y',cZ,rfl⟩:=C8 h;exact .inr (.inl ⟨kh,y',cZ,rfl⟩)
 ·rename_i Bh;rw[A3,Ay]at hj Bh;have kg:j-bs.length=0:=by
   rcases AJm (j-bs.length)with h |h
   ·exact h
   ·rw[AJC (by simp;omega)]at hj;cases hj
  rw[kg]at hj;obtain rfl:j=n:=by simp only[n];omega
  simp only[List.getElem?_cons_zero,AI0]at hj;subst hj;refine .inr (.inr ⟨λj hj=>by have:=QA j hj;simp[A3,Ay];omega,by rw[Nu];exact hlen,by rw[Nu];exact Pu,BH,?_⟩);rw[Nu];refine hr.imp id λ⟨b,Bp,ds,ha,Ce,AcL,p1,p2,p3,p4,Ps⟩=>⟨b,Bp,ds,ha,by rw[Ia (by simp) Ce];simp[f],AcL,p1,p2,p3,p4,?_⟩;rw[Dt];refine(Dt.1 Ps).mono λi x c Tx=>Tx.on ?_;cases md with
  |Ai=>exact λb q hb=>⟨by rw[Ia (by simp) hb];simp[f],rfl⟩
  |sh ks =>
   intro b hb;rcases hb with hb |⟨j,hj,r,hb⟩
   ·exact⟨.inl (UQ (by simp) hb),rfl⟩
   ·refine⟨.inr ⟨j,hj,r,?_⟩,rfl⟩;have:j≠k:=λe=>M8 (e▸hj);rw[Ia (by simp) hb];simp[f,this]
theorem nQ:∀{l:AL7 Nat} {σ σ':St} {g:G},mvS m l σ=some σ'->∀{a:Act},Kg w g σ a->m<=σ.An.length->∃g',Kg w g' σ' a/\Bq m w g w g'/\m<=σ'.An.length
 |[],σ,σ',g,h,a,hs,hm=>by
  simp only[mvS,AI0]at h;subst h;exact⟨g,hs,Bq.refl _ _ _,hm⟩
 |s::r,σ,σ',g,h,a,hs,hm=>by
  simp only[mvS]at h;split at h
  ·rename_i k hv;split at h
   ·split at h
    ·rename_i e md t xs hb;split at h
     ·cases h
     ·rename_i M8;obtain⟨g1,H1,st,Sl⟩:=gv hs.heap hb (by simpa using M8);have hl:(Blk.Gl (A6 [k] σ.An) [k]++[Blk.row e md t xs]).length=σ.An.length+1:=by simp[A3,Ay]
      have QN:Kg w g1 ⟨(Tt [k] σ.AF).set s (.Am σ.An.length),Blk.Gl (A6 [k] σ.An) [k]++[.row e md t xs]⟩ a:=by
       refine⟨H1,by simp[Tt];exact hs.len,λi x hx=>?_⟩;simp only[hl];rw[AJn]at hx;split at hx
       ·rename_i e';subst e';split at hx
        ·injection hx with hx;subst hx;obtain⟨hk,hv2⟩:=EP (hs.AF s _ hv);rw[hv2];exact Bl (cs:=[_]) rfl ⟨AJE _,by rw[Sl]⟩ rfl
        ·cases hx
       ·obtain⟨y,hy,rfl⟩:=XH hx;exact(hs.AF i y hy).step st (AJz _)
      obtain⟨g2,XN,OH,RN⟩:=nQ h QN (by simp only[hl];omega);exact⟨g2,XN,(st.vb hm).trans OH,RN⟩
    ·cases h
   ·exact nQ h hs hm
  ·exact nQ h hs hm
theorem AaS{w:World}{g:G}{n j N:Nat}{p:AL7 Nat}{a a2:AV}{v:Value}(h:BS w g n a v)(hp:a.UU p=some (.Am j))(Fx:a.Y2 p (.Am N)=some a2)(hN:N<n)(Sl:g.AQ N=g.AQ j):BS w g n a2 v:=by
 cases p with
 |nil =>
  simp only[AV.UU,AI0]at hp;simp only[AV.Y2,AI0]at Fx;subst hp;subst Fx;obtain⟨_,hv⟩:=EP h;rw[hv,<-Sl];exact Bl (cs:=[_]) rfl ⟨hN,rfl⟩ rfl
 |cons f p =>
  have h2:a2.isAgg=true:=by
   simp only[AV.Y2]at Fx;split at Fx
   ·split at Fx
    ·exact Y1 Fx
    ·cases Fx
   ·cases Fx
  have h1:a.isAgg=true/\a.C5=false/\a.Nc=false:=by
   simp only[AV.UU]at hp;cases a with
   |pr x y=>exact⟨rfl,rfl,rfl⟩
   |Ax ks t x =>
    cases t with
    |Au b c=>exact⟨rfl,rfl,rfl⟩
    |_=>simp[AV.YG,VZ]at hp
   |_=>simp[AV.YG]at hp
  obtain⟨cs,SV,hv⟩:=BQ h1.2.1 h1.2.2 h;obtain⟨c0,c1,c2,e1,_,hr,YO⟩:=Q8 (f::p) _ cs _ SV hp;obtain⟨_,M7⟩:=hr;have qS:=YO (.Am N) a2 c1 Fx ⟨hN,by rw[M7,Sl]⟩;rw[<-e1]at qS;have ht:a2.C5=false:=by cases a2<;>first |rfl |cases h2
  exact Bl ht qS (by rw[h2];rw[h1.1]at hv;exact hv)
theorem AdQ{m s:Nat}{p:AL7 Nat}{a:Act}{a0:AV}{σ σ2:St}{g:G}(sG:σ.AF[s]?=some a0)(h:mvV m s p a0 σ=some σ2)(hs:Kg w g σ a)(hm:m<=σ.An.length):∃g',Kg w g' σ2 a/\Bq m w g w g'/\m<=σ2.An.length:=by
 unfold mvV at h;split at h
 ·rename_i j hp;split at h
  ·split at h
   ·rename_i e md t xs hj;split at h
    ·cases h
    ·rename_i M8;split at h
     ·rename_i j' a2 b7 Fx;split at h
      ·rename_i hc;subst hc;injection h with h;subst h;obtain⟨g1,H1,st,Sl⟩:=gv hs.heap hj (by simpa using M8);have hl:(Blk.Gl (A6 [j'] σ.An) [j']++[Blk.row e md t xs]).length=σ.An.length+1:=by simp[A3,Ay]
       refine⟨g1,⟨H1,by simp[Tt];exact hs.len,λi x hx=>?_⟩,st.vb hm,by simp only[hl];omega⟩;rw[hl];rcases Ry hx with ⟨rfl,rfl⟩|⟨Lr,hx⟩
       ·have hv:=(hs.AF i a0 sG).step st (AJz _);exact AaS hv b7 Fx (AJE _) (by rw[Sl,st.AQ j' (AO hj)])
       ·obtain⟨y,hy,rfl⟩:=XH (show(Tt [j'] σ.AF)[i]?=some x from hx);exact(hs.AF i y hy).step st (AJz _)
      ·cases h
     ·cases h
   ·cases h
  ·injection h with h;subst h;exact⟨g,hs,Bq.refl _ _ _,hm⟩
 ·cases h
theorem uz{m k:Nat}{p:AL7 Nat}{w:World}{a:Act}{σ σ2:St}{g:G}(h:mvB m k p σ=some σ2)(hs:Kg w g σ a)(hm:m<=σ.An.length):∃g',Kg w g' σ2 a/\Bq m w g w g'/\m<=σ2.An.length:=by
 unfold mvB at h;split at h
 ·rename_i a0 hb;split at h
  ·rename_i j hp;split at h
   ·split at h
    ·rename_i e md t xs hj;split at h
     ·cases h
     ·rename_i M8;split at h
      ·rename_i j' a2 b7 Fx;split at h
       ·rename_i hc;obtain⟨rfl,hkj⟩:=hc;injection h with h;subst h;obtain⟨g1,H1,st,Sl⟩:=gv hs.heap hj (by simpa using M8);have hl:(Blk.Gl (A6 [j'] σ.An) [j']++[Blk.row e md t xs]).length=σ.An.length+1:=by simp[A3,Ay]
        have hk:=AO hb;have dC:(Blk.Gl (A6 [j'] σ.An) [j']++[Blk.row e md t xs])[k]?=some (.box (a0.drop λq=>[j'].contains q)):=by
         rw[AJl (by rw[A3,Ay];exact hk)];simp only[Blk.Gl,A6,AJn,AJr,hb,Option.map_some,Blk.drop,AJh (λe:j'=k=>hkj e.symm)]
        obtain⟨h1,bb,cs,el,ha,ho,hh,hx⟩:=H1.Ls k _ dC;rw[hl]at hx;obtain⟨c0,c1,c2,e1,_,hr,YO⟩:=Q8 p _ cs.toList _ hx b7;obtain⟨X5,M7⟩:=hr;have qS:=YO (.Am σ.An.length) a2 c1 Fx ⟨AJE _,by rw[M7,Sl,st.AQ j' (AO hj)]⟩;rw[<-e1]at qS;refine⟨g1,⟨⟨H1.BP,λq x hq=>?_⟩,by simp[Tt];exact hs.len,λi x hx=>?_⟩,st.vb hm,by simp only[AI7,hl];omega⟩
        ·rw[AI7,hl];rw[AJn]at hq;split at hq
         ·rename_i e';subst e';split at hq
          ·injection hq with hq;subst hq;exact⟨h1,bb,cs,el,ha,ho,hh,qS⟩
          ·cases hq
         ·have:=H1.Ls q x hq;rwa [hl]at this
        ·simp only[AI7,hl];obtain⟨y,hy,rfl⟩:=XH (show(Tt [j'] σ.AF)[i]?=some x from hx);exact(hs.AF i y hy).step st (AJz _)
       ·cases h
      ·cases h
    ·cases h
   ·injection h with h;subst h;exact⟨g,hs,Bq.refl _ _ _,hm⟩
  ·cases h
 ·cases h
theorem w6:∀{l:AL7 (Nat×AL7 Nat)} {σ σ':St} {g:G},AdP m l σ=some σ'->∀{a:Act},Kg w g σ a->m<=σ.An.length->∃g',Kg w g' σ' a/\Bq m w g w g'/\m<=σ'.An.length
 |[],σ,σ',g,h,a,hs,hm=>by
  simp only[AdP,AI0]at h;subst h;exact⟨g,hs,Bq.refl _ _ _,hm⟩
 |(s,p)::r,σ,σ',g,h,a,hs,hm=>by
  simp only[AdP]at h;split at h
  ·rename_i σ1 h1;have h2:∃g',Kg w g' σ1 a/\Bq m w g w g'/\m<=σ1.An.length:=by
    unfold mvP at h1;split at h1
    ·exact uz h1 hs hm
    ·rename_i a0 sG;exact AdQ sG h1 hs hm
    ·cases h1
   obtain⟨g1,QN,QP,SX⟩:=h2;obtain⟨g2,XN,OH,RN⟩:=w6 h QN SX;exact⟨g2,XN,QP.trans OH,RN⟩
  ·cases h
theorem ZI:∀{l:AL7 (Nat×Bool×Ty)} {σ σ':St} {g:G},mQ m l σ=some σ'->∀{a:Act},Kg w g σ a->m<=σ.An.length->∃g',Kg w g' σ' a/\Bq m w g w g'/\m<=σ'.An.length
 |[],σ,σ',g,h,a,hs,hm=>by
  simp only[mQ,AI0]at h;subst h;exact⟨g,hs,Bq.refl _ _ _,hm⟩
 |(s,false,t)::r,σ,σ',g,h,a,hs,hm=>by
  simp only[mQ]at h;split at h
  ·exact ZI h hs hm
  ·rename_i v _ hv;split at h
   ·rename_i v' Gx hf;obtain⟨g1,H1,hl,QP,ha,cT,_,_⟩:=mR hs.heap hf;have QN:Kg w g1 ⟨(σ.AF.map AV.Za).set s v',Gx⟩ a:=by
     refine⟨H1,by simpa using hs.len,λi x hx=>?_⟩;simp only[hl];rw[AJn]at hx;split at hx
     ·rename_i e;subst e;split at hx
      ·injection hx with hx;subst hx;exact cT _ (hs.AF s v hv)
      ·cases hx
     ·rw[AJr]at hx;cases hq:σ.AF[i]? with
      |none=>rw[hq]at hx;cases hx
      |some y =>
       rw[hq]at hx;injection hx with hx;subst hx;exact ha _ _ (hs.AF i y hq)
    obtain⟨g2,XN,OH,RN⟩:=ZI h QN (by simp only[hl];exact hm);exact⟨g2,XN,QP.trans OH,RN⟩
   ·cases h
  ·cases h
 |(s,true,t)::r,σ,σ',g,h,a,hs,hm=>by
  simp only[mQ]at h;split at h
  ·rename_i k _ _ _ hv;split at h
   ·rename_i a0 hb;split at h
    ·rename_i a' Gx hf;obtain⟨g1,H1,hl,QP,ha,cT,Sl,cY⟩:=mR hs.heap hf;split at h
     ·rename_i a1 dC;have QN:Kg w g1 ⟨σ.AF.map AV.Za,Gx.set k (.box a')⟩ a:=by
       refine⟨⟨H1.BP,λj x hj=>?_⟩,by simpa using hs.len,λi x hx=>?_⟩
       ·rw[AI7];rw[AJn]at hj;split at hj
        ·rename_i e;subst e;split at hj
         ·injection hj with hj;subst hj;obtain⟨p1,b,cs,e,wE,ho,hh,hx⟩:=H1.Ls k _ dC;obtain⟨q1,b2,cs2,e2,ha2,iU,hh2,qS⟩:=hs.heap.Ls k _ hb;rw[Sl,ha2]at wE;injection wE with wE;injection wE with wE;subst wE;rw[hh2]at hh;injection hh with hh;injection hh with hh;subst hh;exact⟨p1,b2,cs2,e2,by rw[Sl];exact ha2,ho,hh2,by rw[hl];exact cY _ qS⟩
         ·cases hj
        ·exact H1.Ls j x hj
       ·simp only[AI7,hl];rw[AJr]at hx;cases hq:σ.AF[i]? with
        |none=>rw[hq]at hx;cases hx
        |some y =>
         rw[hq]at hx;injection hx with hx;subst hx;exact ha _ _ (hs.AF i y hq)
      obtain⟨g2,XN,OH,RN⟩:=ZI h QN (by simp only[AI7,hl];exact hm);exact⟨g2,XN,QP.trans OH,RN⟩
     ·cases h
    ·cases h
   ·cases h
  ·exact ZI h hs hm
theorem vi{ks:AL7 Nat}{n:Nat}(hk:∀j∈ks,j<n):∀{a:AV} {cs:AL7 Value},Cs w g n false a cs->Cs w g n false (a.wid ks) cs
 |.Ax l t x,cs,h=>by
  unfold AV.wid;split
  ·rename_i hc;have YQ:∀j∈l,j∈ks:=λj hj=>by have:=List.all_eq_true.1 hc.2 j hj;simpa using this
   exact⟨hk,h.2.mono λb a=>⟨a.mono YQ,rfl⟩⟩
  ·exact h
 |.pr _ _,_,⟨c,d,e,h1,h2⟩=>⟨c,d,e,vi hk h1,vi hk h2⟩
 |.zs,_,h=>h
 |.Am _,_,h=>h
 |.ptr _ _ _ _,_,h=>h
 |.EJ _ _ _,_,h=>h
 |.LO,_,h=>h
 |.Tf _ _ _ _ _,_,h=>h
 |.U6 _ _ _ _ _ _,_,h=>h
 |.mp _,_,h=>h
 |.fn _ _,_,h=>h
 |.un _,_,h=>h
 |.cons _ _,_,h=>h.elim
 |.nil,_,h=>h.elim
theorem oS:∀{l:AL7 (Nat×AL7 Nat)} {bs Gx:AL7 Blk},oR l bs=some Gx->Ba w g bs->Ba w g Gx/\Gx.length=bs.length
 |[],bs,Gx,h,H=>by
  simp only[oR,AI0]at h;subst h;exact⟨H,rfl⟩
 |(k,ks)::r,bs,Gx,h,H=>by
  simp only[oR]at h;split at h
  ·rename_i e l t xs hb;split at h
   ·rename_i hc;rw[AI5]at hc;have YQ:∀j∈l,j∈ks:=λj hj=>by have:=List.all_eq_true.1 hc.1 j hj;simpa using this
    have Bh:∀j∈ks,j<bs.length:=λj hj=>by have:=List.all_eq_true.1 hc.2 j hj;simpa using this
    have H1:Ba w g (bs.set k (.row e (.sh ks) t xs)):=by
     refine⟨H.BP,λj x hx=>?_⟩;rw[AI7];rw[AJn]at hx;split at hx
     ·rename_i ek;subst ek;split at hx
      ·injection hx with hx;subst hx;obtain⟨QA,hlen,Pu,BH,hr⟩:=H.Ls k _ hb;refine⟨Bh,hlen,Pu,BH,hr.imp id λ⟨b,Bp,ds,ha,ho,hh,h1,h2,h3,h4,hc⟩=>⟨b,Bp,ds,ha,ho,hh,h1,h2,h3,h4,?_⟩⟩;exact hc.mono λx c r=>r.mono λb a=>⟨a.mono YQ,rfl⟩
      ·cases hx
     ·exact H.Ls j x hx
    obtain⟨H2,hl⟩:=oS h H1;exact⟨H2,by rw[hl,AI7]⟩
   ·cases h
  ·rename_i a hb;split at h
   ·rename_i hc;have Bh:∀j∈ks,j<bs.length:=λj hj=>by have:=List.all_eq_true.1 hc j hj;simpa using this
    have H1:Ba w g (bs.set k (.box (a.wid ks))):=by
     refine⟨H.BP,λj x hx=>?_⟩;rw[AI7];rw[AJn]at hx;split at hx
     ·rename_i ek;subst ek;split at hx
      ·injection hx with hx;subst hx;obtain⟨hlen,b,cs,e,ha,ho,hh,hr⟩:=H.Ls k _ hb;exact⟨hlen,b,cs,e,ha,ho,hh,vi Bh hr⟩
      ·cases hx
     ·exact H.Ls j x hx
    obtain⟨H2,hl⟩:=oS h H1;exact⟨H2,by rw[hl,AI7]⟩
   ·cases h
  ·cases h
theorem V2{h:SH}{σ σ':St}(hh:σ.head h m=some σ'){a:Act}(hs:Kg w g σ a)(hm:m<=σ.An.length):∃g',Kg w g' σ' a/\Bq m w g w g'/\m<=σ'.An.length:=by
 unfold St.head at hh;split at hh
 ·cases hh
 ·rename_i σ0 h0;rw[AJW]at h0;obtain⟨σz,hz,h0⟩:=h0;rw[AJW]at hz;obtain⟨σy,hy,hz⟩:=hz;obtain⟨gy,hsy,sty,hmy⟩:=nQ hy hs hm;obtain⟨gz,KD,ADX,hmz⟩:=w6 hz hsy hmy;have stz:=sty.trans ADX;obtain⟨g0,sG,st0,sD⟩:=ZI h0 KD hmz;split at hh
  ·cases hh
  ·rename_i σ1 h1;obtain⟨g1,QN,QP,SX⟩:=fa h1 sG sD;split at hh
   ·cases hh
   ·rename_i σ2 h2;obtain⟨g2,XN,OH,RN⟩:=Ahv h2 QN;split at hh
    ·cases hh
    ·rename_i bs h3;obtain⟨H3,hl⟩:=oS h3 XN.heap;have qN:Kg w g2 ⟨σ2.AF,bs⟩ a:=⟨H3,XN.len,λi x hx=>by simp only[hl];exact XN.AF i x hx⟩;obtain⟨g3,hs4,st3,hm3⟩:=fa hh qN (by simp only[hl];exact RN);exact⟨g3,hs4,(((stz.trans st0).trans QP).trans OH).trans st3,hm3⟩
end
theorem AgI{σ σ':St}{s:Nat}{b:Bool}{c:Co}(h:coS σ s b c=some σ'):σ.An.length<=σ'.An.length:=by
 unfold coS at h;split at h
 ·cases h
 ·cases b with
  |false =>
   simp only[AJd]at h;split at h
   ·injection h with h;subst h;simp
   ·cases h
  |true =>
   simp only[AJe]at h;split at h
   ·split at h
    ·split at h
     ·injection h with h;subst h;simp
     ·cases h
    ·cases h
   ·cases h
theorem jM:∀{l:AL7 (Nat×Bool×Co)} {σ σ':St},Zs l σ=some σ'->σ.An.length<=σ'.An.length
 |[],σ,σ',h=>by
  simp only[Zs,AI0]at h;subst h;exact AI4 _
 |(s,b,c)::r,σ,σ',h=>by
  simp only[Zs]at h;split at h
  ·rename_i σ1 h1;exact AJs (AgI h1) (jM h)
  ·cases h
theorem iq:∀{l:AL7 (Nat×AL7 Nat)} {bs Gx:AL7 Blk},oR l bs=some Gx->Gx.length=bs.length
 |[],bs,Gx,h=>by
  simp only[oR,AI0]at h;subst h;rfl
 |(k,ks)::r,bs,Gx,h=>by
  simp only[oR]at h;split at h
  ·split at h
   ·rw[iq h,AI7]
   ·cases h
  ·split at h
   ·rw[iq h,AI7]
   ·cases h
  ·cases h
theorem Vw{h:SH}{m:Nat}{σ σ':St}(hh:σ.head h m=some σ'):m<=σ'.An.length:=by
 unfold St.head at hh;split at hh
 ·cases hh
 ·split at hh
  ·cases hh
  ·split at hh
   ·cases hh
   ·rename_i σ2 h2;split at hh
    ·cases hh
    ·rename_i bs h3;refine AJs ?_ (jM hh);simp only[iq h3];unfold St.Av at h2
     dsimp only at h2
     split at h2
     ·rename_i hp;injection h2 with h2;subst h2;have:=(Ad5 (Tn hp).1).1;simpa using this
     ·cases h2
def mF:Ex->Exit
 |.normal=>.normal
 |.exit n=>.exit n
 |.ret=>.ret
theorem zC{P:Program}{Q:Exit->Act->World->Prop}{c:Code}(R:Nat->Act->World->Prop)(round:∀n a w,R n a w->c.wp P (Exit.then (λa' w'=>∃k,k<n/\R k a' w') Q) a w){n:Nat}{a:Act}{w:World}(h0:R n a w):(Code.loop c).wp P Q a w:=by
 intro b k cs;have key:∀n a w,R n a w->∃e a' w',Q e a' w'/\Arrives P (lone (b.at a (.code c::.inLoop c::k)) cs w) b k cs e a' w':=by
  intro n;induction n using Nat.strongRecOn with
  |_ n ih =>
   intro a w hI;obtain⟨e,a₁,w₁,hq,iN⟩:=round n a w hI b (.inLoop c::k) cs;cases e with
   |normal =>
    obtain⟨j,Bh,hI₁⟩:=hq;obtain⟨e₂,a₂,w₂,hq₂,Ay7⟩:=ih j Bh a₁ w₁ hI₁;exact⟨e₂,a₂,w₂,hq₂,.of_steps (Steps.trans iN (.one step_inLoop)) Ay7⟩
   |exit id=>exact⟨_,a₁,w₁,hq,.pass (x:=.inLoop c) rfl (λ_ _=>.inl (by simp)) iN⟩
   |goto l=>exact⟨_,a₁,w₁,hq,.pass (x:=.inLoop c) rfl (λ_ _=>.inl (by simp)) iN⟩
   |ret=>exact⟨_,a₁,w₁,hq,.pass (x:=.inLoop c) rfl (λ_ _=>.inl (by simp)) iN⟩
   |panic ch=>exact⟨_,a₁,w₁,hq,.pass (x:=.inLoop c) rfl (λ_ _=>.inl (by simp)) iN⟩
   |outgrown=>exact⟨_,a₁,w₁,hq,.pass (x:=.inLoop c) rfl (λ_ _=>.inl (by simp)) iN⟩
 obtain⟨e,a',w',hq,iN⟩:=key n a w h0;exact⟨e,a',w',hq,.of_steps (.one step_loop) iN⟩
inductive ToN {S T:Type} (f:S->Option (S⊕T)):Nat->S->T->Prop
 |done {s:S} {t:T} (h:f s=some (.inr t)):ToN f 0 s t
 |bh {s s':S} {t:T} {n:Nat} (h:f s=some (.inl s')) (k:ToN f n s' t):ToN f (n+1) s t
theorem To.n{S T:Type}{f:S->AL8 (S⊕T)}{s:S}{t:T}(h:To f s t):∃n,ToN f n s t:=by
 induction h with
 |done h=>exact⟨0,.done h⟩
 |bh h _ ih=>obtain⟨n,hn⟩:=ih;exact⟨n+1,.bh h hn⟩
structure IL (P:Program) (en:Gd):Prop extends EnvOk P en where
 mixed:P.follows .mixedOrders=true
section
variable {P:Program} {en:Gd} {m:Nat}
abbrev Pj(e:Ex)(σ:St):Option (Ex×St):=some (e,σ)
theorem vg{c:Code}(hn:∀(R:Type) (σ:St) (K:Ex->St->AL8 R),ev en m c R σ K=(ev en m c (Ex×St) σ Pj).bind λp=>K p.1 p.2){R T:Type}{σ:St}{K:Ex->St->AL8 R}{K':Ex->St->AL8 T}{k:T->AL8 R}
    (h:∀e s,K e s=(K' e s).bind k):ev en m c R σ K=(ev en m c T σ K').bind k:=by
 rw[hn R,hn T];cases ev en m c (Ex×St) σ Pj with
 |none=>rfl
 |some p=>exact h p.1 p.2
theorem Ahx(he:X1 en){all:AL7 Oper}{is:AL7 Nat}{σ:St}{R T:Type}{K:St->AL8 R}{K':St->AL8 T}{k:T->AL8 R}(h:∀s,K s=(K' s).bind k):QK en all is σ K=(QK en all is σ K').bind k:=by
 rw[Tk he all is σ K,Tk he all is σ K'];cases QK en all is σ some with
 |none=>rfl
 |some p=>exact h p
theorem AfB(he:X1 en){all:AL7 Oper}{A:AL7 (Nat×AL7 Nat)}{is done Np:AL7 Nat}{σ:St}{R T:Type}{K:St->AL8 R}{K':St->AL8 T}{k:T->AL8 R}(h:∀s,K s=(K' s).bind k):Tv en all A is done Np σ K=(Tv en all A is done Np σ K').bind k:=by
 rw[Tj he all A is done Np σ K,Tj he all A is done Np σ K'];cases Tv en all A is done Np σ some with
 |none=>rfl
 |some p=>exact h p
theorem VX(he:X1 en):∀(c:Code) (R:Type) (σ:St) (K:Ex->St->AL8 R),ev en m c R σ K=(ev en m c (Ex×St) σ Pj).bind λp=>K p.1 p.2
 |.skip,_,_,_=>rfl
 |.ret,_,_,_=>rfl
 |.exit _,_,_,_=>rfl
 |.seq a b,R,σ,K=>by
  simp only[ev];split
  ·refine vg (VX he a) λe s=>?_;cases e with
   |normal=>exact VX he b R s K
   |exit n=>rfl
   |ret=>rfl
  ·rw[AJf];congr 1
   funext s0
   rw[AJf];congr 1
   funext ⟨e,s⟩
   cases e with
   |normal=>exact VX he b R s K
   |exit n=>rfl
   |ret=>rfl
 |.cond c a b,R,σ,K=>by
  simp only[ev];split
  ·rename_i t _;cases t
   ·exact VX he b R σ K
   ·exact VX he a R σ K
  ·rfl
 |.block n a,R,σ,K=>by
  simp only[ev];refine vg (VX he a) λe s=>?_;cases e with
  |normal=>rfl
  |exit k=>dsimp only;cases k==n<;>rfl
  |ret=>rfl
 |.region _ B4 false,R,σ,K=>by
  simp only[ev];exact Ahx he λs=>rfl
 |.region _ B4 true,R,σ,K=>by
  simp only[ev];split
  ·rw[AJf];congr 1
   funext s0
   generalize AhC en m _ B4 s0=x;cases x<;>rfl
  ·split
   ·exact AfB he λs=>rfl
   ·rfl
 |.loop body,R,σ,K=>by
  simp only[ev];split
  ·split
   ·rfl
   ·generalize fix _ _=x;cases x<;>rfl
  ·rfl
 |.goto _,_,_,_=>rfl
 |.label _,_,_,_=>rfl
 |.rangeFunc ..,_,_,_=>rfl
 |.scope _,_,_,_=>rfl
 |.refuse _,_,_,_=>rfl
theorem Wd(he:X1 en){h ho:SH}{body:Code}{s:St}{r:St⊕(Ex×St)}(hh:lg en m h ho body s=some r):∃e s',ev en m body (Ex×St) s Pj=some (e,s') /\
    ((e=.normal/\∃WE,s'.head h m=some WE/\r=.inl WE)\/(e≠.normal/\∃WE,s'.head ho m=some WE/\r=.inr (e,WE))):=by
 unfold lg at hh;rw[VX he]at hh;cases hx:ev en m body (Ex×St) s Pj with
 |none=>rw[hx]at hh;cases hh
 |some p =>
  obtain⟨e,s'⟩:=p;rw[hx]at hh;simp only[AIY]at hh;refine⟨e,s',rfl,?_⟩;cases e with
  |normal =>
   simp only at hh;cases hn:s'.head h m with
   |none=>rw[hn]at hh;cases hh
   |some WE=>rw[hn]at hh;injection hh with hh;exact .inl ⟨rfl,WE,rfl,hh.symm⟩
  |exit n =>
   simp only at hh;cases hn:s'.head ho m with
   |none=>rw[hn]at hh;cases hh
   |some WE=>rw[hn]at hh;injection hh with hh;exact .inr ⟨by simp,WE,rfl,hh.symm⟩
  |ret =>
   simp only at hh;cases hn:s'.head ho m with
   |none=>rw[hn]at hh;cases hh
   |some WE=>rw[hn]at hh;injection hh with hh;exact .inr ⟨by simp,WE,rfl,hh.symm⟩
end
theorem TY{σ τ:St}{l:AL7 Operand}(h:∀x∈l,σ.B7 x=τ.B7 x):l.map σ.B7=l.map τ.B7:=AJQ h
theorem Xk{σ τ:St}{l:AL7 (Nat×Operand)}(h:∀x∈l.map (·.2),σ.B7 x=τ.B7 x):l.map (λp=>(p.1,σ.B7 p.2))=l.map (λp=>(p.1,τ.B7 p.2)) :=
 AJQ λp hp=>by rw[h p.2 (List.mem_map.2 ⟨p,hp,rfl⟩)]
theorem W1{R:Type}{en:Gd}{σ τ:St}{o:Oper}{K:G9->AL8 R}(hb:σ.An=τ.An)(h:∀x∈o.op.operands,σ.B7 x=τ.B7 x):QL en σ o K=QL en τ o K:=by
 obtain⟨dst,op,type,pos,after,guard⟩:=o;unfold QL
 dsimp only at h⊢
 rw[hb];cases op<;>simp only[Op.operands]at h<;>dsimp only
 case build t ps=>rw[Xk (l:=ps.toList) λx hx=>h x (by simpa using hx)]
 case buildSlice t n ps=>rw[Xk (l:=ps.toList) λx hx=>h x (by simpa using hx)]
 case makeFunc fn first captured =>
  rw[TY (l:=captured.toList) λx hx=>h x (by simp[Array.mem_toList_iff.1 hx])]
 case call c =>
  have ha:OV σ c.args=OV τ c.args:=TY λx hx=>h x (by simp[Call.operands,Array.mem_toList_iff.1 hx]);unfold Vt;rw[ha,hb];cases hc:c.callee with
  |value f =>
   have hf:σ.B7 f=τ.B7 f:=h f (by simp[Call.operands,hc]);simp only[hf]
  |builtin b=>cases b<;>rfl
  |invoke r n=>rfl
 case slice t x lo hi mx =>
  have hx:σ.B7 x=τ.B7 x:=h x (by simp);have zM:lo.map σ.B7=lo.map τ.B7:=by cases lo with |none=>rfl |some y=>simp[h y (by simp)]
  have wM:hi.map σ.B7=hi.map τ.B7:=by cases hi with |none=>rfl |some y=>simp[h y (by simp)]
  have qI:mx.map σ.B7=mx.map τ.B7:=by cases mx with |none=>rfl |some y=>simp[h y (by simp)]
  rw[hx,zM,wM,qI]
 all_goals (first |rfl |(simp_all;done))
theorem W0{R:Type}{en:Gd}{σ τ:St}{o:Oper}{K:G9->AL8 R}(hb:σ.An=τ.An)(h:∀x∈o.op.operands,σ.B7 x=τ.B7 x):Ur en σ o K=Ur en τ o K:=by
 have ha:eB en σ o=eB en τ o:=by
  obtain⟨dst,op,type,pos,after,guard⟩:=o;unfold eB;cases op<;>simp only[Op.operands]at h<;>dsimp only
  case load t x=>rw[h x (by simp),hb]
  case build t ps=>rw[Xk (l:=ps.toList) λx hx=>h x (by simpa using hx)]
  case index t x i=>rw[h x (by simp),h i (by simp)]
  case field t x f=>rw[h x (by simp)]
  case indexAddr t x i=>rw[h x (by simp),h i (by simp)]
  case call c =>
   have ha:OV σ c.args=OV τ c.args:=TY λx hx=>h x (by simp[Call.operands,Array.mem_toList_iff.1 hx]);rw[ha]
 have hs:rL en σ o=rL en τ o:=by
  obtain⟨dst,op,type,pos,after,guard⟩:=o;unfold rL yR;cases op<;>simp only[Op.operands]at h<;>dsimp only
  case store t x v=>rw[h x (by simp),h v (by simp),hb]
 have ht:tlE en σ o=tlE en τ o:=by
  obtain⟨dst,op,type,pos,after,guard⟩:=o;unfold tlE;cases op<;>simp only[Op.operands]at h<;>dsimp only
  case slice t x lo hi mx =>
   cases lo with
   |none=>rfl
   |some lo=>cases hi with
    |some _=>rfl
    |none=>cases mx with
     |some _=>rfl
     |none=>dsimp only;rw[h x (by simp),h lo (by simp),hb]
  case indexAddr t x i=>rw[h x (by simp),h i (by simp),hb]
  case call c =>
   have ha:OV σ c.args=OV τ c.args:=TY λx hx=>h x (by simp[Call.operands,Array.mem_toList_iff.1 hx]);rw[ha,hb]
 unfold Ur;rw[ha,hs,ht,hb];split
 ·rfl
 split
 ·rfl
 split
 ·rfl
 ·split
  ·have hd:fu en o=fu en o:=rfl;cases fu en o
   ·exact W1 hb h
   ·simp only[AJe];rw[show τ.An=σ.An from hb.symm];exact W1 hb h
  ·exact W1 hb h
theorem tW{R:Type}{en:Gd}{σ τ:St}{o:Oper}{K:G9->AL8 R}(hb:σ.An=τ.An)(h:∀x∈o.op.operands,σ.B7 x=τ.B7 x):exec en σ o K=exec en τ o K:=by
 unfold exec;split
 ·rename_i c d ho _;have ha:OV σ c.args=OV τ c.args:=TY λx hx=>h x (by rw[ho];simp[Op.operands,Call.operands,Array.mem_toList_iff.1 hx]);rw[ha,hb];split
  ·split
   ·exact W0 rfl h
   ·rfl
  ·exact W0 hb h
 ·exact W0 hb h
theorem L3:∀a:AV,a.Nm id=a
 |.Ax ks t x=>by simp[AV.Nm]
 |.EJ ks t x=>by simp[AV.Nm]
 |.Am k=>rfl
 |.mp k=>rfl
 |.ptr k i p o=>rfl
 |.Tf _ _ _ _ _=>rfl
 |.U6 _ _ _ _ _ _=>rfl
 |.pr a b=>by simp[AV.Nm,L3 a,L3 b]
 |.fn g c=>by simp[AV.Nm,L3 c]
 |.cons a b=>by simp[AV.Nm,L3 a,L3 b]
 |.zs=>rfl
 |.LO=>rfl
 |.nil=>rfl
 |.un n=>rfl
theorem Yv(b:Blk):b.Nm id=b:=by
 cases b with
 |AK=>rfl
 |map m kt vt es st=>cases m<;>simp[Blk.Nm,RM.Nm]
 |QE e t xs i p=>rfl
 |tail e t xs=>rfl
 |box a=>simp[Blk.Nm,L3]
 |row e m t xs=>cases m<;>simp[Blk.Nm,RM.Nm]
def VQ(bs:AL7 Blk):Prop:=∀(k:Nat) (x:Blk),bs[k]?=some x->∀j∈x.Cf,j<bs.length
theorem AaW{w:World}{g:G}{n k:Nat}{x:Blk}(h:LZ w g n k x):∀j∈x.Cf,j<n:=by
 cases x with
 |AK=>intro j hj;cases hj
 |map m kt vt es st=>exact h.1
 |QE e t xs i p=>intro j hj;cases hj
 |tail e t xs=>intro j hj;cases hj
 |box a=>obtain⟨_,_,_,_,_,_,_,hx⟩:=h;exact Cs.SY a false hx
 |row e m t xs=>exact h.1
theorem Ba.scp{w:World}{g:G}{bs:AL7 Blk}(H:Ba w g bs):VQ bs:=λk x hx=>AaW (H.Ls k x hx)
def G.cut(g:G)(n:Nat):G:=⟨λb=>match g.own b with |.BB k r=>if k<n then .BB k r else .no |t=>t,g.AQ⟩
def G.ZJ(g g':G)(n:Nat):G:=⟨λb=>match g.own b with |.BB k r=>if k<n then g'.own b else .BB k r |_=>g'.own b,λk=>if k<n then g'.AQ k else g.AQ k⟩
section
variable {P:Program} {o:Oper} {e:G9}
theorem du{g:G}{n k:Nat}(hk:k<n):Ren id g (g.cut n) n k:=⟨hk,rfl,λb r h=>by simp[G.cut,h,hk]⟩
theorem zi{σ:St}(PK:M3 P σ o e)(hm:e.Bu=[]){l l':AL7 Blk}(ug:e.An=σ.An++l')(hor:l=[]\/l'=[]){w:World}{g:G}{a:Act}(H:Ba w g (σ.An++l))(hsc:VQ σ.An)(hlen:σ.AF.length=a.tmps.size)
    (IR:∀(i:Nat) (x:AV),σ.AF[i]?=some x->BS w g (σ.An++l).length x (a.tmps.getD i undef)/\∀k∈x.Cf,k<σ.An.length) {next:Act->World->Prop} {Q:Exit->Act->World->Prop}
    (hn:∀v w' g',Ba w' g' (σ.An++(l++l'))->BS w' g' (σ.An++(l++l')).length e.val v->(∀k∈e.val.Cf,k<e.An.length)->Step [] (σ.An++l).length w g w' g'->next (a.put o.dst v) w'):o.wp P a w next Q:=by
 rcases hor with rfl |rfl
 ·simp only[AJD,AJ7]at H IR hn;refine PK.wp a w g ⟨H,hlen,λi x hx=>(IR i x hx).1⟩ next Q λv w' g' H' hv BJ=>?_
  rw[hm]at BJ;rw[ug]at H' hv;exact hn v w' g' H' hv (by rw[ug];exact hv.SY) BJ
 ·simp only[AJD]at ug hn
  let n:=σ.An.length
  have hnl:n<=(σ.An++l).length:=by simp[n]
  have Xa:∀k,k<n->Ren id g (g.cut n) n k:=λk hk=>du hk;have fQ:∀b,g.own b=.Ik->(g.cut n).own b=.Ik:=λb h=>by simp[G.cut,h]
  have Hr:Ba w (g.cut n) σ.An:=by
   refine⟨λb hb=>by simp[G.cut,H.BP b hb],λk x hx=>?_⟩;have hk:=AO hx;have h1:=H.Ls k x (by rw[AJl hk];exact hx);have:=h1.Nm (φ:=id) fQ (Xa k hk) λj hj=>Xa j (hsc k x hx j hj);rwa [Yv]at this
  refine PK.wp a w (g.cut n) ⟨Hr,hlen,λi x hx=>?_⟩ next Q λv w' g' H' hv BJ=>?_
  ·obtain⟨h1,h2⟩:=IR i x hx;have:=h1.Nm (φ:=id) (g':=g.cut n) (n':=n) fQ λk hk=>Xa k (h2 k hk);rwa [L3]at this
  ·rw[hm]at BJ;rw[ug]at H' hv;have Ag1:∀b,g.own b≠.no->b<w.heap.size:=λb h=>Sx H h;have mW:∀b k r,g.own b=.BB k r->¬k<n->g'.own b=.no/\w'.heap[b]?=w.heap[b]?:=λb k r h hk=>BJ.no b (Ag1 b (by rw[h];simp)) (by simp[G.cut,h,hk]);have st:Step [] (σ.An++l).length w g w' (g.ZJ g' n):=by
    refine⟨BJ.os,BJ.tape,BJ.output,BJ.size,λb hb h=>?_,λb h=>?_,λb k r h hk hm=>?_,λk hk=>?_⟩
    ·have:=BJ.no b hb (by simp[G.cut,h]);exact⟨by simp[G.ZJ,h,this.1],this.2⟩
    ·have:=BJ.Ik b (fQ b h);exact⟨by simp[G.ZJ,h,this.1],this.2⟩
    ·by_cases fR:k<n
     ·have:=BJ.BB b k r (by simp[G.cut,h,fR]) fR (by simp);exact⟨by simp[G.ZJ,h,fR,this.1],this.2⟩
     ·exact⟨by simp[G.ZJ,h,fR],(mW b k r h fR).2⟩
    ·by_cases fR:k<n
     ·have:=BJ.AQ k fR;simp only[G.ZJ,AJg fR,this];rfl
     ·simp[G.ZJ,fR]
   have AcH:∀k,k<n->Ren id g' (g.ZJ g' n) (σ.An++l).length k:=λk hk=>by
    refine⟨by show k<_;omega,by simp[G.ZJ,hk],λb r h=>?_⟩;simp only[G.ZJ,id];split
    ·rename_i k' r' hg;split
     ·exact h
     ·rename_i Ve;rw[(mW b k' r' hg Ve).1]at h;cases h
    ·exact h
   have AiC:∀b,g'.own b=.Ik->(g.ZJ g' n).own b=.Ik:=λb h=>by
    simp only[G.ZJ];split
    ·rename_i k' r' hg;split
     ·exact h
     ·rename_i Ve;rw[(mW b k' r' hg Ve).1]at h;cases h
    ·exact h
   refine hn v w' (g.ZJ g' n) ⟨λb hb=>?_,λk x hx=>?_⟩ ?_ (by rw[ug];exact hv.SY) st
   ·have h1:=H'.BP b hb;have h2:=H.BP b (AJs BJ.size hb);simp[G.ZJ,h2,h1]
   ·by_cases hk:k<n
    ·rw[AJl hk]at hx;have:=(H'.Ls k x hx).Nm (φ:=id) AiC (AcH k hk) λj hj=>AcH j (hsc k x hx j hj);rwa [Yv]at this
    ·exact(H.Ls k x hx).Qx st (AI4 _) (AO hx)
   ·have:=hv.Nm (φ:=id) AiC λk hk=>AcH k (hv.SY k hk);rwa [L3]at this
end
theorem gp:∀(r l:AL7 Nat) {x:Nat},x∈da l r->x∈l\/x∈r
 |[],_,_,h=>.inl h
 |k::r,l,x,h=>by
  simp only[da]at h;split at h
  ·rcases gp r l h with h |h
   ·exact .inl h
   ·exact .inr (by simp[h])
  ·rcases gp r _ h with h |h
   ·rcases List.mem_append.1 h with h |h
    ·exact .inl h
    ·simp at h;exact .inr (by simp[h])
   ·exact .inr (by simp[h])
def jB(all:AL7 Oper)(A:AL7 (Nat×AL7 Nat)):Prop:=∀i x,x∈DU A i->x∈Ts all i\/∃d∈Ts all i,x∈DU A d
theorem jG(all:AL7 Oper):∀(is:AL7 Nat) (A:AL7 (Nat×AL7 Nat)),jB all A->nodup is=true->(∀i∈is,∀p∈A,p.1≠i)->jB all (WQ all is A)
 |[],_,h,_,_=>h
 |i::is,A,h,hn,hf=>by
  simp only[nodup,AI5,AKk]at hn;refine jG all is _ ?_ hn.2 ?_
  ·have yB:∀d y,y∈DU A d->y∈DU ((i,da [] (Ts all i++(Ts all i).flatMap (DU A)))::A) d:=by
     intro d y hy;simp only[DU];split
     ·rename_i he;have he:i=d:=by simpa using he
      subst he;have:∀(A:AL7 (Nat×AL7 Nat)),(∀p∈A,p.1≠i)->DU A i=[]:=by
       intro A;induction A with
       |nil=>exact λ_=>rfl
       |cons p A ih =>
        intro hp;obtain⟨k,l⟩:=p;simp only[DU];rw[AJh (by simpa using hp (k,l) (by simp))];exact ih λq hq=>hp q (by simp[hq])
      rw[this A (hf i (by simp))]at hy;cases hy
     ·exact hy
   intro j x hx;by_cases he:i=j
   ·subst he;simp only[DU,AKB,AJK]at hx;rcases gp _ _ hx with hx |hx
    ·cases hx
    ·rcases List.mem_append.1 hx with hx |hx
     ·exact .inl hx
     ·obtain⟨d,hd,hx⟩:=List.mem_flatMap.1 hx;exact .inr ⟨d,hd,yB d x hx⟩
   ·simp only[DU]at hx;rw[AJh (by simpa using he)]at hx;rcases h j x hx with h |⟨d,hd,hx⟩
    ·exact .inl h
    ·exact .inr ⟨d,hd,yB d x hx⟩
  ·intro j hj p hp;rcases List.mem_cons.1 hp with rfl |hp
   ·intro e;have e:i=j:=e;subst e;have:=hn.1;simp[hj]at this
   ·exact hf j (by simp[hj]) p hp
def dU(A:AL7 (Nat×AL7 Nat))(D:Nat->Bool):Prop:=∀i,D i=true->∀x∈DU A i,D x=true
theorem kZ{all:AL7 Oper}{A:AL7 (Nat×AL7 Nat)}(hA:jB all A){D:Nat->Bool}(hc:dU A D){i:Nat}(hd:∀d∈Ts all i,D d=true):∀x∈DU A i,D x=true:=λx hx=>by
 rcases hA i x hx with h |⟨d,hdi,h⟩
 ·exact hd x h
 ·exact hc d (hd d hdi) x h
structure Io where
 i:Nat
 o:Oper
 σ:St
 e:Option G9
def Io.val(t:Io):AV:=match t.e with |some e=>e.val |none=>.nil
def Io.post(t:Io):St:=match t.e with |some e=>t.σ.after t.o.dst e |none=>t.σ.skip t.o.dst
def Io.iH(t:Io):Bool:=match t.e with |some e=>!e.Bu.isEmpty |none=>false
def Io.grow(t:Io):Bool:=match t.e with |some e=>e.Bu.isEmpty&&decide (e.An.length≠t.σ.An.length)|none=>false
def Io.Ok(en:Gd)(all:AL7 Oper)(t:Io):Prop:=all[t.i]?=some t.o/\match t.e with |some e=>Want all t.σ t.o true/\exec en t.σ t.o some=some e |none=>Want all t.σ t.o false
inductive Tr (en:Gd) (all:List Oper) (A:List (Nat×List Nat)):List Nat->List Nat->St->List Io->St->Prop
 |nil {done Np:List Nat} {σ:St}:Tr en all A done Np σ [] σ
 |cons {done Np:List Nat} {σ σ':St} {t:Io} {ts:List Io} (hσ:t.σ=σ) (ok:t.Ok en all) (ha:∀x∈Np,x∈DU A t.i) (hb:t.iH=true->∀x∈done,x∈DU A t.i)
     (next:Tr en all A (t.i::done) (if t.iH||t.grow then t.i::Np else Np) t.post ts σ'):Tr en all A done Np σ (t::ts) σ'
section
variable {en:Gd} {all:AL7 Oper} {A:AL7 (Nat×AL7 Nat)}
theorem ZD(he:X1 en):∀{is done Np:AL7 Nat} {σ σ':St},Tv en all A is done Np σ some=some σ'->∃ts:AL7 Io,ts.map (·.i)=is/\Tr en all A done Np σ ts σ'
 |[],done,Np,σ,σ',h=>by
  simp only[Tv,AI0]at h;subst h;exact⟨[],rfl,.nil⟩
 |i::is,done,Np,σ,σ',h=>by
  simp only[Tv]at h;split at h
  ·cases h
  ·rename_i o ho;split at h
   ·rename_i ACx;have AcF:∀x∈Np,x∈DU A i:=λx hx=>by have:=List.all_eq_true.1 ACx x hx;simpa using this
    rcases O5 h with ⟨hw,h⟩|⟨hw,h⟩
    ·rw[RI en he]at h;cases hx:exec en σ o some with
     |none=>rw[hx]at h;cases h
     |some e =>
      rw[hx]at h;simp only[AIY]at h;split at h
      ·rename_i hm;obtain⟨ts,h1,h2⟩:=ZD he h;refine⟨⟨i,o,σ,some e⟩::ts,by simp[h1],.cons rfl ⟨ho,hw,hx⟩ AcF (λhb=>?_) ?_⟩
       ·simp[Io.iH,hm]at hb
       ·simp only[Io.iH,Io.grow,hm,AJH,AKm,AK0,Io.post];by_cases hl:e.An.length=σ.An.length
        ·simpa [hl]using h2
        ·simpa [hl]using h2
      ·rename_i hm;split at h
       ·rename_i b5;obtain⟨ts,h1,h2⟩:=ZD he h;refine⟨⟨i,o,σ,some e⟩::ts,by simp[h1],.cons rfl ⟨ho,hw,hx⟩ AcF (λhb x hx=>?_) ?_⟩
        ·have:=List.all_eq_true.1 b5 x hx;simpa using this
        ·simp only[Io.iH,Io.post];have hm':e.Bu.isEmpty=false:=by simpa using hm
         simpa [hm']using h2
       ·cases h
    ·obtain⟨ts,h1,h2⟩:=ZD he h;refine⟨⟨i,o,σ,none⟩::ts,by simp[h1],.cons rfl ⟨ho,hw⟩ AcF (λhb=>by cases hb) ?_⟩;simpa [Io.iH,Io.grow,Io.post]using h2
   ·cases h
theorem Tr.AaK:∀{ts:AL7 Io} {done Np:AL7 Nat} {σ σ':St},Tr en all A done Np σ ts σ'->∀x∈Np,∀u∈ts,x∈DU A u.i
 |[],_,_,_,_,_,_,_,_,hu=>by cases hu
 |t::ts,_,_,_,_,.cons _ _ ha _ next,x,hx,u,hu=>by
  rcases List.mem_cons.1 hu with rfl |hu
  ·exact ha x hx
  ·exact next.AaK x (by split<;>simp[hx]) u hu
theorem Tr.Yl:∀{Ck post:AL7 Io} {t:Io} {done Np:AL7 Nat} {σ σ':St},Tr en all A done Np σ (Ck++t::post) σ' ->
    ((t.iH||t.grow)=true->∀u∈post,t.i∈DU A u.i)/\(t.iH=true->(∀x∈done,x∈DU A t.i)/\∀u∈Ck,u.i∈DU A t.i)
 |[],post,t,done,Np,σ,σ',.cons hσ ok ha hb next=>by
  refine⟨λh u hu=>next.AaK t.i (by rw[AJg h];simp) u hu,λh=>⟨hb h,λu hu=>by cases hu⟩⟩
 |p::Ck,post,t,done,Np,σ,σ',.cons hσ ok ha hb next=>by
  obtain⟨h1,h2⟩:=next.Yl
  refine⟨h1,λh=>⟨λx hx=>(h2 h).1 x (by simp[hx]),λu hu=>?_⟩⟩;rcases List.mem_cons.1 hu with rfl |hu
  ·exact(h2 h).1 u.i (by simp)
  ·exact(h2 h).2 u hu
theorem Tr.split:∀{Ck ts:AL7 Io} {done Np:AL7 Nat} {σ σ':St},Tr en all A done Np σ (Ck++ts) σ'->∃xK σ1,Tr en all A done Np σ Ck σ1/\Tr en all A ((Ck.map (·.i)).reverse++done) xK σ1 ts σ'
 |[],ts,done,Np,σ,σ',h=>⟨Np,σ,.nil,h⟩
 |p::Ck,ts,done,Np,σ,σ',.cons hσ ok ha hb next=>by
  obtain⟨xK,σ1,h1,h2⟩:=next.split
  exact⟨xK,σ1,.cons hσ ok ha hb h1,by simpa using h2⟩
theorem Tr.AdZ:∀{ts:AL7 Io} {done Np:AL7 Nat} {σ σ':St},Tr en all A done Np σ ts σ'->∀u∈ts,u.Ok en all
 |[],_,_,_,_,_,_,hu=>by cases hu
 |t::ts,_,_,_,_,.cons _ ok _ _ next,u,hu=>by
  rcases List.mem_cons.1 hu with rfl |hu
  ·exact ok
  ·exact next.AdZ u hu
end
def Lu(D:Nat->Bool):AL7 Io->AL7 AV->AL7 AV
 |[],sl=>sl
 |t::ts,sl=>Lu D ts (if D t.i then X7 t.o.dst t.val sl else sl)
def Io.nb(t:Io)(bs:AL7 Blk):AL7 Blk:=match t.e with |some e=>e.An |none=>bs
def Hd(D:Nat->Bool):AL7 Io->AL7 Blk->AL7 Blk
 |[],bs=>bs
 |t::ts,bs=>Hd D ts (if D t.i&&t.grow then t.nb bs else bs)
theorem dK{d:AL8 Nat}{v:AV}{sl:AL7 AV}{k:Nat}(h:d≠some k):(X7 d v sl)[k]?=sl[k]?:=by
 cases d with
 |none=>rfl
 |some d =>
  have:d≠k:=λe=>h (by rw[e]);simp[X7,AJn,this]
theorem gG{d:AL8 Nat}{v:AV}{sl sl':AL7 AV}{k:Nat}(h:sl[k]?=sl'[k]?):(X7 d v sl)[k]?=(X7 d v sl')[k]?:=by
 cases d with
 |none=>exact h
 |some d =>
  simp only[X7,AJn];split
  ·rename_i e;subst e;have:d<sl.length↔d<sl'.length:=by
    constructor
    ·intro hl;rw[AJ6 hl]at h;exact AO h.symm
    ·intro hl;rw[AJ6 hl]at h;exact AO h
   by_cases hl:d<sl.length
   ·rw[AJg hl,AJg (this.1 hl)]
   ·rw[AJh hl,AJh (λh=>hl (this.2 h))]
  ·exact h
theorem kW{d:Nat}{v:AV}{sl:AL7 AV}{x:AV}(h:(X7 (some d) v sl)[d]?=some x):x=v:=by
 simp only[X7,AJn,AJK]at h;split at h
 ·injection h with h;exact h.symm
 ·cases h
theorem Zx(D:Nat->Bool):∀(ts:AL7 Io) (sl:AL7 AV),(Lu D ts sl).length=sl.length
 |[],_=>rfl
 |t::ts,sl=>by
  rw[Lu,Zx D ts];split
  ·exact ZX ..
  ·rfl
theorem WX(D:Nat->Bool):∀(Ck ts:AL7 Io) (sl:AL7 AV),Lu D (Ck++ts) sl=Lu D ts (Lu D Ck sl)
 |[],_,_=>rfl
 |t::Ck,ts,sl=>by rw[AK4,Lu,Lu,WX D Ck ts]
theorem Zw(D:Nat->Bool):∀(Ck ts:AL7 Io) (bs:AL7 Blk),Hd D (Ck++ts) bs=Hd D ts (Hd D Ck bs)
 |[],_,_=>rfl
 |t::Ck,ts,bs=>by rw[AK4,Hd,Hd,Zw D Ck ts]
theorem fj{D:Nat->Bool}{k:Nat}:∀{ts:AL7 Io} {sl sl':AL7 AV},sl[k]?=sl'[k]?->(Lu D ts sl)[k]?=(Lu D ts sl')[k]?
 |[],_,_,h=>h
 |t::ts,sl,sl',h=>by
  simp only[Lu];refine fj ?_;split
  ·exact gG h
  ·exact h
theorem YB{D:Nat->Bool}{k:Nat}:∀{ts:AL7 Io} {sl sl':AL7 AV},(∀u∈ts,D u.i=false->u.o.dst≠some k)->sl[k]?=sl'[k]?->(Lu D ts sl)[k]?=(Lu (λ_=>true) ts sl')[k]?
 |[],_,_,_,h=>h
 |t::ts,sl,sl',hu,h=>by
  simp only[Lu,AJK];refine YB (λu hm=>hu u (by simp[hm])) ?_;cases hD:D t.i with
  |true=>simp only[AJK];exact gG h
  |false =>
   simp only[AJN,AKv];rw[dK (hu t (by simp) hD)];exact h
theorem XE{D:Nat->Bool}{k:Nat}:∀{ts:AL7 Io} {sl:AL7 AV},(∀u∈ts,D u.i=true->u.o.dst≠some k)->(Lu D ts sl)[k]?=sl[k]?
 |[],_,_=>rfl
 |t::ts,sl,hu=>by
  simp only[Lu];rw[XE λu hm=>hu u (by simp[hm])];split
  ·rename_i h;exact dK (hu t (by simp) h)
  ·rfl
theorem tN{D D':Nat->Bool}:∀{ts:AL7 Io} {sl:AL7 AV},(∀u∈ts,D u.i=D' u.i)->Lu D ts sl=Lu D' ts sl
 |[],_,_=>rfl
 |t::ts,sl,h=>by
  rw[Lu,Lu,h t (by simp)];exact tN λu hu=>h u (by simp[hu])
theorem tM{D D':Nat->Bool}:∀{ts:AL7 Io} {bs:AL7 Blk},(∀u∈ts,D u.i=D' u.i)->Hd D ts bs=Hd D' ts bs
 |[],_,_=>rfl
 |t::ts,bs,h=>by
  rw[Hd,Hd,h t (by simp)];exact tM λu hu=>h u (by simp[hu])
theorem XD{D:Nat->Bool}:∀{ts:AL7 Io} {bs:AL7 Blk},(∀u∈ts,D u.i=true->u.grow=false)->Hd D ts bs=bs
 |[],_,_=>rfl
 |t::ts,bs,h=>by
  rw[Hd];have:(D t.i&&t.grow)=false:=by
   cases hD:D t.i with
   |false=>rfl
   |true=>rw[h t (by simp) hD];rfl
  rw[this];exact XD λu hu=>h u (by simp[hu])
section
variable {P:Program} {en:Gd} {all:AL7 Oper} {A:AL7 (Nat×AL7 Nat)}
theorem ZC(he:EnvOk P en){t:Io}(ok:t.Ok en all)(hb:t.iH=false):∃l,t.post.An=t.σ.An++l/\(t.grow=false->l=[])/\(∀e,t.e=some e->e.Bu=[]/\e.An=t.σ.An++l)/\t.post.AF=X7 t.o.dst t.val t.σ.AF:=by
 unfold Io.Ok at ok;unfold Io.iH at hb;unfold Io.post Io.grow Io.val;cases hq:t.e with
 |none=>exact⟨[],by simp[St.skip],λ_=>rfl,λe h=>by(cases h),rfl⟩
 |some e =>
  rw[hq]at ok hb;have hm:e.Bu=[]:=by simpa using hb
  have PK:=RJ he ok.2.2;obtain⟨l,hl⟩:=PK.ext hm;refine⟨l,hl,λh=>?_,λe' h=>by injection h with h;subst h;exact⟨hm,hl⟩,?_⟩
  ·simp only[hm,List.isEmpty_nil,AK0,AJP,ne_eq,Decidable.not_not]at h;rw[hl,AI2]at h;exact AJT (by omega)
  ·simp only[St.after,hm,Tt]
theorem Tr.jF(he:EnvOk P en):∀{ts:AL7 Io} {done Np:AL7 Nat} {σ σ':St},Tr en all A done Np σ ts σ'->(∀u∈ts,u.iH=false)->σ'.AF=Lu (λ_=>true) ts σ.AF/\σ'.An=Hd (λ_=>true) ts σ.An/\(∃l,σ'.An=σ.An++l)
 |[],_,_,_,_,.nil,_=>⟨rfl,rfl,[],(AJD _).symm⟩
 |t::ts,done,Np,σ,σ',.cons hσ ok ha hb next,Sm=>by
  obtain⟨l,h1,h2,h3,h4⟩:=ZC he ok (Sm t (by simp));obtain⟨i1,i2,l',i3⟩:=next.jF he λu hu=>Sm u (by simp[hu])
  subst hσ;refine⟨by rw[i1,Lu,AJg rfl,h4],?_,l++l',by rw[i3,h1,AI6]⟩;rw[i2,Hd,AK0];congr 1;cases hg:t.grow with
  |false=>rw[h1,h2 hg,AJD];rfl
  |true =>
   cases hq:t.e with
   |none=>simp[Io.grow,hq]at hg
   |some e=>simp only[AJK,Io.nb,hq];rw[h1,(h3 e hq).2]
theorem Tr.qa(he:EnvOk P en)(D:Nat->Bool):∀{ts:AL7 Io} {done Np:AL7 Nat} {σ σ':St},Tr en all A done Np σ ts σ'->(∀u∈ts,u.iH=false)->∀(b0:AL7 Blk),(∃l,σ.An=b0++l)->∀bs,(∃l,bs=b0++l)->∃l,Hd D ts bs=b0++l
 |[],_,_,_,_,_,_,_,_,_,h=>h
 |t::ts,done,Np,σ,σ',.cons hσ ok ha hb next,Sm,b0,iO,bs,hbs=>by
  obtain⟨l,h1,h2,h3,h4⟩:=ZC he ok (Sm t (by simp));obtain⟨l0,dF⟩:=iO;subst hσ;rw[Hd];refine next.qa he D (λu hu=>Sm u (by simp[hu])) b0 ⟨l0++l,by rw[h1,dF,AI6]⟩ _ ?_
  split
  ·cases hq:t.e with
   |none=>simpa [Io.nb,hq]using hbs
   |some e=>exact⟨l0++l,by simp only[Io.nb,hq];rw[(h3 e hq).2,dF,AI6]⟩
  ·exact hbs
end
theorem aV:∀{Bb:AL7 Nat} {l:AL7 AV} {j i:Nat},(j+i)∈Bb->(QO Bb j l)[i]?=l[i]?
 |Bb,a::r,j,0,h=>by
  have h':j∈Bb:=h;simp[QO,h']
 |Bb,a::r,j,i+1,h=>by
  simp only[QO,AK9];exact aV (by rwa [show j+1+i=j+(i+1) by omega])
 |_,[],_,_,_=>by simp[QO]
theorem ku:∀{Bb:AL7 Nat} {l:AL7 AV} {j i:Nat} {x:AV},(j+i)∉Bb->(QO Bb j l)[i]?=some x->x=.un 0
 |Bb,a::r,j,0,x,h,hx=>by
  have:Bb.contains j=false:=by simpa using h
  simp only[QO,this,AJN,AKv,List.getElem?_cons_zero,AI0]at hx;exact hx.symm
 |Bb,a::r,j,i+1,x,h,hx=>by
  simp only[QO,AK9]at hx;exact ku (by rwa [show j+1+i=j+(i+1) by omega]) hx
 |_,[],_,_,_,_,hx=>by simp[QO]at hx
def rj(B4:Array Oper)(o:Oper)(σ:St):St:=⟨QO (o.looksAt B4) 0 σ.AF,σ.An⟩
theorem yM{en:Gd}{B4:Array Oper}{o:Oper}{σ:St}{K:G9->AL8 G9}:exec en (rj B4 o σ) o K=exec en σ o K:=by
 refine tW rfl λx hx=>?_;cases x with
 |tmp t =>
  have:t∈o.looksAt B4:=AJw _ (List.mem_filterMap.2 ⟨.tmp t,by simpa using hx,rfl⟩);simp only[St.B7,rj];rw[aV (j:=0) (by simpa using this)]
 |const v=>rfl
 |global g=>rfl
 |func f=>rfl
theorem YA{D:Nat->Bool}:∀{ts:AL7 Io} {bs:AL7 Blk},(∀u∈ts,u.grow=true->D u.i=true)->Hd D ts bs=Hd (λ_=>true) ts bs
 |[],_,_=>rfl
 |t::ts,bs,h=>by
  rw[Hd,Hd];have:(D t.i&&t.grow)=(true&&t.grow):=by
   cases hg:t.grow with
   |false=>simp
   |true=>rw[h t (by simp) hg]
  rw[this];exact YA λu hu=>h u (by simp[hu])
theorem j7{t:Io}{e:G9}(h:t.e=some e):t.post.An=e.An:=by simp[Io.post,h,St.after]
theorem ff{D:Nat->Bool}:∀{ts:AL7 Io} {bs:AL7 Blk},Hd D ts bs=bs\/∃u∈ts,D u.i=true/\u.grow=true/\Hd D ts bs=u.post.An
 |[],_=>.inl rfl
 |t::ts,bs=>by
  rw[Hd];rcases ff (D:=D) (ts:=ts) (bs:=if D t.i&&t.grow then t.nb bs else bs)with h |⟨u,hu,h1,h2,h3⟩
  ·rw[h];split
   ·rename_i hc;rw[AI5]at hc;cases hq:t.e with
    |none=>exact .inl (by simp[Io.nb,hq])
    |some e=>exact .inr ⟨t,by simp,hc.1,hc.2,by rw[j7 hq];simp[Io.nb,hq]⟩
   ·exact .inl rfl
  ·exact .inr ⟨u,by simp[hu],h1,h2,h3⟩
theorem fh:∀{ts:AL7 Io} {sl:AL7 AV} {k:Nat} {x:AV},(Lu (λ_=>true) ts sl)[k]?=some x->sl[k]?=some x\/∃Ck u post,ts=Ck++u::post/\u.o.dst=some k/\x=u.val
 |[],_,_,_,h=>.inl h
 |t::ts,sl,k,x,h=>by
  simp only[Lu,AJK]at h;rcases fh h with h |⟨Ck,u,post,e,h1,h2⟩
  ·by_cases hd:t.o.dst=some k
   ·rw[hd]at h;exact .inr ⟨[],t,ts,rfl,hd,kW h⟩
   ·rw[dK hd]at h;exact .inl h
  ·exact .inr ⟨t::Ck,u,post,by rw[e];rfl,h1,h2⟩
structure Inv (P:Program) (A:List (Nat×List Nat)) (N:Nat) (done:List Nat) (Ib:List Io) (σ:St) (m:Nat) (a0:Act) (w0:World) (g0:G) (D:Nat->Bool) (a:Act) (w:World) (g:G):Prop where
 ub:∀i∈done,D i=true
 only:∀i,D i=true->i∈done\/∃u∈Ib,u.i=i
 eZ:dU A D
 dfr:a.defers=a0.defers
 len:σ.AF.length=a.tmps.size
 step:Bq m w0 g0 w g
 heap:Ba w g (Hd D Ib σ.An)
 AF:∀(i:Nat) (x:AV),(Lu D Ib σ.AF)[i]?=some x->BS w g (Hd D Ib σ.An).length x (a.tmps.getD i undef)
 Cf:∀u∈Ib,D u.i=true->∀k∈u.val.Cf,k<u.post.An.length
 scp:∀u∈Ib,D u.i=true->u.grow=true->VQ u.post.An
section
variable {P:Program} {en:Gd} {B4:Array Oper} {A:AL7 (Nat×AL7 Nat)} {N m:Nat} {done Np:AL7 Nat} {Ib Ck post:AL7 Io} {t:Io} {σ σ1:St} {a0 a:Act} {w0 w:World} {g0 g:G} {D:Nat->Bool}
theorem Inv.find(he:EnvOk P en)(Vz:Inv P A N done Ib σ m a0 w0 g0 D a w g)(cS:Tr en B4.toList A done Np σ Ib σ1)(Sm:∀u∈Ib,u.iH=false)(QX:Ib=Ck++t::post)(QY:D t.i=false)(V1:∀x∈DU A t.i,D x=true)
    (YN:∀u∈Ck,u.i∈DU A t.i\/u.o.apart B4 t.o=true) (b7:∀u∈post,t.i∈DU A u.i\/t.o.apart B4 u.o=true)
    (h0:∀(i:Nat) (x:AV),σ.AF[i]?=some x->∀k∈x.Cf,k<σ.An.length) (iW:VQ σ.An) :
    (∃l,Hd D Ib σ.An=t.σ.An++l/\Hd D post t.σ.An=t.σ.An++l/\(t.grow=true->l=[]))/\VQ t.σ.An/\t.σ.AF.length=a.tmps.size/\(∀u∈post,D u.i=true->t.grow=false/\t.o.apart B4 u.o=true)/\(∀u∈Ck,u.grow=true->D u.i=true)/\Hd D Ck σ.An=t.σ.An /\
     (∀k∈t.o.looksAt B4,∀x,t.σ.AF[k]?=some x->BS w g (Hd D Ib σ.An).length x (a.tmps.getD k undef)/\∀j∈x.Cf,j<t.σ.An.length):=by
 subst QX;obtain⟨xK,σt,htp,yy⟩:=cS.split;have hpb:∀u∈Ck,u.iH=false:=λu hu=>Sm u (by simp[hu]);obtain⟨QN,XN,l0,qN⟩:=htp.jF he hpb;cases yy with
 |cons hσ ok ha hb next =>
  subst hσ;have hgp:∀u∈Ck,u.grow=true->D u.i=true:=λu hu hg=>by
   obtain⟨p1,p2,rfl⟩:=List.append_of_mem hu;have ADw:Tr en B4.toList A done Np σ (p1++u::(p2++t::post)) σ1:=by simpa using cS
   exact V1 _ (ADw.Yl.1 (by simp[hg]) t (by simp))
  have hB:Hd D Ck σ.An=t.σ.An:=by rw[YA hgp,<-XN]
  have Wt:∀u∈post,D u.i=true->t.i∉DU A u.i:=λu _ hd hm=>by
   rw[Vz.eZ _ hd _ hm]at QY;cases QY
  have zL:t.grow=true->∀u∈post,D u.i=false:=λhg u hu=>by
   cases hd:D u.i with
   |false=>rfl
   |true=>exact(Wt u hu hd (cS.Yl.1 (by simp[hg]) u hu)).elim
  have Wu:Hd D (Ck++t::post) σ.An=Hd D post t.σ.An:=by
   rw[Zw,Hd,hB,QY];rfl
  obtain⟨l1,e1,_,_,_⟩:=ZC he ok (Sm t (by simp));obtain⟨l,hl⟩:=next.qa he D (λu hu=>Sm u (by simp[hu])) t.σ.An ⟨l1,e1⟩ t.σ.An ⟨[],(AJD _).symm⟩
  have hsc:VQ t.σ.An:=by
   rw[<-hB];rcases ff (D:=D) (ts:=Ck) (bs:=σ.An)with h |⟨u,hu,h1,h2,h3⟩
   ·rw[h];exact iW
   ·rw[h3];exact Vz.scp u (by simp[hu]) h1 h2
  refine⟨⟨l,by rw[Wu];exact hl,hl,λhg=>?_⟩,hsc,by rw[QN,Zx];exact Vz.len,λu hu hd=>⟨?_,?_⟩,hgp,hB,λk hk x hx=>⟨?_,?_⟩⟩
  ·have:=XD (D:=D) (ts:=post) (bs:=t.σ.An) λu hu hd=>by rw[zL hg u hu]at hd;cases hd
   rw[this]at hl;have h2:t.σ.An.length=t.σ.An.length+l.length:=by rw[<-AI2,<-hl]
   exact AJT (by omega)
  ·cases hg:t.grow with
   |false=>rfl
   |true=>rw[zL hg u hu]at hd;cases hd
  ·exact(b7 u hu).resolve_left (Wt u hu hd)
  ·have h1:(Lu D (Ck++t::post) σ.AF)[k]?=t.σ.AF[k]?:=by
     rw[WX,Lu,QY];simp only[AJN,AKv];rw[XE,YB,<-QN]
     ·intro u hu hd e;rcases YN u hu with h |h
      ·rw[V1 _ h]at hd;cases hd
      ·exact(Oper.apart_spec h).1 k e hk
     ·rfl
     ·intro u hu hd e;have:=(b7 u hu).resolve_left (Wt u hu hd);exact(Oper.apart_spec this).2.2 k e hk
   exact Vz.AF k x (by rw[h1];exact hx)
  ·rw[QN]at hx;rcases fh hx with h |⟨p1,u,p2,e,h1,rfl⟩
   ·intro j hj;have:=h0 k x h j hj;rw[qN,AI2];omega
   ·intro j hj;have hu:u∈Ck:=by rw[e];simp
    have hD:D u.i=true:=by
     rcases YN u hu with h |h
     ·exact V1 _ h
     ·exact((Oper.apart_spec h).1 k h1 hk).elim
    have:=Vz.Cf u (by simp[hu]) hD j hj;subst e;obtain⟨AGw,σu,q1,q2⟩:=htp.split;cases q2 with
    |cons hσ' ok' ha' sB next' =>
     obtain⟨_,_,l2,q3⟩:=next'.jF he λv hv=>hpb v (by simp[hv]);rw[q3,AI2];omega
end
theorem UI{a:Act}{d:AL8 Tmp}{v:Value}{k:Nat}(h:d≠some k):(a.put d v).tmps.getD k undef=a.tmps.getD k undef:=by
 cases d with
 |none=>rfl
 |some d =>
  have:d≠k:=λe=>h (by rw[e]);simp[Act.put,AKN this]
theorem R1{a:Act}{k:Nat}{v:Value}(h:k<a.tmps.size):(a.put (some k) v).tmps.getD k undef=v:=by
 simp[Act.put,h]
section
variable {P:Program} {en:Gd} {B4:Array Oper} {A:AL7 (Nat×AL7 Nat)} {N m:Nat} {done Np:AL7 Nat} {Ib Ck post:AL7 Io} {t:Io} {σ σ1:St} {a0 a:Act} {w0 w:World} {g0 g:G} {D D':Nat->Bool}
theorem Inv.next(he:EnvOk P en)(Vz:Inv P A N done Ib σ m a0 w0 g0 D a w g)(cS:Tr en B4.toList A done Np σ Ib σ1)(Sm:∀u∈Ib,u.iH=false)(QX:Ib=Ck++t::post)(QY:D t.i=false)(V1:∀x∈DU A t.i,D x=true)
    (YN:∀u∈Ck,u.i∈DU A t.i\/u.o.apart B4 t.o=true) (b7:∀u∈post,t.i∈DU A u.i\/t.o.apart B4 u.o=true)
    (h0:∀(i:Nat) (x:AV),σ.AF[i]?=some x->∀k∈x.Cf,k<σ.An.length) (iW:VQ σ.An) (hm:m<=σ.An.length)
    (qw:∀i,D' i=if i=t.i then true else D i) (hnp:∀u∈Ck,u.i≠t.i) (hnq:∀u∈post,u.i≠t.i)
    {l l':AL7 Blk} (hl:Hd D Ib σ.An=t.σ.An++l) (ug:t.post.An=t.σ.An++l') (hlg:t.grow=true->l=[]) (ACZ:t.grow=false->l'=[])
    {v:Value} {w':World} {g':G} (H':Ba w' g' (t.σ.An++(l++l'))) (hv:BS w' g' (t.σ.An++(l++l')).length t.val v) (QD:∀k∈t.val.Cf,k<t.post.An.length) (st:Step [] (Hd D Ib σ.An).length w g w' g') :
    Inv P A N done Ib σ m a0 w0 g0 D' (a.put t.o.dst v) w' g':=by
 obtain⟨_,hsc,hlen,Wt,hgp,hB,_⟩:=Vz.find he cS Sm QX QY V1 YN b7 h0 iW;have ACk:∃l0,t.σ.An=σ.An++l0:=by
  subst QX;obtain⟨xK,σt,htp,yy⟩:=cS.split;cases yy with
  |cons hσ ok ha hb next =>
   subst hσ;obtain⟨_,_,l0,qN⟩:=htp.jF he λu hu=>Sm u (by simp[hu]);exact⟨l0,qN⟩
 have aR:t.Ok en B4.toList:=cS.AdZ t (by rw[QX];simp);obtain⟨l1,e1,e2,e3,_⟩:=ZC he aR (Sm t (by rw[QX];simp));have kl:l1=l':=List.append_cancel_left (e1.symm.trans ug);subst kl;have hDt:D' t.i=true:=by rw[qw];simp
 have hDp:∀u∈Ck,D u.i=D' u.i:=λu hu=>by rw[qw,AJh (hnp u hu)]
 have hDq:∀u∈post,D u.i=D' u.i:=λu hu=>by rw[qw,AJh (hnq u hu)]
 have hB':Hd D' Ib σ.An=t.σ.An++(l++l1):=by
  have h1:Hd D Ib σ.An=Hd D post t.σ.An:=by
   rw[QX,Zw,Hd,hB,QY];rfl
  rw[QX,Zw,Hd,<-tM hDp,hB,hDt,AK0,<-tM hDq];cases hg:t.grow with
  |false =>
   simp only[AJN,AKv];rw[<-h1,hl,ACZ hg,AJD]
  |true =>
   simp only[AJK];have AzM:∀u∈post,D u.i=true->u.grow=false:=λu hu hd=>by
    have:=(Wt u hu hd).1;rw[hg]at this;cases this
   rw[XD AzM,hlg hg,AJ7];cases hq:t.e with
   |none=>simp[Io.grow,hq]at hg
   |some e=>simp only[Io.nb,hq];exact(e3 e hq).2
 have Ug:(Hd D Ib σ.An).length<=(Hd D' Ib σ.An).length:=by rw[hl,hB'];simp
 refine⟨λi hi=>?_,λi hi=>?_,λi hi x hx=>?_,by rw[put_defers];exact Vz.dfr,by rw[VH];exact Vz.len,?_,by rw[hB'];exact H',λk x hx=>?_,λu hu hd=>?_,λu hu hd hg=>?_⟩
 ·rw[qw];split
  ·rfl
  ·exact Vz.ub i hi
 ·rw[qw]at hi;split at hi
  ·rename_i e;exact .inr ⟨t,by rw[QX];simp,e.symm⟩
  ·exact Vz.only i hi
 ·rw[qw]at hi⊢;split
  ·rfl
  ·split at hi
   ·rename_i e;subst e;exact V1 x hx
   ·exact Vz.eZ i hi x hx
 ·refine Vz.step.trans (st.vb ?_);obtain⟨l0,dF⟩:=ACk;rw[hl,dF];simp only[AI2];omega
 ·by_cases hd:t.o.dst=some k
  ·have qR:(Lu D' Ib σ.AF)[k]?=(X7 (some k) t.val (Lu D' Ck σ.AF))[k]?:=by
     rw[QX,WX,Lu,hDt,AJg rfl,hd];refine XE λu hu hd' e=>?_;rw[<-hDq u hu]at hd';exact(Oper.apart_spec (Wt u hu hd').2).2.1 k hd e
   rw[qR]at hx;have hval:=kW hx;subst hval;have iT:k<a.tmps.size:=by
    have:=AO hx;rw[ZX,Zx,Vz.len]at this;exact this
   rw[hd,R1 iT,hB'];exact hv
  ·rw[UI hd];have qR:(Lu D' Ib σ.AF)[k]?=(Lu D Ib σ.AF)[k]?:=by
    rw[QX,WX,WX,Lu,Lu,hDt,QY,<-tN hDq,<-tN hDp];simp only[AJK,AJN,AKv];exact fj (dK hd)
   rw[qR]at hx;exact(Vz.AF k x hx).Qx st Ug
 ·rw[qw]at hd;split at hd
  ·rename_i e;have hut:u=t:=by
    rw[QX]at hu;rcases List.mem_append.1 hu with hu |hu
    ·exact(hnp u hu e).elim
    ·rcases List.mem_cons.1 hu with hu |hu
     ·exact hu
     ·exact(hnq u hu e).elim
   subst hut;exact QD
  ·exact Vz.Cf u hu hd
 ·rw[qw]at hd;split at hd
  ·rename_i e;have hut:u=t:=by
    rw[QX]at hu;rcases List.mem_append.1 hu with hu |hu
    ·exact(hnp u hu e).elim
    ·rcases List.mem_cons.1 hu with hu |hu
     ·exact hu
     ·exact(hnq u hu e).elim
   subst hut;rw[hlg hg,AJ7]at H';rw[ug];exact H'.scp
  ·exact Vz.scp u hu hd hg
end
theorem xw{w:World}{g:G}{n:Nat}{σ:St}{a:Act}{B4:Array Oper}{o:Oper}{b:Bool}(h:Want B4.toList σ o b)(hlen:σ.AF.length=a.tmps.size)
    (hs:∀k∈o.looksAt B4,∀x,σ.AF[k]?=some x->BS w g n x (a.tmps.getD k undef)):Region.wanted o (yielded B4 a.tmps)=b:=by
 cases h with
 |plain h=>simp[Region.wanted,h]
 |@guard g0 dh d b h hd hb =>
  rw[AJc]at hd;have hk:d∈o.looksAt B4:=AJx _ (by simp[h,hd]);have h1:=RF (hs d hk _ hb);have hl:d<a.tmps.size:=by rw[<-hlen];exact AO hb
  have h2:a.tmps[d]?=some (.bool b):=by
   rw[AJS hl];rw[AJ1,AJS hl]at h1;exact congrArg some h1
  simp[Region.wanted,h,yielded,hd,h2]
 |@nil g0 dh d h hd hb =>
  rw[AJc]at hd;have hk:d∈o.looksAt B4:=AJx _ (by simp[h,hd]);have h1:a.tmps.getD d undef=.tuple #[]:=hs d hk _ hb;have hl:d<a.tmps.size:=by rw[<-hlen];exact AO hb
  have h2:a.tmps[d]?=some (.tuple #[]):=by
   rw[AJS hl];rw[AJ1,AJS hl]at h1;exact congrArg some h1
  simp[Region.wanted,h,yielded,hd,h2]
section
variable {P:Program} {en:Gd} {B4:Array Oper} {A:AL7 (Nat×AL7 Nat)} {N m:Nat} {done Np:AL7 Nat} {Ib Ck post:AL7 Io} {t:Io} {σ σ1:St} {a0 a:Act} {w0 w:World} {g0 g:G} {D D':Nat->Bool} {Q:Exit->Act->World->Prop}
theorem Inv.op(he:EnvOk P en)(Vz:Inv P A N done Ib σ m a0 w0 g0 D a w g)(cS:Tr en B4.toList A done Np σ Ib σ1)(Sm:∀u∈Ib,u.iH=false)(QX:Ib=Ck++t::post)(QY:D t.i=false)(V1:∀x∈DU A t.i,D x=true)
    (YN:∀u∈Ck,u.i∈DU A t.i\/u.o.apart B4 t.o=true) (b7:∀u∈post,t.i∈DU A u.i\/t.o.apart B4 u.o=true)
    (h0:∀(i:Nat) (x:AV),σ.AF[i]?=some x->∀k∈x.Cf,k<σ.An.length) (iW:VQ σ.An) (hm:m<=σ.An.length)
    (qw:∀i,D' i=if i=t.i then true else D i) (hnp:∀u∈Ck,u.i≠t.i) (hnq:∀u∈post,u.i≠t.i) {K:Act->World->Prop}
    (hK:∀a' w' g',Inv P A N done Ib σ m a0 w0 g0 D' a' w' g'->K a' w'):wpOp P B4 Q t.i K a w:=by
 obtain⟨⟨l,hl,_,hlg⟩,hsc,hlen,Wt,hgp,hB,IR⟩:=Vz.find he cS Sm QX QY V1 YN b7 h0 iW;have aR:t.Ok en B4.toList:=cS.AdZ t (by rw[QX];simp);obtain⟨l1,e1,e2,e3,_⟩:=ZC he aR (Sm t (by rw[QX];simp));have ho:B4[t.i]?=some t.o:=by rw[<-AJc];exact aR.1
 have Adc:∀k∈t.o.looksAt B4,∀x,t.σ.AF[k]?=some x->BS w g (Hd D Ib σ.An).length x (a.tmps.getD k undef):=λk hk x hx=>(IR k hk x hx).1;have mZ:=aR.2;unfold wpOp;simp only[ho];cases hq:t.e with
 |none =>
  rw[hq]at mZ;rw[xw mZ hlen Adc];simp only[AJN,AKv];have hg:t.grow=false:=by simp[Io.grow,hq]
  have hval:t.val=.nil:=by simp[Io.val,hq]
  have Tz:=e2 hg;subst Tz;refine hK _ _ g (Vz.next he cS Sm QX QY V1 YN b7 h0 iW hm qw hnp hnq hl e1 hlg e2 ?_ ?_ ?_ (Step.refl _ _ _ _))
  ·rw[AJD,<-hl];exact Vz.heap
  ·rw[hval];exact(show BS _ _ _ .nil undef from rfl)
  ·rw[hval];intro k hk;cases hk
 |some e =>
  rw[hq]at mZ;rw[xw mZ.1 hlen Adc];simp only[AJK];obtain⟨AzI,ACC⟩:=e3 e hq;have hval:t.val=e.val:=by simp[Io.val,hq]
  have PK:M3 P (rj B4 t.o t.σ) t.o e:=RJ he (by rw[yM];exact mZ.2);refine .inl (zi PK AzI (l:=l) (l':=l1) ACC ?_ (w:=w) (g:=g) ?_ hsc (by simp only[rj,aU];exact hlen) (λi x hx=>?_) λv w' g' H' hv QD st=>?_)
  ·cases hg:t.grow with
   |true=>exact .inl (hlg hg)
   |false=>exact .inr (e2 hg)
  ·show Ba w g (t.σ.An++l);rw[<-hl];exact Vz.heap
  ·show BS w g (t.σ.An++l).length x _/\∀k∈x.Cf,k<t.σ.An.length;rw[<-hl];by_cases hi:i∈t.o.looksAt B4
   ·simp only[rj]at hx;rw[aV (j:=0) (by simpa using hi)]at hx;exact IR i hi x hx
   ·have:=ku (j:=0) (by simpa using hi) hx;subst this;exact⟨Qy,λk hk=>by cases hk⟩
  ·refine hK _ _ g' (Vz.next he cS Sm QX QY V1 YN b7 h0 iW hm qw hnp hnq hl e1 hlg e2 H' (by rw[hval];exact hv) (by rw[hval,j7 hq];exact QD) ?_);rw[hl];exact st
def BF(listed:Array Bool)(i:Nat):Bool:=listed.getD i false
theorem wY{listed:Array Bool}{i:Nat}(hi:i<listed.size)(j:Nat):BF (listed.setIfInBounds i true) j=if j=i then true else BF listed j:=by
 unfold BF;by_cases h:j=i
 ·subst h;simp[hi]
 ·rw[AJh h,getD_set_ne false (Ne.symm h)]
theorem T0{listed:Array Bool}(hs:listed.size=B4.size){i:Nat}:i∈Region.ready .any B4 listed↔i<B4.size/\BF listed i=false/\∀d∈Ts B4.toList i,BF listed d=true:=by
 rw[mem_ready];constructor
 ·rintro⟨h1,o,ho,h2⟩
  have hi:i<B4.size:=(Array.getElem?_eq_some_iff.1 ho).1;refine⟨hi,?_,λd hd=>?_⟩
  ·unfold BF;have ud:i<listed.size:=by omega
   simpa [AJ1,ud]using h1
  ·unfold Ts at hd;rw[AJc,ho]at hd;obtain⟨e,he,hd⟩:=List.mem_filterMap.1 hd;split at hd
   ·rename_i hb;injection hd with hd;subst hd;exact h2 e (by simpa using he) hb
   ·cases hd
 ·rintro⟨hi,h1,h2⟩
  have ud:i<listed.size:=by omega
  refine⟨?_,B4[i],AJS hi,λe he hb=>?_⟩
  ·unfold BF at h1;simpa [AJ1,ud]using h1
  ·refine h2 e.on ?_;unfold Ts;rw[AJc,AJS hi];exact List.mem_filterMap.2 ⟨e,by simpa using he,by rw[AJg hb]⟩
def left(D:Nat->Bool)(Ib:AL7 Io):Nat:=(Ib.filter λu=>!D u.i).length
theorem yH(QX:Ib=Ck++t::post)(QY:D t.i=false)(qw:∀i,D' i=if i=t.i then true else D i)(hnp:∀u∈Ck,u.i≠t.i)(hnq:∀u∈post,u.i≠t.i):left D Ib=left D' Ib+1:=by
 have bB:∀(l:AL7 Io),(∀u∈l,u.i≠t.i)->l.filter (λu=>!D u.i)=l.filter λu=>!D' u.i:=λl h=>List.filter_congr λu hu=>by rw[qw,AJh (h u hu)]
 subst QX;unfold left;rw[ALa,ALa,List.filter_cons,List.filter_cons,bB Ck hnp,bB post hnq,QY,show D' t.i=true by rw[qw];simp];simp;omega
end
theorem yI{D:Nat->Bool}{Ib:AL7 Io}(h:left D Ib=0):∀u∈Ib,D u.i=true:=λu hu=>by
 have:=AJT h;cases hd:D u.i with
 |true=>rfl
 |false =>
  have hm:u∈Ib.filter λu=>!D u.i:=List.mem_filter.2 ⟨hu,by simp[hd]⟩;rw[this]at hm;cases hm
theorem qk{D:Nat->Bool}:∀{Ib:AL7 Io},left D Ib≠0->∃Ck t post,Ib=Ck++t::post/\D t.i=false/\∀u∈Ck,D u.i=true
 |[],h=>(h rfl).elim
 |u::Ib,h=>by
  cases hd:D u.i with
  |false=>exact⟨[],u,Ib,rfl,hd,λ_ hu=>by cases hu⟩
  |true =>
   have:left D Ib≠0:=by
    unfold left at h⊢;rw[List.filter_cons,hd]at h;simpa using h
   obtain⟨Ck,t,post,e,h1,h2⟩:=qk this;exact⟨u::Ck,t,post,by rw[e];rfl,h1,λv hv=>by
    rcases List.mem_cons.1 hv with rfl |hv
    ·exact hd
    ·exact h2 v hv⟩
section
variable {P:Program} {en:Gd} {B4:Array Oper} {A:AL7 (Nat×AL7 Nat)} {m:Nat} {Q:Exit->Act->World->Prop} {a0:Act} {w0:World} {g0:G}
theorem rm{Ib Ck post:AL7 Io}{t:Io}(h:(Ib.map (·.i)).Nodup)(QX:Ib=Ck++t::post):(∀u∈Ck,u.i≠t.i)/\∀u∈post,u.i≠t.i:=by
 subst QX;rw[AJJ,AJI,AKO]at h;obtain⟨_,h2,h3⟩:=h;rw[List.nodup_cons]at h2;exact⟨λu hu=>h3 u.i (List.mem_map.2 ⟨u,hu,rfl⟩) t.i (by simp),λu hu e=>h2.1 (List.mem_map.2 ⟨u,hu,e⟩)⟩
theorem Aeh(he:EnvOk P en)(hA:jB B4.toList A){done Np:AL7 Nat}{Ib:AL7 Io}{σ σ1:St}(cS:Tr en B4.toList A done Np σ Ib σ1)(Sm:∀u∈Ib,u.iH=false)(R:AL7 Nat)
    (fL:∀i,i<B4.size->i∈done\/(∃u∈Ib,u.i=i)\/i∈R) (Bh:∀u∈Ib,u.i<B4.size) (Rm:(Ib.map (·.i)).Nodup)
    (W7:∀Ck t post,Ib=Ck++t::post->∀u∈post,t.i∈DU A u.i\/t.o.apart B4 u.o=true) (b8:∀Ck t post,Ib=Ck++t::post->∀d∈Ts B4.toList t.i,d∈done\/∃u∈Ck,u.i=d)
    (hR:∀i∈R,∀D:Nat->Bool,dU A D->(∀x∈DU A i,D x=true)->(∀r∈R,D r=false)->∀u∈Ib,D u.i=true) (hRd:∀r∈R,r∉done/\∀u∈Ib,u.i≠r)
    (h0:∀(i:Nat) (x:AV),σ.AF[i]?=some x->∀k∈x.Cf,k<σ.An.length) (iW:VQ σ.An) (hm:m<=σ.An.length)
    (cont:∀(listed:Array Bool) (a:Act) (w:World) (g:G),listed.size=B4.size->(∀i∈done,BF listed i=true)->(∀u∈Ib,BF listed u.i=true)->(∀r∈R,BF listed r=false)->dU A (BF listed)->Kg w g σ1 a->Bq m w0 g0 w g->a.defers=a0.defers ->
     wpAny P .any B4 Q R.length listed a w) :
    ∀(n:Nat) (listed:Array Bool) (a:Act) (w:World) (g:G),listed.size=B4.size->left (BF listed) Ib=n->Inv P A B4.size done Ib σ m a0 w0 g0 (BF listed) a w g->wpAny P .any B4 Q (n+R.length) listed a w
 |0,listed,a,w,g,hs,hn,Vz=>by
  have mU:=yI hn;obtain⟨h1,h2,_⟩:=cS.jF he Sm;have hR0:∀r∈R,BF listed r=false:=λr hr=>by
   cases hd:BF listed r with
   |false=>rfl
   |true =>
    rcases Vz.only r hd with h |⟨u,hu,e⟩
    ·exact((hRd r hr).1 h).elim
    ·exact((hRd r hr).2 u hu e).elim
  have hB:Hd (BF listed) Ib σ.An=σ1.An:=by rw[YA λu hu _=>mU u hu,<-h2]
  rw[AJu];refine cont listed a w g hs Vz.ub mU hR0 Vz.eZ ⟨by rw[<-hB];exact Vz.heap,by rw[h1,Zx];exact Vz.len,λi x hx=>?_⟩ Vz.step Vz.dfr;rw[<-hB];refine Vz.AF i x ?_;rw[YB (λu hu hd=>by rw[mU u hu]at hd;cases hd) rfl,<-h1];exact hx
 |n+1,listed,a,w,g,hs,hn,Vz=>by
  obtain⟨Ck,t,post,QX,QY,Ac8⟩:=qk (D:=BF listed) (Ib:=Ib) (by rw[hn];simp);rw[show n+1+R.length=(n+R.length)+1 by omega];have Az3:t.i∈Region.ready .any B4 listed:=(T0 hs).2 ⟨Bh t (by rw[QX];simp),QY,λd hd=>by
   rcases b8 Ck t post QX d hd with h |⟨u,hu,e⟩
   ·exact Vz.ub d h
   ·rw[<-e];exact Ac8 u hu⟩
  refine⟨λh=>by(rw[h]at Az3;cases Az3),λi hi=>?_⟩;obtain⟨hil,wN,Ut⟩:=(T0 hs).1 hi;have V1:=kZ hA Vz.eZ Ut;rcases fL i hil with h |⟨u,hu,rfl⟩|h
  ·rw[Vz.ub i h]at wN;cases wN
  ·obtain⟨p1,p2,Wu⟩:=List.append_of_mem hu;obtain⟨hnp,hnq⟩:=rm Rm Wu;have qw:=wY (listed:=listed) (i:=u.i) (by omega);refine Vz.op he cS Sm Wu wN V1 (λv hv=>?_) (W7 p1 u p2 Wu) h0 iW hm qw hnp hnq λa' w' g' ADO=>?_
   ·obtain⟨q1,q2,hq⟩:=List.append_of_mem hv;exact W7 q1 v (q2++u::p2) (by rw[Wu,hq];simp) u (by simp)
   ·refine Aeh he hA cS Sm R fL Bh Rm W7 b8 hR hRd h0 iW hm cont n _ a' w' g' (by simpa using hs) ?_ ADO;have:=yH Wu wN qw hnp hnq;omega
  ·have:=hR i h _ Vz.eZ V1 λr hr=>by
     cases hd:BF listed r with
     |false=>rfl
     |true =>
      rcases Vz.only r hd with h |⟨u,hu,e⟩
      ·exact((hRd r hr).1 h).elim
      ·exact((hRd r hr).2 u hu e).elim
   rw[this t (by rw[QX];simp)]at QY;cases QY
theorem sc:∀(ts:AL7 Io),∃Ib bu,ts=Ib++bu/\(∀u∈Ib,u.iH=false)/\(bu=[]\/∃b r,bu=b::r/\b.iH=true)
 |[]=>⟨[],[],rfl,λ_ h=>by(cases h),.inl rfl⟩
 |t::ts=>by
  cases hb:t.iH with
  |true=>exact⟨[],t::ts,rfl,λ_ h=>by(cases h),.inr ⟨t,ts,rfl,hb⟩⟩
  |false =>
   obtain⟨Ib,bu,e,h1,h2⟩:=sc ts;exact⟨t::Ib,bu,by rw[e];rfl,λu hu=>by
    rcases List.mem_cons.1 hu with rfl |hu
    ·exact hb
    ·exact h1 u hu,h2⟩
theorem AaN(he:EnvOk P en)(hA:jB B4.toList A){σ':St}(UT:∀a' w' g',Kg w' g' σ' a'->Bq m w0 g0 w' g'->a'.defers=a0.defers->Q .normal a' w') :
    ∀(k:Nat) (ts:AL7 Io) (done Np:AL7 Nat) (σ:St),ts.length=k->Tr en B4.toList A done Np σ ts σ'->(∀i,i<B4.size->i∈done\/∃u∈ts,u.i=i)->(∀u∈ts,u.i<B4.size)->(∀u∈ts,u.i∉done)->(ts.map (·.i)).Nodup ->
     (∀Ck t post,ts=Ck++t::post->∀u∈post,t.i∈DU A u.i\/t.o.apart B4 u.o=true)->(∀Ck t post,ts=Ck++t::post->∀d∈Ts B4.toList t.i,d∈done\/∃u∈Ck,u.i=d)->m<=σ.An.length ->
     ∀(listed:Array Bool) (a:Act) (w:World) (g:G),listed.size=B4.size->(∀i∈done,BF listed i=true)->(∀u∈ts,BF listed u.i=false)->dU A (BF listed)->Kg w g σ a->Bq m w0 g0 w g->a.defers=a0.defers->wpAny P .any B4 Q k listed a w:=by
 intro k;induction k using Nat.strongRecOn with
 |_ k ih =>
  intro ts done Np σ hk cS fL Bh Azm Rm W7 b8 hm listed a w g hs b5 QY SU BJ Az0 ACK;obtain⟨Ib,bu,rfl,Sm,Ac9⟩:=sc ts;obtain⟨xK,σ1,ht1,ht2⟩:=cS.split;obtain⟨_,_,lx,ACP⟩:=ht1.jF he Sm;have AC7:(Ib.map (·.i)).Nodup:=by
   rw[AJJ,AKO]at Rm;exact Rm.1
  have AzD:left (BF listed) Ib=Ib.length:=by
   unfold left;rw[List.filter_eq_self.2 λu hu=>by rw[QY u (by simp[hu])];rfl]
  have W6:∀u∈bu,∀v∈Ib,v.i≠u.i:=λu hu v hv=>by
   rw[AJJ,AKO]at Rm;exact Rm.2.2 v.i (List.mem_map.2 ⟨v,hv,rfl⟩) u.i (List.mem_map.2 ⟨u,hu,rfl⟩)
  have hBn:Hd (BF listed) Ib σ.An=σ.An:=XD λu hu hd=>by rw[QY u (by simp[hu])]at hd;cases hd
  have hSn:∀i,(Lu (BF listed) Ib σ.AF)[i]?=σ.AF[i]?:=λi=>XE λu hu hd=>by rw[QY u (by simp[hu])]at hd;cases hd
  have AzC:k=Ib.length+(bu.map (·.i)).length:=by rw[AJa,<-AI2];exact hk.symm
  rw[AzC];refine Aeh (a0:=a0) (w0:=w0) (g0:=g0) he hA ht1 Sm (bu.map (·.i)) (λi hi=>?_) (λu hu=>Bh u (by simp[hu])) AC7 (λCk t post Wu u hu=>W7 Ck t (post++bu) (by rw[Wu];simp) u (by simp[hu])) (λCk t post Wu=>b8 Ck t (post++bu) (by rw[Wu];simp))
   (λi hi D hD V1 hRf u hu=>?_) (λr hr=>?_) (λi x hx=>(BJ.AF i x hx).SY) BJ.heap.scp hm (λwX a' w' g' ag hd' Ag9 hR' AcK cQ Adh Aiz=>?_) Ib.length listed a w g hs AzD ?_
  ·rcases fL i hi with h |⟨u,hu,e⟩
   ·exact .inl h
   ·rcases List.mem_append.1 hu with hu |hu
    ·exact .inr (.inl ⟨u,hu,e⟩)
    ·exact .inr (.inr (List.mem_map.2 ⟨u,hu,e⟩))
  ·rcases Ac9 with rfl |⟨b,r,rfl,hb⟩
   ·cases hi
   ·obtain⟨p1,p2⟩:=cS.Yl;rw[AJI]at hi;rcases List.mem_cons.1 hi with rfl |hi
    ·exact V1 _ ((p2 hb).2 u hu)
    ·obtain⟨v,hv,rfl⟩:=List.mem_map.1 hi;have h1:=V1 _ (p1 (by simp[hb]) v hv);rw[hRf b.i (by simp)]at h1;cases h1
  ·obtain⟨v,hv,rfl⟩:=List.mem_map.1 hr;exact⟨Azm v (by simp[hv]),λu hu=>W6 v hv u hu⟩
  ·rcases Ac9 with rfl |⟨b,r,rfl,hb⟩
   ·cases ht2;refine⟨List.eq_nil_iff_forall_not_mem.2 λi hi=>?_,UT a' w' g' cQ Adh Aiz⟩;obtain⟨hil,wN,_⟩:=(T0 ag).1 hi;rcases fL i hil with h |⟨u,hu,e⟩
    ·rw[hd' i h]at wN;cases wN
    ·rw[<-e,Ag9 u (by simpa using hu)]at wN;cases wN
   ·rw[AJI,AJL,AJa];have hbr:b.i∈Region.ready .any B4 wX:=(T0 ag).2 ⟨Bh b (by simp),hR' b.i (by simp),λd hd=>by
     rcases b8 Ib b r rfl d hd with h |⟨u,hu,e⟩
     ·exact hd' d h
     ·rw[<-e];exact Ag9 u hu⟩
    refine⟨λh=>by(rw[h]at hbr;cases hbr),λi hi=>?_⟩;obtain⟨hil,wN,Ut⟩:=(T0 ag).1 hi;have V1:=kZ hA AcK Ut;obtain⟨p1,p2⟩:=cS.Yl;have hib:i=b.i:=by
     rcases fL i hil with h |⟨u,hu,rfl⟩
     ·rw[hd' i h]at wN;cases wN
     ·rcases List.mem_append.1 hu with hu |hu
      ·rw[Ag9 u hu]at wN;cases wN
      ·rcases List.mem_cons.1 hu with rfl |hu
       ·rfl
       ·have:=V1 _ (p1 (by simp[hb]) u hu);rw[hR' b.i (by simp)]at this;cases this
    subst hib;cases ht2 with
    |cons hσ ok ha hbd next =>
     subst hσ;have ho:B4[b.i]?=some b.o:=by rw[<-AJc];exact ok.1
     have mZ:=ok.2;cases hq:b.e with
     |none=>simp[Io.iH,hq]at hb
     |some e =>
      rw[hq]at mZ;have PK:=RJ he mZ.2;unfold wpOp;simp only[ho];rw[AJg (Jk cQ mZ.1)];have SX:m<=b.σ.An.length:=by rw[ACP,AI2];omega
      refine .inl (PK.wp a' w' g' cQ _ Q λv w2 g2 H2 hv2 OH=>?_);have Wt:b.post=b.σ.after b.o.dst e:=by simp[Io.post,hq]
      have Fx:=wY (listed:=wX) (i:=b.i) (by omega);have AzW:∀u∈r,u.i≠b.i:=(rm Rm rfl).2;refine ih r.length (by rw[<-hk];simp;omega) r (b.i::((Ib.map (·.i)).reverse++done)) _ b.post rfl next (λi hi=>?_) (λu hu=>Bh u (by simp[hu])) (λu hu=>?_) ?_ (λCk t post Wu u hu=>W7 (Ib++b::Ck) t post (by rw[Wu];simp) u hu) (λCk t post Wu d hd=>?_) (by rw[Wt];exact AJs SX PK.grow)
       _ _ w2 g2 (by simpa using ag) (λi hi=>?_) (λu hu=>?_) (λi hi x hx=>?_) (by rw[Wt];exact cQ.after PK.grow H2 hv2 OH) (Adh.trans (OH.vb SX)) (by rw[put_defers];exact Aiz)
      ·rcases fL i hi with h |⟨u,hu,e⟩
       ·exact .inl (by simp[h])
       ·rcases List.mem_append.1 hu with hu |hu
        ·exact .inl (by simp;exact .inr (.inl ⟨u,hu,e⟩))
        ·rcases List.mem_cons.1 hu with rfl |hu
         ·exact .inl (by simp[e])
         ·exact .inr ⟨u,hu,e⟩
      ·have h1:=Azm u (by simp[hu]);have h2:=AzW u hu;have h3:∀v∈Ib,v.i≠u.i:=λv hv=>W6 u (by simp[hu]) v hv;simp only[AKo,AJ2,List.mem_reverse,List.mem_map,not_or,not_exists,not_and];exact⟨h2,λv hv=>h3 v hv,h1⟩
      ·rw[AJJ,AKO,AJI,List.nodup_cons]at Rm;exact Rm.2.1.2
      ·rcases b8 (Ib++b::Ck) t post (by rw[Wu];simp) d hd with h |⟨u,hu,e⟩
       ·exact .inl (by simp[h])
       ·rcases List.mem_append.1 hu with hu |hu
        ·exact .inl (by simp;exact .inr (.inl ⟨u,hu,e⟩))
        ·rcases List.mem_cons.1 hu with rfl |hu
         ·exact .inl (by simp[e])
         ·exact .inr ⟨u,hu,e⟩
      ·rw[Fx];split
       ·rfl
       ·rename_i Lr;rcases List.mem_cons.1 hi with h |h
        ·exact(Lr h).elim
        ·rcases List.mem_append.1 h with h |h
         ·obtain⟨u,hu,rfl⟩:=List.mem_map.1 (List.mem_reverse.1 h);exact Ag9 u hu
         ·exact hd' i h
      ·rw[Fx,AJh (AzW u hu)];exact hR' u.i (by simp;exact .inr ⟨u,hu,rfl⟩)
      ·rw[Fx]at hi⊢;split
       ·rfl
       ·split at hi
        ·rename_i e;subst e;exact V1 x hx
        ·exact AcK i hi x hx
  ·refine⟨b5,λi hi=>.inl ?_,SU,ACK,BJ.len,Az0,by rw[hBn];exact BJ.heap,λi x hx=>?_,λu hu hd=>by(rw[QY u (by simp[hu])]at hd;cases hd),λu hu hd=>by(rw[QY u (by simp[hu])]at hd;cases hd)⟩
   ·have hil:i<B4.size:=by
      unfold BF at hi;rcases AI9 i listed.size with h' |h'
      ·omega
      ·simp[AJ1,Array.getElem?_eq_none h']at hi
    rcases fL i hil with h |⟨u,hu,rfl⟩
    ·exact h
    ·rw[QY u hu]at hi;cases hi
   ·rw[hSn]at hx;rw[hBn];exact BJ.AF i x hx
end
theorem bj:∀{l:AL7 Nat},nodup l=true->l.Nodup
 |[],_=>List.nodup_nil
 |k::r,h=>by
  simp only[nodup,AI5,AKk]at h;rw[List.nodup_cons];exact⟨by simpa using h.1,bj h.2⟩
theorem rA{all:AL7 Oper}{A:AL7 (Nat×AL7 Nat)}:∀{L Ck post:AL7 Nat} {i:Nat},ZS all A L=true->L=Ck++i::post->∀j∈post,i∈DU A j\/∃x y,all[i]?=some x/\all[j]?=some y/\x.apart all.toArray y=true
 |[],Ck,post,i,_,h=>by simp at h
 |k::L,[],post,i,hp,h=>by
  injection h with h1 h2;subst h1;subst h2;intro j hj;simp only[ZS,AI5]at hp;have:=List.all_eq_true.1 hp.1 j hj;rw[AKe]at this;rcases this with h |h
  ·exact .inl (by simpa using h)
  ·split at h
   ·rename_i x y hx hy;exact .inr ⟨x,y,hx,hy,h⟩
   ·cases h
 |k::L,p::Ck,post,i,hp,h=>by
  injection h with h1 h2;simp only[ZS,AI5]at hp;exact rA hp.2 h2
theorem xo{all:AL7 Oper}:∀{L Ck post done:AL7 Nat} {i:Nat},ia all L done=true->L=Ck++i::post->∀d∈Ts all i,d∈done\/d∈Ck
 |[],Ck,post,done,i,_,h=>by simp at h
 |k::L,[],post,done,i,hp,h=>by
  injection h with h1 h2;subst h1;intro d hd;simp only[ia,AI5]at hp;have:=List.all_eq_true.1 hp.1 d hd;exact .inl (by simpa using this)
 |k::L,p::Ck,post,done,i,hp,h=>by
  injection h with h1 h2;subst h1;simp only[ia,AI5]at hp;intro d hd;rcases xo hp.2 h2 d hd with h |h
  ·rcases List.mem_cons.1 h with h |h
   ·exact .inr (by simp[h])
   ·exact .inl h
  ·exact .inr (by simp[h])
theorem mD{P:Program}{en:Gd}{m:Nat}(he:EnvOk P en)(AC5:P.follows .mixedOrders=true){id:Nat}{B4:Array Oper}{L:AL7 Nat}(aR:AaM B4.toList L=true){σ σ':St}(hx:Tv en B4.toList (WQ B4.toList L []) L [] [] σ some=some σ')(hm:m<=σ.An.length) :
    m<=σ'.An.length/\∀(a:Act) (w:World) (g:G) (Q:Exit->Act->World->Prop),Kg w g σ a->(∀a' w' g',Kg w' g' σ' a'->Bq m w g w' g'->a'.defers=a.defers->Q .normal a' w')->(Code.region id B4 true).wp P Q a w:=by
 simp only[AaM,AI5]at aR;obtain⟨⟨⟨⟨Rm,fL⟩,Bh⟩,W7⟩,b8⟩:=aR;obtain⟨ts,WG,cS⟩:=ZD he.Yk hx;have hA:jB B4.toList (WQ B4.toList L []):=jG _ L [] (λi x h=>by cases h) Rm λi _ p hp=>by cases hp
 have grow:∀{ts:AL7 Io} {done Np:AL7 Nat} {σ σ':St},Tr en B4.toList (WQ B4.toList L []) done Np σ ts σ'->σ.An.length<=σ'.An.length:=by
  intro ts;induction ts with
  |nil=>intro done Np σ σ' h;cases h;exact AI4 _
  |cons t ts ih =>
   intro done Np σ σ' h;cases h with
   |cons hσ ok ha hb next =>
    subst hσ;refine AJs ?_ (ih next)
    have ok2:=ok.2;unfold Io.post;cases hq:t.e with
    |none=>exact AI4 _
    |some e =>
     rw[hq]at ok2;exact(RJ he ok2.2).grow
 have AAd:∀Ck t post,ts=Ck++t::post->L=Ck.map (·.i)++t.i::post.map (·.i):=λCk t post h=>by rw[<-WG,h];simp
 refine⟨AJs hm (grow cS),λa w g Q hs hq=>wp_region_any AC5 ?_⟩;have QN:Kg {w with drawn:=w.drawn+1} g σ a:=⟨hs.heap.drew,hs.len,λi x hx=>(hs.AF i x hx).Qx (Step.drew [] _ w g) (AI4 _)⟩;have hlen:ts.length=B4.size:=by
  have h1:ts.length=L.length:=by rw[<-WG,AJa]
  have hn:=bj Rm;have YQ:∀i∈L,i∈List.range B4.size:=λi hi=>by
   have:=List.all_eq_true.1 Bh i hi;simpa using this
  have ADs:∀i∈List.range B4.size,i∈L:=λi hi=>by
   have:=List.all_eq_true.1 fL i (by simpa using hi);simpa using this
  have h2:=hn.length_le_of_subset YQ;have h3:=List.nodup_range.length_le_of_subset ADs;rw[AJF]at h2 h3;omega
 have iV:∀i,BF (Array.replicate B4.size false) i=false:=λi=>by
  unfold BF;rw[AJ1,Array.getElem?_replicate];split<;>rfl
 refine AaN (m:=m) (a0:=a) (w0:=w) (g0:=g) he hA hq B4.size ts [] [] σ hlen cS (λi hi=>.inr ?_) (λu hu=>?_) (λu _ h=>by cases h) (by rw[WG];exact bj Rm) (λCk t post Wu u hu=>?_) (λCk t post Wu d hd=>?_) hm
  _ a _ g (by simp) (λi hi=>by cases hi) (λu _=>iV _) (λi hi=>by rw[iV]at hi;cases hi) QN (Step.drew _ _ w g) rfl
 ·have:=List.all_eq_true.1 fL i (by simpa using hi);have ud:i∈L:=by simpa using this
  rw[<-WG]at ud;obtain⟨u,hu,e⟩:=List.mem_map.1 ud;exact⟨u,hu,e⟩
 ·have zO:u.i∈L:=by rw[<-WG];exact List.mem_map.2 ⟨u,hu,rfl⟩
  have:=List.all_eq_true.1 Bh u.i zO;simpa using this
 ·rcases rA W7 (AAd Ck t post Wu) u.i (List.mem_map.2 ⟨u,hu,rfl⟩)with h |⟨x,y,hx,hy,h⟩
  ·exact .inl h
  ·have h1:=(cS.AdZ t (by rw[Wu];simp)).1;have h2:=(cS.AdZ u (by rw[Wu];simp[hu])).1;rw[hx]at h1;injection h1 with h1;rw[hy]at h2;injection h2 with h2;subst h1;subst h2;exact .inr (by simpa using h)
 ·rcases xo b8 (AAd Ck t post Wu) d hd with h |h
  ·cases h
  ·obtain⟨u,hu,e⟩:=List.mem_map.1 h;exact .inr ⟨u,hu,e⟩
section
variable {P:Program} {en:Gd} {m:Nat}
def sM(P:Program)(en:Gd)(m:Nat)(c:Code):Prop:=∀(σ:St) (e:Ex) (σ':St),ev en m c (Ex×St) σ Pj=some (e,σ')->m<=σ.An.length->m<=σ'.An.length /\
 ∀(a:Act) (w:World) (g:G) (Q:Exit->Act->World->Prop),Kg w g σ a->(∀a' w' g',Kg w' g' σ' a'->Bq m w g w' g'->a'.defers=a.defers->Q (mF e) a' w')->c.wp P Q a w
theorem ZF(he:X1 en){c:Code}{R:Type}{σ:St}{K:Ex->St->AL8 R}{r:R}(h:ev en m c R σ K=some r):∃e s,ev en m c (Ex×St) σ Pj=some (e,s)/\K e s=some r:=by
 rw[VX he]at h;cases hx:ev en m c _ σ _ with
 |none=>grind
 |some p=>grind
theorem Ahs(he:IL P en){body:Code}(ih:sM P en m body):sM P en m (.loop body):=by
 intro σ e σ' h hm;simp only[ev]at h;split at h
 ·rename_i hh ho _ _;split at h
  ·grind
  ·rename_i σ0 hσ0;have h:(fix (lg en m hh ho body) σ0).bind (λp=>Pj p.1 p.2)=some _:=h;cases hf:fix (lg en m hh ho body) σ0 with
   |none=>grind
   |some p =>
    rw[hf]at h;have h:p=(e,σ'):=by grind
    subst h;obtain⟨n,hn⟩:=(Vu.1 hf).n;have UT:∀n s,ToN (lg en m hh ho body) n s (e,σ')->m<=s.An.length->m<=σ'.An.length:=by
     intro n s hs;generalize ht:(e,σ')=t at hs;induction hs with
     |done hd =>
      subst ht;intro hms;obtain⟨e1,s',hb,hc⟩:=Wd he.Yk hd;rcases hc with ⟨_,WE,_,hr⟩|⟨_,WE,hh2,hr⟩
      ·grind
      ·injection hr with hr;injection hr with h1 h2;subst h2;exact Vw hh2
     |bh hd _ ihn =>
      intro hms;obtain⟨e1,s',hb,hc⟩:=Wd he.Yk hd;rcases hc with ⟨_,WE,Ac2,hr⟩|⟨_,WE,_,hr⟩
      ·injection hr with hr;subst hr;exact ihn ht (Vw Ac2)
      ·grind
    have sD :=Vw hσ0;refine⟨UT n σ0 hn sD,λa w g Q hs hq=>?_⟩;obtain⟨g0,sG,qP,_⟩:=V2 hσ0 hs hm;refine zC (λn a' w'=>∃s g',ToN _ n s _/\Kg w' g' s a'/\m<=s.An.length/\Bq m w g w' g'/\a'.defers=a.defers) (λn a1 w1 hR=>?_)  ⟨σ0,g0,hn,sG,sD,qP,rfl⟩;obtain⟨s,g1,qQ,QN,hms,V3,fM⟩:=hR;cases qQ with
    |done hd =>
     obtain⟨e1,s',hb,hc⟩:=Wd he.Yk hd;rcases hc with ⟨_,WE,_,hr⟩|⟨Lr,WE,hh2,hr⟩
     ·grind
     ·injection hr with hr;injection hr with h1 h2;subst h1;subst h2;obtain⟨Apw,ng⟩:=ih _ _ _ hb hms;refine ng a1 w1 g1 _ QN λa2 w2 g2 XN uj hd2=>?_;obtain⟨g3,qN,Adg,_⟩:=V2 hh2 XN Apw;have hQ:=hq a2 w2 g3 qN ((V3.trans uj).trans Adg) (hd2.trans fM);cases e with
      |normal=>grind
      |exit k=>exact hQ
      |ret=>exact hQ
    |bh hd ADu =>
     rename_i k;obtain⟨e1,s',hb,hc⟩:=Wd he.Yk hd;rcases hc with ⟨he1,WE,Ac2,hr⟩|⟨_,WE,_,hr⟩
     ·injection hr with hr;subst hr;subst he1;obtain⟨Apw,ng⟩:=ih _ _ _ hb hms;refine ng a1 w1 g1 _ QN λa2 w2 g2 XN uj hd2=>?_;obtain⟨g3,qN,Adg,hm3⟩:=V2 Ac2 XN Apw;exact⟨k,AJE _,_,g3,ADu,qN,hm3,(V3.trans uj).trans Adg,hd2.trans fM⟩
     ·grind
 ·grind
theorem YH:∀{l:AL7 (AL8 Unit)},qo l=some ()->∀x∈l,x=some ()
 |[],_,_,h=>by grind
 |[x],h,y,hy=>by rw[AJp]at hy;subst hy;exact h
 |x::y::r,h,z,hz=>by
  simp only[qo]at h;cases hf:x with
  |none=>grind
  |some u =>
   rw[hf]at h;rcases List.mem_cons.1 hz with rfl |hz
   ·grind
   ·exact YH h z hz
theorem Aco(he:IL P en){σ σ0:St}{l:AL8 (AL7 Nat)}(h:AgN m σ l=some σ0)(hm:m<=σ.An.length):m<=σ0.An.length/\∀{a:Act} {w:World} {g:G},Kg w g σ a->∃g0,Kg w g0 σ0 a/\Bq m w g w g0:=by
 cases l with
 |none=>simp only[AgN,AI0]at h;subst h;exact⟨hm,λhs=>⟨_,hs,Bq.refl _ _ _⟩⟩
 |some l =>
  have h:σ.head {Bb:=l} m=some σ0:=h;exact⟨Vw h,λhs=>by obtain⟨g1,h1,h2,_⟩:=V2 h hs hm;exact⟨g1,h1,h2⟩⟩
theorem Acs(he:X1 en){σ:St}{o:Oper}{e:G9}(ha:eB en σ o=none)(hs:rL en σ o=none)(ht:tlE en σ o=none)(hc:∀c,o.op≠.call c)(h:exec en σ o some=some e):∃e0,QL en σ o some=some e0:=by
 have h:Ur en σ o some=some e:=by
  unfold exec at h
  grind
 unfold Ur at h;rw[ha,hs,ht]at h;simp only at h;split at h
 ·cases hd:fu en o with
  |false=>grind
  |true =>
   rw[hd]at h;rw[L4 en he]at h;cases hx:QL en σ o some with
   |none=>grind
   |some e0=>grind
 ·rw[L4 en he]at h;cases hx:QL en σ o some with
  |none=>grind
  |some e0=>grind
theorem aC{α:Type}{k:IntKind}{x y:Int}{c:BoundsCode}{w w1:World}{r:α}(h:(boundsPanic k x y c:Sem α).run P w=.ok r w1):False:=by
 unfold boundsPanic at h;split at h
 ·rw[Sem.run_bind]at h;generalize (Sem.run P _ w)=q at h;cases q with
  |halt e w=>cases h
  |ok b w2=>simp[runtimePanic]at h
 ·simp[runtimePanic]at h
theorem Z3{t:TypeId}{w w1:World}{n:Nat}(h:(sizeOf t).run P w=.ok n w1):∀w',(sizeOf t).run P w'=.ok n w':=by
 intro w';unfold sizeOf typeInfo at h⊢;simp only[Sem.run_bind]at h⊢;have hp:(program).run P w=.ok P w:=rfl;have zN:(program).run P w'=.ok P w':=rfl;simp only[hp,zN,Result.andThen_ok]at h⊢;cases hq:P.info? t with
 |none=>rw[hq]at h;simp at h
 |some i=>rw[hq]at h;simp at h⊢;exact h.1
theorem jc{t:TypeId}{u v c:Value}{w w1:World}(h:(Instr.indexAt t u v).run P w=.ok c w1):∀w',(Instr.indexAt t u v).run P w'=.ok c w':=by
 intro w';unfold Instr.indexAt at h⊢;cases v with
 |int k i =>
  simp only[asIntOf,pure_bind]at h⊢;cases hu:P.underlying t with
  |none=>simp[underlying,hu]at h
  |some d =>
   cases d with
   |slice elem =>
    cases u with
    |slice base len cap =>
     simp[underlying,hu]at h⊢;cases base with
     |none=>exact(aC (by simpa using h)).elim
     |some a =>
      simp only at h⊢;split at h
      ·rename_i hc;rw[AJg hc];simp only[Sem.run_map]at h⊢;cases hs:(sizeOf elem).run P w with
       |halt e w=>rw[hs]at h;cases h
       |ok n w2 =>
        rw[hs]at h;rw[Z3 hs w'];simp at h⊢;exact h.1
      ·exact(aC (by simpa using h)).elim
    |_=>simp[underlying,hu]at h
   |array len elem =>
    cases u with
    |pointer p =>
     cases p with
     |none=>simp[underlying,hu,Instr.sureAddr]at h
     |some a =>
      simp[underlying,hu,Instr.sureAddr]at h⊢;split at h
      ·rename_i hc;rw[AJg hc];cases hs:(sizeOf elem).run P w with
       |halt e w=>rw[hs]at h;cases h
       |ok n w2 =>
        rw[hs]at h;rw[Z3 hs w'];simp at h⊢;exact h.1
      ·split at h
       ·cases h
       ·exact(aC h).elim
    |_=>simp[underlying,hu,Instr.sureAddr]at h
   |_=>simp[underlying,hu]at h
 |pointer p=>cases p<;>simp[asIntOf]at h
 |_=>simp[asIntOf]at h
def oV(P:Program){α:Type}(s:Sem α):Prop:=∀w w1 c,s.run P w=.ok c w1->∀w',s.run P w'=.ok c w'
theorem oV.pure{α:Type}(x:α):oV P (Pure.pure x:Sem α):=λw w1 c h w'=>by simp at h⊢;exact h.1
theorem oV.bind{α β:Type}{s:Sem α}{f:α->Sem β}(h1:oV P s)(h2:∀x,oV P (f x)):oV P (s >>= f):=λw w1 c h w'=>by
 rw[Sem.run_bind]at h⊢;cases hs:s.run P w with
 |halt e w2=>rw[hs]at h;cases h
 |ok x w2 =>
  rw[hs]at h;rw[h1 _ _ _ hs w'];exact h2 x _ _ _ h w'
theorem oV.info(t:TypeId):oV P (typeInfo t):=λw w1 c h w'=>by
 unfold typeInfo at h⊢;simp only[Sem.run_bind]at h⊢;have hp:(program).run P w=.ok P w:=rfl;have zN:(program).run P w'=.ok P w':=rfl;simp only[hp,zN,Result.andThen_ok]at h⊢;cases hq:P.info? t with
 |none=>rw[hq]at h;simp at h
 |some i=>rw[hq]at h;simp at h⊢;exact h.1
theorem oV.mapM{α β:Type}{f:α->Sem β}(h:∀x,oV P (f x)):∀l:AL7 α,oV P (l.mapM f)
 |[]=>by exact .pure _
 |x::l=>by rw[List.mapM_cons];exact .bind (h x) λy=>.bind (oV.mapM h l) λys=>.pure _
theorem oV.map{α β:Type}{s:Sem α}(f:α->β)(h:oV P s):oV P (f <$> s):=by
 exact .bind h λx=>.pure _
theorem pJ(t:TypeId)(Gb:Array (Nat×Value)):oV P (Instr.build t Gb):=by
 have KD:∀t,oV P (sizeOf t):=λt=>by exact .bind (.info t) λ_=>.pure _
 have QY:oV P (underlying t):=by
  refine .bind (λw w1 c h w'=>?_) λp=>?_
  ·have hp:(program).run P w=.ok P w:=rfl;have zN:(program).run P w'=.ok P w':=rfl
   grind
  ·split
   ·exact .pure _
   ·exact λw w1 c h=>by simp at h
 refine .bind (.bind (.info t) λi=>?_) λz=>?_
 ·split
  ·exact .pure _
  ·exact λw w1 c h=>by simp at h
 ·refine .bind QY λd=>?_;split
  ·refine .bind ?_ λps=>?_
   ·rw[Array.mapM_eq_mapM_toList];exact .map _ (.mapM (λf=>.bind (KD _) λ_=>.pure _) _)
   ·split
    ·exact .pure _
    ·exact λw w1 c h=>by simp at h
  ·refine .bind (KD _) λn=>?_;split
   ·exact .pure _
   ·exact λw w1 c h=>by simp at h
  ·exact λw w1 c h=>by simp at h
theorem kV(he:EnvOk P en){σ:St}{o:Oper}{e:G9}(hp:xe o=true)(hx:exec en σ o some=some e){w w1:World}{g:G}{a:Act}(hs:Kg w g σ a){n:Next}(hr:(execOp a.eval o).run P w=.ok n w1) :
    ∃c,∀w',(execOp a.eval o).run P w'=.ok (.value c) w':=by
 unfold xe at hp;split at hp
 ·rename_i x ho;exact⟨a.eval x,λw'=>by simp[execOp,ho]⟩
 ·rename_i x ho;exact⟨a.eval x,λw'=>by simp[execOp,ho]⟩
 ·rename_i x i ho;simp only[execOp,ho,Instr.extract]at hr⊢;split at hr
  ·split at hr
   ·rename_i v hv;exact⟨v,λw'=>by simp⟩
   ·cases hr
  ·cases hr
 ·rename_i t x f ho;have ha:eB en σ o=none:=by unfold eB;rw[ho]
  obtain⟨e0,hx⟩:=Acs he.Yk ha (by unfold rL yR;rw[ho]) (by unfold tlE;rw[ho]) (λc e=>by grind) hx;unfold QL at hx;rw[ho]at hx;simp only at hx;split at hx
  ·rename_i ti ht;have Wv:=AJ hs x;unfold iM at hx;split at hx
   ·rename_i k i p q hq;rw[hq]at Wv;split at hx
    ·rename_i fo hfo;obtain⟨_,_,_,b,_,e1⟩:=KL Wv;exact⟨.pointer (some ⟨b,i.toNat*(g.AQ k).jZ+q+fo,none⟩),λw'=>by simp[execOp,ho,e1,(Us   (he.t ht) hfo b _).1]⟩
    ·grind
   ·rename_i ks t' y hq;rw[hq]at Wv;split at hx
    ·rename_i hc;obtain⟨_,b,off,ds,e1,_⟩:=Xz Wv;cases hfo:ti.VG[f]? with
     |none =>
      rw[hfo]at hc;obtain⟨rfl,hc⟩:=hc;split at hx
      ·rename_i Uh u z hz
       exfalso
       have:∀(f:Nat) (t:Ty) (x:t.V) (v:AV),VZ ks t x f=some v->TX t f≠none:=by
        intro f;induction f with
        |zero=>intro t x v h;cases t<;>simp[VZ,TX]at h⊢
        |succ f ih =>
         intro t x v h;cases t with
         |Au a b =>
          have:=ih b x.2 v h;simp only[TX]
          grind
         |_=>simp[VZ]at h
       exact this f _ y _ hz hc
      ·grind
     |some fo=>exact⟨.pointer (some ⟨b,off+fo,none⟩),λw'=>by simp[execOp,ho,e1,(Us   (he.t ht) hfo b _).1]⟩
    ·grind
   ·grind
  ·grind
 ·rename_i t x i ho;simp only[execOp,ho]at hr⊢;rw[Sem.run_bind]at hr;cases hq:(Instr.indexAt t _ _).run P w with
  |halt e w=>rw[hq]at hr;cases hr
  |ok c w2=>exact⟨c,λw'=>by rw[Sem.run_bind,jc hq w'];rfl⟩
 ·rename_i t Gb ho;simp only[execOp,ho]at hr⊢;rw[Sem.run_bind]at hr;cases hq:(Instr.build t _).run P w with
  |halt e w=>rw[hq]at hr;cases hr
  |ok c w2=>exact⟨c,λw'=>by rw[Sem.run_bind,pJ _ _ _ _ _ hq w'];rfl⟩
 ·grind
theorem Zm(he:IL P en){h:SH}{B4:Array Oper}{σ':St}{Q:Exit->Act->World->Prop}{a0:Act}{w0:World}{g0:G}
    (UT:∀a' w' g',Kg w' g' σ' a'->Bq m w0 g0 w' g'->a'.defers=a0.defers->Q .normal a' w') (YP:Region.noSelect B4=true) (hQ:∀c a w,¬Q (.panic c) a w) :
    ∀(k:Nat) (listed:Array Bool) (σ:St),xL en h m B4 σ' k listed σ=some ()->m<=σ.An.length->∀(a:Act) (w:World) (g:G),Kg w g σ a->Bq m w0 g0 w g->a.defers=a0.defers->wpAny P .any B4 Q k listed a w
 |0,listed,σ,hw,hm,a,w,g,hs,BJ,hd=>by
  simp only[xL]at hw;split at hw
  ·rename_i hr;split at hw
   ·rename_i s hh;unfold M4 at hw;split at hw
    ·rename_i e;subst e;obtain⟨g1,QN,QP,_⟩:=V2 hh hs hm;exact⟨by grind,UT a w g1 QN (BJ.trans QP) hd⟩
    ·grind
   ·grind
  ·grind
 |k+1,listed,σ,hw,hm,a,w,g,hs,BJ,hd=>by
  simp only[xL]at hw;split at hw
  ·rename_i i hi;have hp:=List.find?_some hi;have fW:=List.mem_of_find?_eq_some hi;rw[AI5]at hp;simp only[QK]at hw;split at hw
   ·grind
   ·rename_i o ho;have wR:B4[i]?=some o:=by grind
    rw[wR]at hp;rcases O5 hw with ⟨hwt,h1⟩|⟨hwt,h1⟩
    ·rw[RI en he.Yk]at h1;cases hx:exec en σ o some with
     |none=>grind
     |some e =>
      rw[hx]at h1;have PK:=RJ he.toEnvOk hx;have O6:=PK.grow;have ng:=PK.wp a w g hs (wpAny P .any B4 Q k (listed.setIfInBounds i true)) (λ_ _ _=>False) λv w' g' hH hv cQ=>Zm he UT YP hQ k _ _ h1 (AJs hm O6) _ _ _ (hs.after O6 hH hv cQ) (BJ.trans (cQ.vb hm)) (by rw[Go.Va.put_defers];exact hd);have DT:∃n w1,(execOp a.eval o).run P w=.ok n w1:=by
       unfold Oper.wp at ng;cases hq:(execOp a.eval o).run P w with
       |ok n w1=>grind
       |halt e w1=>rw[hq]at ng;cases e<;>exact ng.elim
      obtain⟨n,w1,DT⟩:=DT;obtain⟨c,hc⟩:=kV he.toEnvOk hp.1 hx hs DT;have hy:Yields P B4 o c a:=.inl ⟨Jk hs hwt,hc⟩;refine wpAny_take wR YP hp.2 (by grind) (λc a w h=>(hQ c _ _ h).elim) hy ?_;unfold Oper.wp at ng;rw[hc w]at ng;exact ng
    ·have hy:Yields P B4 o undef a:=.inr ⟨Jk hs hwt,rfl⟩;refine wpAny_take wR YP hp.2 (by grind) (λc a w h=>(hQ c _ _ h).elim) hy ?_;exact Zm he UT YP hQ k _ _ h1 hm _ _ _ (hs.skip o.dst) BJ (by rw[Go.Va.put_defers];exact hd)
  split at hw
  ·grind
  ·rename_i hr;refine⟨λe=>by grind,λi hi=>?_⟩;have h1:=YH hw _ (List.mem_map_of_mem hi);simp only[QK]at h1;unfold wpOp;split at h1
   ·grind
   ·rename_i o ho;have wR:B4[i]?=some o:=by grind
    simp only[wR];rcases O5 h1 with ⟨hw,h1⟩|⟨hw,h1⟩
    ·rw[RI en he.Yk]at h1;cases hx:exec en σ o some with
     |none=>grind
     |some e =>
      rw[hx]at h1;have PK:=RJ he.toEnvOk hx;have O6:=PK.grow;rw[AJg (Jk hs hw)];refine .inl (PK.wp a w g hs _ Q λv w' g' hH hv cQ=>?_);exact Zm he UT YP hQ k _ _ h1 (AJs hm O6) _ _ _ (hs.after O6 hH hv cQ) (BJ.trans (cQ.vb hm)) (by rw[put_defers];exact hd)
    ·rw[Jk hs hw];exact Zm he UT YP hQ k _ _ h1 hm _ _ _ (hs.skip o.dst) BJ (by rw[put_defers];exact hd)
theorem Kg.cut{w:World}{g:G}{σ:St}{a:Act}(hs:Kg w g σ a):Kg w (g.cut σ.An.length) σ a:=by
 have fQ:∀b,g.own b=.Ik->(g.cut σ.An.length).own b=.Ik:=λb h=>by simp[G.cut,h]
 refine⟨⟨λb hb=>by simp[G.cut,hs.heap.BP b hb],λk x hx=>?_⟩,hs.len,λi x hx=>?_⟩
 ·have:=(hs.heap.Ls k x hx).Nm  fQ (du (AO hx)) λj hj=>du (hs.heap.scp k x hx j hj);rwa [Yv]at this
 ·have h:=hs.AF i x hx;have:=h.Nm    fQ λk hk=>du (h.SY k hk);rwa [L3]at this
theorem uw(he:EnvOk P en){σ:St}{o:Oper}{e:G9}{t:TypeId}{x:Operand}(ho:o.op=.load t x){k:Nat}{i:Int}{p:AL7 Nat}{f:Nat}{a0:AV}(hx:σ.B7 x=.ptr k i p f)(hb:σ.An[k]?=some (.box a0))(hex:exec en σ o some=some e)
    {w:World} {g:G} {a:Act} (hs:Kg w g σ a):∃b,(g.AQ k).a=some ⟨b,0,none⟩/\∃c,∀w',w'.heap[b]?=w.heap[b]?->(execOp a.eval o).run P w'=.ok (.value c) w':=by
 have ha:eB en σ o=none:=by
  unfold eB
  grind
 obtain⟨e0,hex⟩:=Acs he.Yk ha (by unfold rL yR;rw[ho]) (by unfold tlE;rw[ho]) (λc e=>by grind) hex;unfold QL at hex;rw[ho]at hex;simp only at hex;split at hex
 ·rename_i ti ht;have Wv:=AJ hs x;rw[hx]at Wv hex;obtain⟨hk,h0,h1,b,M6,yw⟩:=KL Wv;refine⟨b,M6,?_⟩;have hld:∃v,atP σ.An k i p f=some v/\v.size=ti.ty.size:=by
   split at hex
   ·split at hex
    ·unfold Y5 at hex;simp only[hb]at hex;cases hex
    ·grind
   ·unfold Yi at hex
    grind
  obtain⟨v,hv,KD⟩:=hld;obtain⟨cs,iP,C9⟩:=Vj hs.heap hv h1 M6;have hl:cs.length=ti.ty.size:=by rw[iP.len,KD]
  obtain⟨c,_,o5⟩:=RY (P:=P) (w:=w) (he.t ht) hl C9 (λhg=>by rw[hl];exact R6 hg);refine⟨c,λw' iX=>?_⟩;obtain⟨c',hr,Adj⟩:=RY (P:=P) (w:=w') (he.t ht) hl (λj u hu=>(Vo iX).trans (C9 j u hu)) (λhg=>by rw[hl];exact R6 hg);have:c'=c:=by
   cases hq:ti.ty.isAgg with
   |true=>rw[hq]at o5 Adj;rw[o5,Adj]
   |false=>rw[hq]at o5 Adj;rw[o5]at Adj;injection Adj with h _;exact h.symm
  subst this;simp[execOp,ho,yw,Instr.loadAt,Instr.sureAddr,hr]
 ·grind
theorem ApQ{ts:Array TypeId}{t:TypeId}{ad:AL8 Addr}{n cp:Nat}{w w1:World}{v:Value}(h:(Builtin.len_ ts t #[.slice ad n cp]).run P w=.ok v w1)(w':World):(Builtin.len_ ts t #[.slice ad n cp]).run P w'=.ok v w':=by
 unfold Builtin.len_ at h⊢;cases ht:ts[0]? with
 |none=>simp[ht]at h
 |some t =>
  cases hu:P.underlying t with
  |none=>simp[ht,underlying,hu]at h
  |some d =>
   cases d with
   |pointer q =>
    cases hq:P.underlying q with
    |none=>simp[ht,underlying,hu,hq]at h
    |some d=>cases d<;>simp[ht,underlying,hu,hq,goInt]at h⊢<;>exact h.1
   |slice _=>simp[ht,underlying,hu,goInt]at h⊢;exact h.1
   |array _ _=>simp[ht,underlying,hu,goInt]at h⊢;exact h.1
   |_=>simp[ht,underlying,hu,goInt]at h
theorem yJ{o:Oper}{c:Call}(ho:o.op=.call c)(hc:c.callee=.builtin .len){a:Act}{X:Operand}(hX:c.args.toList=[X]){ad:AL8 Addr}{n cp:Nat}(hv:a.eval X=.slice ad n cp){w w1:World}{nx:Next}(hr:(execOp a.eval o).run P w=.ok nx w1) :
    ∃v,∀w',(execOp a.eval o).run P w'=.ok (.value v) w':=by
 have hA:c.args=#[X]:=by grind
 have key:∀w',(execOp a.eval o).run P w'=((Builtin.len_ c.argTypes o.type #[.slice ad n cp]).run P w').andThen λv w'=>.ok (.value v) w':=λw'=>by
  simp[execOp,ho,resolve,hc,hA,hv,invoke,builtin]
 rw[key]at hr;cases hq:(Builtin.len_ _ _ _).run P w with
 |ok v w2=>exact⟨v,λw'=>by rw[key,ApQ hq w'];rfl⟩
 |halt e w2=>rw[hq]at hr;cases hr
theorem yV(he:EnvOk P en){QJ:AL7 Blk}{σ:St}{o:Oper}{e:G9}(hp:uG QJ σ o=true)(hx:exec en σ o some=some e){w w1:World}{g:G}{a:Act}(hs:Kg w g σ a){nx:Next}(hr:(execOp a.eval o).run P w=.ok nx w1)
    {B:Nat->Prop} {w0:World} (hN:∀k b,(g.AQ k).a=some ⟨b,0,none⟩->(∃a0,QJ[k]?=some (.box a0))->B b) (hw:∀b,B b->w.heap[b]?=w0.heap[b]?):∃c,∀w',(∀b,B b->w'.heap[b]?=w0.heap[b]?)->(execOp a.eval o).run P w'=.ok (.value c) w':=by
 unfold uG at hp;rw[AKe]at hp;rcases hp with hp |hp
 ·obtain⟨c,hc⟩:=kV he hp hx hs hr;exact⟨c,λw' _=>hc w'⟩
 ·split at hp
  ·rename_i t x ho;split at hp
   ·rename_i k i p f Wv;split at hp
    ·rename_i a1 a0 iO hbb;obtain⟨b,M6,c,hc⟩:=uw he ho Wv hbb hx hs;have hbn:=hN k b M6 ⟨a1,iO⟩;exact⟨c,λw' iX=>hc w' ((iX b hbn).trans (hw b hbn).symm)⟩
    ·cases hp
   ·cases hp
  ·rename_i c ho;have go:∀(X:Operand),c.callee=.builtin .len->c.args.toList=[X]->(∃ad n cp,a.eval X=.slice ad n cp)->∃v,∀w',(∀b,B b->w'.heap[b]?=w0.heap[b]?)->(execOp a.eval o).run P w'=.ok (.value v) w':=λX h1 h2 ⟨ad,n,cp,h3⟩=>by
    obtain⟨v,hv⟩:=yJ ho h1 h2 h3 hr;exact⟨v,λw' _=>hv w'⟩
   split at hp
   ·rename_i hc YM;unfold OV at YM;cases hl:c.args.toList with
    |nil=>rw[hl]at YM;cases YM
    |cons X r =>
     rw[hl]at YM;cases r with
     |nil =>
      simp only[AJI,AKt,AKw,and_true]at YM;have hv:=AJ hs X;rw[YM]at hv;obtain⟨_,ad,cp,ds,hv,_⟩:=Yu hv;exact go X hc hl ⟨_,_,_,hv⟩
     |cons _ _=>simp at YM
   ·rename_i hc YM;unfold OV at YM;cases hl:c.args.toList with
    |nil=>rw[hl]at YM;cases YM
    |cons X r =>
     rw[hl]at YM;cases r with
     |nil =>
      simp only[AJI,AKt,AKw,and_true]at YM;have hv:=AJ hs X;rw[YM]at hv;obtain⟨ad,hv⟩:=WR hv;exact go X hc hl ⟨_,_,_,hv⟩
     |cons _ _=>simp at YM
   ·cases hp
  ·rename_i op t x y yt ho;rw[AI5]at hp;obtain⟨h1,h2⟩:=hp;split at h2
   ·rename_i ks k u Uh k' v Wv hyy;have hk:k=k':=by simpa using h2
    subst hk;have e1:=AJ hs x;rw[Wv]at e1;have e1:=Di e1;have e2:=AJ hs y;rw[hyy]at e2;have e2:=Di e2;split at h1
    ·exact⟨_,λw' _=>by simp[execOp,ho,e1,e2,eqGuard,binOp,Op.intArith];rfl⟩
    ·exact⟨_,λw' _=>by simp[execOp,ho,e1,e2,eqGuard,binOp,Op.intArith];rfl⟩
    ·cases h1
   ·cases h2
  ·cases hp
theorem qg{R:Type}{all:AL7 Oper}{QJ:AL7 Blk}{i:Nat}{σ:St}{K:St->AL8 R}{r:R}(h:evQ en all QJ i σ K=some r):∃o,all[i]?=some o/\V0 all σ o (λσ=>exec en σ o λe=>if e.Bu.all (nbx QJ)then K (σ.after o.dst e)else none) (λσ=>K (σ.skip o.dst))=some r:=by
 unfold evQ at h;split at h
 ·cases h
 ·rename_i o ho;exact⟨o,ho,h⟩
theorem zt{w:World}{g:G}{n:Nat}:Bq m w g w (g.cut n) :=
 ⟨rfl,rfl,rfl,AI4 _,λb _ h=>⟨by simp[G.cut,h],rfl⟩,λb h=>⟨by simp[G.cut,h],rfl⟩,λb k p h hk hm=>(hm (List.mem_range.2 hk)).elim,λk hk=>rfl⟩
def Zc(gS:G)(QJ:AL7 Blk)(b:Nat):Prop:=∃k a1,QJ[k]?=some (.box a1)/\(gS.AQ k).a=some ⟨b,0,none⟩
theorem uJ{σ:St}{o:Oper}{e:G9}(PK:M3 P σ o e){QJ:AL7 Blk}{gS:G}(hme:e.Bu.all (nbx QJ)=true){w:World}{g:G}{a:Act}(hs:Kg w g σ a)(hm:m<=σ.An.length)(hNl:QJ.length<=σ.An.length)(Ce:∀k a1 b,QJ[k]?=some (.box a1)->(gS.AQ k).a=some ⟨b,0,none⟩->g.own b=.BB k []){next:Act->World->Prop}{Q:Exit->Act->World->Prop}
    (hn:∀v w' g',Kg w' g' (σ.after o.dst e) (a.put o.dst v)->Bq m w g w' g'->(∀b,Zc gS QJ b->w'.heap[b]?=w.heap[b]?)->(∀k,k<σ.An.length->g'.AQ k=g.AQ k)->(∀k a1 b,QJ[k]?=some (.box a1)->(gS.AQ k).a=some ⟨b,0,none⟩->g'.own b=.BB k [])->next (a.put o.dst v) w'):o.wp P a w next Q:=by
 refine PK.wp a w g hs next Q λv w' g' hH hv st=>?_
 have both:∀k a1 b,QJ[k]?=some (.box a1)->(gS.AQ k).a=some ⟨b,0,none⟩->w'.heap[b]?=w.heap[b]?/\g'.own b=.BB k []:=λk a1 b hk hb=>by
  have h:=st.BB b k [] (Ce k a1 b hk hb) (AJA (AO hk) hNl) (λh=>by
   have:=List.all_eq_true.1 hme k h;unfold nbx at this;rw[hk]at this;cases this)
  exact⟨h.2,h.1⟩
 exact hn v w' g' (hs.after PK.grow hH hv st) (st.vb hm) (λb ⟨k,a1,h1,h2⟩=>(both k a1 b h1 h2).1) (λk hk=>st.AQ k hk) λk a1 b h1 h2=>(both k a1 b h1 h2).2
theorem dj(he:IL P en){h:SH}{B4:Array Oper}{σ':St}{Q:Exit->Act->World->Prop}{a0:Act}{w0:World}{g0 gS:G}
    (UT:∀a' w' g',Kg w' g' σ' a'->Bq m w0 g0 w' g'->a'.defers=a0.defers->Q .normal a' w') (YP:Region.noSelect B4=true) (hQ:∀c a w,¬Q (.panic c) a w) {QJ:AL7 Blk} (H0:Ba w0 gS QJ) :
    ∀(k:Nat) (listed:Array Bool) (σ:St),tw en h m QJ B4 σ' k listed σ=some ()->m<=σ.An.length->QJ.length<=σ.An.length->∀(a:Act) (w:World) (g:G),Kg w g σ a->Bq m w0 g0 w g->a.defers=a0.defers->(∀b,Zc gS QJ b->w.heap[b]?=w0.heap[b]?)->(∀k,k<QJ.length->g.AQ k=gS.AQ k)->(∀k a1 b,QJ[k]?=some (.box a1)->(gS.AQ k).a=some ⟨b,0,none⟩->g.own b=.BB k []) ->
     wpAnyH P .any B4 Q (λw=>∀b,Zc gS QJ b->w.heap[b]?=w0.heap[b]?) k listed a w
 |0,listed,σ,hw,hm,hl,a,w,g,hs,BJ,hd,hS,Sl,Ce=>by
  simp only[tw]at hw;split at hw
  ·rename_i hr;split at hw
   ·rename_i s hh;unfold M4 at hw;split at hw
    ·rename_i e;subst e;obtain⟨g1,QN,QP,_⟩:=V2 hh hs hm;exact⟨by simpa using hr,UT a w g1 QN (BJ.trans QP) hd⟩
    ·cases hw
   ·cases hw
  ·cases hw
 |k+1,listed,σ,hw,hm,hl,a,w,g,hs,BJ,hd,hS,Sl,Ce=>by
  have one:∀(o:Oper) (e:G9) (i:Nat),exec en σ o some=some e->(if e.Bu.all (nbx QJ)then tw en h m QJ B4 σ' k (listed.setIfInBounds i true) (σ.after o.dst e)else none)=some ()->∀(Q':Exit->Act->World->Prop),
      o.wp P a w (λa' w'=>(∀b,Zc gS QJ b->w'.heap[b]?=w0.heap[b]?)/\wpAnyH P .any B4 Q (λw=>∀b,Zc gS QJ b->w.heap[b]?=w0.heap[b]?) k (listed.setIfInBounds i true) a' w') Q':=by
   intro o e i hx h1 Q';split at h1
   ·rename_i hme;have PK:=RJ he.toEnvOk hx;refine uJ (m:=m) (gS:=gS) PK hme hs hm hl Ce λv w' g' ag st' hS' Ay8 AzQ=>?_;have hS2:∀b,Zc gS QJ b->w'.heap[b]?=w0.heap[b]?:=λb hb=>(hS' b hb).trans (hS b hb);exact⟨hS2,dj he UT YP hQ H0 k _ _ h1 (AJs hm PK.grow) (AJs hl PK.grow) _ _ _ ag (BJ.trans st') (by rw[Go.Va.put_defers];exact hd) hS2 (λk hk=>(Ay8 k (AJA hk hl)).trans (Sl k hk)) AzQ⟩
   ·cases h1
  simp only[tw]at hw;split at hw
  ·rename_i i hi;unfold AiV at hi;have hp:=List.find?_some hi;have fW:=List.mem_of_find?_eq_some hi;rw[AI5]at hp;obtain⟨o,ho,hw⟩:=qg hw;have wR:B4[i]?=some o:=by rw[<-AJc];exact ho
   rw[wR]at hp;rcases O5 hw with ⟨hwt,h1⟩|⟨hwt,h1⟩
   ·rw[RI en he.Yk]at h1;cases hx:exec en σ o some with
    |none=>rw[hx]at h1;cases h1
    |some e =>
     rw[hx]at h1;have ng:=one o e i hx h1 (λ_ _ _=>False);have DT:∃n w1,(execOp a.eval o).run P w=.ok n w1:=by
      unfold Oper.wp at ng;cases hq:(execOp a.eval o).run P w with
      |ok n w1=>exact⟨n,w1,rfl⟩
      |halt e w1=>rw[hq]at ng;cases e<;>exact ng.elim
     obtain⟨n,w1,DT⟩:=DT;obtain⟨c,hc⟩:=yV he.toEnvOk hp.1 hx hs DT (B:=Zc gS QJ) (w0:=w0) (λk b hb AgW=>by
      obtain⟨a1,AgW⟩:=AgW;rw[Sl k (AO AgW)]at hb;exact⟨k,a1,AgW,hb⟩) hS
     have hy:YieldsIf P B4 (λw=>∀b,Zc gS QJ b->w.heap[b]?=w0.heap[b]?) o c a:=.inl ⟨Jk hs hwt,hc⟩;refine wpAnyH_take wR YP hp.2 (by simpa using fW) (λc a w h=>(hQ c _ _ h).elim) hy hS ?_;unfold Oper.wp at ng;rw[hc w hS]at ng;exact ng.2
   ·have hy:YieldsIf P B4 (λw=>∀b,Zc gS QJ b->w.heap[b]?=w0.heap[b]?) o undef a:=.inr ⟨Jk hs hwt,rfl⟩;refine wpAnyH_take wR YP hp.2 (by simpa using fW) (λc a w h=>(hQ c _ _ h).elim) hy hS ?_;exact dj he UT YP hQ H0 k _ _ h1 hm hl _ _ _ (hs.skip o.dst) BJ (by rw[Go.Va.put_defers];exact hd) hS Sl Ce
  split at hw
  ·cases hw
  ·rename_i hr;refine⟨λe=>by rw[e]at hr;exact(hr rfl).elim,λi hi=>?_⟩;have h1:=YH hw _ (List.mem_map_of_mem hi);obtain⟨o,ho,h1⟩:=qg h1;unfold wpOp;have wR:B4[i]?=some o:=by rw[<-AJc];exact ho
   simp only[wR];rcases O5 h1 with ⟨hw,h1⟩|⟨hw,h1⟩
   ·rw[RI en he.Yk]at h1;cases hx:exec en σ o some with
    |none=>rw[hx]at h1;cases h1
    |some e =>
     rw[hx]at h1;rw[AJg (Jk hs hw)];exact .inl (one o e i hx h1 Q)
   ·rw[Jk hs hw];simp only[AJN,AKv];exact⟨hS,dj he UT YP hQ H0 k _ _ h1 hm hl _ _ _ (hs.skip o.dst) BJ (by rw[put_defers];exact hd) hS Sl Ce⟩
theorem PF(he:IL P en):∀c:Code,sM P en m c
 |.skip=>λσ e σ' h hm=>by
  simp only[ev,AI0,AJb]at h;obtain⟨rfl,rfl⟩:=h;exact⟨hm,λa w g Q hs hq=>wp_skip (hq a w g hs (Bq.refl _ _ _) rfl)⟩
 |.ret=>λσ e σ' h hm=>by
  simp only[ev,AI0,AJb]at h;obtain⟨rfl,rfl⟩:=h;exact⟨hm,λa w g Q hs hq=>wp_ret (hq a w g hs (Bq.refl _ _ _) rfl)⟩
 |.exit n=>λσ e σ' h hm=>by
  simp only[ev,AI0,AJb]at h;obtain⟨rfl,rfl⟩:=h;exact⟨hm,λa w g Q hs hq=>wp_exit (hq a w g hs (Bq.refl _ _ _) rfl)⟩
 |.seq c d=>λσ e σ' h hm=>by
  simp only[ev]at h;have hj:∃e1 s1,m<=s1.An.length/\(∀(a:Act) (w:World) (g:G) (Q:Exit->Act->World->Prop),Kg w g σ a->(∀a' w' g',Kg w' g' s1 a'->Bq m w g w' g'->a'.defers=a.defers->Q (mF e1) a' w')->c.wp P Q a w) /\
      (match e1 with |.normal=>ev en m d (Ex×St) s1 Pj |.exit n=>Pj (.exit n) s1 |.ret=>Pj .ret s1)=some (e,σ'):=by
   split at h
   ·obtain⟨e1,s1,h1,h2⟩:=ZF he.Yk h;obtain⟨SX,sJ⟩:=PF he c σ e1 s1 h1 hm;exact⟨e1,s1,SX,sJ,h2⟩
   ·rename_i hh _;rw[AJW]at h;obtain⟨σ0,h0,h⟩:=h;obtain⟨sD,Ape⟩:=Aco he h0 hm;rw[AJW]at h;obtain⟨⟨e1,s2⟩,h1,h2⟩:=h;obtain⟨e0,s1,h3,h4⟩:=ZF he.Yk h1;rw[AJW]at h4;obtain⟨s3,h5,h6⟩:=h4;simp only[AI0,AJb]at h6;obtain⟨rfl,rfl⟩:=h6;obtain⟨SX,sJ⟩:=PF he c σ0 e0 s1 h3 sD;refine⟨e0,s3,Vw h5,λa w g Q hs hq=>?_,h2⟩;obtain⟨g0,sG,qP⟩:=Ape hs;refine sJ a w g0 Q sG λa' w' g' ag BJ hd=>?_;obtain⟨g3,qN,Adg,_⟩:=V2 h5 ag SX;exact hq a' w' g3 qN (qP.trans (BJ.trans Adg)) hd
  obtain⟨e1,s1,SX,sJ,h2⟩:=hj;cases e1 with
  |normal =>
   obtain⟨RN,ih2⟩:=PF he d s1 e σ' h2 SX;refine⟨RN,λa w g Q hs hq=>wp_seq (sJ a w g _ hs λa1 w1 g1 QN V3 fM=>?_)⟩;exact ih2 a1 w1 g1 Q QN λa2 w2 g2 XN uj hd2=>hq a2 w2 g2 XN (V3.trans uj) (hd2.trans fM)
  |exit n =>
   simp only[AI0,AJb]at h2;obtain⟨rfl,rfl⟩:=h2;exact⟨SX,λa w g Q hs hq=>wp_seq (sJ a w g _ hs λa1 w1 g1 QN V3 fM=>hq a1 w1 g1 QN V3 fM)⟩
  |ret =>
   simp only[AI0,AJb]at h2;obtain⟨rfl,rfl⟩:=h2;exact⟨SX,λa w g Q hs hq=>wp_seq (sJ a w g _ hs λa1 w1 g1 QN V3 fM=>hq a1 w1 g1 QN V3 fM)⟩
 |.cond c x y=>λσ e σ' h hm=>by
  simp only[ev]at h;split at h
  ·rename_i ks t hc;have hb:∀(a:Act) (w:World) (g:G),Kg w g σ a->a.eval c=.bool t:=λa w g hs=>by
    have:=AJ hs c;rw[hc]at this;exact RF this
   cases t
   ·obtain⟨SX,sJ⟩:=PF he y σ e σ' h hm;exact⟨SX,λa w g Q hs hq=>wp_cond_false (hb a w g hs) (sJ a w g Q hs hq)⟩
   ·obtain⟨SX,sJ⟩:=PF he x σ e σ' h hm;exact⟨SX,λa w g Q hs hq=>wp_cond_true (hb a w g hs) (sJ a w g Q hs hq)⟩
  ·cases h
 |.block n c=>λσ e σ' h hm=>by
  simp only[ev]at h;obtain⟨e1,s1,h1,h2⟩:=ZF he.Yk h;obtain⟨SX,sJ⟩:=PF he c σ e1 s1 h1 hm;cases e1 with
  |normal =>
   simp only[AI0,AJb]at h2;obtain⟨rfl,rfl⟩:=h2;exact⟨SX,λa w g Q hs hq=>wp_block (sJ a w g _ hs λa1 w1 g1 QN V3 fM=>hq a1 w1 g1 QN V3 fM)⟩
  |exit k =>
   simp only at h2;cases hk:k==n with
   |true =>
    rw[hk]at h2;simp only[AJe,AI0,AJb]at h2;obtain⟨rfl,rfl⟩:=h2;have Ve:k=n:=by simpa using hk
    subst Ve;exact⟨SX,λa w g Q hs hq=>wp_block (sJ a w g _ hs λa1 w1 g1 QN V3 fM=>by
     simp only[mF,Exit.inBlock,AJK];exact hq a1 w1 g1 QN V3 fM)⟩
   |false =>
    rw[hk]at h2;simp only[AJd,AI0,AJb]at h2;obtain⟨rfl,rfl⟩:=h2;have Ve:¬k=n:=by simpa using hk
    exact⟨SX,λa w g Q hs hq=>wp_block (sJ a w g _ hs λa1 w1 g1 QN V3 fM=>by
     simp only[mF,Exit.inBlock,AJh Ve];exact hq a1 w1 g1 QN V3 fM)⟩
  |ret =>
   simp only[AI0,AJb]at h2;obtain⟨rfl,rfl⟩:=h2;exact⟨SX,λa w g Q hs hq=>wp_block (sJ a w g _ hs λa1 w1 g1 QN V3 fM=>hq a1 w1 g1 QN V3 fM)⟩
 |.region id B4 false=>λσ e σ' h hm=>by
  simp only[ev]at h;rw[Tk he.Yk]at h;cases hx:QK en B4.toList (List.range B4.size) σ some with
  |none=>rw[hx]at h;cases h
  |some s =>
   rw[hx]at h;simp only[AIY,AI0,AJb]at h;obtain⟨rfl,rfl⟩:=h;refine⟨(ZE (Q:=λ_ _ _=>True) he.toEnvOk _ _ _ hx hm).1,λa w g Q hs hq=>wp_region ((ZE he.toEnvOk _ _ _ hx hm).2 a w g hs hq)⟩
 |.region id B4 true=>λσ e σ' h hm=>by
  simp only[ev]at h;split at h
  ·rename_i hh _;rw[AJW]at h;obtain⟨σ0,h0,h⟩:=h;obtain⟨sD,Ape⟩:=Aco he h0 hm;rw[AJW]at h;obtain⟨s,h1,h2⟩:=h;simp only[AI0,AJb]at h2;obtain⟨rfl,rfl⟩:=h2;unfold AhC at h1;split at h1
   ·cases h1
   rename_i YP;rw[Tk he.Yk,AJW]at h1;obtain⟨s0,h3,h4⟩:=h1;rw[AJW]at h4;obtain⟨s1,h5,h6⟩:=h4;rw[AJW]at h6;obtain⟨_,h7,h8⟩:=h6;injection h8 with h8;subst h8;refine⟨Vw h5,λa w g Q hs hq=>Code.wp_mono (Q:=λe a w=>match e with |.panic _=>False |e=>Q e a w) (λe a w h=>by cases e<;>first |exact h |exact h.elim) (wp_region_any he.mixed ?_)⟩
   obtain⟨g1,hs,V3⟩:=Ape hs;cases hqt:(SH.VI _)with
   |false =>
    rw[hqt,AJd]at h7;exact Zm (Q:=λe a w=>match e with |.panic _=>False |e=>Q e a w) he (a0:=a) (w0:=w) (g0:=g1) (λa' w' g' h1 h2 h3=>hq a' w' g' h1 (V3.trans h2) h3) (by simpa using YP) (λc a w h=>h) _ _ σ0 h7 sD a _ g1 ⟨hs.heap.drew,hs.len,λi x hx=>(hs.AF i x hx).Qx (Step.drew [] _ w g1) (AI4 _)⟩ (Step.drew _ _ w g1) rfl
   |true =>
    rw[hqt,AJe]at h7;have hsD:Kg w.drew (g1.cut σ0.An.length) σ0 a:=Kg.cut ⟨hs.heap.drew,hs.len,λi x hx=>(hs.AF i x hx).Qx (Step.drew _ _ _ _) (AI4 _)⟩;exact wpAny_of_held _ _ _ _ (dj (Q:=λe a w=>match e with |.panic _=>False |e=>Q e a w) he (a0:=a) (w0:=w.drew) (g0:=g1.cut σ0.An.length) (gS:=g1.cut σ0.An.length) (λa' w' g' h1 h2 h3=>hq a' w' g' h1 (((V3.trans ((Step.drew [] _ w g1).vb sD)).trans zt).trans h2) h3) (by simpa using YP) (λc a w h=>h) hsD.heap _ _ σ0 h7 sD (AI4 _) a _ _ hsD (Bq.refl _ _ _) rfl (λ_ _=>rfl) (λ_ _=>rfl) λk a1 b hk hb=>by
     obtain⟨_,b',_,_,ha',ho,_⟩:=hsD.heap.Ls k _ hk;rw[ha']at hb;injection hb with hb;injection hb with hb;subst hb;exact ho)
  split at h
  ·rename_i aR;rw[Tj he.Yk]at h;cases hx:Tv en B4.toList (WQ B4.toList (V8 en B4.toList B4.toList.length []) []) (V8 en B4.toList B4.toList.length []) [] [] σ some with
   |none=>rw[hx]at h;cases h
   |some s =>
    rw[hx]at h;simp only[AIY,AI0,AJb]at h;obtain⟨rfl,rfl⟩:=h;exact mD he.toEnvOk he.mixed aR hx hm
  ·cases h
 |.loop body=>Ahs he (PF he body)
 |.goto _=>λ_ _ _ h _=>by simp[ev]at h
 |.label _=>λ_ _ _ h _=>by simp[ev]at h
 |.rangeFunc ..=>λ_ _ _ h _=>by simp[ev]at h
 |.scope _=>λ_ _ _ h _=>by simp[ev]at h
 |.refuse _=>λ_ _ _ h _=>by simp[ev]at h
end
def Aed(tmps:Array Value):ResultVar->Sem Value
 |.tmp t=>pure (tmps.getD t undef)
 |.cell a t=>do loadVar t (<-asAddr (tmps.getD a undef))
theorem gJ(fn:Func)(tmps:Array Value):results fn tmps=(do let vs <-fn.results.mapM (Aed tmps);pure (if h:vs.size=1 then vs[0]else .tuple vs)):=by
 unfold results;congr 1
section
variable {P:Program} {en:Gd}
theorem uL(he:EnvOk P en){σ:St}{w:World}{g:G}{a:Act}(hs:Kg w g σ a):∀{rs:AL7 ResultVar} {l:AL7 AV},br en.Dm σ rs=some l ->
    ∃vs,(rs.mapM (Aed a.tmps)).run P w=.ok vs w/\Dj w g σ.An.length l vs
 |[],l,h=>by
  simp only[br,AI0]at h;subst h;exact⟨[],rfl,trivial⟩
 |.tmp t::rs,l,h=>by
  simp only[br]at h;split at h
  ·rename_i x l' hx hl;injection h with h;subst h;obtain⟨vs,hr,hv⟩:=uL he hs hl;exact⟨a.tmps.getD t undef::vs,by simp only[List.mapM_cons,Aed,Sem.run_bind,Sem.run_pure,Result.andThen_ok,hr],hs.AF t x hx,hv⟩
  ·cases h
 |.cell b t::rs,l,h=>by
  simp only[br]at h;split at h
  ·rename_i ti k i p o ht hx;split at h
   ·rename_i x l' Sl hl;split at h
    ·rename_i KD;injection h with h;subst h;obtain⟨vs,hr,hv⟩:=uL he hs hl;obtain⟨hk,h0,h1,bb,hb,hp⟩:=KL (hs.AF b _ hx);obtain⟨cs,iP,C9⟩:=Vj hs.heap Sl h1 hb;obtain⟨v,o6,o5⟩:=RY (w:=w) (he.t ht) (by rw[iP.len,KD.1]) C9 (λhg=>by rw[iP.len,KD.1];exact R6 hg);rw[<-KD.2]at o5;refine⟨v::vs,?_,Bl (U1 iP) iP o5,hv⟩;have:(asAddr (a.tmps.getD b undef)).run P w=.ok ⟨bb,i.toNat*(g.AQ k).jZ+o,none⟩ w:=by rw[hp];rfl
     simp only[List.mapM_cons,Aed,Sem.run_bind,Sem.run_pure,Result.andThen_ok,hr,this,o6]
    ·cases h
   ·cases h
  ·cases h
theorem fb{w:World}{g:G}{n:Nat}:∀{l:AL7 AV} {vs:AL7 Value},Dj w g n l vs->Cs w g n true (VT l) vs
 |[],[],_=>rfl
 |a::l,v::vs,⟨h1,h2⟩=>by
  refine⟨v,vs,rfl,?_,fb h2⟩;split
  ·exact .inl rfl
  ·rename_i ht;exact(BS.iff (by simpa using ht)).1 h1
 |[],_::_,h=>h.elim
 |_::_,[],h=>h.elim
theorem AhD{w:World}{g:G}{n:Nat}{l:AL7 AV}{vs:AL7 Value}(h:Dj w g n l vs):BS w g n (oc l) (if h:vs.toArray.size=1 then vs.toArray[0]else .tuple vs.toArray):=by
 match l,vs,h with
 |[],[],_=>rfl
 |[a],[v],h=>exact h.1
 |a::b::l,v::u::vs,h =>
  have:¬(v::u::vs).toArray.size=1:=by simp
  rw[dif_neg this];exact⟨_,rfl,fb h⟩
theorem az{w:World}{g:G}{n:Nat}:∀{l:AL7 AV} {vs:AL7 Value},Dj w g n l vs->l.length=vs.length
 |[],[],_=>rfl
 |_::_,_::_,h=>by simp[az h.2]
 |[],_::_,h=>h.elim
 |_::_,[],h=>h.elim
theorem Xy{w:World}{g:G}{n:Nat}:∀{l:AL7 AV} {vs:AL7 Value} {i:Nat} {x:AV},Dj w g n l vs->l[i]?=some x->∃v,vs[i]?=some v/\BS w g n x v
 |_::_,v::_,0,_,h,hx=>by simp at hx;subst hx;exact⟨v,rfl,h.1⟩
 |_::_,_::_,i+1,_,h,hx=>by
  obtain⟨v,hv,hr⟩:=Xy (i:=i) h.2 (by simpa using hx);exact⟨v,by simpa using hv,hr⟩
 |[],[],_,_,_,hx=>by simp at hx
 |[],_::_,_,_,h,_=>h.elim
 |_::_,[],_,_,h,_=>h.elim
theorem eA{w w':World}{g g':G}{n n':Nat}(st:Step [] n w g w' g')(hn:n<=n'):∀{l:AL7 AV} {vs:AL7 Value},Dj w g n l vs->Dj w' g' n' l vs
 |[],[],_=>trivial
 |_::_,_::_,h=>⟨h.1.Qx st hn,eA st hn h.2⟩
 |[],_::_,h=>h.elim
 |_::_,[],h=>h.elim
theorem aA{w:World}{g:G}{n:Nat}{x:AV}:∀{l:AL7 AV} {vs:AL7 Value} {i:Nat} {v:Value},Dj w g n l vs->vs[i]?=some v->BS w g n x v->Dj w g n (l.set i x) vs
 |_::_,_::_,0,v,h,hv,hx=>by
  simp at hv;subst hv;exact⟨hx,h.2⟩
 |_::_,_::_,i+1,v,h,hv,hx=>⟨h.1,aA h.2 (by simpa using hv) hx⟩
 |[],[],_,_,_,hv,_=>by simp at hv
 |[],_::_,_,_,h,_,_=>h.elim
 |_::_,[],_,_,h,_,_=>h.elim
theorem pX{m:Nat}{w:World}:∀{cs:AL7 (Nat×Co)} {l l':AL7 AV} {bs Gx:AL7 Blk} {g:G} {vs:AL7 Value},WW cs l bs=some (l',Gx)->Ba w g bs->Dj w g bs.length l vs->m<=bs.length ->
    ∃g',Ba w g' Gx/\Dj w g' Gx.length l' vs/\Bq m w g w g'
 |[],l,l',bs,Gx,g,vs,h,H,hx,hm=>by
  simp only[WW,AI0,AJb]at h;obtain⟨rfl,rfl⟩:=h;exact⟨g,H,hx,Bq.refl _ _ _⟩
 |(i,c)::r,l,l',bs,Gx,g,vs,h,H,hx,hm=>by
  simp only[WW]at h;split at h
  ·cases h
  ·rename_i v hv;split at h
   ·rename_i v' nb yo;obtain⟨u,hu,hr⟩:=Xy hx hv;obtain⟨g1,H1,cT,QP⟩:=tH H yo hr;obtain⟨g2,H2,qS,OH⟩:=pX (m:=m) h H1 (aA (eA QP (by simp) hx) hu cT) (by simp;omega);exact⟨g2,H2,qS,(QP.vb hm).trans OH⟩
   ·cases h
theorem wA{m:Nat}{w:World}:∀{cs:AL7 (Nat×Ty)} {l l':AL7 AV} {bs Gx:AL7 Blk} {g:G} {vs:AL7 Value},fF m cs l bs=some (l',Gx)->Ba w g bs->Dj w g bs.length l vs ->
    ∃g',Ba w g' Gx/\Dj w g' Gx.length l' vs/\Bq m w g w g'/\Gx.length=bs.length
 |[],l,l',bs,Gx,g,vs,h,H,hx=>by
  simp only[fF,AI0,AJb]at h;obtain⟨rfl,rfl⟩:=h;exact⟨g,H,hx,Bq.refl _ _ _,rfl⟩
 |(i,t)::r,l,l',bs,Gx,g,vs,h,H,hx=>by
  simp only[fF]at h;split at h
  ·cases h
  ·rename_i v hv;split at h
   ·rename_i v' nb hf;obtain⟨g1,H1,hl,QP,ha,cT,_,_⟩:=mR H hf;obtain⟨u,hu,hr⟩:=Xy hx hv;have AC3:∀{l:AL7 AV} {vs:AL7 Value},Dj w g bs.length l vs->Dj w g1 nb.length (l.map AV.Za) vs:=by
     intro l;induction l with
     |nil=>intro vs h;cases vs with
      |nil=>trivial
      |cons _ _=>exact h.elim
     |cons a l ih=>intro vs h;cases vs with
      |nil=>exact h.elim
      |cons v vs=>exact⟨by rw[hl];exact ha a v h.1,ih h.2⟩
    obtain⟨g2,H2,qS,OH,af⟩:=wA (m:=m) h H1 (aA (AC3 hx) hu (by rw[hl];exact cT u hr));exact⟨g2,H2,qS,QP.trans OH,af.trans hl⟩
   ·cases h
theorem Z6{w:World}{g:G}{E:AL7 Blk}{args:AL7 AV}{vs:AL7 Value}(H:Ba w g E)(h:Dj w g E.length args vs){n:Nat}(hn:args.length<=n) :
    Kg w g ⟨args++List.replicate (n-args.length) (.un 0),E⟩ {tmps:=vs.toArray++Array.replicate (n-vs.toArray.size) undef,defers:=[]} where
 heap:=H
 len:=by simp[az h]
 AF i x hx:=by
  have hl:=az h;rw[AJo]at hx;split at hx
  ·obtain⟨v,hv,hr⟩:=Xy h hx;have hi:=AO hv;have:(vs.toArray++Array.replicate (n-vs.toArray.size) undef).getD i undef=v:=by
    rw[AJ1,Array.getElem?_append_left (by simpa using hi)];simp[hv]
   rw[this];exact hr
  ·rw[AK7]at hx;split at hx
   ·injection hx with hx;subst hx;exact Qy
   ·cases hx
theorem XI{m:Nat}{w:World}{a:Act}:∀{l:AL7 Fi} {σ σ2:St} {g:G},W2 m l σ=some σ2->Kg w g σ a->m<=σ.An.length->∃g',Kg w g' σ2 a/\Bq m w g w g'/\m<=σ2.An.length
 |[],σ,σ2,g,h,hs,hm=>by
  simp only[W2,AI0]at h;subst h;exact⟨g,hs,Bq.refl _ _ _,hm⟩
 |.co k c::r,σ,σ2,g,h,hs,hm=>by
  simp only[W2]at h;split at h
  ·rename_i bs hb;obtain⟨g1,H1,st⟩:=Acb hs.heap hb;have hl:=dt hb;obtain⟨g2,h2,OH,RN⟩:=XI (σ:=⟨σ.AF,bs⟩) h ⟨H1,hs.len,λi x hx=>(hs.AF i x hx).Qx st hl⟩ (AJs hm hl);exact⟨g2,h2,(st.vb hm).trans OH,RN⟩
  ·cases h
 |.AK j::r,σ,σ2,g,h,hs,hm=>by
  simp only[W2]at h;refine XI (σ:=⟨σ.AF,σ.An.set j .AK⟩) h ⟨⟨hs.heap.BP,λk x hx=>?_⟩,hs.len,λi x hx=>by rw[AI7];exact hs.AF i x hx⟩ (by rw[AI7];exact hm);rw[AI7];rw[AJn]at hx;split at hx
  ·split at hx
   ·injection hx with hx;subst hx;trivial
   ·cases hx
  ·exact hs.heap.Ls k x hx
 |.mvs s p::r,σ,σ2,g,h,hs,hm=>by
  simp only[W2]at h;split at h
  ·rename_i σ1 h1;unfold mvP at h1;split at h1
   ·obtain⟨g1,QN,QP,SX⟩:=uz h1 hs hm;obtain⟨g2,XN,OH,RN⟩:=XI h QN SX;exact⟨g2,XN,QP.trans OH,RN⟩
   ·rename_i a0 sG;obtain⟨g1,QN,QP,SX⟩:=AdQ sG h1 hs hm;obtain⟨g2,XN,OH,RN⟩:=XI h QN SX;exact⟨g2,XN,QP.trans OH,RN⟩
   ·cases h1
  ·cases h
 |.mv k p::r,σ,σ2,g,h,hs,hm=>by
  simp only[W2]at h;split at h
  ·rename_i σ1 h1;obtain⟨g1,QN,QP,SX⟩:=uz h1 hs hm;obtain⟨g2,XN,OH,RN⟩:=XI h QN SX;exact⟨g2,XN,QP.trans OH,RN⟩
  ·cases h
theorem YY(he:IL P en){f:FuncId}{fn:Func}(hf:P.funcs[f]?=some fn){args:AL7 AV}{E:AL7 Blk}{av:AV}{E':AL7 Blk}(h:R4 en fn (AV×AL7 Blk) args E (λv b=>some (v,b))=some (av,E')) :
    E.length<=E'.length/\∀(w:World) (g:G) (vs:AL7 Value),Ba w g E->Dj w g E.length args vs->Calls P f vs.toArray w λe w'=>∃v g',e=.returned v/\Ba w' g' E'/\BS w' g' E'.length av v/\Bq E.length w g w' g':=by
 unfold R4 at h;split at h
 ·cases h
 ·rename_i c hc;split at h
  ·rename_i hl;obtain⟨e,σ',h1,h2⟩:=ZF he.Yk h;obtain⟨hm,ng⟩:=PF he c _ e σ' h1 (AI4 _);have key:∀(σ2:St) (l l0:AL7 AV) (QJ:AL7 Blk) (l':AL7 AV) (Gx:AL7 Blk),W2 E.length en.fi.UT σ'=some σ2->br en.Dm σ2 fn.results.toList=some l->fF E.length en.fi.Sj l σ2.An=some (l0,QJ)->WW en.fi.dM l0 QJ=some (l',Gx)->ck E.length Gx (oc l')=some (av,E')->(mF e=.normal\/mF e=.ret) ->
       E.length<=E'.length/\∀(w:World) (g:G) (vs:AL7 Value),Ba w g E->Dj w g E.length args vs->Calls P f vs.toArray w λe w'=>∃v g',e=.returned v/\Ba w' g' E'/\BS w' g' E'.length av v/\Bq E.length w g w' g':=by
    intro σ2 l l0 QJ l' Gx Api W8 dE yo yq hex;unfold ck at yq
    dsimp only at yq
    split at yq
    ·rename_i hp;simp only[AI0,AJb]at yq;obtain⟨wH,hE⟩:=yq;have hmn:=(Ad5 (Tn hp).1).1;have zI:E'.length=(kY Gx Gx.length (da (List.range E.length) (oc l').Cf)).length:=by rw[<-hE,AJa]
     refine⟨by rw[zI];exact hmn,λw g vs H hx=>?_⟩;refine calls_of_wp hf hc ?_;refine ng _ w g _ (Z6 H hx hl) λa' w' g0 sG qP hd=>?_;obtain⟨g',ag,cQ,RN⟩:=XI Api sG hm;have BJ:=qP.trans cQ;obtain⟨sr,hr,hv⟩:=uL he.toEnvOk ag W8;obtain⟨g1,H1,cT,QP,Tz⟩:=wA dE ag.heap hv;obtain⟨g2,H2,hv2,OH⟩:=pX yo H1 cT (by rw[Tz];exact RN);have Wt:∃u,(results fn a'.tmps).run P w'=.ok u w'/\∃v' ym,Ending.returned u=Ending.returned v'/\Ba w' ym E'/\BS w' ym E'.length av v'/\Bq E.length w g w' ym:=by
      refine⟨if h:sr.toArray.size=1 then sr.toArray[0]else .tuple sr.toArray,?_,_,g2.pick _,rfl,by rw[<-hE];exact kR H2 hp,?_,((BJ.trans QP).trans OH).trans (kS hp).1⟩
      ·rw[gJ,Array.mapM_eq_mapM_toList];simp only[Sem.run_bind,Sem.run_map,hr];rfl
      ·rw[zI,<-wH];exact((AhD hv2).Nm (λb h=>ZU h) λk hk=>ZV ((Tn hp).2.2.1 k hk)).DV
     obtain⟨u,cT,hv2⟩:=Wt;rcases hex with h |h<;>rw[h]<;>exact⟨hd,u,cT,hv2⟩
    ·cases yq
   have AeO:(match W2 E.length en.fi.UT σ' with
         |none=>none
         |some σ=>match br en.Dm σ fn.results.toList with
          |some l=>match fF E.length en.fi.Sj l σ.An with
           |some (l,bs)=>match WW en.fi.dM l bs with
            |some (l',Gx)=>match ck E.length Gx (oc l')with
             |some (v,bs)=>some (v,bs)
             |none=>none
            |none=>none
           |none=>none
          |none=>none)=some (av,E')->(mF e=.normal\/mF e=.ret)->E.length<=E'.length/\∀(w:World) (g:G) (vs:AL7 Value),Ba w g E->Dj w g E.length args vs->Calls P f vs.toArray w λe w'=>∃v g',e=.returned v/\Ba w' g' E'/\BS w' g' E'.length av v/\Bq E.length w g w' g':=by
    intro h hex;split at h
    ·cases h
    ·rename_i σ2 Api;split at h
     ·rename_i l W8;split at h
      ·rename_i l0 QJ dE;split at h
       ·rename_i l' Gx yo;split at h
        ·rename_i v bs yq;simp only[AI0,AJb]at h;obtain⟨rfl,rfl⟩:=h;exact key σ2 l l0 QJ l' Gx Api W8 dE yo yq hex
        ·cases h
       ·cases h
      ·cases h
     ·cases h
   cases e with
   |exit n=>cases h2
   |normal=>exact AeO h2 (.inl rfl)
   |ret=>exact AeO h2 (.inr rfl)
  ·cases h
theorem Ap.of(he:IL P en){f:FuncId}{fn:Func}(hf:P.funcs[f]?=some fn)(hn:(fn.name=="runtime.NumGoroutine")=false)(hb:fn.body.isNone=false){c:Callee}(hc:dS c)
    (h:∀args E av E',c.run (AV×AL7 Blk) args E (λv b=>some (v,b))=some (av,E')->R4 en fn (AV×AL7 Blk) args E (λv b=>some (v,b))=some (av,E')):Ap P f c where
 Yk:=hc
 snd args E av E' hr:=by
  obtain⟨h1,h2⟩:=YY he hf (h args E av E' hr);refine⟨h1,λw g vs H hx o a next Q hn'=>?_⟩
  have:(callFunc f vs.toArray).run P w=.ok (.enter f vs.toArray) w:=by
   have uh:¬fn.name="runtime.NumGoroutine":=by simpa using hn
   have dC:¬fn.body=none:=by
    intro e;rw[e]at hb;cases hb
   simp[callFunc,hf,uh,dC]
  rw[this,Oper.upon_enter];refine(h2 w g vs H hx).mono λe w' ⟨v,g',e1,hH,hv,BJ⟩=>?_;subst e1;exact hn' v w' g' hH hv BJ
theorem Ap.of2{f:FuncId}{fn:Func}(hf:P.funcs[f]?=some fn)(hn:(fn.name=="runtime.NumGoroutine")=false)(hb:fn.body.isNone=false){c:Callee}(hc:dS c)
    (h:∀args E av E',c.run (AV×AL7 Blk) args E (λv b=>some (v,b))=some (av,E')->∃en,IL P en/\R4 en fn (AV×AL7 Blk) args E (λv b=>some (v,b))=some (av,E')):Ap P f c where
 Yk:=hc
 snd args E av E' hr:=by
  obtain⟨en,he,h0⟩:=h args E av E' hr;obtain⟨h1,h2⟩:=YY he hf h0;refine⟨h1,λw g vs H hx o a next Q hn'=>?_⟩
  have:(callFunc f vs.toArray).run P w=.ok (.enter f vs.toArray) w:=by
   have uh:¬fn.name="runtime.NumGoroutine":=by simpa using hn
   have dC:¬fn.body=none:=by
    intro e;rw[e]at hb;cases hb
   simp[callFunc,hf,uh,dC]
  rw[this,Oper.upon_enter];refine(h2 w g vs H hx).mono λe w' ⟨v,g',e1,hH,hv,BJ⟩=>?_;subst e1;exact hn' v w' g' hH hv BJ
end
end Go.Va
