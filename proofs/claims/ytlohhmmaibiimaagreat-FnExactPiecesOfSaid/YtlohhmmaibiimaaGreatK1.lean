import Derived.Laws.Small
import Derived.Laws.Cells
import Derived.Laws.BytesArg
import Derived.Great.FillDense
import Derived.Test.YtlohhmmaibiimaaGreatK0
set_option linter.unusedVariables false
set_option linter.unusedSimpArgs false
namespace Go.Va
theorem Qd{w w':World}{b o:Nat}(h:w'.heap[b]?=w.heap[b]?):w'.cell? ⟨b,o,none⟩=w.cell? ⟨b,o,none⟩:=by simp[World.cell?,h]
theorem Ov{w:World}{b o:Nat}{cs:Array Value}{e:TypeId}{fr:Nat×Nat}(h:w.heap[b]?=some (.cells cs e fr)):w.cell? ⟨b,o,none⟩=cs[o]?:=by simp[World.cell?,h]
theorem FL.len{w:World}{A:Nat->Prop}:∀{t:Ty} {x:t.V} {cs:List Value},FL w A t x cs->cs.length=t.size
 | .int _,_,_,h=>by cases h;rfl
 | .bool,_,_,h=>by cases h;rfl
 | .str,_,_,h=>by cases h;rfl
 | .unit,_,_,h=>by cases h;rfl
 | .pair _ _,_,_,⟨_,_,e,h1,h2⟩=>by subst e;rw[Aw0,h1.len,h2.len];rfl
 | .sl _,_,_,⟨_,_,_,e,_⟩=>by subst e;rfl
 | .opq _,_,_,h=>h.elim
theorem Hv.len{w:World}{own:Nat->Tag}{k:Nat}:∀{t:Ty} {p:List Nat} {x:t.V} {cs:List Value},Hv w own k t p x cs->cs.length=t.size
 | .int _,_,_,_,h=>by cases h;rfl
 | .bool,_,_,_,h=>by cases h;rfl
 | .str,_,_,_,h=>by cases h;rfl
 | .unit,_,_,_,h=>by cases h;rfl
 | .pair _ _,_,_,_,⟨_,_,e,h1,h2⟩=>by subst e;rw[Aw0,h1.len,h2.len];rfl
 | .sl _,_,_,_,⟨_,_,e,_⟩=>by subst e;rfl
 | .opq _,_,_,_,h=>h.elim
theorem FL.one{w:World}{A:Nat->Prop}:∀{t:Ty} {x:t.V} {cs:List Value},FL w A t x cs->∀v∈cs,v.oneCell'=true
 | .int _,_,_,h,v,hv=>by cases h;simp at hv;subst hv;rfl
 | .bool,_,_,h,v,hv=>by cases h;simp at hv;subst hv;rfl
 | .str,_,_,h,v,hv=>by cases h;simp at hv;subst hv;rfl
 | .unit,_,_,h,v,hv=>by cases h;simp at hv
 | .pair _ _,_,_,⟨_,_,e,h1,h2⟩,v,hv=>by
  subst e;rcases List.mem_append.1 hv with hv | hv
  ·exact h1.one v hv
  ·exact h2.one v hv
 | .sl _,_,_,⟨_,_,_,e,_⟩,v,hv=>by subst e;simp at hv;subst hv;rfl
 | .opq _,_,_,h,_,_=>h.elim
theorem Hv.one{w:World}{own:Nat->Tag}{k:Nat}:∀{t:Ty} {p:List Nat} {x:t.V} {cs:List Value},Hv w own k t p x cs->∀v∈cs,v.oneCell'=true
 | .int _,_,_,_,h,v,hv=>by cases h;simp at hv;subst hv;rfl
 | .bool,_,_,_,h,v,hv=>by cases h;simp at hv;subst hv;rfl
 | .str,_,_,_,h,v,hv=>by cases h;simp at hv;subst hv;rfl
 | .unit,_,_,_,h,v,hv=>by cases h;simp at hv
 | .pair _ _,_,_,_,⟨_,_,e,h1,h2⟩,v,hv=>by
  subst e;rcases List.mem_append.1 hv with hv | hv
  ·exact h1.one v hv
  ·exact h2.one v hv
 | .sl _,_,_,_,⟨_,_,e,_⟩,v,hv=>by subst e;simp at hv;subst hv;rfl
 | .opq _,_,_,_,h,_,_=>h.elim
theorem BK.all{α:Type}{R:α->List Value->Prop}{P:Value->Prop}(h:∀x c,R x c->∀v∈c,P v):∀{xs cs},BK R xs cs->∀v∈cs,P v
 | [],_,hc,v,hv=>by cases hc;simp at hv
 | _::_,_,⟨c,d,e,r,l⟩,v,hv=>by
  subst e;rcases List.mem_append.1 hv with hv | hv
  ·exact h _ _ r v hv
  ·exact l.all h v hv
theorem AZ.all{α:Type}{I:Nat->α->List Value->Prop}{P:Value->Prop}(h:∀i x c,I i x c->∀v∈c,P v){i xs cs}(l:AZ I i xs cs):∀v∈cs,P v :=
 BK.all (R:=λx c=>∃i,I i x c) (λx c ⟨i,r⟩=>h i x c r) (l.toR λi _ _ r=>⟨i,r⟩)
theorem FL.mono{w w':World}{A A':Nat->Prop}(h:∀b,A b->A' b/\w'.heap[b]?=w.heap[b]?):∀{t:Ty} {x:t.V} {cs:List Value},FL w A t x cs->FL w' A' t x cs
 | .int _,_,_,r=>r
 | .bool,_,_,r=>r
 | .str,_,_,r=>r
 | .unit,_,_,r=>r
 | .pair _ _,_,_,⟨c,d,e,h1,h2⟩=>⟨c,d,e,h1.mono h,h2.mono h⟩
 | .sl _,_,_,⟨ad,cap,ds,e,hl,l,hm⟩=>⟨ad,cap,ds,e,hl,l.mono λ_ _ r=>r.mono h,hm.imp id λ⟨b,off,ha,hA,hc⟩ =>
     ⟨b,off,ha,(h b hA).1,λj u hu=>(Qd (h b hA).2).trans (hc j u hu)⟩⟩
 | .opq _,_,_,r=>r
theorem Hv.mono {w w':World} {own own':Nat->Tag} {k k':Nat}:∀{t:Ty} {p p':List Nat} {x:t.V} {cs:List Value},
    (∀b q,own b=.lab k (q++p)->own' b=.lab k' (q++p')/\w'.heap[b]?=w.heap[b]?)->Hv w own k t p x cs->Hv w' own' k' t p' x cs
 | .int _,_,_,_,_,_,r=>r
 | .bool,_,_,_,_,_,r=>r
 | .str,_,_,_,_,_,r=>r
 | .unit,_,_,_,_,_,r=>r
 | .pair _ _,p,p',_,_,h,⟨c,d,e,h1,h2⟩=>⟨c,d,e,
     h1.mono (λb q hb=>by have:=h b (q++[0]) (by simpa using hb);simpa using this),
     h2.mono (λb q hb=>by have:=h b (q++[1]) (by simpa using hb);simpa using this)⟩
 | .sl _,p,p',_,_,h,⟨ad,cap,e,hm⟩=>⟨ad,cap,e,hm.imp id λ⟨b,el,cur,ds,ha,hb,hh,h1,h2,h3,h4,l⟩ =>
     ⟨b,el,cur,ds,ha,(h b [] hb).1,(h b [] hb).2.trans hh,h1,h2,h3,h4,l.mono λi x c r=>r.mono (λb q hb=>by have:=h b (q++[i]) (by simpa using hb);simpa using this)⟩⟩
 | .opq _,_,_,_,_,_,r=>r
theorem P7.on{w w':World}{own own':Nat->Tag}{k k':Nat}{md md':RM}{kt vt:Ty}{st:Option kt.V}(h:∀(i:Nat) (x:vt.V) (cs:List Value),Ri w own k md vt i x cs->Ri w' own' k' md' vt i x cs):∀{i:Nat} {es:List (kt.V×vt.V)} {ms:List MapEntry},P7 w own k md kt vt st i es ms->P7 w' own' k' md' kt vt st i es ms
 | _,[],_,r=>r
 | i,x::xs,_,⟨m,r,e,hk,hv,hr⟩=>⟨m,r,e,hk,hv.imp id λ⟨cs,ho,ha⟩=>⟨cs,h i x.2 cs ho,ha⟩,hr.on h⟩
theorem Hv.rd{w:World}{own:Nat->Tag}{k:Nat}{A:Nat->Prop}(h:∀b q,own b=.lab k q->A b):∀{t:Ty} {p:List Nat} {x:t.V} {cs:List Value},Hv w own k t p x cs->FL w A t x cs
 | .int _,_,_,_,r=>r
 | .bool,_,_,_,r=>r
 | .str,_,_,_,r=>r
 | .unit,_,_,_,r=>r
 | .pair _ _,_,_,_,⟨c,d,e,h1,h2⟩=>⟨c,d,e,h1.rd h,h2.rd h⟩
 | .sl t,_,xs,_,⟨ad,cap,e,hm⟩=>by
  rcases hm with ⟨hx,hc⟩| ⟨b,el,cur,ds,ha,hb,hh,h1,h2,h3,h4,l⟩
  ·subst hx;exact⟨ad,cap,[],e,Nat.zero_le _,rfl,.inl rfl⟩
  ·refine⟨ad,cap,ds,e,h1,l.toR λi x c r=>r.rd h,.inr ⟨b,0,ha,h b _ hb,λj u hu=>?_⟩⟩;rw[Ov hh,Nat.zero_add,<-Axa];subst h4;rw[List.getElem?_take] at hu;split at hu
   ·exact hu
   ·cases hu
 | .opq _,_,_,_,r=>r
def Jr:(t:Ty)->t.V->List Value
 | .int k,x=>[.int k x]
 | .bool,b=>[.bool b]
 | .str,s=>[.string s]
 | .unit,_=>[]
 | .pair a b,x=>Jr a x.1++Jr b x.2
 | .sl _,_=>[]
 | .opq _,_=>[]
theorem FL.flat{w:World}{A:Nat->Prop}:∀{t:Ty} {x:t.V} {cs:List Value},t.flat=true->(FL w A t x cs↔cs=Jr t x)
 | .int _,_,_,_=>Iff.rfl
 | .bool,_,_,_=>Iff.rfl
 | .str,_,_,_=>Iff.rfl
 | .unit,_,_,_=>Iff.rfl
 | .pair a b,x,cs,h=>by
  simp only[Ty.flat,Aw3] at h;constructor
  ·rintro⟨c,d,e,h1,h2⟩
   rw[e,(FL.flat h.1).1 h1,(FL.flat h.2).1 h2];rfl
  ·intro e;exact⟨_,_,e,(FL.flat h.1).2 rfl,(FL.flat h.2).2 rfl⟩
 | .sl _,_,_,h=>by simp[Ty.flat] at h
 | .opq _,_,_,h=>by simp[Ty.flat] at h
theorem Hv.flat{w:World}{own:Nat->Tag}{k:Nat}:∀{t:Ty} {p:List Nat} {x:t.V} {cs:List Value},t.flat=true->(Hv w own k t p x cs↔cs=Jr t x)
 | .int _,_,_,_,_=>Iff.rfl
 | .bool,_,_,_,_=>Iff.rfl
 | .str,_,_,_,_=>Iff.rfl
 | .unit,_,_,_,_=>Iff.rfl
 | .pair a b,p,x,cs,h=>by
  simp only[Ty.flat,Aw3] at h;constructor
  ·rintro⟨c,d,e,h1,h2⟩
   rw[e,(Hv.flat h.1).1 h1,(Hv.flat h.2).1 h2];rfl
  ·intro e;exact⟨_,_,e,(Hv.flat h.1).2 rfl,(Hv.flat h.2).2 rfl⟩
 | .sl _,_,_,_,h=>by simp[Ty.flat] at h
 | .opq _,_,_,_,h=>by simp[Ty.flat] at h
def Na:Ty->List Value
 | .int k=>[.int k 0]
 | .bool=>[.bool false]
 | .str=>[.string ⟨#[]⟩]
 | .unit=>[]
 | .pair a b=>Na a++Na b
 | .sl _=>[.slice none 0 0]
 | .opq 0=>[.pointer none]
 | .opq 1=>[.map none]
 | .opq _=>[.nilFunc]
theorem OM:∀t:Ty,(Na t).length=t.size
 | .int _=>rfl
 | .bool=>rfl
 | .str=>rfl
 | .unit=>rfl
 | .pair a b=>by simp[Na,OM a,OM b,Ty.size]
 | .sl _=>rfl
 | .opq 0=>rfl
 | .opq 1=>rfl
 | .opq (_+2)=>rfl
theorem Hv.zero{w:World}{own:Nat->Tag}{k:Nat}:∀{t:Ty} {p:List Nat},t.data=true->Hv w own k t p t.zero (Na t)
 | .int _,_,_=>rfl
 | .bool,_,_=>rfl
 | .str,_,_=>rfl
 | .unit,_,_=>rfl
 | .pair a b,p,h=>by
  simp only[Ty.data,Aw3] at h;exact⟨_,_,rfl,Hv.zero h.1,Hv.zero h.2⟩
 | .sl t,p,_=>⟨none,0,rfl,.inl ⟨rfl,rfl⟩⟩
 | .opq _,_,h=>by simp[Ty.data] at h
theorem FL.zero{w:World}{A:Nat->Prop}:∀{t:Ty},t.data=true->FL w A t t.zero (Na t)
 | .int _,_=>rfl
 | .bool,_=>rfl
 | .str,_=>rfl
 | .unit,_=>rfl
 | .pair a b,h=>by
  simp only[Ty.data,Aw3] at h;exact⟨_,_,rfl,FL.zero h.1,FL.zero h.2⟩
 | .sl t,_=>⟨none,0,[],rfl,Aw2 _,rfl,.inl rfl⟩
 | .opq _,h=>by simp[Ty.data] at h
theorem Al.mono{own:Nat->Tag}{ks ks':List Nat}(h:∀k∈ks,k∈ks'){b:Nat}(a:Al own ks b):Al own ks' b:=a.imp id λ⟨k,hk,p,hp⟩=>⟨k,h k hk,p,hp⟩
theorem Al.step {mods:List Nat} {n:Nat} {w w':World} {g g':G} (s:Step mods n w g w' g') {ks:List Nat} (hn:∀k∈ks,k<n) (hm:∀k∈ks,k∉mods) {b:Nat} (a:Al g.own ks b) :
    Al g'.own ks b/\w'.heap[b]?=w.heap[b]?:=by
 rcases a with a | ⟨k,hk,p,hp⟩
 ·exact⟨.inl (s.Gr b a).1,(s.Gr b a).2⟩
 ·have:=s.lab b k p hp (hn k hk) (hm k hk);exact⟨.inr ⟨k,hk,p,this.1⟩,this.2⟩
theorem Step.refl(mods:List Nat)(n:Nat)(w:World)(g:G):Step mods n w g w g :=
 ⟨rfl,rfl,rfl,Aw2 _,λ_ _ h=>⟨h,rfl⟩,λ_ h=>⟨h,rfl⟩,λ_ _ _ h _ _=>⟨h,rfl⟩,λ_ _=>rfl⟩
theorem Step.trans{m1 m2:List Nat}{n n':Nat}{w w1 w2:World}{g g1 g2:G}(s:Step m1 n w g w1 g1)(t:Step m2 n' w1 g1 w2 g2)(hn:n<=n'):Step (m1++m2) n w g w2 g2 where
 os:=t.os.trans s.os
 tape:=t.tape.trans s.tape
 output:=t.output.trans s.output
 size:=Nat.le_trans s.size t.size
 no b hb h:=by
  have h1:=s.no b hb h;have h2:=t.no b (Nat.lt_of_lt_of_le hb s.size) h1.1;exact⟨h2.1,h2.2.trans h1.2⟩
 Gr b h:=by
  have h1:=s.Gr b h;have h2:=t.Gr b h1.1;exact⟨h2.1,h2.2.trans h1.2⟩
 lab b k p h hk hm:=by
  have h1:=s.lab b k p h hk (λe=>hm (List.mem_append_left _ e));have h2:=t.lab b k p h1.1 (Nat.lt_of_lt_of_le hk hn) (λe=>hm (List.mem_append_right _ e));exact⟨h2.1,h2.2.trans h1.2⟩
 at_ k hk:=(t.at_ k (Nat.lt_of_lt_of_le hk hn)).trans (s.at_ k hk)
theorem Step.weaken{m1 m2:List Nat}{n n':Nat}{w w':World}{g g':G}(s:Step m1 n w g w' g')(hm:∀k∈m1,k∈m2)(hn:n'<=n):Step m2 n' w g w' g' :=
 ⟨s.os,s.tape,s.output,s.size,s.no,s.Gr,λb k p h hk hk'=>s.lab b k p h (Nat.lt_of_lt_of_le hk hn) (λe=>hk' (hm k e)),λk hk=>s.at_ k (Nat.lt_of_lt_of_le hk hn)⟩
theorem Step.drew(mods:List Nat)(n:Nat)(w:World)(g:G):Step mods n w g w.drew g :=
 ⟨rfl,rfl,rfl,Aw2 _,λ_ _ h=>⟨h,rfl⟩,λ_ h=>⟨h,rfl⟩,λ_ _ _ h _ _=>⟨h,rfl⟩,λ_ _=>rfl⟩
theorem WX(bad:Nat->Bool)(a:AV):(a.drop bad).K9=true\/(a.drop bad).isAgg=a.isAgg:=by
 cases a with
 | dat ks t x=>simp only[AV.drop];split;exact .inl rfl;exact .inr rfl
 | rop ks t x=>simp only[AV.drop];split;exact .inl rfl;exact .inr rfl
 | Oz k i p o e=>simp only[AV.drop];split;exact .inl rfl;exact .inr rfl
 | P4 k i p o j u=>simp only[AV.drop];split;exact .inl rfl;exact .inr rfl
 | _=>exact .inr rfl
theorem oH(bad:Nat->Bool)(a:AV)(h:a.K9=true):(a.drop bad).K9=true:=by
 cases a<;>simp_all [AV.K9,AV.drop]
theorem BA.step{mods:List Nat}{n n':Nat}{w w':World}{g g':G}(s:Step mods n w g w' g')(hn:n<=n'):∀(a:AV) (m:Bool) {cs:List Value},BA w g n m a cs->BA w' g' n' m (a.drop λk=>mods.contains k) cs
 | .dat ks t x,false,cs,⟨hk,r⟩=>by
  simp only[AV.drop];split
  ·exact⟨r.len,r.one⟩
  ·rename_i hb;have hm:∀k∈ks,k∉mods:=λk hk hc=>hb (List.any_eq_true.2 ⟨k,hk,by simpa using hc⟩);exact⟨λk h=>Nat.lt_of_lt_of_le (hk k h) hn,r.mono λb a=>a.step s hk hm⟩
 | .zs,false,_,h=>h
 | .ref k,false,_,⟨hk,e⟩=>⟨Nat.lt_of_lt_of_le hk hn,by rw[s.at_ k hk];exact e⟩
 | .QS k l_,false,_,⟨hk,e⟩=>⟨Nat.lt_of_lt_of_le hk hn,by rw[s.at_ k hk];exact e⟩
 | .mp k,false,_,⟨hk,b,hb,e⟩=>⟨Nat.lt_of_lt_of_le hk hn,b,by rw[s.at_ k hk];exact hb,e⟩
 | .ptr k i p o,false,_,⟨hk,h0,h1,b,hb,e⟩=>⟨Nat.lt_of_lt_of_le hk hn,h0,by rw[s.at_ k hk];exact h1,b,by rw[s.at_ k hk];exact hb,by rw[s.at_ k hk];exact e⟩
 | .rop ks t x,false,cs,⟨hk,b,off,ds,e,ha,r,hc⟩=>by
  simp only[AV.drop];split
  ·subst e;exact⟨rfl,by intro v hv;simp at hv;subst hv;rfl⟩
  ·rename_i hb;have hm:∀k∈ks,k∉mods:=λk hk hc=>hb (List.any_eq_true.2 ⟨k,hk,by simpa using hc⟩);exact⟨λk h=>Nat.lt_of_lt_of_le (hk k h) hn,b,off,ds,e,(ha.step s hk hm).1,r.mono λb a=>a.step s hk hm,λj u hu=>(Qd (ha.step s hk hm).2).trans (hc j u hu)⟩
 | .JH,false,_,h=>h
 | .pr a b,false,_,⟨c,d,e,h1,h2⟩=>⟨c,d,e,BA.step s hn a false h1,BA.step s hn b false h2⟩
 | .fn f c,false,_,⟨vs,e,h⟩=>⟨vs,e,BA.step s hn c true h⟩
 | .un k,false,_,h=>h
 | .cons a b,true,_,⟨v,r,e,h1,h2⟩=>by
  refine⟨v,r,e,?_,BA.step s hn b true h2⟩;rcases WX (λk=>mods.contains k) a with hd | hd
  ·exact .inl hd
  ·exact h1.imp (oH _ a) λ⟨cs,h,hv⟩=>⟨cs,BA.step s hn a false h,by rw[hd];exact hv⟩
 | .nil,true,_,h=>h
 | .cons _ _,false,_,h=>h.elim
 | .nil,false,_,h=>h.elim
 | .Oz k i p o e,false,_,⟨hk,h0,h1,b,v,ha,ho,e1,e2,hc⟩=>by
  simp only[AV.drop];split
  ·subst e1;exact⟨rfl,by intro u hu;simp at hu;subst hu;exact e2⟩
  ·rename_i hb;have hl:=s.lab b k [] ho hk (by simpa using hb);exact⟨Nat.lt_of_lt_of_le hk hn,h0,by rw[s.at_ k hk];exact h1,b,v,by rw[s.at_ k hk];exact ha,hl.1,e1,e2,by rw[s.at_ k hk];exact(Qd hl.2).trans hc⟩
 | .Oz _ _ _ _ _,true,_,h=>h.elim
 | .P4 k i p o j u,false,_,⟨hk,h0,h1,b,b',l,c,ha,ho,e1,e2,hc⟩=>by
  simp only[AV.drop];split
  ·subst e1;exact⟨rfl,by intro u hu;simp at hu;subst hu;rfl⟩
  ·rename_i hb;have hl:=s.lab b k [] ho hk (by simpa using hb);exact⟨Nat.lt_of_lt_of_le hk hn,h0,by rw[s.at_ k hk];exact h1,b,b',l,c,by rw[s.at_ k hk];exact ha,hl.1,e1,e2,by rw[s.at_ k hk];exact(Qd hl.2).trans hc⟩
 | .P4 _ _ _ _ _ _,true,_,h=>h.elim
 | .dat _ _ _,true,_,h=>h.elim
 | .zs,true,_,h=>h.elim
 | .ref _,true,_,h=>h.elim
 | .QS _ _,true,_,h=>h.elim
 | .mp _,true,_,h=>h.elim
 | .ptr _ _ _ _,true,_,h=>h.elim
 | .rop _ _ _,true,_,h=>h.elim
 | .JH,true,_,h=>h.elim
 | .pr _ _,true,_,h=>h.elim
 | .fn _ _,true,_,h=>h.elim
 | .un _,true,_,h=>h.elim
theorem Bg.iff{w:World}{g:G}{n:Nat}{a:AV}{v:Value}(h:a.Cp=false):Bg w g n a v↔(a.K9=true\/∃cs,BA w g n false a cs/\A3 a.isAgg cs v):=by
 cases a<;>first | exact Iff.rfl | cases h
theorem ze(bad:Nat->Bool)(a:AV):(a.drop bad).Cp=a.Cp:=by
 cases a with
 | dat ks t x=>simp only[AV.drop];split<;>rfl
 | rop ks t x=>simp only[AV.drop];split<;>rfl
 | Oz k i p o e=>simp only[AV.drop];split<;>rfl
 | P4 k i p o j u=>simp only[AV.drop];split<;>rfl
 | _=>rfl
theorem Bg.step{mods:List Nat}{n n':Nat}{w w':World}{g g':G}(s:Step mods n w g w' g')(hn:n<=n'){a:AV}{v:Value}(h:Bg w g n a v):Bg w' g' n' (a.drop λk=>mods.contains k) v:=by
 cases ht:a.Cp with
 | false =>
  rw[Bg.iff ht] at h;rw[Bg.iff (by rw[ze];exact ht)];rcases WX (λk=>mods.contains k) a with hd | hd
  ·exact .inl hd
  ·exact h.imp (oH _ a) λ⟨cs,h,hv⟩=>⟨cs,BA.step s hn a false h,by rw[hd];exact hv⟩
 | true =>
  cases a with
  | cons a b=>obtain⟨vs,e,h⟩:=h;exact⟨vs,e,BA.step s hn (.cons a b) true h⟩
  | nil=>exact h
  | _=>cases ht
theorem T1(a:AV):(a.drop λ_=>false)=a:=by
 induction a with
 | dat ks t x=>simp[AV.drop]
 | rop ks t x=>simp[AV.drop]
 | Oz k i p o e=>simp[AV.drop]
 | P4 k i p o j u=>simp[AV.drop]
 | pr a b ha hb=>simp[AV.drop,ha,hb]
 | fn f c h=>simp[AV.drop,h]
 | cons a b ha hb=>simp[AV.drop,ha,hb]
 | _=>rfl
theorem Bg.step0{n n':Nat}{w w':World}{g g':G}(s:Step [] n w g w' g')(hn:n<=n'){a:AV}{v:Value}(h:Bg w g n a v):Bg w' g' n' a v:=by
 have:=h.step s hn;rwa [show(λk=>([]:List Nat).contains k)=λ_=>false from funext λ_=>rfl,T1] at this
theorem BA.step0{n n':Nat}{w w':World}{g g':G}(s:Step [] n w g w' g')(hn:n<=n'){a:AV}{m:Bool}{cs:List Value}(h:BA w g n m a cs):BA w' g' n' m a cs:=by
 have:=BA.step s hn a m h;rwa [show(λk=>([]:List Nat).contains k)=λ_=>false from funext λ_=>rfl,T1] at this
theorem BA.len{w:World}{g:G}{n:Nat}:∀{a:AV} {cs:List Value},BA w g n false a cs->cs.length=a.size
 | .dat _ _ _,_,h=>h.2.len
 | .zs,_,⟨_,e⟩=>by subst e;rfl
 | .ref _,_,⟨_,e⟩=>by subst e;rfl
 | .QS _ _,_,⟨_,e⟩=>by subst e;rfl
 | .mp _,_,⟨_,_,_,e⟩=>by subst e;rfl
 | .ptr _ _ _ _,_,⟨_,_,_,_,_,e⟩=>by subst e;rfl
 | .rop _ _ _,_,⟨_,_,_,_,e,_⟩=>by subst e;rfl
 | .JH,_,h=>by cases h;rfl
 | .pr a b,_,⟨_,_,e,h1,h2⟩=>by subst e;rw[Aw0,BA.len h1,BA.len h2];rfl
 | .fn _ _,_,⟨_,e,_⟩=>by subst e;rfl
 | .un _,_,h=>h.1
 | .cons _ _,_,h=>h.elim
 | .nil,_,h=>h.elim
 | .Oz _ _ _ _ _,_,⟨_,_,_,_,_,_,_,e,_⟩=>by subst e;rfl
 | .P4 _ _ _ _ _ _,_,⟨_,_,_,_,_,_,_,_,_,e,_⟩=>by subst e;rfl
theorem BA.one{w:World}{g:G}{n:Nat}:∀{a:AV} {cs:List Value},BA w g n false a cs->∀v∈cs,v.oneCell'=true
 | .dat _ _ _,_,h=>h.2.one
 | .zs,_,⟨_,e⟩=>by subst e;intro v hv;simp at hv;subst hv;rfl
 | .ref _,_,⟨_,e⟩=>by subst e;intro v hv;simp at hv;subst hv;rfl
 | .QS _ _,_,⟨_,e⟩=>by subst e;intro v hv;simp at hv;subst hv;rfl
 | .mp _,_,⟨_,_,_,e⟩=>by subst e;intro v hv;simp at hv;subst hv;rfl
 | .ptr _ _ _ _,_,⟨_,_,_,_,_,e⟩=>by subst e;intro v hv;simp at hv;subst hv;rfl
 | .rop _ _ _,_,⟨_,_,_,_,e,_⟩=>by subst e;intro v hv;simp at hv;subst hv;rfl
 | .JH,_,h=>by cases h;intro v hv;simp at hv;subst hv;rfl
 | .pr a b,_,⟨_,_,e,h1,h2⟩=>by
  subst e;intro v hv;rcases List.mem_append.1 hv with hv | hv
  ·exact BA.one h1 v hv
  ·exact BA.one h2 v hv
 | .fn _ _,_,⟨_,e,_⟩=>by subst e;intro v hv;simp at hv;subst hv;rfl
 | .un _,_,h=>h.2
 | .cons _ _,_,h=>h.elim
 | .nil,_,h=>h.elim
 | .Oz _ _ _ _ _,_,⟨_,_,_,_,_,_,_,e,h1,_⟩=>by subst e;intro u hu;simp at hu;subst hu;exact h1
 | .P4 _ _ _ _ _ _,_,⟨_,_,_,_,_,_,_,_,_,e,_⟩=>by subst e;intro u hu;simp at hu;subst hu;rfl
theorem BA.scope{w:World}{g:G}{n:Nat}:∀{a:AV} {m:Bool} {cs:List Value},BA w g n m a cs->∀k∈a.deps,k<n
 | .dat _ _ _,false,_,h,k,hk=>h.1 k hk
 | .pr a b,false,_,⟨_,_,_,h1,h2⟩,k,hk=>by
  rcases List.mem_append.1 hk with hk | hk
  ·exact BA.scope h1 k hk
  ·exact BA.scope h2 k hk
 | .zs,_,_,_,_,hk=>by cases hk
 | .ref _,_,_,_,_,hk=>by cases hk
 | .QS _ _,_,_,_,_,hk=>by cases hk
 | .mp _,_,_,_,_,hk=>by cases hk
 | .ptr _ _ _ _,_,_,_,_,hk=>by cases hk
 | .rop _ _ _,_,_,_,_,hk=>by cases hk
 | .JH,_,_,_,_,hk=>by cases hk
 | .fn _ _,_,_,_,_,hk=>by cases hk
 | .un _,_,_,_,_,hk=>by cases hk
 | .cons _ _,_,_,_,_,hk=>by cases hk
 | .nil,_,_,_,_,hk=>by cases hk
 | .Oz _ _ _ _ _,_,_,_,_,hk=>by cases hk
 | .P4 _ _ _ _ _ _,_,_,_,_,hk=>by cases hk
 | .dat _ _ _,true,_,h,_,_=>h.elim
 | .pr _ _,true,_,h,_,_=>h.elim
end Go.Va
namespace Go.Va
section
variable {w:World} {g:G} {n:Nat}
theorem Aen{A A':Nat->Prop}{w:World}{t:Ty}{x:t.V}{cs:List Value}(h:FL w A t x cs)(ha:t.flat=false->∀b,A b->A' b):FL w A' t x cs:=by
 cases hf:t.flat with
 | true=>exact(FL.flat hf).2 ((FL.flat hf).1 h)
 | false=>exact h.mono λb a=>⟨ha hf b a,rfl⟩
theorem Sp{ks:List Nat}{t:Ty}(h:∀k∈ks,k<n):∀k∈Tm ks t,k<n:=by
 unfold Tm;split
 ·intro k hk;cases hk
 ·exact h
theorem Ss{own:Nat->Tag}{ks:List Nat}{w:World}{t:Ty}{x:t.V}{cs:List Value}(h:FL w (Al own ks) t x cs):FL w (Al own (Tm ks t)) t x cs :=
 Aen h λhf b a=>by unfold Tm;rw[if_neg (by simp[hf])];exact a
theorem Sl {ks:List Nat} (hk:∀k∈ks,k<n):∀(f:Nat) (t:Ty) (x:t.V) (cs:List Value) (v:AV),FL w (Al g.own ks) t x cs->Ql ks t x f=some v ->
    ∃c0 c1 c2,cs=c0++c1++c2/\OA t f=some c0.length/\BA w g n false v c1/\(∃u y,v=.dat (Tm ks u) u y/\FL w (Al g.own ks) u y c1) /\
     ∀v' a' c1',iX ks t x f v'=some a'->BA w g n false v' c1'->BA w g n false a' (c0++c1'++c2)
 | 0,.pair a b,x,cs,v,⟨c,d,e,h1,h2⟩,hv=>by
  simp only[Ql,AwY] at hv;subst hv;refine⟨[],c,d,by simpa using e,rfl,⟨Sp hk,Ss h1⟩,⟨a,x.1,rfl,h1⟩,?_⟩;intro v' a' c1' hs hv';simp only[iX,AwY] at hs;subst hs;exact⟨c1',d,rfl,hv',Sp hk,Ss h2⟩
 | f+1,.pair a b,x,cs,v,⟨c,d,e,h1,h2⟩,hv=>by
  simp only[Ql] at hv;obtain⟨c0,c1,c2,e2,ho,hx,hu,hs⟩:=Sl hk f b x.2 d v h2 hv;refine⟨c++c0,c1,c2,by rw[e,e2];simp only[Aw4],?_,hx,hu,?_⟩
  ·simp only[OA,ho,Aw0,h1.len]
  ·intro v' a' c1' hs' hv';simp only[iX] at hs';split at hs'
   ·rename_i r hr;simp only[AwY] at hs';subst hs';exact⟨c,c0++c1'++c2,by simp only[Aw4],⟨Sp hk,Ss h1⟩,hs _ _ _ hr hv'⟩
   ·cases hs'
 | f,.int _,_,_,_,_,hv=>by simp[Ql] at hv
 | f,.bool,_,_,_,_,hv=>by simp[Ql] at hv
 | f,.str,_,_,_,_,hv=>by simp[Ql] at hv
 | f,.unit,_,_,_,_,hv=>by simp[Ql] at hv
 | f,.sl _,_,_,_,_,hv=>by simp[Ql] at hv
 | f,.opq _,_,_,_,_,hv=>by simp[Ql] at hv
theorem Ua:∀(a:AV) (f:Nat) (cs:List Value) (v:AV),BA w g n false a cs->a.T9 f=some v ->
    ∃c0 c1 c2,cs=c0++c1++c2/\a.off f=some c0.length/\BA w g n false v c1 /\
     ∀v' a' c1',a.N9 f v'=some a'->BA w g n false v' c1'->BA w g n false a' (c0++c1'++c2)
 | .dat ks t x,f,cs,v,⟨hk,h⟩,hv=>by
  obtain⟨c0,c1,c2,e,ho,hx,_,hs⟩:=Sl (g:=g) hk f t x cs v h (by simpa [AV.T9] using hv);exact⟨c0,c1,c2,e,by simpa [AV.off] using ho,hx,λv' a' c1' h1 h2=>hs v' a' c1' (by simpa [AV.N9] using h1) h2⟩
 | .pr a b,0,cs,v,⟨c,d,e,h1,h2⟩,hv=>by
  simp only[AV.T9,AwY] at hv;subst hv;refine⟨[],c,d,by simpa using e,rfl,h1,?_⟩;intro v' a' c1' hs hv';simp only[AV.N9,AwY] at hs;subst hs;exact⟨c1',d,rfl,hv',h2⟩
 | .pr a b,f+1,cs,v,⟨c,d,e,h1,h2⟩,hv=>by
  simp only[AV.T9] at hv;obtain⟨c0,c1,c2,e2,ho,hx,hs⟩:=Ua b f d v h2 hv;refine⟨c++c0,c1,c2,by rw[e,e2];simp only[Aw4],?_,hx,?_⟩
  ·simp only[AV.off,ho,Aw0,h1.len]
  ·intro v' a' c1' hs' hv';simp only[AV.N9] at hs';split at hs'
   ·rename_i r hr;simp only[AwY] at hs';subst hs';exact⟨c,c0++c1'++c2,by simp only[Aw4],h1,hs _ _ _ hr hv'⟩
   ·cases hs'
 | .zs,_,_,_,_,hv=>by simp[AV.T9] at hv
 | .ref _,_,_,_,_,hv=>by simp[AV.T9] at hv
 | .QS _ _,_,_,_,_,hv=>by simp[AV.T9] at hv
 | .mp _,_,_,_,_,hv=>by simp[AV.T9] at hv
 | .ptr _ _ _ _,_,_,_,_,hv=>by simp[AV.T9] at hv
 | .rop _ _ _,_,_,_,_,hv=>by simp[AV.T9] at hv
 | .JH,_,_,_,_,hv=>by simp[AV.T9] at hv
 | .fn _ _,_,_,_,_,hv=>by simp[AV.T9] at hv
 | .un _,_,_,_,_,hv=>by simp[AV.T9] at hv
 | .cons _ _,_,_,_,h,_=>h.elim
 | .nil,_,_,_,h,_=>h.elim
 | .Oz _ _ _ _ _,_,_,_,_,hv=>by simp[AV.T9] at hv
 | .P4 _ _ _ _ _ _,_,_,_,_,hv=>by simp[AV.T9] at hv
theorem Nx:∀(p:List Nat) (a:AV) (cs:List Value) (v:AV),BA w g n false a cs->a.P1 p=some v ->
    ∃c0 c1 c2,cs=c0++c1++c2/\a.sj p=some c0.length/\BA w g n false v c1 /\
     ∀v' a' c1',a.Tz p v'=some a'->BA w g n false v' c1'->BA w g n false a' (c0++c1'++c2)
 | [],a,cs,v,h,hv=>by
  simp only[AV.P1,AwY] at hv;subst hv;refine⟨[],cs,[],by simp,rfl,h,?_⟩;intro v' a' c1' hs hv';simp only[AV.Tz,AwY] at hs;subst hs;simpa using hv'
 | f::p,a,cs,v,h,hv=>by
  simp only[AV.P1] at hv;split at hv
  ·rename_i b hb;obtain⟨c0,c1,c2,e,ho,hx,hs⟩:=Ua a f cs b h hb;obtain⟨d0,d1,d2,e2,ho2,hx2,hs2⟩:=Nx p b c1 v hx hv;refine⟨c0++d0,d1,d2++c2,by rw[e,e2];simp only[Aw4],?_,hx2,?_⟩
   ·simp only[AV.sj,hb,ho,ho2,Aw0]
   ·intro v' a' c1' hs' hv';simp only[AV.Tz,hb] at hs';split at hs'
    ·rename_i r hr;have:=hs _ _ _ hs' (hs2 _ _ _ hr hv');simpa only[Aw4] using this
    ·cases hs'
  ·cases hv
end
theorem Bb{t u:Ty}{x:t.V}{y:u.V}(h:Hw t u x=some y):∃e:t=u,e▸x=y:=by
 unfold Hw at h;split at h
 ·rename_i e;injection h with h;exact⟨e,h⟩
 ·cases h
def Yb:Nat->List Nat->List Nat
 | 0,L=>0::L
 | n+1,L=>Yb n (1::L)
def O0:List Nat->List Nat->List Nat
 | [],L=>L
 | f::p,L=>O0 p (Yb f L)
structure Rel where
 E:(t:Ty)->List Nat->t.V->List Value->Prop
 pair:∀{a b:Ty} {L:List Nat} {x:(Ty.pair a b).V} {cs:List Value},E (.pair a b) L x cs↔∃c d,cs=c++d/\E a (0::L) x.1 c/\E b (1::L) x.2 d
 len:∀{t:Ty} {L:List Nat} {x:t.V} {cs:List Value},E t L x cs->cs.length=t.size
def AqN(w:World)(A:Nat->Prop):Rel:=⟨λt _ x cs=>FL w A t x cs,Iff.rfl,FL.len⟩
def Aek(w:World)(own:Nat->Tag)(k:Nat):Rel:=⟨λt L x cs=>Hv w own k t L x cs,Iff.rfl,Hv.len⟩
section
variable (Q:Rel)
theorem Zw (F:∀u:Ty,u.V->Option u.V) (Pre:Ty->Nat->Prop) (D:List Nat->List Value->Prop) (sz:Nat)
    (hF:∀(u:Ty) (L:List Nat) (x y:u.V) (cs:List Value) (o:Nat),F u x=some y->Pre u o->Q.E u L x cs ->
     ∃c0 c1 c2,cs=c0++c1++c2/\c0.length=o/\c1.length=sz/\∀c1',D L c1'->Q.E u L y (c0++c1'++c2)) :
    ∀(f:Nat) (t:Ty) (L:List Nat) (x x':t.V) (cs:List Value) (u:Ty) (o o':Nat),Nz t x f F=some x'->dn t f=some u->OA t f=some o->Pre u o'->Q.E t L x cs ->
     ∃c0 c1 c2,cs=c0++c1++c2/\c0.length=o+o'/\c1.length=sz/\∀c1',D (Yb f L) c1'->Q.E t L x' (c0++c1'++c2)
 | 0,.pair a b,L,x,x',cs,u,o,o',hs,hu,ho,hc,h=>by
  obtain⟨c,d,e,h1,h2⟩:=Q.pair.1 h;simp only[dn,AwY] at hu;subst hu;simp only[OA,AwY] at ho;subst ho;simp only[Nz] at hs;split at hs
  ·rename_i y hy;injection hs with hs;subst hs;obtain⟨c0,c1,c2,e2,hl,hz,hr⟩:=hF a _ x.1 y c o' hy hc h1;refine⟨c0,c1,c2++d,by rw[e,e2];simp only[Aw4],by omega,hz,λc1' h=>Q.pair.2 ⟨c0++c1'++c2,d,by simp only[Aw4],hr c1' h,h2⟩⟩
  ·cases hs
 | f+1,.pair a b,L,x,x',cs,u,o,o',hs,hu,ho,hc,h=>by
  obtain⟨c,d,e,h1,h2⟩:=Q.pair.1 h;simp only[dn] at hu;simp only[OA] at ho;split at ho
  ·rename_i o2 ho2;injection ho with ho;subst ho;simp only[Nz] at hs;split at hs
   ·rename_i y hy;injection hs with hs;subst hs;obtain⟨c0,c1,c2,e2,hl,hz,hr⟩:=Zw F Pre D sz hF f b (1::L) x.2 y d u o2 o' hy hu ho2 hc h2;refine⟨c++c0,c1,c2,by rw[e,e2];simp only[Aw4],by rw[Aw0,Q.len h1];omega,hz,λc1' h=>Q.pair.2 ⟨c,c0++c1'++c2,by simp only[Aw4],h1,hr c1' h⟩⟩
   ·cases hs
  ·cases ho
 | f,.int _,_,_,_,_,_,_,_,hs,_,_,_,_=>by simp[Nz] at hs
 | f,.bool,_,_,_,_,_,_,_,hs,_,_,_,_=>by simp[Nz] at hs
 | f,.str,_,_,_,_,_,_,_,hs,_,_,_,_=>by simp[Nz] at hs
 | f,.unit,_,_,_,_,_,_,_,hs,_,_,_,_=>by simp[Nz] at hs
 | f,.sl _,_,_,_,_,_,_,_,hs,_,_,_,_=>by simp[Nz] at hs
 | f,.opq _,_,_,_,_,_,_,_,hs,_,_,_,_=>by simp[Nz] at hs
theorem Sx (u:Ty) (y:u.V):∀(p:List Nat) (t:Ty) (L:List Nat) (x x':t.V) (cs:List Value) (o:Nat),N0 u y p t x=some x'->I1 t p=some o->Q.E t L x cs ->
    ∃c0 c1 c2,cs=c0++c1++c2/\c0.length=o/\c1.length=u.size/\∀c1',Q.E u (O0 p L) y c1'->Q.E t L x' (c0++c1'++c2)
 | [],t,L,x,x',cs,o,hs,ho,h=>by
  simp only[I1,AwY] at ho;subst ho;obtain⟨e,he⟩:=Bb hs;subst e;simp only at he;subst he;exact⟨[],cs,[],by simp,rfl,Q.len h,λc1' h'=>by simpa [O0] using h'⟩
 | f::p,t,L,x,x',cs,o,hs,ho,h=>by
  simp only[I1] at ho;split at ho
  ·rename_i t1 o1 h1 h2;split at ho
   ·rename_i o2 h3;injection ho with ho;subst ho;exact Zw Q (λt' x'=>N0 u y p t' x') (λv o=>I1 v p=some o) (λL c1'=>Q.E u (O0 p L) y c1') u.size
     (λv L x1 y1 cs1 o' hs1 hc1 hr1=>Sx u y p v L x1 y1 cs1 o' hs1 hc1 hr1) f t L x x' cs t1 o1 o2 hs h1 h2 h3 h
   ·cases ho
  ·cases ho
end
theorem Al.mem{own:Nat->Tag}{ks:List Nat}{k b:Nat}{p:List Nat}(hk:k∈ks)(h:own b=.lab k p):Al own ks b:=.inr ⟨k,hk,p,h⟩
theorem MI {w:World} {g:G} {bs:List Blk} (H:Heap w g bs):∀(t:Ty) (a:AV) (x:t.V) (cs:List Value),rd bs t a=some x->BA w g bs.length false a cs ->
    FL w (Al g.own (a.lend bs)) t x cs/\∀k∈a.lend bs,k<bs.length:=by
 have plain:∀(t:Ty) (ks:List Nat) (u:Ty) (y:u.V) (x:t.V) (cs:List Value),Hw u t y=some x->BA w g bs.length false (.dat ks u y) cs->FL w (Al g.own ks) t x cs/\∀k∈ks,k<bs.length:=by
  intro t ks u y x cs h hx;obtain⟨e,he⟩:=Bb h;subst e;simp only at he;subst he;exact⟨hx.2,hx.1⟩
 intro t;induction t with
 | pair a b iha ihb =>
  intro av x cs h hx;simp only[rd] at h;split at h
  ·exact plain _ _ _ _ _ _ h hx
  ·rename_i u v;split at h
   ·rename_i y z hy hz;injection h with h;subst h;obtain⟨c,d,e,h1,h2⟩:=hx;have r1:=iha u y c hy h1;have r2:=ihb v z d hz h2;refine⟨⟨c,d,e,r1.1.mono λq hq=>⟨hq.mono λk hk=>List.mem_append_left _ hk,rfl⟩,r2.1.mono λq hq=>⟨hq.mono λk hk=>List.mem_append_right _ hk,rfl⟩⟩,?_⟩;intro k hk;rcases List.mem_append.1 hk with hk | hk
    ·exact r1.2 k hk
    ·exact r2.2 k hk
   ·cases h
  ·cases h
 | sl t _ =>
  intro av x cs h hx;simp only[rd] at h;split at h
  ·exact plain _ _ _ _ _ _ h hx
  ·injection h with h;subst h;obtain⟨ad,e⟩:=hx;exact⟨⟨ad,0,[],e,Aw2 _,rfl,.inl rfl⟩,λk hk=>by cases hk⟩
  ·rename_i k;split at h
   ·rename_i e m u ys hb;obtain⟨e',he⟩:=Bb h;injection e' with e';subst e';simp only at he;subst he;obtain⟨hk,hc⟩:=hx;obtain⟨hm,hlen,hes,hpos,hr⟩:=H.blk k _ hb;have o7:(AV.ref k).lend bs=k::m.ids:=by simp[AV.lend,Up,hb]
    rw[o7];refine⟨?_,λj hj=>?_⟩
    ·rcases hr with ⟨hy,hcap⟩| ⟨b,cur,ds,ha,hown,⟨el,_,hh⟩,h1,h2,h3,h4,hcon⟩
     ·subst hy;rw[hlen] at hc;exact⟨(g.at_ k).a,(g.at_ k).cap,[],hc,by simp,rfl,.inl rfl⟩
     ·rw[hlen] at hc;refine⟨(g.at_ k).a,(g.at_ k).cap,ds,hc,h1,?_,.inr ⟨b,0,ha,.mem (List.mem_cons_self) hown,λj q hq=>?_⟩⟩
      ·cases m with
       | deep=>exact hcon.toR λi y c r=>r.rd λb q hb=>.mem (List.mem_cons_self) hb
       | sh ks=>exact hcon.mono λy c r=>r.mono λb a=>⟨a.mono λj hj=>List.mem_cons_of_mem _ hj,rfl⟩
      ·rw[Ov hh,Nat.zero_add,<-Axa];subst h4;rw[List.getElem?_take] at hq;split at hq
       ·exact hq
       ·cases hq
    ·rcases List.mem_cons.1 hj with rfl | hj
     ·exact hk
     ·exact hm j hj
   ·cases h
  ·cases h
 | _ =>
  intro av x cs h hx;simp only[rd] at h;split at h
  ·exact plain _ _ _ _ _ _ h hx
  ·cases h
end Go.Va
namespace Go.Va
theorem JX.step {mods:List Nat} {n n':Nat} {w w':World} {g g':G} (s:Step mods n w g w' g') (hn:n<=n') {k:Nat} (hk:k<n) (hm:k∉mods) {b:Blk} (h:JX w g n k b) :
    JX w' g' n' k (b.drop λj=>mods.contains j):=by
 cases b with
 | dead=>trivial
 | map m kt vt es st =>
  obtain⟨Nb,b,arr,clock,ha,ho,hh,hnd,hmr⟩:=h;simp only[Blk.drop];split
  ·trivial
  ·rename_i hb;have hd:∀j∈m.ids,j∉mods:=λj hj hc=>hb (List.any_eq_true.2 ⟨j,hj,by simpa using hc⟩);have hl:=s.lab b k [] ho hk hm;refine⟨λj hj=>Nat.lt_of_lt_of_le (Nb j hj) hn,b,arr,clock,by rw[s.at_ k hk];exact ha,hl.1,hl.2.trans hh,hnd,hmr.on λi x cs r=>?_⟩;cases m with
   | deep=>exact Hv.mono (λb q hb=>s.lab b k _ hb hk hm) r
   | sh ks=>exact FL.mono (λb a=>a.step s Nb hd) r
 | hole e t xs i p =>
  obtain⟨h1,h2,h3,h4,h5,u,o,x0,b,cur,ds,q1,q2,q3,ha,ho,⟨el,hel,hh⟩,c1,c2,c3,c4,hc⟩:=h;have hl:=s.lab b k [] ho hk hm;refine⟨by rw[s.at_ k hk];exact h1,by rw[s.at_ k hk];exact h2,h3,h4,h5,u,o,x0,b,cur,ds,q1,q2,q3,?_⟩;rw[s.at_ k hk];exact⟨ha,hl.1,⟨el,hel,hl.2.trans hh⟩,c1,c2,c3,c4,hc.mono λi x c r=>r.mono λb q hb=>s.lab b k _ hb hk hm⟩
 | box a =>
  obtain⟨h1,b,cs,e,ha,ho,hh,hx⟩:=h;have hl:=s.lab b k [] ho hk hm;refine⟨by rw[s.at_ k hk];exact h1,b,cs,e,by rw[s.at_ k hk];exact ha,hl.1,hl.2.trans hh,BA.step s hn a false hx⟩
 | row e m t xs =>
  obtain⟨Nb,hlen,hes,hpos,hr⟩:=h;simp only[Blk.drop];split
  ·trivial
  ·rename_i hb;have hd:∀j∈m.ids,j∉mods:=λj hj hc=>hb (List.any_eq_true.2 ⟨j,hj,by simpa using hc⟩);refine⟨λj hj=>Nat.lt_of_lt_of_le (Nb j hj) hn,by rw[s.at_ k hk];exact hlen,by rw[s.at_ k hk];exact hes,hpos,?_⟩;rw[s.at_ k hk];refine hr.imp id λ⟨b,cur,ds,ha,ho,⟨el,hel,hh⟩,h1,h2,h3,h4,hc⟩=>?_;have hl:=s.lab b k [] ho hk hm;refine⟨b,cur,ds,ha,hl.1,⟨el,hel,hl.2.trans hh⟩,h1,h2,h3,h4,?_⟩;cases m with
   | deep=>exact hc.mono λi x c r=>r.mono λb q hb=>s.lab b k _ hb hk hm
   | sh ks=>exact hc.mono λx c r=>r.mono λb a=>a.step s Nb hd
theorem TQ(b:Blk):(b.drop λ_=>false)=b:=by
 cases b with
 | box a=>simp[Blk.drop,T1]
 | row e m t xs=>simp[Blk.drop]
 | map m kt vt es st=>simp[Blk.drop]
 | hole e t xs i p=>rfl
 | dead=>rfl
theorem JX.step0{n n':Nat}{w w':World}{g g':G}(s:Step [] n w g w' g')(hn:n<=n'){k:Nat}(hk:k<n){b:Blk}(h:JX w g n k b):JX w' g' n' k b:=by
 have:=h.step s hn hk (by simp);rwa [show(λk=>([]:List Nat).contains k)=λ_=>false from funext λ_=>rfl,TQ] at this
theorem AE{α:Type}{l:List α}{k:Nat}{x:α}(h:l[k]?=some x):k<l.length:=by
 rcases Aw7 k l.length with h' | h'
 ·exact h'
 ·rw[List.getElem?_eq_none h'] at h;cases h
theorem Heap.step0{w w':World}{g g':G}{bs:List Blk}(H:Heap w g bs)(s:Step [] bs.length w g w' g')(hf:∀b,w'.heap.size<=b->g'.own b=.no):Heap w' g' bs :=
 ⟨hf,λk x hx=>(H.blk k x hx).step0 s (Aw2 _) (AE hx)⟩
theorem Heap.drew{w:World}{g:G}{bs:List Blk}(H:Heap w g bs):Heap w.drew g bs:=H.step0 (Step.drew _ _ _ _) H.fresh
theorem Heap.push {w w':World} {g g':G} {bs:List Blk} (H:Heap w g bs) (s:Step [] bs.length w g w' g') (hf:∀b,w'.heap.size<=b->g'.own b=.no) {b:Blk} (hb:JX w' g' (bs.length+1) bs.length b) :
    Heap w' g' (bs++[b]) :=
 ⟨hf,λk x hx=>by
  rw[Aw0,List.length_singleton];rw[List.getElem?_append] at hx;split at hx
  ·exact(H.blk k x hx).step0 s (Nat.le_succ _) (AE hx)
  ·rename_i hk;have:k-bs.length=0:=by
    rcases Nat.eq_zero_or_pos (k-bs.length) with h | h
    ·exact h
    ·rw[List.getElem?_eq_none (by simp;omega)] at hx;cases hx
   rw[this] at hx;obtain rfl:k=bs.length:=by omega
   simp only[List.getElem?_cons_zero,AwY] at hx;subst hx;exact hb⟩
def zeroV:Value->Value->Bool
 | .int k n,.int k' m=>k==k'&&n==m
 | .bool a,.bool b=>a==b
 | .string s,.string t=>s.data.toList==t.data.toList
 | .slice none 0 0,.slice none 0 0=>true
 | .pointer none,.pointer none=>true
 | .map none,.map none=>true
 | .nilFunc,.nilFunc=>true
 | _,_=>false
theorem AbB{a b:Value}(h:zeroV a b=true):a=b:=by
 unfold zeroV at h;split at h
 ·simp at h;rw[h.1,h.2]
 ·simp at h;rw[h]
 ·rename_i s t;simp at h;have:s.data=t.data:=by simpa using h
  cases s;cases t;simp at this;rw[this]
 ·rfl
 ·rfl
 ·rfl
 ·rfl
 ·cases h
def qy:List Value->List Value->Bool
 | [],[]=>true
 | a::r,b::s=>zeroV a b&&qy r s
 | _,_=>false
theorem jN:∀{a b:List Value},qy a b=true->a=b
 | [],[],_=>rfl
 | a::r,b::s,h=>by
  simp only[qy,Aw3] at h;rw[AbB h.1,jN h.2]
 | [],_::_,h=>by cases h
 | _::_,[],h=>by cases h
def N3(P:Program)(ty:Ty):Nat->List Field->List Nat->Bool
 | _,[],[]=>true
 | i,f::fs,o::os=>f.offset==o&&OA ty i==some o&&(match dn ty i with | some u=>(P.info? f.type).map (·.size)==some u.size&&u.size !=0 | none=>false)&&N3 P ty (i+1) fs os
 | _,_,_=>false
def kindOk(P:Program)(ti:TI):TypeDesc->Bool
 | .int k=>ti.ty==.int k
 | .bool=>ti.ty==.bool
 | .string=>ti.ty==.str
 | .slice e=>ti.elem==e&&(match ti.ty with | .sl _=>true | _=>false)
 | .struct fs=>ti.ty.isAgg&&N3 P ti.ty 0 fs.toList ti.Rc
 | .array _ _=>ti.ty.isAgg
 | .pointer _=>(match ti.ty with | .opq _=>true | _=>false)
 | .map _ _=>(match ti.ty with | .opq _=>true | _=>false)
 | .func _ _ _=>(match ti.ty with | .opq _=>true | _=>false)
 | _=>false
def Qg(P:Program):Ty->Nat->List Field->Bool
 | .unit,_,[]=>true
 | .pair a b,o,f::fs=>f.name !="_"&&f.offset==o&&(match a,P.underlying f.type with | .int k,some (.int k')=>k==k' | .bool,some .bool=>true | .str,some .string=>true | _,_=>false)&&Qg P b (o+1) fs
 | _,_,_=>false
def zo(P:Program)(t:Nat)(ty:Ty):Bool:=match P.underlying t with
 | some (.struct fs)=>!P.stoodInHeld t&&!P.eqGuardType P.depth t&&Qg P ty 0 fs.toList
 | _=>false
def AhJ(P:Program)(t:Nat)(ti:TI):Bool :=
 (match P.info? t with
  | some i=>i.size==ti.ty.size&&i.bytes==ti.bytes&&(match i.zero with | some z=>qy z.cells.toList (Na ti.ty)&&(match z with | .agg _=>ti.ty.isAgg | _=>!ti.ty.isAgg)| none=>false)
  | none=>false) &&
 (match P.underlying t with | some d=>kindOk P ti d&&(match d with | .struct _=>true | _=>ti.Rc.isEmpty)&&(match d with | .array n e=>ti.arr==n&&ti.elem==e | _=>ti.arr==0)&&(match d with | .map k e=>ti.Mp==k&&ti.elem==e | _=>ti.Mp==0)&&(!ti.eqs||zo P t ti.ty)| none=>false)
def V0(P:Program):Tab->Bool
 | []=>true
 | (t,ti)::r=>AhJ P t ti&&V0 P r
theorem qc{P:Program}:∀{tab:Tab} {t:Nat} {ti:TI},V0 P tab=true->tab.get t=some ti->AhJ P t ti=true
 | [],_,_,_,h=>by cases h
 | (k,i)::r,t,ti,ho,h=>by
  simp only[V0,Aw3] at ho;simp only[Tab.get] at h;split at h
  ·rename_i hk;injection h with h;subst h;rw[beq_iff_eq] at hk;subst hk;exact ho.1
  ·exact qc ho.2 h
structure Eg (P:Program) (t:Nat) (ti:TI):Prop where
 info:∃i z,P.info? t=some i/\i.size=ti.ty.size/\i.bytes=ti.bytes/\i.zero=some z/\z.cells.toList=Na ti.ty/\((∃c,z=.agg c)↔ti.ty.isAgg=true)
 under:∃d,P.underlying t=some d/\kindOk P ti d=true
 Rc:(∃fs,P.underlying t=some (.struct fs))\/ti.Rc=[]
 arr:ti.arr≠0->P.underlying t=some (.array ti.arr ti.elem)
 eqs:ti.eqs=true->zo P t ti.ty=true
 mp:ti.Mp≠0->P.underlying t=some (.map ti.Mp ti.elem)
theorem Eg.of{P:Program}{tab:Tab}{t:Nat}{ti:TI}(ho:V0 P tab=true)(h:tab.get t=some ti):Eg P t ti:=by
 have h1:=qc ho h;unfold AhJ at h1;rw[Aw3] at h1;obtain⟨h1,h2⟩:=h1;constructor
 ·split at h1
  ·rename_i i hi;simp only[Aw3,beq_iff_eq] at h1;obtain⟨⟨h3,h4⟩,h5⟩:=h1;split at h5
   ·rename_i z hz;rw[Aw3] at h5;refine⟨i,z,hi,h3,h4,hz,jN h5.1,?_⟩;have h6:=h5.2;split at h6
    ·rename_i c;simp[h6]
    ·rename_i hz';simp at h6;exact⟨λ⟨c,hc⟩=>(hz' c hc).elim,λh=>by simp[h6] at h⟩
   ·cases h5
  ·cases h1
 ·split at h2
  ·rename_i d hd;simp only[Aw3] at h2;exact⟨d,hd,h2.1.1.1.1⟩
  ·cases h2
 ·split at h2
  ·rename_i d hd;simp only[Aw3] at h2;have h3:=h2.1.1.1.2;split at h3
   ·rename_i fs;exact .inl ⟨fs,hd⟩
   ·exact .inr (by simpa using h3)
  ·cases h2
 ·split at h2
  ·rename_i d hd;simp only[Aw3] at h2;have h3:=h2.1.1.2;split at h3
   ·rename_i n e;simp only[Aw3,beq_iff_eq] at h3;intro _;rw[hd,h3.1,h3.2]
   ·intro h;exact(h (by simpa using h3)).elim
  ·cases h2
 ·split at h2
  ·rename_i d hd;simp only[Aw3] at h2;intro he;have h3:=h2.2;rw[he] at h3;simpa using h3
  ·cases h2
 ·split at h2
  ·rename_i d hd;simp only[Aw3] at h2;have h3:=h2.1.2;split at h3
   ·rename_i n e;simp only[Aw3,beq_iff_eq] at h3;intro _;rw[hd,h3.1,h3.2]
   ·intro h;exact(h (by simpa using h3)).elim
  ·cases h2
end Go.Va
namespace Go.Va
section
variable {w:World} {g:G} {n:Nat} {v:Value}
theorem Ba{a:AV}(ht:a.Cp=false)(hu:a.K9=false)(h:Bg w g n a v):∃cs,BA w g n false a cs/\A3 a.isAgg cs v:=by
 rw[Bg.iff ht] at h;rcases h with h | h
 ·rw[hu] at h;cases h
 ·exact h
theorem A7{a:AV}(ht:a.Cp=false){cs:List Value}(h:BA w g n false a cs)(hv:A3 a.isAgg cs v):Bg w g n a v:=(Bg.iff ht).2 (.inr ⟨cs,h,hv⟩)
theorem Cu{ks:List Nat}{k:IntKind}{x:Int}(h:Bg w g n (.dat ks (.int k) x) v):v=.int k x:=by
 obtain⟨cs,h,hv⟩:=Ba rfl rfl h;have e:cs=[.int k x]:=h.2;subst e;simpa [A3,AV.isAgg,Ty.isAgg] using hv.symm
theorem NP{ks:List Nat}{x:Bool}(h:Bg w g n (.dat ks .bool x) v):v=.bool x:=by
 obtain⟨cs,h,hv⟩:=Ba rfl rfl h;have e:cs=[.bool x]:=h.2;subst e;simpa [A3,AV.isAgg,Ty.isAgg] using hv.symm
theorem QD{ks:List Nat}{x:ByteArray}(h:Bg w g n (.dat ks .str x) v):v=.string x:=by
 obtain⟨cs,h,hv⟩:=Ba rfl rfl h;have e:cs=[.string x]:=h.2;subst e;simpa [A3,AV.isAgg,Ty.isAgg] using hv.symm
theorem S7 {ks:List Nat} {t:Ty} {xs:List t.V} (h:Bg w g n (.dat ks (.sl t) xs) v):(∀k∈ks,k<n)/\∃ad cap ds,v=.slice ad xs.length cap/\xs.length<=cap/\BK (FL w (Al g.own ks) t) xs ds /\
    (xs=[]\/∃b off,ad=some ⟨b,off,none⟩/\Al g.own ks b/\∀j u,ds[j]?=some u->w.cell? ⟨b,off+j,none⟩=some u):=by
 obtain⟨cs,⟨hk,ad,cap,ds,e,h1,h2,h3⟩,hv⟩:=Ba rfl rfl h;subst e;exact⟨hk,ad,cap,ds,by simpa [A3,AV.isAgg,Ty.isAgg] using hv.symm,h1,h2,h3⟩
theorem Rp(h:Bg w g n .zs v):∃ad,v=.slice ad 0 0:=by
 obtain⟨cs,⟨ad,e⟩,hv⟩:=Ba rfl rfl h;subst e;exact⟨ad,by simpa [A3,AV.isAgg] using hv.symm⟩
theorem HC{k:Nat}(h:Bg w g n (.ref k) v):k<n/\v=.slice (g.at_ k).a (g.at_ k).len (g.at_ k).cap:=by
 obtain⟨cs,⟨hk,e⟩,hv⟩:=Ba rfl rfl h;subst e;exact⟨hk,by simpa [A3,AV.isAgg] using hv.symm⟩
theorem IJ{k:Nat}{i:Int}{p:List Nat}{o:Nat}(h:Bg w g n (.ptr k i p o) v):k<n/\0<=i/\i.toNat<(g.at_ k).len/\∃b,(g.at_ k).a=some ⟨b,0,none⟩/\v=.pointer (some ⟨b,i.toNat*(g.at_ k).YS+o,none⟩):=by
 obtain⟨cs,⟨hk,h0,h1,b,hb,e⟩,hv⟩:=Ba rfl rfl h;subst e;exact⟨hk,h0,h1,b,hb,by simpa [A3,AV.isAgg] using hv.symm⟩
theorem R7{ks:List Nat}{t:Ty}{x:t.V}(h:Bg w g n (.rop ks t x) v):(∀k∈ks,k<n)/\∃b off ds,v=.pointer (some ⟨b,off,none⟩)/\Al g.own ks b/\FL w (Al g.own ks) t x ds/\∀j u,ds[j]?=some u->w.cell? ⟨b,off+j,none⟩=some u:=by
 obtain⟨cs,⟨hk,b,off,ds,e,h1,h2,h3⟩,hv⟩:=Ba rfl rfl h;subst e;exact⟨hk,b,off,ds,by simpa [A3,AV.isAgg] using hv.symm,h1,h2,h3⟩
theorem Aak(k:IntKind)(x:Int):Bg w g n (.int k x) (.int k x):=A7 rfl (cs:=[.int k x]) ⟨λ_ h=>by(cases h),rfl⟩ (by simp[A3,AV.isAgg,Ty.isAgg])
theorem Ue(x:Bool):Bg w g n (.bool x) (.bool x):=A7 rfl (cs:=[.bool x]) ⟨λ_ h=>by(cases h),rfl⟩ (by simp[A3,AV.isAgg,Ty.isAgg])
theorem Aal(x:ByteArray):Bg w g n (.str x) (.string x):=A7 rfl (cs:=[.string x]) ⟨λ_ h=>by(cases h),rfl⟩ (by simp[A3,AV.isAgg,Ty.isAgg])
theorem Zh(ad:Option Addr):Bg w g n .zs (.slice ad 0 0):=A7 rfl (cs:=[.slice ad 0 0]) ⟨ad,rfl⟩ (by simp[A3,AV.isAgg])
theorem M9{k:Nat}:Bg w g n (.un k) v:=(Bg.iff rfl).2 (.inl rfl)
theorem Xo {ks:List Nat} {t:Ty} {x:t.V} {b off:Nat} {ds:List Value} (hk:∀k∈ks,k<n) (h1:Al g.own ks b) (h2:FL w (Al g.own ks) t x ds) (h3:∀j u,ds[j]?=some u->w.cell? ⟨b,off+j,none⟩=some u) :
    Bg w g n (.rop ks t x) (.pointer (some ⟨b,off,none⟩)):=A7 rfl (cs:=[.pointer (some ⟨b,off,none⟩)]) ⟨hk,b,off,ds,rfl,h1,h2,h3⟩ (by simp[A3,AV.isAgg])
theorem Tq {k:Nat} {i:Int} {p:List Nat} {o b:Nat} (hk:k<n) (h0:0<=i) (h1:i.toNat<(g.at_ k).len) (hb:(g.at_ k).a=some ⟨b,0,none⟩) :
    Bg w g n (.ptr k i p o) (.pointer (some ⟨b,i.toNat*(g.at_ k).YS+o,none⟩)):=A7 rfl (cs:=[_]) ⟨hk,h0,h1,b,hb,rfl⟩ (by simp[A3,AV.isAgg])
end
section
variable {P:Program} {w:World} {g:G} {n:Nat} {R:Type}
def Gives(P:Program)(w:World)(g:G)(n:Nat)(s:Sem Value)(z:AV):Prop:=∃c,s.run P w=.ok c w/\Bg w g n z c
theorem Bl{s:Sem Value}{k:IntKind}{x:Int}(h:s.run P w=.ok (.int k x) w):Gives P w g n s (.int k x):=⟨_,h,Aak k x⟩
theorem Cd{s:Sem Value}{x:Bool}(h:s.run P w=.ok (.bool x) w):Gives P w g n s (.bool x):=⟨_,h,Ue x⟩
theorem Sm{s:Sem Value}{x:ByteArray}(h:s.run P w=.ok (.string x) w):Gives P w g n s (.str x):=⟨_,h,Aal x⟩
theorem Acd {op:BinOp} {x y:AV} {u v:Value} {K:AV->Option R} {r:R} {tb:Bool} (t:TypeId) (ox oy:Operand) (htb:tb=true->P.underlying t=some .bool) (h:ZR op tb x y K=some r) (hx:Bg w g n x u) (hy:Bg w g n y v) :
    ∃z,K z=some r/\Gives P w g n (do eqGuard op t ox oy u v;binOp op t u v) z:=by
 unfold ZR at h;split at h
 ·rename_i ks k a ks' k' b;obtain rfl:=Cu hx;obtain rfl:=Cu hy;split at h
  ·split at h
   ·cases h
   ·rename_i hb;exact⟨_,h,Bl (by simp[eqGuard,binOp,Op.shift,hb,Lf])⟩
  ·split at h
   ·cases h
   ·rename_i hb;exact⟨_,h,Bl (by simp[eqGuard,binOp,Op.shift,hb,Oa])⟩
  ·split at h
   ·rename_i hk;subst hk;cases op<;>simp only[reduceCtorEq] at h
    case add=>exact⟨_,h,Bl (by simp[eqGuard,binOp,Op.intArith])⟩
    case sub=>exact⟨_,h,Bl (by simp[eqGuard,binOp,Op.intArith])⟩
    case mul=>exact⟨_,h,Bl (by simp[eqGuard,binOp,Op.intArith])⟩
    case quo =>
     split at h
     ·cases h
     ·rename_i hb;exact⟨_,h,Bl (by simp[eqGuard,binOp,Op.intDiv,hb])⟩
    case rem =>
     split at h
     ·cases h
     ·rename_i hb;exact⟨_,h,Bl (by simp[eqGuard,binOp,Op.intDiv,hb])⟩
    case and=>exact⟨_,h,Bl (by simp[eqGuard,binOp,Op.intBits,XZ])⟩
    case or=>exact⟨_,h,Bl (by simp[eqGuard,binOp,Op.intBits,V4])⟩
    case xor=>exact⟨_,h,Bl (by simp[eqGuard,binOp,Op.intBits,AhN])⟩
    case andNot=>exact⟨_,h,Bl (by simp[eqGuard,binOp,Op.intBits,nS])⟩
    case eql=>exact⟨_,h,Cd (by simp[eqGuard,binOp,Op.intCmp])⟩
    case neq=>exact⟨_,h,Cd (by simp[eqGuard,binOp,Op.intCmp])⟩
    case lss=>exact⟨_,h,Cd (by simp[eqGuard,binOp,Op.intCmp])⟩
    case leq=>exact⟨_,h,Cd (by simp[eqGuard,binOp,Op.intCmp])⟩
    case gtr=>exact⟨_,h,Cd (by simp[eqGuard,binOp,Op.intCmp])⟩
    case geq=>exact⟨_,h,Cd (by simp[eqGuard,binOp,Op.intCmp])⟩
   ·cases h
 ·rename_i ks a ks' b;obtain rfl:=QD hx;obtain rfl:=QD hy;cases op<;>simp only[reduceCtorEq] at h
  case add =>
   split at h
   ·rename_i hb;refine⟨_,h,Sm ?_⟩;have:¬(((a.size+b.size:Nat):Int)>IntKind.i64.max):=by simp[IntKind.max,IntKind.signed,IntKind.bits];omega
    simp[eqGuard,binOp,Op.stringOp];omega
   ·cases h
  case eql=>exact⟨_,h,Cd (by simp[eqGuard,binOp,Op.stringOp,strEq])⟩
  case neq=>exact⟨_,h,Cd (by simp[eqGuard,binOp,Op.stringOp,strEq])⟩
  case lss=>exact⟨_,h,Cd (by simp[eqGuard,binOp,Op.stringOp,strLt])⟩
  case leq=>exact⟨_,h,Cd (by simp[eqGuard,binOp,Op.stringOp,strLt,strEq])⟩
  case gtr=>exact⟨_,h,Cd (by simp[eqGuard,binOp,Op.stringOp,strLt,strEq])⟩
  case geq=>exact⟨_,h,Cd (by simp[eqGuard,binOp,Op.stringOp,strLt])⟩
 ·rename_i ks a ks' b;obtain rfl:=NP hx;obtain rfl:=NP hy;split at h
  ·rename_i hb;have hu:=htb hb;have he:(Op.equal t (.bool a) (.bool b)).run P w=.ok (a==b) w:=run_equal_bool w t a b hu;cases op<;>simp only[reduceCtorEq] at h
   case eql=>exact⟨_,h,Cd (by simp[eqGuard,binOp,he])⟩
   case neq=>exact⟨_,h,Cd (by simp[eqGuard,binOp,he])⟩
  ·cases h
 ·cases h
theorem AhK {op:UnOp} {x:AV} {u:Value} {K:AV->Option R} {r:R} (h:unA op x K=some r) (hx:Bg w g n x u) :
    ∃z,K z=some r/\Gives P w g n (Op.unary op u) z:=by
 unfold unA at h;split at h
 ·obtain rfl:=NP hx;split at h
  ·exact⟨_,h,Cd (by simp[Op.unary])⟩
  ·cases h
 ·obtain rfl:=Cu hx;split at h
  ·exact⟨_,h,Bl (by simp[Op.unary,Op.intArith])⟩
  ·exact⟨_,h,Bl (by simp only[Op.unary,Op.intBits];rfl)⟩
  ·cases h
 ·cases h
variable {bs:List Blk}
theorem Bc{t:Nat}{ti:TI}(h:Eg P t ti)(hs:ti.Ea=true):P.underlying t=some (.slice ti.elem):=by
 obtain⟨d,hd,hk⟩:=h.under;unfold TI.Ea at hs;split at hs
 ·rename_i u hu;rw[hd];cases d<;>simp[kindOk,hu,Ty.isAgg] at hk;rename_i e;rw[hk]
 ·cases hs
theorem NG{t:Nat}{ti:TI}(h:Eg P t ti)(hs:ti.ty=.str):P.underlying t=some .string:=by
 obtain⟨d,hd,hk⟩:=h.under;rw[hd];cases d<;>simp[kindOk,hs,Ty.isAgg] at hk;rfl
theorem kK{t:Nat}{ti:TI}(h:Eg P t ti)(hs:ti.ty=.bool):P.underlying t=some .bool:=by
 obtain⟨d,hd,hk⟩:=h.under;rw[hd];cases d<;>simp[kindOk,hs,Ty.isAgg] at hk;rfl
theorem CW{t:Nat}{ti:TI}(h:Eg P t ti):(sizeOf t).run P w=.ok ti.ty.size w:=by
 obtain⟨i,z,hi,hs,_⟩:=h.info;simp[sizeOf,typeInfo,hi,hs]
theorem TL{t:Nat}{ti:TI}(h:Eg P t ti):(isAgg t).run P w=.ok ti.ty.isAgg w:=by
 obtain⟨d,hd,hk⟩:=h.under;cases d<;>simp[isAgg,underlying,hd,kindOk] at hk ⊢
 case int=>rw[hk];rfl
 case bool=>rw[hk];rfl
 case string=>rw[hk];rfl
 case slice =>
  obtain⟨_,hk⟩:=hk;split at hk
  ·rename_i u hu;rw[hu];rfl
  ·cases hk
 case array=>exact hk
 case struct=>exact hk.1
 case pointer =>
  split at hk
  ·rename_i u hu;rw[hu];rfl
  ·cases hk
 case map =>
  split at hk
  ·rename_i u hu;rw[hu];rfl
  ·cases hk
 case func =>
  split at hk
  ·rename_i u hu;rw[hu];rfl
  ·cases hk
theorem Adr (H:Heap w g bs) {t:Nat} {ti:TI} (ht:Eg P t ti) {x:AV} {u:Value} {K:AV->Option R} {r:R} (h:aO bs ti x K=some r) (hx:Bg w g bs.length x u) (ty:TypeId) (ts:Array TypeId) (hts:ts[0]?=some t) :
    ∃z,K z=some r/\Gives P w g n (Builtin.len_ ts ty #[u]) z:=by
 unfold aO at h;split at h
 ·split at h
  ·rename_i hs;obtain⟨_,ad,cap,ds,rfl,_⟩:=S7 hx;exact⟨_,h,Bl (by simp[Builtin.len_,hts,underlying,Bc ht hs,goInt])⟩
  ·cases h
 ·split at h
  ·rename_i hs;obtain rfl:=QD hx;exact⟨_,h,Bl (by simp[Builtin.len_,hts,underlying,NG ht hs,goInt])⟩
  ·cases h
 ·split at h
  ·rename_i hs;obtain⟨ad,rfl⟩:=Rp hx;exact⟨_,h,Bl (by simp[Builtin.len_,hts,underlying,Bc ht hs,goInt])⟩
  ·cases h
 ·rename_i k;split at h
  ·rename_i e m t' xs hb;split at h
   ·rename_i hs;obtain⟨hk,rfl⟩:=HC hx;have hl:=(H.blk k _ hb).2.1;exact⟨_,h,Bl (by simp[Builtin.len_,hts,underlying,Bc ht hs,goInt,hl])⟩
   ·cases h
  ·cases h
 ·cases h
theorem Ahw {mx:Bool} {x y:AV} {u v:Value} {K:AV->Option R} {r:R} (h:uq mx x y K=some r) (hx:Bg w g n x u) (hy:Bg w g n y v) (ty:TypeId) (ts:Array TypeId) :
    ∃z,K z=some r/\Gives P w g n (if mx then Builtin.max_ ts ty #[u,v] else Builtin.min_ ts ty #[u,v]) z:=by
 unfold uq at h;split at h
 ·obtain rfl:=Cu hx;obtain rfl:=Cu hy;split at h
  ·rename_i hk;subst hk;refine⟨_,h,Bl ?_⟩;cases mx
   ·simp[Builtin.min_,Builtin.min2]
   ·simp[Builtin.max_,Builtin.max2]
  ·cases h
 ·cases h
theorem RX{i:Int}{n:Nat}(h:0<=i/\i<(n:Int)):i.toNat<n:=by omega
theorem addN(b o i:Nat):(⟨b,o,none⟩:Addr).add i=⟨b,o+i,none⟩:=by unfold Addr.add;split<;>simp_all
theorem NU {t:Nat} {ti:TI} (h:Eg P t ti) {b off:Nat} {cs:List Value} (hl:cs.length=ti.ty.size) (hc:∀j u,cs[j]?=some u->w.cell? ⟨b,off+j,none⟩=some u) (hs:ti.ty.isAgg=false->cs.length=1) :
    ∃v,(loadVar t ⟨b,off,none⟩).run P w=.ok v w/\A3 ti.ty.isAgg cs v:=by
 unfold loadVar;cases ha:ti.ty.isAgg with
 | true =>
  have hr:=run_loadCells_list (P:=P) w ⟨b,off,none⟩ cs (λj u hu=>by rw[addN];exact hc j u hu);rw[hl] at hr;exact⟨.agg cs.toArray,by simp[TL h,ha,CW h,hr],by simp[A3]⟩
 | false =>
  have h1:=hs ha;obtain⟨c,rfl⟩:∃c,cs=[c]:=by
   cases cs with
   | nil=>simp at h1
   | cons c r=>cases r with
    | nil=>exact⟨c,rfl⟩
    | cons _ _=>simp at h1
  have hc0:=hc 0 c rfl;rw[Nat.add_zero] at hc0;exact⟨c,by simp[TL h,ha,load,Sem.run,hc0],by simp[A3]⟩
theorem Pk{t:Ty}(h:t.isAgg=false):t.size=1:=by cases t<;>simp_all [Ty.isAgg,Ty.size]
theorem Az{t:Ty}(xs:List t.V)(i:Nat)(z:t.V)(h:i<xs.length):xs.getD i z=xs[i]:=by simp[List.getD,h]
theorem wC (H:Heap w g bs) {k:Nat} {i:Int} {a:AV} (h:atB bs k i=some a) (hi:i.toNat<(g.at_ k).len) {b:Nat} (hb:(g.at_ k).a=some ⟨b,0,none⟩) :
    ∃cs,BA w g bs.length false a cs/\∀j u,cs[j]?=some u->w.cell? ⟨b,i.toNat*(g.at_ k).YS+j,none⟩=some u:=by
 unfold atB at h;split at h
 ·rename_i a' hx;injection h with h;subst h;obtain⟨h1,b',cs,e,ha,ho,hh,hr⟩:=H.blk k _ hx;rw[hb] at ha;injection ha with ha;injection ha with ha;subst ha;refine⟨cs.toList,hr,λj u hu=>?_⟩;have:i.toNat=0:=by omega
  rw[this,Nat.zero_mul,Nat.zero_add,Ov hh,<-Axa];exact hu
 ·rename_i e m t xs hx;injection h with h;subst h;obtain⟨Nb,hlen,hes,hpos,hr⟩:=H.blk k _ hx;have hlt:=AE hx;rw[hlen] at hi;rcases hr with ⟨hx0,_⟩| ⟨b',cur,ds,ha,ho,⟨el,hel,hh⟩,h1,h2,h3,h4,hc⟩
  ·subst hx0;simp at hi
  ·rw[hb] at ha;injection ha with ha;injection ha with ha;subst ha;rw[Az _ _ _ hi,hes];have hcell:∀j u,ds[j]?=some u->w.cell? ⟨b,j,none⟩=some u:=by
    intro j u hu;rw[Ov hh,<-Axa];subst h4;rw[List.getElem?_take] at hu;split at hu
    ·exact hu
    ·cases hu
   cases m with
   | deep =>
    obtain⟨c0,c,d,e1,hl,hr,_,_⟩:=AZ.at_ (λi x c h=>Hv.len h) hc hi;refine⟨c,⟨Sp (λj hj=>by simp at hj;omega),Ss (hr.rd λb q hq=>.mem (List.mem_singleton.2 rfl) hq)⟩,λj u hu=>?_⟩;refine hcell _ u ?_;rw[e1,<-hl,Aw4,List.getElem?_append_right (by omega),show c0.length+j-c0.length=j by omega,List.getElem?_append_left (AE hu)];exact hu
   | sh ks =>
    obtain⟨c0,c,d,e1,hl,hr,_,_⟩:=BK.at_ (λx c h=>FL.len h) hc hi;refine⟨c,⟨Sp Nb,Ss hr⟩,λj u hu=>?_⟩;refine hcell _ u ?_;rw[e1,<-hl,Aw4,List.getElem?_append_right (by omega),show c0.length+j-c0.length=j by omega,List.getElem?_append_left (AE hu)];exact hu
 ·cases h
theorem P9 (H:Heap w g bs) {k:Nat} {i:Int} {p:List Nat} {o:Nat} {a:AV} (h:atP bs k i p o=some a) (hi:i.toNat<(g.at_ k).len) {b:Nat} (hb:(g.at_ k).a=some ⟨b,0,none⟩) :
    ∃cs,BA w g bs.length false a cs/\∀j u,cs[j]?=some u->w.cell? ⟨b,i.toNat*(g.at_ k).YS+o+j,none⟩=some u:=by
 unfold atP at h;split at h
 ·rename_i c hc;split at h
  ·rename_i ho;obtain⟨cs,hx,hcell⟩:=wC H hc hi hb;obtain⟨c0,c1,c2,e,ho2,hx1,_⟩:=Nx p c cs a hx h;rw[ho] at ho2;injection ho2 with ho2;subst ho2;refine⟨c1,hx1,λj u hu=>?_⟩;rw[Nat.add_assoc];refine hcell _ u ?_;rw[e,Aw4,List.getElem?_append_right (by omega),show c0.length+j-c0.length=j by omega,List.getElem?_append_left (AE hu)];exact hu
  ·cases h
 ·cases h
theorem RJ{a:AV}{cs:List Value}(h:BA w g n false a cs):a.Cp=false:=by cases a<;>first | rfl | exact h.elim
theorem Aad (H:Heap w g bs) {t:Nat} {ti:TI} (ht:Eg P t ti) {x:AV} {u:Value} {K:AV->Option R} {r:R} (h:SS bs ti x K=some r) (hx:Bg w g bs.length x u) :
    ∃z,K z=some r/\Gives P w g bs.length (Instr.loadAt t u) z:=by
 unfold SS at h;split at h
 ·rename_i ks t' y;split at h
  ·rename_i he;subst he;obtain⟨hk,b,off,ds,rfl,ha,hr,hc⟩:=R7 hx;obtain⟨v,hv,hs⟩:=NU (w:=w) ht hr.len hc (λhg=>by rw[hr.len];exact Pk hg);exact⟨_,h,v,by simp[Instr.loadAt,Instr.sureAddr,hv],A7 rfl (cs:=ds) ⟨Sp hk,Ss hr⟩ hs⟩
  ·cases h
 ·rename_i k i p o;split at h
  ·rename_i a ha;split at h
   ·rename_i hs;obtain⟨hk,h0,h1,b,hb,rfl⟩:=IJ hx;obtain⟨cs,hcx,hcell⟩:=P9 H ha h1 hb;obtain⟨v,hv,hsv⟩:=NU (w:=w) ht (by rw[hcx.len,hs.1]) hcell (λhg=>by rw[hcx.len,hs.1];exact Pk hg);rw[<-hs.2] at hsv;exact⟨_,h,v,by simp[Instr.loadAt,Instr.sureAddr,hv],A7 (RJ hcx) hcx hsv⟩
   ·cases h
  ·cases h
 ·cases h
theorem Adj (H:Heap w g bs) {t:Nat} {ti te:TI} (ht:Eg P t ti) (hte:Eg P ti.elem te) (hs:ti.Ea=true) {x y:AV} {u v:Value} {K:AV->Option R} {r:R} (h:lF bs te.ty x y K=some r) (hx:Bg w g bs.length x u) (hy:Bg w g bs.length y v) :
    ∃z,K z=some r/\Gives P w g bs.length (Instr.indexAt t u v) z:=by
 have hu:=Bc ht hs;unfold lF at h;split at h
 ·rename_i ks t' xs ks' k i;split at h
  ·rename_i he;subst he;split at h
   ·rename_i hi;obtain rfl:=Cu hy;obtain⟨hk,ad,cap,ds,rfl,hl,hr,hm⟩:=S7 hx;have hlt:i.toNat<xs.length:=RX hi;rcases hm with hm | ⟨b,off,rfl,ha,hc⟩
    ·subst hm;simp at hlt
    ·obtain⟨c0,c,d,e1,hl0,hr1,_,_⟩:=BK.at_ (λx c h=>FL.len h) hr hlt;refine⟨_,h,.pointer (some ⟨b,off+i.toNat*te.ty.size,none⟩),?_,?_⟩
     ·simp[Instr.indexAt,asIntOf,underlying,hu,hi.1,hi.2,CW hte,addN]
     ·rw[Az _ _ _ hlt];refine Xo hk ha hr1 λj q hq=>?_;rw[<-hl0,Nat.add_assoc];refine hc _ q ?_;rw[e1,Aw4,List.getElem?_append_right (by omega),show c0.length+j-c0.length=j by omega,List.getElem?_append_left (AE hq)];exact hq
   ·cases h
  ·cases h
 ·rename_i k ks' kk i;split at h
  ·rename_i e m t' xs hb;split at h
   ·rename_i he;subst he;split at h
    ·rename_i hi;obtain rfl:=Cu hy;obtain⟨hk,rfl⟩:=HC hx;obtain⟨Nb,hlen,hes,hpos,hr⟩:=H.blk k _ hb;have hlt:i.toNat<xs.length:=RX hi;rcases hr with ⟨hx0,_⟩| ⟨b,cur,ds,ha,ho,⟨el,hel,hh⟩,h1,h2,h3,h4,hc⟩
     ·subst hx0;simp at hlt
     ·refine⟨_,h,.pointer (some ⟨b,i.toNat*(g.at_ k).YS+0,none⟩),?_,Tq hk hi.1 (by rw[hlen];exact hlt) ha⟩;simp[Instr.indexAt,asIntOf,underlying,hu,hi.1,hi.2,CW hte,ha,hlen,hes,addN]
    ·cases h
   ·cases h
  ·rename_i e t' xs i' p' hb;split at h
   ·rename_i he;subst he;split at h
    ·rename_i hi;obtain rfl:=Cu hy;obtain⟨hk,rfl⟩:=HC hx;obtain⟨hlen,hes,hpos,_,_,_,_,_,b,_,_,_,_,_,ha,_⟩:=H.blk k _ hb;have hlt:i.toNat<xs.length:=RX hi;refine⟨_,h,.pointer (some ⟨b,i.toNat*(g.at_ k).YS+0,none⟩),?_,Tq hk hi.1 (by rw[hlen];exact hlt) ha⟩;simp[Instr.indexAt,asIntOf,underlying,hu,hi.1,hi.2,CW hte,ha,hlen,hes,addN]
    ·cases h
   ·cases h
  ·cases h
 ·cases h
theorem AcY {t:Nat} {ti:TI} (ht:Eg P t ti) (hs:ti.ty=.str) {x y:AV} {u v:Value} {K:AV->Option R} {r:R} (h:ZV x y K=some r) (hx:Bg w g n x u) (hy:Bg w g n y v) :
    ∃z,K z=some r/\Gives P w g n (Instr.index t u v) z:=by
 unfold ZV at h;split at h
 ·rename_i ks s ks' k i;split at h
  ·rename_i hi;obtain rfl:=Cu hy;obtain rfl:=QD hx;refine⟨_,h,Bl ?_⟩;have hlt:i.toNat<s.size:=RX hi;simp[Instr.index,asIntOf,underlying,NG ht hs,hi.1,BL,hlt]
  ·cases h
 ·cases h
end
end Go.Va
namespace Go.Va
section
variable {P:Program} {w:World} {g:G} {n:Nat} {R:Type} {bs:List Blk}
theorem oN {ty:Ty}:∀{fs:List Field} {os:List Nat} {i j o:Nat},N3 P ty i fs os=true->os[j]?=some o ->
    ∃fd u inf,fs[j]?=some fd/\fd.offset=o/\OA ty (i+j)=some o/\dn ty (i+j)=some u/\P.info? fd.type=some inf/\inf.size=u.size/\u.size≠0
 | [],[],_,_,_,_,h=>by simp at h
 | f::fs,o'::os,i,0,o,h,ho=>by
  simp only[List.getElem?_cons_zero,AwY] at ho;subst ho;simp only[N3,Aw3,beq_iff_eq] at h;obtain⟨⟨⟨h1,h2⟩,h3⟩,_⟩:=h;split at h3
  ·rename_i u hu;simp only[Aw3,beq_iff_eq,bne_iff_ne] at h3;cases hi:P.info? f.type with
   | none=>simp[hi] at h3
   | some inf=>simp[hi] at h3;exact⟨f,u,inf,rfl,h1,by simpa using h2,by simpa using hu,hi,h3.1,h3.2⟩
  ·cases h3
 | f::fs,o'::os,i,j+1,o,h,ho=>by
  simp only[N3,Aw3] at h;obtain⟨fd,u,inf,h1,h2,h3,h4,h5⟩:=oN (i:=i+1) h.2 (by simpa using ho);exact⟨fd,u,inf,by simpa using h1,h2,by rw[show i+(j+1)=i+1+j by omega];exact h3,by rw[show i+(j+1)=i+1+j by omega];exact h4,h5⟩
 | [],_::_,_,_,_,h,_=>by simp[N3] at h
 | _::_,[],_,_,_,h,_=>by simp[N3] at h
theorem Ux {t:Nat} {ti:TI} (h:Eg P t ti) {f o:Nat} (ho:ti.Rc[f]?=some o) :
    ∃fs,P.underlying t=some (.struct fs)/\N3 P ti.ty 0 fs.toList ti.Rc=true:=by
 rcases h.Rc with ⟨fs,hfs⟩| he
 ·obtain⟨d,hd,hk⟩:=h.under;rw[hfs] at hd;injection hd with hd;subst hd;simp only[kindOk,Aw3] at hk;exact⟨fs,hfs,hk.2⟩
 ·rw[he] at ho;simp at ho
theorem PF {t:Nat} {ti:TI} (h:Eg P t ti) {f fo:Nat} (ho:ti.Rc[f]?=some fo) (b o:Nat) :
    (Instr.fieldAt t (.pointer (some ⟨b,o,none⟩)) f).run P w=.ok (.pointer (some ⟨b,o+fo,none⟩)) w/\OA ti.ty f=some fo/\∃u,dn ti.ty f=some u:=by
 obtain⟨fs,hu,hf⟩:=Ux h ho;obtain⟨fd,u,inf,h1,h2,h3,h4,h5,h6,h7⟩:=oN hf ho;rw[Nat.zero_add] at h3 h4;refine⟨?_,h3,u,h4⟩;have hfd:fs[f]?=some fd:=by rw[<-Axa];exact h1
 have hsz:(sizeOf fd.type).run P w=.ok u.size w:=by simp[sizeOf,typeInfo,h5,h6]
 simp[Instr.fieldAt,underlying,hu,hfd,Instr.sureAddr,fieldPlace,hsz,h7,addN,h2]
theorem Ac8 {t:Nat} {ti:TI} (ht:Eg P t ti) {f:Nat} {x:AV} {u:Value} {K:AV->Option R} {r:R} (h:X2 ti f x K=some r) (hx:Bg w g n x u) :
    ∃z,K z=some r/\Gives P w g n (Instr.fieldAt t u f) z:=by
 unfold X2 at h;split at h
 ·rename_i k i p o;split at h
  ·rename_i fo hfo;obtain⟨hk,h0,h1,b,hb,rfl⟩:=IJ hx;refine⟨_,h,_,(PF ht hfo b _).1,?_⟩;rw[Nat.add_assoc];exact Tq hk h0 h1 hb
  ·cases h
 ·rename_i ks t' y;split at h
  ·rename_i he;obtain⟨rfl,he⟩:=he;split at h
   ·rename_i ks' v z hz;obtain⟨hk,b,off,ds,rfl,ha,hr,hc⟩:=R7 hx;obtain⟨c0,c1,c2,e,ho,_,⟨u',y',heq,hr1⟩,_⟩:=Sl (g:=g) hk f _ y ds _ hr hz;injection heq with _ h2 h3;subst h2;obtain rfl:=eq_of_heq h3;rw[ho] at he;refine⟨_,h,_,(PF ht he.symm b off).1,Xo hk ha hr1 λj q hq=>?_⟩;rw[Nat.add_assoc];refine hc _ q ?_;rw[e,Aw4,List.getElem?_append_right (by omega),show c0.length+j-c0.length=j by omega,List.getElem?_append_left (AE hq)];exact hq
   ·cases h
  ·cases h
 ·cases h
theorem oJ:∀{x:AV} {i:Nat} {z:AV} {vs:List Value},K3 x i=some z->BA w g n true x vs->∃v,vs[i]?=some v/\(z.Cp=false->Bg w g n z v)
 | .cons a b,0,z,vs,h,hx=>by
  simp only[K3,AwY] at h;subst h;obtain⟨v,r,e,h1,_⟩:=hx;subst e;exact⟨v,rfl,λht=>(Bg.iff ht).2 h1⟩
 | .cons a b,i+1,z,vs,h,hx=>by
  simp only[K3] at h;obtain⟨v,r,e,_,h2⟩:=hx;subst e;obtain⟨u,hu,hz⟩:=oJ h h2;exact⟨u,by simpa using hu,hz⟩
 | .nil,_,_,_,h,_=>by simp[K3] at h
 | .dat _ _ _,_,_,_,h,_=>by simp[K3] at h
 | .zs,_,_,_,h,_=>by simp[K3] at h
 | .ref _,_,_,_,h,_=>by simp[K3] at h
 | .QS _ _,_,_,_,h,_=>by simp[K3] at h
 | .mp _,_,_,_,h,_=>by simp[K3] at h
 | .ptr _ _ _ _,_,_,_,h,_=>by simp[K3] at h
 | .rop _ _ _,_,_,_,h,_=>by simp[K3] at h
 | .JH,_,_,_,h,_=>by simp[K3] at h
 | .pr _ _,_,_,_,h,_=>by simp[K3] at h
 | .fn _ _,_,_,_,h,_=>by simp[K3] at h
 | .Oz _ _ _ _ _,_,_,_,h,_=>by simp[K3] at h
 | .P4 _ _ _ _ _ _,_,_,_,h,_=>by simp[K3] at h
 | .un _,_,_,_,h,_=>by simp[K3] at h
def u7(w:World)(g:G)(n:Nat):Option AV->Option Value->Prop
 | none,none=>True
 | some a,some v=>Bg w g n a v
 | _,_=>False
theorem Rq{x:Option AV}{v:Option Value}{d i:Int}(h:bnd x d=some i)(hx:u7 w g n x v):(v=none/\i=d)\/∃k,v=some (.int k i):=by
 unfold bnd at h;split at h
 ·cases v with
  | none=>simp at h;exact .inl ⟨rfl,h.symm⟩
  | some _=>exact hx.elim
 ·cases v with
  | none=>exact hx.elim
  | some u=>simp at h;subst h;exact .inr ⟨_,congrArg some (Cu hx)⟩
 ·cases h
theorem OP {isS:Bool} {len cap:Nat} {lo hi:Option Value} {l h:Int} (hl:(lo=none/\l=0)\/∃k,lo=some (.int k l)) (hh:(hi=none/\h=(len:Int))\/∃k,hi=some (.int k h))
    (h0:0<=l) (h1:l<=h) (h2:h<=(len:Int)) (hc:len<=cap):(Instr.sliceBounds isS len cap lo hi none).run P w=.ok (l.toNat,h.toNat,cap) w:=by
 have e1:((h.toNat:Nat):Int)=h:=by omega
 have e2:h<=(cap:Int):=by omega
 have e3:0<=h:=by omega
 rcases hl with ⟨rfl,rfl⟩| ⟨k,rfl⟩<;>rcases hh with ⟨rfl,rfl⟩| ⟨k',rfl⟩
 ·simp[Instr.sliceBounds]
 ·simp[Instr.sliceBounds,Instr.sliceBound,asIntOf,e2,e3]
 ·simp[Instr.sliceBounds,Instr.sliceBound,asIntOf,h0,h1]
 ·simp[Instr.sliceBounds,Instr.sliceBound,asIntOf,e2,e3,h0,h1,e1]
theorem Lg {t:Nat} {ti:TI} (h:Eg P t ti) (hs:ti.Ea=true) (a:Option Addr) (len cap:Nat) (lo hi mx:Option Value) (w:World) :
    (Instr.sliceAt t (.slice a len cap) lo hi mx).run P w=(Instr.slice t (.slice a len cap) lo hi mx).run P w:=by
 simp[Instr.sliceAt,underlying,Bc h hs]
theorem iY {t:Nat} {ti:TI} (h:Eg P t ti) (hs:ti.ty=.str) (s:ByteArray) (lo hi mx:Option Value) (w:World) :
    (Instr.sliceAt t (.string s) lo hi mx).run P w=(Instr.slice t (.string s) lo hi mx).run P w:=by
 simp[Instr.sliceAt,underlying,NG h hs]
theorem pO {A:Nat->Prop} {t:Ty} {xs:List t.V} {ad:Option Addr} {cap:Nat} {ds:List Value} {l h:Nat} (h1:l<=h) (h2:h<=xs.length) (hc:xs.length<=cap)
    (hr:BK (FL w A t) xs ds) (hm:xs=[]\/∃b off,ad=some ⟨b,off,none⟩/\A b/\∀j u,ds[j]?=some u->w.cell? ⟨b,off+j,none⟩=some u) :
    FL w A (.sl t) ((xs.take h).drop l) [.slice (if cap=l then ad else ad.map (·.add (l*t.size))) (h-l) (cap-l)]:=by
 have hlen:((xs.take h).drop l).length=h-l:=by simp[List.length_take];omega
 refine⟨_,cap-l,((ds.take (h*t.size)).drop (l*t.size)),by rw[hlen],by rw[hlen];omega,?_,?_⟩
 ·exact BK.Ad9 (λx c r=>FL.len r) l (BK.takeN (λx c r=>FL.len r) h hr)
 ·rcases Nat.eq_or_lt_of_le h1 with e | hlt
  ·subst e;exact .inl (by apply List.eq_nil_of_length_eq_zero;rw[hlen];omega)
  ·rcases hm with hx | ⟨b,off,rfl,ha,hcell⟩
   ·subst hx;simp at h2;omega
   ·refine .inr ⟨b,off+l*t.size,?_,ha,λj u hu=>?_⟩
    ·rw[if_neg (by omega)];simp[addN]
    ·rw[List.getElem?_drop,List.getElem?_take] at hu;split at hu
     ·rw[Nat.add_assoc];exact hcell _ u hu
     ·cases hu
theorem sN (H:Heap w g bs) {t:Nat} {ti:TI} (ht:Eg P t ti) {te:Option Ty} (hte:∀u,te=some u->ti.Ea=true/\∃tie,tie.ty=u/\Eg P ti.elem tie) {x:AV} {lo hi mx:Option AV} {u:Value} {vlo vhi uw:Option Value}
    {K:AV->Option R} {r:R} (h:QT bs ti te x lo hi mx K=some r) (hx:Bg w g bs.length x u) (hlo:u7 w g bs.length lo vlo) (hhi:u7 w g bs.length hi vhi) (hmx:u7 w g bs.length mx uw) :
    ∃z,K z=some r/\Gives P w g bs.length (Instr.sliceAt t u vlo vhi uw) z:=by
 unfold QT at h;split at h
 ·rename_i ks k m;split at h
  ·rename_i ks' k' hh;split at h
   ·rename_i hz;obtain⟨rfl,rfl,hs⟩:=hz;obtain⟨u',hu'⟩:=Option.isSome_iff_exists.1 hs;obtain⟨hs,tie,rfl,hto⟩:=hte _ hu';obtain rfl:vlo=none:=by cases vlo with | none=>rfl | some _=>exact hlo.elim
    obtain⟨vh,rfl,e1⟩:∃v,vhi=some v/\v=.int k' 0:=by cases vhi with | none=>exact hhi.elim | some v=>exact⟨v,rfl,Cu hhi⟩
    obtain⟨vm,rfl,e2⟩:∃v,uw=some v/\v=.int k 0:=by cases uw with | none=>exact hmx.elim | some v=>exact⟨v,rfl,Cu hmx⟩
    subst e1;subst e2;have key:∀(a:Option Addr) (len cap:Nat),(Instr.sliceAt t (.slice a len cap) none (some (.int k' 0)) (some (.int k 0))).run P w=.ok (.slice a 0 0) w:=λa len cap=>by
     rw[Lg ht hs];simp[Instr.slice,underlying,Bc ht hs,Instr.sliceBounds,Instr.sliceBound,asIntOf,CW hto]
    split at h
    ·obtain⟨_,ad,cap,ds,rfl,_⟩:=S7 hx;exact⟨_,h,_,key _ _ _,Zh _⟩
    ·obtain⟨ad,rfl⟩:=Rp hx;exact⟨_,h,_,key _ _ _,Zh _⟩
    ·split at h
     ·obtain⟨_,rfl⟩:=HC hx;exact⟨_,h,_,key _ _ _,Zh _⟩
     ·cases h
    ·cases h
   ·cases h
  ·cases h
 ·cases h
 ·split at h
  ·rename_i ks s;split at h
   ·rename_i l hh hl hhh;split at h
    ·rename_i hc;obtain⟨hs,h0,h1,h2⟩:=hc;obtain rfl:=QD hx;obtain rfl:uw=none:=by cases uw with | none=>rfl | some _=>exact hmx.elim
     refine⟨_,h,Sm ?_⟩;rw[iY ht hs];have hb:=OP (P:=P) (w:=w) (isS:=false) (cap:=s.size) (Rq hl hlo) (Rq hhh hhi) h0 h1 h2 (Aw2 _);simp[Instr.slice,underlying,NG ht hs,hb]
    ·cases h
   ·cases h
  ·rename_i ks t' xs;split at h
   ·rename_i l hh hl hhh;split at h
    ·rename_i he;obtain⟨hs,tie,rfl,hto⟩:=hte _ he;split at h
     ·rename_i hc;obtain⟨h0,h1,h2⟩:=hc;obtain⟨hk,ad,cap,ds,rfl,hcap,hr,hm⟩:=S7 hx;obtain rfl:uw=none:=by cases uw with | none=>rfl | some _=>exact hmx.elim
      refine⟨_,h,?_⟩;have hb:=OP (P:=P) (w:=w) (isS:=true) (cap:=cap) (Rq hl hlo) (Rq hhh hhi) h0 h1 h2 hcap;refine⟨.slice (if cap=l.toNat then ad else ad.map (·.add (l.toNat*tie.ty.size))) (hh.toNat-l.toNat) (cap-l.toNat),?_,?_⟩
      ·rw[Lg ht hs];simp[Instr.slice,underlying,Bc ht hs,hb,CW hto]
      ·exact A7 rfl (cs:=[_]) ⟨hk,pO (by omega) (by omega) hcap hr hm⟩ (by simp[A3,AV.isAgg,Ty.isAgg])
     ·cases h
    ·cases h
   ·cases h
  ·rename_i k;split at h
   ·rename_i e m t' xs hb;split at h
    ·rename_i l hh hl hhh;split at h
     ·rename_i he;obtain⟨hs,tie,rfl,hto⟩:=hte _ he;split at h
      ·rename_i hc;obtain⟨h0,h1,h2⟩:=hc;obtain⟨cs,hcx,hv⟩:=Ba rfl rfl hx;have hrd:=MI H (.sl tie.ty) (.ref k) xs cs (by simp[rd,hb,Hw]) hcx;obtain⟨⟨ad,cap,ds,e1,hcap,hr,hm⟩,o7⟩:=hrd;subst e1;have Ahm:(AV.ref k).lend bs=k::m.ids:=by simp[AV.lend,Up,hb]
       rw[Ahm] at o7 hr hm;obtain rfl:u=.slice ad xs.length cap:=by simpa [A3,AV.isAgg] using hv.symm
       obtain rfl:uw=none:=by cases uw with | none=>rfl | some _=>exact hmx.elim
       refine⟨_,h,?_⟩;have hb:=OP (P:=P) (w:=w) (isS:=true) (cap:=cap) (Rq hl hlo) (Rq hhh hhi) h0 h1 h2 hcap;refine⟨.slice (if cap=l.toNat then ad else ad.map (·.add (l.toNat*tie.ty.size))) (hh.toNat-l.toNat) (cap-l.toNat),?_,?_⟩
       ·rw[Lg ht hs];simp[Instr.slice,underlying,Bc ht hs,hb,CW hto]
       ·exact A7 rfl (cs:=[_]) ⟨o7,pO (by omega) (by omega) hcap hr hm⟩ (by simp[A3,AV.isAgg,Ty.isAgg])
      ·cases h
     ·cases h
    ·cases h
   ·cases h
  ·split at h
   ·rename_i l hh hl hhh;split at h
    ·rename_i hc;obtain⟨hs,rfl,rfl⟩:=hc;obtain⟨u',hu'⟩:=Option.isSome_iff_exists.1 hs;obtain⟨hs,tie,rfl,hto⟩:=hte _ hu';obtain⟨ad,rfl⟩:=Rp hx;obtain rfl:uw=none:=by cases uw with | none=>rfl | some _=>exact hmx.elim
     have hb:=OP (P:=P) (w:=w) (isS:=true) (len:=0) (cap:=0) (Rq hl hlo) (Rq hhh hhi) (Int.le_refl _) (Int.le_refl _) (Int.le_refl _) (Aw2 _);refine⟨_,h,.slice ad 0 0,?_,Zh _⟩;rw[Lg ht hs];simp[Instr.slice,underlying,Bc ht hs,hb,CW hto]
    ·cases h
   ·cases h
  ·cases h
theorem OG{t:Nat}{ti:TI}{k:IntKind}(h:Eg P t ti)(hs:ti.ty=.int k):P.underlying t=some (.int k):=by
 obtain⟨d,hd,hk⟩:=h.under;rw[hd];cases d<;>simp[kindOk,hs,Ty.isAgg] at hk;rw[hk]
theorem VB{A:Nat->Prop}:∀{xs:List Int} {ds:List Value},BK (FL w A (.int .u8)) xs ds->ds=xs.map (Value.int .u8)
 | [],_,h=>h
 | x::xs,_,⟨c,d,e,h1,h2⟩=>by
  have h1':c=[.int .u8 x]:=h1;rw[e,h1',VB h2];rfl
theorem y5 (H:Heap w g bs) {s t:Nat} {ts ti:TI} (hs:Eg P s ts) (ht:Eg P t ti) {te:Option Ty} (hte:∀u,te=some u->ts.Ea=true/\∃tie,tie.ty=u/\Eg P ts.elem tie) {x:AV} {u:Value}
    {K:AV->Option R} {r:R} (h:TU bs te ti.ty x K=some r) (hx:Bg w g bs.length x u) :
    ∃z,K z=some r/\Gives P w g bs.length (convert s t u) z:=by
 obtain⟨ds,hds,_⟩:=hs.under;unfold TU at h;split at h
 ·rename_i k hk;split at h
  ·obtain rfl:=Cu hx;refine⟨_,h,Bl ?_⟩;simp[convert,underlying,hds,OG ht hk,Conv.intToInt]
  ·cases h
 ·rename_i hk;have hut:=NG ht hk;split at h
  ·obtain rfl:=QD hx;refine⟨_,h,Sm ?_⟩;simp[convert,underlying,hds,hut]
  ·split at h
   ·rename_i he;obtain⟨hsl,tie,hty,hto⟩:=hte _ he;split at h
    ·rename_i xs hxs;have hu:=OG hto hty;have hsu:=Bc hs hsl;have hnt:x.Cp=false:=by cases x<;>first | rfl | simp[rd] at hxs
     have hun:x.K9=false:=by cases x<;>first | rfl | simp[rd] at hxs
     have hag:x.isAgg=false:=by
      cases x with
      | dat ks t' y =>
       simp only[rd] at hxs;obtain⟨e,_⟩:=Bb hxs;subst e;rfl
      | pr a b=>simp[rd] at hxs
      | _=>rfl
     obtain⟨cs,hcx,hv⟩:=Ba hnt hun hx;obtain⟨⟨ad,cap,dd,e1,hcap,hr,hm⟩,_⟩:=MI H _ _ _ _ hxs hcx;subst e1;obtain rfl:u=.slice ad xs.length cap:=by
      rw[hag] at hv;have hv':[_]=[u]:=hv;simpa using hv'.symm
     refine⟨_,h,Sm ?_⟩;have hdd:=VB hr;have hrun:∀b off,ad=some ⟨b,off,none⟩->(∀i,i<xs.length->w.cell? ⟨b,off+i,none⟩=some (.int .u8 (xs.getD i 0)))->(convert s t (.slice ad xs.length cap)).run P w=.ok (.string (bytesOf xs)) w:=by
      intro b off e hc;subst e;exact run_convert_bytes_arg w s ts.elem hsu hu b off xs.length cap xs rfl hc t hut
     rcases hm with hx0 | ⟨b,off,rfl,_,hc⟩
     ·subst hx0;cases ad with
      | none=>exact run_convert_bytes_nil w s ts.elem hsu hu 0 cap t hut
      | some a0=>simp[convert,underlying,hsu,hut,hu,Conv.bytesToString,loadCells,loadCellsFrom,bytesOf,ByteArray.empty,ByteArray.emptyWithCapacity];rfl
     ·refine hrun b off rfl λi hi=>hc i _ ?_;rw[hdd];simp[List.getD,hi]
    ·cases h
   ·cases h
 ·cases h
end
end Go.Va
namespace Go.Va
section
variable {R:Type}
theorem eB(op:BinOp)(tb:Bool)(x y:AV)(K:AV->Option R):ZR op tb x y K=(ZR op tb x y some).bind K:=by
 unfold ZR
 repeat' split
 all_goals rfl
theorem ql(op:UnOp)(x:AV)(K:AV->Option R):unA op x K=(unA op x some).bind K:=by
 unfold unA
 repeat' split
 all_goals rfl
theorem iB(bs:List Blk)(ti:TI)(x:AV)(K:AV->Option R):aO bs ti x K=(aO bs ti x some).bind K:=by
 unfold aO
 repeat' split
 all_goals rfl
theorem Wg(mx:Bool)(x y:AV)(K:AV->Option R):uq mx x y K=(uq mx x y some).bind K:=by
 unfold uq
 repeat' split
 all_goals rfl
theorem zV(bs:List Blk)(te:Ty)(x y:AV)(K:AV->Option R):lF bs te x y K=(lF bs te x y some).bind K:=by
 unfold lF
 repeat' split
 all_goals rfl
theorem gW(bs:List Blk)(te:Ty)(x y:AV)(K:AV->Option R):gV bs te x y K=(gV bs te x y some).bind K:=by
 unfold gV;split
 ·repeat' split
  all_goals rfl
 ·exact zV ..
theorem fD(x y:AV)(K:AV->Option R):ZV x y K=(ZV x y some).bind K:=by
 unfold ZV
 repeat' split
 all_goals rfl
theorem gG(ti:TI)(f:Nat)(x:AV)(K:AV->Option R):X2 ti f x K=(X2 ti f x some).bind K:=by
 unfold X2
 repeat' split
 all_goals rfl
theorem Y8(bs:List Blk)(ti:TI)(x:AV)(K:AV->Option R):SS bs ti x K=(SS bs ti x some).bind K:=by
 unfold SS
 repeat' split
 all_goals rfl
theorem XH(bs:List Blk)(ti:TI)(te:Option Ty)(x:AV)(lo hi mx:Option AV)(K:AV->Option R):QT bs ti te x lo hi mx K=(QT bs ti te x lo hi mx some).bind K:=by
 unfold QT
 repeat' split
 all_goals rfl
theorem YG(bs:List Blk)(te:Option Ty)(td:Ty)(a:AV)(K:AV->Option R):TU bs te td a K=(TU bs te td a some).bind K:=by
 unfold TU
 repeat' split
 all_goals rfl
theorem mR(bs:List Blk)(ti:TI)(x v:AV)(K:Eff->Option R):Vq bs ti x v K=(Vq bs ti x v some).bind K:=by
 unfold Vq
 repeat' split
 all_goals rfl
theorem mP(bs:List Blk)(ti:TI)(x:AV)(K:Eff->Option R):TC bs ti x K=(TC bs ti x some).bind K:=by
 unfold TC
 repeat' split
 all_goals rfl
theorem Y9(bs:List Blk)(tk te:TI)(ok:Bool)(m x:AV)(K:AV->Option R):VO bs tk te ok m x K=(VO bs tk te ok m x some).bind K:=by
 unfold VO
 repeat' split
 all_goals first | rfl | (cases ok<;>rfl)
theorem rT(bs:List Blk)(tk te:TI)(m x:AV)(K:Eff->Option R):Za bs tk te m x K=(Za bs tk te m x some).bind K:=by
 unfold Za
 repeat' split
 all_goals rfl
theorem Acb{c:Bool}{e:Eff}{K:Eff->Option R}:(bif c then K e else none)=(bif c then some e else none).bind K:=by cases c<;>rfl
theorem jM(bs:List Blk)(tk te:TI)(m x v:AV)(K:Eff->Option R):Vt bs tk te m x v K=(Vt bs tk te m x v some).bind K:=by
 unfold Vt
 repeat' split
 all_goals first | rfl | exact Acb
theorem zk(bs:List Blk)(tk te:TI)(m x:AV)(K:Eff->Option R):qX bs tk te m x K=(qX bs tk te m x some).bind K:=by
 unfold qX
 repeat' split
 all_goals rfl
theorem Asd{c:Bool}{A:Option R}{B:Option Eff}{K:Eff->Option R}(h:A=B.bind K):(bif c then A else none)=(bif c then B else none).bind K:=by
 cases c
 ·rfl
 ·exact h
theorem zl(bs:List Blk)(tk te:TI)(m j v:AV)(K:Eff->Option R):qY bs tk te m j v K=(qY bs tk te m j v some).bind K:=by
 unfold qY
 repeat' split
 all_goals first
  | rfl
  | exact Asd (jM ..)
theorem dY(fi:FI)(bs:List Blk)(e:Nat)(ti:TI)(x y:AV)(K:Eff->Option R):R4 fi bs e ti x y K=(R4 fi bs e ti x y some).bind K:=by
 unfold R4
 repeat' split
 all_goals rfl
theorem dZ(fi:FI)(bs:List Blk)(e:Nat)(ti:TI)(x y:AV)(K:Eff->Option R):R5 fi bs e ti x y K=(R5 fi bs e ti x y some).bind K:=by
 unfold R5
 repeat' split
 all_goals rfl
theorem rU(fi:FI)(bs:List Blk)(e:Nat)(ti:TI)(x y:AV)(K:Eff->Option R):Zc fi bs e ti x y K=(Zc fi bs e ti x y some).bind K:=by
 unfold Zc
 repeat' split
 all_goals rfl
theorem y7(te:Ty)(bs:List Blk)(x:AV)(hi:Option AV)(K:Eff->Option R):qR te bs x hi K=(qR te bs x hi some).bind K:=by
 unfold qR
 repeat' split
 all_goals rfl
def Wl(c:Callee):Prop:=∀(R:Type) args E (K:AV->List Blk->Option R),c.run R args E K=(c.run (AV×List Blk) args E λv b=>some (v,b)).bind λp=>K p.1 p.2
theorem Sb(c:Callee)(hc:Wl c)(bs:List Blk)(args:List AV)(K:Eff->Option R):Rs c bs args K=(Rs c bs args some).bind K:=by
 unfold Rs;split
 ·rfl
 ·dsimp only
  split
  ·rw[hc R,hc Eff];cases c.run (AV×List Blk) _ _ λv b=>some (v,b) with
   | none=>rfl
   | some p=>simp only[AwW];split<;>rfl
  ·rfl
theorem qJ(c:Callee)(hc:Wl c)(bs:List Blk)(args:List AV)(K:Eff->Option R):WH c bs args K=(WH c bs args some).bind K:=by
 have via:∀(bs:List Blk) (args:List AV) (F:Eff->Option R) (F':Eff->Option Eff),(∀e,F e=(F' e).bind K)->Rs c bs args F=(Rs c bs args F').bind K:=λbs args F F' h=>by
  rw[Sb c hc bs args F,Sb c hc bs args F'];cases Rs c bs args some with
  | none=>rfl
  | some e=>exact h e
 unfold WH;split
 ·exact Sb c hc bs args K
 ·split
  ·split
   ·split
    ·split
     ·refine via _ _ _ _ λe=>?_;split
      ·rfl
      ·split
       ·split
        ·split<;>rfl
        ·rfl
       ·rfl
     ·rfl
    ·rfl
   ·rfl
  ·rfl
theorem V5 (f:(R:Type)->(AV->Option R)->Option R) (hf:∀(R:Type) (K:AV->Option R),f R K=(f AV some).bind K) (g:AV->Eff) (K:Eff->Option R) :
    f R (λv=>K (g v))=(f Eff λv=>some (g v)).bind K:=by
 rw[hf R,hf Eff];cases f AV some<;>rfl
def Rh(en:Env):Prop:=∀g c,en.fns g=some c->Wl c
theorem Z8(en:Env)(he:Rh en)(σ:St)(c:Call)(K:Eff->Option R):Qj en σ c K=(Qj en σ c some).bind K:=by
 unfold Qj;split
 ·split
  ·split
   ·exact V5 (λR K=>aO _ _ _ K) (λR K=>iB ..) (λv=>⟨v,_,_⟩) K
   ·rfl
  ·rfl
 ·split
  ·exact V5 (λR K=>uq _ _ _ K) (λR K=>Wg ..) (λv=>⟨v,_,_⟩) K
  ·rfl
 ·split
  ·exact V5 (λR K=>uq _ _ _ K) (λR K=>Wg ..) (λv=>⟨v,_,_⟩) K
  ·rfl
 ·split
  ·split
   ·split
    ·split
     ·exact dY ..
     ·split
      ·exact dZ ..
      ·rfl
    ·rfl
   ·rfl
  ·rfl
 ·rfl
 ·split
  ·split
   ·rename_i hg;exact qJ _ (he _ _ hg) ..
   ·rfl
  ·rfl
 ·rfl
theorem J1(en:Env)(he:Rh en)(σ:St)(o:Oper)(K:Eff->Option R):Ni en σ o K=(Ni en σ o some).bind K:=by
 unfold Ni
 dsimp only
 split
 ·rfl
 ·rfl
 ·split
  ·rename_i t _;cases t<;>rfl
  ·rfl
 ·split<;>rfl
 ·split<;>rfl
 ·split
  ·split
   ·rfl
   ·split<;>rfl
  ·rfl
 ·split
  ·split
   ·split
    ·split
     ·split<;>rfl
     ·rfl
    ·rfl
   ·rfl
  ·rfl
 ·split
  ·split
   ·split
    ·exact mP ..
    ·rfl
   ·exact V5 (λR K=>SS _ _ _ K) (λR K=>Y8 ..) (λv=>⟨v,_,_⟩) K
  ·rfl
 ·split
  ·split
   ·rfl
   ·split
    ·split<;>rfl
    ·rfl
  ·rfl
 ·split
  ·split
   ·split
    ·split
     ·split
      ·rfl
      ·exact rT ..
     ·exact V5 (λR K=>VO _ _ _ _ _ _ K) (λR K=>Y9 ..) (λv=>⟨v,_,_⟩) K
    ·rfl
   ·rfl
  ·rfl
 ·split
  ·split
   ·split
    ·exact jM ..
    ·rfl
   ·rfl
  ·rfl
 ·split
  ·split
   ·split
    ·exact zk ..
    ·rfl
   ·rfl
  ·rfl
 ·split
  ·split
   ·split
    ·exact zl ..
    ·rfl
   ·rfl
  ·rfl
 ·split
  ·exact mR ..
  ·rfl
 ·split<;>rfl
 ·split
  ·rfl
  ·exact V5 (λR K=>ZR _ _ _ _ K) (λR K=>eB ..) (λv=>⟨v,_,_⟩) K
 ·exact V5 (λR K=>unA _ _ K) (λR K=>ql ..) (λv=>⟨v,_,_⟩) K
 ·split
  ·exact V5 (λR K=>TU _ _ _ _ K) (λR K=>YG ..) (λv=>⟨v,_,_⟩) K
  ·rfl
 ·split
  ·split<;>rfl
  ·rfl
 ·split
  ·split
   ·split
    ·exact rU ..
    ·rfl
   ·rfl
  ·rfl
 ·split
  ·split
   ·split
    ·split
     ·split
      ·exact y7 ..
      ·rfl
     ·rfl
    ·rfl
   ·exact V5 (λR K=>QT _ _ _ _ _ _ _ K) (λR K=>XH ..) (λv=>⟨v,_,_⟩) K
  ·rfl
 ·split
  ·exact V5 (λR K=>X2 _ _ _ K) (λR K=>gG ..) (λv=>⟨v,_,_⟩) K
  ·rfl
 ·split
  ·split
   ·split
    ·exact V5 (λR K=>gV _ _ _ _ K) (λR K=>gW ..) (λv=>⟨v,_,_⟩) K
    ·rfl
   ·rfl
  ·rfl
 ·split
  ·split
   ·exact V5 (λR K=>ZV _ _ K) (λR K=>fD ..) (λv=>⟨v,_,_⟩) K
   ·rfl
  ·rfl
 ·split
  ·split<;>rfl
  ·rfl
 ·exact Z8 en he ..
 ·rfl
theorem Qi(en:Env)(he:Rh en)(σ:St)(o:Oper)(K:Eff->Option R):PE en σ o K=(PE en σ o some).bind K:=by
 unfold PE;split
 ·rfl
 split
 ·rfl
 split
 ·cases WY en o with
  | false=>exact J1 en he σ o K
  | true =>
   simp only[Axc];refine(J1 en he σ o _).trans (Eq.symm ?_);refine(congrArg (λx=>Option.bind x K) (J1 en he σ o _)).trans ?_;rw[Axd];congr 1
   funext e
   cases pW σ.blks.length e<;>rfl
 ·rename_i t _;refine(J1 en he σ o _).trans (Eq.symm ?_);refine(congrArg (λx=>Option.bind x K) (J1 en he σ o _)).trans ?_;rw[Axd];congr 1
  funext e
  cases Adb σ.blks.length t e<;>rfl
theorem NQ(en:Env)(he:Rh en)(σ:St)(o:Oper)(K:Eff->Option R):exec en σ o K=(exec en σ o some).bind K:=by
 unfold exec;split
 ·split
  ·split
   ·rename_i bs _;rw[Qi en he ⟨σ.slots,bs⟩ o,Qi en he ⟨σ.slots,bs⟩ o (λe=>if e.mods.isEmpty=true then none else some e),Axd];congr 1
    funext e
    split<;>rfl
   ·rfl
  ·exact Qi en he σ o K
 ·exact Qi en he σ o K
end
end Go.Va
namespace Go.Va
structure Ik (w:World) (g:G) (σ:St) (a:Act):Prop where
 heap:Heap w g σ.blks
 len:σ.slots.length=a.tmps.size
 slots:∀(i:Nat) (x:AV),σ.slots[i]?=some x->Bg w g σ.blks.length x (a.tmps.getD i undef)
structure Lj (P:Program) (σ:St) (o:Oper) (e:Eff):Prop where
 grow:σ.blks.length<=e.blks.length
 ext:e.mods=[]->∃l,e.blks=σ.blks++l
 wp:∀(a:Act) (w:World) (g:G),Ik w g σ a->∀(next:Act->World->Prop) (Q:Exit->Act->World->Prop),
  (∀v w' g',Heap w' g' e.blks->Bg w' g' e.blks.length e.val v->Step e.mods σ.blks.length w g w' g'->next (a.put o.dst v) w')->o.wp P a w next Q
def Qt(P:Program)(σ:St)(o:Oper)(z:AV):Prop :=
 ∀(a:Act) (w:World) (g:G),Ik w g σ a->∃c,(execOp a.eval o).run P w=.ok (.value c) w/\Bg w g σ.blks.length z c
theorem Si{mods:List Nat}{sl:List AV}{i:Nat}{x:AV}(h:(OR mods sl)[i]?=some x):∃y,sl[i]?=some y/\x=y.drop λk=>mods.contains k:=by
 unfold OR at h;split at h
 ·exact⟨x,h,by rw[show(λk=>([]:List Nat).contains k)=λ_=>false from funext λ_=>rfl,T1]⟩
 ·rw[List.getElem?_map] at h;cases hs:sl[i]? with
  | none=>rw[hs] at h;cases h
  | some y=>rw[hs] at h;injection h with h;exact⟨y,rfl,h.symm⟩
theorem YK(mods:List Nat)(sl:List AV):(OR mods sl).length=sl.length:=by unfold OR;split<;>simp
theorem Um(d:Option Nat)(v:AV)(sl:List AV):(SI d v sl).length=sl.length:=by unfold SI;split<;>simp
theorem Qw(a:Act)(d:Option Tmp)(v:Value):(a.put d v).tmps.size=a.tmps.size:=by cases d<;>simp[Act.put]
theorem Zy {w:World} {g:G} {n:Nat} {sl:List AV} {a:Act} (hlen:sl.length=a.tmps.size) (h:∀(i:Nat) (x:AV),sl[i]?=some x->Bg w g n x (a.tmps.getD i undef)) {d:Option Nat} {x:AV} {v:Value} (hv:Bg w g n x v) :
    ∀(i:Nat) (y:AV),(SI d x sl)[i]?=some y->Bg w g n y ((a.put d v).tmps.getD i undef):=by
 intro i y hy;cases d with
 | none=>exact h i y hy
 | some d =>
  simp only[SI] at hy;rw[List.getElem?_set] at hy;simp only[Act.put];split at hy
  ·rename_i he;subst he;split at hy
   ·rename_i hd;injection hy with hy;subst hy;rw[hlen] at hd;simpa [hd] using hv
   ·cases hy
  ·rename_i hne;have:=h i y hy;simpa [Array.getElem?_setIfInBounds_ne hne] using this
theorem Ik.after {w w':World} {g g':G} {σ:St} {a:Act} {e:Eff} {d:Option Nat} {v:Value} (h:Ik w g σ a) (hg:σ.blks.length<=e.blks.length) (hh:Heap w' g' e.blks) (hv:Bg w' g' e.blks.length e.val v)
    (hs:Step e.mods σ.blks.length w g w' g'):Ik w' g' (σ.after d e) (a.put d v) where
 heap:=hh
 len:=by simp only[St.after,Um,YK,Qw];exact h.len
 slots:=Zy (by rw[YK];exact h.len) (λi x hx=>by
  obtain⟨y,hy,rfl⟩:=Si hx;exact(h.slots i y hy).step hs hg) hv
section
variable {P:Program} {σ:St} {o:Oper} {en:Env}
theorem Lj.He{z:AV}(h:Qt P σ o z):Lj P σ o ⟨z,σ.blks,[]⟩ where
 grow:=Aw2 _
 ext _:=⟨[],(List.append_nil _).symm⟩
 wp a w g hs next Q hn:=by
  obtain⟨c,hc,hz⟩:=h a w g hs;unfold Oper.wp;rw[hc];exact hn c w g hs.heap hz (Step.refl _ _ _ _)
theorem Ra {f:(R:Type)->(AV->Option R)->Option R} (hf:∀(R:Type) (K:AV->Option R),f R K=(f AV some).bind K) {g:AV->Eff} {e:Eff} (h:f Eff (λv=>some (g v))=some e) :
    ∃z,f AV some=some z/\e=g z:=by
 rw[hf Eff] at h;cases hz:f AV some with
 | none=>rw[hz] at h;cases h
 | some z=>rw[hz] at h;injection h with h;exact⟨z,rfl,h.symm⟩
theorem yZ{w:World}{g:G}{n:Nat}(v:Value):Bg w g n (ZZ v) v:=by
 unfold ZZ;split
 ·exact Aak _ _
 ·exact Ue _
 ·exact Aal _
 ·exact Zh _
 ·exact A7 rfl (cs:=[_]) rfl (by simp[A3,AV.isAgg])
 ·exact M9
theorem AB{w:World}{g:G}{a:Act}(h:Ik w g σ a)(x:Operand):Bg w g σ.blks.length (σ.Bw x) (a.eval x):=by
 cases x with
 | tmp t =>
  simp only[St.Bw,Act.eval];cases hx:σ.slots[t]? with
  | none=>exact M9
  | some y=>exact h.slots t y hx
 | const v=>exact yZ v
 | func f=>exact A7 (a:=.fn f .nil) rfl (cs:=[_]) ⟨[],rfl,rfl⟩ (by simp[A3,AV.isAgg,Act.eval])
 | global g=>exact M9
theorem Sq{w:World}{g:G}{a:Act}(h:Ik w g σ a)(x:Option Operand):u7 w g σ.blks.length (x.map σ.Bw) (x.map a.eval):=by
 cases x with
 | none=>trivial
 | some x=>exact AB h x
theorem JI{z:AV}{s:(Operand->Value)->Sem Value}(he:∀ρ,execOp ρ o=(do pure (.value (<-s ρ))))(h:∀(a:Act) (w:World) (g:G),Ik w g σ a->Gives P w g σ.blks.length (s a.eval) z):Qt P σ o z:=by
 intro a w g hs;obtain⟨c,hc,hz⟩:=h a w g hs;exact⟨c,by rw[he];simp[hc],hz⟩
theorem TM{v:Value}{cs:List Value}{b:Bool}(h:A3 b cs v)(h1:∀c∈cs,c.oneCell'=true):v.cells=cs.toArray:=by
 cases b with
 | true=>simp only[A3,Axc] at h;subst h;rfl
 | false =>
  simp only[A3,Axb] at h;subst h;have:=h1 v (by simp);cases v<;>first | rfl | cases this
theorem Tx:∀{a:AV} {f:Nat} {v a':AV},a.N9 f v=some a'->a'.isAgg=true:=by
 intro a f v a' h;cases a with
 | dat ks t x =>
  simp only[AV.N9] at h;cases t with
  | pair b c =>
   cases f with
   | zero=>simp only[iX,AwY] at h;subst h;rfl
   | succ f =>
    simp only[iX] at h;split at h
    ·injection h with h;subst h;rfl
    ·cases h
  | _=>cases f<;>simp[iX] at h
 | pr b c =>
  cases f with
  | zero=>simp only[AV.N9,AwY] at h;subst h;rfl
  | succ f =>
   simp only[AV.N9] at h;split at h
   ·injection h with h;subst h;rfl
   ·cases h
 | _=>cases f<;>simp[AV.N9] at h
theorem pV{c0 c1 c2 vs:List Value}(h:vs.length=c1.length):(vs.toArray.zipIdx.foldl (λcs (x:Value×Nat)=>cs.setIfInBounds (c0.length+x.2) x.1) (c0++c1++c2).toArray)=(c0++vs++c2).toArray:=by
 have e:vs.toArray.zipIdx.foldl (λcs (x:Value×Nat)=>cs.setIfInBounds (c0.length+x.2) x.1) (c0++c1++c2).toArray=(vs.zipIdx 0).foldl (λcs (x:Value×Nat)=>cs.setIfInBounds (c0.length+x.2) x.1) (c0++c1++c2).toArray:=by
  rw[<-Array.foldl_toList,Array.toList_zipIdx]
 rw[e];obtain⟨h1,h2⟩:=Great.foldl_set c0.length vs 0 (c0++c1++c2).toArray;apply Array.ext_getElem?;intro k;rw[h2 k];simp only[Nat.add_zero,List.size_toArray,Aw0,List.getElem?_toArray];by_cases hk:c0.length<=k/\k<c0.length+vs.length/\k<c0.length+c1.length+c2.length
 ·rw[if_pos hk,Aw4,List.getElem?_append_right hk.1,List.getElem?_append_left (by omega)]
 ·rw[if_neg hk];rcases Aw7 k c0.length with h' | h'
  ·rw[Aw4,Aw4,List.getElem?_append_left h',List.getElem?_append_left h']
  ·have:c0.length+vs.length<=k:=by omega
   rw[List.getElem?_append_right (by simp;omega),List.getElem?_append_right (by simp;omega)];simp[h]
theorem Zo {ty:Ty}:∀{fs:List Field} {os:List Nat} {i:Nat},N3 P ty i fs os=true ->
    ∃pl,fs.mapM (λf=>(P.info? f.type).map λi=>(f.offset,i.size))=some pl/\∀j o,os[j]?=some o->∃u,dn ty (i+j)=some u/\pl[j]?=some (o,u.size)
 | [],[],_,_=>⟨[],rfl,λj o h=>by simp at h⟩
 | f::fs,o::os,i,h=>by
  simp only[N3,Aw3,beq_iff_eq] at h;obtain⟨⟨⟨h1,_⟩,h3⟩,h4⟩:=h;obtain⟨pl,hp,hq⟩:=Zo h4;split at h3
  ·rename_i u hu;simp only[Aw3,beq_iff_eq] at h3;cases hi:P.info? f.type with
   | none=>simp[hi] at h3
   | some inf =>
    simp[hi] at h3;refine⟨(f.offset,inf.size)::pl,by simp[List.mapM_cons,hi,hp],λj o' ho=>?_⟩;cases j with
    | zero=>simp at ho;subst ho;exact⟨u,by simpa using hu,by simp[h1,h3.1]⟩
    | succ j =>
     obtain⟨u',h5,h6⟩:=hq j o' (by simpa using ho);exact⟨u',by rw[show i+(j+1)=i+1+j by omega];exact h5,by simpa using h6⟩
  ·cases h3
 | [],_::_,_,h=>by simp[N3] at h
 | _::_,[],_,h=>by simp[N3] at h
theorem ni{v:AV}(h:v.top=true):v.K9=false/\v.Cp=false:=by cases v<;>simp_all [AV.top,AV.K9,AV.Cp]
theorem WA {w:World} {g:G} {n:Nat} {ti:TI} {pl:List (Nat×Nat)} (hpl:∀j o,ti.Rc[j]?=some o->∃u,dn ti.ty j=some u/\pl[j]?=some (o,u.size)) {ρ:Operand->AV} {ε:Operand->Value} (hρ:∀x,Bg w g n (ρ x) (ε x)) :
    ∀{ps:List (Nat×Operand)} {a z:AV} {cs:List Value},Rr ti a (ps.map λp=>(p.1,ρ p.2))=some z->BA w g n false a cs->a.isAgg=true ->
     ∃cs',Instr.fill (pl.toArray[·]?) cs.toArray (ps.map λp=>(p.1,ε p.2))=some cs'.toArray/\BA w g n false z cs'/\z.isAgg=true
 | [],a,z,cs,h,hx,hg=>by
  simp only[List.map_nil,Rr,AwY] at h;subst h;exact⟨cs,rfl,hx,hg⟩
 | (f,x)::ps,a,z,cs,h,hx,hg=>by
  simp only[List.map_cons,Rr] at h;split at h
  ·rename_i old hold;split at h
   ·rename_i hc;obtain⟨hsz,htop,hoff,hty⟩:=hc;split at h
    ·rename_i a' ha';obtain⟨c0,c1,c2,e,ho,hx1,hs⟩:=Ua a f cs old hx hold;obtain⟨hun,Tk⟩:=ni htop;obtain⟨cv,hcv,hv⟩:=Ba Tk hun (hρ x);have hvc:=TM hv hcv.one;obtain⟨u,hu,hp⟩:=hpl f c0.length (by rw[<-hoff];exact ho);rw[hu] at hty;simp only[Option.map_some,AwY] at hty;have hl1:cv.length=c1.length:=by rw[hcv.len,hx1.len,hsz]
     obtain⟨cs',hf,hz,hza⟩:=WA hpl hρ h (hs _ _ _ ha' hcv) (Tx ha');refine⟨cs',?_,hz,hza⟩;simp only[List.map_cons];unfold Instr.fill;have hp':pl.toArray[f]?=some (c0.length,u.size):=by simpa using hp
     simp only[hp'];have hcs:(ε x).cells.size=u.size:=by rw[hvc];simp only[List.size_toArray];rw[hcv.len];omega
     have hfit:¬c0.length+(ε x).cells.size>cs.toArray.size:=by
      rw[hvc,e];simp;omega
     simp only[hcs,ne_eq,not_true_eq_false,decide_false,Bool.false_or];rw[hcs] at hfit;simp only[hfit,decide_false,Bool.false_eq_true,if_false];rw[<-hf];congr 1;rw[hvc,e];exact pV hl1
    ·cases h
   ·cases h
  ·cases h
end
end Go.Va
