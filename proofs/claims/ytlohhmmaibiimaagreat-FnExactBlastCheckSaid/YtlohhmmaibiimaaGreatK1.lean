import Derived.Laws.Small
import Derived.Laws.Cells
import Derived.Laws.BytesArg
import Derived.Great.FillDense
import Derived.Test.YtlohhmmaibiimaaGreatK0
set_option linter.unusedVariables false
set_option linter.unusedSimpArgs false
namespace Go.Va
theorem Md{w w':World}{b o:Nat}(h:w'.heap[b]?=w.heap[b]?):w'.cell? ⟨b,o,none⟩=w.cell? ⟨b,o,none⟩:=by simp[World.cell?,h]
theorem Lg{w:World}{b o:Nat}{cs:Array Value}{e:TypeId}{fr:Nat×Nat}(h:w.heap[b]?=some (.cells cs e fr)):w.cell? ⟨b,o,none⟩=cs[o]?:=by simp[World.cell?,h]
theorem RdR.len{w:World}{A:Nat→Prop}:∀{t:Ty} {x:t.V} {cs:List Value},RdR w A t x cs→cs.length=t.size
 | .int _,_,_,h=>by cases h; rfl
 | .bool,_,_,h=>by cases h; rfl
 | .str,_,_,h=>by cases h; rfl
 | .unit,_,_,h=>by cases h; rfl
 | .pair _ _,_,_,⟨_,_,e,h1,h2⟩=>by subst e; rw[List.length_append,h1.len,h2.len]; rfl
 | .sl _,_,_,⟨_,_,_,e,_⟩=>by subst e; rfl
 | .opq _,_,_,h=>h.elim
theorem OwR.len{w:World}{own:Nat→Tag}{k:Nat}:∀{t:Ty} {p:List Nat} {x:t.V} {cs:List Value},OwR w own k t p x cs→cs.length=t.size
 | .int _,_,_,_,h=>by cases h; rfl
 | .bool,_,_,_,h=>by cases h; rfl
 | .str,_,_,_,h=>by cases h; rfl
 | .unit,_,_,_,h=>by cases h; rfl
 | .pair _ _,_,_,_,⟨_,_,e,h1,h2⟩=>by subst e; rw[List.length_append,h1.len,h2.len]; rfl
 | .sl _,_,_,_,⟨_,_,e,_⟩=>by subst e; rfl
 | .opq _,_,_,_,h=>h.elim
theorem RdR.one{w:World}{A:Nat→Prop}:∀{t:Ty} {x:t.V} {cs:List Value},RdR w A t x cs→∀v∈cs,v.oneCell'=true
 | .int _,_,_,h,v,hv=>by cases h; simp at hv; subst hv; rfl
 | .bool,_,_,h,v,hv=>by cases h; simp at hv; subst hv; rfl
 | .str,_,_,h,v,hv=>by cases h; simp at hv; subst hv; rfl
 | .unit,_,_,h,v,hv=>by cases h; simp at hv
 | .pair _ _,_,_,⟨_,_,e,h1,h2⟩,v,hv=>by
  subst e
  rcases List.mem_append.1 hv with hv | hv
  ·exact h1.one v hv
  ·exact h2.one v hv
 | .sl _,_,_,⟨_,_,_,e,_⟩,v,hv=>by subst e; simp at hv; subst hv; rfl
 | .opq _,_,_,h,_,_=>h.elim
theorem OwR.one{w:World}{own:Nat→Tag}{k:Nat}:∀{t:Ty} {p:List Nat} {x:t.V} {cs:List Value},OwR w own k t p x cs→∀v∈cs,v.oneCell'=true
 | .int _,_,_,_,h,v,hv=>by cases h; simp at hv; subst hv; rfl
 | .bool,_,_,_,h,v,hv=>by cases h; simp at hv; subst hv; rfl
 | .str,_,_,_,h,v,hv=>by cases h; simp at hv; subst hv; rfl
 | .unit,_,_,_,h,v,hv=>by cases h; simp at hv
 | .pair _ _,_,_,_,⟨_,_,e,h1,h2⟩,v,hv=>by
  subst e
  rcases List.mem_append.1 hv with hv | hv
  ·exact h1.one v hv
  ·exact h2.one v hv
 | .sl _,_,_,_,⟨_,_,e,_⟩,v,hv=>by subst e; simp at hv; subst hv; rfl
 | .opq _,_,_,_,h,_,_=>h.elim
theorem ListR.all{α:Type}{R:α→List Value→Prop}{P:Value→Prop}(h:∀x c,R x c→∀v∈c,P v):∀{xs cs},ListR R xs cs→∀v∈cs,P v
 | [],_,hc,v,hv=>by cases hc; simp at hv
 | _::_,_,⟨c,d,e,r,l⟩,v,hv=>by
  subst e
  rcases List.mem_append.1 hv with hv | hv
  ·exact h _ _ r v hv
  ·exact l.all h v hv
theorem ListI.all{α:Type}{I:Nat→α→List Value→Prop}{P:Value→Prop}(h:∀i x c,I i x c→∀v∈c,P v){i xs cs}(l:ListI I i xs cs):∀v∈cs,P v :=
 ListR.all (R:=fun x c=>∃i,I i x c) (fun x c ⟨i,r⟩=>h i x c r) (l.toR fun i _ _ r=>⟨i,r⟩)
theorem RdR.mono{w w':World}{A A':Nat→Prop}(h:∀b,A b→A' b∧w'.heap[b]?=w.heap[b]?):∀{t:Ty} {x:t.V} {cs:List Value},RdR w A t x cs→RdR w' A' t x cs
 | .int _,_,_,r=>r
 | .bool,_,_,r=>r
 | .str,_,_,r=>r
 | .unit,_,_,r=>r
 | .pair _ _,_,_,⟨c,d,e,h1,h2⟩=>⟨c,d,e,h1.mono h,h2.mono h⟩
 | .sl _,_,_,⟨ad,cap,ds,e,hl,l,hm⟩=>⟨ad,cap,ds,e,hl,l.mono fun _ _ r=>r.mono h,hm.imp id fun⟨b,off,ha,hA,hc⟩ =>
     ⟨b,off,ha,(h b hA).1,fun j u hu=>(Md (h b hA).2).trans (hc j u hu)⟩⟩
 | .opq _,_,_,r=>r
theorem OwR.mono {w w':World} {own own':Nat→Tag} {k k':Nat}:∀{t:Ty} {p p':List Nat} {x:t.V} {cs:List Value},
    (∀b q,own b=.lab k (q++p)→own' b=.lab k' (q++p')∧w'.heap[b]?=w.heap[b]?)→OwR w own k t p x cs→OwR w' own' k' t p' x cs
 | .int _,_,_,_,_,_,r=>r
 | .bool,_,_,_,_,_,r=>r
 | .str,_,_,_,_,_,r=>r
 | .unit,_,_,_,_,_,r=>r
 | .pair _ _,p,p',_,_,h,⟨c,d,e,h1,h2⟩=>⟨c,d,e,
     h1.mono (fun b q hb=>by have:=h b (q++[0]) (by simpa using hb); simpa using this),
     h2.mono (fun b q hb=>by have:=h b (q++[1]) (by simpa using hb); simpa using this)⟩
 | .sl _,p,p',_,_,h,⟨ad,cap,e,hm⟩=>⟨ad,cap,e,hm.imp id fun⟨b,el,cur,ds,ha,hb,hh,h1,h2,h3,h4,l⟩ =>
     ⟨b,el,cur,ds,ha,(h b [] hb).1,(h b [] hb).2.trans hh,h1,h2,h3,h4,l.mono fun i x c r=>r.mono (fun b q hb=>by have:=h b (q++[i]) (by simpa using hb); simpa using this)⟩⟩
 | .opq _,_,_,_,_,_,r=>r
theorem MapR.on{w w':World}{own own':Nat→Tag}{k k':Nat}{md md':RM}{kt vt:Ty}{st:Option kt.V}(h:∀(i:Nat) (x:vt.V) (cs:List Value),ElR w own k md vt i x cs→ElR w' own' k' md' vt i x cs):∀{i:Nat} {es:List (kt.V×vt.V)} {ms:List MapEntry},MapR w own k md kt vt st i es ms→MapR w' own' k' md' kt vt st i es ms
 | _,[],_,r=>r
 | i,x::xs,_,⟨m,r,e,hk,hv,hr⟩=>⟨m,r,e,hk,hv.imp id fun⟨cs,ho,ha⟩=>⟨cs,h i x.2 cs ho,ha⟩,hr.on h⟩
theorem OwR.rd{w:World}{own:Nat→Tag}{k:Nat}{A:Nat→Prop}(h:∀b q,own b=.lab k q→A b):∀{t:Ty} {p:List Nat} {x:t.V} {cs:List Value},OwR w own k t p x cs→RdR w A t x cs
 | .int _,_,_,_,r=>r
 | .bool,_,_,_,r=>r
 | .str,_,_,_,r=>r
 | .unit,_,_,_,r=>r
 | .pair _ _,_,_,_,⟨c,d,e,h1,h2⟩=>⟨c,d,e,h1.rd h,h2.rd h⟩
 | .sl t,_,xs,_,⟨ad,cap,e,hm⟩=>by
  rcases hm with ⟨hx,hc⟩| ⟨b,el,cur,ds,ha,hb,hh,h1,h2,h3,h4,l⟩
  ·subst hx
   exact⟨ad,cap,[],e,Nat.zero_le _,rfl,.inl rfl⟩
  ·refine⟨ad,cap,ds,e,h1,l.toR fun i x c r=>r.rd h,.inr ⟨b,0,ha,h b _ hb,fun j u hu=>?_⟩⟩
   rw[Lg hh,Nat.zero_add,←Array.getElem?_toList]
   subst h4
   rw[List.getElem?_take] at hu
   split at hu
   ·exact hu
   ·cases hu
 | .opq _,_,_,_,r=>r
def flatC:(t:Ty)→t.V→List Value
 | .int k,x=>[.int k x]
 | .bool,b=>[.bool b]
 | .str,s=>[.string s]
 | .unit,_=>[]
 | .pair a b,x=>flatC a x.1++flatC b x.2
 | .sl _,_=>[]
 | .opq _,_=>[]
theorem RdR.flat{w:World}{A:Nat→Prop}:∀{t:Ty} {x:t.V} {cs:List Value},t.flat=true→(RdR w A t x cs↔cs=flatC t x)
 | .int _,_,_,_=>Iff.rfl
 | .bool,_,_,_=>Iff.rfl
 | .str,_,_,_=>Iff.rfl
 | .unit,_,_,_=>Iff.rfl
 | .pair a b,x,cs,h=>by
  simp only[Ty.flat,Bool.and_eq_true] at h
  constructor
  ·rintro⟨c,d,e,h1,h2⟩
   rw[e,(RdR.flat h.1).1 h1,(RdR.flat h.2).1 h2]; rfl
  ·intro e
   exact⟨_,_,e,(RdR.flat h.1).2 rfl,(RdR.flat h.2).2 rfl⟩
 | .sl _,_,_,h=>by simp[Ty.flat] at h
 | .opq _,_,_,h=>by simp[Ty.flat] at h
theorem OwR.flat{w:World}{own:Nat→Tag}{k:Nat}:∀{t:Ty} {p:List Nat} {x:t.V} {cs:List Value},t.flat=true→(OwR w own k t p x cs↔cs=flatC t x)
 | .int _,_,_,_,_=>Iff.rfl
 | .bool,_,_,_,_=>Iff.rfl
 | .str,_,_,_,_=>Iff.rfl
 | .unit,_,_,_,_=>Iff.rfl
 | .pair a b,p,x,cs,h=>by
  simp only[Ty.flat,Bool.and_eq_true] at h
  constructor
  ·rintro⟨c,d,e,h1,h2⟩
   rw[e,(OwR.flat h.1).1 h1,(OwR.flat h.2).1 h2]; rfl
  ·intro e
   exact⟨_,_,e,(OwR.flat h.1).2 rfl,(OwR.flat h.2).2 rfl⟩
 | .sl _,_,_,_,h=>by simp[Ty.flat] at h
 | .opq _,_,_,_,h=>by simp[Ty.flat] at h
def zeroC:Ty→List Value
 | .int k=>[.int k 0]
 | .bool=>[.bool false]
 | .str=>[.string ⟨#[]⟩]
 | .unit=>[]
 | .pair a b=>zeroC a++zeroC b
 | .sl _=>[.slice none 0 0]
 | .opq 0=>[.pointer none]
 | .opq 1=>[.map none]
 | .opq _=>[.nilFunc]
theorem LA:∀t:Ty,(zeroC t).length=t.size
 | .int _=>rfl
 | .bool=>rfl
 | .str=>rfl
 | .unit=>rfl
 | .pair a b=>by simp[zeroC,LA a,LA b,Ty.size]
 | .sl _=>rfl
 | .opq 0=>rfl
 | .opq 1=>rfl
 | .opq (_+2)=>rfl
theorem OwR.zero{w:World}{own:Nat→Tag}{k:Nat}:∀{t:Ty} {p:List Nat},t.data=true→OwR w own k t p t.zero (zeroC t)
 | .int _,_,_=>rfl
 | .bool,_,_=>rfl
 | .str,_,_=>rfl
 | .unit,_,_=>rfl
 | .pair a b,p,h=>by
  simp only[Ty.data,Bool.and_eq_true] at h
  exact⟨_,_,rfl,OwR.zero h.1,OwR.zero h.2⟩
 | .sl t,p,_=>⟨none,0,rfl,.inl ⟨rfl,rfl⟩⟩
 | .opq _,_,h=>by simp[Ty.data] at h
theorem RdR.zero{w:World}{A:Nat→Prop}:∀{t:Ty},t.data=true→RdR w A t t.zero (zeroC t)
 | .int _,_=>rfl
 | .bool,_=>rfl
 | .str,_=>rfl
 | .unit,_=>rfl
 | .pair a b,h=>by
  simp only[Ty.data,Bool.and_eq_true] at h
  exact⟨_,_,rfl,RdR.zero h.1,RdR.zero h.2⟩
 | .sl t,_=>⟨none,0,[],rfl,Nat.le_refl _,rfl,.inl rfl⟩
 | .opq _,h=>by simp[Ty.data] at h
theorem Al.mono{own:Nat→Tag}{ks ks':List Nat}(h:∀k∈ks,k∈ks'){b:Nat}(a:Al own ks b):Al own ks' b:=a.imp id fun⟨k,hk,p,hp⟩=>⟨k,h k hk,p,hp⟩
theorem Al.step {mods:List Nat} {n:Nat} {w w':World} {g g':G} (s:Step mods n w g w' g') {ks:List Nat} (hn:∀k∈ks,k<n) (hm:∀k∈ks,k∉mods) {b:Nat} (a:Al g.own ks b) :
    Al g'.own ks b∧w'.heap[b]?=w.heap[b]?:=by
 rcases a with a | ⟨k,hk,p,hp⟩
 ·exact⟨.inl (s.imm b a).1,(s.imm b a).2⟩
 ·have:=s.lab b k p hp (hn k hk) (hm k hk)
  exact⟨.inr ⟨k,hk,p,this.1⟩,this.2⟩
theorem Step.refl(mods:List Nat)(n:Nat)(w:World)(g:G):Step mods n w g w g :=
 ⟨rfl,rfl,rfl,Nat.le_refl _,fun _ _ h=>⟨h,rfl⟩,fun _ h=>⟨h,rfl⟩,fun _ _ _ h _ _=>⟨h,rfl⟩,fun _ _=>rfl⟩
theorem Step.trans{m1 m2:List Nat}{n n':Nat}{w w1 w2:World}{g g1 g2:G}(s:Step m1 n w g w1 g1)(t:Step m2 n' w1 g1 w2 g2)(hn:n≤n'):Step (m1++m2) n w g w2 g2 where
 os:=t.os.trans s.os
 tape:=t.tape.trans s.tape
 output:=t.output.trans s.output
 size:=Nat.le_trans s.size t.size
 no b hb h:=by
  have h1:=s.no b hb h
  have h2:=t.no b (Nat.lt_of_lt_of_le hb s.size) h1.1
  exact⟨h2.1,h2.2.trans h1.2⟩
 imm b h:=by
  have h1:=s.imm b h
  have h2:=t.imm b h1.1
  exact⟨h2.1,h2.2.trans h1.2⟩
 lab b k p h hk hm:=by
  have h1:=s.lab b k p h hk (fun e=>hm (List.mem_append_left _ e))
  have h2:=t.lab b k p h1.1 (Nat.lt_of_lt_of_le hk hn) (fun e=>hm (List.mem_append_right _ e))
  exact⟨h2.1,h2.2.trans h1.2⟩
 at_ k hk:=(t.at_ k (Nat.lt_of_lt_of_le hk hn)).trans (s.at_ k hk)
theorem Step.weaken{m1 m2:List Nat}{n n':Nat}{w w':World}{g g':G}(s:Step m1 n w g w' g')(hm:∀k∈m1,k∈m2)(hn:n'≤n):Step m2 n' w g w' g' :=
 ⟨s.os,s.tape,s.output,s.size,s.no,s.imm,fun b k p h hk hk'=>s.lab b k p h (Nat.lt_of_lt_of_le hk hn) (fun e=>hk' (hm k e)),fun k hk=>s.at_ k (Nat.lt_of_lt_of_le hk hn)⟩
theorem Step.drew(mods:List Nat)(n:Nat)(w:World)(g:G):Step mods n w g w.drew g :=
 ⟨rfl,rfl,rfl,Nat.le_refl _,fun _ _ h=>⟨h,rfl⟩,fun _ h=>⟨h,rfl⟩,fun _ _ _ h _ _=>⟨h,rfl⟩,fun _ _=>rfl⟩
theorem OD(bad:Nat→Bool)(a:AV):(a.drop bad).isUn=true∨(a.drop bad).isAgg=a.isAgg:=by
 cases a with
 | dat ks t x=>simp only[AV.drop]; split; exact .inl rfl; exact .inr rfl
 | rop ks t x=>simp only[AV.drop]; split; exact .inl rfl; exact .inr rfl
 | nst k i p o e=>simp only[AV.drop]; split; exact .inl rfl; exact .inr rfl
 | _=>exact .inr rfl
theorem TZ(bad:Nat→Bool)(a:AV)(h:a.isUn=true):(a.drop bad).isUn=true:=by
 cases a<;>simp_all [AV.isUn,AV.drop]
theorem AVX.step{mods:List Nat}{n n':Nat}{w w':World}{g g':G}(s:Step mods n w g w' g')(hn:n≤n'):∀(a:AV) (m:Bool) {cs:List Value},AVX w g n m a cs→AVX w' g' n' m (a.drop fun k=>mods.contains k) cs
 | .dat ks t x,false,cs,⟨hk,r⟩=>by
  simp only[AV.drop]
  split
  ·exact⟨r.len,r.one⟩
  ·rename_i hb
   have hm:∀k∈ks,k∉mods:=fun k hk hc=>hb (List.any_eq_true.2 ⟨k,hk,by simpa using hc⟩)
   exact⟨fun k h=>Nat.lt_of_lt_of_le (hk k h) hn,r.mono fun b a=>a.step s hk hm⟩
 | .zs,false,_,h=>h
 | .ref k,false,_,⟨hk,e⟩=>⟨Nat.lt_of_lt_of_le hk hn,by rw[s.at_ k hk]; exact e⟩
 | .sld k l_,false,_,⟨hk,e⟩=>⟨Nat.lt_of_lt_of_le hk hn,by rw[s.at_ k hk]; exact e⟩
 | .mp k,false,_,⟨hk,b,hb,e⟩=>⟨Nat.lt_of_lt_of_le hk hn,b,by rw[s.at_ k hk]; exact hb,e⟩
 | .ptr k i p o,false,_,⟨hk,h0,h1,b,hb,e⟩=>⟨Nat.lt_of_lt_of_le hk hn,h0,by rw[s.at_ k hk]; exact h1,b,by rw[s.at_ k hk]; exact hb,by rw[s.at_ k hk]; exact e⟩
 | .rop ks t x,false,cs,⟨hk,b,off,ds,e,ha,r,hc⟩=>by
  simp only[AV.drop]
  split
  ·subst e; exact⟨rfl,by intro v hv; simp at hv; subst hv; rfl⟩
  ·rename_i hb
   have hm:∀k∈ks,k∉mods:=fun k hk hc=>hb (List.any_eq_true.2 ⟨k,hk,by simpa using hc⟩)
   exact⟨fun k h=>Nat.lt_of_lt_of_le (hk k h) hn,b,off,ds,e,(ha.step s hk hm).1,r.mono fun b a=>a.step s hk hm,fun j u hu=>(Md (ha.step s hk hm).2).trans (hc j u hu)⟩
 | .nilp,false,_,h=>h
 | .pr a b,false,_,⟨c,d,e,h1,h2⟩=>⟨c,d,e,AVX.step s hn a false h1,AVX.step s hn b false h2⟩
 | .fn f c,false,_,⟨vs,e,h⟩=>⟨vs,e,AVX.step s hn c true h⟩
 | .un k,false,_,h=>h
 | .cons a b,true,_,⟨v,r,e,h1,h2⟩=>by
  refine⟨v,r,e,?_,AVX.step s hn b true h2⟩
  rcases OD (fun k=>mods.contains k) a with hd | hd
  ·exact .inl hd
  ·exact h1.imp (TZ _ a) fun⟨cs,h,hv⟩=>⟨cs,AVX.step s hn a false h,by rw[hd]; exact hv⟩
 | .nil,true,_,h=>h
 | .cons _ _,false,_,h=>h.elim
 | .nil,false,_,h=>h.elim
 | .nst k i p o e,false,_,⟨hk,h0,h1,b,v,ha,ho,e1,e2,hc⟩=>by
  simp only[AV.drop]
  split
  ·subst e1; exact⟨rfl,by intro u hu; simp at hu; subst hu; exact e2⟩
  ·rename_i hb
   have hl:=s.lab b k [] ho hk (by simpa using hb)
   exact⟨Nat.lt_of_lt_of_le hk hn,h0,by rw[s.at_ k hk]; exact h1,b,v,by rw[s.at_ k hk]; exact ha,hl.1,e1,e2,by rw[s.at_ k hk]; exact(Md hl.2).trans hc⟩
 | .nst _ _ _ _ _,true,_,h=>h.elim
 | .dat _ _ _,true,_,h=>h.elim
 | .zs,true,_,h=>h.elim
 | .ref _,true,_,h=>h.elim
 | .sld _ _,true,_,h=>h.elim
 | .mp _,true,_,h=>h.elim
 | .ptr _ _ _ _,true,_,h=>h.elim
 | .rop _ _ _,true,_,h=>h.elim
 | .nilp,true,_,h=>h.elim
 | .pr _ _,true,_,h=>h.elim
 | .fn _ _,true,_,h=>h.elim
 | .un _,true,_,h=>h.elim
theorem AVR.iff{w:World}{g:G}{n:Nat}{a:AV}{v:Value}(h:a.isTup=false):AVR w g n a v↔(a.isUn=true∨∃cs,AVX w g n false a cs∧asVal a.isAgg cs v):=by
 cases a<;>first | exact Iff.rfl | cases h
theorem Xx(bad:Nat→Bool)(a:AV):(a.drop bad).isTup=a.isTup:=by
 cases a with
 | dat ks t x=>simp only[AV.drop]; split<;>rfl
 | rop ks t x=>simp only[AV.drop]; split<;>rfl
 | nst k i p o e=>simp only[AV.drop]; split<;>rfl
 | _=>rfl
theorem AVR.step{mods:List Nat}{n n':Nat}{w w':World}{g g':G}(s:Step mods n w g w' g')(hn:n≤n'){a:AV}{v:Value}(h:AVR w g n a v):AVR w' g' n' (a.drop fun k=>mods.contains k) v:=by
 cases ht:a.isTup with
 | false =>
  rw[AVR.iff ht] at h
  rw[AVR.iff (by rw[Xx]; exact ht)]
  rcases OD (fun k=>mods.contains k) a with hd | hd
  ·exact .inl hd
  ·exact h.imp (TZ _ a) fun⟨cs,h,hv⟩=>⟨cs,AVX.step s hn a false h,by rw[hd]; exact hv⟩
 | true =>
  cases a with
  | cons a b=>obtain⟨vs,e,h⟩:=h; exact⟨vs,e,AVX.step s hn (.cons a b) true h⟩
  | nil=>exact h
  | _=>cases ht
theorem Nd(a:AV):(a.drop fun _=>false)=a:=by
 induction a with
 | dat ks t x=>simp[AV.drop]
 | rop ks t x=>simp[AV.drop]
 | nst k i p o e=>simp[AV.drop]
 | pr a b ha hb=>simp[AV.drop,ha,hb]
 | fn f c h=>simp[AV.drop,h]
 | cons a b ha hb=>simp[AV.drop,ha,hb]
 | _=>rfl
theorem AVR.step0{n n':Nat}{w w':World}{g g':G}(s:Step [] n w g w' g')(hn:n≤n'){a:AV}{v:Value}(h:AVR w g n a v):AVR w' g' n' a v:=by
 have:=h.step s hn
 rwa [show(fun k=>([]:List Nat).contains k)=fun _=>false from funext fun _=>rfl,Nd] at this
theorem AVX.step0{n n':Nat}{w w':World}{g g':G}(s:Step [] n w g w' g')(hn:n≤n'){a:AV}{m:Bool}{cs:List Value}(h:AVX w g n m a cs):AVX w' g' n' m a cs:=by
 have:=AVX.step s hn a m h
 rwa [show(fun k=>([]:List Nat).contains k)=fun _=>false from funext fun _=>rfl,Nd] at this
theorem AVX.len{w:World}{g:G}{n:Nat}:∀{a:AV} {cs:List Value},AVX w g n false a cs→cs.length=a.size
 | .dat _ _ _,_,h=>h.2.len
 | .zs,_,⟨_,e⟩=>by subst e; rfl
 | .ref _,_,⟨_,e⟩=>by subst e; rfl
 | .sld _ _,_,⟨_,e⟩=>by subst e; rfl
 | .mp _,_,⟨_,_,_,e⟩=>by subst e; rfl
 | .ptr _ _ _ _,_,⟨_,_,_,_,_,e⟩=>by subst e; rfl
 | .rop _ _ _,_,⟨_,_,_,_,e,_⟩=>by subst e; rfl
 | .nilp,_,h=>by cases h; rfl
 | .pr a b,_,⟨_,_,e,h1,h2⟩=>by subst e; rw[List.length_append,AVX.len h1,AVX.len h2]; rfl
 | .fn _ _,_,⟨_,e,_⟩=>by subst e; rfl
 | .un _,_,h=>h.1
 | .cons _ _,_,h=>h.elim
 | .nil,_,h=>h.elim
 | .nst _ _ _ _ _,_,⟨_,_,_,_,_,_,_,e,_⟩=>by subst e; rfl
theorem AVX.one{w:World}{g:G}{n:Nat}:∀{a:AV} {cs:List Value},AVX w g n false a cs→∀v∈cs,v.oneCell'=true
 | .dat _ _ _,_,h=>h.2.one
 | .zs,_,⟨_,e⟩=>by subst e; intro v hv; simp at hv; subst hv; rfl
 | .ref _,_,⟨_,e⟩=>by subst e; intro v hv; simp at hv; subst hv; rfl
 | .sld _ _,_,⟨_,e⟩=>by subst e; intro v hv; simp at hv; subst hv; rfl
 | .mp _,_,⟨_,_,_,e⟩=>by subst e; intro v hv; simp at hv; subst hv; rfl
 | .ptr _ _ _ _,_,⟨_,_,_,_,_,e⟩=>by subst e; intro v hv; simp at hv; subst hv; rfl
 | .rop _ _ _,_,⟨_,_,_,_,e,_⟩=>by subst e; intro v hv; simp at hv; subst hv; rfl
 | .nilp,_,h=>by cases h; intro v hv; simp at hv; subst hv; rfl
 | .pr a b,_,⟨_,_,e,h1,h2⟩=>by
  subst e; intro v hv
  rcases List.mem_append.1 hv with hv | hv
  ·exact AVX.one h1 v hv
  ·exact AVX.one h2 v hv
 | .fn _ _,_,⟨_,e,_⟩=>by subst e; intro v hv; simp at hv; subst hv; rfl
 | .un _,_,h=>h.2
 | .cons _ _,_,h=>h.elim
 | .nil,_,h=>h.elim
 | .nst _ _ _ _ _,_,⟨_,_,_,_,_,_,_,e,h1,_⟩=>by subst e; intro u hu; simp at hu; subst hu; exact h1
theorem AVX.scope{w:World}{g:G}{n:Nat}:∀{a:AV} {m:Bool} {cs:List Value},AVX w g n m a cs→∀k∈a.deps,k<n
 | .dat _ _ _,false,_,h,k,hk=>h.1 k hk
 | .pr a b,false,_,⟨_,_,_,h1,h2⟩,k,hk=>by
  rcases List.mem_append.1 hk with hk | hk
  ·exact AVX.scope h1 k hk
  ·exact AVX.scope h2 k hk
 | .zs,_,_,_,_,hk=>by cases hk
 | .ref _,_,_,_,_,hk=>by cases hk
 | .sld _ _,_,_,_,_,hk=>by cases hk
 | .mp _,_,_,_,_,hk=>by cases hk
 | .ptr _ _ _ _,_,_,_,_,hk=>by cases hk
 | .rop _ _ _,_,_,_,_,hk=>by cases hk
 | .nilp,_,_,_,_,hk=>by cases hk
 | .fn _ _,_,_,_,_,hk=>by cases hk
 | .un _,_,_,_,_,hk=>by cases hk
 | .cons _ _,_,_,_,_,hk=>by cases hk
 | .nil,_,_,_,_,hk=>by cases hk
 | .nst _ _ _ _ _,_,_,_,_,hk=>by cases hk
 | .dat _ _ _,true,_,h,_,_=>h.elim
 | .pr _ _,true,_,h,_,_=>h.elim
end Go.Va
namespace Go.Va
section
variable {w:World} {g:G} {n:Nat}
theorem AeD{A A':Nat→Prop}{w:World}{t:Ty}{x:t.V}{cs:List Value}(h:RdR w A t x cs)(ha:t.flat=false→∀b,A b→A' b):RdR w A' t x cs:=by
 cases hf:t.flat with
 | true=>exact(RdR.flat hf).2 ((RdR.flat hf).1 h)
 | false=>exact h.mono fun b a=>⟨ha hf b a,rfl⟩
theorem MS{ks:List Nat}{t:Ty}(h:∀k∈ks,k<n):∀k∈ksOf ks t,k<n:=by
 unfold ksOf; split
 ·intro k hk; cases hk
 ·exact h
theorem MB{own:Nat→Tag}{ks:List Nat}{w:World}{t:Ty}{x:t.V}{cs:List Value}(h:RdR w (Al own ks) t x cs):RdR w (Al own (ksOf ks t)) t x cs :=
 AeD h fun hf b a=>by unfold ksOf; rw[if_neg (by simp[hf])]; exact a
theorem Ml {ks:List Nat} (hk:∀k∈ks,k<n):∀(f:Nat) (t:Ty) (x:t.V) (cs:List Value) (v:AV),RdR w (Al g.own ks) t x cs→fldD ks t x f=some v →
    ∃c0 c1 c2,cs=c0++c1++c2∧offD t f=some c0.length∧AVX w g n false v c1∧(∃u y,v=.dat (ksOf ks u) u y∧RdR w (Al g.own ks) u y c1) ∧
     ∀v' a' c1',setD ks t x f v'=some a'→AVX w g n false v' c1'→AVX w g n false a' (c0++c1'++c2)
 | 0,.pair a b,x,cs,v,⟨c,d,e,h1,h2⟩,hv=>by
  simp only[fldD,Option.some.injEq] at hv; subst hv
  refine⟨[],c,d,by simpa using e,rfl,⟨MS hk,MB h1⟩,⟨a,x.1,rfl,h1⟩,?_⟩
  intro v' a' c1' hs hv'
  simp only[setD,Option.some.injEq] at hs; subst hs
  exact⟨c1',d,rfl,hv',MS hk,MB h2⟩
 | f+1,.pair a b,x,cs,v,⟨c,d,e,h1,h2⟩,hv=>by
  simp only[fldD] at hv
  obtain⟨c0,c1,c2,e2,ho,hx,hu,hs⟩:=Ml hk f b x.2 d v h2 hv
  refine⟨c++c0,c1,c2,by rw[e,e2]; simp only[List.append_assoc],?_,hx,hu,?_⟩
  ·simp only[offD,ho,List.length_append,h1.len]
  ·intro v' a' c1' hs' hv'
   simp only[setD] at hs'
   split at hs'
   ·rename_i r hr
    simp only[Option.some.injEq] at hs'; subst hs'
    exact⟨c,c0++c1'++c2,by simp only[List.append_assoc],⟨MS hk,MB h1⟩,hs _ _ _ hr hv'⟩
   ·cases hs'
 | f,.int _,_,_,_,_,hv=>by simp[fldD] at hv
 | f,.bool,_,_,_,_,hv=>by simp[fldD] at hv
 | f,.str,_,_,_,_,hv=>by simp[fldD] at hv
 | f,.unit,_,_,_,_,hv=>by simp[fldD] at hv
 | f,.sl _,_,_,_,_,hv=>by simp[fldD] at hv
 | f,.opq _,_,_,_,_,hv=>by simp[fldD] at hv
theorem Nn:∀(a:AV) (f:Nat) (cs:List Value) (v:AV),AVX w g n false a cs→a.fld f=some v →
    ∃c0 c1 c2,cs=c0++c1++c2∧a.off f=some c0.length∧AVX w g n false v c1 ∧
     ∀v' a' c1',a.setFld f v'=some a'→AVX w g n false v' c1'→AVX w g n false a' (c0++c1'++c2)
 | .dat ks t x,f,cs,v,⟨hk,h⟩,hv=>by
  obtain⟨c0,c1,c2,e,ho,hx,_,hs⟩:=Ml (g:=g) hk f t x cs v h (by simpa [AV.fld] using hv)
  exact⟨c0,c1,c2,e,by simpa [AV.off] using ho,hx,fun v' a' c1' h1 h2=>hs v' a' c1' (by simpa [AV.setFld] using h1) h2⟩
 | .pr a b,0,cs,v,⟨c,d,e,h1,h2⟩,hv=>by
  simp only[AV.fld,Option.some.injEq] at hv; subst hv
  refine⟨[],c,d,by simpa using e,rfl,h1,?_⟩
  intro v' a' c1' hs hv'
  simp only[AV.setFld,Option.some.injEq] at hs; subst hs
  exact⟨c1',d,rfl,hv',h2⟩
 | .pr a b,f+1,cs,v,⟨c,d,e,h1,h2⟩,hv=>by
  simp only[AV.fld] at hv
  obtain⟨c0,c1,c2,e2,ho,hx,hs⟩:=Nn b f d v h2 hv
  refine⟨c++c0,c1,c2,by rw[e,e2]; simp only[List.append_assoc],?_,hx,?_⟩
  ·simp only[AV.off,ho,List.length_append,h1.len]
  ·intro v' a' c1' hs' hv'
   simp only[AV.setFld] at hs'
   split at hs'
   ·rename_i r hr
    simp only[Option.some.injEq] at hs'; subst hs'
    exact⟨c,c0++c1'++c2,by simp only[List.append_assoc],h1,hs _ _ _ hr hv'⟩
   ·cases hs'
 | .zs,_,_,_,_,hv=>by simp[AV.fld] at hv
 | .ref _,_,_,_,_,hv=>by simp[AV.fld] at hv
 | .sld _ _,_,_,_,_,hv=>by simp[AV.fld] at hv
 | .mp _,_,_,_,_,hv=>by simp[AV.fld] at hv
 | .ptr _ _ _ _,_,_,_,_,hv=>by simp[AV.fld] at hv
 | .rop _ _ _,_,_,_,_,hv=>by simp[AV.fld] at hv
 | .nilp,_,_,_,_,hv=>by simp[AV.fld] at hv
 | .fn _ _,_,_,_,_,hv=>by simp[AV.fld] at hv
 | .un _,_,_,_,_,hv=>by simp[AV.fld] at hv
 | .cons _ _,_,_,_,h,_=>h.elim
 | .nil,_,_,_,h,_=>h.elim
 | .nst _ _ _ _ _,_,_,_,_,hv=>by simp[AV.fld] at hv
theorem JT:∀(p:List Nat) (a:AV) (cs:List Value) (v:AV),AVX w g n false a cs→a.getP p=some v →
    ∃c0 c1 c2,cs=c0++c1++c2∧a.offP p=some c0.length∧AVX w g n false v c1 ∧
     ∀v' a' c1',a.setP p v'=some a'→AVX w g n false v' c1'→AVX w g n false a' (c0++c1'++c2)
 | [],a,cs,v,h,hv=>by
  simp only[AV.getP,Option.some.injEq] at hv; subst hv
  refine⟨[],cs,[],by simp,rfl,h,?_⟩
  intro v' a' c1' hs hv'
  simp only[AV.setP,Option.some.injEq] at hs; subst hs
  simpa using hv'
 | f::p,a,cs,v,h,hv=>by
  simp only[AV.getP] at hv
  split at hv
  ·rename_i b hb
   obtain⟨c0,c1,c2,e,ho,hx,hs⟩:=Nn a f cs b h hb
   obtain⟨d0,d1,d2,e2,ho2,hx2,hs2⟩:=JT p b c1 v hx hv
   refine⟨c0++d0,d1,d2++c2,by rw[e,e2]; simp only[List.append_assoc],?_,hx2,?_⟩
   ·simp only[AV.offP,hb,ho,ho2,List.length_append]
   ·intro v' a' c1' hs' hv'
    simp only[AV.setP,hb] at hs'
    split at hs'
    ·rename_i r hr
     have:=hs _ _ _ hs' (hs2 _ _ _ hr hv')
     simpa only[List.append_assoc] using this
    ·cases hs'
  ·cases hv
end
theorem AQ{t u:Ty}{x:t.V}{y:u.V}(h:castV t u x=some y):∃e:t=u,e▸x=y:=by
 unfold castV at h
 split at h
 ·rename_i e; injection h with h; exact⟨e,h⟩
 ·cases h
def labF:Nat→List Nat→List Nat
 | 0,L=>0::L
 | n+1,L=>labF n (1::L)
def labP:List Nat→List Nat→List Nat
 | [],L=>L
 | f::p,L=>labP p (labF f L)
structure Rel where
 E:(t:Ty)→List Nat→t.V→List Value→Prop
 pair:∀{a b:Ty} {L:List Nat} {x:(Ty.pair a b).V} {cs:List Value},E (.pair a b) L x cs↔∃c d,cs=c++d∧E a (0::L) x.1 c∧E b (1::L) x.2 d
 len:∀{t:Ty} {L:List Nat} {x:t.V} {cs:List Value},E t L x cs→cs.length=t.size
def rdRel(w:World)(A:Nat→Prop):Rel:=⟨fun t _ x cs=>RdR w A t x cs,Iff.rfl,RdR.len⟩
def owRel(w:World)(own:Nat→Tag)(k:Nat):Rel:=⟨fun t L x cs=>OwR w own k t L x cs,Iff.rfl,OwR.len⟩
section
variable (Q:Rel)
theorem Qp (F:∀u:Ty,u.V→Option u.V) (Pre:Ty→Nat→Prop) (D:List Nat→List Value→Prop) (sz:Nat)
    (hF:∀(u:Ty) (L:List Nat) (x y:u.V) (cs:List Value) (o:Nat),F u x=some y→Pre u o→Q.E u L x cs →
     ∃c0 c1 c2,cs=c0++c1++c2∧c0.length=o∧c1.length=sz∧∀c1',D L c1'→Q.E u L y (c0++c1'++c2)) :
    ∀(f:Nat) (t:Ty) (L:List Nat) (x x':t.V) (cs:List Value) (u:Ty) (o o':Nat),setF t x f F=some x'→tyF t f=some u→offD t f=some o→Pre u o'→Q.E t L x cs →
     ∃c0 c1 c2,cs=c0++c1++c2∧c0.length=o+o'∧c1.length=sz∧∀c1',D (labF f L) c1'→Q.E t L x' (c0++c1'++c2)
 | 0,.pair a b,L,x,x',cs,u,o,o',hs,hu,ho,hc,h=>by
  obtain⟨c,d,e,h1,h2⟩:=Q.pair.1 h
  simp only[tyF,Option.some.injEq] at hu; subst hu
  simp only[offD,Option.some.injEq] at ho; subst ho
  simp only[setF] at hs
  split at hs
  ·rename_i y hy
   injection hs with hs; subst hs
   obtain⟨c0,c1,c2,e2,hl,hz,hr⟩:=hF a _ x.1 y c o' hy hc h1
   refine⟨c0,c1,c2++d,by rw[e,e2]; simp only[List.append_assoc],by omega,hz,fun c1' h=>Q.pair.2 ⟨c0++c1'++c2,d,by simp only[List.append_assoc],hr c1' h,h2⟩⟩
  ·cases hs
 | f+1,.pair a b,L,x,x',cs,u,o,o',hs,hu,ho,hc,h=>by
  obtain⟨c,d,e,h1,h2⟩:=Q.pair.1 h
  simp only[tyF] at hu
  simp only[offD] at ho
  split at ho
  ·rename_i o2 ho2
   injection ho with ho; subst ho
   simp only[setF] at hs
   split at hs
   ·rename_i y hy
    injection hs with hs; subst hs
    obtain⟨c0,c1,c2,e2,hl,hz,hr⟩:=Qp F Pre D sz hF f b (1::L) x.2 y d u o2 o' hy hu ho2 hc h2
    refine⟨c++c0,c1,c2,by rw[e,e2]; simp only[List.append_assoc],by rw[List.length_append,Q.len h1]; omega,hz,fun c1' h=>Q.pair.2 ⟨c,c0++c1'++c2,by simp only[List.append_assoc],h1,hr c1' h⟩⟩
   ·cases hs
  ·cases ho
 | f,.int _,_,_,_,_,_,_,_,hs,_,_,_,_=>by simp[setF] at hs
 | f,.bool,_,_,_,_,_,_,_,hs,_,_,_,_=>by simp[setF] at hs
 | f,.str,_,_,_,_,_,_,_,hs,_,_,_,_=>by simp[setF] at hs
 | f,.unit,_,_,_,_,_,_,_,hs,_,_,_,_=>by simp[setF] at hs
 | f,.sl _,_,_,_,_,_,_,_,hs,_,_,_,_=>by simp[setF] at hs
 | f,.opq _,_,_,_,_,_,_,_,hs,_,_,_,_=>by simp[setF] at hs
theorem Mx (u:Ty) (y:u.V):∀(p:List Nat) (t:Ty) (L:List Nat) (x x':t.V) (cs:List Value) (o:Nat),setV u y p t x=some x'→offTP t p=some o→Q.E t L x cs →
    ∃c0 c1 c2,cs=c0++c1++c2∧c0.length=o∧c1.length=u.size∧∀c1',Q.E u (labP p L) y c1'→Q.E t L x' (c0++c1'++c2)
 | [],t,L,x,x',cs,o,hs,ho,h=>by
  simp only[offTP,Option.some.injEq] at ho; subst ho
  obtain⟨e,he⟩:=AQ hs
  subst e
  simp only at he; subst he
  exact⟨[],cs,[],by simp,rfl,Q.len h,fun c1' h'=>by simpa [labP] using h'⟩
 | f::p,t,L,x,x',cs,o,hs,ho,h=>by
  simp only[offTP] at ho
  split at ho
  ·rename_i t1 o1 h1 h2
   split at ho
   ·rename_i o2 h3
    injection ho with ho; subst ho
    exact Qp Q (fun t' x'=>setV u y p t' x') (fun v o=>offTP v p=some o) (fun L c1'=>Q.E u (labP p L) y c1') u.size
     (fun v L x1 y1 cs1 o' hs1 hc1 hr1=>Mx u y p v L x1 y1 cs1 o' hs1 hc1 hr1) f t L x x' cs t1 o1 o2 hs h1 h2 h3 h
   ·cases ho
  ·cases ho
end
theorem Al.mem{own:Nat→Tag}{ks:List Nat}{k b:Nat}{p:List Nat}(hk:k∈ks)(h:own b=.lab k p):Al own ks b:=.inr ⟨k,hk,p,h⟩
theorem J1 {w:World} {g:G} {bs:List Blk} (H:Heap w g bs):∀(t:Ty) (a:AV) (x:t.V) (cs:List Value),rd bs t a=some x→AVX w g bs.length false a cs →
    RdR w (Al g.own (a.lend bs)) t x cs∧∀k∈a.lend bs,k<bs.length:=by
 have plain:∀(t:Ty) (ks:List Nat) (u:Ty) (y:u.V) (x:t.V) (cs:List Value),castV u t y=some x→AVX w g bs.length false (.dat ks u y) cs→RdR w (Al g.own ks) t x cs∧∀k∈ks,k<bs.length:=by
  intro t ks u y x cs h hx
  obtain⟨e,he⟩:=AQ h
  subst e; simp only at he; subst he
  exact⟨hx.2,hx.1⟩
 intro t
 induction t with
 | pair a b iha ihb =>
  intro av x cs h hx
  simp only[rd] at h
  split at h
  ·exact plain _ _ _ _ _ _ h hx
  ·rename_i u v
   split at h
   ·rename_i y z hy hz
    injection h with h; subst h
    obtain⟨c,d,e,h1,h2⟩:=hx
    have r1:=iha u y c hy h1
    have r2:=ihb v z d hz h2
    refine⟨⟨c,d,e,r1.1.mono fun q hq=>⟨hq.mono fun k hk=>List.mem_append_left _ hk,rfl⟩,r2.1.mono fun q hq=>⟨hq.mono fun k hk=>List.mem_append_right _ hk,rfl⟩⟩,?_⟩
    intro k hk
    rcases List.mem_append.1 hk with hk | hk
    ·exact r1.2 k hk
    ·exact r2.2 k hk
   ·cases h
  ·cases h
 | sl t _ =>
  intro av x cs h hx
  simp only[rd] at h
  split at h
  ·exact plain _ _ _ _ _ _ h hx
  ·injection h with h; subst h
   obtain⟨ad,e⟩:=hx
   exact⟨⟨ad,0,[],e,Nat.le_refl _,rfl,.inl rfl⟩,fun k hk=>by cases hk⟩
  ·rename_i k
   split at h
   ·rename_i e m u ys hb
    obtain⟨e',he⟩:=AQ h
    injection e' with e'
    subst e'; simp only at he; subst he
    obtain⟨hk,hc⟩:=hx
    obtain⟨hm,hlen,hes,hpos,hr⟩:=H.blk k _ hb
    have hlend:(AV.ref k).lend bs=k::m.ids:=by simp[AV.lend,rowM,hb]
    rw[hlend]
    refine⟨?_,fun j hj=>?_⟩
    ·rcases hr with ⟨hy,hcap⟩| ⟨b,cur,ds,ha,hown,⟨el,_,hh⟩,h1,h2,h3,h4,hcon⟩
     ·subst hy
      rw[hlen] at hc
      exact⟨(g.at_ k).a,(g.at_ k).cap,[],hc,by simp,rfl,.inl rfl⟩
     ·rw[hlen] at hc
      refine⟨(g.at_ k).a,(g.at_ k).cap,ds,hc,h1,?_,.inr ⟨b,0,ha,.mem (List.mem_cons_self) hown,fun j q hq=>?_⟩⟩
      ·cases m with
       | deep=>exact hcon.toR fun i y c r=>r.rd fun b q hb=>.mem (List.mem_cons_self) hb
       | sh ks=>exact hcon.mono fun y c r=>r.mono fun b a=>⟨a.mono fun j hj=>List.mem_cons_of_mem _ hj,rfl⟩
      ·rw[Lg hh,Nat.zero_add,←Array.getElem?_toList]
       subst h4
       rw[List.getElem?_take] at hq
       split at hq
       ·exact hq
       ·cases hq
    ·rcases List.mem_cons.1 hj with rfl | hj
     ·exact hk
     ·exact hm j hj
   ·cases h
  ·cases h
 | _ =>
  intro av x cs h hx
  simp only[rd] at h
  split at h
  ·exact plain _ _ _ _ _ _ h hx
  ·cases h
end Go.Va
namespace Go.Va
theorem BlkR.step {mods:List Nat} {n n':Nat} {w w':World} {g g':G} (s:Step mods n w g w' g') (hn:n≤n') {k:Nat} (hk:k<n) (hm:k∉mods) {b:Blk} (h:BlkR w g n k b) :
    BlkR w' g' n' k (b.drop fun j=>mods.contains j):=by
 cases b with
 | dead=>trivial
 | map m kt vt es st =>
  obtain⟨hmi,b,arr,clock,ha,ho,hh,hnd,hmr⟩:=h
  simp only[Blk.drop]
  split
  ·trivial
  ·rename_i hb
   have hd:∀j∈m.ids,j∉mods:=fun j hj hc=>hb (List.any_eq_true.2 ⟨j,hj,by simpa using hc⟩)
   have hl:=s.lab b k [] ho hk hm
   refine⟨fun j hj=>Nat.lt_of_lt_of_le (hmi j hj) hn,b,arr,clock,by rw[s.at_ k hk]; exact ha,hl.1,hl.2.trans hh,hnd,hmr.on fun i x cs r=>?_⟩
   cases m with
   | deep=>exact OwR.mono (fun b q hb=>s.lab b k _ hb hk hm) r
   | sh ks=>exact RdR.mono (fun b a=>a.step s hmi hd) r
 | hole e t xs i p =>
  obtain⟨h1,h2,h3,h4,h5,u,o,x0,b,cur,ds,q1,q2,q3,ha,ho,⟨el,hel,hh⟩,c1,c2,c3,c4,hc⟩:=h
  have hl:=s.lab b k [] ho hk hm
  refine⟨by rw[s.at_ k hk]; exact h1,by rw[s.at_ k hk]; exact h2,h3,h4,h5,u,o,x0,b,cur,ds,q1,q2,q3,?_⟩
  rw[s.at_ k hk]
  exact⟨ha,hl.1,⟨el,hel,hl.2.trans hh⟩,c1,c2,c3,c4,hc.mono fun i x c r=>r.mono fun b q hb=>s.lab b k _ hb hk hm⟩
 | box a =>
  obtain⟨h1,b,cs,e,ha,ho,hh,hx⟩:=h
  have hl:=s.lab b k [] ho hk hm
  refine⟨by rw[s.at_ k hk]; exact h1,b,cs,e,by rw[s.at_ k hk]; exact ha,hl.1,hl.2.trans hh,AVX.step s hn a false hx⟩
 | row e m t xs =>
  obtain⟨hmi,hlen,hes,hpos,hr⟩:=h
  simp only[Blk.drop]
  split
  ·trivial
  ·rename_i hb
   have hd:∀j∈m.ids,j∉mods:=fun j hj hc=>hb (List.any_eq_true.2 ⟨j,hj,by simpa using hc⟩)
   refine⟨fun j hj=>Nat.lt_of_lt_of_le (hmi j hj) hn,by rw[s.at_ k hk]; exact hlen,by rw[s.at_ k hk]; exact hes,hpos,?_⟩
   rw[s.at_ k hk]
   refine hr.imp id fun⟨b,cur,ds,ha,ho,⟨el,hel,hh⟩,h1,h2,h3,h4,hc⟩=>?_
   have hl:=s.lab b k [] ho hk hm
   refine⟨b,cur,ds,ha,hl.1,⟨el,hel,hl.2.trans hh⟩,h1,h2,h3,h4,?_⟩
   cases m with
   | deep=>exact hc.mono fun i x c r=>r.mono fun b q hb=>s.lab b k _ hb hk hm
   | sh ks=>exact hc.mono fun x c r=>r.mono fun b a=>a.step s hmi hd
theorem M1(b:Blk):(b.drop fun _=>false)=b:=by
 cases b with
 | box a=>simp[Blk.drop,Nd]
 | row e m t xs=>simp[Blk.drop]
 | map m kt vt es st=>simp[Blk.drop]
 | hole e t xs i p=>rfl
 | dead=>rfl
theorem BlkR.step0{n n':Nat}{w w':World}{g g':G}(s:Step [] n w g w' g')(hn:n≤n'){k:Nat}(hk:k<n){b:Blk}(h:BlkR w g n k b):BlkR w' g' n' k b:=by
 have:=h.step s hn hk (by simp)
 rwa [show(fun k=>([]:List Nat).contains k)=fun _=>false from funext fun _=>rfl,M1] at this
theorem At{α:Type}{l:List α}{k:Nat}{x:α}(h:l[k]?=some x):k<l.length:=by
 rcases Nat.lt_or_ge k l.length with h' | h'
 ·exact h'
 ·rw[List.getElem?_eq_none h'] at h; cases h
theorem Heap.step0{w w':World}{g g':G}{bs:List Blk}(H:Heap w g bs)(s:Step [] bs.length w g w' g')(hf:∀b,w'.heap.size≤b→g'.own b=.no):Heap w' g' bs :=
 ⟨hf,fun k x hx=>(H.blk k x hx).step0 s (Nat.le_refl _) (At hx)⟩
theorem Heap.drew{w:World}{g:G}{bs:List Blk}(H:Heap w g bs):Heap w.drew g bs:=H.step0 (Step.drew _ _ _ _) H.fresh
theorem Heap.push {w w':World} {g g':G} {bs:List Blk} (H:Heap w g bs) (s:Step [] bs.length w g w' g') (hf:∀b,w'.heap.size≤b→g'.own b=.no) {b:Blk} (hb:BlkR w' g' (bs.length+1) bs.length b) :
    Heap w' g' (bs++[b]) :=
 ⟨hf,fun k x hx=>by
  rw[List.length_append,List.length_singleton]
  rw[List.getElem?_append] at hx
  split at hx
  ·exact(H.blk k x hx).step0 s (Nat.le_succ _) (At hx)
  ·rename_i hk
   have:k-bs.length=0:=by
    rcases Nat.eq_zero_or_pos (k-bs.length) with h | h
    ·exact h
    ·rw[List.getElem?_eq_none (by simp; omega)] at hx; cases hx
   rw[this] at hx
   obtain rfl:k=bs.length:=by omega
   simp only[List.getElem?_cons_zero,Option.some.injEq] at hx
   subst hx; exact hb⟩
def zeroV:Value→Value→Bool
 | .int k n,.int k' m=>k==k'&&n==m
 | .bool a,.bool b=>a==b
 | .string s,.string t=>s.data.toList==t.data.toList
 | .slice none 0 0,.slice none 0 0=>true
 | .pointer none,.pointer none=>true
 | .map none,.map none=>true
 | .nilFunc,.nilFunc=>true
 | _,_=>false
theorem XO{a b:Value}(h:zeroV a b=true):a=b:=by
 unfold zeroV at h
 split at h
 ·simp at h; rw[h.1,h.2]
 ·simp at h; rw[h]
 ·rename_i s t
  simp at h
  have:s.data=t.data:=by simpa using h
  cases s; cases t; simp at this; rw[this]
 ·rfl
 ·rfl
 ·rfl
 ·rfl
 ·cases h
def zeroL:List Value→List Value→Bool
 | [],[]=>true
 | a::r,b::s=>zeroV a b&&zeroL r s
 | _,_=>false
theorem Sn:∀{a b:List Value},zeroL a b=true→a=b
 | [],[],_=>rfl
 | a::r,b::s,h=>by
  simp only[zeroL,Bool.and_eq_true] at h
  rw[XO h.1,Sn h.2]
 | [],_::_,h=>by cases h
 | _::_,[],h=>by cases h
def fldsOk(P:Program)(ty:Ty):Nat→List Field→List Nat→Bool
 | _,[],[]=>true
 | i,f::fs,o::os=>f.offset==o&&offD ty i==some o&&(match tyF ty i with | some u=>(P.info? f.type).map (·.size)==some u.size&&u.size !=0 | none=>false)&&fldsOk P ty (i+1) fs os
 | _,_,_=>false
def kindOk(P:Program)(ti:TI):TypeDesc→Bool
 | .int k=>ti.ty==.int k
 | .bool=>ti.ty==.bool
 | .string=>ti.ty==.str
 | .slice e=>ti.elem==e&&(match ti.ty with | .sl _=>true | _=>false)
 | .struct fs=>ti.ty.isAgg&&fldsOk P ti.ty 0 fs.toList ti.offs
 | .array _ _=>ti.ty.isAgg
 | .pointer _=>(match ti.ty with | .opq _=>true | _=>false)
 | .map _ _=>(match ti.ty with | .opq _=>true | _=>false)
 | .func _ _ _=>(match ti.ty with | .opq _=>true | _=>false)
 | _=>false
def eqFs(P:Program):Ty→Nat→List Field→Bool
 | .unit,_,[]=>true
 | .pair a b,o,f::fs=>f.name !="_"&&f.offset==o&&(match a,P.underlying f.type with | .int k,some (.int k')=>k==k' | .bool,some .bool=>true | .str,some .string=>true | _,_=>false)&&eqFs P b (o+1) fs
 | _,_,_=>false
def eqsOk(P:Program)(t:Nat)(ty:Ty):Bool:=match P.underlying t with
 | some (.struct fs)=>!P.stoodInHeld t&&!P.eqGuardType P.depth t&&eqFs P ty 0 fs.toList
 | _=>false
def tiOk(P:Program)(t:Nat)(ti:TI):Bool :=
 (match P.info? t with
  | some i=>i.size==ti.ty.size&&i.bytes==ti.bytes&&(match i.zero with | some z=>zeroL z.cells.toList (zeroC ti.ty)&&(match z with | .agg _=>ti.ty.isAgg | _=>!ti.ty.isAgg)| none=>false)
  | none=>false) &&
 (match P.underlying t with | some d=>kindOk P ti d&&(match d with | .struct _=>true | _=>ti.offs.isEmpty)&&(match d with | .array n e=>ti.arr==n&&ti.elem==e | _=>ti.arr==0)&&(match d with | .map k e=>ti.mkey==k&&ti.elem==e | _=>ti.mkey==0)&&(!ti.eqs||eqsOk P t ti.ty)| none=>false)
def tabOk(P:Program):Tab→Bool
 | []=>true
 | (t,ti)::r=>tiOk P t ti&&tabOk P r
theorem VH{P:Program}:∀{tab:Tab} {t:Nat} {ti:TI},tabOk P tab=true→tab.get t=some ti→tiOk P t ti=true
 | [],_,_,_,h=>by cases h
 | (k,i)::r,t,ti,ho,h=>by
  simp only[tabOk,Bool.and_eq_true] at ho
  simp only[Tab.get] at h
  split at h
  ·rename_i hk
   injection h with h; subst h
   rw[beq_iff_eq] at hk; subst hk; exact ho.1
  ·exact VH ho.2 h
structure TOk (P:Program) (t:Nat) (ti:TI):Prop where
 info:∃i z,P.info? t=some i∧i.size=ti.ty.size∧i.bytes=ti.bytes∧i.zero=some z∧z.cells.toList=zeroC ti.ty∧((∃c,z=.agg c)↔ti.ty.isAgg=true)
 under:∃d,P.underlying t=some d∧kindOk P ti d=true
 offs:(∃fs,P.underlying t=some (.struct fs))∨ti.offs=[]
 arr:ti.arr≠0→P.underlying t=some (.array ti.arr ti.elem)
 eqs:ti.eqs=true→eqsOk P t ti.ty=true
 mp:ti.mkey≠0→P.underlying t=some (.map ti.mkey ti.elem)
theorem TOk.of{P:Program}{tab:Tab}{t:Nat}{ti:TI}(ho:tabOk P tab=true)(h:tab.get t=some ti):TOk P t ti:=by
 have h1:=VH ho h
 unfold tiOk at h1
 rw[Bool.and_eq_true] at h1
 obtain⟨h1,h2⟩:=h1
 constructor
 ·split at h1
  ·rename_i i hi
   simp only[Bool.and_eq_true,beq_iff_eq] at h1
   obtain⟨⟨h3,h4⟩,h5⟩:=h1
   split at h5
   ·rename_i z hz
    rw[Bool.and_eq_true] at h5
    refine⟨i,z,hi,h3,h4,hz,Sn h5.1,?_⟩
    have h6:=h5.2
    split at h6
    ·rename_i c; simp[h6]
    ·rename_i hz'
     simp at h6
     exact⟨fun⟨c,hc⟩=>(hz' c hc).elim,fun h=>by simp[h6] at h⟩
   ·cases h5
  ·cases h1
 ·split at h2
  ·rename_i d hd
   simp only[Bool.and_eq_true] at h2
   exact⟨d,hd,h2.1.1.1.1⟩
  ·cases h2
 ·split at h2
  ·rename_i d hd
   simp only[Bool.and_eq_true] at h2
   have h3:=h2.1.1.1.2
   split at h3
   ·rename_i fs; exact .inl ⟨fs,hd⟩
   ·exact .inr (by simpa using h3)
  ·cases h2
 ·split at h2
  ·rename_i d hd
   simp only[Bool.and_eq_true] at h2
   have h3:=h2.1.1.2
   split at h3
   ·rename_i n e
    simp only[Bool.and_eq_true,beq_iff_eq] at h3
    intro _
    rw[hd,h3.1,h3.2]
   ·intro h; exact(h (by simpa using h3)).elim
  ·cases h2
 ·split at h2
  ·rename_i d hd
   simp only[Bool.and_eq_true] at h2
   intro he
   have h3:=h2.2
   rw[he] at h3
   simpa using h3
  ·cases h2
 ·split at h2
  ·rename_i d hd
   simp only[Bool.and_eq_true] at h2
   have h3:=h2.1.2
   split at h3
   ·rename_i n e
    simp only[Bool.and_eq_true,beq_iff_eq] at h3
    intro _
    rw[hd,h3.1,h3.2]
   ·intro h; exact(h (by simpa using h3)).elim
  ·cases h2
end Go.Va
namespace Go.Va
section
variable {w:World} {g:G} {n:Nat} {v:Value}
theorem A0{a:AV}(ht:a.isTup=false)(hu:a.isUn=false)(h:AVR w g n a v):∃cs,AVX w g n false a cs∧asVal a.isAgg cs v:=by
 rw[AVR.iff ht] at h
 rcases h with h | h
 ·rw[hu] at h; cases h
 ·exact h
theorem Bg{a:AV}(ht:a.isTup=false){cs:List Value}(h:AVX w g n false a cs)(hv:asVal a.isAgg cs v):AVR w g n a v:=(AVR.iff ht).2 (.inr ⟨cs,h,hv⟩)
theorem D4{ks:List Nat}{k:IntKind}{x:Int}(h:AVR w g n (.dat ks (.int k) x) v):v=.int k x:=by
 obtain⟨cs,h,hv⟩:=A0 rfl rfl h
 have e:cs=[.int k x]:=h.2
 subst e
 simpa [asVal,AV.isAgg,Ty.isAgg] using hv.symm
theorem Ks{ks:List Nat}{x:Bool}(h:AVR w g n (.dat ks .bool x) v):v=.bool x:=by
 obtain⟨cs,h,hv⟩:=A0 rfl rfl h
 have e:cs=[.bool x]:=h.2
 subst e
 simpa [asVal,AV.isAgg,Ty.isAgg] using hv.symm
theorem L3{ks:List Nat}{x:ByteArray}(h:AVR w g n (.dat ks .str x) v):v=.string x:=by
 obtain⟨cs,h,hv⟩:=A0 rfl rfl h
 have e:cs=[.string x]:=h.2
 subst e
 simpa [asVal,AV.isAgg,Ty.isAgg] using hv.symm
theorem NQ {ks:List Nat} {t:Ty} {xs:List t.V} (h:AVR w g n (.dat ks (.sl t) xs) v):(∀k∈ks,k<n)∧∃ad cap ds,v=.slice ad xs.length cap∧xs.length≤cap∧ListR (RdR w (Al g.own ks) t) xs ds ∧
    (xs=[]∨∃b off,ad=some ⟨b,off,none⟩∧Al g.own ks b∧∀j u,ds[j]?=some u→w.cell? ⟨b,off+j,none⟩=some u):=by
 obtain⟨cs,⟨hk,ad,cap,ds,e,h1,h2,h3⟩,hv⟩:=A0 rfl rfl h
 subst e
 exact⟨hk,ad,cap,ds,by simpa [asVal,AV.isAgg,Ty.isAgg] using hv.symm,h1,h2,h3⟩
theorem Ou(h:AVR w g n .zs v):∃ad,v=.slice ad 0 0:=by
 obtain⟨cs,⟨ad,e⟩,hv⟩:=A0 rfl rfl h
 subst e
 exact⟨ad,by simpa [asVal,AV.isAgg] using hv.symm⟩
theorem KF{k:Nat}(h:AVR w g n (.ref k) v):k<n∧v=.slice (g.at_ k).a (g.at_ k).len (g.at_ k).cap:=by
 obtain⟨cs,⟨hk,e⟩,hv⟩:=A0 rfl rfl h
 subst e
 exact⟨hk,by simpa [asVal,AV.isAgg] using hv.symm⟩
theorem Im{k:Nat}{i:Int}{p:List Nat}{o:Nat}(h:AVR w g n (.ptr k i p o) v):k<n∧0≤i∧i.toNat<(g.at_ k).len∧∃b,(g.at_ k).a=some ⟨b,0,none⟩∧v=.pointer (some ⟨b,i.toNat*(g.at_ k).esz+o,none⟩):=by
 obtain⟨cs,⟨hk,h0,h1,b,hb,e⟩,hv⟩:=A0 rfl rfl h
 subst e
 exact⟨hk,h0,h1,b,hb,by simpa [asVal,AV.isAgg] using hv.symm⟩
theorem MM{ks:List Nat}{t:Ty}{x:t.V}(h:AVR w g n (.rop ks t x) v):(∀k∈ks,k<n)∧∃b off ds,v=.pointer (some ⟨b,off,none⟩)∧Al g.own ks b∧RdR w (Al g.own ks) t x ds∧∀j u,ds[j]?=some u→w.cell? ⟨b,off+j,none⟩=some u:=by
 obtain⟨cs,⟨hk,b,off,ds,e,h1,h2,h3⟩,hv⟩:=A0 rfl rfl h
 subst e
 exact⟨hk,b,off,ds,by simpa [asVal,AV.isAgg] using hv.symm,h1,h2,h3⟩
theorem Zl(k:IntKind)(x:Int):AVR w g n (.int k x) (.int k x):=Bg rfl (cs:=[.int k x]) ⟨fun _ h=>by(cases h),rfl⟩ (by simp[asVal,AV.isAgg,Ty.isAgg])
theorem NH(x:Bool):AVR w g n (.bool x) (.bool x):=Bg rfl (cs:=[.bool x]) ⟨fun _ h=>by(cases h),rfl⟩ (by simp[asVal,AV.isAgg,Ty.isAgg])
theorem Y5(x:ByteArray):AVR w g n (.str x) (.string x):=Bg rfl (cs:=[.string x]) ⟨fun _ h=>by(cases h),rfl⟩ (by simp[asVal,AV.isAgg,Ty.isAgg])
theorem Tb(ad:Option Addr):AVR w g n .zs (.slice ad 0 0):=Bg rfl (cs:=[.slice ad 0 0]) ⟨ad,rfl⟩ (by simp[asVal,AV.isAgg])
theorem Lt{k:Nat}:AVR w g n (.un k) v:=(AVR.iff rfl).2 (.inl rfl)
theorem QE {ks:List Nat} {t:Ty} {x:t.V} {b off:Nat} {ds:List Value} (hk:∀k∈ks,k<n) (h1:Al g.own ks b) (h2:RdR w (Al g.own ks) t x ds) (h3:∀j u,ds[j]?=some u→w.cell? ⟨b,off+j,none⟩=some u) :
    AVR w g n (.rop ks t x) (.pointer (some ⟨b,off,none⟩)):=Bg rfl (cs:=[.pointer (some ⟨b,off,none⟩)]) ⟨hk,b,off,ds,rfl,h1,h2,h3⟩ (by simp[asVal,AV.isAgg])
theorem P1 {k:Nat} {i:Int} {p:List Nat} {o b:Nat} (hk:k<n) (h0:0≤i) (h1:i.toNat<(g.at_ k).len) (hb:(g.at_ k).a=some ⟨b,0,none⟩) :
    AVR w g n (.ptr k i p o) (.pointer (some ⟨b,i.toNat*(g.at_ k).esz+o,none⟩)):=Bg rfl (cs:=[_]) ⟨hk,h0,h1,b,hb,rfl⟩ (by simp[asVal,AV.isAgg])
end
section
variable {P:Program} {w:World} {g:G} {n:Nat} {R:Type}
def Gives(P:Program)(w:World)(g:G)(n:Nat)(s:Sem Value)(z:AV):Prop:=∃c,s.run P w=.ok c w∧AVR w g n z c
theorem A5{s:Sem Value}{k:IntKind}{x:Int}(h:s.run P w=.ok (.int k x) w):Gives P w g n s (.int k x):=⟨_,h,Zl k x⟩
theorem BJ{s:Sem Value}{x:Bool}(h:s.run P w=.ok (.bool x) w):Gives P w g n s (.bool x):=⟨_,h,NH x⟩
theorem Ms{s:Sem Value}{x:ByteArray}(h:s.run P w=.ok (.string x) w):Gives P w g n s (.str x):=⟨_,h,Y5 x⟩
theorem Aav {op:BinOp} {x y:AV} {u v:Value} {K:AV→Option R} {r:R} {tb:Bool} (t:TypeId) (ox oy:Operand) (htb:tb=true→P.underlying t=some .bool) (h:binA op tb x y K=some r) (hx:AVR w g n x u) (hy:AVR w g n y v) :
    ∃z,K z=some r∧Gives P w g n (do eqGuard op t ox oy u v; binOp op t u v) z:=by
 unfold binA at h
 split at h
 ·rename_i ks k a ks' k' b
  obtain rfl:=D4 hx
  obtain rfl:=D4 hy
  split at h
  ·split at h
   ·cases h
   ·rename_i hb
    exact⟨_,h,A5 (by simp[eqGuard,binOp,Op.shift,hb,shlI])⟩
  ·split at h
   ·cases h
   ·rename_i hb
    exact⟨_,h,A5 (by simp[eqGuard,binOp,Op.shift,hb,shrI])⟩
  ·split at h
   ·rename_i hk; subst hk
    cases op<;>simp only[reduceCtorEq] at h
    case add=>exact⟨_,h,A5 (by simp[eqGuard,binOp,Op.intArith])⟩
    case sub=>exact⟨_,h,A5 (by simp[eqGuard,binOp,Op.intArith])⟩
    case mul=>exact⟨_,h,A5 (by simp[eqGuard,binOp,Op.intArith])⟩
    case quo =>
     split at h
     ·cases h
     ·rename_i hb; exact⟨_,h,A5 (by simp[eqGuard,binOp,Op.intDiv,hb])⟩
    case rem =>
     split at h
     ·cases h
     ·rename_i hb; exact⟨_,h,A5 (by simp[eqGuard,binOp,Op.intDiv,hb])⟩
    case and=>exact⟨_,h,A5 (by simp[eqGuard,binOp,Op.intBits,andI])⟩
    case or=>exact⟨_,h,A5 (by simp[eqGuard,binOp,Op.intBits,orI])⟩
    case xor=>exact⟨_,h,A5 (by simp[eqGuard,binOp,Op.intBits,xorI])⟩
    case andNot=>exact⟨_,h,A5 (by simp[eqGuard,binOp,Op.intBits,andNotI])⟩
    case eql=>exact⟨_,h,BJ (by simp[eqGuard,binOp,Op.intCmp])⟩
    case neq=>exact⟨_,h,BJ (by simp[eqGuard,binOp,Op.intCmp])⟩
    case lss=>exact⟨_,h,BJ (by simp[eqGuard,binOp,Op.intCmp])⟩
    case leq=>exact⟨_,h,BJ (by simp[eqGuard,binOp,Op.intCmp])⟩
    case gtr=>exact⟨_,h,BJ (by simp[eqGuard,binOp,Op.intCmp])⟩
    case geq=>exact⟨_,h,BJ (by simp[eqGuard,binOp,Op.intCmp])⟩
   ·cases h
 ·rename_i ks a ks' b
  obtain rfl:=L3 hx
  obtain rfl:=L3 hy
  cases op<;>simp only[reduceCtorEq] at h
  case add =>
   split at h
   ·rename_i hb
    refine⟨_,h,Ms ?_⟩
    have:¬(((a.size+b.size:Nat):Int)>IntKind.i64.max):=by simp[IntKind.max,IntKind.signed,IntKind.bits]; omega
    simp[eqGuard,binOp,Op.stringOp]
    omega
   ·cases h
  case eql=>exact⟨_,h,BJ (by simp[eqGuard,binOp,Op.stringOp,strEq])⟩
  case neq=>exact⟨_,h,BJ (by simp[eqGuard,binOp,Op.stringOp,strEq])⟩
  case lss=>exact⟨_,h,BJ (by simp[eqGuard,binOp,Op.stringOp,strLt])⟩
  case leq=>exact⟨_,h,BJ (by simp[eqGuard,binOp,Op.stringOp,strLt,strEq])⟩
  case gtr=>exact⟨_,h,BJ (by simp[eqGuard,binOp,Op.stringOp,strLt,strEq])⟩
  case geq=>exact⟨_,h,BJ (by simp[eqGuard,binOp,Op.stringOp,strLt])⟩
 ·rename_i ks a ks' b
  obtain rfl:=Ks hx
  obtain rfl:=Ks hy
  split at h
  ·rename_i hb
   have hu:=htb hb
   have he:(Op.equal t (.bool a) (.bool b)).run P w=.ok (a==b) w:=run_equal_bool w t a b hu
   cases op<;>simp only[reduceCtorEq] at h
   case eql=>exact⟨_,h,BJ (by simp[eqGuard,binOp,he])⟩
   case neq=>exact⟨_,h,BJ (by simp[eqGuard,binOp,he])⟩
  ·cases h
 ·cases h
theorem Ach {op:UnOp} {x:AV} {u:Value} {K:AV→Option R} {r:R} (h:unA op x K=some r) (hx:AVR w g n x u) :
    ∃z,K z=some r∧Gives P w g n (Op.unary op u) z:=by
 unfold unA at h
 split at h
 ·obtain rfl:=Ks hx
  split at h
  ·exact⟨_,h,BJ (by simp[Op.unary])⟩
  ·cases h
 ·obtain rfl:=D4 hx
  split at h
  ·exact⟨_,h,A5 (by simp[Op.unary,Op.intArith])⟩
  ·exact⟨_,h,A5 (by simp only[Op.unary,Op.intBits]; rfl)⟩
  ·cases h
 ·cases h
variable {bs:List Blk}
theorem AU{t:Nat}{ti:TI}(h:TOk P t ti)(hs:ti.isSl=true):P.underlying t=some (.slice ti.elem):=by
 obtain⟨d,hd,hk⟩:=h.under
 unfold TI.isSl at hs
 split at hs
 ·rename_i u hu
  rw[hd]
  cases d<;>simp[kindOk,hu,Ty.isAgg] at hk
  rename_i e; rw[hk]
 ·cases hs
theorem J3{t:Nat}{ti:TI}(h:TOk P t ti)(hs:ti.ty=.str):P.underlying t=some .string:=by
 obtain⟨d,hd,hk⟩:=h.under
 rw[hd]
 cases d<;>simp[kindOk,hs,Ty.isAgg] at hk
 rfl
theorem Th{t:Nat}{ti:TI}(h:TOk P t ti)(hs:ti.ty=.bool):P.underlying t=some .bool:=by
 obtain⟨d,hd,hk⟩:=h.under
 rw[hd]
 cases d<;>simp[kindOk,hs,Ty.isAgg] at hk
 rfl
theorem DV{t:Nat}{ti:TI}(h:TOk P t ti):(sizeOf t).run P w=.ok ti.ty.size w:=by
 obtain⟨i,z,hi,hs,_⟩:=h.info
 simp[sizeOf,typeInfo,hi,hs]
theorem N3{t:Nat}{ti:TI}(h:TOk P t ti):(isAgg t).run P w=.ok ti.ty.isAgg w:=by
 obtain⟨d,hd,hk⟩:=h.under
 cases d<;>simp[isAgg,underlying,hd,kindOk] at hk ⊢
 case int=>rw[hk]; rfl
 case bool=>rw[hk]; rfl
 case string=>rw[hk]; rfl
 case slice =>
  obtain⟨_,hk⟩:=hk
  split at hk
  ·rename_i u hu; rw[hu]; rfl
  ·cases hk
 case array=>exact hk
 case struct=>exact hk.1
 case pointer =>
  split at hk
  ·rename_i u hu; rw[hu]; rfl
  ·cases hk
 case map =>
  split at hk
  ·rename_i u hu; rw[hu]; rfl
  ·cases hk
 case func =>
  split at hk
  ·rename_i u hu; rw[hu]; rfl
  ·cases hk
theorem AaT (H:Heap w g bs) {t:Nat} {ti:TI} (ht:TOk P t ti) {x:AV} {u:Value} {K:AV→Option R} {r:R} (h:lenA bs ti x K=some r) (hx:AVR w g bs.length x u) (ty:TypeId) (ts:Array TypeId) (hts:ts[0]?=some t) :
    ∃z,K z=some r∧Gives P w g n (Builtin.len_ ts ty #[u]) z:=by
 unfold lenA at h
 split at h
 ·split at h
  ·rename_i hs
   obtain⟨_,ad,cap,ds,rfl,_⟩:=NQ hx
   exact⟨_,h,A5 (by simp[Builtin.len_,hts,underlying,AU ht hs,goInt])⟩
  ·cases h
 ·split at h
  ·rename_i hs
   obtain rfl:=L3 hx
   exact⟨_,h,A5 (by simp[Builtin.len_,hts,underlying,J3 ht hs,goInt])⟩
  ·cases h
 ·split at h
  ·rename_i hs
   obtain⟨ad,rfl⟩:=Ou hx
   exact⟨_,h,A5 (by simp[Builtin.len_,hts,underlying,AU ht hs,goInt])⟩
  ·cases h
 ·rename_i k
  split at h
  ·rename_i e m t' xs hb
   split at h
   ·rename_i hs
    obtain⟨hk,rfl⟩:=KF hx
    have hl:=(H.blk k _ hb).2.1
    exact⟨_,h,A5 (by simp[Builtin.len_,hts,underlying,AU ht hs,goInt,hl])⟩
   ·cases h
  ·cases h
 ·cases h
theorem Adj {mx:Bool} {x y:AV} {u v:Value} {K:AV→Option R} {r:R} (h:mmA mx x y K=some r) (hx:AVR w g n x u) (hy:AVR w g n y v) (ty:TypeId) (ts:Array TypeId) :
    ∃z,K z=some r∧Gives P w g n (if mx then Builtin.max_ ts ty #[u,v] else Builtin.min_ ts ty #[u,v]) z:=by
 unfold mmA at h
 split at h
 ·obtain rfl:=D4 hx
  obtain rfl:=D4 hy
  split at h
  ·rename_i hk; subst hk
   refine⟨_,h,A5 ?_⟩
   cases mx
   ·simp[Builtin.min_,Builtin.min2]
   ·simp[Builtin.max_,Builtin.max2]
  ·cases h
 ·cases h
theorem Pa{i:Int}{n:Nat}(h:0≤i∧i<(n:Int)):i.toNat<n:=by omega
theorem addN(b o i:Nat):(⟨b,o,none⟩:Addr).add i=⟨b,o+i,none⟩:=by unfold Addr.add; split<;>simp_all
theorem KA {t:Nat} {ti:TI} (h:TOk P t ti) {b off:Nat} {cs:List Value} (hl:cs.length=ti.ty.size) (hc:∀j u,cs[j]?=some u→w.cell? ⟨b,off+j,none⟩=some u) (hs:ti.ty.isAgg=false→cs.length=1) :
    ∃v,(loadVar t ⟨b,off,none⟩).run P w=.ok v w∧asVal ti.ty.isAgg cs v:=by
 unfold loadVar
 cases ha:ti.ty.isAgg with
 | true =>
  have hr:=run_loadCells_list (P:=P) w ⟨b,off,none⟩ cs (fun j u hu=>by rw[addN]; exact hc j u hu)
  rw[hl] at hr
  exact⟨.agg cs.toArray,by simp[N3 h,ha,DV h,hr],by simp[asVal]⟩
 | false =>
  have h1:=hs ha
  obtain⟨c,rfl⟩:∃c,cs=[c]:=by
   cases cs with
   | nil=>simp at h1
   | cons c r=>cases r with
    | nil=>exact⟨c,rfl⟩
    | cons _ _=>simp at h1
  have hc0:=hc 0 c rfl
  rw[Nat.add_zero] at hc0
  exact⟨c,by simp[N3 h,ha,load,Sem.run,hc0],by simp[asVal]⟩
theorem Lo{t:Ty}(h:t.isAgg=false):t.size=1:=by cases t<;>simp_all [Ty.isAgg,Ty.size]
theorem Az{t:Ty}(xs:List t.V)(i:Nat)(z:t.V)(h:i<xs.length):xs.getD i z=xs[i]:=by simp[List.getD,h]
theorem WZ (H:Heap w g bs) {k:Nat} {i:Int} {a:AV} (h:atB bs k i=some a) (hi:i.toNat<(g.at_ k).len) {b:Nat} (hb:(g.at_ k).a=some ⟨b,0,none⟩) :
    ∃cs,AVX w g bs.length false a cs∧∀j u,cs[j]?=some u→w.cell? ⟨b,i.toNat*(g.at_ k).esz+j,none⟩=some u:=by
 unfold atB at h
 split at h
 ·rename_i a' hx
  injection h with h; subst h
  obtain⟨h1,b',cs,e,ha,ho,hh,hr⟩:=H.blk k _ hx
  rw[hb] at ha; injection ha with ha; injection ha with ha; subst ha
  refine⟨cs.toList,hr,fun j u hu=>?_⟩
  have:i.toNat=0:=by omega
  rw[this,Nat.zero_mul,Nat.zero_add,Lg hh,←Array.getElem?_toList]; exact hu
 ·rename_i e m t xs hx
  injection h with h; subst h
  obtain⟨hmi,hlen,hes,hpos,hr⟩:=H.blk k _ hx
  have hlt:=At hx
  rw[hlen] at hi
  rcases hr with ⟨hx0,_⟩| ⟨b',cur,ds,ha,ho,⟨el,hel,hh⟩,h1,h2,h3,h4,hc⟩
  ·subst hx0; simp at hi
  ·rw[hb] at ha; injection ha with ha; injection ha with ha; subst ha
   rw[Az _ _ _ hi,hes]
   have hcell:∀j u,ds[j]?=some u→w.cell? ⟨b,j,none⟩=some u:=by
    intro j u hu
    rw[Lg hh,←Array.getElem?_toList]
    subst h4
    rw[List.getElem?_take] at hu
    split at hu
    ·exact hu
    ·cases hu
   cases m with
   | deep =>
    obtain⟨c0,c,d,e1,hl,hr,_,_⟩:=ListI.at_ (fun i x c h=>OwR.len h) hc hi
    refine⟨c,⟨MS (fun j hj=>by simp at hj; omega),MB (hr.rd fun b q hq=>.mem (List.mem_singleton.2 rfl) hq)⟩,fun j u hu=>?_⟩
    refine hcell _ u ?_
    rw[e1,←hl,List.append_assoc,List.getElem?_append_right (by omega),show c0.length+j-c0.length=j by omega,List.getElem?_append_left (At hu)]
    exact hu
   | sh ks =>
    obtain⟨c0,c,d,e1,hl,hr,_,_⟩:=ListR.at_ (fun x c h=>RdR.len h) hc hi
    refine⟨c,⟨MS hmi,MB hr⟩,fun j u hu=>?_⟩
    refine hcell _ u ?_
    rw[e1,←hl,List.append_assoc,List.getElem?_append_right (by omega),show c0.length+j-c0.length=j by omega,List.getElem?_append_left (At hu)]
    exact hu
 ·cases h
theorem LM (H:Heap w g bs) {k:Nat} {i:Int} {p:List Nat} {o:Nat} {a:AV} (h:atP bs k i p o=some a) (hi:i.toNat<(g.at_ k).len) {b:Nat} (hb:(g.at_ k).a=some ⟨b,0,none⟩) :
    ∃cs,AVX w g bs.length false a cs∧∀j u,cs[j]?=some u→w.cell? ⟨b,i.toNat*(g.at_ k).esz+o+j,none⟩=some u:=by
 unfold atP at h
 split at h
 ·rename_i c hc
  split at h
  ·rename_i ho
   obtain⟨cs,hx,hcell⟩:=WZ H hc hi hb
   obtain⟨c0,c1,c2,e,ho2,hx1,_⟩:=JT p c cs a hx h
   rw[ho] at ho2; injection ho2 with ho2; subst ho2
   refine⟨c1,hx1,fun j u hu=>?_⟩
   rw[Nat.add_assoc]
   refine hcell _ u ?_
   rw[e,List.append_assoc,List.getElem?_append_right (by omega),show c0.length+j-c0.length=j by omega,List.getElem?_append_left (At hu)]
   exact hu
  ·cases h
 ·cases h
theorem notTup{a:AV}{cs:List Value}(h:AVX w g n false a cs):a.isTup=false:=by cases a<;>first | rfl | exact h.elim
theorem Yi (H:Heap w g bs) {t:Nat} {ti:TI} (ht:TOk P t ti) {x:AV} {u:Value} {K:AV→Option R} {r:R} (h:loadA bs ti x K=some r) (hx:AVR w g bs.length x u) :
    ∃z,K z=some r∧Gives P w g bs.length (Instr.loadAt t u) z:=by
 unfold loadA at h
 split at h
 ·rename_i ks t' y
  split at h
  ·rename_i he; subst he
   obtain⟨hk,b,off,ds,rfl,ha,hr,hc⟩:=MM hx
   obtain⟨v,hv,hs⟩:=KA (w:=w) ht hr.len hc (fun hg=>by rw[hr.len]; exact Lo hg)
   exact⟨_,h,v,by simp[Instr.loadAt,Instr.sureAddr,hv],Bg rfl (cs:=ds) ⟨MS hk,MB hr⟩ hs⟩
  ·cases h
 ·rename_i k i p o
  split at h
  ·rename_i a ha
   split at h
   ·rename_i hs
    obtain⟨hk,h0,h1,b,hb,rfl⟩:=Im hx
    obtain⟨cs,hcx,hcell⟩:=LM H ha h1 hb
    obtain⟨v,hv,hsv⟩:=KA (w:=w) ht (by rw[hcx.len,hs.1]) hcell (fun hg=>by rw[hcx.len,hs.1]; exact Lo hg)
    rw[←hs.2] at hsv
    exact⟨_,h,v,by simp[Instr.loadAt,Instr.sureAddr,hv],Bg (notTup hcx) hcx hsv⟩
   ·cases h
  ·cases h
 ·cases h
theorem ZH (H:Heap w g bs) {t:Nat} {ti te:TI} (ht:TOk P t ti) (hte:TOk P ti.elem te) (hs:ti.isSl=true) {x y:AV} {u v:Value} {K:AV→Option R} {r:R} (h:idxA bs te.ty x y K=some r) (hx:AVR w g bs.length x u) (hy:AVR w g bs.length y v) :
    ∃z,K z=some r∧Gives P w g bs.length (Instr.indexAt t u v) z:=by
 have hu:=AU ht hs
 unfold idxA at h
 split at h
 ·rename_i ks t' xs ks' k i
  split at h
  ·rename_i he; subst he
   split at h
   ·rename_i hi
    obtain rfl:=D4 hy
    obtain⟨hk,ad,cap,ds,rfl,hl,hr,hm⟩:=NQ hx
    have hlt:i.toNat<xs.length:=Pa hi
    rcases hm with hm | ⟨b,off,rfl,ha,hc⟩
    ·subst hm; simp at hlt
    ·obtain⟨c0,c,d,e1,hl0,hr1,_,_⟩:=ListR.at_ (fun x c h=>RdR.len h) hr hlt
     refine⟨_,h,.pointer (some ⟨b,off+i.toNat*te.ty.size,none⟩),?_,?_⟩
     ·simp[Instr.indexAt,asIntOf,underlying,hu,hi.1,hi.2,DV hte,addN]
     ·rw[Az _ _ _ hlt]
      refine QE hk ha hr1 fun j q hq=>?_
      rw[←hl0,Nat.add_assoc]
      refine hc _ q ?_
      rw[e1,List.append_assoc,List.getElem?_append_right (by omega),show c0.length+j-c0.length=j by omega,List.getElem?_append_left (At hq)]
      exact hq
   ·cases h
  ·cases h
 ·rename_i k ks' kk i
  split at h
  ·rename_i e m t' xs hb
   split at h
   ·rename_i he; subst he
    split at h
    ·rename_i hi
     obtain rfl:=D4 hy
     obtain⟨hk,rfl⟩:=KF hx
     obtain⟨hmi,hlen,hes,hpos,hr⟩:=H.blk k _ hb
     have hlt:i.toNat<xs.length:=Pa hi
     rcases hr with ⟨hx0,_⟩| ⟨b,cur,ds,ha,ho,⟨el,hel,hh⟩,h1,h2,h3,h4,hc⟩
     ·subst hx0; simp at hlt
     ·refine⟨_,h,.pointer (some ⟨b,i.toNat*(g.at_ k).esz+0,none⟩),?_,P1 hk hi.1 (by rw[hlen]; exact hlt) ha⟩
      simp[Instr.indexAt,asIntOf,underlying,hu,hi.1,hi.2,DV hte,ha,hlen,hes,addN]
    ·cases h
   ·cases h
  ·cases h
 ·cases h
theorem ZL {t:Nat} {ti:TI} (ht:TOk P t ti) (hs:ti.ty=.str) {x y:AV} {u v:Value} {K:AV→Option R} {r:R} (h:chrA x y K=some r) (hx:AVR w g n x u) (hy:AVR w g n y v) :
    ∃z,K z=some r∧Gives P w g n (Instr.index t u v) z:=by
 unfold chrA at h
 split at h
 ·rename_i ks s ks' k i
  split at h
  ·rename_i hi
   obtain rfl:=D4 hy
   obtain rfl:=L3 hx
   refine⟨_,h,A5 ?_⟩
   have hlt:i.toNat<s.size:=Pa hi
   simp[Instr.index,asIntOf,underlying,J3 ht hs,hi.1,bgetI,hlt]
  ·cases h
 ·cases h
end
end Go.Va
namespace Go.Va
section
variable {P:Program} {w:World} {g:G} {n:Nat} {R:Type} {bs:List Blk}
theorem Wn {ty:Ty}:∀{fs:List Field} {os:List Nat} {i j o:Nat},fldsOk P ty i fs os=true→os[j]?=some o →
    ∃fd u inf,fs[j]?=some fd∧fd.offset=o∧offD ty (i+j)=some o∧tyF ty (i+j)=some u∧P.info? fd.type=some inf∧inf.size=u.size∧u.size≠0
 | [],[],_,_,_,_,h=>by simp at h
 | f::fs,o'::os,i,0,o,h,ho=>by
  simp only[List.getElem?_cons_zero,Option.some.injEq] at ho; subst ho
  simp only[fldsOk,Bool.and_eq_true,beq_iff_eq] at h
  obtain⟨⟨⟨h1,h2⟩,h3⟩,_⟩:=h
  split at h3
  ·rename_i u hu
   simp only[Bool.and_eq_true,beq_iff_eq,bne_iff_ne] at h3
   cases hi:P.info? f.type with
   | none=>simp[hi] at h3
   | some inf=>simp[hi] at h3; exact⟨f,u,inf,rfl,h1,by simpa using h2,by simpa using hu,hi,h3.1,h3.2⟩
  ·cases h3
 | f::fs,o'::os,i,j+1,o,h,ho=>by
  simp only[fldsOk,Bool.and_eq_true] at h
  obtain⟨fd,u,inf,h1,h2,h3,h4,h5⟩:=Wn (i:=i+1) h.2 (by simpa using ho)
  exact⟨fd,u,inf,by simpa using h1,h2,by rw[show i+(j+1)=i+1+j by omega]; exact h3,by rw[show i+(j+1)=i+1+j by omega]; exact h4,h5⟩
 | [],_::_,_,_,_,h,_=>by simp[fldsOk] at h
 | _::_,[],_,_,_,h,_=>by simp[fldsOk] at h
theorem MW {t:Nat} {ti:TI} (h:TOk P t ti) {f o:Nat} (ho:ti.offs[f]?=some o) :
    ∃fs,P.underlying t=some (.struct fs)∧fldsOk P ti.ty 0 fs.toList ti.offs=true:=by
 rcases h.offs with ⟨fs,hfs⟩| he
 ·obtain⟨d,hd,hk⟩:=h.under
  rw[hfs] at hd; injection hd with hd; subst hd
  simp only[kindOk,Bool.and_eq_true] at hk
  exact⟨fs,hfs,hk.2⟩
 ·rw[he] at ho; simp at ho
theorem Lk {t:Nat} {ti:TI} (h:TOk P t ti) {f fo:Nat} (ho:ti.offs[f]?=some fo) (b o:Nat) :
    (Instr.fieldAt t (.pointer (some ⟨b,o,none⟩)) f).run P w=.ok (.pointer (some ⟨b,o+fo,none⟩)) w∧offD ti.ty f=some fo∧∃u,tyF ti.ty f=some u:=by
 obtain⟨fs,hu,hf⟩:=MW h ho
 obtain⟨fd,u,inf,h1,h2,h3,h4,h5,h6,h7⟩:=Wn hf ho
 rw[Nat.zero_add] at h3 h4
 refine⟨?_,h3,u,h4⟩
 have hfd:fs[f]?=some fd:=by rw[←Array.getElem?_toList]; exact h1
 have hsz:(sizeOf fd.type).run P w=.ok u.size w:=by simp[sizeOf,typeInfo,h5,h6]
 simp[Instr.fieldAt,underlying,hu,hfd,Instr.sureAddr,fieldPlace,hsz,h7,addN,h2]
theorem ZG {t:Nat} {ti:TI} (ht:TOk P t ti) {f:Nat} {x:AV} {u:Value} {K:AV→Option R} {r:R} (h:fldA ti f x K=some r) (hx:AVR w g n x u) :
    ∃z,K z=some r∧Gives P w g n (Instr.fieldAt t u f) z:=by
 unfold fldA at h
 split at h
 ·rename_i k i p o
  split at h
  ·rename_i fo hfo
   obtain⟨hk,h0,h1,b,hb,rfl⟩:=Im hx
   refine⟨_,h,_,(Lk ht hfo b _).1,?_⟩
   rw[Nat.add_assoc]
   exact P1 hk h0 h1 hb
  ·cases h
 ·rename_i ks t' y
  split at h
  ·rename_i he
   obtain⟨rfl,he⟩:=he
   split at h
   ·rename_i ks' v z hz
    obtain⟨hk,b,off,ds,rfl,ha,hr,hc⟩:=MM hx
    obtain⟨c0,c1,c2,e,ho,_,⟨u',y',heq,hr1⟩,_⟩:=Ml (g:=g) hk f _ y ds _ hr hz
    injection heq with _ h2 h3
    subst h2
    obtain rfl:=eq_of_heq h3
    rw[ho] at he
    refine⟨_,h,_,(Lk ht he.symm b off).1,QE hk ha hr1 fun j q hq=>?_⟩
    rw[Nat.add_assoc]
    refine hc _ q ?_
    rw[e,List.append_assoc,List.getElem?_append_right (by omega),show c0.length+j-c0.length=j by omega,List.getElem?_append_left (At hq)]
    exact hq
   ·cases h
  ·cases h
 ·cases h
theorem Wg:∀{x:AV} {i:Nat} {z:AV} {vs:List Value},extrA x i=some z→AVX w g n true x vs→∃v,vs[i]?=some v∧(z.isTup=false→AVR w g n z v)
 | .cons a b,0,z,vs,h,hx=>by
  simp only[extrA,Option.some.injEq] at h; subst h
  obtain⟨v,r,e,h1,_⟩:=hx
  subst e
  exact⟨v,rfl,fun ht=>(AVR.iff ht).2 h1⟩
 | .cons a b,i+1,z,vs,h,hx=>by
  simp only[extrA] at h
  obtain⟨v,r,e,_,h2⟩:=hx
  subst e
  obtain⟨u,hu,hz⟩:=Wg h h2
  exact⟨u,by simpa using hu,hz⟩
 | .nil,_,_,_,h,_=>by simp[extrA] at h
 | .dat _ _ _,_,_,_,h,_=>by simp[extrA] at h
 | .zs,_,_,_,h,_=>by simp[extrA] at h
 | .ref _,_,_,_,h,_=>by simp[extrA] at h
 | .sld _ _,_,_,_,h,_=>by simp[extrA] at h
 | .mp _,_,_,_,h,_=>by simp[extrA] at h
 | .ptr _ _ _ _,_,_,_,h,_=>by simp[extrA] at h
 | .rop _ _ _,_,_,_,h,_=>by simp[extrA] at h
 | .nilp,_,_,_,h,_=>by simp[extrA] at h
 | .pr _ _,_,_,_,h,_=>by simp[extrA] at h
 | .fn _ _,_,_,_,h,_=>by simp[extrA] at h
 | .nst _ _ _ _ _,_,_,_,h,_=>by simp[extrA] at h
 | .un _,_,_,_,h,_=>by simp[extrA] at h
def OptR(w:World)(g:G)(n:Nat):Option AV→Option Value→Prop
 | none,none=>True
 | some a,some v=>AVR w g n a v
 | _,_=>False
theorem M6{x:Option AV}{v:Option Value}{d i:Int}(h:bnd x d=some i)(hx:OptR w g n x v):(v=none∧i=d)∨∃k,v=some (.int k i):=by
 unfold bnd at h
 split at h
 ·cases v with
  | none=>simp at h; exact .inl ⟨rfl,h.symm⟩
  | some _=>exact hx.elim
 ·cases v with
  | none=>exact hx.elim
  | some u=>simp at h; subst h; exact .inr ⟨_,congrArg some (D4 hx)⟩
 ·cases h
theorem KX {isS:Bool} {len cap:Nat} {lo hi:Option Value} {l h:Int} (hl:(lo=none∧l=0)∨∃k,lo=some (.int k l)) (hh:(hi=none∧h=(len:Int))∨∃k,hi=some (.int k h))
    (h0:0≤l) (h1:l≤h) (h2:h≤(len:Int)) (hc:len≤cap):(Instr.sliceBounds isS len cap lo hi none).run P w=.ok (l.toNat,h.toNat,cap) w:=by
 have e1:((h.toNat:Nat):Int)=h:=by omega
 have e2:h≤(cap:Int):=by omega
 have e3:0≤h:=by omega
 rcases hl with ⟨rfl,rfl⟩| ⟨k,rfl⟩<;>rcases hh with ⟨rfl,rfl⟩| ⟨k',rfl⟩
 ·simp[Instr.sliceBounds]
 ·simp[Instr.sliceBounds,Instr.sliceBound,asIntOf,e2,e3]
 ·simp[Instr.sliceBounds,Instr.sliceBound,asIntOf,h0,h1]
 ·simp[Instr.sliceBounds,Instr.sliceBound,asIntOf,e2,e3,h0,h1,e1]
theorem If {t:Nat} {ti:TI} (h:TOk P t ti) (hs:ti.isSl=true) (a:Option Addr) (len cap:Nat) (lo hi mx:Option Value) (w:World) :
    (Instr.sliceAt t (.slice a len cap) lo hi mx).run P w=(Instr.slice t (.slice a len cap) lo hi mx).run P w:=by
 simp[Instr.sliceAt,underlying,AU h hs]
theorem RI {t:Nat} {ti:TI} (h:TOk P t ti) (hs:ti.ty=.str) (s:ByteArray) (lo hi mx:Option Value) (w:World) :
    (Instr.sliceAt t (.string s) lo hi mx).run P w=(Instr.slice t (.string s) lo hi mx).run P w:=by
 simp[Instr.sliceAt,underlying,J3 h hs]
theorem V0 {A:Nat→Prop} {t:Ty} {xs:List t.V} {ad:Option Addr} {cap:Nat} {ds:List Value} {l h:Nat} (h1:l≤h) (h2:h≤xs.length) (hc:xs.length≤cap)
    (hr:ListR (RdR w A t) xs ds) (hm:xs=[]∨∃b off,ad=some ⟨b,off,none⟩∧A b∧∀j u,ds[j]?=some u→w.cell? ⟨b,off+j,none⟩=some u) :
    RdR w A (.sl t) ((xs.take h).drop l) [.slice (if cap=l then ad else ad.map (·.add (l*t.size))) (h-l) (cap-l)]:=by
 have hlen:((xs.take h).drop l).length=h-l:=by simp[List.length_take]; omega
 refine⟨_,cap-l,((ds.take (h*t.size)).drop (l*t.size)),by rw[hlen],by rw[hlen]; omega,?_,?_⟩
 ·exact ListR.dropN (fun x c r=>RdR.len r) l (ListR.takeN (fun x c r=>RdR.len r) h hr)
 ·rcases Nat.eq_or_lt_of_le h1 with e | hlt
  ·subst e; exact .inl (by apply List.eq_nil_of_length_eq_zero; rw[hlen]; omega)
  ·rcases hm with hx | ⟨b,off,rfl,ha,hcell⟩
   ·subst hx; simp at h2; omega
   ·refine .inr ⟨b,off+l*t.size,?_,ha,fun j u hu=>?_⟩
    ·rw[if_neg (by omega)]; simp[addN]
    ·rw[List.getElem?_drop,List.getElem?_take] at hu
     split at hu
     ·rw[Nat.add_assoc]; exact hcell _ u hu
     ·cases hu
theorem Ve (H:Heap w g bs) {t:Nat} {ti:TI} (ht:TOk P t ti) {te:Option Ty} (hte:∀u,te=some u→ti.isSl=true∧∃tie,tie.ty=u∧TOk P ti.elem tie) {x:AV} {lo hi mx:Option AV} {u:Value} {vlo vhi vmx:Option Value}
    {K:AV→Option R} {r:R} (h:sliceA bs ti te x lo hi mx K=some r) (hx:AVR w g bs.length x u) (hlo:OptR w g bs.length lo vlo) (hhi:OptR w g bs.length hi vhi) (hmx:OptR w g bs.length mx vmx) :
    ∃z,K z=some r∧Gives P w g bs.length (Instr.sliceAt t u vlo vhi vmx) z:=by
 unfold sliceA at h
 split at h
 ·rename_i ks k m
  split at h
  ·rename_i ks' k' hh
   split at h
   ·rename_i hz
    obtain⟨rfl,rfl,hs⟩:=hz
    obtain⟨u',hu'⟩:=Option.isSome_iff_exists.1 hs
    obtain⟨hs,tie,rfl,hto⟩:=hte _ hu'
    obtain rfl:vlo=none:=by cases vlo with | none=>rfl | some _=>exact hlo.elim
    obtain⟨vh,rfl,e1⟩:∃v,vhi=some v∧v=.int k' 0:=by cases vhi with | none=>exact hhi.elim | some v=>exact⟨v,rfl,D4 hhi⟩
    obtain⟨vm,rfl,e2⟩:∃v,vmx=some v∧v=.int k 0:=by cases vmx with | none=>exact hmx.elim | some v=>exact⟨v,rfl,D4 hmx⟩
    subst e1; subst e2
    have key:∀(a:Option Addr) (len cap:Nat),(Instr.sliceAt t (.slice a len cap) none (some (.int k' 0)) (some (.int k 0))).run P w=.ok (.slice a 0 0) w:=fun a len cap=>by
     rw[If ht hs]
     simp[Instr.slice,underlying,AU ht hs,Instr.sliceBounds,Instr.sliceBound,asIntOf,DV hto]
    split at h
    ·obtain⟨_,ad,cap,ds,rfl,_⟩:=NQ hx
     exact⟨_,h,_,key _ _ _,Tb _⟩
    ·obtain⟨ad,rfl⟩:=Ou hx
     exact⟨_,h,_,key _ _ _,Tb _⟩
    ·split at h
     ·obtain⟨_,rfl⟩:=KF hx
      exact⟨_,h,_,key _ _ _,Tb _⟩
     ·cases h
    ·cases h
   ·cases h
  ·cases h
 ·cases h
 ·split at h
  ·rename_i ks s
   split at h
   ·rename_i l hh hl hhh
    split at h
    ·rename_i hc
     obtain⟨hs,h0,h1,h2⟩:=hc
     obtain rfl:=L3 hx
     obtain rfl:vmx=none:=by cases vmx with | none=>rfl | some _=>exact hmx.elim
     refine⟨_,h,Ms ?_⟩
     rw[RI ht hs]
     have hb:=KX (P:=P) (w:=w) (isS:=false) (cap:=s.size) (M6 hl hlo) (M6 hhh hhi) h0 h1 h2 (Nat.le_refl _)
     simp[Instr.slice,underlying,J3 ht hs,hb]
    ·cases h
   ·cases h
  ·rename_i ks t' xs
   split at h
   ·rename_i l hh hl hhh
    split at h
    ·rename_i he
     obtain⟨hs,tie,rfl,hto⟩:=hte _ he
     split at h
     ·rename_i hc
      obtain⟨h0,h1,h2⟩:=hc
      obtain⟨hk,ad,cap,ds,rfl,hcap,hr,hm⟩:=NQ hx
      obtain rfl:vmx=none:=by cases vmx with | none=>rfl | some _=>exact hmx.elim
      refine⟨_,h,?_⟩
      have hb:=KX (P:=P) (w:=w) (isS:=true) (cap:=cap) (M6 hl hlo) (M6 hhh hhi) h0 h1 h2 hcap
      refine⟨.slice (if cap=l.toNat then ad else ad.map (·.add (l.toNat*tie.ty.size))) (hh.toNat-l.toNat) (cap-l.toNat),?_,?_⟩
      ·rw[If ht hs]
       simp[Instr.slice,underlying,AU ht hs,hb,DV hto]
      ·exact Bg rfl (cs:=[_]) ⟨hk,V0 (by omega) (by omega) hcap hr hm⟩ (by simp[asVal,AV.isAgg,Ty.isAgg])
     ·cases h
    ·cases h
   ·cases h
  ·rename_i k
   split at h
   ·rename_i e m t' xs hb
    split at h
    ·rename_i l hh hl hhh
     split at h
     ·rename_i he
      obtain⟨hs,tie,rfl,hto⟩:=hte _ he
      split at h
      ·rename_i hc
       obtain⟨h0,h1,h2⟩:=hc
       obtain⟨cs,hcx,hv⟩:=A0 rfl rfl hx
       have hrd:=J1 H (.sl tie.ty) (.ref k) xs cs (by simp[rd,hb,castV]) hcx
       obtain⟨⟨ad,cap,ds,e1,hcap,hr,hm⟩,hlend⟩:=hrd
       subst e1
       have hlend':(AV.ref k).lend bs=k::m.ids:=by simp[AV.lend,rowM,hb]
       rw[hlend'] at hlend hr hm
       obtain rfl:u=.slice ad xs.length cap:=by simpa [asVal,AV.isAgg] using hv.symm
       obtain rfl:vmx=none:=by cases vmx with | none=>rfl | some _=>exact hmx.elim
       refine⟨_,h,?_⟩
       have hb:=KX (P:=P) (w:=w) (isS:=true) (cap:=cap) (M6 hl hlo) (M6 hhh hhi) h0 h1 h2 hcap
       refine⟨.slice (if cap=l.toNat then ad else ad.map (·.add (l.toNat*tie.ty.size))) (hh.toNat-l.toNat) (cap-l.toNat),?_,?_⟩
       ·rw[If ht hs]
        simp[Instr.slice,underlying,AU ht hs,hb,DV hto]
       ·exact Bg rfl (cs:=[_]) ⟨hlend,V0 (by omega) (by omega) hcap hr hm⟩ (by simp[asVal,AV.isAgg,Ty.isAgg])
      ·cases h
     ·cases h
    ·cases h
   ·cases h
  ·split at h
   ·rename_i l hh hl hhh
    split at h
    ·rename_i hc
     obtain⟨hs,rfl,rfl⟩:=hc
     obtain⟨u',hu'⟩:=Option.isSome_iff_exists.1 hs
     obtain⟨hs,tie,rfl,hto⟩:=hte _ hu'
     obtain⟨ad,rfl⟩:=Ou hx
     obtain rfl:vmx=none:=by cases vmx with | none=>rfl | some _=>exact hmx.elim
     have hb:=KX (P:=P) (w:=w) (isS:=true) (len:=0) (cap:=0) (M6 hl hlo) (M6 hhh hhi) (Int.le_refl _) (Int.le_refl _) (Int.le_refl _) (Nat.le_refl _)
     refine⟨_,h,.slice ad 0 0,?_,Tb _⟩
     rw[If ht hs]
     simp[Instr.slice,underlying,AU ht hs,hb,DV hto]
    ·cases h
   ·cases h
  ·cases h
theorem Ly{t:Nat}{ti:TI}{k:IntKind}(h:TOk P t ti)(hs:ti.ty=.int k):P.underlying t=some (.int k):=by
 obtain⟨d,hd,hk⟩:=h.under
 rw[hd]
 cases d<;>simp[kindOk,hs,Ty.isAgg] at hk
 rw[hk]
theorem NU{A:Nat→Prop}:∀{xs:List Int} {ds:List Value},ListR (RdR w A (.int .u8)) xs ds→ds=xs.map (Value.int .u8)
 | [],_,h=>h
 | x::xs,_,⟨c,d,e,h1,h2⟩=>by
  have h1':c=[.int .u8 x]:=h1
  rw[e,h1',NU h2]; rfl
theorem WC (H:Heap w g bs) {s t:Nat} {ts ti:TI} (hs:TOk P s ts) (ht:TOk P t ti) {te:Option Ty} (hte:∀u,te=some u→ts.isSl=true∧∃tie,tie.ty=u∧TOk P ts.elem tie) {x:AV} {u:Value}
    {K:AV→Option R} {r:R} (h:convA bs te ti.ty x K=some r) (hx:AVR w g bs.length x u) :
    ∃z,K z=some r∧Gives P w g bs.length (convert s t u) z:=by
 obtain⟨ds,hds,_⟩:=hs.under
 unfold convA at h
 split at h
 ·rename_i k hk
  split at h
  ·obtain rfl:=D4 hx
   refine⟨_,h,A5 ?_⟩
   simp[convert,underlying,hds,Ly ht hk,Conv.intToInt]
  ·cases h
 ·rename_i hk
  have hut:=J3 ht hk
  split at h
  ·obtain rfl:=L3 hx
   refine⟨_,h,Ms ?_⟩
   simp[convert,underlying,hds,hut]
  ·split at h
   ·rename_i he
    obtain⟨hsl,tie,hty,hto⟩:=hte _ he
    split at h
    ·rename_i xs hxs
     have hu:=Ly hto hty
     have hsu:=AU hs hsl
     have hnt:x.isTup=false:=by cases x<;>first | rfl | simp[rd] at hxs
     have hun:x.isUn=false:=by cases x<;>first | rfl | simp[rd] at hxs
     have hag:x.isAgg=false:=by
      cases x with
      | dat ks t' y =>
       simp only[rd] at hxs
       obtain⟨e,_⟩:=AQ hxs
       subst e; rfl
      | pr a b=>simp[rd] at hxs
      | _=>rfl
     obtain⟨cs,hcx,hv⟩:=A0 hnt hun hx
     obtain⟨⟨ad,cap,dd,e1,hcap,hr,hm⟩,_⟩:=J1 H _ _ _ _ hxs hcx
     subst e1
     obtain rfl:u=.slice ad xs.length cap:=by
      rw[hag] at hv
      have hv':[_]=[u]:=hv
      simpa using hv'.symm
     refine⟨_,h,Ms ?_⟩
     have hdd:=NU hr
     have hrun:∀b off,ad=some ⟨b,off,none⟩→(∀i,i<xs.length→w.cell? ⟨b,off+i,none⟩=some (.int .u8 (xs.getD i 0)))→(convert s t (.slice ad xs.length cap)).run P w=.ok (.string (bytesOf xs)) w:=by
      intro b off e hc
      subst e
      exact run_convert_bytes_arg w s ts.elem hsu hu b off xs.length cap xs rfl hc t hut
     rcases hm with hx0 | ⟨b,off,rfl,_,hc⟩
     ·subst hx0
      cases ad with
      | none=>exact run_convert_bytes_nil w s ts.elem hsu hu 0 cap t hut
      | some a0=>simp[convert,underlying,hsu,hut,hu,Conv.bytesToString,loadCells,loadCellsFrom,bytesOf,ByteArray.empty,ByteArray.emptyWithCapacity]; rfl
     ·refine hrun b off rfl fun i hi=>hc i _ ?_
      rw[hdd]
      simp[List.getD,hi]
    ·cases h
   ·cases h
 ·cases h
end
end Go.Va
namespace Go.Va
section
variable {R:Type}
theorem SS(op:BinOp)(tb:Bool)(x y:AV)(K:AV→Option R):binA op tb x y K=(binA op tb x y some).bind K:=by
 unfold binA
 repeat' split
 all_goals rfl
theorem US(op:UnOp)(x:AV)(K:AV→Option R):unA op x K=(unA op x some).bind K:=by
 unfold unA
 repeat' split
 all_goals rfl
theorem SU(bs:List Blk)(ti:TI)(x:AV)(K:AV→Option R):lenA bs ti x K=(lenA bs ti x some).bind K:=by
 unfold lenA
 repeat' split
 all_goals rfl
theorem OU(mx:Bool)(x y:AV)(K:AV→Option R):mmA mx x y K=(mmA mx x y some).bind K:=by
 unfold mmA
 repeat' split
 all_goals rfl
theorem Sb(bs:List Blk)(te:Ty)(x y:AV)(K:AV→Option R):idxA bs te x y K=(idxA bs te x y some).bind K:=by
 unfold idxA
 repeat' split
 all_goals rfl
theorem S7(x y:AV)(K:AV→Option R):chrA x y K=(chrA x y some).bind K:=by
 unfold chrA
 repeat' split
 all_goals rfl
theorem Sf(ti:TI)(f:Nat)(x:AV)(K:AV→Option R):fldA ti f x K=(fldA ti f x some).bind K:=by
 unfold fldA
 repeat' split
 all_goals rfl
theorem Qa(bs:List Blk)(ti:TI)(x:AV)(K:AV→Option R):loadA bs ti x K=(loadA bs ti x some).bind K:=by
 unfold loadA
 repeat' split
 all_goals rfl
theorem Ow(bs:List Blk)(ti:TI)(te:Option Ty)(x:AV)(lo hi mx:Option AV)(K:AV→Option R):sliceA bs ti te x lo hi mx K=(sliceA bs ti te x lo hi mx some).bind K:=by
 unfold sliceA
 repeat' split
 all_goals rfl
theorem Q3(bs:List Blk)(te:Option Ty)(td:Ty)(a:AV)(K:AV→Option R):convA bs te td a K=(convA bs te td a some).bind K:=by
 unfold convA
 repeat' split
 all_goals rfl
theorem Tq(bs:List Blk)(ti:TI)(x v:AV)(K:Eff→Option R):storeA bs ti x v K=(storeA bs ti x v some).bind K:=by
 unfold storeA
 repeat' split
 all_goals rfl
theorem Tt(bs:List Blk)(ti:TI)(x:AV)(K:Eff→Option R):stealA bs ti x K=(stealA bs ti x some).bind K:=by
 unfold stealA
 repeat' split
 all_goals rfl
theorem P7(bs:List Blk)(tk te:TI)(ok:Bool)(m x:AV)(K:AV→Option R):lookA bs tk te ok m x K=(lookA bs tk te ok m x some).bind K:=by
 unfold lookA
 repeat' split
 all_goals first | rfl | (cases ok<;>rfl)
theorem Ua(bs:List Blk)(tk te:TI)(m x:AV)(K:Eff→Option R):lookS bs tk te m x K=(lookS bs tk te m x some).bind K:=by
 unfold lookS
 repeat' split
 all_goals rfl
theorem AaL{c:Bool}{e:Eff}{K:Eff→Option R}:(bif c then K e else none)=(bif c then some e else none).bind K:=by cases c<;>rfl
theorem X9(bs:List Blk)(tk te:TI)(m x v:AV)(K:Eff→Option R):updA bs tk te m x v K=(updA bs tk te m x v some).bind K:=by
 unfold updA
 repeat' split
 all_goals first | rfl | exact AaL
theorem Rt(fi:FI)(bs:List Blk)(e:Nat)(ti:TI)(x y:AV)(K:Eff→Option R):appendA fi bs e ti x y K=(appendA fi bs e ti x y some).bind K:=by
 unfold appendA
 repeat' split
 all_goals rfl
theorem Uw(fi:FI)(bs:List Blk)(e:Nat)(ti:TI)(x y:AV)(K:Eff→Option R):makeA fi bs e ti x y K=(makeA fi bs e ti x y some).bind K:=by
 unfold makeA
 repeat' split
 all_goals rfl
theorem XE(te:Ty)(bs:List Blk)(x:AV)(hi:Option AV)(K:Eff→Option R):cutA te bs x hi K=(cutA te bs x hi some).bind K:=by
 unfold cutA
 repeat' split
 all_goals rfl
def CNat(c:Callee):Prop:=∀(R:Type) args E (K:AV→List Blk→Option R),c.run R args E K=(c.run (AV×List Blk) args E fun v b=>some (v,b)).bind fun p=>K p.1 p.2
theorem MA(c:Callee)(hc:CNat c)(bs:List Blk)(args:List AV)(K:Eff→Option R):callA c bs args K=(callA c bs args some).bind K:=by
 unfold callA
 split
 ·rfl
 ·dsimp only
  split
  ·rw[hc R,hc Eff]
   cases c.run (AV×List Blk) _ _ fun v b=>some (v,b) with
   | none=>rfl
   | some p=>simp only[Option.bind_some]; split<;>rfl
  ·rfl
theorem UZ(c:Callee)(hc:CNat c)(bs:List Blk)(args:List AV)(K:Eff→Option R):callN c bs args K=(callN c bs args some).bind K:=by
 have via:∀(bs:List Blk) (args:List AV) (F:Eff→Option R) (F':Eff→Option Eff),(∀e,F e=(F' e).bind K)→callA c bs args F=(callA c bs args F').bind K:=fun bs args F F' h=>by
  rw[MA c hc bs args F,MA c hc bs args F']
  cases callA c bs args some with
  | none=>rfl
  | some e=>exact h e
 unfold callN
 split
 ·exact MA c hc bs args K
 ·split
  ·split
   ·split
    ·split
     ·refine via _ _ _ _ fun e=>?_
      split
      ·rfl
      ·split
       ·split
        ·split<;>rfl
        ·rfl
       ·rfl
     ·rfl
    ·rfl
   ·rfl
  ·rfl
theorem viaN (f:(R:Type)→(AV→Option R)→Option R) (hf:∀(R:Type) (K:AV→Option R),f R K=(f AV some).bind K) (g:AV→Eff) (K:Eff→Option R) :
    f R (fun v=>K (g v))=(f Eff fun v=>some (g v)).bind K:=by
 rw[hf R,hf Eff]
 cases f AV some<;>rfl
def ENat(en:Env):Prop:=∀g c,en.fns g=some c→CNat c
theorem PO(en:Env)(he:ENat en)(σ:St)(c:Call)(K:Eff→Option R):execCall en σ c K=(execCall en σ c some).bind K:=by
 unfold execCall
 split
 ·split
  ·split
   ·exact viaN (fun R K=>lenA _ _ _ K) (fun R K=>SU ..) (fun v=>⟨v,_,_⟩) K
   ·rfl
  ·rfl
 ·split
  ·exact viaN (fun R K=>mmA _ _ _ K) (fun R K=>OU ..) (fun v=>⟨v,_,_⟩) K
  ·rfl
 ·split
  ·exact viaN (fun R K=>mmA _ _ _ K) (fun R K=>OU ..) (fun v=>⟨v,_,_⟩) K
  ·rfl
 ·split
  ·split
   ·split
    ·split
     ·exact Rt ..
     ·rfl
    ·rfl
   ·rfl
  ·rfl
 ·rfl
 ·split
  ·split
   ·rename_i hg
    exact UZ _ (he _ _ hg) ..
   ·rfl
  ·rfl
 ·rfl
theorem IC(en:Env)(he:ENat en)(σ:St)(o:Oper)(K:Eff→Option R):execP en σ o K=(execP en σ o some).bind K:=by
 unfold execP
 dsimp only
 split
 ·rfl
 ·rfl
 ·split
  ·rename_i t _; cases t<;>rfl
  ·rfl
 ·split<;>rfl
 ·split<;>rfl
 ·split
  ·split
   ·rfl
   ·split<;>rfl
  ·rfl
 ·split
  ·split
   ·split
    ·split
     ·split<;>rfl
     ·rfl
    ·rfl
   ·rfl
  ·rfl
 ·split
  ·split
   ·split
    ·exact Tt ..
    ·rfl
   ·exact viaN (fun R K=>loadA _ _ _ K) (fun R K=>Qa ..) (fun v=>⟨v,_,_⟩) K
  ·rfl
 ·split
  ·split
   ·rfl
   ·split
    ·split<;>rfl
    ·rfl
  ·rfl
 ·split
  ·split
   ·split
    ·split
     ·split
      ·rfl
      ·exact Ua ..
     ·exact viaN (fun R K=>lookA _ _ _ _ _ _ K) (fun R K=>P7 ..) (fun v=>⟨v,_,_⟩) K
    ·rfl
   ·rfl
  ·rfl
 ·split
  ·split
   ·split
    ·exact X9 ..
    ·rfl
   ·rfl
  ·rfl
 ·split
  ·exact Tq ..
  ·rfl
 ·split<;>rfl
 ·split
  ·rfl
  ·exact viaN (fun R K=>binA _ _ _ _ K) (fun R K=>SS ..) (fun v=>⟨v,_,_⟩) K
 ·exact viaN (fun R K=>unA _ _ K) (fun R K=>US ..) (fun v=>⟨v,_,_⟩) K
 ·split
  ·exact viaN (fun R K=>convA _ _ _ _ K) (fun R K=>Q3 ..) (fun v=>⟨v,_,_⟩) K
  ·rfl
 ·split
  ·split<;>rfl
  ·rfl
 ·split
  ·split
   ·split
    ·exact Uw ..
    ·rfl
   ·rfl
  ·rfl
 ·split
  ·split
   ·split
    ·split
     ·split
      ·exact XE ..
      ·rfl
     ·rfl
    ·rfl
   ·exact viaN (fun R K=>sliceA _ _ _ _ _ _ _ K) (fun R K=>Ow ..) (fun v=>⟨v,_,_⟩) K
  ·rfl
 ·split
  ·exact viaN (fun R K=>fldA _ _ _ K) (fun R K=>Sf ..) (fun v=>⟨v,_,_⟩) K
  ·rfl
 ·split
  ·split
   ·split
    ·exact viaN (fun R K=>idxA _ _ _ _ K) (fun R K=>Sb ..) (fun v=>⟨v,_,_⟩) K
    ·rfl
   ·rfl
  ·rfl
 ·split
  ·split
   ·exact viaN (fun R K=>chrA _ _ K) (fun R K=>S7 ..) (fun v=>⟨v,_,_⟩) K
   ·rfl
  ·rfl
 ·split
  ·split<;>rfl
  ·rfl
 ·exact PO en he ..
 ·rfl
theorem Lw(en:Env)(he:ENat en)(σ:St)(o:Oper)(K:Eff→Option R):exec0 en σ o K=(exec0 en σ o some).bind K:=by
 unfold exec0
 split
 ·rfl
 split
 ·rfl
 split
 ·cases dstSh en o with
  | false=>exact IC en he σ o K
  | true =>
   simp only[cond_true]
   refine(IC en he σ o _).trans (Eq.symm ?_)
   refine(congrArg (fun x=>Option.bind x K) (IC en he σ o _)).trans ?_
   rw[Option.bind_assoc]
   congr 1
   funext e
   cases shalE σ.blks.length e<;>rfl
 ·rename_i t _
  refine(IC en he σ o _).trans (Eq.symm ?_)
  refine(congrArg (fun x=>Option.bind x K) (IC en he σ o _)).trans ?_
  rw[Option.bind_assoc]
  congr 1
  funext e
  cases frzE σ.blks.length t e<;>rfl
theorem Ko(en:Env)(he:ENat en)(σ:St)(o:Oper)(K:Eff→Option R):exec en σ o K=(exec en σ o some).bind K:=by
 unfold exec
 split
 ·split
  ·split
   ·rename_i bs _
    rw[Lw en he ⟨σ.slots,bs⟩ o,Lw en he ⟨σ.slots,bs⟩ o (fun e=>if e.mods.isEmpty=true then none else some e),Option.bind_assoc]
    congr 1
    funext e
    split<;>rfl
   ·rfl
  ·exact Lw en he σ o K
 ·exact Lw en he σ o K
end
end Go.Va
namespace Go.Va
structure StR (w:World) (g:G) (σ:St) (a:Act):Prop where
 heap:Heap w g σ.blks
 len:σ.slots.length=a.tmps.size
 slots:∀(i:Nat) (x:AV),σ.slots[i]?=some x→AVR w g σ.blks.length x (a.tmps.getD i undef)
structure Snd (P:Program) (σ:St) (o:Oper) (e:Eff):Prop where
 grow:σ.blks.length≤e.blks.length
 ext:e.mods=[]→∃l,e.blks=σ.blks++l
 wp:∀(a:Act) (w:World) (g:G),StR w g σ a→∀(next:Act→World→Prop) (Q:Exit→Act→World→Prop),
  (∀v w' g',Heap w' g' e.blks→AVR w' g' e.blks.length e.val v→Step e.mods σ.blks.length w g w' g'→next (a.put o.dst v) w')→o.wp P a w next Q
def Qt(P:Program)(σ:St)(o:Oper)(z:AV):Prop :=
 ∀(a:Act) (w:World) (g:G),StR w g σ a→∃c,(execOp a.eval o).run P w=.ok (.value c) w∧AVR w g σ.blks.length z c
theorem Mf{mods:List Nat}{sl:List AV}{i:Nat}{x:AV}(h:(dropS mods sl)[i]?=some x):∃y,sl[i]?=some y∧x=y.drop fun k=>mods.contains k:=by
 unfold dropS at h
 split at h
 ·exact⟨x,h,by rw[show(fun k=>([]:List Nat).contains k)=fun _=>false from funext fun _=>rfl,Nd]⟩
 ·rw[List.getElem?_map] at h
  cases hs:sl[i]? with
  | none=>rw[hs] at h; cases h
  | some y=>rw[hs] at h; injection h with h; exact⟨y,rfl,h.symm⟩
theorem Qu(mods:List Nat)(sl:List AV):(dropS mods sl).length=sl.length:=by unfold dropS; split<;>simp
theorem Np(d:Option Nat)(v:AV)(sl:List AV):(putS d v sl).length=sl.length:=by unfold putS; split<;>simp
theorem LP(a:Act)(d:Option Tmp)(v:Value):(a.put d v).tmps.size=a.tmps.size:=by cases d<;>simp[Act.put]
theorem Q5 {w:World} {g:G} {n:Nat} {sl:List AV} {a:Act} (hlen:sl.length=a.tmps.size) (h:∀(i:Nat) (x:AV),sl[i]?=some x→AVR w g n x (a.tmps.getD i undef)) {d:Option Nat} {x:AV} {v:Value} (hv:AVR w g n x v) :
    ∀(i:Nat) (y:AV),(putS d x sl)[i]?=some y→AVR w g n y ((a.put d v).tmps.getD i undef):=by
 intro i y hy
 cases d with
 | none=>exact h i y hy
 | some d =>
  simp only[putS] at hy
  rw[List.getElem?_set] at hy
  simp only[Act.put]
  split at hy
  ·rename_i he; subst he
   split at hy
   ·rename_i hd
    injection hy with hy; subst hy
    rw[hlen] at hd
    simpa [hd] using hv
   ·cases hy
  ·rename_i hne
   have:=h i y hy
   simpa [Array.getElem?_setIfInBounds_ne hne] using this
theorem StR.after {w w':World} {g g':G} {σ:St} {a:Act} {e:Eff} {d:Option Nat} {v:Value} (h:StR w g σ a) (hg:σ.blks.length≤e.blks.length) (hh:Heap w' g' e.blks) (hv:AVR w' g' e.blks.length e.val v)
    (hs:Step e.mods σ.blks.length w g w' g'):StR w' g' (σ.after d e) (a.put d v) where
 heap:=hh
 len:=by simp only[St.after,Np,Qu,LP]; exact h.len
 slots:=Q5 (by rw[Qu]; exact h.len) (fun i x hx=>by
  obtain⟨y,hy,rfl⟩:=Mf hx
  exact(h.slots i y hy).step hs hg) hv
section
variable {P:Program} {σ:St} {o:Oper} {en:Env}
theorem Snd.of_qt{z:AV}(h:Qt P σ o z):Snd P σ o ⟨z,σ.blks,[]⟩ where
 grow:=Nat.le_refl _
 ext _:=⟨[],(List.append_nil _).symm⟩
 wp a w g hs next Q hn:=by
  obtain⟨c,hc,hz⟩:=h a w g hs
  unfold Oper.wp
  rw[hc]
  exact hn c w g hs.heap hz (Step.refl _ _ _ _)
theorem viaN' {f:(R:Type)→(AV→Option R)→Option R} (hf:∀(R:Type) (K:AV→Option R),f R K=(f AV some).bind K) {g:AV→Eff} {e:Eff} (h:f Eff (fun v=>some (g v))=some e) :
    ∃z,f AV some=some z∧e=g z:=by
 rw[hf Eff] at h
 cases hz:f AV some with
 | none=>rw[hz] at h; cases h
 | some z=>rw[hz] at h; injection h with h; exact⟨z,rfl,h.symm⟩
theorem YQ{w:World}{g:G}{n:Nat}(v:Value):AVR w g n (constAV v) v:=by
 unfold constAV
 split
 ·exact Zl _ _
 ·exact NH _
 ·exact Y5 _
 ·exact Tb _
 ·exact Bg rfl (cs:=[_]) rfl (by simp[asVal,AV.isAgg])
 ·exact Lt
theorem Av{w:World}{g:G}{a:Act}(h:StR w g σ a)(x:Operand):AVR w g σ.blks.length (σ.opd x) (a.eval x):=by
 cases x with
 | tmp t =>
  simp only[St.opd,Act.eval]
  cases hx:σ.slots[t]? with
  | none=>exact Lt
  | some y=>exact h.slots t y hx
 | const v=>exact YQ v
 | func f=>exact Bg (a:=.fn f .nil) rfl (cs:=[_]) ⟨[],rfl,rfl⟩ (by simp[asVal,AV.isAgg,Act.eval])
 | global g=>exact Lt
theorem Mj{w:World}{g:G}{a:Act}(h:StR w g σ a)(x:Option Operand):OptR w g σ.blks.length (x.map σ.opd) (x.map a.eval):=by
 cases x with
 | none=>trivial
 | some x=>exact Av h x
theorem KM{z:AV}{s:(Operand→Value)→Sem Value}(he:∀ρ,execOp ρ o=(do pure (.value (←s ρ))))(h:∀(a:Act) (w:World) (g:G),StR w g σ a→Gives P w g σ.blks.length (s a.eval) z):Qt P σ o z:=by
 intro a w g hs
 obtain⟨c,hc,hz⟩:=h a w g hs
 exact⟨c,by rw[he]; simp[hc],hz⟩
theorem NV{v:Value}{cs:List Value}{b:Bool}(h:asVal b cs v)(h1:∀c∈cs,c.oneCell'=true):v.cells=cs.toArray:=by
 cases b with
 | true=>simp only[asVal,cond_true] at h; subst h; rfl
 | false =>
  simp only[asVal,cond_false] at h; subst h
  have:=h1 v (by simp)
  cases v<;>first | rfl | cases this
theorem MJ:∀{a:AV} {f:Nat} {v a':AV},a.setFld f v=some a'→a'.isAgg=true:=by
 intro a f v a' h
 cases a with
 | dat ks t x =>
  simp only[AV.setFld] at h
  cases t with
  | pair b c =>
   cases f with
   | zero=>simp only[setD,Option.some.injEq] at h; subst h; rfl
   | succ f =>
    simp only[setD] at h
    split at h
    ·injection h with h; subst h; rfl
    ·cases h
  | _=>cases f<;>simp[setD] at h
 | pr b c =>
  cases f with
  | zero=>simp only[AV.setFld,Option.some.injEq] at h; subst h; rfl
  | succ f =>
   simp only[AV.setFld] at h
   split at h
   ·injection h with h; subst h; rfl
   ·cases h
 | _=>cases f<;>simp[AV.setFld] at h
theorem VX{c0 c1 c2 vs:List Value}(h:vs.length=c1.length):(vs.toArray.zipIdx.foldl (fun cs (x:Value×Nat)=>cs.setIfInBounds (c0.length+x.2) x.1) (c0++c1++c2).toArray)=(c0++vs++c2).toArray:=by
 have e:vs.toArray.zipIdx.foldl (fun cs (x:Value×Nat)=>cs.setIfInBounds (c0.length+x.2) x.1) (c0++c1++c2).toArray=(vs.zipIdx 0).foldl (fun cs (x:Value×Nat)=>cs.setIfInBounds (c0.length+x.2) x.1) (c0++c1++c2).toArray:=by
  rw[←Array.foldl_toList,Array.toList_zipIdx]
 rw[e]
 obtain⟨h1,h2⟩:=Great.foldl_set c0.length vs 0 (c0++c1++c2).toArray
 apply Array.ext_getElem?
 intro k
 rw[h2 k]
 simp only[Nat.add_zero,List.size_toArray,List.length_append,List.getElem?_toArray]
 by_cases hk:c0.length≤k∧k<c0.length+vs.length∧k<c0.length+c1.length+c2.length
 ·rw[if_pos hk,List.append_assoc,List.getElem?_append_right hk.1,List.getElem?_append_left (by omega)]
 ·rw[if_neg hk]
  rcases Nat.lt_or_ge k c0.length with h' | h'
  ·rw[List.append_assoc,List.append_assoc,List.getElem?_append_left h',List.getElem?_append_left h']
  ·have:c0.length+vs.length≤k:=by omega
   rw[List.getElem?_append_right (by simp; omega),List.getElem?_append_right (by simp; omega)]
   simp[h]
theorem PR {ty:Ty}:∀{fs:List Field} {os:List Nat} {i:Nat},fldsOk P ty i fs os=true →
    ∃pl,fs.mapM (fun f=>(P.info? f.type).map fun i=>(f.offset,i.size))=some pl∧∀j o,os[j]?=some o→∃u,tyF ty (i+j)=some u∧pl[j]?=some (o,u.size)
 | [],[],_,_=>⟨[],rfl,fun j o h=>by simp at h⟩
 | f::fs,o::os,i,h=>by
  simp only[fldsOk,Bool.and_eq_true,beq_iff_eq] at h
  obtain⟨⟨⟨h1,_⟩,h3⟩,h4⟩:=h
  obtain⟨pl,hp,hq⟩:=PR h4
  split at h3
  ·rename_i u hu
   simp only[Bool.and_eq_true,beq_iff_eq] at h3
   cases hi:P.info? f.type with
   | none=>simp[hi] at h3
   | some inf =>
    simp[hi] at h3
    refine⟨(f.offset,inf.size)::pl,by simp[List.mapM_cons,hi,hp],fun j o' ho=>?_⟩
    cases j with
    | zero=>simp at ho; subst ho; exact⟨u,by simpa using hu,by simp[h1,h3.1]⟩
    | succ j =>
     obtain⟨u',h5,h6⟩:=hq j o' (by simpa using ho)
     exact⟨u',by rw[show i+(j+1)=i+1+j by omega]; exact h5,by simpa using h6⟩
  ·cases h3
 | [],_::_,_,h=>by simp[fldsOk] at h
 | _::_,[],_,h=>by simp[fldsOk] at h
theorem Vn{v:AV}(h:v.top=true):v.isUn=false∧v.isTup=false:=by cases v<;>simp_all [AV.top,AV.isUn,AV.isTup]
theorem Pi {w:World} {g:G} {n:Nat} {ti:TI} {pl:List (Nat×Nat)} (hpl:∀j o,ti.offs[j]?=some o→∃u,tyF ti.ty j=some u∧pl[j]?=some (o,u.size)) {ρ:Operand→AV} {ε:Operand→Value} (hρ:∀x,AVR w g n (ρ x) (ε x)) :
    ∀{ps:List (Nat×Operand)} {a z:AV} {cs:List Value},buildA ti a (ps.map fun p=>(p.1,ρ p.2))=some z→AVX w g n false a cs→a.isAgg=true →
     ∃cs',Instr.fill (pl.toArray[·]?) cs.toArray (ps.map fun p=>(p.1,ε p.2))=some cs'.toArray∧AVX w g n false z cs'∧z.isAgg=true
 | [],a,z,cs,h,hx,hg=>by
  simp only[List.map_nil,buildA,Option.some.injEq] at h; subst h
  exact⟨cs,rfl,hx,hg⟩
 | (f,x)::ps,a,z,cs,h,hx,hg=>by
  simp only[List.map_cons,buildA] at h
  split at h
  ·rename_i old hold
   split at h
   ·rename_i hc
    obtain⟨hsz,htop,hoff,hty⟩:=hc
    split at h
    ·rename_i a' ha'
     obtain⟨c0,c1,c2,e,ho,hx1,hs⟩:=Nn a f cs old hx hold
     obtain⟨hun,htup⟩:=Vn htop
     obtain⟨cv,hcv,hv⟩:=A0 htup hun (hρ x)
     have hvc:=NV hv hcv.one
     obtain⟨u,hu,hp⟩:=hpl f c0.length (by rw[←hoff]; exact ho)
     rw[hu] at hty
     simp only[Option.map_some,Option.some.injEq] at hty
     have hl1:cv.length=c1.length:=by rw[hcv.len,hx1.len,hsz]
     obtain⟨cs',hf,hz,hza⟩:=Pi hpl hρ h (hs _ _ _ ha' hcv) (MJ ha')
     refine⟨cs',?_,hz,hza⟩
     simp only[List.map_cons]
     unfold Instr.fill
     have hp':pl.toArray[f]?=some (c0.length,u.size):=by simpa using hp
     simp only[hp']
     have hcs:(ε x).cells.size=u.size:=by rw[hvc]; simp only[List.size_toArray]; rw[hcv.len]; omega
     have hfit:¬c0.length+(ε x).cells.size>cs.toArray.size:=by
      rw[hvc,e]; simp; omega
     simp only[hcs,ne_eq,not_true_eq_false,decide_false,Bool.false_or]
     rw[hcs] at hfit
     simp only[hfit,decide_false,Bool.false_eq_true,if_false]
     rw[←hf]
     congr 1
     rw[hvc,e]
     exact VX hl1
    ·cases h
   ·cases h
  ·cases h
end
end Go.Va
