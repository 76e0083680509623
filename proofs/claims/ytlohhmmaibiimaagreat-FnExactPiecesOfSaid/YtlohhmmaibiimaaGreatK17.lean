import Derived.Test.YtlohhmmaibiimaaGreatK16
set_option linter.unusedVariables false
set_option linter.unusedSimpArgs false
namespace Go.Proofs.X
open Go Go.Va
set_option maxRecDepth 100000
def pcV(L:Axz)(B1 B2:List Bt)(a b:Nat):Axn:=(Vz L B1 a b,Vz L B2 a b,((b-a:Nat):Int),())
def PP(L:Axz)(B1 B2:List Bt):Nat->Axu->AxB
 | _,[]=>[]
 | a,b::r=>pcV L B1 B2 a b::PP L B1 B2 b r
def Lb(a:Nat)(l:Axu):Nat:=l.getLastD a
theorem ZJ(L:Axz)(B1 B2:List Bt):∀(l:Axu) (a p:Nat),PP L B1 B2 a (l++[p])=PP L B1 B2 a l++[pcV L B1 B2 (Lb a l) p]
 | [],a,p=>rfl
 | x::l,a,p=>by
  have e:Lb a (x::l)=Lb x l:=by cases l<;>rfl
  rw[e];show _::PP L B1 B2 x (l++[p])=_;rw[ZJ L B1 B2 l x p];rfl
theorem ZI(L:Axz)(B1 B2:List Bt):∀(l:Axu) (a:Nat),(PP L B1 B2 a l).length=l.length
 | [],_=>rfl
 | _::l,_=>by simp[PP,ZI L B1 B2 l]
theorem vg{L:Axz}{B1 B2:List Bt}:∀{l:Axu} {a:Nat} {x:Axn},x∈PP L B1 B2 a l->∃a' b',b'∈l/\x=pcV L B1 B2 a' b'
 | b::l,a,x,h=>by
  rcases List.mem_cons.1 h with rfl | h
  ·exact⟨a,b,List.mem_cons_self,rfl⟩
  ·obtain⟨a',b',h1,h2⟩:=vg h;exact⟨a',b',List.mem_cons_of_mem _ h1,h2⟩
def eL(B1 B2:List Bt)(h:Nat->Nat->Bool)(p:Nat):Axu:=(List.range p).filter λq=>decide (1<=q)&&Ya B1 B2 h q
section
variable {B1 B2:List Bt} {h:Nat->Nat->Bool}
theorem Z1(p:Nat)(hp:1<=p):eL B1 B2 h (p+1)=if Ya B1 B2 h p then eL B1 B2 h p++[p] else eL B1 B2 h p:=by
 unfold eL;rw[List.range_succ,List.filter_append];cases hq:Ya B1 B2 h p<;>simp[hp,hq]
theorem zi:eL B1 B2 h 1=[]:=by simp[eL,List.range_succ]
theorem Rv{p q:Nat}:q∈eL B1 B2 h p↔q<p/\1<=q/\Ya B1 B2 h q=true:=by
 unfold eL;rw[List.mem_filter,List.mem_range];simp
theorem YL(p:Nat):(eL B1 B2 h p).Pairwise (·<·):=(List.pairwise_lt_range (n:=p)).filter _
theorem kU(p:Nat):(eL B1 B2 h p).length<=p:=by
 unfold eL;exact Nat.le_trans (List.length_filter_le _ _) (by simp)
theorem Y7:∀{l:Axu} {a:Nat},l.Pairwise (·<·)->(∀q∈l,q<=Lb a l)/\(Lb a l=a/\l=[]\/Lb a l∈l)
 | [],a,_=>⟨λq hq=>(by cases hq),.inl ⟨rfl,rfl⟩⟩
 | x::l,a,hs=>by
  have e:Lb a (x::l)=Lb x l:=by cases l<;>rfl
  rw[List.pairwise_cons] at hs;obtain⟨h1,h2⟩:=Y7 (a:=x) hs.2;rw[e];refine⟨λq hq=>?_,?_⟩
  ·rcases List.mem_cons.1 hq with rfl | hq
   ·rcases h2 with ⟨h2,_⟩| h2
    ·omega
    ·have:=hs.1 _ h2;omega
   ·exact h1 q hq
  ·rcases h2 with ⟨h2,_⟩| h2
   ·rw[h2];exact .inr List.mem_cons_self
   ·exact .inr (List.mem_cons_of_mem _ h2)
theorem kZ{p:Nat}(hp:1<=p)(hle:p<=B1.length)(hto:p=B1.length\/Ya B1 B2 h p=true):Gap B1 B2 h (Lb 0 (eL B1 B2 h p)) p:=by
 obtain⟨h1,h2⟩:=Y7 (a:=0) (YL (B1:=B1) (B2:=B2) (h:=h) p);refine⟨?_,hle,λq hq1 hq2=>?_,?_,hto⟩
 ·rcases h2 with ⟨h2,_⟩| h2
  ·omega
  ·exact(Rv.1 h2).1
 ·cases hq:Ya B1 B2 h q with
  | false=>rfl
  | true=>have:=h1 q (Rv.2 ⟨hq2,by omega,hq⟩);omega
 ·rcases h2 with ⟨h2,_⟩| h2
  ·exact .inl h2
  ·exact .inr (Rv.1 h2).2.2
theorem Z2:∀(n:Nat) {i:Nat} (hi:i<(eL B1 B2 h n).length),(eL B1 B2 h n).take i=eL B1 B2 h ((eL B1 B2 h n)[i])
 | 0,i,hi=>by simp[eL] at hi
 | 1,i,hi=>by rw[zi] at hi;simp at hi
 | n+2,i,hi=>by
  have es:=Z1 (B1:=B1) (B2:=B2) (h:=h) (n+1) (by omega);cases hq:Ya B1 B2 h (n+1) with
  | false =>
   rw[hq] at es;simp only[Bool.false_eq_true,if_false] at es;simp only[es] at hi ⊢;exact Z2 (n+1) hi
  | true =>
   rw[hq] at es;simp only[if_true] at es;simp only[es] at hi ⊢;rw[Aw0,List.length_singleton] at hi;rcases Aw7 i (eL B1 B2 h (n+1)).length with hlt | hge
   ·rw[List.take_append_of_le_length (by omega),List.getElem_append_left hlt];exact Z2 (n+1) hlt
   ·have:i=(eL B1 B2 h (n+1)).length:=by omega
    subst this;simp
end
section
variable {d:Axw} {c:AxD} {B1 B2:List Bt}
theorem YV(hd:AA d)(hc:Ct d c)(h1:A1 d B1)(h2:A1 d B2)(hl:B1.length=B2.length)(hst:qB d B1 B2 (C0 c)){a b:Nat}(g:Gap B1 B2 (C0 c) a b):(∃i k,Side d c B1 a b i k)/\∃i k,Side d c B2 a b i k:=by
 have hno:∀q,a<q->q<b->N2 B1 (C0 c) q=false/\N2 B2 (C0 c) q=false:=λq q1 q2=>by
  have:=g.no q q1 q2;unfold Ya at this;rwa [Bool.or_eq_false_iff] at this
 have hboth:∀q,1<=q->q<B1.length->Ya B1 B2 (C0 c) q=true->(Xe (OC B1 q)=true->N2 B1 (C0 c) q=true)/\(Xe (OC B2 q)=true->N2 B2 (C0 c) q=true):=λq q1 q2 hq=>by
  have hs:=hst.2 q q1 q2;unfold Ya at hq;rw[Bool.or_eq_true] at hq;rcases hq with hq | hq
  ·exact⟨λ_=>hq,hs.1 hq⟩
  ·exact⟨hs.2 hq,λ_=>hq⟩
 have hlt:=g.lt;have hle:=g.le;constructor
 ·refine p9 (B':=B2) hd hc h1 hl g.lt g.le (λq q1 q2=>(hno q q1 q2).1) ?_ ?_ λx hx=>hst.1 x (List.mem_append_left _ hx)
  ·rcases Nat.eq_zero_or_pos a with h0 | h0
   ·exact .inl h0
   ·exact .inr (hboth a h0 (by omega) (g.fr.resolve_left (by omega))).1
  ·rcases g.to with e | e
   ·exact .inl e
   ·rcases Aw7 b B1.length with hb | hb
    ·exact .inr (hboth b (by omega) hb e).1
    ·exact .inl (by omega)
 ·refine p9 (B':=B1) hd hc h2 hl.symm g.lt (by omega) (λq q1 q2=>(hno q q1 q2).2) ?_ ?_ λx hx=>hst.1 x (List.mem_append_right _ hx)
  ·rcases Nat.eq_zero_or_pos a with h0 | h0
   ·exact .inl h0
   ·exact .inr (hboth a h0 (by omega) (g.fr.resolve_left (by omega))).2
  ·rcases g.to with e | e
   ·exact .inl (by omega)
   ·rcases Aw7 b B1.length with hb | hb
    ·exact .inr (hboth b (by omega) hb e).2
    ·exact .inl (by omega)
theorem iJ{B:List Bt}(h:A1 d B):1<=(norm B).length:=by
 rcases Nat.eq_zero_or_pos (norm B).length with h0 | h0
 ·have e:norm B=[]:=List.eq_nil_of_length_eq_zero h0;have:=Bv B;rw[e] at this;have:=h.1;simp[AO] at *;omega
 ·exact h0
theorem Ass{B:List Bt}(h:A1 d B):fst B 0=true:=by
 have hp:=iJ h;have:=(NW (f:=norm B) (i:=0) (k:=0) (by omega) (B6 B _ (Az (z:=Sg.co []) (show 0<(norm B).length by omega)))).2.1;rw[List.take_zero] at this;exact this
theorem X6 (hd:AA d) (hc:Ct d c) (hb:OO c) (h1:A1 d B1) (h2:A1 d B2) (hl:B1.length=B2.length) (hst:qB d B1 B2 (C0 c)) :
    Me (fN B1) (fN B2) (c,()) (jS (SL d c d.length) (SL d c d.length).length)=some (jS (SL d c d.length) (SL d c d.length).length,PP (SL d c d.length) B1 B2 0 (eL B1 B2 (C0 c) B1.length++[B1.length])):=by
 unfold Me;have hn1:=h1.1;have hn2:=h1.2.1;have pl:∀{B:List Bt},A1 d B->(HA c (norm B) (norm B).length).length<=20000000/\1<=(HA c (norm B) (norm B).length).length:=λ{B} h=>by
  have hlen:=BW (B6 B);rw[Bv] at hlen;have hbl:=h.2.1;have q1:(HA c (norm B) (norm B).length).length<=4097*(norm B).length:=QG λi hi=>pQ hd hc (RR h (Az hi)).1 _;refine⟨by omega,?_⟩;have hp:=iJ h;have:((AO ((norm B).take 0):Nat):Int)∈HA c (norm B) (norm B).length:=List.mem_flatMap.2 ⟨0,List.mem_range.2 (by omega),List.mem_cons_self⟩;exact List.length_pos_of_mem this
 have p1:=pl h1;have p2:=pl h2;rw[iN hd hc hb h1,AwW,iN hd hc hb h2,AwW,ZX p1.2 (by omega) (by omega),AwW,if_pos (by rw[Aw0];omega),Abx h1,AwW];have hu:Li (Mh (HA c (norm B1) (norm B1).length++HA c (norm B2) (norm B2).length))=(0::eL B1 B2 (C0 c) B1.length).map Int.ofNat:=by
  obtain⟨u1,u2⟩:=jJ (HA c (norm B1) (norm B1).length++HA c (norm B2) (norm B2).length);refine TA (λ_ _ h=>h) u1 ?_ λx=>?_
  ·rw[List.pairwise_map,List.pairwise_cons];refine⟨λq hq=>?_,(YL _).imp λ{a b} h=>?_⟩
   ·have:=(Rv.1 hq).2.1;show((0:Nat):Int)<(q:Int);omega
   ·show(a:Int)<(b:Int);omega
  ·rw[u2,List.mem_append,Zl hd hc h1,Zl hd hc h2,List.mem_map];constructor
   ·intro hx;have:∃p:Nat,x=(p:Int)/\p<B1.length/\Ya B1 B2 (C0 c) p=true:=by
     rcases hx with ⟨p,e,hp,hq⟩| ⟨p,e,hp,hq⟩
     ·exact⟨p,e,hp,by unfold Ya;rw[hq];rfl⟩
     ·exact⟨p,e,by omega,by unfold Ya;rw[hq];simp⟩
    obtain⟨p,rfl,hp,hq⟩:=this;refine⟨p,?_,rfl⟩;rcases Nat.eq_zero_or_pos p with h0 | h0
    ·rw[h0];exact List.mem_cons_self
    ·exact List.mem_cons_of_mem _ (Rv.2 ⟨hp,h0,hq⟩)
   ·rintro⟨p,hp,rfl⟩
    rcases List.mem_cons.1 hp with rfl | hp
    ·exact .inl ⟨0,rfl,by omega,by unfold N2;rw[Ass h1];rfl⟩
    ·obtain⟨q1,q2,q3⟩:=Rv.1 hp;unfold Ya at q3;rw[Bool.or_eq_true] at q3;rcases q3 with q3 | q3
     ·exact .inl ⟨p,rfl,q1,q3⟩
     ·exact .inr ⟨p,rfl,by omega,q3⟩
 rw[hu];generalize hE:eL B1 B2 (C0 c) B1.length=E;have hEl:E.length<=4096:=by rw[<-hE];have:=kU (B1:=B1) (B2:=B2) (h:=C0 c) B1.length;omega
 have hll:(((0::E).map Int.ofNat)++[(B1.length:Int)]).length=E.length+2:=by simp
 have hw:wI (((((0::E).map Int.ofNat)++[(B1.length:Int)]).length:Int)-1)=((E.length+1:Nat):Int):=wrapN (by rw[hll];omega) (by omega);rw[if_pos (by simp;omega),hw,if_pos ⟨by omega,by omega,by rw[hll];omega⟩,AwX,List.drop_zero];have ht:((((0::E).map Int.ofNat)++[(B1.length:Int)]).take (E.length+1))=(0::E).map Int.ofNat:=by
  rw[List.take_append_of_le_length (by simp)];exact Aw6 (by simp)
 rw[ht];have hml:(((0::E).map Int.ofNat).length:Int)=((E.length+1:Nat):Int):=by simp
 rw[hml];have hloop:MA (fN B1) (fN B2) (((0::E).map Int.ofNat)++[(B1.length:Int)]) ((0::E).map Int.ofNat) ((E.length+1:Nat):Int) 0 (jS (SL d c d.length) (SL d c d.length).length) []=some (jS (SL d c d.length) (SL d c d.length).length,PP (SL d c d.length) B1 B2 0 (E++[B1.length])):=by
  unfold MA;have:=AJ (f:=EM (fN B1) (fN B2) (((0::E).map Int.ofNat)++[(B1.length:Int)]) ((0::E).map Int.ofNat) ((E.length+1:Nat):Int)) (λi=>((i:Int),jS (SL d c d.length) (SL d c d.length).length,PP (SL d c d.length) B1 B2 0 ((E++[B1.length]).take i))) (t:=(jS (SL d c d.length) (SL d c d.length).length,PP (SL d c d.length) B1 B2 0 (E++[B1.length]))) (E.length+1) (λi hi=>?_) ?_
  ·exact this
  ·unfold EM Kd;have Av3:(E++[B1.length]).length=E.length+1:=by simp
   obtain⟨p,hp⟩:∃p,p=(E++[B1.length]).getD i 0:=⟨_,rfl⟩;have ka:((0::E).map Int.ofNat).getD i (Ty.zero (.int .i64))=((Lb 0 ((E++[B1.length]).take i):Nat):Int):=by
    match i,hi with
    | 0,_=>rfl
    | j+1,hj =>
     have hjE:j<E.length:=by omega
     have e1:((0::E).map Int.ofNat).getD (j+1) (Ty.zero (.int .i64))=((E.getD j 0:Nat):Int):=by simp[List.getD,hjE]
     rw[e1,List.take_append_of_le_length (by omega),AG (z:=0) hjE];rw[show Lb 0 (E.take j++[E.getD j 0])=E.getD j 0 from List.getLastD_concat]
   have kb:(((0::E).map Int.ofNat)++[(B1.length:Int)]).getD (i+1) (Ty.zero (.int .i64))=(p:Int):=by
    rw[hp];have e1:((0::E).map Int.ofNat)++[(B1.length:Int)]=0::(E++[B1.length]).map Int.ofNat:=by simp
    rw[e1];simp only[List.getD,List.getElem?_cons_succ,List.getElem?_map];have:(E++[B1.length])[i]?=some ((E++[B1.length])[i]'(by omega)):=List.getElem?_eq_getElem (by omega);rw[this];rfl
   have gap:Gap B1 B2 (C0 c) (Lb 0 ((E++[B1.length]).take i)) p:=by
    rcases Aw7 i E.length with hlt | hge
    ·have hpe:p=E[i]:=by rw[hp];simp only[List.getD];rw[List.getElem?_append_left hlt,List.getElem?_eq_getElem hlt];rfl
     have hm:p∈E:=by rw[hpe];exact List.getElem_mem hlt
     rw[<-hE] at hm;obtain⟨m1,m2,m3⟩:=Rv.1 hm;have ht2:(E++[B1.length]).take i=eL B1 B2 (C0 c) p:=by
      rw[List.take_append_of_le_length (by omega),hpe];subst hE;exact Z2 _ hlt
     rw[ht2];exact kZ m2 (by omega) (.inr m3)
    ·have hie:i=E.length:=by omega
     have hpe:p=B1.length:=by rw[hp,hie];simp[List.getD]
     have ht2:(E++[B1.length]).take i=eL B1 B2 (C0 c) p:=by
      rw[hie,List.take_append_of_le_length (Aw2 _),Aw6 (Aw2 _),<-hE,hpe]
     rw[ht2];exact kZ (by omega) (by omega) (.inl hpe)
   obtain⟨⟨i1,k1,s1⟩,⟨i2,k2,s2⟩⟩:=YV hd hc h1 h2 hl hst gap;obtain⟨r1,a1,a2,a3⟩:=VJ hd h1 s1;obtain⟨r2,b1,b2,b3⟩:=VJ hd h2 s2;have hgl:=gap.lt;have Awh:=gap.le;have hwd:wI ((p:Int)-((Lb 0 ((E++[B1.length]).take i):Nat):Int))=((p-Lb 0 ((E++[B1.length]).take i):Nat):Int):=wrapN (by omega) (by omega);have hi1:wI ((i:Int)+1)=((i+1:Nat):Int):=wrapN (by omega) (by omega);simp only[hi1,AwX,ka,kb,hwd];have hPl:(PP (SL d c d.length) B1 B2 0 ((E++[B1.length]).take i)).length<=5000:=by rw[ZI,List.length_take];omega
   rw[show decide ((i:Int)<((E.length+1:Nat):Int))=true from Aw1 (by omega),Axc,Aw8,if_pos (rng (by simp;omega)),if_pos (rng (by simp;omega))];rw[<-Axd,a1,AwW];simp only[a2];rw[<-Axd,b1,AwW,if_pos (by simp only[Aw0,List.length_cons,List.length_nil];omega)];simp only[b2,a3,b3];rw[AG (z:=0) (by omega),ZJ,<-hp];rfl
  ·unfold EM Kd;simp only;rw[Ff,Axb,Aw6 (by simp)]
 rw[hloop];rfl
def eX(B1 B2:List Bt)(h:Nat->Nat->Bool)(p:Nat):Axu:=if p<=B1.length then eL B1 B2 h p else eL B1 B2 h B1.length++[B1.length]
theorem Ym (hd:AA d) (hc:Ct d c) (h1:A1 d B1) (h2:A1 d B2) (hl:B1.length=B2.length) (hst:qB d B1 B2 (C0 c)) :
    I7 (M d 1 (C0 c)) (NM d (SL d c d.length) (SL d c d.length).length) (SL d c d.length) (bV B1) (Q4 (norm B1)) (bV B2) (Q4 (norm B2)) 0 1 []=some (.inr (PP (SL d c d.length) B1 B2 0 (eL B1 B2 (C0 c) B1.length++[B1.length]))):=by
 unfold I7;have hn1:=h1.1;have hn2:=h1.2.1;have:=AJ (f:=CQ (M d 1 (C0 c)) (NM d (SL d c d.length) (SL d c d.length).length) (SL d c d.length) (bV B1) (Q4 (norm B1)) (bV B2) (Q4 (norm B2))) (λj=>(((Lb 0 (eX B1 B2 (C0 c) (j+1)):Nat):Int),((j+1:Nat):Int),PP (SL d c d.length) B1 B2 0 (eX B1 B2 (C0 c) (j+1)))) (t:=.inr (PP (SL d c d.length) B1 B2 0 (eL B1 B2 (C0 c) B1.length++[B1.length]))) B1.length (λj hj=>?_) ?_
 ·have e0:eX B1 B2 (C0 c) (0+1)=[]:=by unfold eX;rw[if_pos (by omega)];exact zi
  simp only[e0] at this;exact this
 ·unfold CQ G0;have eX1:eX B1 B2 (C0 c) (j+1)=eL B1 B2 (C0 c) (j+1):=by unfold eX;rw[if_pos (by omega)]
  have hPl:(PP (SL d c d.length) B1 B2 0 (eL B1 B2 (C0 c) (j+1))).length<=5000:=by rw[ZI];have:=kU (B1:=B1) (B2:=B2) (h:=C0 c) (j+1);omega
  simp only[eX1];rw[Cb,show decide (((j+1:Nat):Int)<=(B1.length:Int))=true from Aw1 (by omega),Axc];by_cases hcut:j+1=B1.length\/Ya B1 B2 (C0 c) (j+1)=true
  ·have e7:Da (M d 1 (C0 c)) (NM d (SL d c d.length) (SL d c d.length).length) (SL d c d.length) ((Lb 0 (eL B1 B2 (C0 c) (j+1)):Nat):Int) ((j+1:Nat):Int) (PP (SL d c d.length) B1 B2 0 (eL B1 B2 (C0 c) (j+1))) (bV B1) (Q4 (norm B1)) (bV B2) (Q4 (norm B2))=some (.inr ()):=by
     unfold Da;rw[Cb];rcases Aw7 (j+1) B1.length with hlt | hge
     ·have hq:=hcut.resolve_left (by omega);unfold Ya at hq;rw[show decide (((j+1:Nat):Int)<(B1.length:Int))=true from Aw1 (by omega),Axc,NA hd h1 hlt,AwW];cases hA:N2 B1 (C0 c) (j+1) with
      | true=>rfl
      | false =>
       rw[hA,Bool.false_or] at hq;rw[Bool.not_false,Axc,NA hd h2 (by omega),AwW,hq];rfl
     ·rw[show decide (((j+1:Nat):Int)<(B1.length:Int))=false from AwZ (by omega),Axb]
   have gap:=kZ (B1:=B1) (B2:=B2) (h:=C0 c) (show 1<=j+1 by omega) (by omega) hcut;obtain⟨⟨i1,k1,s1⟩,⟨i2,k2,s2⟩⟩:=YV hd hc h1 h2 hl hst gap;obtain⟨r1,a1,a2,a3⟩:=VW hd h1 s1;obtain⟨r2,b1,b2,b3⟩:=VW hd h2 s2;have hgl:=gap.lt;have hwd:wI (((j+1:Nat):Int)-((Lb 0 (eL B1 B2 (C0 c) (j+1)):Nat):Int))=((j+1-Lb 0 (eL B1 B2 (C0 c) (j+1)):Nat):Int):=wrapN (by omega) (by omega);unfold Hk N8;rw[e7,AwW];simp only[Sum.elim_inr];rw[a1,AwW,b1,AwW];simp only[a2,b2,hwd,Bool.not_true,Bool.or_false,Axb];rw[if_pos (by simp only[Aw0,List.length_cons,List.length_nil];omega),AwW];simp only[Sum.elim_inl,a3,b3];have eX2:eX B1 B2 (C0 c) (j+1+1)=eL B1 B2 (C0 c) (j+1)++[j+1]:=by
    unfold eX;rcases Aw7 (j+1) B1.length with hlt | hge
    ·rw[if_pos (by omega),Z1 _ (by omega),if_pos (hcut.resolve_left (by omega))]
    ·rw[if_neg (by omega),show B1.length=j+1 by omega]
   rw[eX2,ZJ,wrapN (x:=((j+1:Nat):Int)+1) (n:=j+1+1) (by omega) (by omega)];have:Lb 0 (eL B1 B2 (C0 c) (j+1)++[j+1])=j+1:=by unfold Lb;simp
   rw[this];rfl
  ·have hcut':j+1<B1.length/\Ya B1 B2 (C0 c) (j+1)=false:=by
     rw[not_or] at hcut;exact⟨by omega,by simpa using hcut.2⟩
   have hq:=hcut'.2;unfold Ya at hq;rw[Bool.or_eq_false_iff] at hq;have e7:Da (M d 1 (C0 c)) (NM d (SL d c d.length) (SL d c d.length).length) (SL d c d.length) ((Lb 0 (eL B1 B2 (C0 c) (j+1)):Nat):Int) ((j+1:Nat):Int) (PP (SL d c d.length) B1 B2 0 (eL B1 B2 (C0 c) (j+1))) (bV B1) (Q4 (norm B1)) (bV B2) (Q4 (norm B2))=some (.inl ()):=by
    unfold Da;rw[Cb,show decide (((j+1:Nat):Int)<(B1.length:Int))=true from Aw1 (by omega),Axc,NA hd h1 hcut'.1,AwW,hq.1,Bool.not_false,Axc,NA hd h2 (by omega),AwW,hq.2];rfl
   unfold Hk;rw[e7,AwW];simp only[Sum.elim_inl];rw[AwW];simp only[Sum.elim_inl];have eX2:eX B1 B2 (C0 c) (j+1+1)=eL B1 B2 (C0 c) (j+1):=by
    unfold eX;rw[if_pos (by omega),Z1 _ (by omega),hcut'.2];rfl
   rw[eX2,wrapN (x:=((j+1:Nat):Int)+1) (n:=j+1+1) (by omega) (by omega)]
 ·unfold CQ G0;have eX1:eX B1 B2 (C0 c) (B1.length+1)=eL B1 B2 (C0 c) B1.length++[B1.length]:=by unfold eX;rw[if_neg (by omega)]
  simp only[eX1];rw[Cb,show decide (((B1.length+1:Nat):Int)<=(B1.length:Int))=false from AwZ (by omega),Axb]
end
end Go.Proofs.X
namespace Go.Proofs.X
open Go Go.Va
set_option maxRecDepth 100000
section
end
end Go.Proofs.X
namespace Go.Va
open Go.Proofs.X
theorem AhI {A B:Type} {F:A->Int->Option Int} {G:B->Int->Option Int} {x:A} {y:B} {m n:Nat} (hF:∀left:Int,0<=left->left<=1048576->F x left=some (if(m:Int)<=left then left-(m:Int) else -1)) (hG:∀left:Int,0<=left->left<=1048576->G y left=some (if(n:Int)<=left then left-(n:Int) else -1)) {left:Int} (h0:0<=left) (h1:left<=1048576) :
    ((F x left).bind λc=>bif decide (c<0) then some (-1) else(G y c).bind λd=>bif decide (d<0) then some (-1) else some d)=some (if((m+n:Nat):Int)<=left then left-((m+n:Nat):Int) else -1):=by
 rw[hF left h0 h1,AwW];split
 ·rw[AwZ (by omega),Axb,hG _ (by omega) (by omega),AwW];split
  ·rw[AwZ (by omega),Axb,if_pos (by omega)];congr 1;omega
  ·rw[if_neg (by omega)];rfl
 ·rw[if_neg (by omega)];rfl
theorem Abl {A:Type} {F:A->Int->Option Int} {x:A} {m:Nat} (hF:∀left:Int,0<=left->left<=1048576->F x left=some (if(m:Int)<=left then left-(m:Int) else -1)) {left:Int} (h0:0<=left) (h1:left<=1048576) :
    ((F x left).bind λc=>bif decide (c<0) then some (-1) else some c)=some (if(m:Int)<=left then left-(m:Int) else -1):=by
 rw[hF left h0 h1,AwW];split
 ·rw[AwZ (by omega),Axb]
 ·rfl
theorem AdO{m:Nat}{left:Int}(h0:0<=left)(h1:left<=1048576)(hn:m<=maxLen):(bif decide ((wI (left-(m:Int)))<0) then(-1) else wI (left-(m:Int)))=if(m:Int)<=left then left-(m:Int) else -1:=by
 unfold maxLen at hn;rw[wrap64 (by omega) (by omega)];split
 ·rw[show decide (left-(m:Int)<0)=false by simp;omega];rfl
 ·rw[show decide (left-(m:Int)<0)=true by simp;omega];rfl
theorem XP {A E:Type} {F:A->Option E} {mk:E->A} {z:A} {z0:A} {r:Int×List A->Option ((Int×List A)⊕List A)} {a:List A}
    (hr:∀x,r x=bif decide (x.1<(a.length:Int)) then(if(0:Int)<=x.1/\x.1<(a.length:Int) then(F (a.getD x.1.toNat z)).bind λe=>(if(0:Int)<=x.1/\x.1<(x.2.length:Int) then some (.inl (wI (x.1+1),x.2.set x.1.toNat (mk e))) else none) else none) else some (.inr x.2))
    (hn:a.length<=1048576) (hF:∀x∈a,∃e,F x=some e/\mk e=x):fix r (0,List.replicate a.length z0)=some a:=by
 have:=AJ (f:=r) (λk=>((k:Int),Go.Proofs.X.Bn (λi=>a.getD i z) z0 a.length k)) (t:=a) a.length (λk hk=>by
  rw[hr];simp only;obtain⟨e,he,hm⟩:=hF (a.getD k z) (by simp[List.getD,hk]);rw[EE hk,Axc,if_pos (rng hk),AwX,he,AwW,Go.Proofs.X.EI,if_pos (rng hk),hm];rw[show wI ((k:Int)+1)=((k+1:Nat):Int) from Go.Proofs.X.AY hk hn,Go.Proofs.X.L8 (λi=>a.getD i z) z0]) (by
  rw[hr];simp only;rw[Ff,Axb,Go.Proofs.X.W2])
 have h:fix r (((0:Nat):Int),Go.Proofs.X.Bn (λi=>a.getD i z) z0 a.length 0)=some a:=this;rw[Go.Proofs.X.Jq] at h;exact h
end Go.Va
namespace Go.Proofs.X
open Go Go.Va
set_option maxRecDepth 100000
theorem tT{a:Axh}(h:Ty.Wf Ab a):UE Ab (λx l=>some (Gd x l)) a:=λleft h0 h1=>by
 show some (Gd a left)=_;unfold Gd;rw[AdO h0 h1 h.1];rfl
theorem mW{a:Axw}(h:Ty.Wf (.sl Ab) a):UE (.sl Ab) ME a :=
 mX (z :=Ab.zero) (r:=IZ) (λ_ _=>rfl) (λ_ _=>rfl) h.1 λx hx=>tT (h.2 x hx)
theorem tO{a:Axq}(h:Ty.Wf Am a):UE Am (λx l=>some (BF x l)) a:=λleft h0 h1=>by
 have hu:=bY h.2.1.1 left h0 h1;have e:wt Am a=wt (.sl (.int .u64)) a.2.1:=by show 0+(_+0)=_;omega
 show some (BF a left)=_;unfold BF;rw[e];have hu':Bo a.2.1 left=_:=Option.some.inj hu;rw[hu'];congr 1;split
 ·rw[AwZ (by omega),Axb]
 ·rfl
theorem mY{a:Axj}(h:Ty.Wf Ae a):UE Ae (λx l=>some (Ev x l)) a:=λleft h0 h1=>by
 have hb:=tO h.2.2.2.2.1 left h0 h1;have hb':BF a.2.2.2.2.1 left=_:=Option.some.inj hb;have hi:∀l:Int,0<=l->l<=1048576->A9 a.2.2.2.2.2.1 l=_:=λl h0 h1=>Option.some.inj (VZ h.2.2.2.2.2.1.1 l h0 h1);have e:wt Ae a=wt Am a.2.2.2.2.1+wt (.sl (.int .i64)) a.2.2.2.2.2.1:=by show 0+(0+(0+(0+(_+(_+0)))))=_;omega
 show some (Ev a left)=_;unfold Ev;rw[hb',e];congr 1;generalize wt Am a.2.2.2.2.1=m at *;by_cases hm:(m:Int)<=left
 ·rw[if_pos hm,AwZ (by omega),Axb,hi _ (by omega) (by omega)];generalize wt (.sl (.int .i64)) a.2.2.2.2.2.1=n at *;by_cases hn:(n:Int)<=left-(m:Int)
  ·rw[if_pos hn,AwZ (by omega),Axb,if_pos (by omega)];omega
  ·rw[if_neg hn,if_neg (by omega)];rfl
 ·rw[if_neg hm,if_neg (by omega)];rfl
theorem jD{a:Axy}(h:Ty.Wf (.sl Ae) a):UE (.sl Ae) Iz a :=
 mX (z :=Ae.zero) (r:=HZ) (λ_ _=>rfl) (λ_ _=>rfl) h.1 λx hx=>mY (h.2 x hx)
theorem Zz{a:Axp}(h:Ty.Wf Ak a):UE Ak Hy a:=λleft h0 h1 =>
 Abl (F:=Iz) (x:=a.1) (jD h.1) h0 h1
theorem bX{a:Axl}(h:Ty.Wf Ag a):UE Ag JF a:=λleft h0 h1=>by
 have e:wt Ag a=wt Ak a.2.2.1+wt Ak a.2.2.2.1:=by show 0+(0+(_+(_+0)))=_;omega
 rw[e];exact AhI (F:=Hy) (G:=Hy) (Zz h.2.2.1) (Zz h.2.2.2.1) h0 h1
theorem Vu{t:Ty}(a:List t.V):a.length<=wt (.sl t) a:=Nat.le_add_right _ _
theorem AbA{t:Ty}{a:List t.V}{x:t.V}(h:x∈a):wt t x<=wt (.sl t) a:=by
 show _<=a.length+(a.map (wt t)).sum;have:∀l:List t.V,x∈l->wt t x<=(l.map (wt t)).sum:=λl hl=>by
  induction l with
  | nil=>cases hl
  | cons y l ih =>
   simp only[List.map_cons,List.sum_cons];rcases List.mem_cons.1 hl with rfl | hl
   ·omega
   ·have:=ih hl;omega
 have:=this a h;omega
theorem Ahz{n:Axj}(hw:Ty.Wf Ae n)(h:wt Ae n<=1048576):Rl n:=by
 have e:wt Ae n=wt (.sl (.int .u64)) (VQ n)+wt (.sl (.int .i64)) (Av n):=by show 0+(0+(0+(0+((0+(_+0))+(_+0)))))=_;unfold VQ Av;omega
 rw[e,nD,nC] at h;exact⟨by omega,by omega,Abz hw.2.2.2.2.1.2.1.2⟩
theorem Abo{t:Axp}(hw:Ty.Wf Ak t)(h:wt Ak t<=1048576):NN t.1:=by
 have e:wt Ak t=wt (.sl Ae) t.1:=rfl;rw[e] at h;exact⟨Nat.le_trans (Vu t.1) h,λn hn=>Ahz (hw.1.2 n hn) (Nat.le_trans (AbA hn) h)⟩
theorem AqJ{x:Axl}(hw:Ty.Wf Ag x)(h:wt Ag x<=1048576):TH x:=by
 have e:wt Ag x=wt Ak x.2.2.1+wt Ak x.2.2.2.1:=by show 0+(0+(_+(_+0)))=_;omega
 rw[e] at h;exact⟨Abo hw.2.2.1 (by omega),Abo hw.2.2.2.1 (by omega)⟩
theorem ng{a:Axw}(h:a.length<=1048576):Ew a=some a:=by
 unfold Ew N6;rw[if_pos ⟨rfl,by omega,by omega,by omega,by omega⟩,AwX,XP (r:=I0 a) (F:=λx=>some (Mg x)) (mk:=λe=>(e.1,e.2,())) (z :=Ab.zero) (λ_=>rfl) h (λx _=>⟨_,rfl,rfl⟩)];rfl
theorem cZ{a:Axs}(h:a.length<=1048576):Fp a=some a:=by
 unfold Fp MG;rw[if_pos ⟨rfl,by omega,by omega,by omega,by omega⟩,AwX,XP (r:=GZ a) (F:=λx=>some x) (mk:=λe=>e) (z:=Ty.zero (.int .u64)) (λ_=>rfl) h (λx _=>⟨_,rfl,rfl⟩)];rfl
theorem V1{a:Axs}(h:a.length<=1048576):Di a=some a:=by
 unfold Di Nt;rw[if_pos ⟨rfl,by omega,by omega,by omega,by omega⟩,AwX,XP (r:=H5 a) (F:=λx=>some x) (mk:=λe=>e) (z:=Ty.zero (.int .i64)) (λ_=>rfl) h (λx _=>⟨_,rfl,rfl⟩)];rfl
theorem jG{a:Axy}(h:NN a):IA a=some a:=by
 unfold IA Nu;have hl:=h.1;rw[if_pos ⟨rfl,by omega,by omega,by omega,by omega⟩,AwX,XP (r:=H6 a) (F:=Kk) (mk:=λe=>(e.1,e.2.1,e.2.2.1,e.2.2.2.1,(e.2.2.2.2.1,e.2.2.2.2.2.1,()),e.2.2.2.2.2.2,())) (z :=Ae.zero) (λ_=>rfl) hl (λx hx=>by
  have hn:=h.2 x hx;unfold Kk NT;rw[show Fp x.2.2.2.2.1.2.1=some x.2.2.2.2.1.2.1 from cZ hn.2.1,AwW,AwW,show Di x.2.2.2.2.2.1=some x.2.2.2.2.2.1 from V1 hn.1];exact⟨_,rfl,rfl⟩)]
 rfl
theorem ZA{t:Axp}(h:NN t.1):JG t=some t.1:=by
 unfold JG;rw[jG h];rfl
end Go.Proofs.X
namespace Go.Va
open Go.Proofs.X
def Ch{A:Type}(H:Int->A->Int->Prop):List A->Int->Int->Prop
 | [],k,k'=>k=k'
 | x::xs,k,k'=>∃m,H k x m/\Ch H xs m k'
section
variable {A:Type} {H:Int->A->Int->Prop}
theorem oF{x:A}:∀{l:List A} {k k' m:Int},Ch H l k m->H m x k'->Ch H (l++[x]) k k'
 | [],_,_,_,h1,h2=>by cases h1;exact⟨_,h2,rfl⟩
 | _::_,_,_,_,⟨n,h0,h1⟩,h2=>⟨n,h0,oF h1 h2⟩
theorem ZU(hH:∀b x b',H b x b'->b<=b'):∀{l:List A} {k k':Int},Ch H l k k'->k<=k'
 | [],_,_,h=>by cases h;omega
 | _::_,_,_,⟨_,h0,h1⟩=>by have:=hH _ _ _ h0;have:=ZU hH h1;omega
theorem gsS{d:List A}{i:Nat}{x z:A}(h:i<d.length):(d.set i x).getD i z=x:=by simp[List.getD,h]
theorem Yp{cost:A->Nat}{a:List A}{z:A}{i:Nat}(h:i<a.length):((a.take (i+1)).map cost).sum=((a.take i).map cost).sum+cost (a.getD i z):=by
 rw[List.take_succ_eq_append_getElem h,List.map_append,List.sum_append];simp[List.getD,h]
theorem jB{cost:A->Nat}{a:List A}{i:Nat}:((a.take i).map cost).sum<=(a.map cost).sum:=by
 conv=>rhs;rw[<-List.take_append_drop i a,List.map_append,List.sum_append]
 omega
theorem Vr{c:Nat}(l:List A):(l.map λ_=>c).sum=c*l.length:=by
 induction l with
 | nil=>rfl
 | cons x l ih=>rw[List.map_cons,List.sum_cons,ih,List.length_cons,Nat.mul_succ];omega
theorem OI {f:Int×Int×List A->Option ((Int×Int×List A)⊕(Int×List A))} {cost:A->Nat} {z:A} {a:List A} {k:Int} (M:Int)
    (hs:∀b i (d:List A),i<a.length->d.length=a.length->d.getD i z=a.getD i z->0<=b->b+(cost (a.getD i z):Int)<=M ->
     Aq (f (b,(i:Int),d)) λr=>∃b' x',r=.inl (b',((i+1:Nat):Int),d.set i x')/\b<=b'/\b'<=b+(cost (a.getD i z):Int)/\H b x' b')
    (he:∀b (d:List A),d.length=a.length->f (b,(a.length:Int),d)=some (.inr (b,d))) (h0:0<=k) (hM:k+(((a.map cost).sum:Nat):Int)<=M) :
    Aq (fix f (k,0,a)) λr=>k<=r.1/\r.1<=k+(((a.map cost).sum:Nat):Int)/\r.2.length=a.length/\Ch H r.2 k r.1:=by
 refine FW (λm (x:Int×Int×List A)=>∃i:Nat,i<=a.length/\m=a.length-i/\x.2.1=(i:Int)/\x.2.2.length=a.length/\Ch H (x.2.2.take i) k x.1/\(∀j,i<=j->x.2.2.getD j z=a.getD j z)/\k<=x.1/\x.1<=k+((((a.take i).map cost).sum:Nat):Int)) (λm x hI=>?_) a.length _ ⟨0,Nat.zero_le _,rfl,rfl,rfl,by simp[Ch],λ_ _=>rfl,by simp,by simp⟩;obtain⟨b,c,d⟩:=x;obtain⟨i,hi,rfl,h1,h2,h3,h4,h5,h6⟩:=hI;simp only at h1 h2 h3 h4 h5 h6;subst h1;rcases Aw7 i a.length with h | h
 ·have hsum:=Yp (cost:=cost) (z:=z) h;have hle:=jB (cost:=cost) (a:=a) (i:=i+1);refine(hs b i d h h2 (h4 i (Aw2 _)) (by omega) (by omega)).mono λr hr=>?_;obtain⟨b',x',rfl,hb1,hb2,hH⟩:=hr;refine⟨a.length-(i+1),by omega,i+1,h,rfl,rfl,by rw[Aw5];exact h2,?_,λj hj=>?_,by show k<=b';omega,by show b'<=_;omega⟩
  ·show Ch H ((d.set i x').take (i+1)) k b';rw[List.take_succ_eq_append_getElem (by rw[Aw5];omega),List.take_set_of_le (Aw2 _)];simp only[List.getElem_set_self];exact oF h3 hH
  ·show(d.set i x').getD j z=_;rw[<-h4 j (by omega)];simp only[List.getD,List.getElem?_set,show ¬i=j by omega,if_false]
 ·have:i=a.length:=by omega
  subst this;rw[he b d h2];rw[Aw6 (by omega)] at h3;rw[Aw6 (Aw2 _)] at h6;exact Aq.mk ⟨h5,h6,h2,h3⟩
theorem YZ{f:Int×Int->Option ((Int×Int)⊕(Int⊕Int))}{z:A}{a:List A}(hs:∀i b b',i<a.length->H b (a.getD i z) b'->f (b,(i:Int))=some (.inl (b',((i+1:Nat):Int))))(he:∀b,f (b,(a.length:Int))=some (.inr (.inr b))){k k':Int}(h:Ch H a k k'):fix f (k,0)=some (.inr k'):=by
 have:∀(l:List A) (i:Nat) (b:Int),a.drop i=l->i+l.length=a.length->Ch H l b k'->fix f (b,(i:Int))=some (.inr k'):=λl=>by
  induction l with
  | nil =>
   intro i b h1 h2 h3;have h3:b=k':=h3;subst h3;have:i=a.length:=by simpa using h2
   rw[this];exact T6 (he b)
  | cons x l ih =>
   intro i b h1 h2 h3;obtain⟨m,h3,h4⟩:=h3;simp only[List.length_cons] at h2;have hi:i<a.length:=by omega
   rw[List.drop_eq_getElem_cons hi] at h1;injection h1 with h1 h5;have hx:a.getD i z=x:=by rw[<-h1];simp[List.getD,hi]
   rw[T7 (hs i b m hi (by rw[hx];exact h3))];exact ih (i+1) m h5 (by omega) h4
 exact this a 0 k rfl (by simp) h
end
end Go.Va
namespace Go.Proofs.X
open Go Go.Va
set_option maxRecDepth 100000
theorem w1{b:Int}(h0:0<=b)(h1:b<=2305843009213693952):wI (b+1)=b+1:=wrap64 (by omega) (by omega)
def Hu(b x b':Int):Prop:=x=IntKind.u64.wrap b/\b'=b+1/\0<=b/\b'<=2305843009213693952
theorem o8{b x b':Int}(h:Hu b x b'):b<=b':=by have:=h.2.1;omega
def Yt{A:Type}(H:Int->A->Int->Prop)(a:List A)(n:Nat)(k:Int)(r:Int×List A):Prop:=k<=r.1/\r.1<=k+(n:Int)/\r.2.length=a.length/\Ch H r.2 k r.1
theorem O9{a:Axs}(hn:a.length<=1048576){k:Int}(h0:0<=k)(hk:k+(a.length:Int)<=2305843009213693952):Aq (Ck k a) (Yt Hu a a.length k):=by
 unfold Ck KW;have hc:(a.map λ_=>1).sum=a.length:=by rw[Vr];omega
 have:=OI (f:=B5) (cost:=λ_=>1) (z:=(0:Int)) (a:=a) (H:=Hu) (k:=k) 2305843009213693952 (λb i d hi hd hg hb0 hb=>by
  unfold B5 FF
  try simp only
  try simp only at hb
  rw[hd,EE hi,Axc,if_pos (rng hi),AwX,w1 hb0 (by omega),AY hi hn];exact Aq.mk ⟨b+1,_,rfl,by omega,by omega,rfl,rfl,hb0,by omega⟩) (λb d hd=>by
  unfold B5 FF
  try simp only
  rw[hd,Ff,Axb]) h0 (by rw[hc];exact hk)
 rw[hc] at this;exact this.bind λr hr=>Aq.mk hr
theorem RB{a:Axs}(hn:a.length<=1048576){k k':Int}(h:Ch Hu a k k'):C9 a k=some k':=by
 unfold C9 KU;rw[YZ (f:=B3 a) (z:=(0:Int)) (H:=Hu) (λi b b' hi hH=>by
  unfold B3 FD
  try simp only
  obtain⟨h1,h2,h3,h4⟩:=hH;rw[EE hi,Axc,if_pos (rng hi),AwX,show(Ty.zero (.int .u64):Int)=0 from rfl,h1,bne_self_eq_false,Axb,w1 h3 (by omega),AY hi hn,h2]) (λb=>by
  unfold B3 FD
  try simp only
  rw[Ff,Axb]) h]
 rfl
theorem SV{a:Axs}(hn:a.length<=1048576){k:Int}(h0:0<=k)(hk:k+(a.length:Int)<=2305843009213693952):Aq (Ed k a) (Yt (λ_ _ _=>True) a a.length k):=by
 unfold Ed LW;have hc:(a.map λ_=>1).sum=a.length:=by rw[Vr];omega
 have:=OI (f:=Cg) (cost:=λ_=>1) (z:=(0:Int)) (a:=a) (H:=λ_ _ _=>True) (k:=k) 2305843009213693952 (λb i d hi hd hg hb0 hb=>by
  unfold Cg Ga
  try simp only
  try simp only at hb
  rw[hd,EE hi,Axc,if_pos (rng hi),AwX,w1 hb0 (by omega),AY hi hn];exact Aq.mk ⟨b+1,_,rfl,by omega,by omega,trivial⟩) (λb d hd=>by
  unfold Cg Ga
  try simp only
  rw[hd,Ff,Axb]) h0 (by rw[hc];exact hk)
 rw[hc] at this;exact this.bind λr hr=>Aq.mk hr
theorem iE(k:Int)(h1:k<=2305843009213693952):Aq (Iy k) λ_=>True:=by
 unfold Iy;refine Aq.cond (λ_=>Aq.mk trivial) λh=>?_;have hk:0<k:=by simpa using h
 refine Aq.bind (P:=λs=>s.size<=100) ?_ λs hs=>?_
 ·unfold Ns;refine FW (λm (x:Int×ByteArray)=>∃j n:Nat,j<=70/\m=70-j/\x.1=(n:Int)/\n*2^j<=2^62/\x.2.size=j) (λm x hI=>?_) 70 _ ⟨0,k.toNat,by omega,rfl,by show k=_;omega,by rw[Nat.pow_zero];omega,rfl⟩;obtain⟨b,c⟩:=x;obtain⟨j,n,hj,rfl,hb0,hb1,hc⟩:=hI;simp only at hb0 hb1 hc;subst hb0;unfold HY LZ;simp only;refine Aq.cond (λhb=>?_) λ_=>Aq.mk (by show c.size<=100;omega);have hb:(n:Int)>0:=of_decide_eq_true hb;have hp:1<=2^j:=Nat.one_le_two_pow;have hbig:n*1<=n*2^j:=Nat.mul_le_mul_left _ hp;have hj2:j<=62:=by
   rcases Aw7 62 j with h | h
   ·exfalso
    have h2:2^63<=2^j:=Nat.pow_le_pow_right (by omega) (by omega);have h3:1*2^j<=n*2^j:=Nat.mul_le_mul_right _ (by omega);omega
   ·exact h
  rw[if_pos (by show(1:Nat)+c.size<=_;omega)];have hd:Int.tdiv (n:Int) 10=((n/10:Nat):Int):=rfl;rw[hd,wrap64 (by omega) (by omega)];refine Aq.mk ⟨70-(j+1),by omega,j+1,n/10,by omega,rfl,rfl,?_,?_⟩
  ·have h4:n/10*2<=n:=by omega
   have h5:=Nat.mul_le_mul_right (2^j) h4;rw[Nat.pow_succ,Nat.mul_comm (2^j) 2,<-Nat.mul_assoc];omega
  ·show(bytesOf [_]++c).size=j+1;rw[ByteArray.size_append,hc];show 1+j=_;omega
 ·rw[if_pos (by show(1:Nat)+s.size<=_;omega)];exact Aq.mk trivial
theorem aP{a:Axw}(hn:a.length<=1048576){k:Int}(h0:0<=k)(hk:k+((2*a.length:Nat):Int)<=2305843009213693952):Aq (G9 k a) (Yt (λ_ _ _=>True) a (2*a.length) k):=by
 unfold G9 MD;have hc:(a.map λ_=>2).sum=2*a.length:=Vr a;have:=OI (f:=CO) (cost:=λ_=>2) (z :=Ab.zero) (a:=a) (H:=λ_ _ _=>True) (k:=k) 2305843009213693952 (λb i d hi hd hg hb0 hb=>by
  unfold CO GV
  try simp only
  try simp only at hb
  rw[hd,EE hi,Axc];refine(iE b (by omega)).bind λs _=>?_;have hid:i<d.length:=by omega
  simp only[Aw5,hd,AwX,gsS hid,List.set_set];rw[if_pos (rng hi),if_pos (rng hi),w1 hb0 (by omega),w1 (by omega) (by omega),AY hi hn];exact Aq.mk ⟨b+1+1,_,rfl,by omega,by omega,trivial⟩) (λb d hd=>by
  unfold CO GV
  try simp only
  rw[hd,Ff,Axb]) h0 (by rw[hc];exact hk)
 rw[hc] at this;exact this.bind λr hr=>Aq.mk hr
def TV(n:Axj):Nat:=5+(VQ n).length+(Av n).length
theorem Yd{a:Axy}(hn:NN a){k:Int}(h0:0<=k)(hk:k+(((a.map TV).sum:Nat):Int)<=2305843009213693952):Aq (FQ k a) (Yt (λ_ _ _=>True) a (a.map TV).sum k):=by
 unfold FQ LY;have hl:=hn.1;have:=OI (f:=Cj) (cost:=TV) (z :=Ae.zero) (a:=a) (H:=λ_ _ _=>True) (k:=k) 2305843009213693952 (λb i d hi hd hg hb0 hb=>by
  unfold Cj Gc HX HW HV;simp only;have hid:i<d.length:=by omega
  have hnb:Rl (a.getD i Ae.zero):=hn.2 _ (Az hi);unfold TV at hb;rw[hd,EE hi,Axc];simp(disch:=omega) only[w1,Aw5,hd,AwX,gsS hid,List.set_set,if_pos (rng hi),AwW,Axd];rw[hg];refine(O9 (a:=VQ (a.getD i Ae.zero)) hnb.2.1 (by omega) (by omega)).bind λr hr=>?_;obtain⟨r1,r2,_,_⟩:=hr;refine(SV (a:=Av (a.getD i Ae.zero)) hnb.1 (by omega) (by omega)).bind λq hq=>?_;obtain⟨q1,q2,_,_⟩:=hq;exact Aq.mk ⟨q.1,_,rfl,by omega,by unfold TV;omega,trivial⟩) (λb d hd=>by
  unfold Cj Gc
  try simp only
  rw[hd,Ff,Axb]) h0 hk
 exact this.bind λr hr=>Aq.mk hr
def fH(t:Axy):Nat:=(t.map TV).sum
end Go.Proofs.X
namespace Go.Proofs.X
open Go Go.Va
set_option maxRecDepth 100000
theorem UX{x:Int}(h1:-1<=x)(h2:x<=1048576):Ty.Wf (.int .i64) x:=by
 show IntKind.i64.min<=x/\x<=IntKind.i64.max;have e1:IntKind.i64.min=-9223372036854775808:=rfl;have e2:IntKind.i64.max=9223372036854775807:=rfl;rw[e1,e2];omega
theorem Abv{ws:Axs}(h:Words ws)(hl:ws.length<=1048576):Ty.Wf (.sl (.int .u64)) ws:=by
 refine⟨Nat.le_trans hl Qx,λx hx=>?_⟩;have:=h x hx;unfold Mq at this;exact⟨this.1,Int.le_of_lt_add_one this.2⟩
theorem Wd{A:Type}{G:A->A->Option Bool}{a:A}(h:QB G a):G a a=some true:=by
 obtain⟨r,hr,hq⟩:=h a;rw[hr,hq.2 rfl]
theorem qQ(n:Axj):TV n=5+wt Ae n:=by
 have e:wt Ae n=wt (.sl (.int .u64)) (VQ n)+wt (.sl (.int .i64)) (Av n):=by show 0+(0+(0+(0+((0+(_+0))+(_+0)))))=_;unfold VQ Av;omega
 rw[e,nD,nC];unfold TV;omega
theorem YH(t:Axy):fH t<=5*wt (.sl Ae) t:=by
 show(t.map TV).sum<=5*(t.length+(t.map (wt Ae)).sum);induction t with
 | nil=>simp
 | cons n t ih=>simp only[List.map_cons,List.sum_cons,List.length_cons,qQ];omega
end Go.Proofs.X
namespace Go.Proofs.X
open Go Go.Va
set_option maxRecDepth 100000
def nE(a:Axr):Prop:=(-1<=a.1/\a.1<=1048576)/\(0<=a.2.1.1/\a.2.1.1<=4096)/\a.2.1.2.1.length<=64/\Words a.2.1.2.1
def vo(x:Axn):Prop:=nE x.1/\nE x.2.1/\0<=x.2.2.1/\x.2.2.1<=4096
def ZK(r:Bool×AxB):Prop:=r.2.length<=5000/\∀x∈r.2,vo x
theorem wD{d:Axw}{B:List Bt}(h:A1 d B){L:Axz}(hL:L.length<=1048576)(a b:Nat):nE (Vz L B a b):=by
 unfold Vz;split
 ·have hl:(dO B a (b-a)).length<=4096:=by
    unfold dO;rw[Aw8,List.length_take,List.length_drop];have:=h.2.1;omega
  obtain⟨h1,h2⟩:=Zg (dO B a (b-a));refine⟨⟨by show(-1:Int)<=-1;omega,by show(-1:Int)<=1048576;omega⟩,⟨?_,?_⟩,?_,h2⟩
  ·show 0<=((dO B a (b-a)).length:Int);omega
  ·show((dO B a (b-a)).length:Int)<=4096;omega
  ·show(Ye (dO B a (b-a))).2.1.length<=64;rw[h1];unfold nw;omega
 ·rename_i v x _;refine⟨?_,⟨by show(0:Int)<=0;omega,by show(0:Int)<=4096;omega⟩,by simp,λy hy=>(by cases hy)⟩;show -1<=nm (Eb L (nk v x) L.length)/\nm (Eb L (nk v x) L.length)<=1048576;cases hq:Eb L (nk v x) L.length with
  | none=>simp[nm]
  | some n=>have:=(RH hq).1;simp only[nm];omega
theorem iO{d:Axw}{x:Axl}{c:AxD}(hc:OO c)(hx:TH x):Aq (GD d x (c,())) λr=>B7 d x (c,())=some r/\ZK r:=by
 have hl:∀y∈[x],TH y:=λy hy=>by rw[List.mem_singleton] at hy;rw[hy];exact hx
 have no:ZK (false,[]):=⟨by simp,λx hx=>(by cases hx)⟩;obtain⟨rc,ec,himp,hcs⟩:=yX (d:=d) hc hl;obtain⟨q1,e1,h1⟩:=PW (d:=d) hc;obtain⟨q2,e2,h2⟩:=VX (d:=d) hl;unfold GD Ko;have eC:∀l1:AxA,l1=[x]->Dn d l1 (c,())=some rc:=λl1 e=>by rw[e];exact himp
 rcases hcs with ⟨rfl,hno⟩| ⟨hd,hcp,hlp,hs,f,rfl,hf⟩
 ·have ei:B7 d x (c,())=some (false,[]):=by
    unfold B7 EJ;rw[himp];rfl
  rw[e1,AwW];cases q1 with
  | false=>exact Aq.mk ⟨ei,no⟩
  | true =>
   simp only[Bool.not_true,Axb,e2,AwW];cases q2 with
   | false=>exact Aq.mk ⟨ei,no⟩
   | true =>
    simp only[Bool.not_true,Axb];rw[ec,AwW];exact Aq.mk ⟨ei,no⟩
 ·rw[e1,h1.2 ⟨hd,hcp⟩,AwW];simp only[Bool.not_true,Axb,e2,h2.2 ⟨hd,hlp⟩,AwW];rw[ec,AwW];obtain⟨cp1,cp2⟩:=y9 hd f;have hdl:=hd.1;obtain⟨q3,e3,h3⟩:=iV (a:=Cc d f) (b:=c) (by have:=cp2.1;exact Nat.le_trans this Qx) (λy hy=>Nat.le_trans (hc.2 y hy) Qx) (λy hy=>Nat.le_trans (cp2.2 y hy) Qx);unfold Kp;simp only[Bool.not_true,Axb];rw[Uv hd cp1 cp2,AwW,Uv hd hcp hc,AwW,AwW];by_cases hfc:f=C0 c
  ·have hg:=(YW hd hcp hf).2 hfc;rw[hg,bne_self_eq_false,Axb];have hB:=hl _ (List.mem_singleton.2 rfl);obtain⟨s1,s2,s3,s4,s5,s6⟩:=Sy hd hl hlp hs (show 0<[x].length by simp);have g1:BS d x.2.2.1=some (EF d (lS [x] 0)):=MM hd hx.1;have g2:BS d x.2.2.2.1=some (EF d (lT [x] 0)):=MM hd hx.2;have hst:=hf.cl 0 (by simp);rw[hfc] at hst;rw[g1,AwW,g2,AwW,s5,s6];simp only;rw[Aaz hd s1,AwW,Aaz hd s2,AwW,Uw hd hcp hc,AwW,Aao hd hcp hc,AwW,S0 hd hcp hc,AwW];simp only;rw[Ym hd hcp s1 s2 s3 hst,AwW];simp only[Sum.elim_inr];have hsl:=ZL hd hcp d.length (Aw2 _);refine Aq.mk ⟨?_,?_⟩
   ·unfold B7 EJ;rw[himp,AwW];simp only[Bool.not_true,Axb];rw[e3,h3.2 ((WL hd hcp hf).2 hfc),AwW,AwW];simp only[Bool.not_true,Axb];obtain⟨v,ev,hv⟩:=SQ hd hl hlp;rcases hv with ⟨f1,_,f2⟩| ⟨_,hns⟩
    ·rw[ev,AwW,f2];have er:(List.range [x].length).map (PV d [x])=[PV d [x] 0]:=rfl;rw[er,s4,if_pos (by simp),if_pos (by simp),X7 hd hcp hc,AwW,rA (by omega),AwW];simp only[List.getD_cons_zero];rw[X6 hd hcp hc s1 s2 s3 hst,AwW]
    ·exact(hns hs).elim
   ·refine⟨?_,λy hy=>?_⟩
    ·show(PP _ _ _ _ _).length<=5000;rw[ZI,Aw0,List.length_singleton];have:=kU (B1:=b1 d [x] 0) (B2:=b2 d [x] 0) (h:=C0 c) (b1 d [x] 0).length;have:=s1.2.1;omega
    ·obtain⟨a',b',hb',rfl⟩:=vg hy;have hbl:b'<=4096:=by
      have:=s1.2.1;rcases List.mem_append.1 hb' with hb' | hb'
      ·have:=(Rv.1 hb').1;omega
      ·rw[List.mem_singleton] at hb';omega
     refine⟨wD s1 (by omega) a' b',wD s2 (by omega) a' b',?_,?_⟩
     ·show 0<=((b'-a':Nat):Int);omega
     ·show((b'-a':Nat):Int)<=4096;omega
  ·have hg:Qm (Cc d f) d.length≠Qm c d.length:=λe=>hfc ((YW hd hcp hf).1 e);have hb:(((d.length+Qm (Cc d f) d.length:Nat):Int) !=((d.length+Qm c d.length:Nat):Int))=true:=by rw[bne_iff_ne];omega
   rw[hb,Axc];refine Aq.mk ⟨?_,no⟩;unfold B7 EJ;rw[himp,AwW];simp only[Bool.not_true,Axb];have hq3:q3=false:=by
    cases q3 with
    | false=>rfl
    | true=>exact(hfc ((WL hd hcp hf).1 (h3.1 rfl))).elim
   rw[e3,hq3];rfl
end Go.Proofs.X
namespace Go.Proofs.X
open Go Go.Va
set_option maxRecDepth 100000
theorem bW{a:AxD}(h:Ty.Wf (.sl (.sl (.int .i64))) a):UE (.sl (.sl (.int .i64))) Hb a :=
 mX (t:=.sl (.int .i64)) (z:=Ty.zero (.sl (.int .i64))) (F:=λx l=>some (A9 x l)) (r:=GX) (λ_ _=>rfl) (λ_ _=>rfl) h.1 λx hx=>VZ (h.2 x hx).1
theorem tQ{a:Axm}(h:Ty.Wf Ah a):UE Ah NS a:=λleft h0 h1 =>
 Abl (F:=Hb) (x:=a.1) (bW h.1) h0 h1
theorem Aqc{a:Axm}(h:wt Ah a<=1048576):OO a.1:=by
 have e:wt Ah a=wt (.sl (.sl (.int .i64))) a.1:=rfl;rw[e] at h;exact⟨Nat.le_trans (Vu a.1) h,λx hx=>Nat.le_trans (Nat.le_trans (Vu (t:=.int .i64) x) (AbA (t:=.sl (.int .i64)) hx)) h⟩
theorem cK{a:AxD}(h:OO a):Hd a=some a:=by
 unfold Hd MF;have hl:=h.1;rw[if_pos ⟨rfl,by omega,by omega,by omega,by omega⟩,AwX,XP (r:=GY a) (F:=Di) (mk:=λe=>e) (z:=Ty.zero (.sl (.int .i64))) (λ_=>rfl) hl (λx hx=>⟨x,V1 (h.2 x hx),rfl⟩)];rfl
theorem tY{a:Axm}(h:OO a.1):Ge a=some a.1:=by
 unfold Ge;rw[cK h];rfl
theorem cO{x:Axl}(h:TH x):Cx x=some (x.1,x.2.1,x.2.2.1.1,x.2.2.2.1.1):=by
 unfold Cx;rw[ZA h.1,AwW,ZA h.2];rfl
theorem VP{a:Axy}(hn:NN a){k:Int}(h0:0<=k)(hk:k+((fH a:Nat):Int)<=2305843009213693952):Aq (Gz k a) λr=>k<=r.1/\r.1<=k+((fH a:Nat):Int):=by
 unfold Gz;exact(Yd hn h0 hk).bind λr hr=>Aq.mk ⟨hr.1,hr.2.1⟩
theorem Xl{a:AxD}(h:OO a){k:Int}(h0:0<=k)(hk:k+(((a.map List.length).sum:Nat):Int)<=2305843009213693952):Aq (ER k a) (Yt (λ_ _ _=>True) a (a.map List.length).sum k):=by
 unfold ER KV;have hl:=h.1;have:=OI (f:=B4) (cost:=List.length) (z:=Ty.zero (.sl (.int .i64))) (a:=a) (H:=λ_ _ _=>True) (k:=k) 2305843009213693952 (λb i d hi hd hg hb0 hb=>by
  unfold B4 FE;simp only;have hid:i<d.length:=by omega
  have hnb:=h.2 _ (Az (z:=Ty.zero (.sl (.int .i64))) hi);rw[hd,EE hi,Axc];simp(disch:=omega) only[w1,Aw5,hd,AwX,gsS hid,List.set_set,if_pos (rng hi),AwW,Axd];rw[hg];refine(SV (a:=a.getD i (Ty.zero (.sl (.int .i64)))) hnb (by omega) (by omega)).bind λr hr=>?_;obtain⟨r1,r2,_,_⟩:=hr;exact Aq.mk ⟨r.1,_,rfl,by omega,by omega,trivial⟩) (λb d hd=>by
  unfold B4 FE
  try simp only
  rw[hd,Ff,Axb]) h0 hk
 exact this.bind λr hr=>Aq.mk hr
def Hp(b:Int)(s:Axn)(b':Int):Prop:=0<=b/\b'<=2305843009213693952/\s.1.1=b/\s.1.2.1.1=b+1/\s.1.2.1.2.1.length<=1048576/\∃m,Ch Hu s.1.2.1.2.1 (b+2) m/\s.2.1.1=m/\s.2.1.2.1.1=m+1/\s.2.1.2.1.2.1.length<=1048576/\∃m2,Ch Hu s.2.1.2.1.2.1 (m+2) m2/\s.2.2.1=m2/\b'=m2+1
def WO(s:Axn):Nat:=5+s.1.2.1.2.1.length+s.2.1.2.1.2.1.length
theorem Yc{a:AxB}(hl:a.length<=1048576)(hn:∀s∈a,s.1.2.1.2.1.length<=1048576/\s.2.1.2.1.2.1.length<=1048576){k:Int}(h0:0<=k)(hk:k+(((a.map WO).sum:Nat):Int)<=2305843009213693952):Aq (FP k a) (Yt Hp a (a.map WO).sum k):=by
 unfold FP LX;have:=OI (f:=Ci) (cost:=WO) (z :=Ai.zero) (a:=a) (H:=Hp) (k:=k) 2305843009213693952 (λb i d hi hd hg hb0 hb=>by
  unfold Ci Gb HU HT HS;simp only;have hid:i<d.length:=by omega
  have hnb:=hn _ (Az (z :=Ai.zero) hi);unfold WO at hb;rw[hd,EE hi,Axc];simp(disch:=omega) only[w1,Aw5,hd,AwX,gsS hid,List.set_set,if_pos (rng hi),AwW,Axd];rw[hg];refine(O9 (a:=(a.getD i Ai.zero).1.2.1.2.1) hnb.1 (by omega) (by omega)).bind λr hr=>?_;obtain⟨r1,r2,r3,r4⟩:=hr;simp(disch:=omega) only[w1,Aw5,hd,AwX,gsS hid,List.set_set,if_pos (rng hi),AwW,Axd];refine(O9 (a:=(a.getD i Ai.zero).2.1.2.1.2.1) hnb.2 (by omega) (by omega)).bind λq hq=>?_;obtain⟨q1,q2,q3,q4⟩:=hq;simp(disch:=omega) only[w1,Aw5,hd,AwX,gsS hid,List.set_set,if_pos (rng hi),AwW,Axd];refine Aq.mk ⟨q.1+1,_,rfl,by omega,by unfold WO;omega,hb0,by omega,rfl,rfl,?_,r.1,?_,rfl,rfl,?_,q.1,?_,rfl,rfl⟩
  ·show r.2.length<=_;omega
  ·rw[show b+2=b+1+1 by omega];exact r4
  ·show q.2.length<=_;omega
  ·rw[show r.1+2=r.1+1+1 by omega];exact q4) (λb d hd=>by
  unfold Ci Gb
  try simp only
  rw[hd,Ff,Axb]) h0 hk
 exact this.bind λr hr=>Aq.mk hr
theorem X3{a:AxB}(hn:a.length<=1048576){k k':Int}(h:Ch Hp a k k'):Ec a k=some k':=by
 unfold Ec LV;rw[YZ (f:=Cf a) (z :=Ai.zero) (H:=Hp) (λi b b' hi hH=>by
  unfold Cf F9
  try simp only
  obtain⟨h1,h2,h3,h4,h5,m,h6,h7,h8,h9,m2,h10,h11,h12⟩:=hH;have m1:=ZU (λ_ _ _=>o8) h6;have m3:=ZU (λ_ _ _=>o8) h10;have e5:=RB h5 h6;have e9:=RB h9 h10;rw[show b+2=b+1+1 by omega] at e5;rw[show m+2=m+1+1 by omega] at e9;rw[EE hi,Axc];simp(disch:=omega) only[w1,if_pos (rng hi),AwX,h3,h4,bne_self_eq_false,Axb];rw[e5,AwW,AwZ (by omega),Axb];simp(disch:=omega) only[w1,if_pos (rng hi),AwX,h7,h8,bne_self_eq_false,Axb];rw[e9,AwW,AwZ (by omega),Axb];simp(disch:=omega) only[w1,if_pos (rng hi),AwX,h11,bne_self_eq_false,Axb];rw[h12];rfl) (λb=>by
  unfold Cf F9
  try simp only
  rw[Ff,Axb]) h]
 rfl
theorem qp{a:Axr}(h:nE a):Ty.Wf Bm a :=
 ⟨UX (x:=a.1) h.1.1 h.1.2,⟨UX (x:=a.2.1.1) (Int.le_trans (by decide) h.2.1.1) (Int.le_trans h.2.1.2 (by decide)),Abv (ws:=a.2.1.2.1) h.2.2.2 (Nat.le_trans h.2.2.1 (by decide)),trivial⟩,trivial⟩
theorem tZ{r:Bool×AxB}(h:ZK r):Ty.Wf (.sl Ai) r.2:=by
 refine⟨Nat.le_trans (show r.2.length<=1048576 by have:=h.1;omega) Qx,λx hx=>?_⟩;have:=h.2 x hx;exact⟨qp this.1,qp this.2.1,UX (x:=x.2.2.1) (Int.le_trans (by decide) this.2.2.1) (Int.le_trans this.2.2.2 (by decide)),trivial⟩
theorem VD:∀{a:AxB},(∀s∈a,vo s)->(a.map WO).sum<=133*a.length
 | [],_=>by simp
 | s::a,h=>by
  have h1:=h s List.mem_cons_self;have h2:=VD λs hs=>h s (List.mem_cons_of_mem _ hs);have h3:=h1.1.2.2.1;have h4:=h1.2.1.2.2.1;simp only[List.map_cons,List.sum_cons,List.length_cons,WO];omega
theorem mV{a:AxD}:(a.map List.length).sum<=wt (.sl (.sl (.int .i64))) a:=by
 show _<=a.length+(a.map (wt (.sl (.int .i64)))).sum;have:∀l:AxD,(l.map List.length).sum<=(l.map (wt (.sl (.int .i64)))).sum:=λl=>by
  induction l with
  | nil=>simp
  | cons y l ih=>have:=Vu (t:=.int .i64) y;simp only[List.map_cons,List.sum_cons];omega
 have:=this a;omega
theorem law_ok(n:Axw)(o:Axl)(q:Axm)(hn:Ty.Wf (.sl Ab) n)(ho:Ty.Wf Ag o)(hq:Ty.Wf Ah q):F8 n o q=some true:=by
 unfold F8 DK DL DN;rw[mW hn 1048576 (by omega) (by omega),AwW];generalize h1:wt (.sl Ab) n=w1 at *;by_cases c1:(w1:Int)<=1048576
 case neg=>rw[if_neg c1];rfl
 rw[if_pos c1,AwZ (by omega),Axb,bX ho _ (by omega) (by omega),AwW];generalize h2:wt Ag o=w2 at *;by_cases c2:(w2:Int)<=1048576-(w1:Int)
 case neg=>rw[if_neg c2];rfl
 rw[if_pos c2,AwZ (by omega),Axb,tQ hq _ (by omega) (by omega),AwW];generalize h3:wt Ah q=w3 at *;by_cases c3:(w3:Int)<=1048576-(w1:Int)-(w2:Int)
 case neg=>rw[if_neg c3];rfl
 rw[if_pos c3,AwZ (by omega),Axb];have ln:n.length<=1048576:=by have:=Vu (t:=Ab) n;omega
 have bo:TH o:=AqJ ho (by omega);have bq:OO q.1:=Aqc (a:=q) (by omega);have tn:=ng ln;have to':=cO bo;have tq:=tY bq;obtain⟨r,r1,r2,hres⟩:=iO (d:=n) bq bo;have heq:=Wd (fT (tZ hres));have hcu:JA (q.1,()) (q.1,())=some true:=Wd (qZ hq);have hli:Fo (o.1,o.2.1,(o.2.2.1.1,()),(o.2.2.2.1.1,()),()) (o.1,o.2.1,(o.2.2.1.1,()),(o.2.2.2.1.1,()),())=some true:=Wd (Z4 ho);have s1:GD n (o.1,o.2.1,(o.2.2.1.1,()),(o.2.2.2.1.1,()),()) (q.1,())=some r:=r1;have s2:B7 n (o.1,o.2.1,(o.2.2.1.1,()),(o.2.2.2.1.1,()),()) (q.1,())=some r:=r2;simp only[tn,to',tq,s1,s2,AwW,heq,Bool.not_true,Axb,beq_self_eq_true,Wd (kV hn),hcu,hli];have cd:2*n.length<=5*w1:=by have:=Vu (t:=Ab) n;omega
 have ct:fH o.2.2.1.1+fH o.2.2.2.1.1<=5*w2:=by
  have a1:=YH o.2.2.1.1;have a2:=YH o.2.2.2.1.1;have e:wt Ag o=wt (.sl Ae) o.2.2.1.1+wt (.sl Ae) o.2.2.2.1.1:=by show 0+(0+((_+0)+((_+0)+0)))=_;omega
  omega
 have cq:(q.1.map List.length).sum<=w3:=by
  have:=mV (a:=q.1);have e:wt Ah q=wt (.sl (.sl (.int .i64))) q.1:=rfl;omega
 obtain⟨m1,e1,q1,q1',_⟩:=aP ln (k:=1) (by omega) (by omega);rw[e1,AwW];unfold Ha Ld;obtain⟨m2,e2,q2,q2'⟩:=VP bo.1 (k:=m1.1) (by omega) (by omega);obtain⟨m3,e3,q3,q3'⟩:=VP bo.2 (k:=m2.1) (by omega) (by omega);obtain⟨m4,e4,q4,q4',_⟩:=Xl bq (k:=m3.1) (by omega) (by omega);simp only[e2,e3,e4,AwW];rw[AwZ (by omega)];simp only[Axb,AwW,heq,Bool.not_true,beq_self_eq_true];have At4:=VD (a:=r.2) hres.2;have hrl:=hres.1;obtain⟨m5,e5,q5,q5',q6,q7⟩:=Yc (a:=r.2) (by omega) (λs hs=>by have:=hres.2 s hs;exact⟨Nat.le_trans this.1.2.2.1 (by omega),Nat.le_trans this.2.1.2.2.1 (by omega)⟩) (k:=1) (by omega) (by omega);have hh:=X3 (by rw[q6];omega) q7;simp only[e5,AwW,hh];rw[AwZ (show ¬m5.1<0 by omega)];simp only[Axb,AwW,bne_self_eq_false,heq,Bool.not_true,beq_self_eq_true]
end Go.Proofs.X
