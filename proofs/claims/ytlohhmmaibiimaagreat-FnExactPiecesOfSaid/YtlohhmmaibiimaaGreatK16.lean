import Derived.Test.YtlohhmmaibiimaaGreatK15
set_option linter.unusedVariables false
set_option linter.unusedSimpArgs false
namespace Go.Proofs.X
open Go Go.Va
set_option maxRecDepth 100000
def sd(d:Axw)(l:AxA)(i s:Nat):List Bt:=if s=0 then b1 d l i else b2 d l i
def two{A:Type}(f:Nat->Nat->A)(n:Nat):List A:=(List.range n).flatMap λi=>[f i 0,f i 1]
theorem XR{A:Type}(f:Nat->Nat->A)(n:Nat):two f (n+1)=two f n++[f n 0,f n 1]:=by
 unfold two;rw[List.range_succ,List.flatMap_append];simp
theorem PX{A:Type}(f:Nat->Nat->A):∀n,(two f n).length=2*n
 | 0=>rfl
 | n+1=>by rw[XR,Aw0,PX f n];simp;omega
theorem qh{A:Type}(f:Nat->Nat->A){z:A}:∀{n i s:Nat},i<n->s<2->(two f n).getD (2*i+s) z=f i s
 | n+1,i,s,hi,hs=>by
  rw[XR];simp only[List.getD];rcases Aw7 i n with h | h
  ·rw[List.getElem?_append_left (by rw[PX];omega)];exact qh f h hs
  ·have:i=n:=by omega
   subst this;rw[List.getElem?_append_right (by rw[PX];omega),PX,show 2*i+s-2*i=s by omega]
   match s,hs with
   | 0,_=>rfl
   | 1,_=>rfl
theorem Yn{d:Axw}{l:AxA}(hd:AA d)(hl:∀x∈l,TH x)(hlen:l.length<=60):Aq (KP d l) λr=>(r.1=true/\KR d l/\r.2=two (λi s=>(EF d (if s=0 then lS l i else lT l i)).2) l.length)\/(r.1=false/\¬KR d l):=by
 unfold KP;refine Aq.bind (P:=λt=>(∃x,t=.inl x/\¬KR d l)\/(t=.inr (two (λi s=>(EF d (if s=0 then lS l i else lT l i)).2) l.length)/\KR d l)) ?_ λt ht=>?_
 ·unfold Oh;refine FW (λm (x:Int×AxG)=>∃k:Nat,k<=l.length/\m=l.length-k/\x.1=(k:Int)/\x.2=two (λi s=>(EF d (if s=0 then lS l i else lT l i)).2) k/\∀i,i<k->kF d l i) (λm x hI=>?_) l.length _ ⟨0,Nat.zero_le _,rfl,rfl,rfl,λi hi=>by omega⟩;obtain⟨x1,x2⟩:=x;obtain⟨k,hk,rfl,h1,h2,h3⟩:=hI;simp only at h1 h2;subst h1;subst h2;unfold Jn M8 N8;simp only;rcases Aw7 k l.length with h | h
  ·have hB:=hl _ (Az (z :=Ag.zero) h);have e1:BS d (l.getD k Ag.zero).2.2.1=some (EF d (lS l k)):=MM hd hB.1;have e2:BS d (l.getD k Ag.zero).2.2.2.1=some (EF d (lT l k)):=MM hd hB.2;rw[EE h,Axc,if_pos (rng h),AwX,e1,AwW,if_pos (rng h),e2,AwW];cases hc:(!(EF d (lS l k)).1||!(EF d (lT l k)).1) with
   | true =>
    refine Aq.mk (.inl ⟨_,rfl,λh'=>?_⟩);have:=aZ.2 (h' k h);rw[hc] at this;cases this
   | false =>
    rw[Axb,if_pos (by rw[PX];show(2*k+2)*24<=_;omega),AY h (by omega)];refine Aq.mk ⟨l.length-(k+1),by omega,k+1,h,rfl,rfl,(XR _ k).symm,λi hi=>?_⟩;rcases Aw7 i k with h' | h'
    ·exact h3 i h'
    ·rw[show i=k by omega];exact aZ.1 hc
  ·have:k=l.length:=by omega
   subst this;rw[Ff,Axb];exact Aq.mk (.inr ⟨rfl,h3⟩)
 ·rcases ht with ⟨x,rfl,h⟩| ⟨rfl,h⟩
  ·exact Aq.mk (.inr ⟨rfl,h⟩)
  ·exact Aq.mk (.inl ⟨rfl,h,rfl⟩)
def Tg(f:Nat->Nat->Bool):Sg->Nat->Nat->Bool
 | .co _=>f
 | .va v l n=>mark (mark f v l) v (l+n)
theorem Aa9 {d:Axw} (hd:AA d) {ks:List (List Sg)} {m i:Nat} (hm:m<ks.length) (hi:i<(ks.getD m []).length) (hin:Pz d ((ks.getD m []).getD i (.co []))) {f:Nat->Nat->Bool} {o:AxC} :
    Ir (m:Int) (i:Int) (M d 1 f) (ks.map fV) o=some (M d 1 (Tg f ((ks.getD m []).getD i (.co [])))):=by
 unfold Ir;have e1:(ks.map fV).getD m (Ty.zero (.sl Ad))=fV (ks.getD m []):=K4 fV hm;simp only[AwX,e1,W1 hi];rw[Aw8,if_pos (rng hm),Bj,if_pos (rng hi)];cases hs:(ks.getD m []).getD i (.co []) with
 | co b=>rfl
 | va v a n =>
  rw[hs] at hin;obtain⟨hv,hn,hw⟩:=hin;obtain⟨e0,hw1,hw2⟩:=Nc hd hv;have e2:(FU (.va v a n)).1=(v:Int):=rfl;have e3:(FU (.va v a n)).2.1=(a:Int):=rfl;have e5:(FU (.va v a n)).2.2.1=(n:Int):=rfl;have e4:wI ((a:Int)+(n:Int))=((a+n:Nat):Int):=wrapN (by omega) (by omega);simp only[e2,e3,e5,e4,AwX];have q1:(M d 1 f).set v (((M d 1 f).getD v (Ty.zero (.sl .bool))).set a true)=M d 1 (mark f v a):=ZH hv;simp only[q1];have q2:(M d 1 (mark f v a)).set v (((M d 1 (mark f v a)).getD v (Ty.zero (.sl .bool))).set (a+n) true)=M d 1 (mark (mark f v a) v (a+n)):=ZH hv;simp only[q2];rw[show decide ((v:Int)>=0)=true from Aw1 (by omega),Axc,P6,if_pos (rng hv),Rk hv,Hf,if_pos (show(0:Int)<=(a:Int)/\(a:Int)<((W d v+1:Nat):Int) from⟨by omega,by omega⟩),P6,if_pos (rng hv),Rk hv,Hf,if_pos (show(0:Int)<=((a+n:Nat):Int)/\((a+n:Nat):Int)<((W d v+1:Nat):Int) from⟨by omega,by omega⟩)];rfl
theorem Aba {d:Axw} (hd:AA d) {ks:List (List Sg)} {m:Nat} (hm:m<ks.length) (hb:(ks.getD m []).length<=1048576) (hin:∀x∈ks.getD m [],Pz d x) {f:Nat->Nat->Bool} {o:AxC} :
    LH (m:Int) (ks.map fV) o 0 (M d 1 f)=some (M d 1 ((ks.getD m []).foldl Tg f)):=by
 unfold LH;have e1:(ks.map fV).getD m (Ty.zero (.sl Ad))=fV (ks.getD m []):=K4 fV hm;have:=AJ (f:=D1 (m:Int) (ks.map fV) o) (λk=>((k:Int),M d 1 (((ks.getD m []).take k).foldl Tg f))) (t:=M d 1 ((ks.getD m []).foldl Tg f)) (ks.getD m []).length (λk hk=>?_) ?_
 ·exact this
 ·unfold D1 Jf;simp only[AwX,e1];rw[Aw8,if_pos (rng hm),Bj,EE hk,Axc,Aa9 hd hm hk (hin _ (Az hk)),AwW,AY hk hb,AG (z:=.co []) hk,List.foldl_append];rfl
 ·unfold D1 Jf;simp only[AwX,e1];rw[Aw8,if_pos (rng hm),Bj,Ff,Axb,Aw6 (Aw2 _)]
def SZ(B:List Bt):Axo:=(bV B,Q4 (norm B),())
theorem Abb {d:Axw} (hd:AA d) {bs:List (List Bt)} (hb:∀B∈bs,A1 d B) (hl:bs.length<=1000) {f:Nat->Nat->Bool} :
    LJ (bs.map fN) 0 (M d 1 f) []=some (M d 1 ((bs.flatMap norm).foldl Tg f),bs.map SZ):=by
 unfold LJ;have em:bs.map fN=(bs.map norm).map fV:=by rw[List.map_map];rfl
 have:=AJ (f:=D2 (bs.map fN)) (λk=>((k:Int),M d 1 (((bs.take k).flatMap norm).foldl Tg f),(bs.take k).map SZ)) (t:=(M d 1 ((bs.flatMap norm).foldl Tg f),bs.map SZ)) bs.length (λk hk=>?_) ?_
 ·exact this
 ·unfold D2 Jg;have hB:=hb _ (Az (z:=[]) hk);have e1:(bs.map fN).getD k (Ty.zero (.sl Ad))=fN (bs.getD k []):=K4 fN hk;have e2:(bs.map norm).getD k []=norm (bs.getD k []):=K4 norm hk;have e3:=Aba hd (ks:=bs.map norm) (m:=k) (by rw[Aw8];exact hk) (by rw[e2];have:=BW (B6 (bs.getD k []));rw[Bv] at this;have:=hB.2.1;omega) (by rw[e2];exact λx hx=>(RR hB hx).1) (f:=((bs.take k).flatMap norm).foldl Tg f) (o:=(bs.take k).map SZ);rw[<-em,e2] at e3;simp only[AwX,e1];rw[Aw8,EE hk,Axc,e3,AwW,if_pos (rng hk),Aaz hd hB,AwW,if_pos (by simp;omega),AY hk (by omega),AG (z:=[]) hk,List.flatMap_append,List.foldl_append,List.map_append];simp only[List.flatMap_cons,List.flatMap_nil,List.append_nil,List.map_cons,List.map_nil];rfl
 ·unfold D2 Jg;simp only;rw[Aw8,Ff,Axb,Aw6 (Aw2 _)]
def iD(f:Nat->Nat->Bool):Bt->Nat->Nat->Bool
 | .co _=>f
 | .va v a=>mark f v a
def UW(A B:List Bt)(f:Nat->Nat->Bool)(p:Nat):Bool:=N2 A f p&&(!N2 B f p&&Xe (OC B p))
section
variable {d:Axw} {l:AxA}
def sides(d:Axw)(l:AxA):AxC:=two (λi s=>SZ (sd d l i s)) l.length
theorem Vn{i s:Nat}(hi:i<l.length)(hs:s<2):(sides d l).getD (2*i+s) Aj.zero=SZ (sd d l i s):=qh (λi s=>SZ (sd d l i s)) hi hs
structure Re (d:Axw) (l:AxA):Prop where
 hd:AA d
 len:l.length<=60
 inn:∀i s,i<l.length->A1 d (sd d l i s)
 same:∀i,i<l.length->(sd d l i 0).length=(sd d l i 1).length
theorem Re.eq(h:Re d l){i:Nat}(hi:i<l.length)(s t:Nat):(sd d l i s).length=(sd d l i t).length:=by
 have:=h.same i hi;unfold sd at this ⊢;rw[if_pos rfl,if_neg (by omega)] at this;split<;>split<;>first | rfl | exact this | exact this.symm
theorem Abc (H:Re d l) {i s p:Nat} (hi:i<l.length) (hs:s<2) (hp:p<(sd d l i 0).length) {f:Nat->Nat->Bool} {q:Bool} {e j:Int} :
    Is q ((2*i:Nat):Int) e j (p:Int) (s:Int) (M d 1 f) (sides d l)=some (bif UW (sd d l i s) (sd d l i (1-s)) f p then(true,M d 1 (iD f (OC (sd d l i (1-s)) p))) else(q,M d 1 f)):=by
 unfold Is LL;have hlen:=H.len;have e1:wI (((2*i:Nat):Int)+(s:Int))=((2*i+s:Nat):Int):=wrapN (by omega) (by omega);have e2:wI (wI (((2*i:Nat):Int)+1)-(s:Int))=((2*i+(1-s):Nat):Int):=by
  rw[wrapN (x:=((2*i:Nat):Int)+1) (n:=2*i+1) (by omega) (by omega)];exact wrapN (by omega) (by omega)
 have g1:=Vn (d:=d) hi hs;have g2:=Vn (d:=d) hi (show 1-s<2 by omega);have hA:=H.inn i s hi;have hB:=H.inn i (1-s) hi;have hpA:p<(sd d l i s).length:=by rw[H.eq hi s 0];exact hp
 have hpB:p<(sd d l i (1-s)).length:=by rw[H.eq hi (1-s) 0];exact hp
 have hsl:(sides d l).length=2*l.length:=PX _ _;have eb:(bV (sd d l i (1-s))).getD p Aa.zero=PZ (OC (sd d l i (1-s)) p):=Ww hpB;simp only[e1,e2,AwX,g1,g2];rw[hsl,if_pos (rng (by omega)),if_pos (rng (by omega))];unfold SZ;simp only[eb];rw[NA H.hd hA hpA,AwW];unfold UW;cases N2 (sd d l i s) f p with
 | false=>rfl
 | true =>
  rw[Axc,jo H.hd hB hpB,AwW,AwW,Bool.true_and];cases hw:(!N2 (sd d l i (1-s)) f p&&Xe (OC (sd d l i (1-s)) p)) with
  | false=>rfl
  | true =>
   rw[Axc,Axc,Cb,if_pos (rng hpB)];have hb:=wF hB hpB;cases hbb:OC (sd d l i (1-s)) p with
   | co c=>rw[hbb] at hw;simp[Xe] at hw
   | va v a =>
    rw[hbb] at hb;obtain⟨hv,ha⟩:=hb;obtain⟨e0,hw1,hw2⟩:=Nc H.hd hv;have m1:(M d 1 f).set v (((M d 1 f).getD v (Ty.zero (.sl .bool))).set a true)=M d 1 (mark f v a):=ZH hv;have c1:(PZ (.va v a)).1=(v:Int):=rfl;have c2:(PZ (.va v a)).2.1=(a:Int):=rfl;simp only[c1,c2,AwX,m1];rw[P6,if_pos (rng hv),if_pos (rng hpB),Rk hv,Hf,if_pos (show(0:Int)<=(a:Int)/\(a:Int)<((W d v+1:Nat):Int) from⟨by omega,by omega⟩)];rfl
def bB(d:Axw)(f:Nat->Nat->Bool):Nat->Nat->Bool:=λv p=>decide (v<d.length/\1<=p/\p<W d v)&&f v p
theorem Lv{f:Nat->Nat->Bool}{v p:Nat}:bB d f v p=true↔(v<d.length/\1<=p/\p<W d v)/\f v p=true:=by simp[bB]
theorem kR{B:List Bt}(h:A1 d B){p:Nat}(hp:p<B.length)(f:Nat->Nat->Bool):N2 B (bB d f) p=N2 B f p:=by
 unfold N2;rcases Sz h hp with ⟨q,_⟩| ⟨q,⟨⟨b,e⟩,_⟩| ⟨v,a,e,h1,h2,h3,_⟩⟩
 ·rw[q];rfl
 ·rw[e];rfl
 ·rw[e,q];simp[rE,bB,h1,h2,h3]
structure SW (d:Axw) (l:AxA) (fs:Nat->Nat->Bool) (ok:Prop) (q:Bool) (f:Nat->Nat->Bool):Prop where
 no:q=false->f=fs/\ok
 yes:q=true->free d f+1<=free d fs
 le:Mr fs f
 min:∀h,Py d l h->Mr (bB d fs) h->Mr (bB d f) h
theorem SW.imp{fs f:Nat->Nat->Bool}{ok ok':Prop}{q:Bool}(h:SW d l fs ok q f)(hi:ok->ok'):SW d l fs ok' q f:=⟨λe=>⟨(h.no e).1,hi (h.no e).2⟩,h.yes,h.le,h.min⟩
def jP(d:Axw)(l:AxA)(fs:Nat->Nat->Bool)(i p s:Nat):Prop:=UW (sd d l i s) (sd d l i (1-s)) fs p=false
theorem AdN (H:Re d l) {fs f:Nat->Nat->Bool} {ok:Prop} {q:Bool} (h:SW d l fs ok q f) {i s p:Nat} (hi:i<l.length) (hs:s<2) (hp1:1<=p) (hp:p<(sd d l i 0).length) :
    SW d l fs (ok/\jP d l fs i p s) (bif UW (sd d l i s) (sd d l i (1-s)) f p then true else q) (bif UW (sd d l i s) (sd d l i (1-s)) f p then iD f (OC (sd d l i (1-s)) p) else f):=by
 cases hh:UW (sd d l i s) (sd d l i (1-s)) f p with
 | false =>
  refine⟨λe=>?_,h.yes,h.le,h.min⟩;obtain⟨e1,e2⟩:=h.no e;exact⟨e1,e2,by rw[e1] at hh;exact hh⟩
 | true =>
  have hA:=H.inn i s hi;have hB:=H.inn i (1-s) hi;have hpA:p<(sd d l i s).length:=by rw[H.eq hi s 0];exact hp
  have hpB:p<(sd d l i (1-s)).length:=by rw[H.eq hi (1-s) 0];exact hp
  unfold UW at hh;rw[Aw3,Aw3,Bool.not_eq_true'] at hh;obtain⟨c1,c2,c3⟩:=hh;have key:∃v a,OC (sd d l i (1-s)) p=.va v a/\v<d.length/\1<=a/\a<W d v/\f v a=false:=by
   rcases Sz hB hpB with ⟨e,_⟩| ⟨e,⟨⟨b,e'⟩,_⟩| ⟨v,a,e',h1,h2,h3,_⟩⟩
   ·unfold N2 at c2;rw[e] at c2;cases c2
   ·rw[e'] at c3;cases c3
   ·refine⟨v,a,e',h1,h2,h3,?_⟩;unfold N2 at c2;rw[e,e',Bool.false_or] at c2;exact c2
  obtain⟨v,a,e1,h1,h2,h3,h4⟩:=key;have hle:Mr f (iD f (OC (sd d l i (1-s)) p)):=λu b hu=>by rw[e1];exact Dv.2 (.inl hu)
  have hfree:free d (iD f (OC (sd d l i (1-s)) p))+1<=free d f:=by rw[e1];exact UT h1 h3 h4
  refine⟨λe=>(by cases e),λ_=>?_,λu b hu=>hle u b (h.le u b hu),λg hg hgs=>?_⟩
  ·rw[Axc];have:free d f<=free d fs:=List.countP_mono_left λx _ hx=>by
    simp only[Bool.not_eq_true'] at hx ⊢;cases hq:fs x.1 x.2 with
    | false=>rfl
    | true=>rw[h.le _ _ hq] at hx;cases hx
   omega
  ·rw[Axc,e1];have hm:=h.min g hg hgs;intro u b hub;obtain⟨hr,hub⟩:=Lv.1 hub;rcases Dv.1 hub with hub | ⟨rfl,rfl⟩
   ·exact hm u b (Lv.2 ⟨hr,hub⟩)
   ·have Aqj:N2 (sd d l i s) g p=true:=by
      rw[<-kR hA hpA f] at c1;unfold N2 at c1 ⊢;rw[Bool.or_eq_true] at c1 ⊢;refine c1.imp id λc=>?_;cases hx:OC (sd d l i s) p with
      | co _=>rw[hx] at c;cases c
      | va v' a'=>rw[hx] at c;exact hm v' a' c
    have hct:N2 (sd d l i (1-s)) g p=true:=by
     have hsp:=(hg i hi).2 p hp1 hp
     match s,hs with
     | 0,_=>exact hsp.1 Aqj c3
     | 1,_=>exact hsp.2 Aqj c3
    unfold N2 at hct c2;rw[Bool.or_eq_false_iff] at c2;rw[c2.1,e1,Bool.false_or] at hct;exact hct
theorem Abd (H:Re d l) {i p:Nat} (hi:i<l.length) (hp1:1<=p) (hp:p<(sd d l i 0).length) {fs f:Nat->Nat->Bool} {ok:Prop} {q:Bool} (h:SW d l fs ok q f) {e j:Int} :
    Aq (LM ((2*i:Nat):Int) e j (sides d l) (p:Int) q 0 (M d 1 f)) λr=>∃f',r.2=M d 1 f'/\SW d l fs (ok/\jP d l fs i p 0/\jP d l fs i p 1) r.1 f':=by
 unfold LM;have:=Bd (f:=D3 ((2*i:Nat):Int) e j (sides d l) (p:Int)) (λk (x:Bool×(Nat->Nat->Bool))=>(x.1,(k:Int),M d 1 x.2)) 2 (λk x=>SW d l fs (ok/\∀s,s<k->jP d l fs i p s) x.1 x.2) (Q:=λr=>∃f',r.2=M d 1 f'/\SW d l fs (ok/\jP d l fs i p 0/\jP d l fs i p 1) r.1 f') (λk x hk hx=>?_) (λx hx=>?_) (s0:=(q,f)) (h.imp λh=>⟨h,λs hs=>by omega⟩)
 ·exact this
 ·unfold D3 Jh;simp only;rw[show decide ((k:Int)<2)=true from Aw1 (by omega),Axc,Abc H hi hk hp,AwW,AY (n:=2) hk (by omega)];have:=AdN H hx hi hk hp1 hp;refine Aq.mk ⟨(bif UW (sd d l i k) (sd d l i (1-k)) x.2 p then true else x.1,bif UW (sd d l i k) (sd d l i (1-k)) x.2 p then iD x.2 (OC (sd d l i (1-k)) p) else x.2),?_,this.imp λ⟨⟨h1,h2⟩,h3⟩=>⟨h1,λs hs=>?_⟩⟩
  ·cases UW (sd d l i k) (sd d l i (1-k)) x.2 p<;>rfl
  ·rcases Aw7 s k with h' | h'
   ·exact h2 s h'
   ·rw[show s=k by omega];exact h3
 ·unfold D3 Jh;simp only;rw[show decide (((2:Nat):Int)<2)=false from rfl,Axb];exact Aq.mk ⟨x.2,rfl,hx.imp λ⟨h1,h2⟩=>⟨h1,h2 0 (by omega),h2 1 (by omega)⟩⟩
theorem tH (H:Re d l) {i k:Nat} (hi:i<l.length) (hk:1<=k) (hk2:k<2*(sd d l i 0).length) {fs f:Nat->Nat->Bool} {ok:Prop} {q:Bool} (h:SW d l fs ok q f) :
    Aq (Hs q ((2*i:Nat):Int) ((sd d l i 0).length:Int) (k:Int) (M d 1 f) (sides d l)) λr=>∃f',r.2=M d 1 f'/\SW d l fs (ok/\(k<(sd d l i 0).length->jP d l fs i k 0/\jP d l fs i k 1)) r.1 f':=by
 unfold Hs N8 LK;have hb:=(H.inn i 0 hi).2.1;have ep:(bif decide ((k:Int)>=((sd d l i 0).length:Int)) then wI (wI (2*((sd d l i 0).length:Int))-(k:Int)) else(k:Int))=((if(sd d l i 0).length<=k then 2*(sd d l i 0).length-k else k:Nat):Int):=by
  by_cases hc:(sd d l i 0).length<=k
  ·rw[Aw1 (by omega),Axc,if_pos hc,wrapN (x:=2*((sd d l i 0).length:Int)) (n:=2*(sd d l i 0).length) (by omega) (by omega)];exact wrapN (by omega) (by omega)
  ·rw[AwZ (by omega),Axb,if_neg hc]
 rw[ep];obtain⟨p,hp⟩:∃p,p=if(sd d l i 0).length<=k then 2*(sd d l i 0).length-k else k:=⟨_,rfl⟩;rw[<-hp];have hpk:k<(sd d l i 0).length->p=k:=λhlt=>by rw[hp,if_neg (by omega)]
 have hp1:1<=p:=by rw[hp];split<;>omega
 rw[show decide ((p:Int)<1)=false from AwZ (by omega),Axb];by_cases hc:p<(sd d l i 0).length
 ·rw[show decide ((p:Int)>=((sd d l i 0).length:Int))=false from AwZ (by omega),Axb,AwW];refine Aq.bind (Abd H hi hp1 hc h) λr hr=>?_;obtain⟨f',e1,e2⟩:=hr;refine Aq.mk ⟨f',e1,e2.imp λ⟨h1,h2⟩=>⟨h1,λhlt=>?_⟩⟩;rw[<-hpk hlt];exact h2
 ·rw[show decide ((p:Int)>=((sd d l i 0).length:Int))=true from Aw1 (by omega),Axc,AwW];exact Aq.mk ⟨f,rfl,h.imp λh1=>⟨h1,λhlt=>by have:=hpk hlt;omega⟩⟩
theorem tJ (H:Re d l) {i:Nat} (hi:i<l.length) {fs f:Nat->Nat->Bool} {ok:Prop} {q:Bool} (h:SW d l fs ok q f) :
    Aq (KG ((2*i:Nat):Int) (sides d l) ((sd d l i 0).length:Int) q 1 (M d 1 f)) λr=>∃f',r.2=M d 1 f'/\SW d l fs (ok/\∀p,1<=p->p<(sd d l i 0).length->jP d l fs i p 0/\jP d l fs i p 1) r.1 f':=by
 unfold KG;have hb:=(H.inn i 0 hi).2.1;have hb1:=(H.inn i 0 hi).1;have ew:wI (2*((sd d l i 0).length:Int))=((2*(sd d l i 0).length:Nat):Int):=wrapN (by omega) (by omega);have:=Bd (f:=De ((2*i:Nat):Int) (sides d l) ((sd d l i 0).length:Int)) (λk (x:Bool×(Nat->Nat->Bool))=>(x.1,((k+1:Nat):Int),M d 1 x.2)) (2*(sd d l i 0).length-1) (λk x=>SW d l fs (ok/\∀p,1<=p->p<k+1->p<(sd d l i 0).length->jP d l fs i p 0/\jP d l fs i p 1) x.1 x.2) (Q:=λr=>∃f',r.2=M d 1 f'/\SW d l fs (ok/\∀p,1<=p->p<(sd d l i 0).length->jP d l fs i p 0/\jP d l fs i p 1) r.1 f') (λk x hk hx=>?_) (λx hx=>?_) (s0:=(q,f)) (h.imp λh=>⟨h,λp h1 h2=>by omega⟩)
 ·exact this
 ·unfold De Ie;simp only;rw[ew,EE (show k+1<2*(sd d l i 0).length by omega),Axc,wrapN (x:=((k+1:Nat):Int)+1) (n:=k+1+1) (by omega) (by omega)];refine Aq.bind (tH H hi (by omega) (by omega) hx) λr hr=>?_;obtain⟨f',e1,e2⟩:=hr;refine Aq.mk ⟨(r.1,f'),by rw[e1],e2.imp λ⟨⟨h1,h2⟩,h3⟩=>⟨h1,λp p1 p2 p3=>?_⟩⟩;rcases Aw7 p (k+1) with h' | h'
  ·exact h2 p p1 h' p3
  ·have:p=k+1:=by omega
   rw[this];exact h3 (by omega)
 ·unfold De Ie;simp only;rw[ew,show 2*(sd d l i 0).length-1+1=2*(sd d l i 0).length by omega,Ff,Axb];exact Aq.mk ⟨x.2,rfl,hx.imp λ⟨h1,h2⟩=>⟨h1,λp p1 p2=>h2 p p1 (by omega) p2⟩⟩
def UB(d:Axw)(l:AxA)(fs:Nat->Nat->Bool)(n:Nat):Prop:=∀i,i<n->∀p,1<=p->p<(sd d l i 0).length->jP d l fs i p 0/\jP d l fs i p 1
theorem tK(H:Re d l)(fs:Nat->Nat->Bool):Aq (KH (sides d l) false 0 (M d 1 fs)) λr=>∃f',r.2=M d 1 f'/\SW d l fs (UB d l fs l.length) r.1 f':=by
 unfold KH;have hlen:=H.len;have hsl:(sides d l).length=2*l.length:=PX _ _;have:=Bd (f:=Df (sides d l)) (λk (x:Bool×(Nat->Nat->Bool))=>(x.1,((2*k:Nat):Int),M d 1 x.2)) l.length (λk x=>SW d l fs (UB d l fs k) x.1 x.2) (Q:=λr=>∃f',r.2=M d 1 f'/\SW d l fs (UB d l fs l.length) r.1 f') (λk x hk hx=>?_) (λx hx=>?_) (s0:=(false,fs)) ⟨λ_=>⟨rfl,λi hi=>by omega⟩,λe=>(by cases e),λ_ _ h=>h,λ_ _ h=>h⟩
 ·exact this
 ·unfold Df Ig;have g1:=Vn (d:=d) hk (show 0<2 by omega);rw[Nat.add_zero] at g1;simp only[AwX,g1];have e1:(SZ (sd d l k 0)).1.length=(sd d l k 0).length:=Cb _;rw[hsl,EE (show 2*k<2*l.length by omega),Axc,if_pos (rng (by omega)),e1,wrapN (x:=((2*k:Nat):Int)+2) (n:=2*(k+1)) (by omega) (by omega)];refine Aq.bind (tJ H hk hx) λr hr=>?_;obtain⟨f',e1,e2⟩:=hr;refine Aq.mk ⟨(r.1,f'),by rw[e1],e2.imp λ⟨h1,h2⟩ i hi=>?_⟩;rcases Aw7 i k with h' | h'
  ·exact h1 i h'
  ·rw[show i=k by omega];exact h2
 ·unfold Df Ig;simp only;rw[hsl,Ff,Axb];exact Aq.mk ⟨x.2,rfl,hx⟩
theorem tL(H:Re d l)(f0:Nat->Nat->Bool):Aq (KI (sides d l) true (M d 1 f0)) λr=>∃f,r=M d 1 f/\Mr f0 f/\UB d l f l.length/\∀h,Py d l h->Mr (bB d f0) h->Mr (bB d f) h:=by
 unfold KI;refine FW (λm (x:Bool×AxE)=>∃f,x.2=M d 1 f/\m=free d f+(if x.1 then 1 else 0)/\Mr f0 f/\(x.1=false->UB d l f l.length)/\∀h,Py d l h->Mr (bB d f0) h->Mr (bB d f) h) (λm x hx=>?_) _ _ ⟨f0,rfl,rfl,λ_ _ h=>h,λe=>(by cases e),λ_ _ h=>h⟩;obtain⟨q,t⟩:=x;obtain⟨f,e1,rfl,hle,hok,hmin⟩:=hx;simp only at e1 hok;subst e1;unfold Ih L4;simp only;cases q with
 | false=>exact Aq.mk ⟨f,rfl,hle,hok rfl,hmin⟩
 | true =>
  rw[Axc];refine Aq.bind (tK H f) λr hr=>?_;obtain⟨f',e1,e2⟩:=hr;refine Aq.mk ⟨free d f'+(if r.1 then 1 else 0),?_,f',e1,rfl,λu b hu=>e2.le u b (hle u b hu),λe=>?_,λh hh hs=>e2.min h hh (hmin h hh hs)⟩
  ·cases hq:r.1 with
   | false=>rw[(e2.no hq).1];simp
   | true=>have:=e2.yes hq;simp;omega
  ·obtain⟨q1,q2⟩:=e2.no e;rw[q1];exact q2
end
end Go.Proofs.X
namespace Go.Proofs.X
open Go Go.Va
set_option maxRecDepth 100000
theorem fQ{d:Axw}:∀(fs:List Sg) (f:Nat->Nat->Bool),(∀x∈fs,Pz d x)->Mr f (fs.foldl Tg f)/\(∀x∈fs,Nk d (bB d (fs.foldl Tg f)) x)/\∀h,(∀x∈fs,Nk d h x)->Mr (bB d f) h->Mr (bB d (fs.foldl Tg f)) h
 | [],f,_=>⟨λ_ _ h=>h,λx hx=>(by cases hx),λ_ _ h=>h⟩
 | x::fs,f,hin=>by
  obtain⟨i1,i2,i3⟩:=fQ fs (Tg f x) λy hy=>hin y (List.mem_cons_of_mem _ hy);have k1:Mr f (Tg f x):=by
   cases x with
   | co b=>exact λ_ _ h=>h
   | va v l n=>exact λu q h=>Dv.2 (.inl (Dv.2 (.inl h)))
  refine⟨λu q h=>i1 u q (k1 u q h),λy hy=>?_,λh hh hs=>i3 h (λy hy=>hh y (List.mem_cons_of_mem _ hy)) ?_⟩
  ·rcases List.mem_cons.1 hy with rfl | hy
   ·cases y with
    | co b=>trivial
    | va v l n =>
     have hv:=(hin _ List.mem_cons_self).1;exact⟨λh1 h2=>Lv.2 ⟨⟨hv,h1,h2⟩,i1 v l (Dv.2 (.inl (Dv.2 (.inr ⟨rfl,rfl⟩))))⟩,λh1 h2=>Lv.2 ⟨⟨hv,h1,h2⟩,i1 v (l+n) (Dv.2 (.inr ⟨rfl,rfl⟩))⟩⟩
   ·exact i2 y hy
  ·have hx:=hh x List.mem_cons_self;cases x with
   | co b=>exact hs
   | va v l n =>
    intro u q hq;obtain⟨hr,hq⟩:=Lv.1 hq;rcases Dv.1 hq with hq | ⟨rfl,rfl⟩
    ·rcases Dv.1 hq with hq | ⟨rfl,rfl⟩
     ·exact hs u q (Lv.2 ⟨hr,hq⟩)
     ·exact hx.1 hr.2.1 hr.2.2
    ·exact hx.2 hr.2.1 hr.2.2
theorem qj{A B:Type}(f:Nat->Nat->A)(g:A->B)(n:Nat):(two f n).map g=two (λi s=>g (f i s)) n:=by
 unfold two;rw[List.map_flatMap];rfl
theorem Wj{A:Type}{f:Nat->Nat->A}{n:Nat}{x:A}:x∈two f n↔∃i,i<n/\(x=f i 0\/x=f i 1):=by
 unfold two;rw[List.mem_flatMap];simp
theorem sd0(d:Axw)(l:AxA)(i:Nat):sd d l i 0=b1 d l i:=rfl
theorem sd1(d:Axw)(l:AxA)(i:Nat):sd d l i 1=b2 d l i:=rfl
theorem allIn{d:Axw}{l:AxA}(hd:AA d)(hl:∀x∈l,TH x)(hp:Rj d l)(hs:KR d l):Re d l where
 hd:=hd
 len:=hp.1
 inn i s hi:=by
  obtain⟨h1,h2,_⟩:=Sy hd hl hp hs hi;unfold sd;split
  ·exact h1
  ·exact h2
 same i hi:=(Sy hd hl hp hs hi).2.2.1
theorem Ahl{d:Axw}{l:AxA}(H:Re d l){f:Nat->Nat->Bool}(h:UB d l f l.length){i:Nat}(hi:i<l.length):SP (b1 d l i) (b2 d l i) (bB d f):=by
 intro p hp1 hp2;have e:=H.same i hi;rw[sd0,sd1] at e;obtain⟨c0,c1⟩:=h i hi p hp1 hp2;have hA:A1 d (b1 d l i):=H.inn i 0 hi;have hB:A1 d (b2 d l i):=H.inn i 1 hi;rw[kR hA hp2,kR hB (by omega)];have c0:UW (b1 d l i) (b2 d l i) f p=false:=c0;have c1:UW (b2 d l i) (b1 d l i) f p=false:=c1;unfold UW at c0 c1;constructor
 ·intro h1 h2;rw[h1,h2] at c0;simpa using c0
 ·intro h1 h2;rw[h1,h2] at c1;simpa using c1
theorem bP {d:Axw} {l:AxA} {c:AxD} (hc:OO c) (hl:∀x∈l,TH x):Aq (Fs d l (c,())) λr =>
    (r=(false,[])/\¬(AA d/\Ct d c/\Rj d l/\KR d l))\/(AA d/\Ct d c/\Rj d l/\KR d l/\∃f,r=(true,Cc d f)/\Vy d l c f):=by
 unfold Fs I2;obtain⟨r1,e1,q1⟩:=PW (d:=d) hc;rw[e1,AwW];cases r1 with
 | false=>exact Aq.mk (.inl ⟨rfl,λh=>by have:=q1.2 ⟨h.1,h.2.1⟩;cases this⟩)
 | true =>
  obtain⟨hd,hcp⟩:=q1.1 rfl;obtain⟨r2,e2,q2⟩:=VX (d:=d) hl;simp only[Bool.not_true,Axb,e2,AwW];cases r2 with
  | false=>exact Aq.mk (.inl ⟨rfl,λh=>by have:=q2.2 ⟨h.1,h.2.2.1⟩;cases this⟩)
  | true =>
   have hlp:=(q2.1 rfl).2;simp only[Bool.not_true,Axb];rw[Uw hd hcp hc,AwW];unfold M4;obtain⟨r3,e3,q3⟩:=Yn hd hl hlp.1;rw[e3,AwW];rcases q3 with ⟨f1,hs,f2⟩| ⟨f1,hs⟩
   ·rw[f1,f2];simp only[Bool.not_true,Axb];have H:=allIn hd hl hlp hs;have ef:two (λi s=>(EF d (if s=0 then lS l i else lT l i)).2) l.length=(two (sd d l) l.length).map fN:=by
     rw[qj];unfold two;rw[List.flatMap_def,List.flatMap_def];congr 1;refine List.map_congr_left λi hi=>?_;obtain⟨_,_,_,_,a1,a2⟩:=Sy hd hl hlp hs (List.mem_range.1 hi);simp only[if_true,show ¬(1:Nat)=0 by omega,if_false,a1,a2];rfl
    have hbs:∀B∈two (sd d l) l.length,A1 d B:=λB hB=>by
     obtain⟨i,hi,h | h⟩:=Wj.1 hB
     ·rw[h];exact H.inn i 0 hi
     ·rw[h];exact H.inn i 1 hi
    have es:(two (sd d l) l.length).map SZ=sides d l:=qj _ _ _;have hln:=hlp.1;rw[ef,Abb hd hbs (by rw[PX];omega),AwW,es];have gT:∀x∈(two (sd d l) l.length).flatMap norm,Pz d x:=λx hx=>by
     obtain⟨B,hB,hx⟩:=List.mem_flatMap.1 hx;exact(RR (hbs B hB) hx).1
    obtain⟨i1,i2,i3⟩:=fQ _ (C0 c) gT;obtain⟨r4,e4,f,rfl,j1,j2,j3⟩:=tL H (((two (sd d l) l.length).flatMap norm).foldl Tg (C0 c));simp only[e4,AwW,Bool.not_true,Axb];rw[Yl hd,AwW];have eo:Cc d f=Cc d (bB d f):=Z0 λv p hv hp h1=>by simp[bB,hv,hp,h1]
    have hmem:∀{i:Nat} {x:Sg},i<l.length->x∈norm (b1 d l i)++norm (b2 d l i)->x∈(two (sd d l) l.length).flatMap norm:=λ{i x} hi hx=>by
     rcases List.mem_append.1 hx with hx | hx
     ·exact List.mem_flatMap.2 ⟨_,Wj.2 ⟨i,hi,.inl rfl⟩,hx⟩
     ·exact List.mem_flatMap.2 ⟨_,Wj.2 ⟨i,hi,.inr rfl⟩,hx⟩
    refine Aq.mk (.inr ⟨hd,hcp,hlp,hs,bB d f,by rw[eo],⟨λv p h=>Lv.2 ⟨jW hd hcp h,j1 v p (i1 v p h)⟩,λv p h=>(Lv.1 h).1,λi hi=>⟨λx hx=>?_,Ahl H j2 hi⟩,λh hh hc0=>j3 h hh (i3 h (λx hx=>?_) λu q hq=>hc0 u q (Lv.1 hq).2)⟩⟩)
    ·have:=i2 x (hmem hi hx);have hle:Mr (bB d (((two (sd d l) l.length).flatMap norm).foldl Tg (C0 c))) (bB d f):=λu q hq=>Lv.2 ⟨(Lv.1 hq).1,j1 u q (Lv.1 hq).2⟩;cases x with
     | co b=>trivial
     | va v a n=>exact⟨this.1.mono hle,this.2.mono hle⟩
    ·obtain⟨B,hB,hx⟩:=List.mem_flatMap.1 hx;obtain⟨i,hi,e | e⟩:=Wj.1 hB
     ·exact(hh i hi).1 x (List.mem_append_left _ (by rw[e] at hx;exact hx))
     ·exact(hh i hi).1 x (List.mem_append_right _ (by rw[e] at hx;exact hx))
   ·simp only[f1,Bool.not_false,Axc,AwW];exact Aq.mk (.inl ⟨rfl,λh=>hs h.2.2.2⟩)
theorem yX {d:Axw} {l:AxA} {c:AxD} (hc:OO c) (hl:∀x∈l,TH x):Aq (Fs d l (c,())) λr=>Dn d l (c,())=some r /\
    ((r=(false,[])/\¬(AA d/\Ct d c/\Rj d l/\KR d l))\/(AA d/\Ct d c/\Rj d l/\KR d l/\∃f,r=(true,Cc d f)/\Vy d l c f)):=by
 obtain⟨r1,e1,q1⟩:=bP (d:=d) hc hl;obtain⟨r2,e2,q2⟩:=aF (d:=d) hc hl;refine Aq.of e1 ⟨?_,q1⟩;rw[e2];rcases q1 with ⟨rfl,n1⟩| ⟨a1,a2,a3,a4,f,rfl,hf⟩<;>rcases q2 with ⟨rfl,n2⟩| ⟨b1,b2,b3,b4,g,rfl,hg⟩
 ·rfl
 ·exact(n1 ⟨b1,b2,b3,b4⟩).elim
 ·exact(n2 ⟨a1,a2,a3,a4⟩).elim
 ·rw[hf.unique hg]
theorem TA{R:Int->Int->Prop}(hR:∀a b,R a b->a<b):∀{l m:Axs},l.Pairwise R->m.Pairwise R->(∀x,x∈l↔x∈m)->l=m
 | [],[],_,_,_=>rfl
 | [],y::m,_,_,h=>by have:=(h y).2 List.mem_cons_self;cases this
 | x::l,[],_,_,h=>by have:=(h x).1 List.mem_cons_self;cases this
 | x::l,y::m,hl,hm,h=>by
  rw[List.pairwise_cons] at hl hm;have e:x=y:=by
   rcases List.mem_cons.1 ((h x).1 List.mem_cons_self) with e | e
   ·exact e
   ·rcases List.mem_cons.1 ((h y).2 List.mem_cons_self) with e' | e'
    ·exact e'.symm
    ·have:=hR _ _ (hm.1 x e);have:=hR _ _ (hl.1 y e');omega
  subst e;congr 1;refine TA hR hl.2 hm.2 λz=>⟨λhz=>?_,λhz=>?_⟩
  ·rcases List.mem_cons.1 ((h z).1 (List.mem_cons_of_mem _ hz)) with e | e
   ·have:=hR _ _ (hl.1 z hz);omega
   ·exact e
  ·rcases List.mem_cons.1 ((h z).2 (List.mem_cons_of_mem _ hz)) with e | e
   ·have:=hR _ _ (hm.1 z hz);omega
   ·exact e
theorem RP(w:Nat)(f:Nat->Bool):(AF w f).Pairwise (·<·):=by
 unfold AF;rw[List.pairwise_map];refine(List.pairwise_lt_range (n:=w)).filter _ |>.imp λ{a b} h=>?_;show(a:Int)<(b:Int);omega
theorem RO{w:Nat}{f:Nat->Bool}{x:Int}:x∈AF w f↔∃p:Nat,x=(p:Int)/\1<=p/\p<w/\f p=true:=by
 unfold AF;rw[List.mem_map];constructor
 ·rintro⟨p,hp,rfl⟩
  rw[List.mem_filter] at hp;obtain⟨h1,h2⟩:=hp;simp at h1 h2;exact⟨p,rfl,h2.1,h1,h2.2⟩
 ·rintro⟨p,rfl,h1,h2,h3⟩
  exact⟨p,List.mem_filter.2 ⟨List.mem_range.2 h2,by simp[h1,h3]⟩,rfl⟩
theorem mg{l:Axs}{w:Int}(h:S5 l w):l.Pairwise (·<·):=by
 rw[List.pairwise_iff_getElem];intro i j hi hj hij;have:=bn h hij hj;have e1:FX l i=l[i]:=by simp[FX,List.getD,hi]
 have e2:FX l j=l[j]:=by simp[FX,List.getD,hj]
 omega
theorem Vk{d:Axw}{c:AxD}(hd:AA d)(hc:Ct d c){v:Nat}(hv:v<d.length):AF (W d v) (C0 c v)=BD c v:=by
 obtain⟨e0,hw1,hw2⟩:=Nc hd hv;refine TA (λ_ _ h=>h) (RP _ _) (mg (hc.2 v hv)) λx=>?_;rw[RO];constructor
 ·rintro⟨p,rfl,_,_,h⟩
  simpa [C0] using h
 ·intro h;have:=Us (hc.2 v hv) h;refine⟨x.toNat,by omega,by omega,by omega,?_⟩;simp only[C0];rw[show((x.toNat:Nat):Int)=x by omega];simpa using h
theorem YI{d:Axw}{c:AxD}(hd:AA d)(hc:Ct d c):Cc d (C0 c)=c:=by
 apply List.ext_getElem
 ·simp[Cc,hc.1]
 ·intro v h1 h2;have hv:v<d.length:=by simpa [Cc] using h1
  have e:c[v]=BD c v:=by simp[BD,List.getD,h2]
  rw[e,<-Vk hd hc hv];simp[Cc]
theorem WL{d:Axw}{l:AxA}{c:AxD}(hd:AA d)(hc:Ct d c){f:Nat->Nat->Bool}(hf:Vy d l c f):Cc d f=c↔f=C0 c:=by
 constructor
 ·intro h
  funext v p
  rw[Bool.eq_iff_iff];refine⟨λhp=>?_,hf.le v p⟩;obtain⟨hv,h1,h2⟩:=hf.top v p hp;have e:AF (W d v) (f v)=BD c v:=by
   have:BD (Cc d f) v=AF (W d v) (f v):=by unfold BD Cc;exact L0 hv
   rw[<-this,h]
  have hm:(p:Int)∈BD c v:=by rw[<-e];exact RO.2 ⟨p,rfl,h1,h2,hp⟩
  simpa [C0] using hm
 ·intro h;rw[h];exact YI hd hc
end Go.Proofs.X
namespace Go.Proofs.X
open Go Go.Va
set_option maxRecDepth 100000
theorem fZ{a:Axs}(hn:a.length<=maxLen):QB Bf a:=by
 intro b;unfold Bf;refine Aq.cond (λh=>Aq.mk ⟨λh=>by(cases h),λe=>?_⟩) λh=>?_
 ·subst e;simp at h
 ·have hl:a.length=b.length:=by
    have:(a.length:Int)=(b.length:Int):=by simpa using h
    omega
  refine Aq.bind (P:=λt=>(t=.inr ()/\a=b)\/(t=.inl ()/\a≠b)) ?_ λt ht=>?_
  ·unfold IG;refine ah (F:=λx y:Int=>some (x==y)) (z:=0) hl hn (λx _ y=>Aq.mk (by simp)) (λk hk=>?_) ?_
   ·unfold Cm DT;rw[EE hk,Axc,if_pos (rng hk),if_pos (rng (by omega))];rfl
   ·unfold Cm DT;rw[Ff,Axb]
  ·rcases ht with ⟨rfl,e⟩| ⟨rfl,e⟩
   ·exact Aq.mk ⟨λ_=>e,λ_=>rfl⟩
   ·exact Aq.mk ⟨λh=>by(cases h),λh=>(e h).elim⟩
theorem iV{a b:AxD}(hn:a.length<=maxLen)(ha:∀x∈b,x.length<=maxLen)(hb:∀x∈a,x.length<=maxLen):Aq (Iw (a,()) (b,())) λr=>r=true↔a=b:=by
 unfold Iw;refine Aq.bind (P:=λr=>r=true↔a=b) ?_ λr hr=>Aq.mk hr;unfold Cz;simp only;by_cases hl:a.length=b.length
 ·rw[show((a.length:Int) !=(b.length:Int))=false by simp[hl],Axb];refine Aq.bind (P:=λt=>(t=.inr ()/\a=b)\/(t=.inl ()/\a≠b)) ?_ λt ht=>?_
  ·unfold FK;refine ah (F:=Bf) (z:=[]) hl hn (λx hx=>fZ (hb x hx)) (λk hk=>?_) ?_
   ·unfold Bz Cn Im;have e:∀x y:Axs,((Bf x y).bind λc=>some c)=Bf x y:=λx y=>by cases Bf x y<;>rfl
    simp only[e];rw[EE hk,Axc,if_pos (rng (by omega)),if_pos (rng (by omega))];rfl
   ·unfold Bz Cn;rw[Ff,Axb]
  ·rcases ht with ⟨rfl,e⟩| ⟨rfl,e⟩
   ·exact Aq.mk ⟨λ_=>e,λ_=>rfl⟩
   ·exact Aq.mk ⟨λh=>by(cases h),λh=>(e h).elim⟩
 ·rw[show((a.length:Int) !=(b.length:Int))=true by simp;omega,Axc];exact Aq.mk ⟨λh=>by(cases h),λh=>by subst h;exact(hl rfl).elim⟩
def Qm(c:AxD)(k:Nat):Nat:=((List.range k).map λv=>(BD c v).length).sum
theorem YY(c:AxD)(k:Nat):Qm c (k+1)=Qm c k+(BD c k).length:=by
 unfold Qm;rw[List.range_succ,List.map_append,List.sum_append];simp
theorem oU{c:AxD}(hb:∀v,(BD c v).length<=1048576):∀k,Qm c k<=1048576*k
 | 0=>by simp[Qm]
 | k+1=>by rw[YY];have:=oU hb k;have:=hb k;omega
theorem Uv{d:Axw}{c:AxD}(hd:AA d)(hc:Ct d c)(hb:OO c):L1 d (c,())=some ((d.length+Qm c d.length:Nat):Int):=by
 unfold L1;obtain⟨r,hr,hq⟩:=PW (d:=d) hb;have hdl:=hd.1;rw[hr,AwW,hq.2 ⟨hd,hc⟩,Bool.not_true,Axb];have:NL (c,()) (d.length:Int) 0=some ((d.length+Qm c d.length:Nat):Int):=by
  unfold NL;have:=AJ (f:=FV (c,())) (λk=>(((d.length+Qm c k:Nat):Int),(k:Int))) (t:=((d.length+Qm c d.length:Nat):Int)) d.length (λk hk=>?_) ?_
  ·exact this
  ·unfold FV Ly;have e1:(c.getD k (Ty.zero (.sl (.int .i64))))=BD c k:=rfl;have h1:=oU hb.row k;have h2:=hb.row k;simp only[AwX,e1];rw[hc.1,EE hk,Axc,if_pos (rng hk),AY hk (by omega),YY];rw[wrapN (x:=((d.length+Qm c k:Nat):Int)+((BD c k).length:Int)) (n:=d.length+(Qm c k+(BD c k).length)) (by omega) (by omega)]
  ·unfold FV Ly;simp only;rw[hc.1,Ff,Axb]
 rw[this];rfl
theorem Abk{g h:Nat->Nat}:∀{n v:Nat},(∀u,u<n->g u<=h u)->v<n->g v<h v->((List.range n).map g).sum<((List.range n).map h).sum
 | n+1,v,hle,hv,hlt=>by
  have hle':∀m,m<=n->((List.range m).map g).sum<=((List.range m).map h).sum:=by
   intro m;induction m with
   | zero=>intro _;simp
   | succ m ih=>intro hm;rw[Cy,Cy,List.sum_append,List.sum_append];have:=ih (by omega);have:=hle m (by omega);simp;omega
  rw[Cy,Cy,List.sum_append,List.sum_append];have h1:=hle n (by omega);rcases Aw7 v n with h2 | h2
  ·have:=Abk (λu hu=>hle u (by omega)) h2 hlt;simp;omega
  ·have:v=n:=by omega
   subst this;have:=hle' v (by omega);simp;omega
theorem UN{d:Axw}{f:Nat->Nat->Bool}{v:Nat}(hv:v<d.length):BD (Cc d f) v=AF (W d v) (f v):=by unfold BD Cc;exact L0 hv
theorem y9{d:Axw}(hd:AA d)(f:Nat->Nat->Bool):Ct d (Cc d f)/\OO (Cc d f):=by
 have hdl:=hd.1;refine⟨⟨by simp[Cc],λv hv=>?_⟩,by simp[Cc];omega,λx hx=>?_⟩
 ·rw[UN hv];obtain⟨e0,hw1,hw2⟩:=Nc hd hv;intro i hi;have hg:∀j,j<(AF (W d v) (f v)).length->FX (AF (W d v) (f v)) j=(AF (W d v) (f v))[j]!:=λj hj=>by simp[FX,List.getD,hj]
  have hm:FX (AF (W d v) (f v)) i∈AF (W d v) (f v):=by unfold FX;exact Az hi
  obtain⟨p,e,h1,h2,_⟩:=RO.1 hm;refine⟨by omega,by omega,λh0=>?_⟩;have:=(List.pairwise_iff_getElem.1 (RP (W d v) (f v))) (i-1) i (by omega) hi (by omega);have e1:FX (AF (W d v) (f v)) (i-1)=(AF (W d v) (f v))[i-1]'(by omega):=by simp[FX,List.getD,show i-1<(AF (W d v) (f v)).length by omega]
  have e2:FX (AF (W d v) (f v)) i=(AF (W d v) (f v))[i]:=by simp[FX,List.getD,hi]
  rw[e1,e2];exact this
 ·obtain⟨v,hv,rfl⟩:=List.mem_map.1 hx;have h1:=RN (W d v) (f v);have:=(Nc hd (List.mem_range.1 hv)).2.2;omega
theorem YW{d:Axw}{l:AxA}{c:AxD}(hd:AA d)(hc:Ct d c){f:Nat->Nat->Bool}(hf:Vy d l c f):Qm (Cc d f) d.length=Qm c d.length↔f=C0 c:=by
 constructor
 ·intro h
  funext v p
  rw[Bool.eq_iff_iff];refine⟨λhp=>?_,hf.le v p⟩;refine Classical.byContradiction λhn=>?_;obtain⟨hv,h1,h2⟩:=hf.top v p hp;have hlen:∀(u:Nat) (g:Nat->Nat->Bool),(AF (W d u) (g u)).length=(List.range (W d u)).countP λq=>decide (1<=q)&&g u q:=λu g=>by unfold AF;rw[Aw8,List.countP_eq_length_filter]
  have hlt:Qm c d.length<Qm (Cc d f) d.length:=by
   unfold Qm;refine Abk (v:=v) (λu hu=>?_) hv ?_
   ·rw[UN hu,<-Vk hd hc hu,hlen,hlen];refine List.countP_mono_left λq _ hq=>?_;rw[Aw3] at hq ⊢;exact⟨hq.1,hf.le u q hq.2⟩
   ·rw[UN hv,<-Vk hd hc hv,hlen,hlen];refine UM (x:=p) (λq hq=>?_) (List.mem_range.2 h2) (by simp[h1,hp]) (by simp at hn;simp[hn]);rw[Aw3] at hq ⊢;exact⟨hq.1,hf.le v q hq.2⟩
  omega
 ·intro h;rw[h,YI hd hc]
def QR(v:Nat):Int->Axs->Axz
 | _,[]=>[]
 | low,p::r=>((v:Int),low,p-low,())::QR v p r
def El(low:Int)(l:Axs):Int:=l.getLastD low
theorem Vm(v:Nat):∀(l:Axs) (low p:Int),QR v low (l++[p])=QR v low l++[((v:Int),El low l,p-El low l,())]
 | [],low,p=>rfl
 | x::l,low,p=>by
  have e:El low (x::l)=El x l:=by cases l<;>rfl
  rw[e];show _::QR v x (l++[p])=_;rw[Vm v l x p];rfl
theorem Uq(v:Nat):∀(l:Axs) (low:Int),(QR v low l).length=l.length
 | [],_=>rfl
 | _::l,_=>by simp[QR,Uq v l]
theorem LU{l:Axs}{i:Nat}(hi:i<l.length)(low:Int):El low (l.take (i+1))=FX l i:=by
 rw[AG (z:=(0:Int)) hi];unfold El FX;simp
def ends(d:Axw)(c:AxD)(v:Nat):Axs:=BD c v++[dw d v]
def SL(d:Axw)(c:AxD)(n:Nat):Axz:=(List.range n).flatMap λv=>QR v 0 (ends d c v)
theorem nP(d:Axw)(c:AxD)(n:Nat):SL d c (n+1)=SL d c n++QR n 0 (ends d c n):=by
 unfold SL;rw[List.range_succ,List.flatMap_append];simp
theorem Mt{d:Axw}{c:AxD}{v i:Nat}(hi:i<=(BD c v).length):FX (ends d c v) i=if i<(BD c v).length then FX (BD c v) i else dw d v:=by
 unfold ends FX;simp only[List.getD];split
 ·rename_i h;rw[List.getElem?_append_left h]
 ·have:i=(BD c v).length:=by omega
  subst this;simp
section
variable {d:Axw} {c:AxD}
theorem Wb(hd:AA d)(hc:Ct d c){v:Nat}(hv:v<d.length){i:Nat}(hi:i<(ends d c v).length):1<=FX (ends d c v) i/\FX (ends d c v) i<=4096:=by
 obtain⟨e0,hw1,hw2⟩:=Nc hd hv;have hl:i<=(BD c v).length:=by unfold ends at hi;simp at hi;omega
 rw[Mt hl];split
 ·rename_i h;have:=hc.2 v hv i h;exact⟨this.1,by have:=this.2.1;omega⟩
 ·omega
theorem aN(hd:AA d)(hc:Ct d c){v:Nat}(hv:v<d.length)(i:Nat)(hi:i<=(ends d c v).length):0<=El 0 ((ends d c v).take i)/\El 0 ((ends d c v).take i)<=4096:=by
 match i with
 | 0=>exact⟨by simp[El],by simp[El]⟩
 | i+1 =>
  rw[LU (by omega)];have:=Wb hd hc hv (i:=i) (by omega);omega
theorem ZL(hd:AA d)(hc:Ct d c):∀n,n<=d.length->(SL d c n).length<=4097*n:=λn hn=>QG λv hv=>by
 obtain⟨e0,hw1,hw2⟩:=Nc hd (show v<d.length by omega);have:=PU (hc.2 v (by omega)) (by omega);rw[Uq];unfold ends;simp;omega
theorem X7(hd:AA d)(hc:Ct d c)(hb:OO c):Ix d (c,())=some (SL d c d.length):=by
 unfold Ix;have hdl:=hd.1;have:Kg d c (c.length:Int) 0 []=some (SL d c d.length):=by
  unfold Kg;rw[hc.1];have:=AJ (f:=C8 d c (d.length:Int)) (λv=>((v:Int),SL d c v)) (t:=SL d c d.length) d.length (λv hv=>?_) ?_
  ·exact this
  ·unfold C8 HM;obtain⟨e0,hw1,hw2⟩:=Nc hd hv;have e1:(c.getD v (Ty.zero (.sl (.int .i64))))=BD c v:=rfl;have e2:(d.getD v Ab.zero).2.1=dw d v:=rfl;have hr:=PU (hc.2 v hv) (by omega);have hsl:=ZL hd hc v (by omega);simp only[AwX,e1];rw[EE hv,Axc,if_pos (rng (by rw[hc.1];exact hv))];have e3:G8 d (v:Int) c (d.length:Int) (SL d c v) (BD c v)=some (ends d c v,((ends d c v).length:Int)):=by
    unfold G8;simp only[AwX,e2];rw[if_pos (by omega),if_pos (rng hv),if_pos (by simp;omega)];rfl
   rw[e3,AwW];simp only;have hel:(ends d c v).length<=4097:=by unfold ends;simp;omega
   have e4:Ke d (v:Int) c (d.length:Int) (ends d c v) ((ends d c v).length:Int) 0 0 (SL d c v)=some (SL d c (v+1)):=by
    unfold Ke;have:=AJ (f:=C7 d (v:Int) c (d.length:Int) (ends d c v) ((ends d c v).length:Int)) (λi=>(El 0 ((ends d c v).take i),(i:Int),SL d c v++QR v 0 ((ends d c v).take i))) (t:=SL d c (v+1)) (ends d c v).length (λi hi=>?_) ?_
    ·rw[show SL d c v=SL d c v++QR v 0 ((ends d c v).take 0) by simp[QR]];exact this
    ·unfold C7 HL;have e5:(ends d c v).getD i (Ty.zero (.int .i64))=FX (ends d c v) i:=rfl;have hbd:=Wb hd hc hv hi;have hlb:=aN hd hc hv i (by omega);have hrl:(QR v 0 ((ends d c v).take i)).length<=4097:=by rw[Uq,List.length_take];omega
     simp only[AwX,e5];rw[EE hi,Axc,if_pos (rng hi),if_pos (by simp only[Aw0,List.length_cons,List.length_nil];omega),AY hi (by omega),wrap64 (x:=FX (ends d c v) i-El 0 ((ends d c v).take i)) (by omega) (by omega),LU hi,AG (z:=(0:Int)) hi,Vm,Aw4];rfl
    ·unfold C7 HL;simp only;rw[Ff,Axb,Aw6 (Aw2 _),nP]
   rw[e4,AwW,AY hv (by omega)]
  ·unfold C8 HM;simp only;rw[Ff,Axb]
 rw[this];rfl
theorem S0(hd:AA d)(hc:Ct d c)(hb:OO c):GF d (c,())=some (SL d c d.length):=by
 unfold GF;have hdl:=hd.1;obtain⟨r,hr,hq⟩:=PW (d:=d) hb;rw[hr,AwW,hq.2 ⟨hd,hc⟩,Bool.not_true,Axb];have:Kr d (c,()) 0 []=some (SL d c d.length):=by
  unfold Kr;have:=AJ (f:=Dc d (c,())) (λv=>((v:Int),SL d c v)) (t:=SL d c d.length) d.length (λv hv=>?_) ?_
  ·exact this
  ·unfold Dc H9;obtain⟨e0,hw1,hw2⟩:=Nc hd hv;have hr:=PU (hc.2 v hv) (by omega);have hsl:=ZL hd hc v (by omega);have hel:(ends d c v).length=(BD c v).length+1:=by unfold ends;simp
   simp only;rw[EE hv,Axc];have e4:Kq d (v:Int) (c,()) 0 0 (SL d c v)=some (SL d c (v+1)):=by
    unfold Kq;have:=AJ (f:=Db d (v:Int) (c,())) (λi=>(El 0 ((ends d c v).take i),(i:Int),SL d c v++QR v 0 ((ends d c v).take i))) (t:=SL d c (v+1)) (ends d c v).length (λi hi=>?_) ?_
    ·rw[show SL d c v=SL d c v++QR v 0 ((ends d c v).take 0) by simp[QR]];exact this
    ·unfold Db H8;have e1:(c.getD v (Ty.zero (.sl (.int .i64))))=BD c v:=rfl;have e2:(d.getD v Ab.zero).2.1=dw d v:=rfl;have hbd:=Wb hd hc hv hi;have hlb:=aN hd hc hv i (by omega);have hrl:(QR v 0 ((ends d c v).take i)).length<=4097:=by rw[Uq,List.length_take];omega
     simp only[AwX,e1,e2];rw[if_pos (rng (by rw[hc.1];exact hv)),show decide ((i:Int)<=((BD c v).length:Int))=true from Aw1 (by omega),Axc,if_pos (rng hv)];have e6:Hl d (v:Int) (El 0 ((ends d c v).take i)) (i:Int) (c,()) (SL d c v++QR v 0 ((ends d c v).take i)) (dw d v)=some (FX (ends d c v) i):=by
      unfold Hl;have e3:(BD c v).getD i (Ty.zero (.int .i64))=FX (BD c v) i:=rfl;simp only[AwX,e1,e3];rw[if_pos (rng (by rw[hc.1];exact hv)),Mt (by omega)];by_cases h:i<(BD c v).length
      ·rw[EE h,Axc,if_pos (rng (by rw[hc.1];exact hv)),if_pos (rng h),if_pos h]
      ·rw[AwZ (by omega),Axb,if_neg h]
     rw[e6,AwW,if_pos (by simp only[Aw0,List.length_cons,List.length_nil];omega),AY hi (by omega),wrap64 (x:=FX (ends d c v) i-El 0 ((ends d c v).take i)) (by omega) (by omega),LU hi,AG (z:=(0:Int)) hi,Vm,Aw4];rfl
    ·unfold Db H8;have e1:(c.getD v (Ty.zero (.sl (.int .i64))))=BD c v:=rfl;simp only[AwX,e1];rw[if_pos (rng (by rw[hc.1];exact hv)),hel,show decide ((((BD c v).length+1:Nat):Int)<=((BD c v).length:Int))=false from AwZ (by omega),Axb,<-hel,Aw6 (Aw2 _),nP]
   rw[e4,AwW,AY hv (by omega)]
  ·unfold Dc H9;simp only;rw[Ff,Axb]
 rw[this];rfl
end
end Go.Proofs.X
namespace Go.Proofs.X
open Go Go.Va
set_option maxRecDepth 100000
def slc(L:Axz)(i:Nat):Axk:=L.getD i Af.zero
def Vo(L:Axz)(i:Nat):Axg:=((slc L i).1,(slc L i).2.1,())
def Eb(L:Axz)(k:Axg):Nat->Option Nat
 | 0=>none
 | n+1=>bif A0 Aa k (Vo L n) then some n else Eb L k n
theorem VN(L:Axz)(k:Axg)(n:Nat):Eb L k (n+1)=bif A0 Aa k (Vo L n) then some n else Eb L k n:=rfl
theorem RH{L:Axz}{k:Axg}:∀{N n:Nat},Eb L k N=some n->n<N/\Vo L n=k
 | N+1,n,h=>by
  unfold Eb at h;cases hk:A0 Aa k (Vo L N) with
  | true =>
   rw[hk,Axc] at h;injection h with h;subst h;exact⟨Nat.lt_succ_self _,((key2 _ _).1 hk).symm⟩
  | false =>
   rw[hk,Axb] at h;obtain⟨h1,h2⟩:=RH h;exact⟨by omega,h2⟩
theorem VM{L:Axz}{k:Axg}:∀{N m:Nat},m<N->Vo L m=k->∃n,Eb L k N=some n
 | N+1,m,hm,h=>by
  unfold Eb;cases hk:A0 Aa k (Vo L N) with
  | true=>exact⟨N,rfl⟩
  | false =>
   rcases Aw7 m N with h' | h'
   ·obtain⟨n,hn⟩:=VM h' h;exact⟨n,hn⟩
   ·have:m=N:=by omega
    subst this;rw[<-h,(key2 _ _).2 rfl] at hk;cases hk
abbrev FM:Type:=List (Axg×Int)
def jS(L:Axz):Nat->FM
 | 0=>[]
 | n+1=>Cq Aa (.int .i64) (jS L n) (Vo L n) (n:Int)
theorem oO(L:Axz)(k:Axg):∀n,MH Aa (.int .i64) (jS L n) k=(Eb L k n).map Int.ofNat
 | 0=>rfl
 | n+1=>by
  unfold jS Eb;rw[Tp key2,oO L k n];cases A0 Aa k (Vo L n)<;>rfl
theorem rA{L:Axz}(hL:L.length<=1048576):Iv L=some (jS L L.length):=by
 unfold Iv;have:J7 L (L.length:Int) 0 []=some (jS L L.length):=by
  unfold J7;have:=AJ (f:=C3 L (L.length:Int)) (λi=>((i:Int),jS L i)) (t:=jS L L.length) L.length (λi hi=>?_) ?_
  ·exact this
  ·unfold C3 HH;simp only[AwX];rw[EE hi,Axc,if_pos (rng hi),AY hi hL];rfl
  ·unfold C3 HH;simp only;rw[Ff,Axb]
 rw[this];rfl
theorem Ur{v:Nat}:∀{l:Axs} {low:Int} {x:Axk},x∈QR v low l↔∃j,j<l.length/\x=((v:Int),El low (l.take j),FX l j-El low (l.take j),())
 | [],low,x=>by simp[QR]
 | p::l,low,x=>by
  have e:∀j,El low ((p::l).take (j+1))=El p (l.take j):=λj=>by
   rw[List.take_succ_cons];cases l.take j<;>rfl
  constructor
  ·intro h;rcases List.mem_cons.1 h with h | h
   ·exact⟨0,by simp,h⟩
   ·obtain⟨j,hj,rfl⟩:=Ur.1 h;refine⟨j+1,by simpa using hj,?_⟩;rw[e];rfl
  ·rintro⟨j,hj,rfl⟩
   match j with
   | 0=>exact List.mem_cons_self
   | j+1 =>
    rw[e];exact List.mem_cons_of_mem _ (Ur.2 ⟨j,by simpa using hj,rfl⟩)
section
variable {d:Axw} {c:AxD}
theorem kE{x:Axk}:x∈SL d c d.length↔∃v j,v<d.length/\j<(ends d c v).length/\x=((v:Int),El 0 ((ends d c v).take j),FX (ends d c v) j-El 0 ((ends d c v).take j),()):=by
 unfold SL;rw[List.mem_flatMap];constructor
 ·rintro⟨v,hv,hx⟩
  obtain⟨j,hj,e⟩:=Ur.1 hx;exact⟨v,j,List.mem_range.1 hv,hj,e⟩
 ·rintro⟨v,j,hv,hj,e⟩
  exact⟨v,List.mem_range.2 hv,Ur.2 ⟨j,hj,e⟩⟩
theorem Wc(_hd:AA d)(hc:Ct d c){v:Nat}(hv:v<d.length){i j:Nat}(hij:i<j)(hj:j<(ends d c v).length):FX (ends d c v) i<FX (ends d c v) j:=by
 have hl:j<=(BD c v).length:=by unfold ends at hj;simp at hj;omega
 have hp:=hc.2 v hv;rw[Mt hl,Mt (by omega),if_pos (by omega)];split
 ·rename_i h;exact bn hp hij h
 ·have:=(hp i (by omega)).2.1;omega
theorem Aap(hd:AA d)(hc:Ct d c){v a e j:Nat}(hv:v<d.length)(hj:j<(ends d c v).length)(ha:El 0 ((ends d c v).take j)=(a:Int))(hae:a<e)(he:e=W d v\/e<W d v/\C0 c v e=true)(hno:∀q,a<q->q<e->C0 c v q=false):FX (ends d c v) j=(e:Int):=by
 obtain⟨e0,hw1,hw2⟩:=Nc hd hv;have hel:(ends d c v).length=(BD c v).length+1:=by unfold ends;simp
 have hpos:∃j',j'<(ends d c v).length/\FX (ends d c v) j'=(e:Int):=by
  rcases he with rfl | ⟨_,h⟩
  ·exact⟨(BD c v).length,by omega,by rw[Mt (Aw2 _),if_neg (by omega),e0]⟩
  ·have hm:(e:Int)∈BD c v:=by simpa [C0] using h
   obtain⟨i,hi,hx⟩:=List.getElem_of_mem hm;exact⟨i,by omega,by rw[Mt (by omega),if_pos hi,<-hx];simp[FX,List.getD,hi]⟩
 obtain⟨j',hj',hje⟩:=hpos;have hlow:(a:Int)<FX (ends d c v) j:=by
  match j with
  | 0 =>
   have:a=0:=by simp[El] at ha;omega
   have:=(Wb hd hc hv hj).1;omega
  | i+1 =>
   rw[LU (by omega)] at ha;rw[<-ha];exact Wc hd hc hv (by omega) hj
 have hjj:j<=j':=by
  refine Classical.byContradiction λhn=>?_
  match j with
  | 0=>omega
  | i+1 =>
   rw[LU (by omega)] at ha;rcases Aw7 j' i with h | h
   ·have:=Wc hd hc hv h (by omega);omega
   ·have:j'=i:=by omega
    rw[this] at hje;omega
 rcases Aw7 j j' with h | h
 ·exfalso
  have hlt:=Wc hd hc hv h hj';rw[Mt (by omega)] at hlow hlt;by_cases hc':j<(BD c v).length
  ·rw[if_pos hc'] at hlow hlt;have hm:FX (BD c v) j∈BD c v:=by unfold FX;exact Az hc'
   have hb:=Us (hc.2 v hv) hm;have:=hno (FX (BD c v) j).toNat (by omega) (by omega);simp only[C0] at this;rw[show(((FX (BD c v) j).toNat:Nat):Int)=FX (BD c v) j by omega] at this;simp[hm] at this
  ·omega
 ·have:j=j':=by omega
  rw[this];exact hje
theorem AaT (hd:AA d) (hc:Ct d c) {v a e:Nat} (hv:v<d.length) (h0:a=0\/C0 c v a=true) (hae:a<e) (he:e=W d v\/e<W d v/\C0 c v e=true) (hno:∀q,a<q->q<e->C0 c v q=false) :
    ∃n,Eb (SL d c d.length) (nk v a) (SL d c d.length).length=some n/\n<(SL d c d.length).length/\(slc (SL d c d.length) n).2.2.1=((e-a:Nat):Int):=by
 have hel:(ends d c v).length=(BD c v).length+1:=by unfold ends;simp
 have hj:∃j,j<(ends d c v).length/\El 0 ((ends d c v).take j)=(a:Int):=by
  rcases h0 with rfl | h
  ·exact⟨0,by omega,rfl⟩
  ·have hm:(a:Int)∈BD c v:=by simpa [C0] using h
   obtain⟨i,hi,hx⟩:=List.getElem_of_mem hm;have hilt:i+1<(ends d c v).length:=by
    rw[hel];omega
   refine⟨i+1,hilt,?_⟩;rw[LU (by omega),Mt (by omega),if_pos hi,<-hx];simp[FX,List.getD,hi]
 obtain⟨j,hj1,hj2⟩:=hj;have hm:(((v:Int),El 0 ((ends d c v).take j),FX (ends d c v) j-El 0 ((ends d c v).take j),()):Axk)∈SL d c d.length:=kE.2 ⟨v,j,hv,hj1,rfl⟩;obtain⟨m,hm1,hm2⟩:=List.getElem_of_mem hm;have hsm:slc (SL d c d.length) m=((v:Int),El 0 ((ends d c v).take j),FX (ends d c v) j-El 0 ((ends d c v).take j),()):=by
  unfold slc;simp only[List.getD,List.getElem?_eq_getElem hm1,Option.getD_some];exact hm2
 obtain⟨n,hn⟩:=VM (L:=SL d c d.length) (k:=nk v a) hm1 (by unfold Vo nk;rw[hsm,hj2]);obtain⟨hn1,hn2⟩:=RH hn;refine⟨n,hn,hn1,?_⟩;obtain⟨v',j',hv',hj',hx⟩:=kE.1 (show slc (SL d c d.length) n∈SL d c d.length from Az hn1);unfold Vo nk at hn2;rw[hx] at hn2 ⊢;injection hn2 with h1 h2;injection h2 with h2 _;have h1:(v':Int)=(v:Int):=h1;have hvv:v'=v:=by omega
 subst hvv;have h2:El 0 ((ends d c v').take j')=(a:Int):=h2;have:=Aap hd hc hv' hj' h2 hae he hno;show FX (ends d c v') j'-El 0 ((ends d c v').take j')=_;rw[this,h2];omega
def nm(o:Option Nat):Int:=match o with | some n=>(n:Int)| none=>-1
def NM(d:Axw)(L:Axz)(n:Nat):AxD:=(List.range d.length).map λv=>(List.range (W d v)).map λa=>nm (Eb L (nk v a) n)
theorem kg{L:Axz}{n v:Nat}{z:Axs}(hv:v<d.length):(NM d L n).getD v z=(List.range (W d v)).map λa=>nm (Eb L (nk v a) n):=L0 hv
theorem Aao(hd:AA d)(hc:Ct d c)(hb:OO c):KM d (c,())=some (NM d (SL d c d.length) (SL d c d.length).length):=by
 unfold KM;have hdl:=hd.1;have h1:LP d (c,()) 0 []=some (NM d (SL d c d.length) 0):=by
  unfold LP;have:=AJ (f:=D7 d (c,())) (λv=>((v:Int),(List.range v).map λu=>(List.range (W d u)).map λa=>nm (Eb (SL d c d.length) (nk u a) 0))) (t:=NM d (SL d c d.length) 0) d.length (λv hv=>?_) ?_
  ·exact this
  ·unfold D7 Jl;obtain⟨e0,hw1,hw2⟩:=Nc hd hv;have e2:(d.getD v Ab.zero).2.1=(W d v:Int):=e0;simp only[AwX,e2];rw[EE hv,Axc,if_pos (rng hv),if_pos (show Ty.row (.int .i64)=true/\(0:Int)<=(W d v:Int)/\(W d v:Int)<=(W d v:Int)/\((8:Nat):Int)*(W d v:Int)<=281474976710656/\(W d v:Int)<=9223372036854775807 from⟨rfl,by omega,by omega,by omega,by omega⟩)];have e4:∀z,LO d (v:Int) (c,()) z 0 (List.replicate (W d v) 0)=some ((List.range (W d v)).map λa=>nm (Eb (SL d c d.length) (nk v a) 0)):=λz=>by
    unfold LO;have:=AJ (f:=D6 d (v:Int) (c,()) z) (λi=>((i:Int),Bn (λ_=>(-1:Int)) 0 (W d v) i)) (t:=Bn (λ_=>(-1:Int)) 0 (W d v) (W d v)) (W d v) (λi hi=>?_) ?_
    ·rw[Jq] at this;have ef:Bn (λ_=>(-1:Int)) 0 (W d v) (W d v)=(List.range (W d v)).map λa=>nm (Eb (SL d c d.length) (nk v a) 0):=List.map_congr_left λa ha=>by rw[if_pos (List.mem_range.1 ha)];rfl
     rw[<-ef];exact this
    ·unfold D6 Jk;simp only[AwX];rw[EI,EE hi,Axc,if_pos (rng hi),AY hi (by omega),L8 (λ_=>(-1:Int))]
    ·unfold D6 Jk;simp only;rw[EI,Ff,Axb]
   rw[e4,AwW,if_pos (by simp;omega),AY hv (by omega),Cy]
  ·unfold D7 Jl;simp only;rw[Ff,Axb];rfl
 rw[h1,AwW,S0 hd hc hb,AwW];have hsl:=ZL hd hc d.length (Aw2 _);have h2:LQ (SL d c d.length) 0 (NM d (SL d c d.length) 0)=some (NM d (SL d c d.length) (SL d c d.length).length):=by
  unfold LQ;have:=AJ (f:=D8 (SL d c d.length)) (λi=>((i:Int),NM d (SL d c d.length) i)) (t:=NM d (SL d c d.length) (SL d c d.length).length) (SL d c d.length).length (λi hi=>?_) ?_
  ·exact this
  ·unfold D8 Jm;have hmem:slc (SL d c d.length) i∈SL d c d.length:=Az hi;obtain⟨v,j,hv,hj,hx⟩:=kE.1 hmem;obtain⟨e0,hw1,hw2⟩:=Nc hd hv;have hlb:=aN hd hc hv j (by omega);obtain⟨a,ha⟩:∃a:Nat,El 0 ((ends d c v).take j)=(a:Int):=⟨(El 0 ((ends d c v).take j)).toNat,by omega⟩;have haw:a<W d v:=by
    match j with
    | 0=>simp[El] at ha;omega
    | j+1 =>
     rw[LU (by omega)] at ha;have h3:=Wc hd hc hv (show j<(BD c v).length by unfold ends at hj;simp at hj;omega) (by unfold ends;simp);rw[Mt (Aw2 _),if_neg (by omega)] at h3;omega
   have q1:((SL d c d.length).getD i Af.zero).1=(v:Int):=congrArg (·.1) hx;have q2:((SL d c d.length).getD i Af.zero).2.1=(a:Int):=(congrArg (·.2.1) hx).trans ha;have hk:Vo (SL d c d.length) i=nk v a:=by
    unfold Vo nk;rw[show(slc (SL d c d.length) i).1=(v:Int) from q1,show(slc (SL d c d.length) i).2.1=(a:Int) from q2]
   simp only[AwX,q1,q2];have hset:(NM d (SL d c d.length) i).set v (((NM d (SL d c d.length) i).getD v (Ty.zero (.sl (.int .i64)))).set a (i:Int))=NM d (SL d c d.length) (i+1):=by
    rw[kg hv];apply List.ext_getElem?;intro u;rw[List.getElem?_set];by_cases hu:u<d.length
    ·have er:∀m,(NM d (SL d c d.length) m)[u]?=some ((List.range (W d u)).map λa=>nm (Eb (SL d c d.length) (nk u a) m)):=λm=>by simp[NM,hu]
     rw[er,er];split
     ·rename_i e;subst e;rw[if_pos (by simp[NM];exact hu)];congr 1;apply List.ext_getElem?;intro b;rw[List.getElem?_set];by_cases hbw:b<W d v
      ·simp only[Aw8,List.length_range,List.getElem?_map,List.getElem?_range hbw,Option.map_some];rw[VN,hk];split
       ·rename_i e;subst e;rw[(key2 _ _).2 rfl];rfl
       ·rename_i e;have:A0 Aa (nk v b) (nk v a)=false:=by
         rw[Bool.eq_false_iff];intro h;exact e (RI.1 ((key2 _ _).1 h)).2.symm
        rw[this];rfl
      ·rw[if_neg (by omega)];simp[hbw]
     ·rename_i e;congr 1;refine List.map_congr_left λb _=>?_;have:A0 Aa (nk u b) (Vo (SL d c d.length) i)=false:=by
       rw[hk,Bool.eq_false_iff];intro h;exact e (RI.1 ((key2 _ _).1 h)).1.symm
      show _=nm (Eb (SL d c d.length) (nk u b) (i+1));rw[VN,this];rfl
    ·have:∀m,(NM d (SL d c d.length) m)[u]?=none:=λm=>by simp[NM];omega
     rw[this,this,if_neg (by omega)]
   have hNl:(NM d (SL d c d.length) i).length=d.length:=by simp[NM]
   rw[EE hi,Axc,if_pos (rng hi),hNl,if_pos (rng hv),if_pos (rng hi),if_pos (by rw[kg hv];simp;omega),hset,AY hi (by omega)]
  ·unfold D8 Jm;simp only;rw[Ff,Axb]
 rw[h2];rfl
end
end Go.Proofs.X
namespace Go.Proofs.X
open Go Go.Va
set_option maxRecDepth 100000
theorem AdS{xs:Axs}(hs:xs.Pairwise (·<=·)):∀m,m<=xs.length->(Lib.compactUpTo xs.toArray m).Pairwise (·<·)/\(∀x,x∈Lib.compactUpTo xs.toArray m↔∃j,j<m/\x=xs.toArray[j]!):=by
 have hget:∀j,j<xs.length->xs.toArray[j]! =FX xs j:=λj hj=>by simp[FX,List.getD,hj]
 have hle:∀i j,i<j->j<xs.length->FX xs i<=FX xs j:=λi j hij hj=>by
  have:=List.pairwise_iff_getElem.1 hs i j (by omega) hj hij;simpa [FX,List.getD,hj,show i<xs.length by omega] using this
 intro m;induction m with
 | zero=>intro _;simp[Lib.compactUpTo]
 | succ m ih =>
  intro hm;obtain⟨h1,h2⟩:=ih (by omega);rw[Lib.compactUpTo_succ];cases hk:Lib.keeps xs.toArray m with
  | true =>
   simp only[if_true];refine⟨List.pairwise_append.2 ⟨h1,by simp,λx hx y hy=>?_⟩,λx=>?_⟩
   ·rw[List.mem_singleton] at hy;subst hy;obtain⟨j,hj,rfl⟩:=(h2 x).1 hx;have hk':m=0\/xs.toArray[m]!≠xs.toArray[m-1]!:=by simpa [Lib.keeps] using hk
    rcases hk' with hk' | hk'
    ·omega
    ·rw[hget m (by omega),hget (m-1) (by omega)] at hk';rw[hget j (by omega),hget m (by omega)];have a1:=hle (m-1) m (by omega) (by omega);have a2:FX xs j<=FX xs (m-1):=by
      rcases Aw7 j (m-1) with h | h
      ·exact hle j (m-1) h (by omega)
      ·rw[show j=m-1 by omega];exact Int.le_refl _
     omega
   ·rw[List.mem_append,h2,List.mem_singleton];constructor
    ·rintro(⟨j,hj,rfl⟩| rfl)
     ·exact⟨j,by omega,rfl⟩
     ·exact⟨m,by omega,rfl⟩
    ·rintro⟨j,hj,rfl⟩
     rcases Aw7 j m with h | h
     ·exact .inl ⟨j,h,rfl⟩
     ·rw[show j=m by omega];exact .inr rfl
  | false =>
   simp only[Bool.false_eq_true,if_false,List.append_nil];refine⟨h1,λx=>?_⟩;rw[h2];have hk':¬(m=0\/xs.toArray[m]!≠xs.toArray[m-1]!):=by simpa [Lib.keeps] using hk
   have hm0:m≠0:=λe=>hk' (.inl e);have he:xs.toArray[m]! =xs.toArray[m-1]!:=Classical.byContradiction λe=>hk' (.inr e);constructor
   ·rintro⟨j,hj,rfl⟩;exact⟨j,by omega,rfl⟩
   ·rintro⟨j,hj,rfl⟩
    rcases Aw7 j m with h | h
    ·exact⟨j,h,rfl⟩
    ·rw[show j=m by omega,he];exact⟨m-1,by omega,rfl⟩
theorem jJ(xs:Axs):(Li (Mh xs)).Pairwise (·<·)/\∀x,x∈Li (Mh xs)↔x∈xs:=by
 have hs:(Mh xs).Pairwise (·<=·):=by
  have:=List.pairwise_mergeSort (le:=leI) (λa b c h1 h2=>by simp[leI] at *;omega) (λa b=>by simp[leI];omega) xs;exact this.imp λ{a b} h=>by simpa [leI] using h
 obtain⟨h1,h2⟩:=AdS hs _ (Aw2 _);refine⟨h1,λx=>?_⟩;have h2:=h2 x;unfold Li Lib.compact;rw[h2];have hm:∀y,y∈Mh xs↔y∈xs:=λy=>(List.mergeSort_perm xs leI).mem_iff;rw[<-hm];constructor
 ·rintro⟨j,hj,rfl⟩
  have:(Mh xs).toArray[j]! =(Mh xs)[j]:=by simp[hj]
  rw[this];exact List.getElem_mem hj
 ·intro hx;obtain⟨j,hj,rfl⟩:=List.getElem_of_mem hx;exact⟨j,hj,by simp[hj]⟩
def Q6(l n:Nat)(p:Int):Bool:=decide ((l:Int)<p)&&decide (p<((l+n:Nat):Int))
def Yh(c:AxD)(s:Sg)(k q:Nat):Axs:=match s with
 | .co _=>[]
 | .va v l n=>(((BD c v).take q).filter (Q6 l n)).map λp=>(k:Int)+p-(l:Int)
def prt(c:AxD)(s:Sg)(k:Nat):Axs:=(k:Int)::match s with
 | .co _=>[]
 | .va v l n=>((BD c v).filter (Q6 l n)).map λp=>(k:Int)+p-(l:Int)
def HA(c:AxD)(f:List Sg)(m:Nat):Axs:=(List.range m).flatMap λi=>prt c (f.getD i (.co [])) (AO (f.take i))
theorem lV(c:AxD)(f:List Sg)(m:Nat):HA c f (m+1)=HA c f m++prt c (f.getD m (.co [])) (AO (f.take m)):=by
 unfold HA;rw[List.range_succ,List.flatMap_append];simp
section
variable {d:Axw} {c:AxD}
theorem pQ(hd:AA d)(hc:Ct d c){s:Sg}(hs:Pz d s)(k:Nat):(prt c s k).length<=4097:=by
 cases s with
 | co b=>simp[prt]
 | va v l n =>
  obtain⟨hv,_,_⟩:=hs;obtain⟨e0,hw1,hw2⟩:=Nc hd hv;have h1:=PU (hc.2 v hv) (by omega);have h2:=List.length_filter_le (Q6 l n) (BD c v);simp only[prt,List.length_cons,Aw8];omega
theorem iN(hd:AA d)(hc:Ct d c)(hb:OO c){B:List Bt}(h:A1 d B):Gw (fN B) (c,())=some (HA c (norm B) (norm B).length):=by
 unfold Gw;obtain⟨n1,n2,n3⟩:=aW hd h;have hlen:=BW n1;have hbl:=h.2.1;have gT:∀i,i<(norm B).length->Pz d ((norm B).getD i (.co [])):=λi hi=>(RR h (Az hi)).1;have hpl:∀m,m<=(norm B).length->(HA c (norm B) m).length<=4097*m:=λm hm=>QG λi hi=>pQ hd hc (gT i (by omega)) _;have:Kc (fN B) (c,()) ((fN B).length:Int) 0 0 []=some (HA c (norm B) (norm B).length):=by
  unfold Kc;rw[show(fN B).length=(norm B).length from Bj _];have:=AJ (f:=C6 (fN B) (c,()) ((norm B).length:Int)) (λk=>((AO ((norm B).take k):Int),(k:Int),HA c (norm B) k)) (t:=HA c (norm B) (norm B).length) (norm B).length (λk hk=>?_) ?_
  ·exact this
  ·unfold C6 HK;have e1:(fN B).getD k Ad.zero=FU ((norm B).getD k (.co [])):=W1 hk;have hpk:=hpl k (by omega);have hwk:=Dl (norm B) k;have hse:=Sw hk;simp only[AwX,e1];rw[EE hk,Axc,show(fN B).length=(norm B).length from Bj _,if_pos (rng hk),if_pos (by simp only[Aw0,List.length_cons,List.length_nil];omega)];have e2:G7 (AO ((norm B).take k):Int) (fN B) ((norm B).length:Int) (k:Int) (c,()) (HA c (norm B) k++[(AO ((norm B).take k):Int)]) (FU ((norm B).getD k (.co [])))=some (HA c (norm B) (k+1)):=by
    unfold G7;rw[lV];have hin:=gT k hk;cases hs:(norm B).getD k (.co []) with
    | co b=>rfl
    | va v l n =>
     rw[hs] at hin hse;obtain⟨hv,hn,hw⟩:=hin;obtain⟨e0,hw1,hw2⟩:=Nc hd hv;have hrl:=PU (hc.2 v hv) (by omega);have e3:(c.getD v (Ty.zero (.sl (.int .i64))))=BD c v:=rfl;have e4:(FU (.va v l n)).1=(v:Int):=rfl;simp only[e4,AwX,e3];rw[show decide ((v:Int)>=0)=true from Aw1 (by omega),Axc,if_pos (rng (by rw[hc.1];exact hv))];have e5:Kb (AO ((norm B).take k):Int) (fN B) ((norm B).length:Int) (k:Int) (c,()) (FU (.va v l n)) (BD c v) ((BD c v).length:Int) 0 (HA c (norm B) k++[(AO ((norm B).take k):Int)])=some (HA c (norm B) k++prt c (.va v l n) (AO ((norm B).take k))):=by
      unfold Kb;have:=AJ (f:=C5 (AO ((norm B).take k):Int) (fN B) ((norm B).length:Int) (k:Int) (c,()) (FU (.va v l n)) (BD c v) ((BD c v).length:Int)) (λq=>((q:Int),HA c (norm B) k++[(AO ((norm B).take k):Int)]++Yh c (.va v l n) (AO ((norm B).take k)) q)) (t:=HA c (norm B) k++prt c (.va v l n) (AO ((norm B).take k))) (BD c v).length (λq hq=>?_) ?_
      ·rw[show HA c (norm B) k++[(AO ((norm B).take k):Int)]=HA c (norm B) k++[(AO ((norm B).take k):Int)]++Yh c (.va v l n) (AO ((norm B).take k)) 0 by simp[Yh]];exact this
      ·unfold C5 HJ Ka N8;have e6:(BD c v).getD q (Ty.zero (.int .i64))=FX (BD c v) q:=rfl;have hm:FX (BD c v) q∈BD c v:=by unfold FX;exact Az hq
       have hpb:=Us (hc.2 v hv) hm;have hbd:FX (BD c v) q<=4096:=by omega
       have hlt:(Yh c (.va v l n) (AO ((norm B).take k)) q).length<=4096:=by
        have h2:=List.length_filter_le (Q6 l n) ((BD c v).take q);simp only[Yh,Aw8];rw[List.length_take] at h2;omega
       have e7:(FU (.va v l n)).2.1=(l:Int):=rfl;have e7b:(FU (.va v l n)).2.2.1=(n:Int):=rfl;have e8:wI ((l:Int)+(n:Int))=((l+n:Nat):Int):=wrapN (by omega) (by omega);have e9:Yh c (.va v l n) (AO ((norm B).take k)) (q+1)=Yh c (.va v l n) (AO ((norm B).take k)) q++if Q6 l n (FX (BD c v) q) then[(AO ((norm B).take k):Int)+FX (BD c v) q-(l:Int)] else[]:=by
        simp only[Yh];rw[AG (z:=(0:Int)) hq,List.filter_append,List.map_append];congr 1;show List.map _ (List.filter (Q6 l n) [FX (BD c v) q])=_;cases hi:Q6 l n (FX (BD c v) q)<;>simp[hi]
       simp only[AwX,e6,e7,e7b,e8];rw[EE hq,Axc,if_pos (rng hq),e9];show Option.bind (bif Q6 l n (FX (BD c v) q) then _ else _) _=_;cases hi:Q6 l n (FX (BD c v) q) with
       | true =>
        rw[Axc,if_pos (by simp only[Aw0,List.length_cons,List.length_nil];omega),AwW,AY hq (by omega),wrap64 (x:=(AO ((norm B).take k):Int)+FX (BD c v) q) (by omega) (by omega),wrap64 (by omega) (by omega)];simp[Aw4]
       | false =>
        rw[Axb,AwW,AY hq (by omega)];simp
      ·unfold C5 HJ;simp only;rw[Ff,Axb];have:Yh c (.va v l n) (AO ((norm B).take k)) (BD c v).length=((BD c v).filter (Q6 l n)).map λp=>(AO ((norm B).take k):Int)+p-(l:Int):=by
        simp only[Yh];rw[Aw6 (Aw2 _)]
       rw[this,Aw4];rfl
     rw[e5];rfl
   have e10:wI ((AO ((norm B).take k):Int)+(FU ((norm B).getD k (.co []))).2.2.1)=(AO ((norm B).take (k+1)):Int):=by
    rw[SY,Dy hk];exact wrapN (by omega) (by omega)
   rw[e2,AwW,AY hk (by omega),e10]
  ·unfold C6 HK;simp only;rw[Ff,Axb]
 rw[this];rfl
theorem Zl(hd:AA d)(hc:Ct d c){B:List Bt}(h:A1 d B){x:Int}:x∈HA c (norm B) (norm B).length↔∃p:Nat,x=(p:Int)/\p<B.length/\N2 B (C0 c) p=true:=by
 obtain⟨n1,n2,n3⟩:=aW hd h;unfold HA;rw[List.mem_flatMap];constructor
 ·rintro⟨i,hi,hx⟩
  have hi:=List.mem_range.1 hi;have hin:=(RR h (Az (z:=.co []) hi)).1;have h1:=n1 _ (Az (z:=.co []) hi);have hse:=Sw hi;rw[n3] at hse;rcases List.mem_cons.1 hx with rfl | hx
  ·refine⟨_,rfl,by omega,?_⟩;have:=(NW hi (k:=0) (by omega)).2.1;unfold N2 fst;rw[show AO ((norm B).take i)=AO ((norm B).take i)+0 by omega,this];rfl
  ·cases hs:(norm B).getD i (.co []) with
   | co b=>rw[hs] at hx;cases hx
   | va v l n =>
    rw[hs] at hx hse hin;obtain⟨p,hp,rfl⟩:=List.mem_map.1 hx;obtain⟨hp1,hp2⟩:=List.mem_filter.1 hp;unfold Q6 at hp2;rw[Aw3,decide_eq_true_iff,decide_eq_true_iff] at hp2;simp only[Sg.w] at hse;obtain⟨q,rfl⟩:∃q:Nat,p=(q:Int):=⟨p.toNat,by omega⟩;refine⟨AO ((norm B).take i)+(q-l),by omega,by omega,?_⟩;obtain⟨e1,e2,_⟩:=NW hi (k:=q-l) (by rw[hs];simp only[Sg.w];omega);unfold N2 OC;rw[FT,hs,SB (by omega)] at e1;rw[e1,show l+(q-l)=q by omega];simp only[rE,C0];have:(BD c v).contains (q:Int)=true:=by simpa using hp1
    rw[this,Bool.or_true]
 ·rintro⟨p,rfl,hp,hct⟩
  obtain⟨i,k,h1,h2,h3,h4,h5,h6,_⟩:=Wu h hp;refine⟨i,List.mem_range.2 h1,?_⟩;rcases Nat.eq_zero_or_pos k with h0 | h0
  ·subst h0;rw[h3];exact List.mem_cons_self
  ·unfold N2 at hct;rw[h6,h5,show(k==0)=false by rw[beq_eq_false_iff_ne];omega,Bool.false_or] at hct;cases hs:(norm B).getD i (.co []) with
   | co b =>
    rw[hs] at hct h2;rw[TT h2] at hct;cases hct
   | va v l n =>
    rw[hs] at hct h2;simp only[Sg.w] at h2;rw[SB h2] at hct;have hm:((l+k:Nat):Int)∈BD c v:=by simpa [rE,C0] using hct
    refine List.mem_cons_of_mem _ (List.mem_map.2 ⟨((l+k:Nat):Int),List.mem_filter.2 ⟨hm,?_⟩,by omega⟩);unfold Q6;rw[Aw3,decide_eq_true_iff,decide_eq_true_iff];omega
end
end Go.Proofs.X
namespace Go.Proofs.X
open Go Go.Va
set_option maxRecDepth 100000
def Ya(B1 B2:List Bt)(h:Nat->Nat->Bool)(p:Nat):Bool:=N2 B1 h p||N2 B2 h p
structure Gap (B1 B2:List Bt) (h:Nat->Nat->Bool) (a b:Nat):Prop where
 lt:a<b
 le:b<=B1.length
 no:∀q,a<q->q<b->Ya B1 B2 h q=false
 fr:a=0\/Ya B1 B2 h a=true
 to:b=B1.length\/Ya B1 B2 h b=true
def coB:Bt->Bool
 | .co b=>b
 | .va _ _=>false
def dO(B:List Bt)(a w:Nat):Axt:=((B.drop a).take w).map coB
def Vz(L:Axz)(B:List Bt)(a b:Nat):Axr:=match OC B a with
 | .co _=>(-1,Ye (dO B a (b-a)),())
 | .va v x=>(nm (Eb L (nk v x) L.length),(0,[],()),())
theorem zy{A:Type}{F:Sg->List A}(hF:∀s,(F s).length=s.w){f:List Sg}{i k w:Nat}(hi:i<f.length)(hk:k+w<=(f.getD i (.co [])).w):((f.flatMap F).drop (AO (f.take i)+k)).take w=((F (f.getD i (.co []))).drop k).take w:=by
 have e:f.flatMap F=(f.take i).flatMap F++(F (f.getD i (.co []))++(f.drop (i+1)).flatMap F):=by
  rw[<-Aw4,<-Sk F hi,<-List.flatMap_append,List.take_append_drop]
 have hl:=OT hF (f.take i);have hs:=hF (f.getD i (.co []));rw[e,List.drop_append,List.drop_of_length_le (by omega),List.nil_append,hl,show AO (f.take i)+k-AO (f.take i)=k by omega,List.drop_append,List.take_append];rw[show w-(List.drop k (F (f.getD i (.co [])))).length=0 by rw[List.length_drop,hs];omega,List.take_zero,List.append_nil]
section
variable {d:Axw}
theorem Adc{B B':List Bt}(h:A1 d B){f:Nat->Nat->Bool}{a b:Nat}(hl:b<=B.length)(hab:a<b)(hno:∀q,a<q->q<b->fst B q=false):∃i k,i<(norm B).length/\a=AO ((norm B).take i)+k/\k+(b-a)<=((norm B).getD i (.co [])).w/\Pz d ((norm B).getD i (.co [])):=by
 obtain⟨i,k,h1,h2,h3,h4,_⟩:=Wu h (show a<B.length by omega);refine⟨i,k,h1,h3,Classical.byContradiction λhn=>?_,h4⟩;have hse:=Dy h1;have hi1:i+1<(norm B).length:=by
  refine Classical.byContradiction λhc=>?_;have e:(norm B).take (i+1)=norm B:=Aw6 (by omega);rw[e,Bv] at hse;omega
 have hw1:=B6 B _ (Az (z:=.co []) hi1);have:=(NW hi1 (k:=0) (by omega)).2.1;have hq:=hno (AO ((norm B).take (i+1))) (by omega) (by omega);unfold fst at hq;rw[show AO ((norm B).take (i+1))=AO ((norm B).take (i+1))+0 by omega,this] at hq;cases hq
theorem wH{B:List Bt}(h:A1 d B){i k:Nat}(hi:i<(norm B).length)(hk:k<((norm B).getD i (.co [])).w):Jt (fN B) ((AO ((norm B).take i)+k:Nat):Int)=some (FU ((norm B).getD i (.co [])),(k:Int),()):=by
 unfold Jt;have hlen:=BW (B6 B);rw[Bv] at hlen;have hbl:=h.2.1;have hse:=Sw hi;rw[Bv] at hse;have:NH (fN B) ((fN B).length:Int) ((AO ((norm B).take i)+k:Nat):Int) 0=some (.inl (FU ((norm B).getD i (.co [])),(k:Int))):=by
  unfold NH;rw[show(fN B).length=(norm B).length from Bj _];have hmono:∀j,j<=i->AO ((norm B).take j)<=AO ((norm B).take i):=λj hj=>by
   have e:(norm B).take j=((norm B).take i).take j:=by rw[List.take_take,Nat.min_eq_left hj]
   rw[e];exact Dl _ j
  have:=AJ (f:=FN (fN B) ((norm B).length:Int)) (λj=>(((AO ((norm B).take i)+k-AO ((norm B).take j):Nat):Int),(j:Int))) (t:=.inl (FU ((norm B).getD i (.co [])),(k:Int))) i (λj hj=>?_) ?_
  ·rw[List.take_zero,show AO []=0 from rfl,Nat.sub_zero] at this;exact this
  ·unfold FN Ll;have e1:(fN B).getD j Ad.zero=FU ((norm B).getD j (.co [])):=W1 (by omega);have h1:=hmono (j+1) hj;rw[Dy (show j<(norm B).length by omega)] at h1;simp only[AwX,e1,SY];rw[EE (show j<(norm B).length by omega),Axc,show(fN B).length=(norm B).length from Bj _,if_pos (rng (by omega)),AwZ (by omega),Axb,AY hj (by omega),Dy (show j<(norm B).length by omega)];rw[wrapN (n:=AO ((norm B).take i)+k-(AO ((norm B).take j)+((norm B).getD j (.co [])).w)) (by omega) (by omega)]
  ·unfold FN Ll;have e1:(fN B).getD i Ad.zero=FU ((norm B).getD i (.co [])):=W1 hi;simp only[AwX,e1,SY];rw[EE hi,Axc,show(fN B).length=(norm B).length from Bj _,if_pos (rng hi),show AO ((norm B).take i)+k-AO ((norm B).take i)=k by omega,EE hk,Axc]
 rw[this];rfl
variable {c:AxD}
structure Side (d:Axw) (c:AxD) (B:List Bt) (a b i k:Nat):Prop where
 hi:i<(norm B).length
 ha:a=AO ((norm B).take i)+k
 hk:k+(b-a)<=((norm B).getD i (.co [])).w
 hs:Pz d ((norm B).getD i (.co []))
 lt:a<b
 le:b<=B.length
 no:∀q,a<q->q<b->fst B q=false
 va:∀v l n,(norm B).getD i (.co [])=.va v l n->∃m,Eb (SL d c d.length) (nk v (l+k)) (SL d c d.length).length=some m/\m<(SL d c d.length).length/\(slc (SL d c d.length) m).2.2.1=((b-a:Nat):Int)
theorem p9 (hd:AA d) (hc:Ct d c) {B B':List Bt} (h:A1 d B) (hl:B.length=B'.length) {a b:Nat} (hab:a<b) (hle:b<=B.length) (hno:∀q,a<q->q<b->N2 B (C0 c) q=false)
    (hfr:a=0\/(Xe (OC B a)=true->N2 B (C0 c) a=true)) (hto:b=B.length\/(Xe (OC B b)=true->N2 B (C0 c) b=true)) (he:∀x∈norm B,Nk d (C0 c) x):∃i k,Side d c B a b i k:=by
 have hnf:∀q,a<q->q<b->fst B q=false:=λq h1 h2=>by
  have:=hno q h1 h2;unfold N2 at this;rw[Bool.or_eq_false_iff] at this;exact this.1
 obtain⟨i,k,h1,h2,h3,h4⟩:=Adc (B':=B) (f:=C0 c) h hle hab hnf;refine⟨i,k,h1,h2,h3,h4,hab,hle,hnf,λv l n hs=>?_⟩;have hin:=h4;have hk:=h3;rw[hs] at hin hk;obtain⟨hv,hn,hw⟩:=hin;obtain⟨e0,hw1,hw2⟩:=Nc hd hv;simp only[Sg.w] at hk;have hend:=he _ (Az (z:=.co []) h1);rw[hs] at hend;have hse:=Sw h1;rw[Bv,hs] at hse;simp only[Sg.w] at hse;have bat:∀j,j<n->OC B (AO ((norm B).take i)+j)=.va v (l+j)/\fst B (AO ((norm B).take i)+j)=(j==0):=λj hj=>by
  obtain⟨q1,q2,_⟩:=NW h1 (k:=j) (by rw[hs];exact hj);rw[FT,hs,SB hj] at q1;exact⟨q1,q2⟩
 have hb0:1<=b-a:=by omega
 have h5:=AaT hd hc (v:=v) (a:=l+k) (e:=l+k+(b-a)) hv ?_ (by omega) ?_ ?_
 ·obtain⟨m,m1,m2,m3⟩:=h5;exact⟨m,m1,m2,by rw[m3,show l+k+(b-a)-(l+k)=b-a by omega]⟩
 ·rcases Nat.eq_zero_or_pos k with hk0 | hk0
  ·subst hk0;rcases Nat.eq_zero_or_pos l with hl0 | hl0
   ·exact .inl (by omega)
   ·exact .inr (hend.1 hl0 (by omega))
  ·obtain⟨q1,q2⟩:=bat k (by omega);rw[<-h2] at q1 q2;rcases hfr with hfr | hfr
   ·omega
   ·have:=hfr (by rw[q1];rfl);unfold N2 at this;rw[q2,q1,show(k==0)=false by rw[beq_eq_false_iff_ne];omega,Bool.false_or] at this;exact .inr this
 ·rcases Aw7 (k+(b-a)) n with hlt | hge
  ·obtain⟨q1,q2⟩:=bat (k+(b-a)) hlt;have eb:AO ((norm B).take i)+(k+(b-a))=b:=by omega
   rw[eb] at q1 q2;have hbb:b≠B.length:=by omega
   have:=hto.resolve_left hbb (by rw[q1];rfl);unfold N2 at this;rw[q2,q1,show(k+(b-a)==0)=false by rw[beq_eq_false_iff_ne];omega,Bool.false_or] at this;exact .inr ⟨by omega,by rw[show l+k+(b-a)=l+(k+(b-a)) by omega];exact this⟩
  ·have e:l+k+(b-a)=l+n:=by omega
   rw[e];rcases Aw7 (l+n) (W d v) with hlt | hge'
   ·exact .inr ⟨hlt,hend.2 (by omega) hlt⟩
   ·exact .inl (by omega)
 ·intro q hq1 hq2;obtain⟨q1,q2⟩:=bat (q-l) (by omega);have:=hno (AO ((norm B).take i)+(q-l)) (by omega) (by omega);unfold N2 at this;rw[q1,Bool.or_eq_false_iff] at this;have:=this.2;rw[show l+(q-l)=q by omega] at this;exact this
theorem sK{B:List Bt}{a b i k:Nat}(S:Side d c B a b i k):(B.drop a).take (b-a)=(((norm B).getD i (.co [])).bits.drop k).take (b-a):=by
 have e:=zy Il S.hi S.hk;rw[show(norm B).flatMap Sg.bits=Ca (norm B) from rfl,FT,<-S.ha] at e;exact e
theorem pY{B:List Bt}{a b i k:Nat}(S:Side d c B a b i k):OC B a=((norm B).getD i (.co [])).bits.getD k (.co false):=by
 have h1:=S.hk;have h2:=S.lt;have:=(NW S.hi (k:=k) (by omega)).1;rw[FT,<-S.ha] at this;exact this
theorem kP{B:List Bt}{a b i k:Nat}(S:Side d c B a b i k){x:Axt}(hs:(norm B).getD i (.co [])=.co x):dO B a (b-a)=(x.drop k).take (b-a):=by
 unfold dO;rw[sK S,hs];simp only[Sg.bits];rw[<-List.map_drop,<-List.map_take,List.map_map];exact(List.map_congr_left λ_ _=>rfl).trans (List.map_id _)
theorem VJ(hd:AA d){B:List Bt}(h:A1 d B){a b i k:Nat}(S:Side d c B a b i k):∃r,(Jt (fN B) (a:Int)).bind (λl=>Gu l ((b-a:Nat):Int) (jS (SL d c d.length) (SL d c d.length).length))=some r/\r.2.2.1=jS (SL d c d.length) (SL d c d.length).length/\(r.1,(r.2.1,r.2.2.2,()),())=Vz (SL d c d.length) B a b:=by
 have hk:=S.hk;have hlt:=S.lt;have hat:=pY S;rw[S.ha,wH h S.hi (by omega),<-S.ha,AwW];have hbl:=h.2.1;have hle:=S.le;unfold Gu Vz;rw[hat];cases hs:(norm B).getD i (.co []) with
 | co x =>
  rw[hs] at hk;simp only[Sg.w] at hk;have hin:=S.hs;rw[hs] at hin;obtain⟨r,hr,hr2⟩:=oG (bs:=x) (a:=k) (w:=b-a) (by have:=hin.2;omega) (by omega) hk;rw[show((FU (.co x)).1==-1)=true from rfl,Axc];have e1:Cr (FU (.co x)).2.2.2.1 (k:Int) ((b-a:Nat):Int)=some r:=hr;simp only;rw[e1,AwW,TT (by omega)];refine⟨_,rfl,rfl,?_⟩;simp only;rw[hr2,kP S hs]
 | va v l n =>
  rw[hs] at hk;simp only[Sg.w] at hk;have hin:=S.hs;rw[hs] at hin;obtain⟨hv,hn,hw⟩:=hin;obtain⟨e0,hw1,hw2⟩:=Nc hd hv;obtain⟨m,hm,_⟩:=S.va v l n hs;have e1:(FU (.va v l n)).1=(v:Int):=rfl;have e2:(FU (.va v l n)).2.1=(l:Int):=rfl;simp only[e1,e2];rw[show((v:Int)==-1)=false from beq_eq_false_iff_ne.2 (by omega),Axb,SB (by omega),wrapN (x:=(l:Int)+(k:Int)) (n:=l+k) (by omega) (by omega)];refine⟨_,rfl,rfl,?_⟩;simp only;have e3:BG Aa (.int .i64) (jS (SL d c d.length) (SL d c d.length).length) ((v:Int),((l+k:Nat):Int),())=(m:Int):=by
   unfold BG;rw[oO];have:Eb (SL d c d.length) ((v:Int),((l+k:Nat):Int),()) (SL d c d.length).length=some m:=hm;rw[this];rfl
  rw[e3,hm];rfl
theorem VW(hd:AA d){B:List Bt}(h:A1 d B){a b i k:Nat}(S:Side d c B a b i k):∃r,JS (bV B,Q4 (norm B),()) (NM d (SL d c d.length) (SL d c d.length).length) (SL d c d.length) (a:Int) (b:Int)=some r/\r.2.2.1=true/\(r.1,(r.2.1,r.2.2.2,()),())=Vz (SL d c d.length) B a b:=by
 have hk:=S.hk;have hlt:=S.lt;have hat:=pY S;have hbl:=h.2.1;have hle:=S.le;unfold JS Vz;have eb:(bV B).getD a Aa.zero=PZ (OC B a):=Ww (by omega);simp only[AwX,eb];rw[Cb,if_pos (rng (by omega))];rw[hat];cases hs:(norm B).getD i (.co []) with
 | co x =>
  rw[hs] at hk;simp only[Sg.w] at hk;rw[TT (by omega)];rw[show decide ((PZ (.co (x.getD k false))).1<0)=true from rfl,Axc];have hcl:(dO B a (b-a)).length=b-a:=by rw[kP S hs];simp;omega
  have e1:M1 (b:Int) (bV B,Q4 (norm B),()) (a:Int) []=some (.inr ((dO B a (b-a)).map bI)):=by
   unfold M1;have:=AJ (f:=EU (b:Int) (bV B,Q4 (norm B),())) (λj=>(((a+j:Nat):Int),((dO B a (b-a)).take j).map bI)) (t:=.inr ((dO B a (b-a)).map bI)) (b-a) (λj hj=>?_) ?_
   ·exact this
   ·unfold EU KE;have hq:OC B (a+j)=.co ((dO B a (b-a)).getD j false):=by
     have:=(NW S.hi (k:=k+j) (by rw[hs];simp only[Sg.w];omega)).1;rw[FT,hs,TT (by omega),<-Nat.add_assoc,<-S.ha] at this;show B.getD (a+j) (.co false)=_;rw[this,kP S hs];congr 1;simp only[List.getD];rw[List.getElem?_take,if_pos hj,List.getElem?_drop]
    have ec:(bV B).getD (a+j) Aa.zero=PZ (OC B (a+j)):=Ww (by omega);simp only[AwX,ec,hq];rw[show decide (((a+j:Nat):Int)<(b:Int))=true from Aw1 (by omega),Axc,Cb,if_pos (rng (by omega)),show decide ((PZ (.co ((dO B a (b-a)).getD j false))).1>=0)=false from rfl,Axb,if_pos (rng (by omega)),if_pos (by simp only[Aw0,List.length_cons,List.length_nil,Aw8,List.length_take];omega),wrapN (x:=((a+j:Nat):Int)+1) (n:=a+(j+1)) (by omega) (by omega),AG (z:=false) (by omega),List.map_append];rw[show IntKind.u8.wrap (PZ (.co ((dO B a (b-a)).getD j false))).2.1=bI ((dO B a (b-a)).getD j false) by cases (dO B a (b-a)).getD j false<;>rfl];rfl
   ·unfold EU KE;simp only;rw[show a+(b-a)=b by omega,Ff,Axb,Aw6 (by omega)]
  rw[e1,AwW];simp only[Sum.elim_inr];rw[Y6 (by omega) (by omega),AwW];exact⟨_,rfl,rfl,rfl⟩
 | va v l n =>
  rw[hs] at hk;simp only[Sg.w] at hk;have hin:=S.hs;rw[hs] at hin;obtain⟨hv,hn,hw⟩:=hin;obtain⟨e0,hw1,hw2⟩:=Nc hd hv;obtain⟨m,hm,hm1,hm2⟩:=S.va v l n hs;rw[SB (by omega)];have e1:(PZ (.va v (l+k))).1=(v:Int):=rfl;have e2:(PZ (.va v (l+k))).2.1=((l+k:Nat):Int):=rfl;have e3:(NM d (SL d c d.length) (SL d c d.length).length).getD v (Ty.zero (.sl (.int .i64)))=(List.range (W d v)).map λx=>nm (Eb (SL d c d.length) (nk v x) (SL d c d.length).length):=kg hv;have e4:((List.range (W d v)).map λx=>nm (Eb (SL d c d.length) (nk v x) (SL d c d.length).length)).getD (l+k) (Ty.zero (.int .i64))=(m:Int):=by
   rw[L0 (by omega),hm];rfl
  simp only[e1,e2,AwX,e3,e4];have hNl:(NM d (SL d c d.length) (SL d c d.length).length).length=d.length:=by simp[NM]
  rw[show decide ((v:Int)<0)=false from AwZ (by omega),Axb,if_pos (rng (by omega)),hNl,if_pos (rng hv),if_pos (rng (by omega)),Aw8,List.length_range,if_pos (rng (by omega))];have e5:JU (SL d c d.length) (a:Int) (b:Int) (bV B,Q4 (norm B),()) (m:Int)=some false:=by
   unfold JU;rw[show decide ((m:Int)<0)=false from AwZ (by omega),Axb,if_pos (rng hm1),AwX,show((SL d c d.length).getD m Af.zero).2.2.1=((b-a:Nat):Int) from hm2,wrapN (x:=(b:Int)-(a:Int)) (n:=b-a) (by omega) (by omega)];simp
  have e6:M3 (b:Int) (bV B,Q4 (norm B),()) (m:Int) (wI ((a:Int)+1))=some (.inr ()):=by
   unfold M3;rw[wrapN (x:=(a:Int)+1) (n:=a+1) (by omega) (by omega)];have:=AJ (f:=EV (b:Int) (bV B,Q4 (norm B),()) (m:Int)) (λj=>((a+1+j:Nat):Int)) (t:=.inr ()) (b-(a+1)) (λj hj=>?_) ?_
   ·exact this
   ·unfold EV KF;have hf:(Q4 (norm B)).getD (a+1+j) (Ty.zero .bool)=false:=S.no (a+1+j) (by omega) (by omega);simp only[AwX,hf];rw[show decide (((a+1+j:Nat):Int)<(b:Int))=true from Aw1 (by omega),Axc,oQ,if_pos (rng (by omega)),Axb,wrapN (x:=((a+1+j:Nat):Int)+1) (n:=a+1+(j+1)) (by omega) (by omega)]
   ·unfold EV KF;simp only;rw[show a+1+(b-(a+1))=b by omega,Ff,Axb]
  rw[e5,AwW,Axb,e6,AwW];simp only[Sum.elim_inr];refine⟨_,rfl,rfl,?_⟩;simp only;rw[hm];rfl
end
end Go.Proofs.X
