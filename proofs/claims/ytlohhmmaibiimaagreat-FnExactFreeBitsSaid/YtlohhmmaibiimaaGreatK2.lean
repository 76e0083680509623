import Derived.MapKept
import Derived.Laws.Strings
import Derived.Laws.StructEq
import Derived.Test.YtlohhmmaibiimaaGreatK1
set_option linter.unusedVariables false
set_option linter.unusedSimpArgs false
namespace Go.Va
section
variable {w:World} {g:G} {n:Nat}
def G.UX(g:G)(Z:List Nat):G:=⟨λb=>match g.own b with |.BG k r=>if k∈Z then .H8 else .BG k r |t=>t,g.AU⟩
theorem ki{Z:List Nat}{b:Nat}(h:g.own b=.H8):(g.UX Z).own b=.H8:=by simp[G.UX,h]
theorem O3{Z:List Nat}{b k:Nat}{r:List Nat}(h:g.own b=.BG k r)(hk:k∉Z):(g.UX Z).own b=.BG k r:=by simp[G.UX,h,hk]
theorem Al.Rj{Z ks:List Nat}{b:Nat}(h:Al g.own ks b):Al (g.UX Z).own (ks.filter λk=>!decide (k∈Z)) b:=by
 rcases h with h |⟨k,hk,r,h⟩
 ·exact .inl (ki h)
 ·by_cases hz:k∈Z
  ·exact .inl (by simp[G.UX,h,hz])
  ·exact .inr ⟨k,by simp[hk,hz],r,O3 h hz⟩
theorem Al.Aa3{Z ks:List Nat}{b:Nat}(h:Al g.own ks b):Al (g.UX Z).own ks b:=h.Rj.mono λk hk=>(List.mem_filter.1 hk).1
theorem wG(a:AV):a.XZ.CZ=a.CZ:=by cases a<;>rfl
theorem iJ(a:AV):a.XZ.MX=true\/a.XZ.isAgg=a.isAgg:=by cases a<;>first |exact .inl rfl |exact .inr rfl
theorem Aci{a:AV}(h:a.MX=true):a.XZ.MX=true:=by cases a<;>simp_all [AV.MX,AV.XZ]
theorem Cq.Rj(Z:List Nat):∀(a:AV) (m:Bool) {cs:List Value},Cq w g n m a cs->Cq w (g.UX Z) n m a.XZ cs
 |.AA ks t x,false,cs,⟨hk,r⟩=>⟨hk,r.mono λb a=>⟨a.Aa3,rfl⟩⟩
 |.zs,false,_,h=>h
 |.Ak _,false,_,h=>h
 |.mp _,false,_,h=>h
 |.ptr _ _ _ _,false,_,h=>h
 |.Eh ks t x,false,cs,⟨hk,b,off,ds,e,ha,r,hc⟩=>⟨hk,b,off,ds,e,ha.Aa3,r.mono λb a=>⟨a.Aa3,rfl⟩,hc⟩
 |.Lw,false,_,h=>h
 |.R1 _ _ _ _ _,false,_,⟨_,_,_,_,_,_,_,e,h1,_⟩=>by subst e;exact⟨rfl,by intro u hu;simp at hu;subst hu;exact h1⟩
 |.TR _ _ _ _ _ _,false,_,⟨_,_,_,_,_,_,_,_,_,e,_⟩=>by subst e;exact⟨rfl,by intro u hu;simp at hu;subst hu;rfl⟩
 |.pr a b,false,_,⟨c,e,he,h1,h2⟩=>⟨c,e,he,Cq.Rj Z a false h1,Cq.Rj Z b false h2⟩
 |.fn f c,false,_,⟨vs,e,hx⟩=>⟨vs,e,Cq.Rj Z c true hx⟩
 |.un k,false,_,h=>h
 |.cons a b,true,_,⟨v,r,e,h1,h2⟩=>by
  refine⟨v,r,e,?_,Cq.Rj Z b true h2⟩;rcases iJ a with hd |hd
  ·exact .inl hd
  ·exact h1.imp Aci λ⟨cs,hx,hv⟩=>⟨cs,Cq.Rj Z a false hx,by rw[hd];exact hv⟩
 |.nil,true,_,h=>h
 |.cons _ _,false,_,h=>h.elim
 |.nil,false,_,h=>h.elim
 |.R1 _ _ _ _ _,true,_,h=>h.elim
 |.TR _ _ _ _ _ _,true,_,h=>h.elim
 |.AA _ _ _,true,_,h=>h.elim
 |.zs,true,_,h=>h.elim
 |.Ak _,true,_,h=>h.elim
 |.mp _,true,_,h=>h.elim
 |.ptr _ _ _ _,true,_,h=>h.elim
 |.Eh _ _ _,true,_,h=>h.elim
 |.Lw,true,_,h=>h.elim
 |.pr _ _,true,_,h=>h.elim
 |.fn _ _,true,_,h=>h.elim
 |.un _,true,_,h=>h.elim
theorem BR.Rj(Z:List Nat){a:AV}{v:Value}(h:BR w g n a v):BR w (g.UX Z) n a.XZ v:=by
 cases ht:a.CZ with
 |false =>
  rw[BR.iff ht]at h;rw[BR.iff (by rw[wG];exact ht)];rcases iJ a with hd |hd
  ·exact .inl hd
  ·exact h.imp Aci λ⟨cs,h,hv⟩=>⟨cs,Cq.Rj Z a false h,by rw[hd];exact hv⟩
 |true =>
  cases a with
  |cons a b=>obtain⟨vs,e,h⟩:=h;exact⟨vs,e,Cq.Rj Z (.cons a b) true h⟩
  |nil=>exact h
  |_=>cases ht
theorem LP.Rj{Z:List Nat}{k:Nat}(hk:k∉Z){b:Blk}(h:LP w g n k b):LP w (g.UX Z) n k b.XZ:=by
 cases b with
 |AH=>trivial
 |map m kt vt es st =>
  obtain⟨PZ,b,Gs,De,ha,ho,hh,QJ,hm⟩:=h;refine⟨PZ,b,Gs,De,ha,O3 ho hk,hh,QJ,hm.on λi x c r=>?_⟩;cases m with
  |Ai=>exact I7.mono (λb q hb=>⟨O3 hb hk,rfl⟩) r
  |sh ks=>exact G1.mono (λb a=>⟨a.Aa3,rfl⟩) r
 |Qk e t xs i p =>
  obtain⟨h1,h2,h3,h4,h5,u,o,x0,b,Bs,ds,q1,q2,q3,ha,ho,hh,c1,c2,c3,c4,hc⟩:=h;exact⟨h1,h2,h3,h4,h5,u,o,x0,b,Bs,ds,q1,q2,q3,ha,O3 ho hk,hh,c1,c2,c3,c4,hc.mono λi x c r=>r.mono λb q hb=>⟨O3 hb hk,rfl⟩⟩
 |tail e t xs =>
  obtain⟨hf,hlen,OU,BF,hr⟩:=h;exact⟨hf,hlen,OU,BF,hr.imp id λ⟨b,o,Bs,ds,ha,ho,hh,h1,h2,h3,h4,hc⟩=>⟨b,o,Bs,ds,ha,O3 ho hk,hh,h1,h2,h3,h4,hc.mono λi x c r=>r.mono λb q hb=>⟨O3 hb hk,rfl⟩⟩⟩
 |box a =>
  obtain⟨h1,b,cs,e,ha,ho,hh,hx⟩:=h;exact⟨h1,b,cs,e,ha,O3 ho hk,hh,Cq.Rj Z a false hx⟩
 |row e m t xs =>
  obtain⟨PZ,hlen,OU,BF,hr⟩:=h;refine⟨PZ,hlen,OU,BF,hr.imp id λ⟨b,Bs,ds,ha,ho,hh,h1,h2,h3,h4,hc⟩=>⟨b,Bs,ds,ha,O3 ho hk,hh,h1,h2,h3,h4,?_⟩⟩;cases m with
  |Ai=>exact hc.mono λi x c r=>r.mono λb q hb=>⟨O3 hb hk,rfl⟩
  |sh ks=>exact hc.mono λx c r=>r.mono λb a=>⟨a.Aa3,rfl⟩
theorem nO{bs:List Blk}(H:Bc w g bs)(Z:List Nat):Bc w (g.UX Z) ((Blk.Gg bs Z).map Blk.XZ):=by
 refine⟨λb hb=>by simp[G.UX,H.BN b hb],λk x hx=>?_⟩;rw[AHo]at hx;cases hq:(Blk.Gg bs Z)[k]? with
 |none=>rw[hq]at hx;cases hx
 |some y =>
  rw[hq]at hx;injection hx with hx;subst hx;rw[AG7,A3];rcases J6 hq with rfl |⟨hn,h⟩
  ·trivial
  ·exact(H.Lf k y h).Rj hn
theorem Ue:∀a:AV,a.Zo=false->a.XZ=a
 |.pr a b,h=>by
  simp only[AV.Zo,Bool.or_eq_false_iff]at h;simp[AV.XZ,Ue a h.1,Ue b h.2]
 |.cons a b,h=>by
  simp only[AV.Zo,Bool.or_eq_false_iff]at h;simp[AV.XZ,Ue a h.1,Ue b h.2]
 |.fn f c,h=>by simp[AV.XZ,Ue c h]
 |.AA _ _ _,_=>rfl
 |.zs,_=>rfl
 |.Ak _,_=>rfl
 |.mp _,_=>rfl
 |.ptr _ _ _ _,_=>rfl
 |.Eh _ _ _,_=>rfl
 |.Lw,_=>rfl
 |.nil,_=>rfl
 |.R1 _ _ _ _ _,h=>by cases h
 |.TR _ _ _ _ _ _,h=>by cases h
 |.un _,_=>rfl
theorem Aba{b:Blk}(h:b.Zo=false):b.XZ=b:=by
 cases b with
 |box a=>simp[Blk.XZ,Ue a h]
 |_=>rfl
theorem vL{bs:List Blk}(H:Bc w g bs)(hn:bs.all (λb=>!b.Zo)=true)(Z:List Nat):Bc w (g.UX Z) (Blk.Gg bs Z):=by
 have:=nO H Z;rwa [List.map_congr_left (g:=id) (λb hb=>?_),List.map_id]at this;obtain⟨j,hj⟩:=List.getElem?_of_mem hb;rcases J6 hj with h |⟨_,h⟩
 ·subst h;rfl
 ·have:=List.all_eq_true.1 hn b (List.mem_of_getElem? h);exact Aba (by simpa using this)
theorem oJ:∀(Z:List Nat) (a b:List Blk),(∀k∈Z,a.length<=k)->∃l,Blk.Gg (a++b) Z=a++l
 |[],a,b,_=>⟨b,rfl⟩
 |k::Z,a,b,h=>by
  have hk:=h k (by simp);simp only[Blk.Gg];rw[List.set_append_right _ _ hk];exact oJ Z a _ λj hj=>h j (by simp[hj])
end
section
variable {w:World} {g:G} {n:Nat} {v:Value}
end
section
variable {w:World} {g:G} {bs:List Blk} {m:Nat}
theorem Afc{a b:AV}{f:Nat}(h:a.Xy f=some b):a.isAgg=true:=by
 cases a with
 |AA ks t x =>
  cases t<;>first |rfl |(cases f<;>simp[AV.Xy,Ud]at h)
 |pr _ _=>rfl
 |_=>cases f<;>simp[AV.Xy]at h
theorem qZ(H:Bc w g bs){c:Co}{a a':AV}{nb:List Blk}(h:vy bs c a=some (a',nb)){cs:List Value}(hx:Cq w g bs.length false a cs) :
    ∃g',Bc w g' (bs++nb)/\Cq w g' (bs++nb).length false a' cs/\a'.isAgg=a.isAgg/\Step [] bs.length w g w g':=by
 have stay:∀a':AV,Cq w g bs.length false a' cs->a'.isAgg=a.isAgg->∃g',Bc w g' (bs++[])/\Cq w g' (bs++[]).length false a' cs/\a'.isAgg=a.isAgg/\Step [] bs.length w g w g':=λa' h1 h2=>⟨g,by rw[AHA];exact H,by rw[AHA];exact h1,h2,Step.refl _ _ _ _⟩;cases c with
 |AA t =>
  simp only[vy]at h;split at h
  ·rename_i x hr;simp only[AGX,AG8]at h;obtain⟨rfl,rfl⟩:=h;have:=Pm H t a x cs hr hx;exact stay _ ⟨this.2,this.1⟩ (XM hr).symm
  ·cases h
 |aC ks =>
  simp only[vy]at h;split at h
  ·rename_i l t x;split at h
   ·rename_i hc;simp only[AGX,AG8]at h;obtain⟨rfl,rfl⟩:=h;rw[AG2,Bool.or_eq_true]at hc;have hks:∀k∈ks,k<bs.length:=λk hk=>by have:=List.all_eq_true.1 hc.2 k hk;simpa using this
    refine stay _ ⟨hks,Ag5 hx.2 λhf b hb=>?_⟩ rfl;rcases hc.1 with h |h
    ·rw[h]at hf;cases hf
    ·exact hb.mono λk hk=>by have:=List.all_eq_true.1 h k hk;simpa using this
   ·cases h
  ·cases h
 |row p e t Ai =>
  simp only[vy]at h;split at h
  ·rename_i hz;split at h
   ·rename_i Od;split at h
    ·rename_i b hb;simp only[AGX,AG8]at h;obtain⟨rfl,rfl⟩:=h;obtain⟨_,BF⟩:=dX Od;obtain⟨c0,c1,c2,e1,ho,⟨ad,OS⟩,_⟩:=Qv p a cs .zs hx hz
     let g':=g.Tb (λj r=>.BG j r) none bs.length ⟨ad,0,0,t.size⟩
     have st:Step [] bs.length w g w g':=Step.Tb H.BN rfl rfl rfl (AG1 _) (λ_ _ _=>rfl) (λq h=>by cases h) (AG1 _) λ_ _ _ _=>rfl;have Rn:g'.AU bs.length=⟨ad,0,0,t.size⟩:=by simp[g',G.Tb]
     have ia:=hx.PW st (AHw bs.length);obtain⟨d0,d1,d2,e2,fF,⟨mj,db⟩,F8⟩:=Qv p a cs .zs ia hz;have hlen:c0.length=d0.length:=by rw[ho]at fF;injection fF
     have ru:ad=mj:=by
      have h1:cs[c0.length]?=some (.slice ad 0 0):=by
       rw[e1,OS,AG3,AHh (AG1 _),Nat.sub_self];rfl
      have h2:cs[d0.length]?=some (.slice mj 0 0):=by
       rw[e2,db,AG3,AHh (AG1 _),Nat.sub_self];rfl
      rw[hlen,h2]at h1;injection h1 with h1;injection h1 with h1;exact h1.symm
     have Yv:=F8 (.Ak bs.length) b d1 hb ⟨AHB _,by rw[Rn,db,ru]⟩;rw[<-e2]at Yv;have P1:(if(t.BD||Ai)=true then RM.Ai else RM.sh []).Cf=[]:=by split<;>rfl
     refine⟨g',H.push st (LV H.BN (AG1 _) λq h=>by cases h) ⟨(by rw[P1];intro j hj;cases hj),by rw[Rn];rfl,by rw[Rn],BF,.inl ⟨rfl,by rw[Rn]⟩⟩,by rw[AGZ];exact Yv,?_,st⟩;cases p with
     |nil =>
      simp only[AV.TJ,AGX]at hz;simp only[AV.XS,AGX]at hb;subst hz;subst hb;rfl
     |cons f p =>
      simp only[AV.TJ]at hz;split at hz
      ·rename_i q hq;simp only[AV.XS,hq]at hb;split at hb
       ·rw[XR hb,Afc hq]
       ·cases hb
      ·cases hz
    ·cases h
   ·cases h
  ·simp only[AGX,AG8]at h;obtain⟨rfl,rfl⟩:=h;exact stay _ hx rfl
theorem aV{k:Nat}{c:Co}{bs Gt:List Blk}(h:coB k c bs=some Gt):bs.length<=Gt.length:=by
 unfold coB at h;split at h
 ·split at h
  ·injection h with h;subst h;simp
  ·cases h
 ·cases h
theorem AaG(H:Bc w g bs){k:Nat}{c:Co}{Gt:List Blk}(h:coB k c bs=some Gt):∃g',Bc w g' Gt/\Step [] bs.length w g w g':=by
 unfold coB at h;split at h
 ·rename_i a0 hb;split at h
  ·rename_i a' nb vP;injection h with h;subst h;obtain⟨hlen,bb,cs,e,ha,ho,hh,hx⟩:=H.Lf k _ hb;obtain⟨g',h1,h2,h3,h4⟩:=qZ H vP hx;have hk:=AP hb;have bm:(bs.set k (.box a')++nb).length=(bs++nb).length:=by simp
   refine⟨g',⟨h1.BN,λj x hj=>?_⟩,h4⟩;rw[bm];rw[AHl]at hj;split at hj
   ·rename_i VU;rw[AG4]at VU;rw[AHk]at hj;split at hj
    ·rename_i ek;subst ek;injection hj with hj;subst hj;have hl:=h4.BG bb k [] ho hk (by simp);exact⟨by rw[h4.AU k hk];exact hlen,bb,cs,e,by rw[h4.AU k hk];exact ha,hl.1,hh,h2⟩
    ·exact h1.Lf j x (by rw[AHi VU];exact hj)
   ·rename_i VU;rw[AG4]at VU hj;exact h1.Lf j x (by rw[AHh (by omega)];exact hj)
  ·cases h
 ·cases h
theorem tO:∀{l:List (Nat×Co)} {bs Gt:List Blk} {g:G},jZ l bs=some Gt->Bc w g bs->bs.length<=Gt.length/\∃g',Bc w g' Gt/\Step [] bs.length w g w g'
 |[],bs,Gt,g,h,H=>by
  simp only[jZ,AGX]at h;subst h;exact⟨AG1 _,g,H,Step.refl _ _ _ _⟩
 |(k,c)::r,bs,Gt,g,h,H=>by
  simp only[jZ]at h;split at h
  ·rename_i b1 h1;obtain⟨g1,H1,s1⟩:=AaG H h1;obtain⟨hl,g2,H2,s2⟩:=tO h H1;exact⟨AHp (aV h1) hl,g2,H2,s1.trans s2 (aV h1)⟩
  ·cases h
theorem nG:∀{l:List (Nat×Co)} {bs Gt:List Blk},jZ l bs=some Gt->bs.length<=Gt.length
 |[],bs,Gt,h=>by simp only[jZ,AGX]at h;subst h;exact AG1 _
 |(k,c)::r,bs,Gt,h=>by
  simp only[jZ]at h;split at h
  ·rename_i b1 h1;exact AHp (aV h1) (nG h)
  ·cases h
theorem oY:∀{l:List (Nat×List (List Nat)×Co)} {args:List AV} {bs Gt:List Blk},preB l args bs=some Gt->∃l',jZ l' bs=some Gt
 |[],args,bs,Gt,h=>⟨[],h⟩
 |(j,q,c)::r,args,bs,Gt,h=>by
  simp only[preB]at h;split at h
  ·split at h
   ·rename_i k _;split at h
    ·rename_i b1 h1;obtain⟨l',h2⟩:=oY h;exact⟨(k,c)::l',by simp only[jZ,h1];exact h2⟩
    ·cases h
   ·cases h
  ·cases h
end
section
variable {P:Program} {σ:St} {o:Oper} {en:Bd} {e:G2}
theorem w6{c:Call}(ho:o.op=.call c)(hc:c.callee=.builtin .cap)(hx:Oj σ c.args=[.zs]){t:TypeId}{r:List TypeId}(V1:c.argTypes.toList=t::r){ti:TI}(ht:EA P t ti)(hs:ti.D4=true):MP P σ o ⟨.int .i64 0,σ.Am,[]⟩:=by
 obtain⟨a0,ha,Vk⟩:=yR hx;refine .H9 <| KP (s:=λρ=>Builtin.cap_ c.argTypes o.type #[ρ a0]) (λρ=>?_) λa w g BH=>?_
 ·rw[Jc ho hc,ha];simp[builtin]
 ·have Vl:=AO BH a0;rw[Vk]at Vl;obtain⟨ad,hv⟩:=VG Vl;have h0:c.argTypes[0]?=some t:=by rw[<-AG9,V1];rfl
  exact B3 (by rw[hv];simp[Builtin.cap_,h0,underlying,BB ht hs,goInt])
end
section
variable {P:Program} {σ:St} {o:Oper} {en:Bd} {e:G2}
theorem xe{t:TypeId}{x:Operand}(ho:o.op=.load t x){ti:TI}(ht:EA P t ti)(Iz:ti.D4=true)(h:XU σ.Am ti (σ.B5 x) some=some e):MP P σ o e:=by
 unfold XU at h;split at h
 ·rename_i k i p f hx;split at h
  ·rename_i el tr xs hb;split at h
   ·rename_i u aI;split at h
    ·rename_i ys x0 hg hs;split at h
     ·rename_i hc;injection h with h;subst h;obtain⟨hti,gZ,hu⟩:=hc;refine⟨by simp[Ay],λh=>(by cases h),λa w g BH next Q hn=>?_⟩
      have Vl:=AO BH x;rw[hx]at Vl;obtain⟨hk,h0,h1,b,MR,vX⟩:=KA Vl;obtain⟨ad,c,CY⟩:=wF BH.heap hb h1 hg hs gZ MR;obtain⟨g1,H1,Qc,rz,_,AwF⟩:=Wx BH.heap hb h1 hg gZ hu MR CY hs;have DR:(execOp a.eval o).run P w=.ok (.value (.slice ad ys.length c)) w:=by
       have hl:=Q9 (P:=P) (w:=w) ht (b:=b) (off:=i.toNat*(g.AU k).gP+f) (cs:=[.slice ad ys.length c]) (by rw[hti];rfl) (λj v hv=>by
        match j,hv with
        |0,hv=>simp at hv;subst hv;exact CY
        |j+1,hv=>simp at hv) (λ_=>rfl)
       obtain⟨v,hv,hU⟩:=hl;rw[hti]at hU;have:[Value.slice ad ys.length c]=[v]:=hU;injection this with h2 _;subst h2;simp[execOp,ho,vX,Instr.loadAt,Instr.sureAddr,hv]
      unfold Oper.wp;rw[DR];have R9:((A8 [k] σ.Am).set k (Blk.Qk el tr xs i p)++[Blk.row 0 .Ai u ys]).length=σ.Am.length+1:=by simp[Ay]
      refine hn _ w g1 ⟨H1.BN,λj y hj=>?_⟩ (by rw[R9];exact rz) Qc;rw[R9];have lV:((A8 [k] σ.Am).set k Blk.AH++[Blk.row 0 .Ai u ys]).length=σ.Am.length+1:=by simp[Ay]
      by_cases Zr:j=k
      ·subst Zr;rw[AHi (by rw[AG4,Ay];exact hk),List.getElem?_set_self (by rw[Ay];exact hk)]at hj;injection hj with hj;subst hj;exact AwF rfl aI h0 _
      ·have:=H1.Lf j y (by
         rw[AHl]at hj⊢;simp only[AG4]at hj⊢;split at hj
         ·rename_i Bj;rw[AHd Bj];rw[List.getElem?_set_ne (λh=>Zr h.symm)]at hj⊢;exact hj
         ·rename_i Bj;rw[AHe Bj];exact hj)
       rwa [lV]at this
     ·cases h
    ·cases h
   ·cases h
  ·cases h
 ·cases h
structure eZ (P:Program) (W6:TypeId) (kt:Ty):Prop where
 check:∀(w:World) (em:Bool) (x:kt.V),(Instr.checkKey em 10000 W6 (DT kt x)).run P w=.ok () w
 find:∀(w:World) (x:kt.V) (ks:List kt.V) (ms:List MapEntry),ms.map (·.key)=ks.map (DT kt) ->
  (∀j:Nat,(∀i,i<j->∀y,ks[i]?=some y->Ba kt x y=false)->(∀y,ks[j]?=some y->Ba kt x y=true)->(Instr.findKey W6 (DT kt x) ms).run P w=.ok (if h:j<ms.length then some (j,ms[j].val)else none) w)
 stays:∀(w:World) (x:kt.V),(Instr.keyThatStays (DT kt x) (DT kt x)).run P w=.ok (DT kt x) w
 eq:∀x y:kt.V,Ba kt x y=true->x=y
theorem XV{s t:ByteArray}:Ia s t=true↔s=t:=by
 unfold Ia;rw[ByteArray.toList_eq,ByteArray.toList_eq,beq_iff_eq];constructor
 ·intro h;cases s with
  |mk a=>cases t with
   |mk b=>simp at h;rw[h]
 ·rintro rfl;rfl
theorem Agw{s t:ByteArray}:(s==t)=true↔s=t:=by
 constructor
 ·intro h;have:(s.data==t.data)=true:=h;rw[beq_iff_eq]at this;cases s;cases t;simp at this;rw[this]
 ·rintro rfl
  show(s.data==s.data)=true;simp
theorem pK{s t:ByteArray}:Ia s t=(s==t):=by rw[Bool.eq_iff_iff,XV,Agw]
theorem cO{kt:Ty}{d:TypeDesc}(hs:∀x y:kt.V,Instr.sameNow d (DT kt x) (DT kt y)=some (Ba kt x y)){x:kt.V}:∀(ks:List kt.V) (ms:List MapEntry) (n j:Nat),ms.map (·.key)=ks.map (DT kt) ->
    (∀i,i<j->∀y,ks[i]?=some y->Ba kt x y=false)->(∀y,ks[j]?=some y->Ba kt x y=true)->Instr.findNow d (DT kt x) ms n=some (if h:j<ms.length then some (n+j,ms[j].val)else none)
 |[],ms,n,j,hm,_,_=>by
  have:ms=[]:=by simpa using hm
  subst this;rfl
 |k::ks,m::ms,n,0,hm,_,h1=>by
  simp only[List.map_cons,List.cons.injEq]at hm;simp[Instr.findNow,hm.1,hs,h1 k rfl]
 |k::ks,m::ms,n,j+1,hm,h0,h1=>by
  simp only[List.map_cons,List.cons.injEq]at hm;have ih:=cO hs ks ms (n+1) j hm.2 (λi hi y hy=>h0 (i+1) (by omega) y (by simpa using hy)) (λy hy=>h1 y (by simpa using hy));simp only[Instr.findNow,hm.1,hs,h0 0 (by omega) k rfl];rw[ih];by_cases hj:j<ms.length
  ·simp[hj];omega
  ·simp[hj]
 |k::ks,[],n,j,hm,_,_=>by simp at hm
theorem eZ.plain{W6:TypeId}{kt:Ty}{d:TypeDesc}(hu:P.underlying W6=some d)(hs:∀x y:kt.V,Instr.sameNow d (DT kt x) (DT kt y)=some (Ba kt x y))(hc:∀(w:World) (em:Bool) (x:kt.V),(Instr.checkKey em 10000 W6 (DT kt x)).run P w=.ok () w)
    (BH:∀(w:World) (x:kt.V),(Instr.keyThatStays (DT kt x) (DT kt x)).run P w=.ok (DT kt x) w) (heq:∀x y:kt.V,Ba kt x y=true->x=y):eZ P W6 kt where
 check:=hc
 find w x ks ms hm j h0 h1:=by
  have:=cO hs (x:=x) ks ms 0 j hm h0 h1;rw[AHr]at this;simp[Instr.findKey,underlying,hu,this]
 stays:=BH
 eq:=heq
theorem AfG{W6:TypeId}{q q':IntKind}(hu:P.underlying W6=some (.int q')):eZ P W6 (.int q) :=
 .plain hu (λx y=>by simp[DT,Instr.sameNow,Ba]) (λw em x=>by
     rw[show(10000:Nat)=9999+1 from rfl,Instr.checkKey];simp[underlying,hu,DT]) (λw x=>by
     have:Instr.sameBits 10000 (.int q x) (.int q x)=true:=by rw[show(10000:Nat)=9999+1 from rfl];simp[Instr.sameBits]
     simp[Instr.keyThatStays,DT,this]) λx y h=>by simpa [Ba]using h
theorem AfH{W6:TypeId}(hu:P.underlying W6=some .string):eZ P W6 .str :=
 .plain hu (λx y=>by simp[DT,Instr.sameNow,Ba,pK]) (λw em x=>by
     rw[show(10000:Nat)=9999+1 from rfl,Instr.checkKey];simp[underlying,hu,DT]) (λw x=>by
     have:Instr.sameBits 10000 (.string x) (.string x)=true:=by rw[show(10000:Nat)=9999+1 from rfl];simp only[Instr.sameBits];exact Agw.2 rfl
     simp[Instr.keyThatStays,DT,this]) λx y h=>XV.1 (by simpa [Ba]using h)
theorem YF{e2:TypeId}{te:TI}(D1:EA P e2 te){q:IntKind}(hq:te.ty=.int q){w:World}{cs:Array Value}{i:Nat}{v:Value}(h:cs[i]?=some v):(part e2 cs i).run P w=.ok v w:=by
 have ha:=X6 (w:=w) D1;rw[hq]at ha;simp[part,ha,Ty.isAgg,h]
theorem ZX{e2:TypeId}{q q':IntKind}(hu:P.underlying e2=some (.int q'))(d:Nat)(w:World)(a b:Int):(Op.equalIn (d+1) e2 (.int q a) (.int q b)).run P w=.ok (a==b) w:=by
 simp[Op.equalIn,underlying,hu]
theorem gO{W6 e2:TypeId}(hu:P.underlying W6=some (.array 2 e2)){te:TI}(D1:EA P e2 te){q:IntKind}(hq:te.ty=.int q)(w:World)(a b c d:Int) :
    (Op.equal W6 (.agg #[.int q a,.int q b]) (.agg #[.int q c,.int q d])).run P w=.ok (a==c&&b==d) w:=by
 have hs:=Dn (w:=w) D1;rw[hq]at hs;have hi:=Sb D1 hq;have p0:∀x y:Int,(part e2 #[.int q x,.int q y] 0).run P w=.ok (.int q x) w:=λx y=>YF D1 hq rfl;have p1:∀x y:Int,(part e2 #[.int q x,.int q y] 1).run P w=.ok (.int q y) w:=λx y=>YF D1 hq rfl;have eq:=λx y=>ZX (P:=P) (q:=q) hi 9998 w x y;unfold Op.equal Op.maxDepth;rw[show(10000:Nat)=9999+1 from rfl,Op.equalIn];simp only[Sem.run_bind,run_underlying hu,Result.andThen_ok,hs];simp only[Std.Legacy.Range.forIn_eq_forIn_range',Std.Legacy.Range.size,Nat.sub_zero,AHy,Nat.div_one,List.range'_succ,List.range'_zero,List.forIn_cons,List.forIn_nil];by_cases h1:a=c<;>by_cases h2:b=d<;>simp[p0,p1,eq,h1,h2,Ty.size]
theorem W0{W6 e2:TypeId}(hu:P.underlying W6=some (.array 2 e2)){te:TI}(D1:EA P e2 te){q:IntKind}(hq:te.ty=.int q)(w:World){x:(Ty.Au (.int q) (.Au (.int q) .unit)).V} :
    ∀(ks:List (Ty.Au (.int q) (.Au (.int q) .unit)).V) (ms:List MapEntry) (n j:Nat),ms.map (·.key)=ks.map (DT (.Au (.int q) (.Au (.int q) .unit))) ->
    (∀i,i<j->∀y,ks[i]?=some y->Ba (.Au (.int q) (.Au (.int q) .unit)) x y=false)->(∀y,ks[j]?=some y->Ba (.Au (.int q) (.Au (.int q) .unit)) x y=true) ->
    (Instr.findAsking W6 (DT (.Au (.int q) (.Au (.int q) .unit)) x) ms n).run P w=.ok (if h:j<ms.length then some (n+j,ms[j].val)else none) w
 |[],ms,n,j,hm,_,_=>by
  have:ms=[]:=by simpa using hm
  subst this;simp[Instr.findAsking]
 |k::ks,m::ms,n,0,hm,_,h1=>by
  simp only[List.map_cons,List.cons.injEq]at hm;have:=h1 k rfl;simp only[Ba,Bool.and_true]at this;simp[Instr.findAsking,hm.1,DT,gO hu D1 hq,this]
 |k::ks,m::ms,n,j+1,hm,h0,h1=>by
  simp only[List.map_cons,List.cons.injEq]at hm;have ih:=W0 hu D1 hq w ks ms (n+1) j hm.2 (λi hi y hy=>h0 (i+1) (by omega) y (by simpa using hy)) (λy hy=>h1 y (by simpa using hy));have:=h0 0 (by omega) k rfl;simp only[Ba,Bool.and_true]at this;simp only[Instr.findAsking,hm.1,Sem.run_bind];rw[show(Op.equal W6 (DT (.Au (.int q) (.Au (.int q) .unit)) x) (DT (.Au (.int q) (.Au (.int q) .unit)) k)).run P w=.ok false w by simp[DT,gO hu D1 hq,this]];simp only[Result.andThen_ok,Bool.false_eq_true,if_false];rw[ih];by_cases hj:j<ms.length
  ·simp[hj];omega
  ·simp[hj]
 |k::ks,[],n,j,hm,_,_=>by simp at hm
theorem AfF{W6 e2:TypeId}(hu:P.underlying W6=some (.array 2 e2)){te:TI}(D1:EA P e2 te){q:IntKind}(hq:te.ty=.int q):eZ P W6 (.Au (.int q) (.Au (.int q) .unit)) where
 check w em x:=by
  have hs:=Dn (w:=w) D1;rw[hq]at hs;have hi:=Sb D1 hq;have p0:(part e2 #[.int q x.1,.int q x.2.1] 0).run P w=.ok (.int q x.1) w:=YF D1 hq rfl;have p1:(part e2 #[.int q x.1,.int q x.2.1] 1).run P w=.ok (.int q x.2.1) w:=YF D1 hq rfl;have hc:∀y,(Instr.checkKey em 9999 e2 (.int q y)).run P w=.ok () w:=λy=>by
   rw[show(9999:Nat)=9998+1 from rfl,Instr.checkKey];simp[underlying,hi]
  rw[show(10000:Nat)=9999+1 from rfl,Instr.checkKey];simp only[Sem.run_bind,run_underlying hu,Result.andThen_ok,DT];simp only[Std.Legacy.Range.forIn_eq_forIn_range',Std.Legacy.Range.size,Nat.sub_zero,AHy,Nat.div_one,List.range'_succ,List.range'_zero,List.forIn_cons,List.forIn_nil];simp[hs,p0,p1,hc,Ty.size]
 find w x ks ms hm j h0 h1:=by
  have hf:=W0 hu D1 hq w (x:=x) ks ms 0 j hm h0 h1;rw[AHr]at hf;simp only[Instr.findKey,underlying,Sem.run_bind,run_underlying hu];cases ms with
  |nil=>simp[underlying,hu,Instr.findNow]
  |cons m ms =>
   cases ks with
   |nil=>simp at hm
   |cons k ks =>
    have hk:=(List.cons.inj (by simpa using hm:m.key::ms.map (·.key)=DT _ k::ks.map (DT _))).1;have:Instr.findNow (.array 2 e2) (DT (.Au (.int q) (.Au (.int q) .unit)) x) (m::ms) 0=none:=by simp[Instr.findNow,Instr.sameNow]
    simp[underlying,hu,this,hf]
 stays w x:=by
  have:Instr.sameBits 10000 (.agg #[.int q x.1,.int q x.2.1]) (.agg #[.int q x.1,.int q x.2.1])=true:=by
   rw[show(10000:Nat)=9998+1+1 from rfl];simp[Instr.sameBits]
  simp[Instr.keyThatStays,DT,this]
 eq x y h:=by
  simp only[Ba,AG2,beq_iff_eq,Bool.and_true]at h;obtain⟨x1,x2,_⟩:=x;obtain⟨y1,y2,_⟩:=y;simp at h;rw[h.1,h.2]
theorem eZ.of{A7:sZ}{W6:TypeId}{tk:TI}(ht:au P A7=true)(hk:EA P W6 tk)(h:tk.ty.D5=true)(hh:XH A7 tk=true):eZ P W6 tk.ty:=by
 unfold XH at hh;split at hh
 ·rename_i q r hq;simp only[AG2,beq_iff_eq]at hh;obtain⟨fB,hh⟩:=hh;split at hh
  ·rename_i te D1;simp only[AG2,beq_iff_eq]at hh;have hu:=hk.Gs (by omega);rw[fB]at hu;rw[hh.2];exact AfF hu (EA.of ht D1) hh.1
  ·cases hh
 ·cases hq:tk.ty with
  |int q=>exact AfG (Sb hk hq)
  |str=>exact AfH (QH hk hq)
  |Au a b =>
   rename_i Vx;rw[hq]at h;cases a with
   |int q=>exact(Vx q b hq).elim
   |_=>simp[Ty.D5]at h
  |_=>rw[hq]at h;simp[Ty.D5]at h
theorem AfD{w:World}{A:Nat->Prop}:∀{kt:Ty} {x:kt.V} {cs:List Value} {v:Value},kt.D5=true->G1 w A kt x cs->Bv kt.isAgg cs v->v=DT kt x
 |.int k,x,cs,v,_,h,hv=>by
  have h:cs=[.int k x]:=h;subst h;simpa [Bv,Ty.isAgg,DT]using hv.symm
 |.str,x,cs,v,_,h,hv=>by
  have h:cs=[.string x]:=h;subst h;simpa [Bv,Ty.isAgg,DT]using hv.symm
 |.Au a b,x,cs,v,hk,h,hv=>by
  cases a with
  |int q=>cases b with
   |Au b c=>cases b with
    |int q'=>cases c with
     |unit =>
      obtain⟨c1,d1,rfl,h1,c2,d2,rfl,h2,h3⟩:=h;have h1:c1=[.int q x.1]:=h1;have h2:c2=[.int q' x.2.1]:=h2;have h3:d2=[]:=h3;subst h1;subst h2;subst h3;simpa [Bv,Ty.isAgg,DT]using hv
     |_=>simp[Ty.D5]at hk
    |_=>simp[Ty.D5]at hk
   |_=>simp[Ty.D5]at hk
  |_=>simp[Ty.D5]at hk
 |.bool,_,_,_,hk,_,_=>by simp[Ty.D5]at hk
 |.unit,_,_,_,hk,_,_=>by simp[Ty.D5]at hk
 |.sl _,_,_,_,hk,_,_=>by simp[Ty.D5]at hk
 |.P3 _,_,_,_,hk,_,_=>by simp[Ty.D5]at hk
theorem dv{w:World}{g:G}{bs:List Blk}(H:Bc w g bs){kt:Ty}{a:AV}{key:kt.V}{v:Value}(hk:kt.D5=true)(h:rd bs kt a=some key)(hv:BR w g bs.length a v):v=DT kt key:=by
 obtain⟨h1,h2⟩:=TS h;obtain⟨cs,RN,hv⟩:=BO h1 h2 hv;rw[XM h]at hv;exact AfD hk (Pm H kt a key cs h RN).1 hv
theorem UH:∀{kt:Ty},kt.D5=true->∀{x:kt.V},Ba kt x x=true
 |.int _,_,x=>by simp[Ba]
 |.str,_,x=>XV.2 rfl
 |.Au a b,hk,x=>by
  cases a with
  |int q=>cases b with
   |Au b c=>cases b with
    |int q'=>cases c with
     |unit=>simp[Ba]
     |_=>simp[Ty.D5]at hk
    |_=>simp[Ty.D5]at hk
   |_=>simp[Ty.D5]at hk
  |_=>simp[Ty.D5]at hk
 |.bool,hk,_=>by simp[Ty.D5]at hk
 |.unit,hk,_=>by simp[Ty.D5]at hk
 |.sl _,hk,_=>by simp[Ty.D5]at hk
 |.P3 _,hk,_=>by simp[Ty.D5]at hk
theorem iC{kt vt:Ty}(k:kt.V):∀(es:List (kt.V×vt.V)),(∃(j:Nat) (x:kt.V×vt.V),es[j]?=some x/\Ba kt k x.1=true/\(∀i,i<j->∀y,es[i]?=some y->Ba kt k y.1=false)/\Ni kt vt es k=some x.2/\∀v,BS kt vt es k v=es.set j (k,v)) \/
    ((∀(i:Nat) y,es[i]?=some y->Ba kt k y.1=false)/\Ni kt vt es k=none/\∀v,BS kt vt es k v=es++[(k,v)])
 |[]=>.inr ⟨λi y h=>by simp at h,rfl,λ_=>rfl⟩
 |x::r=>by
  cases hk:Ba kt k x.1 with
  |true=>exact .inl ⟨0,x,rfl,hk,λi hi=>by omega,by simp[Ni,hk],λv=>by simp[BS,hk]⟩
  |false =>
   rcases iC k r with ⟨j,y,h1,h2,h3,h4,h5⟩|⟨h1,h2,h3⟩
   ·refine .inl ⟨j+1,y,by simpa using h1,h2,λi hi z hz=>?_,by simp[Ni,hk,h4],λv=>by simp[BS,hk,h5]⟩;cases i with
    |zero=>simp at hz;subst hz;exact hk
    |succ i=>exact h3 i (by omega) z (by simpa using hz)
   ·refine .inr ⟨λi z hz=>?_,by simp[Ni,hk,h2],λv=>by simp[BS,hk,h3]⟩;cases i with
    |zero=>simp at hz;subst hz;exact hk
    |succ i=>exact h1 i z (by simpa using hz)
section
variable {w:World} {own:Nat->Sf} {k:Nat} {md:RM} {kt vt:Ty} {st:Option kt.V}
theorem T0.AfE:∀{i:Nat} {es:List (kt.V×vt.V)} {ms:List MapEntry},T0 w own k md kt vt st i es ms->ms.map (·.key)=(es.map (·.1)).map (DT kt)
 |_,[],_,h=>by cases h;rfl
 |_,x::xs,_,⟨m,r,e,h1,_,h3⟩=>by subst e;simp[h1.1,T0.AfE h3]
theorem T0.len{i:Nat}{es:List (kt.V×vt.V)}{ms:List MapEntry}(h:T0 w own k md kt vt st i es ms):ms.length=es.length:=by
 have:=congrArg List.length h.AfE;simpa using this
theorem T0.get:∀{i:Nat} {es:List (kt.V×vt.V)} {ms:List MapEntry} {j:Nat} {x:kt.V×vt.V},T0 w own k md kt vt st i es ms->es[j]?=some x ->
    ∃m,ms[j]?=some m/\(m.key=DT kt x.1/\m.born=i+j)/\(st=some x.1\/∃cs,RR w own k md vt (i+j) x.2 cs/\Bv vt.isAgg cs m.val)
 |i,x::xs,_,0,y,⟨m,r,e,h1,h2,h3⟩,hj=>by
  simp at hj;subst hj;subst e;exact⟨m,rfl,h1,h2⟩
 |i,x::xs,_,j+1,y,⟨m,r,e,h1,h2,h3⟩,hj=>by
  subst e;obtain⟨m',h4,h5,h6⟩:=h3.get (j:=j) (by simpa using hj);exact⟨m',by simpa using h4,by rw[show i+(j+1)=i+1+j by omega];exact h5,by rw[show i+(j+1)=i+1+j by omega];exact h6⟩
 |_,[],_,_,_,_,hj=>by simp at hj
theorem T0.mk:∀{i:Nat} {es:List (kt.V×vt.V)} {ms:List MapEntry},ms.length=es.length->(∀(j:Nat) (x:kt.V×vt.V) (m:MapEntry),es[j]?=some x->ms[j]?=some m->(m.key=DT kt x.1/\m.born=i+j)/\(st=some x.1\/∃cs,RR w own k md vt (i+j) x.2 cs/\Bv vt.isAgg cs m.val))->T0 w own k md kt vt st i es ms
 |_,[],ms,hl,_=>by
  cases ms with
  |nil=>rfl
  |cons _ _=>simp at hl
 |i,x::xs,[],hl,_=>by simp at hl
 |i,x::xs,m::ms,hl,h=>by
  obtain⟨h1,h2⟩:=h 0 x m rfl rfl;refine⟨m,ms,rfl,h1,h2,T0.mk (by simpa using hl) λj y m' hy hm=>?_⟩;have:=h (j+1) y m' (by simpa using hy) (by simpa using hm);rwa [show i+(j+1)=i+1+j by omega]at this
end
theorem pX{t:Nat}{ti:TI}(h:EA P t ti)(w:World):∃z,(zeroValue t).run P w=.ok z w/\Bv ti.ty.isAgg (PY ti.ty) z:=by
 obtain⟨i,z,hi,_,_,hz,ib,ha⟩:=h.info;refine⟨z,by simp[zeroValue,typeInfo,hi,hz],?_⟩;cases hg:ti.ty.isAgg with
 |true =>
  obtain⟨c,rfl⟩:=ha.2 hg;have:c.toList=PY ti.ty:=ib;simp[Bv,<-this]
 |false =>
  have hn:∀c,z≠.agg c:=λc e=>by have:=ha.1 ⟨c,e⟩;rw[hg]at this;cases this
  have:z.cells=#[z]:=by cases z<;>first |rfl |exact(hn _ rfl).elim
  rw[this]at ib;simp[Bv,<-ib]
theorem Yr{w:World}{g:G}{k:Nat}{md:RM}{kt vt:Ty}{st:Option kt.V}{W6:TypeId}(K:eZ P W6 kt){es:List (kt.V×vt.V)}{Gs:Array MapEntry}(hm:T0 w g.own k md kt vt st 0 es Gs.toList)(key:kt.V) :
    (∃(j:Nat) (x:kt.V×vt.V) (m:MapEntry),es[j]?=some x/\x.1=key/\Gs[j]?=some m/\(∀i,i<j->∀y,es[i]?=some y->Ba kt key y.1=false)/\Ni kt vt es key=some x.2/\(∀v,BS kt vt es key v=es.set j (key,v))/\(st=some x.1\/∃cs,RR w g.own k md vt j x.2 cs/\Bv vt.isAgg cs m.val)/\(m.key=DT kt key/\m.born=j) /\
     (Instr.findKey W6 (DT kt key) Gs.toList).run P w=.ok (some (j,m.val)) w) \/
    ((∀(i:Nat) y,es[i]?=some y->Ba kt key y.1=false)/\Ni kt vt es key=none/\(∀v,BS kt vt es key v=es++[(key,v)])/\(Instr.findKey W6 (DT kt key) Gs.toList).run P w=.ok none w):=by
 rcases iC key es with ⟨j,x,h1,h2,h3,h4,h5⟩|⟨h1,h2,h3⟩
 ·obtain⟨m,h6,⟨h7,h7b⟩,h8⟩:=hm.get h1;have VU:j<Gs.toList.length:=AP h6;have hf:=K.find w key (es.map (·.1)) Gs.toList hm.AfE j (λi hi y hy=>by
   rw[AHo]at hy;cases hq:es[i]? with
   |none=>rw[hq]at hy;cases hy
   |some z=>rw[hq]at hy;injection hy with hy;subst hy;exact h3 i hi z hq) (λy hy=>by
   rw[AHo,h1]at hy;injection hy with hy;subst hy;exact h2)
  have hmv:Gs.toList[j]=m:=by
   have:=List.getElem?_eq_getElem VU;rw[this]at h6;injection h6
  rw[dif_pos VU,hmv]at hf;have e:=(K.eq _ _ h2).symm;exact .inl ⟨j,x,m,h1,e,by rw[<-AG9];exact h6,h3,h4,h5,by rw[AHr]at h8;exact h8,⟨by rw[h7,e],by rw[h7b];omega⟩,hf⟩
 ·have hf:=K.find w key (es.map (·.1)) Gs.toList hm.AfE es.length (λi hi y hy=>by
    rw[AHo]at hy;cases hq:es[i]? with
    |none=>rw[hq]at hy;cases hy
    |some z=>rw[hq]at hy;injection hy with hy;subst hy;exact h1 i z hq) (λy hy=>by
    rw[AHo,AHz (AG1 _)]at hy;cases hy)
  rw[dif_neg (by rw[hm.len];omega)]at hf;exact .inr ⟨h1,h2,h3,hf⟩
theorem b6{w:World}{g:G}{n k:Nat}{v:Value}(h:BR w g n (.mp k) v):k<n/\∃b,(g.AU k).a=some ⟨b,0,none⟩/\v=.map (some b):=by
 obtain⟨cs,⟨hk,b,hb,e⟩,hv⟩:=BO rfl rfl h;subst e;exact⟨hk,b,hb,by simpa [Bv,AV.isAgg]using hv.symm⟩
theorem pq{t:TypeId}(ho:o.op=.makeMap t none){m:RM}{kt vt:Ty}(hm:m.Cf=[]):MP P σ o ⟨.mp σ.Am.length,σ.Am++[.map m kt vt [] none],[]⟩:=by
 refine⟨by simp,λ_=>⟨_,rfl⟩,λa w g hs next Q hn=>?_⟩
 have hr:(execOp a.eval o).run P w=.ok (.value (.map (some w.heap.size))) (w.alloc (.map #[] 0)):=by
  simp[execOp,ho,Instr.makeMap]
 unfold Oper.wp;rw[hr];have st:=Step.add hs.heap (.map #[] 0) ⟨some ⟨w.heap.size,0,none⟩,0,0,0⟩;refine hn _ _ _ (hs.heap.new ?_) ?_ st
 ·exact⟨(by rw[hm];intro j hj;cases hj),w.heap.size,#[],0,by simp[G.add],by simp[G.add],heap_alloc_new w _,by simp,rfl⟩
 ·exact Bn (cs:=[_]) rfl ⟨by simp,w.heap.size,by simp[G.add],rfl⟩ (by simp[Bv,AV.isAgg])
theorem oM{w:World}{g:G}{k b:Nat}{md:RM}{kt vt:Ty}{st:Option kt.V}{t W6 el:TypeId}{te:TI}(ht:P.underlying t=some (.map W6 el))(D1:EA P el te)(hvt:vt=te.ty)(hd:te.ty.data=true)(K:eZ P W6 kt){es:List (kt.V×vt.V)}{Gs:Array MapEntry}{De:Nat}(hb:w.heap[b]?=some (.map Gs De))
    (hm:T0 w g.own k md kt vt st 0 es Gs.toList) (key:kt.V) (ok:Bool):∃v,(Instr.lookup t (.map (some b)) (DT kt key) ok).run P w=.ok (if ok then .tuple #[v,.bool (Ry kt vt es key)]else v) w /\
     ((∃(j:Nat) (x:kt.V×vt.V) (m:MapEntry),es[j]?=some x/\x.1=key/\Gs[j]?=some m/\m.val=v/\Bh kt vt es key=x.2/\(st=some x.1\/∃cs,RR w g.own k md vt j x.2 cs/\Bv vt.isAgg cs v))\/(Bh kt vt es key=vt.zero/\Bv vt.isAgg (PY vt) v)):=by
 subst hvt;rcases Yr K hm key with ⟨j,x,m,h1,h2,h3,_,h4,_,h5,_,hf⟩|⟨_,h2,_,hf⟩
 ·refine⟨m.val,?_,.inl ⟨j,x,m,h1,h2,h3,rfl,by simp[Bh,h4],h5⟩⟩;cases ok<;>simp[Instr.lookup,underlying,ht,MapKept.run_getObj_map hb,K.check,hf,Ry,h4]
 ·obtain⟨z,hz,hzv⟩:=pX D1 w;refine⟨z,?_,.inr ⟨by simp[Bh,h2],hzv⟩⟩;cases ok<;>simp[Instr.lookup,underlying,ht,MapKept.run_getObj_map hb,K.check,hf,hz,Ry,h2]
theorem Ac0{t:TypeId}{m x:Operand}{ok:Bool}(ho:o.op=.lookup t m x ok){ti tk te:TI}(ht:EA P t ti)(gY:ti.Nj≠0)(D1:EA P ti.elem te)(hd:te.ty.data=true)(K:tk.ty.D5=true->eZ P ti.Nj tk.ty){z:AV}
    (h:af σ.Am tk te ok (σ.B5 m) (σ.B5 x) some=some z):MP P σ o ⟨z,σ.Am,[]⟩ :=
 .H9 <| KP (s:=λρ=>Instr.lookup t (ρ m) (ρ x) ok) (λρ=>by simp[execOp,ho]) λa w g BH=>by
  unfold af at h;split at h
  ·rename_i k hm;split at h
   ·rename_i md kt vt es hb;split at h
    ·rename_i key hx;split at h
     ·rename_i hc;obtain⟨hkt,hvt,TW⟩:=hc;subst hkt;subst hvt;have vV:=AO BH m;rw[hm]at vV;obtain⟨hk,b,MR,uc⟩:=b6 vV;obtain⟨PZ,b',Gs,De,ha,Ce,hh,QJ,di⟩:=BH.heap.Lf k _ hb;rw[MR]at ha;injection ha with ha;injection ha with ha;subst ha;have df:=dv BH.heap TW hx (AO BH x);obtain⟨v,hr,VY⟩:=oM (ht.mp gY) D1 rfl hd (K TW) hh di key ok;have hv:BR w g σ.Am.length (.AA (XJ (md.own k) te.ty) te.ty (Bh tk.ty te.ty es key)) v:=by
       have aF:∃cs,G1 w (Al g.own (md.own k)) te.ty (Bh tk.ty te.ty es key) cs/\Bv te.ty.isAgg cs v:=by
        rcases VY with ⟨j,y,mm,h1,h2,h3,h4,h5,h6⟩|⟨h1,h2⟩
        ·rw[h5];rcases h6 with h6 |⟨cs,h6,h7⟩
         ·cases h6
         ·refine⟨cs,?_,h7⟩;cases md with
          |Ai=>exact I7.rd (λb q hb=>.mem (AHq) hb) h6
          |sh ks=>exact h6
        ·rw[h1];exact⟨_,G1.zero hd,h2⟩
       obtain⟨cs,h1,h2⟩:=aF;refine Bn rfl (cs:=cs) ⟨λj hj=>?_,?_⟩ h2
       ·unfold XJ at hj;split at hj
        ·cases hj
        ·cases md with
         |Ai=>simp[RM.own]at hj;subst hj;exact hk
         |sh ks=>exact PZ j hj
       ·unfold XJ;split
        ·rename_i hf;exact(G1.BD hf).2 ((G1.BD hf).1 h1)
        ·cases md<;>exact h1
      cases ok with
      |false =>
       simp only[AHa,AGX]at h;subst h;exact⟨v,by rw[uc,df];simpa using hr,hv⟩
      |true =>
       simp only[AHb,AGX]at h;subst h;refine⟨_,by rw[uc,df];simpa using hr,[v,.bool (Ry tk.ty te.ty es key)],rfl,v,_,rfl,(BR.iff rfl).1 hv,.bool (Ry tk.ty te.ty es key),[],rfl,?_,rfl⟩;exact(BR.iff rfl).1 (YB _)
     ·cases h
    ·cases h
   ·cases h
  ·cases h
theorem xc{t:TypeId}{m x:Operand}(ho:o.op=.lookup t m x false){ti tk te:TI}(ht:EA P t ti)(gY:ti.Nj≠0)(D1:EA P ti.elem te)(hd:te.ty.data=true)(K:tk.ty.D5=true->eZ P ti.Nj tk.ty)
    (h:iy σ.Am tk te (σ.B5 m) (σ.B5 x) some=some e):MP P σ o e:=by
 unfold iy at h;split at h
 ·rename_i k hm;split at h
  ·rename_i kt u es hb;split at h
   ·rename_i key hx;split at h
    ·rename_i hc;injection h with h;subst h;obtain⟨hkt,hvt,TW,hu⟩:=hc;subst hkt;refine⟨by simp[Ay],λh=>(by cases h),λa w g BH next Q hn=>?_⟩
     have H:=BH.heap;have vV:=AO BH m;rw[hm]at vV;obtain⟨hk,b,MR,uc⟩:=b6 vV;obtain⟨PZ,b',Gs,De,ha,Ce,hh,QJ,di⟩:=H.Lf k _ hb;rw[MR]at ha;injection ha with ha;injection ha with ha;subst ha;have df:=dv H TW hx (AO BH x);obtain⟨v,hr,VY⟩:=oM (ht.mp gY) D1 hvt hd (K TW) hh di key false;have DR:(execOp a.eval o).run P w=.ok (.value v) w:=by
      simp only[Bool.false_eq_true,if_false]at hr;simp[execOp,ho,uc,df,hr]
     unfold Oper.wp;rw[DR];obtain ⟨J,ad,cap,hv,Od,Tm⟩:∃(J:Nat) (ad:Option Addr) (cap:Nat),v=.slice ad (Bh tk.ty (.sl u) es key).length cap/\I7 w g.own k (.sl u) [J] (Bh tk.ty (.sl u) es key) [.slice ad (Bh tk.ty (.sl u) es key).length cap] /\
         ∀(i:Nat) (y:tk.ty.V×(Ty.sl u).V),es[i]?=some y->y.1=key\/i≠J:=by
      rcases VY with ⟨j,y,mm,h1,h2,h3,h4,h5,h6⟩|⟨h1,h2⟩
      ·rcases h6 with h6 |⟨cs,h6,h7⟩
       ·cases h6
       ·have h6':I7 w g.own k (.sl u) [j] y.2 cs:=h6;obtain⟨ad,cap,e1,h8⟩:=h6;subst e1;have hv:[Value.slice ad y.2.length cap]=[v]:=h7;injection hv with hv _;refine⟨j,ad,cap,by rw[h5];exact hv.symm,by rw[h5];exact h6',λi z hz=>?_⟩;by_cases hi:i=j
        ·subst hi;rw[h1]at hz;injection hz with hz;subst hz;exact .inl h2
        ·exact .inr hi
      ·have hv:[Value.slice none 0 0]=[v]:=h2;injection hv with hv _;refine⟨es.length,none,0,by rw[h1];exact hv.symm,by rw[h1];exact⟨none,0,rfl,.inl ⟨rfl,rfl⟩⟩,λi z hz=>.inr ?_⟩;have:=AP hz;omega
     let ys:=Bh tk.ty (.sl u) es key
     let i1:BI:=⟨ad,ys.length,cap,u.size⟩
     let n:=σ.Am.length
     let g1:=g.cG n k [J] i1
     have st:Step [k] n w g w g1:=eE;have Rn:g1.AU n=i1:=by simp[g1,G.cG]
     have dh:k≠n:=by simp only[n];omega
     have gX:((A8 [k] σ.Am).set k (Blk.map .Ai tk.ty (.sl u) es (some key))++[Blk.row 0 .Ai u ys]).length=n+1:=by simp[Ay,n]
     refine hn v w g1 ?_ ?_ st
     ·refine H.XW st (λb hb=>by simp[g1,G.cG,H.BN b hb]) (by rw[gX];exact AHw _) λj y hj=>?_;rw[AHl]at hj;split at hj
      ·rcases QS hj with ⟨Zr,rfl⟩|⟨I8,hj⟩
       ·rw[Zr];have Qi:g1.AU k=g.AU k:=by simp[g1,G.cG,dh]
        refine .inr (.inr ⟨λj hj=>(by cases hj),b,Gs,De,by rw[Qi];exact MR,UA Ce (λhc=>by have:=hc.2;simp at this),hh,QJ,T0.mk di.len λi z mm hz hmz=>?_⟩);obtain⟨m',h1,h2,h3⟩:=di.get hz;rw[hmz]at h1;injection h1 with h1;subst h1;refine⟨h2,?_⟩;rcases Tm i z hz with h |h
        ·exact .inl (by rw[h])
        ·rcases h3 with h3 |⟨cs,h3,h4⟩
         ·cases h3
         ·refine .inr ⟨cs,?_,h4⟩;rw[AHr]at h3⊢;exact I7.mono (λb q hb=>⟨UA hb λhc=>by
           obtain⟨s,hs⟩:=hc.2;have:=List.append_inj_right' hs rfl;simp at this;exact h this.symm,rfl⟩) h3
       ·obtain⟨y,hy,rfl⟩:=C4 hj;exact .inr (.inl ⟨by simpa using I8,y,hy,rfl⟩)
      ·rename_i YW;simp only[AG4,Ay]at hj YW;have gU:j-σ.Am.length=0:=by
        rcases AHj (j-σ.Am.length)with h |h
        ·exact h
        ·rw[AHz (by simp;omega)]at hj;cases hj
       rw[gU]at hj;obtain rfl:j=n:=by simp only[n];omega
       simp only[List.getElem?_cons_zero,AGX]at hj;subst hj;refine .inr (.inr ⟨λj hj=>(by cases hj),by rw[Rn],by rw[Rn],Nat.pos_of_ne_zero hu,?_⟩);rw[Rn];obtain⟨mj,Q0,e3,Od⟩:=Od;injection e3 with e3 _;injection e3 with e3 _ e4;subst e3;subst e4;refine Od.imp id λ⟨b,el,Bs,ds,q1,q2,q3,q4,q5,q6,q7,q8⟩=>⟨b,Bs,ds,q1,Ww (q:=[]) (by simpa using q2),⟨el,.inl rfl,q3⟩,q4,q5,q6,q7,?_⟩;exact q8.mono λi x c r=>r.mono λb q hb=>⟨Ww (by simpa using hb),rfl⟩
     ·rw[gX,hv];exact Bn (cs:=[_]) rfl ⟨AHB _,by rw[Rn]⟩ rfl
    ·cases h
   ·cases h
  ·cases h
 ·cases h
theorem AbT{w:World}{g:G}{Bw:List Nat}{b k:Nat}{Gs:Array MapEntry}{De:Nat}{ob:Obj}(hh:w.heap[b]?=some (.map Gs De))(ho:g.own b=.BG k [])(hk:k∈Bw):∀q,q<w.heap.size->(∀k p,g.own q=.BG k p->k∉Bw)->({w with heap:=w.heap.setIfInBounds b ob}:World).heap[q]?=w.heap[q]?:=by
 intro q _ hq;exact Array.getElem?_setIfInBounds_ne (λe=>by subst e;exact hq k [] ho hk)
theorem AmO{P:Program}{w:World}{g:G}{bs:List Blk}(H:Bc w g bs){t:TypeId}{am ax av:AV}{mv xv vv:Value}(hAm:BR w g bs.length am mv)(hAx:BR w g bs.length ax xv)(hAv:BR w g bs.length av vv){ti tk te:TI}(ht:EA P t ti)(gY:ti.Nj≠0)(K:tk.ty.D5=true->eZ P ti.Nj tk.ty){e:G2}
    (h:YU bs tk te am ax av some=some e):e.Bw≠[]/\e.Am.length=bs.length/\e.val=.un 0/\∃w' g',(Instr.mapUpdate t mv xv vv).run P w=.ok () w'/\Bc w' g' e.Am/\Step e.Bw bs.length w g w' g':=by
 unfold YU at h;split at h
 ·rename_i k;split at h
  ·rename_i md kt vt es st0 hb;split at h
   ·rename_i key y m' rs hx W5;split at h
    ·rename_i hc;obtain⟨hkt,hvt,TW,MS,hrk⟩:=hc;subst hkt;have h':e=⟨.un 0,(Blk.Gg (A8 (k::rs) bs) rs).set k (.map m' tk.ty vt (BS tk.ty vt es key y) none),k::rs⟩/\(st0=none\/st0=some key):=by
      cases st0 with
      |none=>injection h with h;exact⟨h.symm,.inl rfl⟩
      |some k0 =>
       simp only at h;cases hq:Ba tk.ty k0 key with
       |false=>rw[hq]at h;cases h
       |true =>
        rw[hq,AHb]at h;injection h with h;exact⟨h.symm,.inr (by rw[(K TW).eq _ _ hq])⟩
     obtain⟨rfl,ou⟩:=h';refine⟨by simp,by simp[A3,Ay],rfl,?_⟩;have vV:=hAm;obtain⟨hk,b,MR,uc⟩:=b6 vV;obtain⟨PZ,b',Gs,De,ha,Ce,hh,QJ,di⟩:=H.Lf k _ hb;rw[MR]at ha;injection ha with ha;injection ha with ha;subst ha;have df:=dv H TW hx hAx;obtain⟨hy,hrs,AAu,AAr⟩:=OQ W5;obtain⟨V2,Qm⟩:=TS hy;obtain⟨cv,XB,v8⟩:=BO V2 Qm hAv;rw[XM hy]at v8;obtain⟨XG,aE⟩:=YT W5;have Vh:=Un MS;have rC:k∉rs:=by simpa using hrk
     have Bj:b<w.heap.size:=Rv H (by rw[Ce];simp);obtain ⟨J,my,Ze,DR,Abj⟩:∃(J:Nat) (my:Array MapEntry) (Ze:Nat),(Instr.mapUpdate t mv xv vv).run P w=.ok () {w with heap:=w.heap.setIfInBounds b (.map my Ze)} /\
         ((((BS tk.ty vt es key y).map (·.1)).Nodup/\Ze=my.size)/\my.toList.length=(BS tk.ty vt es key y).length/\∀(i:Nat) (z:tk.ty.V×vt.V) (mm:MapEntry),(BS tk.ty vt es key y)[i]?=some z->my.toList[i]?=some mm ->
          (i=J/\z=(key,y)/\(mm.key=DT tk.ty key/\mm.born=i)/\mm.val=vv)\/(i≠J/\es[i]?=some z/\Gs.toList[i]?=some mm/\st0≠some z.1)):=by
      have hu:=ht.mp gY;have V0:∀z:tk.ty.V,Ba tk.ty key z=false->st0≠some z:=λz hz e=>by
       rcases ou with h |h
       ·rw[h]at e;cases e
       ·rw[h]at e;injection e with e;subst e;rw[UH TW]at hz;cases hz
      rcases Yr (K TW) di key with ⟨j,z,mm,h1,h2,h3,h4,h5,h6,h7,⟨h8,h8b⟩,hf⟩|⟨h1,h2,h3,hf⟩
      ·refine⟨j,Gs.modify j λe=>{e with key:=DT tk.ty key,val:=vv},De,?_,?_⟩
       ·rw[uc,df];simp[Instr.mapUpdate,underlying,hu,MapKept.run_getObj_map hh,(K TW).check,hf,h3,h8,(K TW).stays,MapKept.run_setObj_map _ hh]
       ·rw[h6 y];have hl:Gs.toList.length=es.length:=di.len;refine⟨⟨by
         rw[List.map_set];have:(es.map (·.1)).set j key=es.map (·.1):=by
          have hg:(es.map (·.1))[j]?=some key:=by rw[AHo,h1,<-h2];rfl
          apply List.ext_getElem?;intro i;rw[AHk];split
          ·rename_i e;subst e;rw[AHd (AP hg),hg]
          ·rfl
         rw[this];exact QJ.1,by simp[QJ.2]⟩,by simpa using hl,λi z' m2 hz Q4=>?_⟩
        rw[AG9,Array.getElem?_modify]at Q4;rw[AHk]at hz;by_cases vQ:j=i
        ·subst vQ;have VU:=AP h1;simp only[if_true,VU]at hz;injection hz with hz;simp only[if_true,h3,Option.map_some,AGX]at Q4;subst Q4;exact .inl ⟨rfl,hz.symm,⟨rfl,h8b⟩,rfl⟩
        ·simp only[AHe vQ]at hz Q4;refine .inr ⟨λe=>vQ e.symm,hz,by rw[AG9];exact Q4,?_⟩;intro e;rcases ou with h |h
         ·rw[h]at e;cases e
         ·rw[h]at e;injection e with e;have g1:(es.map (·.1))[j]?=some key:=by rw[AHo,h1,<-h2];rfl
          have g2:(es.map (·.1))[i]?=some key:=by rw[AHo,hz,e];rfl
          exact vQ ((List.getElem?_inj (AP g1) QJ.1).1 (g1.trans g2.symm))
      ·refine⟨es.length,Gs.push {key:=DT tk.ty key,val:=vv,born:=De},De+1,?_,?_⟩
       ·rw[uc,df];simp[Instr.mapUpdate,underlying,hu,MapKept.run_getObj_map hh,(K TW).check,hf,MapKept.run_setObj_map _ hh]
       ·rw[h3 y];have hl:Gs.toList.length=es.length:=di.len;refine⟨⟨by
         rw[List.map_append,List.nodup_append];refine⟨QJ.1,by simp,λa ha b hb=>?_⟩;simp at hb;subst hb
         rintro rfl
         obtain⟨z,hz,rfl⟩:=List.mem_map.1 ha;obtain⟨i,hi⟩:=List.getElem?_of_mem hz;have:=h1 i z hi;rw[UH TW]at this;exact Bool.noConfusion this,by simp[QJ.2]⟩,by simpa using hl,λi z' m2 hz Q4=>?_⟩
        rw[Array.toList_push]at Q4;by_cases hi:i<es.length
        ·rw[AHi hi]at hz;rw[AHi (by rw[hl];exact hi)]at Q4;exact .inr ⟨by omega,hz,Q4,V0 _ (h1 i z' hz)⟩
        ·have rB:=AP hz;rw[AGZ,AHf]at rB;obtain rfl:i=es.length:=by omega
         simp at hz;rw[<-hl]at Q4;simp at Q4;subst Q4;subst hz;exact .inl ⟨rfl,rfl,⟨rfl,by show De=es.length;rw[QJ.2,<-hl];simp⟩,rfl⟩
     obtain⟨AAt,uj,Abj⟩:=Abj
     let w':World:={w with heap:=w.heap.setIfInBounds b (.map my Ze)}
     let M:=J9 av [J]
     have rq:M.map (·.1)=rs:=by rw[hrs];exact F5 _ _
     let f:=Ut md k M
     let g':=g.Tb f none bs.length ⟨none,0,0,0⟩
     have oi:∀b' r,g.own b'=.BG k r->g'.own b'=.BG k r:=λb' r h=>by
      have:=HR (f:=f) (ob:=none) (n:=bs.length) (i:=⟨none,0,0,0⟩) (by simp) h;rw[this];exact Ou (by rw[rq];exact rC)
     have Ks:w'.heap.size=w.heap.size:=by simp[w']
     have st:Step (k::rs) bs.length w g w' g':=Step.Tb H.BN rfl rfl rfl (by rw[Ks];exact AG1 _) (AbT hh Ce (by simp)) (λq h=>by cases h) (AG1 _) λj r _ hm =>
      Ou (by rw[rq];exact λh=>hm (AHn _ h))
     have Amb:∀b',b'≠b->w'.heap[b']?=w.heap[b']?:=λb' h=>Array.getElem?_setIfInBounds_ne (Ne.symm h);have Abu:∀b' j r,g.own b'=.BG j r->j≠k->w'.heap[b']?=w.heap[b']?:=λb' j r h hj=>Amb b' λe=>by subst e;rw[Ce]at h;injection h with h;exact hj h.symm
     have Abv:∀b' q,g.own b'=.BG k q->q≠[]->w'.heap[b']?=w.heap[b']?:=λb' q h hq=>Amb b' λe=>by subst e;rw[Ce]at h;injection h with _ h;exact hq h.symm
     have og:∀b',g.own b'=.H8->w'.heap[b']?=w.heap[b']?:=λb' h=>Amb b' λe=>by subst e;rw[Ce]at h;cases h
     have hon:∀(i':Nat) (x:vt.V) (c:List Value),RR w g.own k md vt i' x c->RR w' g'.own k m' vt i' x c:=by
      intro i' x c R8;refine R8.on ?_;rcases AAr with ⟨rfl,rfl,_⟩|⟨ks,rfl,rfl⟩
      ·exact λb' q h=>⟨oi b' _ h,Abv b' _ h (by simp)⟩
      ·intro b' h;rcases h with h |⟨j,hj,r,h⟩
       ·exact⟨.inl (TE (by simp) h),og b' h⟩
       ·have nZ:=XG j hj;have Zr:=Vh j nZ;exact⟨.inr ⟨j,nZ,r,by
         have:=HR (f:=f) (ob:=none) (n:=bs.length) (i:=⟨none,0,0,0⟩) (by simp) h;rw[this];exact Ou (by rw[rq];exact λh=>Zr (AHn _ h))⟩,Abu b' j r h λe=>Zr (by simp[e])⟩
     have XE:InR w' g'.own k m' vt [J] y cv:=by
      refine lA H W5 XB (M:=M) (λjq hj=>Yz (by rw[F5];exact AAu) hj) (λ_ h=>h) (λj hj=>Sc (by rw[rq];exact λh=>Vh j hj (AHn _ h))) aE
       (λb' j r h _=>HR (by simp) h) (λb' h=>TE (by simp) h) λb' h=>?_
      rcases h with h |⟨j,r,h,hj⟩
      ·exact og b' h
      ·refine Abu b' j r h λe=>?_;subst e;rcases hj with hj |hj
       ·rw[rq]at hj;exact rC hj
       ·exact Vh j hj (by simp)
     have Aw3:RR w' g'.own k m' vt J y cv:=by
      cases m' with
      |Ai=>exact XE
      |sh ks=>exact XE
     refine⟨w',g',DR,H.XW st (LV H.BN (by rw[Ks];exact AG1 _) (λq h=>by cases h)) (by simp[A3,Ay]) λj z hj=>?_,st⟩;rcases QS hj with ⟨Zr,rfl⟩|⟨I8,hj⟩
     ·rw[Zr];have Qi:g'.AU k=g.AU k:=st.AU k hk;refine .inr (.inr ⟨by simpa [A3,Ay]using lB H W5 XB PZ,b,my,Ze,by rw[Qi];exact MR,oi b [] Ce,by simp[w',Bj],AAt,T0.mk uj λi z mm hz hmz=>?_⟩);rw[AHr];rcases Abj i z mm hz hmz with ⟨rfl,rfl,h3,h4⟩|⟨h1,h2,h3,h4⟩
      ·exact⟨h3,.inr ⟨cv,Aw3,by rw[h4];exact v8⟩⟩
      ·obtain⟨m2,h5,h6,h7⟩:=di.get h2;rw[h3]at h5;injection h5 with h5;subst h5;rw[AHr]at h6;refine⟨h6,?_⟩;rcases h7 with h7 |⟨cs,h7,h8⟩
       ·exact(h4 h7).elim
       ·rw[AHr]at h7;exact .inr ⟨cs,hon _ _ _ h7,h8⟩
     ·rcases J6 hj with h |⟨gV,h⟩
      ·exact .inl h
      ·obtain⟨y',aL,rfl⟩:=C4 h;exact .inr (.inl ⟨by simp only[List.mem_cons,not_or];exact⟨I8,gV⟩,y',aL,rfl⟩)
    ·cases h
   ·cases h
  ·cases h
 ·cases h
theorem eR{bs:List Blk}{tk te:TI}{am ax av:AV}{e:G2}(h:YU bs tk te am ax av some=some e):e.Bw≠[]/\e.Am.length=bs.length:=by
 unfold YU at h;split at h
 ·split at h
  ·split at h
   ·split at h
    ·split at h
     ·injection h with h;subst h;exact⟨by simp,by simp[A3,Ay]⟩
     ·rename_i y0 _;generalize Ba _ y0 _=q at h;cases q with
      |false=>cases h
      |true=>injection h with h;subst h;exact⟨by simp,by simp[A3,Ay]⟩
    ·cases h
   ·cases h
  ·cases h
 ·cases h
theorem uO{t:TypeId}{m x v:Operand}(ho:o.op=.mapUpdate t m x v\/o.op=.insert t m x v){ti tk te:TI}(ht:EA P t ti)(gY:ti.Nj≠0)(K:tk.ty.D5=true->eZ P ti.Nj tk.ty)
    (h:YU σ.Am tk te (σ.B5 m) (σ.B5 x) (σ.B5 v) some=some e):MP P σ o e:=by
 obtain⟨s1,s2⟩:=eR h;refine⟨by rw[s2];exact AG1 _,λh=>(s1 h).elim,λa w g BH next Q hn=>?_⟩
 ·obtain⟨h1,h2,h3,w',g',DR,hH,st⟩:=AmO BH.heap (AO BH m) (AO BH x) (AO BH v) ht gY K h;have W2:(execOp a.eval o).run P w=.ok .skip w':=by
   rcases ho with ho |ho<;>simp[execOp,ho,DR]
  unfold Oper.wp;rw[W2];exact hn undef w' g' hH (by rw[h3];exact PX) st
theorem Ag8{w:World}{g:G}{bs:List Blk}(H:Bc w g bs){k:Nat}{kt u:Ty}{es:List (kt.V×(Ty.sl u).V)}(hb:bs[k]?=some (.map .Ai kt (.sl u) es none))(hu:u.size≠0){J:Nat}{key:kt.V}{ys:(Ty.sl u).V}(hJ:es[J]?=some (key,ys)){b:Nat}(MR:(g.AU k).a=some ⟨b,0,none⟩)
    {Gs:Array MapEntry} {De:Nat} (hh:w.heap[b]?=some (.map Gs De)) {mm:MapEntry} (hm:Gs[J]?=some mm) :
    mm.born=J/\De=Gs.size/\∃g1,Bc w g1 ((A8 [k] bs).set k (.map .Ai kt (.sl u) es (some key))++[.row 0 .Ai u ys])/\Step [k] bs.length w g w g1/\BR w g1 (bs.length+1) (.Ak bs.length) mm.val/\g1.AU k=g.AU k:=by
 have hk:=AP hb;obtain⟨PZ,b',my,Ze,ha,Ce,hh',QJ,di⟩:=H.Lf k _ hb;rw[MR]at ha;injection ha with ha;injection ha with ha;subst ha;rw[hh]at hh';injection hh' with hh';injection hh' with e1 e2;subst e1;subst e2;obtain⟨m',q1,⟨_,q2⟩,q3⟩:=di.get hJ;rw[AG9,hm]at q1;injection q1 with q1;subst q1;rw[AHr]at q2 q3;refine⟨q2,QJ.2,?_⟩;obtain⟨ad,cap,hv,Od⟩:∃(ad:Option Addr) (cap:Nat),mm.val=.slice ad ys.length cap/\I7 w g.own k (.sl u) [J] ys [.slice ad ys.length cap]:=by
  rcases q3 with h6 |⟨cs,h6,h7⟩
  ·cases h6
  ·have h6':I7 w g.own k (.sl u) [J] ys cs:=h6;obtain⟨ad,cap,e1,h8⟩:=h6;subst e1;have hv:[Value.slice ad ys.length cap]=[mm.val]:=h7;injection hv with hv _;exact⟨ad,cap,hv.symm,h6'⟩
 let i1:BI:=⟨ad,ys.length,cap,u.size⟩
 let n:=bs.length
 let g1:=g.cG n k [J] i1
 have st:Step [k] n w g w g1:=eE;have Rn:g1.AU n=i1:=by simp[g1,G.cG]
 have dh:k≠n:=by simp only[n];omega
 have Qi:g1.AU k=g.AU k:=by simp[g1,G.cG,dh]
 have gX:((A8 [k] bs).set k (Blk.map .Ai kt (.sl u) es (some key))++[Blk.row 0 .Ai u ys]).length=n+1:=by simp[Ay,n]
 refine⟨g1,?_,st,?_,Qi⟩
 ·refine H.XW st (λb hb=>by simp[g1,G.cG,H.BN b hb]) (by rw[gX];exact AHw _) λj y hj=>?_;rw[AHl]at hj;split at hj
  ·rcases QS hj with ⟨Zr,rfl⟩|⟨I8,hj⟩
   ·rw[Zr];refine .inr (.inr ⟨λj hj=>(by cases hj),b,Gs,De,by rw[Qi];exact MR,UA Ce (λhc=>by have:=hc.2;simp at this),hh,QJ,T0.mk di.len λi z mm hz hmz=>?_⟩);obtain⟨m',h1,h2,h3⟩:=di.get hz;rw[hmz]at h1;injection h1 with h1;subst h1;refine⟨h2,?_⟩;by_cases hi:i=J
    ·subst hi;rw[hJ]at hz;injection hz with hz;subst hz;exact .inl rfl
    ·rcases h3 with h3 |⟨cs,h3,h4⟩
     ·cases h3
     ·refine .inr ⟨cs,?_,h4⟩;rw[AHr]at h3⊢;exact I7.mono (λb q hb=>⟨UA hb λhc=>by
       obtain⟨s,hs⟩:=hc.2;have:=List.append_inj_right' hs rfl;simp at this;exact hi this.symm,rfl⟩) h3
   ·obtain⟨y,hy,rfl⟩:=C4 hj;exact .inr (.inl ⟨by simpa using I8,y,hy,rfl⟩)
  ·rename_i YW;simp only[AG4,Ay]at hj YW;have gU:j-bs.length=0:=by
    rcases AHj (j-bs.length)with h |h
    ·exact h
    ·rw[AHz (by simp;omega)]at hj;cases hj
   rw[gU]at hj;obtain rfl:j=n:=by simp only[n];omega
   simp only[List.getElem?_cons_zero,AGX]at hj;subst hj;refine .inr (.inr ⟨λj hj=>(by cases hj),by rw[Rn],by rw[Rn],Nat.pos_of_ne_zero hu,?_⟩);rw[Rn];obtain⟨mj,Q0,e3,Od⟩:=Od;injection e3 with e3 _;injection e3 with e3 _ e4;subst e3;subst e4;refine Od.imp id λ⟨b,el,Bs,ds,q1,q2,q3,q4,q5,q6,q7,q8⟩=>⟨b,Bs,ds,q1,Ww (q:=[]) (by simpa using q2),⟨el,.inl rfl,q3⟩,q4,q5,q6,q7,?_⟩;exact q8.mono λi x c r=>r.mono λb q hb=>⟨Ww (by simpa using hb),rfl⟩
 ·rw[hv];exact Bn (cs:=[_]) rfl ⟨AHB _,by rw[Rn]⟩ rfl
end
theorem LR(Vd:Nat->Bool):∀a:AV,(a.drop Vd).drop Vd=a.drop Vd
 |.AA ks t x=>by
  simp only[AV.drop];split
  ·rfl
  ·rename_i h;simp only[AV.drop,AHe h]
 |.Eh ks t x=>by
  simp only[AV.drop];split
  ·rfl
  ·rename_i h;simp only[AV.drop,AHe h]
 |.R1 k i p o e=>by
  simp only[AV.drop];split
  ·rfl
  ·rename_i h;simp only[AV.drop,AHe h]
 |.TR k i p o j u=>by
  simp only[AV.drop];split
  ·rfl
  ·rename_i h;simp only[AV.drop,AHe h]
 |.pr a b=>by simp only[AV.drop,LR Vd a,LR Vd b]
 |.fn f c=>by simp only[AV.drop,LR Vd c]
 |.cons a b=>by simp only[AV.drop,LR Vd a,LR Vd b]
 |.zs=>rfl
 |.Ak _=>rfl
 |.ptr _ _ _ _=>rfl
 |.Lw=>rfl
 |.nil=>rfl
 |.mp _=>rfl
 |.un _=>rfl
theorem fu(Vd:Nat->Bool):∀b:Blk,(b.drop Vd).drop Vd=b.drop Vd
 |.box a=>by simp only[Blk.drop,LR]
 |.row e m t xs=>by cases h:m.Cf.any Vd<;>simp[Blk.drop,h]
 |.map m kt vt es st=>by cases h:m.Cf.any Vd<;>simp[Blk.drop,h]
 |.Qk _ _ _ _ _=>rfl
 |.tail _ _ _=>rfl
 |.AH=>rfl
theorem fw{bs:List Blk}{k:Nat}{X Y:Blk}:(A8 [k] ((Blk.Gg (A8 [k] bs) []).set k X)).set k Y=(A8 [k] bs).set k Y:=by
 apply List.ext_getElem?;intro i;by_cases h:i=k
 ·subst h;simp only[AHk,if_true];simp[Ay,A3]
 ·have h':k≠i:=Ne.symm h;rw[List.getElem?_set_ne h',List.getElem?_set_ne h'];unfold A8;rw[AHo,List.getElem?_set_ne h'];unfold Blk.Gg;simp only[AHo,Option.map_map];cases bs[i]? with
  |none=>simp
  |some y=>simp[fu]
section
variable {kt vt:Ty}
theorem kJ{k:kt.V}:∀{es:List (kt.V×vt.V)} {j:Nat} {x:kt.V×vt.V},es[j]?=some x->Ba kt k x.1=true->(∀i,i<j->∀y,es[i]?=some y->Ba kt k y.1=false)->TP kt vt es k=j
 |y::r,0,x,h,he,_=>by
  simp at h;subst h;unfold TP;rw[he];rfl
 |y::r,j+1,x,h,he,hn=>by
  unfold TP;rw[hn 0 (by omega) y rfl,AHa,kJ (es:=r) (j:=j) (by simpa using h) he λi hi z hz=>hn (i+1) (by omega) z (by simpa using hz)]
 |[],_,_,h,_,_=>by simp at h
theorem oP{k:kt.V}:∀{es:List (kt.V×vt.V)},(∀(i:Nat) y,es[i]?=some y->Ba kt k y.1=false)->TP kt vt es k=es.length
 |[],_=>rfl
 |y::r,h=>by
  unfold TP;rw[h 0 y rfl,AHa,oP (es:=r) λi z hz=>h (i+1) z (by simpa using hz)];rfl
theorem o9{Gs:Array MapEntry}{j:Nat}{m:MapEntry}{v:Value}(h:Gs[j]?=some m)(hk:m.key=v):Gs.modify j (λe=>{e with key:=v})=Gs:=by
 apply Array.ext_getElem?;intro i;rw[Array.getElem?_modify];split
 ·rename_i e;subst e;rw[h];simp[<-hk]
 ·rfl
theorem wR{w:World}{b:Nat}{o:Obj}(h:w.heap[b]?=some o):({w with heap:=w.heap.setIfInBounds b o}:World)=w:=by
 have:w.heap.setIfInBounds b o=w.heap:=by
  apply Array.ext_getElem?;intro i;rw[Array.getElem?_setIfInBounds];split
  ·rename_i e;subst e;split
   ·exact h.symm
   ·rename_i hn;rw[Array.getElem?_eq_none (by omega)]
  ·rfl
 rw[this]
theorem AzH{P:Program}{w:World}{g:G}{bs:List Blk}(H:Bc w g bs){k:Nat}{u:Ty}{tk:TI}{es:List (tk.ty.V×(Ty.sl u).V)}(hb:bs[k]?=some (.map .Ai tk.ty (.sl u) es none)){ax:AV}{key:tk.ty.V}(hx:rd bs tk.ty ax=some key){mv xv:Value}(hAm:BR w g bs.length (.mp k) mv)(hAx:BR w g bs.length ax xv)
    {t:TypeId} {ti te:TI} (ht:EA P t ti) (gY:ti.Nj≠0) (D1:EA P ti.elem te) (hvt:.sl u=te.ty) (TW:tk.ty.D5=true) (hu:u.size≠0) (K:tk.ty.D5=true->eZ P ti.Nj tk.ty) :
    ∃v w' g',(Instr.mapEntry t mv xv).run P w=.ok (.tuple #[v,.int .i64 (TP tk.ty (.sl u) es key:Nat)]) w' /\
     Bc w' g' ((A8 [k] bs).set k (.map .Ai tk.ty (.sl u) (BS tk.ty (.sl u) es key (Bh tk.ty (.sl u) es key)) (some key))++[.row 0 .Ai u (Bh tk.ty (.sl u) es key)])/\BR w' g' (bs.length+1) (.Ak bs.length) v/\Step [k] bs.length w g w' g':=by
 obtain⟨hk,b,MR,uc⟩:=b6 hAm;obtain⟨PZ,b',Gs,De,ha,Ce,hh,QJ,di⟩:=H.Lf k _ hb;rw[MR]at ha;injection ha with ha;injection ha with ha;subst ha;have df:=dv H TW hx hAx;have Qm:=ht.mp gY;have hl:Gs.toList.length=es.length:=di.len;rcases Yr (K TW) di key with ⟨j,x,m,h1,h2,h3,h4,h5,h6,h7,⟨h8,h8b⟩,hf⟩|⟨h1,h2,h3,hf⟩
 ·have hJ:es[j]?=some (key,x.2):=by rw[h1,<-h2]
  obtain⟨nU,AFc,g1,H1,st,ub,_⟩:=Ag8 H hb hu hJ MR hh h3;have hg:Bh tk.ty (.sl u) es key=x.2:=by unfold Bh;rw[h5];rfl
  have hp:BS tk.ty (.sl u) es key x.2=es:=by
   rw[h6];apply List.ext_getElem?;intro i;rw[AHk];split
   ·rename_i e;subst e;rw[AHd (AP hJ),hJ]
   ·rfl
  have oe:TP tk.ty (.sl u) es key=j:=kJ hJ (UH TW) h4;refine⟨m.val,w,g1,?_,by rw[hg,hp];exact H1,ub,st⟩;rw[uc,df];have hw:=wR (o:=.map (Gs.modify j λe=>{e with key:=DT tk.ty key}) De) (by rw[o9 h3 h8];exact hh);simp[Instr.mapEntry,underlying,Qm,MapKept.run_getObj_map hh,(K TW).check,hf,h3,h8,(K TW).stays,MapKept.run_setObj_map _ hh,hw,oe,nU,goInt]
 ·obtain⟨z,hz,hzv⟩:=pX D1 w;rw[<-hvt]at hzv;have hzs:z=.slice none 0 0:=by
   have:[Value.slice none 0 0]=[z]:=hzv;injection this with h _;exact h.symm
  subst hzs;have hg:Bh tk.ty (.sl u) es key=[]:=by unfold Bh;rw[h2];rfl
  have oe:TP tk.ty (.sl u) es key=es.length:=oP h1;have hA0:BR w g bs.length .zs (.slice none 0 0):=Bn (cs:=[_]) rfl ⟨none,rfl⟩ rfl;have AAW:YU bs tk te (.mp k) ax .zs some=some ⟨.un 0,(Blk.Gg (A8 [k] bs) []).set k (.map .Ai tk.ty (.sl u) (BS tk.ty (.sl u) es key []) none),[k]⟩:=by
   have W5:take bs .Ai (.sl u) .zs=some ([],.Ai,[]):=by simp[take,rd,AV.P4,AV.VR,nodup]
   unfold YU;simp only[hb,hx,W5];rw[AHd ⟨trivial,hvt,TW,by rfl,by rfl⟩]
  obtain⟨_,_,_,w',g',DR,H',st'⟩:=AmO H hAm hAx hA0 ht gY K AAW;have hw:w'={w with heap:=w.heap.setIfInBounds b (.map (Gs.push {key:=DT tk.ty key,val:=.slice none 0 0,born:=De}) (De+1))}:=by
   rw[uc,df]at DR;simp[Instr.mapUpdate,underlying,Qm,MapKept.run_getObj_map hh,(K TW).check,hf,MapKept.run_setObj_map _ hh]at DR;exact DR.symm
  have Bj:b<w.heap.size:=Rv H (by rw[Ce];simp);have p9:((Blk.Gg (A8 [k] bs) []).set k (Blk.map .Ai tk.ty (.sl u) (BS tk.ty (.sl u) es key []) none))[k]?=some (.map .Ai tk.ty (.sl u) (BS tk.ty (.sl u) es key []) none):=by
   rw[List.getElem?_set_self (by simpa [A3,Ay]using hk)]
  have hJ:(BS tk.ty (.sl u) es key [])[es.length]?=some (key,[]):=by rw[h3];simp
  have AzZ:(g'.AU k).a=some ⟨b,0,none⟩:=by rw[st'.AU k hk];exact MR
  have hh':w'.heap[b]?=some (.map (Gs.push {key:=DT tk.ty key,val:=.slice none 0 0,born:=De}) (De+1)):=by
   rw[hw];simp[Bj]
  have Ks:Gs.size=es.length:=by rw[<-hl];simp
  have hm:(Gs.push {key:=DT tk.ty key,val:=.slice none 0 0,born:=De})[es.length]?=some {key:=DT tk.ty key,val:=.slice none 0 0,born:=De}:=by
   rw[<-Ks];simp
  obtain⟨nU,_,g1,H1,Qc,ub,_⟩:=Ag8 H' p9 hu hJ AzZ hh' hm;have lV:((Blk.Gg (A8 [k] bs) []).set k (Blk.map .Ai tk.ty (.sl u) (BS tk.ty (.sl u) es key []) none)).length=bs.length:=by simp[A3,Ay]
  rw[lV]at ub Qc;rw[fw]at H1;have Oa:=st'.trans Qc (AG1 _);refine⟨.slice none 0 0,w',g1,?_,by rw[hg];exact H1,ub,⟨Oa.os,Oa.tape,Oa.output,Oa.size,Oa.no,Oa.H8,λb k' p h1 h2 h3=>Oa.BG b k' p h1 h2 (by simpa using h3),Oa.AU⟩⟩;have nU:De=es.length:=nU;rw[uc,df,hw];simp[Instr.mapEntry,underlying,Qm,MapKept.run_getObj_map hh,(K TW).check,hf,hz,MapKept.run_setObj_map _ hh,oe,nU,goInt]
variable {P:Program} {σ:St} {o:Oper} {en:Bd} {e:G2}
theorem Af1{t:TypeId}{m x:Operand}(ho:o.op=.mapEntry t m x){ti tk te:TI}(ht:EA P t ti)(gY:ti.Nj≠0)(D1:EA P ti.elem te)(K:tk.ty.D5=true->eZ P ti.Nj tk.ty)
    (h:vD σ.Am tk te (σ.B5 m) (σ.B5 x) some=some e):MP P σ o e:=by
 unfold vD at h;split at h
 ·rename_i k hm;split at h
  ·rename_i kt u es hb;split at h
   ·rename_i key hx;split at h
    ·rename_i hc;obtain⟨rfl,hvt,TW,hu⟩:=hc;injection h with h;subst h;refine⟨by simp[Ay],λh=>(by cases h),λa w g BH next Q hn=>?_⟩
     have hAm:=AO BH m;rw[hm]at hAm;obtain⟨v,w',g',DR,hH,ub,st⟩:=AzH BH.heap hb hx hAm (AO BH x) ht gY D1 hvt TW hu K;have W2:(execOp a.eval o).run P w=.ok (.value (.tuple #[v,.int .i64 (TP tk.ty (.sl u) es key:Nat)])) w':=by
      simp[execOp,ho,DR]
     unfold Oper.wp;rw[W2];have R9:((A8 [k] σ.Am).set k (Blk.map .Ai tk.ty (.sl u) (BS tk.ty (.sl u) es key (Bh tk.ty (.sl u) es key)) (some key))++[Blk.row 0 .Ai u (Bh tk.ty (.sl u) es key)]).length=σ.Am.length+1:=by simp[Ay]
     refine hn _ w' g' hH ?_ st;rw[R9];have hr:=(BR.iff (a:=.Ak σ.Am.length) rfl).1 ub;exact⟨[v,.int .i64 (TP tk.ty (.sl u) es key:Nat)],rfl,v,[.int .i64 (TP tk.ty (.sl u) es key:Nat)],rfl,hr,_,[],rfl,.inr ⟨[.int .i64 (TP tk.ty (.sl u) es key:Nat)],⟨λ_ h=>(by cases h),rfl⟩,rfl⟩,rfl⟩
    ·cases h
   ·cases h
  ·cases h
 ·cases h
theorem Aem{w:World}{g:G}{n:Nat}:∀{kt:Ty} {x:kt.V},kt.D5=true->BR w g n (.AA [] kt x) (DT kt x):=by
 intro kt x hk;have key:∀cs,G1 w (Al g.own []) kt x cs->Bv kt.isAgg cs (DT kt x)->BR w g n (.AA [] kt x) (DT kt x):=λcs h1 h2=>Bn (cs:=cs) rfl ⟨λ_ h=>(by cases h),h1⟩ h2
 match kt,x,hk with
 |.int q,x,_=>exact key [.int q x] rfl rfl
 |.str,x,_=>exact key [.string x] rfl rfl
 |.Au (.int q) (.Au (.int q') .unit),x,_=>exact key [.int q x.1,.int q' x.2.1] ⟨[_],[_],rfl,rfl,[_],[],rfl,rfl,rfl⟩ rfl
theorem AcV{t:TypeId}{m j v:Operand}(ho:o.op=.entryStore t m j v){ti tk te:TI}(ht:EA P t ti)(gY:ti.Nj≠0)(K:tk.ty.D5=true->eZ P ti.Nj tk.ty)
    (h:vE σ.Am tk te (σ.B5 m) (σ.B5 j) (σ.B5 v) some=some e):MP P σ o e:=by
 unfold vE at h;split at h
 ·rename_i k hm;split at h
  ·rename_i md kt vt es key hb;split at h
   ·rename_i n hj;split at h
    ·rename_i hc;obtain⟨hkt,TW⟩:=hc;subst hkt;obtain⟨hn,hmh,h⟩:n=Int.ofNat (TP tk.ty vt es key)/\Ry tk.ty vt es key=true/\YU σ.Am tk te (σ.B5 m) (.AA [] tk.ty key) (σ.B5 v) some=some e:=by
      cases hq:T8 tk.ty vt es key n with
      |false=>rw[hq]at h;cases h
      |true =>
       rw[hq,AHb]at h;simp only[T8,AG2,beq_iff_eq]at hq;exact⟨hq.1,hq.2,h⟩
     obtain⟨s1,s2⟩:=eR h;refine⟨by rw[s2];exact AG1 _,λh=>(s1 h).elim,λa w g BH next Q hnx=>?_⟩
     have hAm:=AO BH m;rw[hm]at hAm h;obtain⟨h1,h2,h3,w',g',DR,hH,st⟩:=AmO BH.heap hAm (Aem TW) (AO BH v) ht gY K h;obtain⟨hk,b,MR,uc⟩:=b6 hAm;obtain⟨PZ,b',Gs,De,ha,Ce,hh,QJ,di⟩:=BH.heap.Lf k _ hb;rw[MR]at ha;injection ha with ha;injection ha with ha;subst ha;have hjv:a.eval j=.int .i64 n:=dv (kt:=.int .i64) BH.heap rfl hj (AO BH j);have Qm:=ht.mp gY;have W2:(execOp a.eval o).run P w=.ok .skip w':=by
      rcases Yr (K TW) di key with ⟨J,x,mm,h1',h2',h3',nR,h5',h6',h7',⟨h8,h8b⟩,hf⟩|⟨_,h2',_,_⟩
      ·have hJ:es[J]?=some (key,x.2):=by rw[h1',<-h2']
       have oe:TP tk.ty vt es key=J:=kJ hJ (UH TW) nR;rw[oe]at hn;rw[uc]at DR;simp[Instr.mapUpdate,underlying,Qm,MapKept.run_getObj_map hh,(K TW).check,hf,h3',h8,(K TW).stays,MapKept.run_setObj_map _ hh]at DR;have hJl:J<Gs.size:=by
        have:=AP (show Gs.toList[J]?=some mm by rw[AG9];exact h3');simpa using this
       have AAe:Gs.findIdx? (λe=>(e.born:Int)==n)=some J:=by
        rw[Array.findIdx?_eq_some_iff_getElem];have hbn:∀i (h:i<Gs.size),Gs[i].born=i:=λi hi=>by
         have rB:i<es.length:=by rw[<-di.len];simpa using hi
         obtain⟨m',q1,⟨_,q2⟩,_⟩:=di.get (List.getElem?_eq_getElem rB);rw[AG9,Array.getElem?_eq_getElem hi]at q1;injection q1 with q1;rw[q1,q2];omega
        refine⟨hJl,by rw[hbn,hn];simp,λi hi=>?_⟩;rw[hbn,hn];simp;omega
       have Abs:Gs.modify J (λe=>{e with val:=a.eval v})=Gs.modify J (λe=>{e with key:=DT tk.ty key,val:=a.eval v}):=by
        apply Array.ext_getElem?;intro i;rw[Array.getElem?_modify,Array.getElem?_modify];split
        ·rename_i e;subst e;rw[h3'];simp[h8]
        ·rfl
       simp[execOp,ho,uc,hjv,Instr.entryStore,asInt,asIntOf,MapKept.run_getObj_map hh,AAe,MapKept.run_setObj_map _ hh,Abs,DR]
      ·simp[Ry,h2']at hmh
     unfold Oper.wp;rw[W2];exact hnx undef w' g' hH (by rw[h3];exact PX) st
    ·cases h
   ·cases h
  ·cases h
 ·cases h
end
section
variable {P:Program} {σ:St} {o:Oper}
def r7:TypeDesc->Bool
 |.int _=>true
 |.bool=>true
 |.string=>true
 |_=>false
theorem dO{t:TypeId}{d:TypeDesc}(hu:P.underlying t=some d)(hd:r7 d=true){w:World}{cs:Array Value}{i:Nat}{v:Value}(h:cs[i]?=some v):(part t cs i).run P w=.ok v w:=by
 cases d<;>simp[r7]at hd<;>simp[part,isAgg,underlying,hu,h]
theorem tK(d:Nat)(w:World):∀(t:Ty) (p q:List Value) (fs:List Field) (u v:t.V) (n:Nat),p.length=n->q.length=n->T9 P t n fs=true->(Op.eqFields (d+1) (p++J4 t u).toArray (q++J4 t v).toArray fs).run P w=.ok (O2 t u v) w
 |.unit,p,q,[],u,v,n,_,_,_=>by simp[Op.eqFields,O2]
 |.Au a b,p,q,f::fs,u,v,n,hp,hq,h=>by
  simp only[T9,AG2,bne_iff_ne,beq_iff_eq]at h;obtain⟨⟨⟨h1,h2⟩,h3⟩,h4⟩:=h;have key:∀(x y:Value) (r:Bool) (dd:TypeDesc),J4 a u.1=[x]->J4 a v.1=[y]->P.underlying f.type=some dd->r7 dd=true ->
      (Op.equalIn (d+1) f.type x y).run P w=.ok r w->r=O2 a u.1 v.1->(Op.eqFields (d+1) (p++J4 (.Au a b) u).toArray (q++J4 (.Au a b) v).toArray (f::fs)).run P w=.ok (O2 (.Au a b) u v) w:=by
   intro x y r dd hx hy hu hd he hr;have ih:=tK d w b (p++[x]) (q++[y]) fs u.2 v.2 (n+1) (by simp[hp]) (by simp[hq]) h4;have ex:p++J4 (.Au a b) u=p++[x]++J4 b u.2:=by simp[J4,hx]
   have ey:q++J4 (.Au a b) v=q++[y]++J4 b v.2:=by simp[J4,hy]
   rw[ex,ey];have px:(part f.type (p++[x]++J4 b u.2).toArray n).run P w=.ok x w:=dO hu hd (by simp[<-hp]);have py:(part f.type (q++[y]++J4 b v.2).toArray n).run P w=.ok y w:=dO hu hd (by simp[<-hq]);simp only[Op.eqFields,h1,ne_eq,not_false_eq_true,if_true,Sem.run_bind,h2,px,py,Result.andThen_ok,he];subst hr;cases hq:O2 a u.1 v.1 with
   |false=>simp[O2,hq]
   |true=>simp only[Bool.not_true,Bool.false_eq_true,if_false];rw[ih];simp[O2,hq]
  split at h3
  ·rename_i k k' hu;rw[beq_iff_eq]at h3;subst h3;exact key _ _ _ _ rfl rfl hu rfl (ZX hu d w _ _) rfl
  ·rename_i hu;exact key _ _ _ _ rfl rfl hu rfl (by simp[Op.equalIn,underlying,hu];rfl) rfl
  ·rename_i hu;exact key _ _ _ _ rfl rfl hu rfl (by simp[Op.equalIn,underlying,hu]) pK.symm
  ·cases h3
 |.unit,_,_,_::_,_,_,_,_,_,h=>by simp[T9]at h
 |.Au _ _,_,_,[],_,_,_,_,_,h=>by simp[T9]at h
 |.int _,_,_,_,_,_,_,_,_,h=>by simp[T9]at h
 |.bool,_,_,_,_,_,_,_,_,h=>by simp[T9]at h
 |.str,_,_,_,_,_,_,_,_,h=>by simp[T9]at h
 |.sl _,_,_,_,_,_,_,_,_,h=>by simp[T9]at h
 |.P3 _,_,_,_,_,_,_,_,_,h=>by simp[T9]at h
theorem gM:∀{t:Ty} {n:Nat} {fs:List Field},T9 P t n fs=true->t.BD=true/\t.isAgg=true
 |.unit,_,[],_=>⟨rfl,rfl⟩
 |.Au a b,n,f::fs,h=>by
  simp only[T9,AG2]at h;obtain⟨⟨_,h3⟩,h4⟩:=h;have:=(gM h4).1;refine⟨?_,rfl⟩;split at h3<;>first |(cases h3;done)|simp[Ty.BD,this]
 |.unit,_,_::_,h=>by simp[T9]at h
 |.Au _ _,_,[],h=>by simp[T9]at h
 |.int _,_,_,h=>by simp[T9]at h
 |.bool,_,_,h=>by simp[T9]at h
 |.str,_,_,h=>by simp[T9]at h
 |.sl _,_,_,h=>by simp[T9]at h
 |.P3 _,_,_,h=>by simp[T9]at h
theorem Af2{A7:sZ}(ht:au P A7=true){op:BinOp}{t yt:TypeId}{x y:Operand}(ho:o.op=.binOp op t x y yt){z:AV}(h:eqS σ.Am A7 op t (σ.B5 x) (σ.B5 y)=some z):MP P σ o ⟨z,σ.Am,[]⟩ :=
 .H9 <| KP (s:=λρ=>do eqGuard op t x y (ρ x) (ρ y);binOp op t (ρ x) (ρ y)) (λρ=>by simp[execOp,ho]) λa w g BH=>by
  unfold eqS at h;split at h
  ·rename_i ti hti;split at h
   ·rename_i he;have hT:=EA.of ht hti;have heq:=hT.eqs he;unfold AaU at heq;split at heq
    ·rename_i fs hu;simp only[AG2,Bool.not_eq_true']at heq;obtain⟨⟨h1,h2⟩,h3⟩:=heq;have hF:P.fieldsOf t=fs:=by simp[Program.fieldsOf,hu]
     obtain⟨AwC,nT⟩:=gM h3;have get:∀(X:Operand) (u:ti.ty.V),rd σ.Am ti.ty (σ.B5 X)=some u->a.eval X=.agg (J4 ti.ty u).toArray:=λX u hr=>by
      obtain⟨q1,q2⟩:=TS hr;obtain⟨cs,RN,hv⟩:=BO q1 q2 (AO BH X);rw[XM hr,nT]at hv;have:=(G1.BD AwC).1 (Pm BH.heap _ _ u cs hr RN).1;subst this;exact hv
     have run:∀u v:ti.ty.V,(Op.equalIn 10000 t (.agg (J4 ti.ty u).toArray) (.agg (J4 ti.ty v).toArray)).run P w=.ok (O2 ti.ty u v) w:=λu v=>by
      rw[show(10000:Nat)=9999+1 from rfl,run_equalIn_struct w 9999 t _ _ (by rw[hF];exact hu) h1,hF];have:=tK (P:=P) 9998 w ti.ty [] [] fs.toList u v 0 rfl rfl h3;simpa using this
     split at h
     ·split at h
      ·rename_i u v hx hy;injection h with h;subst h;refine⟨.bool (O2 ti.ty u v),?_,YB _⟩;simp only[get x u hx,get y v hy,Sem.run_bind,run_eqGuard_agg w .eql t x y _ _ h2,Result.andThen_ok,run_eql_struct,run]
      ·cases h
     ·split at h
      ·rename_i u v hx hy;injection h with h;subst h;refine⟨.bool (!O2 ti.ty u v),?_,YB _⟩;simp only[get x u hx,get y v hy,Sem.run_bind,run_eqGuard_agg w .neq t x y _ _ h2,Result.andThen_ok,run_neq_struct,run]
      ·cases h
     ·cases h
    ·cases heq
   ·cases h
  ·cases h
end
structure EnvOk (P:Program) (en:Bd):Prop where
 A7:au P en.A7=true
 fns:∀g c,en.fns g=some c->As P g c
theorem EnvOk.W9{P:Program}{en:Bd}(h:EnvOk P en):WT en:=λg c hc=>(h.fns g c hc).W9
section
variable {P:Program} {σ:St} {o:Oper} {en:Bd} {e:G2}
theorem EnvOk.t(he:EnvOk P en){t:Nat}{ti:TI}(h:en.A7.get t=some ti):EA P t ti:=EA.of he.A7 h
theorem gw{w:World}{g:G}{a:Act}(hs:JZ w g σ a):∀(l:List Operand),Dd w g σ.Am.length (l.map σ.B5) (l.map a.eval)
 |[]=>trivial
 |x::l=>⟨AO hs x,gw hs l⟩
theorem gv{w:World}{g:G}{n:Nat}:∀{l k:List AV} {xs ys:List Value},Dd w g n l xs->Dd w g n k ys->Dd w g n (l++k) (xs++ys)
 |[],_,[],_,_,h=>h
 |_::_,_,_::_,_,h1,h2=>⟨h1.1,gv h1.2 h2⟩
 |[],_,_::_,_,h,_=>h.elim
 |_::_,_,[],_,h,_=>h.elim
theorem Agy{w:World}{g:G}{n:Nat}:∀{a:AV} {vs:List Value},Cq w g n true a vs->Dd w g n (tF a) vs
 |.cons a b,_,⟨v,r,e,h1,h2⟩=>by
  subst e;refine⟨?_,Agy h2⟩;have ht:a.CZ=false:=by
   rcases h1 with h |⟨cs,h,_⟩
   ·cases a<;>first |rfl |simp[AV.MX]at h
   ·exact TQ h
  exact(BR.iff ht).2 h1
 |.nil,_,h=>by cases h;trivial
 |.R1 _ _ _ _ _,_,h=>h.elim
 |.TR _ _ _ _ _ _,_,h=>h.elim
 |.AA _ _ _,_,h=>h.elim
 |.zs,_,h=>h.elim
 |.Ak _,_,h=>h.elim
 |.mp _,_,h=>h.elim
 |.ptr _ _ _ _,_,h=>h.elim
 |.Eh _ _ _,_,h=>h.elim
 |.Lw,_,h=>h.elim
 |.pr _ _,_,h=>h.elim
 |.fn _ _,_,h=>h.elim
 |.un _,_,h=>h.elim
theorem AcT(he:EnvOk P en){c:Call}(ho:o.op=.call c){fo:Operand}(hc:c.callee=.value fo){g0:Nat}{WW:AV}(hf:σ.B5 fo=.fn g0 WW){ca:Callee}(hg:en.fns g0=some ca)(h:cq ca σ.Am (Oj σ c.args++tF WW) some=some e):MP P σ o e:=by
 obtain⟨h1,h2,h3⟩:=vq (he.fns _ _ hg) h;refine⟨h1,h2,λa w g hs next Q hn=>?_⟩
 have hv:=AO hs fo;rw[hf]at hv;obtain⟨cs,⟨vs,e1,hx⟩,RN⟩:=BO rfl rfl hv;have e2:a.eval fo=.func (.func g0) #[] vs.toArray:=by
  subst e1;simpa [Bv,AV.isAgg]using RN.symm
 have hr:(execOp a.eval o).run P w=(callFunc g0 (c.args.toList.map a.eval++vs).toArray).run P w:=by
  have:(c.args.toList.map a.eval++vs).toArray=#[]++c.args.map a.eval++vs.toArray:=by
   apply Array.toList_inj.1;simp
  rw[this];simp[execOp,ho,resolve,hc,e2,Deferred.ofValue,invoke]
 unfold Oper.wp;rw[hr];exact h3 w g _ hs.heap (gv (gw hs _) (Agy hx)) o a next Q hn
theorem gL(he:EnvOk P en){ti:TI}(u:Ty)(h:(match en.A7.get ti.elem with |some te=>if ti.D4=true then some te.ty else none |none=>none)=some u):ti.D4=true/\∃ff,ff.ty=u/\EA P ti.elem ff:=by
 split at h
 ·rename_i te D1;split at h
  ·rename_i Iz;injection h with h;exact⟨Iz,te,h,he.t D1⟩
  ·cases h
 ·cases h
theorem AcW{t:TypeId}{x i:Operand}(ho:o.op=.indexAddr t x i){ti te:TI}(ht:EA P t ti)(D1:EA P ti.elem te)(Iz:ti.D4=true){k:Nat}{i0:Int}{p:List Nat}{f e0:Nat}(hx:σ.B5 x=.R1 k i0 p f e0){ks:List Nat}{kk:IntKind}{j:Int}(hi:σ.B5 i=.AA ks (.int kk) j)
    {ek:Nat} {tr:Ty} {xs:List tr.V} (hb:σ.Am[k]?=some (.row ek .Ai tr xs)) {ys:List te.ty.V} (hg:cX (.sl te.ty) p tr (xs.getD i0.toNat tr.zero)=some ys) {x':tr.V} (hs:Re (.sl te.ty) [] p tr (xs.getD i0.toNat tr.zero)=some x')
    (hu:te.ty.size≠0) (gZ:KO tr p=some f) (hj:0<=j/\j<(ys.length:Int)):MP P σ o ⟨.TR k i0 p f j te.ty,σ.Am,[]⟩ :=
 .H9 <| KP (s:=λρ=>Instr.indexAt t (ρ x) (ρ i)) (λρ=>by simp[execOp,ho]) λa w g BH=>by
  have Vl:=AO BH x;rw[hx]at Vl;have hii:=AO BH i;rw[hi]at hii;have hii:=Dc hii;obtain⟨cs,⟨hk,h0,h1,b,v,MR,Ce,e1,e2,CY⟩,hval⟩:=BO rfl rfl Vl;subst e1;have hv:a.eval x=v:=by
   have:[v]=[a.eval x]:=hval;injection this with h _;exact h.symm
  obtain⟨g1,H1,Qc,rz,_,_⟩:=Wx BH.heap hb h1 hg gZ hu MR CY hs;obtain⟨_,hvs⟩:=FJ rz;obtain⟨_,AgJ,AwA,_,Z3⟩:=H1.Lf σ.Am.length (.row 0 .Ai te.ty ys) (by rw[AHh (by simp[Ay])];simp[Ay]);have Bj:j.toNat<ys.length:=Us hj;rcases Z3 with ⟨Vk,_⟩|⟨b',Bs,ds,ha,_⟩
  ·subst Vk;simp at Bj
  ·rw[ha,AgJ]at hvs;have Qm:=BB ht Iz;refine⟨.pointer (some ⟨b',j.toNat*te.ty.size,none⟩),?_,Bn (cs:=[_]) rfl ⟨hk,h0,h1,b,b',_,_,MR,Ce,rfl,⟨hj.1,Bj⟩,by rw[CY,hvs]⟩ (by simp[Bv,AV.isAgg])⟩;rw[hv,hii,hvs];simp[Instr.indexAt,asIntOf,underlying,Qm,hj.1,hj.2,Dn D1,WV]
theorem eA{t:TypeId}{x i:Operand}(ho:o.op=.indexAddr t x i){ti te:TI}(ht:EA P t ti)(D1:EA P ti.elem te)(Iz:ti.D4=true){z:AV}(h:oA σ.Am te.ty (σ.B5 x) (σ.B5 i) some=some z):MP P σ o ⟨z,σ.Am,[]⟩:=by
 unfold oA at h;split at h
 ·rename_i k i0 p f e0 ks kk j hx hi;split at h
  ·rename_i ek tr xs hb;split at h
   ·rename_i ys x' hg hs;split at h
    ·rename_i hc;split at h
     ·rename_i hj;injection h with h;subst h;exact AcW ho ht D1 Iz hx hi hb hg hs hc.1 hc.2 hj
     ·cases h
    ·cases h
   ·cases h
  ·cases h
 ·exact ga ho ht D1 Iz h
theorem Zk(he:EnvOk P en)(h:P8 en σ o some=some e):MP P σ o e:=by
 unfold P8 at h
 dsimp only at h
 split at h
 ·rename_i x ho;injection h with h;subst h;exact pw (.inl ho)
 ·rename_i x ho;injection h with h;subst h;exact pw (.inr ho)
 ·rename_i c a b ho;split at h
  ·rename_i ks t hc;have:=Ac5 (P:=P) ho hc;cases t
   ·injection h with h;subst h;exact this
   ·injection h with h;subst h;exact this
  ·cases h
 ·rename_i el ho;split at h
  ·rename_i ti ht;injection h with h;subst h;exact wY ho (he.t ht)
  ·cases h
 ·rename_i el x ho;split at h
  ·rename_i ht;injection h with h;subst h;exact AfZ ho ht
  ·cases h
 ·rename_i t FC ho;split at h
  ·rename_i ti ht;split at h
   ·cases h
   ·rename_i gZ;split at h
    ·rename_i v hv;injection h with h;subst h;exact w5 ho (he.t ht) (λe=>gZ (by rw[e];rfl)) hv
    ·cases h
  ·cases h
 ·rename_i t len FC ho;split at h
  ·rename_i ti ht;split at h
   ·rename_i te D1;split at h
    ·rename_i m xs rs hp;split at h
     ·rename_i hc;obtain⟨h1,h2⟩:=eu ho (he.t ht) (he.t D1) hp hc;split at h
      ·rename_i h0;injection h with h;subst h;exact h1 h0
      ·rename_i h0;injection h with h;subst h;exact h2 h0
     ·cases h
    ·cases h
   ·cases h
  ·cases h
 ·rename_i t x ho;split at h
  ·rename_i ti ht;split at h
   ·split at h
    ·rename_i Iz;exact xe ho (he.t ht) Iz h
    ·cases h
   ·obtain⟨z,hz,rfl⟩:=Vq (f:=λR K=>W8 σ.Am ti (σ.B5 x) K) (λR K=>iw ..) (g:=λv=>⟨v,σ.Am,[]⟩) h;exact AcZ ho (he.t ht) hz
  ·cases h
 ·rename_i t r ho;split at h
  ·rename_i ti ht;split at h
   ·cases h
   ·rename_i hr;split at h
    ·rename_i tk te W5 D1;split at h
     ·injection h with h;subst h;have:r=none:=by cases r<;>simp_all
      subst this;exact pq ho (SI _ _)
     ·cases h
    ·cases h
  ·cases h
 ·rename_i t m x ok ho;split at h
  ·rename_i ti ht;split at h
   ·rename_i tk te W5 D1;split at h
    ·rename_i hc;split at h
     ·split at h
      ·cases h
      ·rename_i Zs;have:ok=false:=by simpa using Zs
       subst this;exact xc ho (he.t ht) hc.1 (he.t D1) hc.2.1 (λhk=>eZ.of he.A7 (he.t W5) hk hc.2.2) h
     ·obtain⟨z,hz,rfl⟩:=Vq (f:=λR K=>af σ.Am tk te ok (σ.B5 m) (σ.B5 x) K) (λR K=>ix ..) (g:=λv=>⟨v,σ.Am,[]⟩) h;exact Ac0 ho (he.t ht) hc.1 (he.t D1) hc.2.1 (λhk=>eZ.of he.A7 (he.t W5) hk hc.2.2) hz
    ·cases h
   ·cases h
  ·cases h
 ·rename_i t m x v ho;split at h
  ·rename_i ti ht;split at h
   ·rename_i tk te W5 D1;split at h
    ·rename_i hc;exact uO (.inl ho) (he.t ht) hc.1 (λhk=>eZ.of he.A7 (he.t W5) hk hc.2.2) h
    ·cases h
   ·cases h
  ·cases h
 ·rename_i t m x v ho;split at h
  ·rename_i ti ht;split at h
   ·rename_i tk te W5 D1;split at h
    ·rename_i hc;exact uO (.inr ho) (he.t ht) hc.1 (λhk=>eZ.of he.A7 (he.t W5) hk hc.2.2) h
    ·cases h
   ·cases h
  ·cases h
 ·rename_i t m x ho;split at h
  ·rename_i ti ht;split at h
   ·rename_i tk te W5 D1;split at h
    ·rename_i hc;exact Af1 ho (he.t ht) hc.1 (he.t D1) (λhk=>eZ.of he.A7 (he.t W5) hk hc.2) h
    ·cases h
   ·cases h
  ·cases h
 ·rename_i t m x v ho;split at h
  ·rename_i ti ht;split at h
   ·rename_i tk te W5 D1;split at h
    ·rename_i hc;exact AcV ho (he.t ht) hc.1 (λhk=>eZ.of he.A7 (he.t W5) hk hc.2) h
    ·cases h
   ·cases h
  ·cases h
 ·rename_i t x v ho;split at h
  ·rename_i ti ht;exact xf ho (he.t ht) h
  ·cases h
 ·rename_i x ho;split at h
  ·rename_i k i p q hx;injection h with h;subst h;rw[<-hx];exact YQ ho λw g n v hv=>by rw[hx]at hv;exact kM hv
  ·rename_i ks t y hx;injection h with h;subst h;rw[<-hx];exact YQ ho λw g n v hv=>by rw[hx]at hv;exact kN hv
  ·cases h
 ·rename_i op t x y yt ho;split at h
  ·rename_i z hz;injection h with h;subst h;exact Af2 he.A7 ho hz
  obtain⟨z,hz,rfl⟩:=Vq (f:=λR K=>jF op (match en.A7.get t with |some ti=>ti.ty==.bool |none=>false) (σ.B5 x) (σ.B5 y) K) (λR K=>mA ..) (g:=λv=>⟨v,σ.Am,[]⟩) h
  refine wZ ho (λhb=>?_) hz;split at hb
  ·rename_i ti ht;exact qV (he.t ht) (by simpa using hb)
  ·cases hb
 ·rename_i op t x ho;obtain⟨z,hz,rfl⟩:=Vq (f:=λR K=>unA op (σ.B5 x) K) (λR K=>uV ..) (g:=λv=>⟨v,σ.Am,[]⟩) h;exact Ac6 ho hz
 ·rename_i s t x ho;split at h
  ·rename_i ts ti V1 ht;obtain⟨z,hz,rfl⟩:=Vq (f:=λR K=>Yg σ.Am (match en.A7.get ts.elem with |some te=>if ts.D4=true then some te.ty else none |none=>none) ti.ty (σ.B5 x) K) (λR K=>gF ..) (g:=λv=>⟨v,σ.Am,[]⟩) h
   exact pn ho (he.t V1) (he.t ht) (gL he) hz
  ·cases h
 ·rename_i fn first WW ho
  split at h
  ·split at h
   ·rename_i h0;injection h with h;subst h;exact lf ho h0
   ·cases h
  ·cases h
 ·rename_i t l c ho;split at h
  ·rename_i ti ht;split at h
   ·rename_i te D1;split at h
    ·rename_i Iz;exact Ac1 ho (he.t ht) (he.t D1) Iz h
    ·cases h
   ·cases h
  ·cases h
 ·rename_i t x lo hi mx ho;split at h
  ·rename_i d ti hd ht;split at h
   ·split at h
    ·split at h
     ·rename_i Iz;split at h
      ·rename_i te D1;exact Af0 ho (he.t ht) Iz (he.t D1) h
      ·cases h
     ·cases h
    ·cases h
   ·obtain⟨z,hz,rfl⟩:=Vq (f:=λR K=>UO σ.Am ti (match en.A7.get ti.elem with |some te=>if ti.D4=true then some te.ty else none |none=>none) (σ.B5 x) (lo.map σ.B5) (hi.map σ.B5) (mx.map σ.B5) K) (λR K=>ei ..) (g:=λv=>⟨v,σ.Am,[]⟩) h
    exact xd ho (he.t ht) (gL he) hz
  ·cases h
 ·rename_i t x f ho;split at h
  ·rename_i ti ht;obtain⟨z,hz,rfl⟩:=Vq (f:=λR K=>fz ti f (σ.B5 x) K) (λR K=>nJ ..) (g:=λv=>⟨v,σ.Am,[]⟩) h;exact fZ ho (he.t ht) hz
  ·cases h
 ·rename_i t x i ho;split at h
  ·rename_i ti ht;split at h
   ·rename_i te D1;split at h
    ·rename_i Iz;obtain⟨z,hz,rfl⟩:=Vq (f:=λR K=>oA σ.Am te.ty (σ.B5 x) (σ.B5 i) K) (λR K=>oB ..) (g:=λv=>⟨v,σ.Am,[]⟩) h;exact eA ho (he.t ht) (he.t D1) Iz hz
    ·cases h
   ·cases h
  ·cases h
 ·rename_i t x i ho;split at h
  ·rename_i ti ht;split at h
   ·rename_i hs;obtain⟨z,hz,rfl⟩:=Vq (f:=λR K=>jK (σ.B5 x) (σ.B5 i) K) (λR K=>na ..) (g:=λv=>⟨v,σ.Am,[]⟩) h;exact w9 ho (he.t ht) hs hz
   ·cases h
  ·cases h
 ·rename_i x i ho;split at h
  ·rename_i v hv;split at h
   ·cases h
   ·rename_i ht;injection h with h;subst h;exact po ho hv (by simpa using ht)
  ·cases h
 ·rename_i c ho;unfold Ub at h;split at h
  ·rename_i hc;split at h
   ·rename_i x t r hx V1;split at h
    ·rename_i ti ht;obtain⟨z,hz,rfl⟩:=Vq (f:=λR K=>kF σ.Am ti x K) (λR K=>oL ..) (g:=λv=>⟨v,σ.Am,[]⟩) h;exact Af3 ho hc hx V1 (he.t ht) hz
    ·cases h
   ·cases h
  ·rename_i hc;split at h
   ·rename_i x y hx;obtain⟨z,hz,rfl⟩:=Vq (f:=λR K=>xG false x y K) (λR K=>bq ..) (g:=λv=>⟨v,σ.Am,[]⟩) h;exact Ac2 (mx:=false) ho hc hx hz
   ·cases h
  ·rename_i hc;split at h
   ·rename_i x y hx;obtain⟨z,hz,rfl⟩:=Vq (f:=λR K=>xG true x y K) (λR K=>bq ..) (g:=λv=>⟨v,σ.Am,[]⟩) h;exact Ac2 (mx:=true) ho hc hx hz
   ·cases h
  ·rename_i hc;split at h
   ·rename_i x y t tx hx V1;split at h
    ·rename_i ti ZP ht qg;split at h
     ·rename_i te D1;split at h
      ·rename_i hk;rw[AG2]at hk;exact sq ho hc hx V1 (he.t ht) (he.t D1) hk.1 (he.t qg) hk.2 h
      ·split at h
       ·rename_i hk;rw[AG2]at hk;exact pj ho hc hx V1 (he.t ht) (he.t D1) hk.1 (he.t qg) hk.2 h
       ·cases h
     ·cases h
    ·cases h
   ·cases h
  ·cases h
  ·rename_i fo hc;split at h
   ·rename_i g0 WW hf;split at h
    ·rename_i ca hg;exact AcT he ho hc hf hg h
    ·cases h
   ·cases h
  ·cases h
 ·cases h
theorem Aa4{e':G2}{t:Ty}(h:MP P σ o e)(hf:Afe σ.Am.length t e=some e'):MP P σ o e':=by
 unfold Afe at hf;split at hf
 ·rename_i x hr;split at hf
  ·rename_i hN;injection hf with hf;subst hf;have hZ:∀k∈(e.val.RY e.Am).filter (λk=>!decide (k<σ.Am.length)),σ.Am.length<=k:=λk hk=>by
    have:=(List.mem_filter.1 hk).2;simpa using this
   refine⟨by rw[A3];exact h.grow,λhm=>?_,λa w g hs next Q hn=>h.wp a w g hs next Q λv w' g' H hv st=>?_⟩
   ·obtain⟨l,hl⟩:=h.ext hm;simp only;generalize (e.val.RY e.Am).filter (λk=>!decide (k<σ.Am.length))=Z at hZ;rw[hl];exact oJ Z _ _ hZ
   ·generalize hZe:(e.val.RY e.Am).filter (λk=>!decide (k<σ.Am.length))=Z at hZ hn;refine hn v w' (g'.UX Z) (vL H hN Z) ?_ ⟨st.os,st.tape,st.output,st.size,λb hb h=>?_,λb h=>?_,λb k p h hk hm=>?_,λk hk=>st.AU k hk⟩
    ·rw[A3];obtain⟨h1,h2⟩:=TS hr;obtain⟨cs,RN,hv⟩:=BO h1 h2 hv;obtain⟨aF,Bj⟩:=Pm H t e.val x cs hr RN;refine Bn (a:=.AA _ t x) rfl ⟨λk hk=>Bj k (List.mem_filter.1 hk).1,aF.mono λb a=>⟨a.Rj.mono λk hk=>?_,rfl⟩⟩ (by rw[show(AV.AA _ t x).isAgg=e.val.isAgg from(XM hr).symm];exact hv);subst hZe;simp only[List.mem_filter,Bool.not_eq_true',decide_eq_false_iff_not,decide_eq_true_eq]at hk⊢;refine⟨hk.1,?_⟩;rcases AG6 k σ.Am.length with h |h
     ·exact h
     ·exact absurd ⟨hk.1,by omega⟩ hk.2
    ·have:=st.no b hb h;exact⟨by simp[G.UX,this.1],this.2⟩
    ·have:=st.H8 b h;exact⟨ki this.1,this.2⟩
    ·have:=st.BG b k p h hk hm;exact⟨O3 this.1 λhz=>by have:=hZ k hz;omega,this.2⟩
  ·cases hf
 ·cases hf
def G.wT(g:G)(k:Nat):G:=⟨λb=>match g.own b with |.BG j r=>if j=k/\r≠[]then .H8 else .BG j r |t=>t,g.AU⟩
theorem I7.rdS{w:World}{own:Nat->Sf}{k:Nat}{A:Nat->Prop}(h:∀b q,q≠[]->own b=.BG k q->A b):∀{t:Ty} {L:List Nat} {x:t.V} {cs:List Value},L≠[]->I7 w own k t L x cs->G1 w A t x cs
 |.int _,_,_,_,_,r=>r
 |.bool,_,_,_,_,r=>r
 |.str,_,_,_,_,r=>r
 |.unit,_,_,_,_,r=>r
 |.Au _ _,_,_,_,_,⟨c,d,e,r1,r2⟩=>⟨c,d,e,I7.rdS h (by simp) r1,I7.rdS h (by simp) r2⟩
 |.sl t,L,xs,cs,hL,⟨ad,cap,e,r⟩=>by
  rcases r with ⟨hx,Zp⟩|⟨b,e1,Bs,ds,ha,ho,hh,h1,h2,h3,h4,hc⟩
  ·subst hx;exact⟨ad,cap,[],e,by simp,rfl,.inl rfl⟩
  ·refine⟨ad,cap,ds,e,h1,hc.toR λi x c r=>I7.rdS h (by simp) r,.inr ⟨b,0,ha,h b L hL ho,λj q hq=>?_⟩⟩;rw[OZ hh,AHr,<-AG9];subst h4;rw[List.getElem?_take]at hq;split at hq
   ·exact hq
   ·cases hq
 |.P3 _,_,_,_,_,r=>r.elim
theorem wU{e':G2}(h:MP P σ o e)(hf:uL σ.Am.length e=some e'):MP P σ o e':=by
 unfold uL at hf;split at hf
 ·rename_i k hval;split at hf
  ·rename_i hk;split at hf
   ·rename_i el t xs hb;injection hf with hf;subst hf;refine⟨by simpa using h.grow,λhm=>?_,λa w g hs next Q hn=>h.wp a w g hs next Q λv w' g' H hv st=>?_⟩
    ·obtain⟨l,hl⟩:=h.ext hm;simp only;rw[hl,List.set_append_right _ _ hk];exact⟨_,rfl⟩
    ·have hal:∀{ks:List Nat} {b:Nat},Al g'.own ks b->Al (g'.wT k).own ks b:=λ{ks b} ha=>by
       rcases ha with ha |⟨j,hj,r,ha⟩
       ·exact .inl (by simp[G.wT,ha])
       ·by_cases hc:j=k/\r≠[]
        ·exact .inl (by simp[G.wT,ha,hc])
        ·exact .inr ⟨j,hj,r,by simp only[G.wT,ha,AHe hc]⟩
     have P9:∀{b j:Nat},g'.own b=.BG j []->(g'.wT k).own b=.BG j []:=λ{b j} h=>by simp[G.wT,h]
     have ub:∀(a:AV) (m:Bool) {cs:List Value},Cq w' g' e.Am.length m a cs->Cq w' (g'.wT k) e.Am.length m a cs:=by
      intro a;induction a with
      |AA ks t x=>intro m cs hx;cases m with
       |false=>exact⟨hx.1,hx.2.mono λb a=>⟨hal a,rfl⟩⟩
       |true=>exact hx.elim
      |Eh ks t x=>intro m cs hx;cases m with
       |false =>
        obtain⟨hk,b,off,ds,e,ha,r,hc⟩:=hx;exact⟨hk,b,off,ds,e,hal ha,r.mono λb a=>⟨hal a,rfl⟩,hc⟩
       |true=>exact hx.elim
      |R1 k i p o e=>intro m cs hx;cases m with
       |false =>
        obtain⟨hk,h0,h1,b,v,ha,ho,e1,e2,hc⟩:=hx;exact⟨hk,h0,h1,b,v,ha,P9 ho,e1,e2,hc⟩
       |true=>exact hx.elim
      |TR k i p o j u=>intro m cs hx;cases m with
       |false =>
        obtain⟨hk,h0,h1,b,b',l,c,ha,ho,e1,e2,hc⟩:=hx;exact⟨hk,h0,h1,b,b',l,c,ha,P9 ho,e1,e2,hc⟩
       |true=>exact hx.elim
      |pr a b iha ihb=>intro m cs hx;cases m with
       |false =>
        obtain⟨c,d,e,h1,h2⟩:=hx;exact⟨c,d,e,iha false h1,ihb false h2⟩
       |true=>exact hx.elim
      |fn f c ih=>intro m cs hx;cases m with
       |false =>
        obtain⟨vs,e,hx⟩:=hx;exact⟨vs,e,ih true hx⟩
       |true=>exact hx.elim
      |cons a b iha ihb=>intro m cs hx;cases m with
       |true =>
        obtain⟨v,r,e,h1,h2⟩:=hx;exact⟨v,r,e,h1.imp id λ⟨cs,hx,hv⟩=>⟨cs,iha false hx,hv⟩,ihb true h2⟩
       |false=>exact hx.elim
      |_=>intro m cs hx;cases m<;>exact hx
     refine hn v w' (g'.wT k) ⟨λb hb=>by simp[G.wT,H.BN b hb],λj x hx=>?_⟩ ?_ ⟨st.os,st.tape,st.output,st.size,λb hb h=>?_,λb h=>?_,λb j p h hj hm=>?_,λj hj=>st.AU j hj⟩
     ·rw[AG4];rw[AHk]at hx;split at hx
      ·rename_i ek;subst ek;split at hx
       ·injection hx with hx;subst hx;obtain⟨PZ,hlen,OU,BF,hr⟩:=H.Lf k _ hb;cases qb:t.BD with
        |true=>exact⟨qb,hlen,OU,BF,hr.imp id λ⟨b,Bs,ds,ha,ho,hh,h1,h2,h3,h4,hc⟩=>⟨b,0,Bs,ds,ha,P9 ho,hh,h1,h2,by rw[AHr];exact h3,h4,Dm.2 ((Dm.1 hc).mono λi x c h=>(RR.BD qb).2 ((RR.BD qb).1 h))⟩⟩
        |false =>
        refine⟨λj hj=>(by cases hj),hlen,OU,BF,hr.imp id λ⟨b,Bs,ds,ha,ho,hh,h1,h2,h3,h4,hc⟩=>⟨b,Bs,ds,ha,P9 ho,hh,h1,h2,h3,h4,?_⟩⟩;exact hc.toR λi x c r=>I7.rdS (λb q hq hb=>.inl (by simp[G.wT,hb,hq])) (by simp) r
       ·cases hx
      ·rename_i I8;have hB:=H.Lf j x hx;cases x with
       |AH=>trivial
       |map m kt vt es st =>
        obtain⟨PZ,b,Gs,De,ha,ho,hh,QJ,hm⟩:=hB;refine⟨PZ,b,Gs,De,ha,P9 ho,hh,QJ,hm.on λi x c r=>?_⟩;cases m with
        |Ai =>
         refine I7.mono (λb q hb=>⟨?_,rfl⟩) r;have:¬(j=k/\q++[i]≠[]):=λhq=>I8 hq.1.symm;show(match g'.own b with |.BG j r=>if j=k/\r≠[]then Sf.H8 else .BG j r |t=>t)=_
         rw[hb];exact AHe this
        |sh ks=>exact G1.mono (λb a=>⟨hal a,rfl⟩) r
       |Qk e2 t xs i p =>
        obtain⟨h1,h2,h3,h4,h5,u,o,x0,b,Bs,ds,q1,q2,q3,ha,ho,hh,c1,c2,c3,c4,hc⟩:=hB;refine⟨h1,h2,h3,h4,h5,u,o,x0,b,Bs,ds,q1,q2,q3,ha,P9 ho,hh,c1,c2,c3,c4,hc.mono λi x c r=>r.mono λb q hb=>⟨?_,rfl⟩⟩;have:¬(j=k/\q++[i]≠[]):=λhq=>I8 hq.1.symm;show(match g'.own b with |.BG j r=>if j=k/\r≠[]then Sf.H8 else .BG j r |t=>t)=_
        rw[hb];exact AHe this
       |tail e2 t xs =>
        obtain⟨qb,hlen,OU,BF,hr⟩:=hB;exact⟨qb,hlen,OU,BF,hr.imp id λ⟨b,o,Bs,ds,ha,ho,hh,h1,h2,h3,h4,hc⟩=>⟨b,o,Bs,ds,ha,P9 ho,hh,h1,h2,h3,h4,Dm.2 ((Dm.1 hc).mono λi x c h=>(RR.BD qb).2 ((RR.BD qb).1 h))⟩⟩
       |box a =>
        obtain⟨h1,b,cs,e,ha,ho,hh,hx⟩:=hB;exact⟨h1,b,cs,e,ha,P9 ho,hh,ub a false hx⟩
       |row e2 m t xs =>
        obtain⟨PZ,hlen,OU,BF,hr⟩:=hB;refine⟨PZ,hlen,OU,BF,hr.imp id λ⟨b,Bs,ds,ha,ho,hh,h1,h2,h3,h4,hc⟩=>⟨b,Bs,ds,ha,P9 ho,hh,h1,h2,h3,h4,?_⟩⟩;cases m with
        |Ai =>
         refine hc.mono λi x c r=>r.mono λb q hb=>⟨?_,rfl⟩;have:¬(j=k/\q++[i]≠[]):=λhq=>I8 hq.1.symm;show(match g'.own b with |.BG j r=>if j=k/\r≠[]then Sf.H8 else .BG j r |t=>t)=_
         rw[hb];exact AHe this
        |sh ks=>exact hc.mono λx c r=>r.mono λb a=>⟨hal a,rfl⟩
     ·rw[AG4];rw[hval]at hv;obtain⟨hk1,aJ⟩:=FJ hv;rw[aJ];exact Bn (cs:=[_]) rfl ⟨hk1,rfl⟩ rfl
     ·have:=st.no b hb h;exact⟨by simp[G.wT,this.1],this.2⟩
     ·have:=st.H8 b h;exact⟨by simp[G.wT,this.1],this.2⟩
     ·have:=st.BG b j p h hj hm;have I8:¬(j=k/\p≠[]):=λhq=>by have:=hq.1;omega
      exact⟨by simp only[G.wT,this.1,AHe I8],this.2⟩
   ·cases hf
  ·cases hf
 ·cases hf
theorem Ac3{t:TypeId}{x:Operand}(ho:o.op=.load t x){ti:TI}(ht:EA P t ti)(Iz:ti.D4=true){k:Nat}{i:Int}{p:List Nat}{f e0:Nat}(hx:σ.B5 x=.ptr k i p f){el:Nat}{tr:Ty}{xs:List tr.V}(hb:σ.Am[k]?=some (.row el .Ai tr xs)){v:AV}(Rn:atP σ.Am k i p f=some v)(Ks:v.size=1):MP P σ o ⟨.R1 k i p f e0,σ.Am,[]⟩ :=
 .H9 <| KP (s:=λρ=>Instr.loadAt t (ρ x)) (λρ=>by simp[execOp,ho]) λa w g BH=>by
  have Vl:=AO BH x;rw[hx]at Vl;obtain⟨hk,h0,h1,b,MR,vX⟩:=KA Vl;obtain⟨PZ,hlen,OU,BF,hr⟩:=BH.heap.Lf k _ hb;obtain⟨cs,fD,CY⟩:=T2 BH.heap Rn h1 MR;have VW:ti.ty.size=1/\ti.ty.isAgg=false:=by
   unfold TI.D4 at Iz;split at Iz
   ·rename_i u hu;rw[hu];exact⟨rfl,rfl⟩
   ·cases Iz
  have hl:cs.length=ti.ty.size:=by rw[fD.len,Ks,VW.1]
  obtain⟨v1,aJ,hU⟩:=Q9 (w:=w) ht hl CY (λhg=>by rw[hl];exact VW.1);rw[VW.2]at hU;have RN:cs=[v1]:=hU;subst RN;rcases hr with ⟨Vk,_⟩|⟨b',Bs,ds,ha,Ce,_⟩
  ·rw[hlen,Vk]at h1;simp at h1
  ·rw[MR]at ha;injection ha with ha;injection ha with ha;subst ha;refine⟨v1,by rw[vX];simp[Instr.loadAt,Instr.sureAddr,aJ],Bn (cs:=[v1]) rfl ⟨hk,h0,h1,b,v1,MR,Ce,rfl,fD.one v1 (by simp),?_⟩ rfl⟩;have:=CY 0 v1 rfl;simpa using this
theorem uE{w:World}{g:G}{n k:Nat}{i:Int}{p:List Nat}{e b:Nat}(hk:k<n)(h0:0<=i)(h1:i.toNat<(g.AU k).len)(MR:(g.AU k).a=some ⟨b,0,none⟩)(Ce:g.own b=.BG k []){A:Nat->Prop} :
    ∀{t:Ty} {x:t.V} {f o:Nat} {z:AV} {cs:List Value},dL k i p e t x f o=some z->G1 w A t x cs->(∀j u,cs[j]?=some u->w.cell? ⟨b,i.toNat*(g.AU k).gP+o+j,none⟩=some u)->Cq w g n false z cs/\z.isAgg=t.isAgg/\z.CZ=false
 |.unit,x,f,o,z,cs,h,hr,_=>by
  simp only[dL,AGX]at h;subst h;exact⟨⟨λk hk=>(by cases hk),hr⟩,rfl,rfl⟩
 |.Au a c,x,f,o,z,cs,h,⟨c1,c2,ecs,r1,r2⟩,hc=>by
  simp only[dL]at h;split at h
  ·rename_i r hrr;have R9:=r1.len;obtain⟨ih,_,_⟩:=uE hk h0 h1 MR Ce hrr r2 (λj u hu=>by
    have:=hc (c1.length+j) u (by rw[ecs,AHh (by omega)];rw[show c1.length+j-c1.length=j by omega];exact hu);rw[<-this];congr 2;omega)
   split at h
   ·rename_i Iz;injection h with h;subst h;obtain⟨ad,n0,cap,e1⟩:∃ad n0 cap,c1=[.slice ad n0 cap]:=by
     cases a with
     |sl u=>obtain⟨ad,cap,ds,e1,_⟩:=r1;exact⟨_,_,_,e1⟩
     |_=>cases Iz
    refine⟨⟨c1,c2,ecs,⟨hk,h0,h1,b,_,MR,Ce,e1,rfl,?_⟩,ih⟩,rfl,rfl⟩;have:=hc 0 _ (by rw[ecs,e1];rfl);simpa using this
   ·split at h
    ·rename_i hf;injection h with h;subst h;exact⟨⟨c1,c2,ecs,⟨λk hk=>(by cases hk),(G1.BD hf).2 ((G1.BD hf).1 r1)⟩,ih⟩,rfl,rfl⟩
    ·cases h
  ·cases h
 |.int _,_,_,_,_,_,h,_,_=>by simp[dL]at h
 |.bool,_,_,_,_,_,h,_,_=>by simp[dL]at h
 |.str,_,_,_,_,_,h,_,_=>by simp[dL]at h
 |.sl _,_,_,_,_,_,h,_,_=>by simp[dL]at h
 |.P3 _,_,_,_,_,_,h,_,_=>by simp[dL]at h
theorem Ac4{t:TypeId}{x:Operand}(ho:o.op=.load t x){ti:TI}(ht:EA P t ti){k:Nat}{i:Int}{p:List Nat}{f e0:Nat}(hx:σ.B5 x=.ptr k i p f){el:Nat}{tr:Ty}{xs:List tr.V}(hb:σ.Am[k]?=some (.row el .Ai tr xs)){ks:List Nat}{t':Ty}{y:t'.V}(Rn:atP σ.Am k i p f=some (.AA ks t' y))(aI:t'=ti.ty){z:AV}(hz:dL k i p e0 t' y 0 f=some z):MP P σ o ⟨z,σ.Am,[]⟩ :=
 .H9 <| KP (s:=λρ=>Instr.loadAt t (ρ x)) (λρ=>by simp[execOp,ho]) λa w g BH=>by
  subst aI;have Vl:=AO BH x;rw[hx]at Vl;obtain⟨hk,h0,h1,b,MR,vX⟩:=KA Vl;obtain⟨PZ,hlen,OU,BF,hr⟩:=BH.heap.Lf k _ hb;obtain⟨cs,fD,CY⟩:=T2 BH.heap Rn h1 MR;have hl:cs.length=ti.ty.size:=fD.len;obtain⟨v1,aJ,hU⟩:=Q9 (P:=P) (w:=w) ht hl CY (λhg=>by rw[hl];exact Rf hg);rcases hr with ⟨Vk,_⟩|⟨b',Bs,ds,ha,Ce,_⟩
  ·rw[hlen,Vk]at h1;simp at h1
  ·rw[MR]at ha;injection ha with ha;injection ha with ha;subst ha;obtain⟨h2,h3,h4⟩:=uE hk h0 h1 MR Ce hz fD.2 CY;exact⟨v1,by rw[vX];simp[Instr.loadAt,Instr.sureAddr,aJ],Bn h4 h2 (by rw[h3];exact hU)⟩
theorem yS(he:EnvOk P en){v:AV}(h:bZ en σ o=some v):MP P σ o ⟨v,σ.Am,[]⟩:=by
 unfold bZ at h;split at h
 ·rename_i t x ho;split at h
  ·cases h
  ·rename_i d hd;split at h
   ·rename_i e ti k i p f _ ht hxp;split at h
    ·rename_i el tr xs v0 hb Rn;split at h
     ·rename_i hc;injection h with h;subst h;exact Ac3 ho (he.t ht) hc.1 hxp hb Rn hc.2
     ·split at h
      ·rename_i ks t' y Awh;split at h
       ·rename_i aI;exact Ac4 ho (he.t ht) hxp hb Rn aI h
       ·cases h
      ·cases h
    ·cases h
   ·cases h
 ·rename_i t FC ho;split at h
  ·rename_i ti ht;split at h
   ·cases h
   ·rename_i hn;split at h
    ·rename_i te D1;split at h
     ·rename_i aI;exact k9 ho (he.t ht) (he.t D1) hn aI h
     ·cases h
    ·cases h
  ·cases h
 ·rename_i t x i ho;split at h
  ·rename_i ti ht;split at h
   ·cases h
   ·rename_i hn;split at h
    ·rename_i te D1;split at h
     ·rename_i ks kk j hi;split at h
      ·rename_i hj;split at h
       ·rename_i v' hv;split at h
        ·rename_i Ks;injection h with h;subst h;exact lb ho (he.t ht) (he.t D1) hn hi hj hv Ks
        ·cases h
       ·cases h
      ·cases h
     ·cases h
    ·cases h
  ·cases h
 ·rename_i t x f ho;split at h
  ·rename_i ti ht;split at h
   ·rename_i fo u v' hfo hu hv;split at h
    ·rename_i hc;injection h with h;subst h;exact w7 ho (he.t ht) hfo hu hv hc
    ·cases h
   ·cases h
  ·cases h
 ·rename_i c ho;split at h
  ·rename_i t r hc hx V1;split at h
   ·rename_i ti ht;split at h
    ·rename_i hs;injection h with h;subst h;exact w6 ho hc hx V1 (he.t ht) hs
    ·cases h
   ·cases h
  ·cases h
 ·rename_i t x i ho;split at h
  ·rename_i ti ht;split at h
   ·cases h
   ·rename_i hn;split at h
    ·rename_i te D1;split at h
     ·rename_i ks kk j hi;split at h
      ·rename_i hj;exact ZM ho (he.t ht) (he.t D1) hn hi hj.1 hj.2 h
      ·cases h
     ·cases h
    ·cases h
  ·cases h
 ·cases h
theorem sr{t:TypeId}{x v:Operand}(ho:o.op=.store t x v){ti:TI}(ht:EA P t ti){k:Nat}{i:Int}{p:List Nat}{f:Nat}{j:Int}{u:Ty}(hx:σ.B5 x=.TR k i p f j u)(h:sC σ.Am ti k i p f j u (σ.B5 v)=some e):MP P σ o e:=by
 unfold sC at h;split at h
 ·rename_i ek tr xs hb;split at h
  ·rename_i ys hg;split at h
   ·rename_i y W5;split at h
    ·rename_i y' aL;split at h
     ·rename_i x' F8;split at h
      ·rename_i hc;obtain⟨aI,gZ,hu,AAS,AAx,W4⟩:=hc;injection h with h;subst h;have fE:=AP hb;have lV:((A8 [k] σ.Am).set k Blk.AH++[Blk.row 0 .Ai u ys]).length=σ.Am.length+1:=by simp[Ay]
       refine⟨by simp only[AG4,Ay,A3,lV];omega,λhm=>by simp at hm,λa w g BH next Q hn=>?_⟩
       have Vl:=AO BH x;rw[hx]at Vl;obtain⟨cs,⟨hk,h0,h1,b,b',l,c,MR,Ce,e1,gU,CY⟩,hval⟩:=BO rfl rfl Vl;subst e1;have hpv:a.eval x=.pointer (some ⟨b',j.toNat*u.size,none⟩):=by
        have:[Value.pointer (some ⟨b',j.toNat*u.size,none⟩)]=[a.eval x]:=hval;injection this with h _;exact h.symm
       obtain⟨g1,H1,Qc,rz,XE,_⟩:=Wx BH.heap hb h1 hg gZ hu MR CY F8;have hN:((A8 [k] σ.Am).set k Blk.AH++[Blk.row 0 .Ai u ys])[σ.Am.length]?=some (.row 0 .Ai u ys):=by rw[AHh (by simp[Ay])];simp[Ay]
       obtain⟨_,hvs⟩:=FJ rz;injection hvs with tZ R9 _;obtain⟨_,AgJ,AwA,_,_⟩:=H1.Lf σ.Am.length (.row 0 .Ai u ys) hN;have AAE:BR w g1 (σ.Am.length+1) (.ptr σ.Am.length j [] 0) (.pointer (some ⟨b',j.toNat*u.size,none⟩)):=by
        have:=ZA (w:=w) (g:=g1) (n:=σ.Am.length+1) (p:=[]) (o:=0) (AHB σ.Am.length) gU.1 (by rw[<-R9];exact gU.2) tZ.symm;rwa [AwA,Nat.add_zero]at this
       have aJ:BR w g1 (σ.Am.length+1) (σ.B5 v) (a.eval v):=by
        have:=(AO BH v).step Qc (AHw _);rwa [M7 λq hq=>by
         simp only[List.contains_eq_mem,AHm,decide_eq_false_iff_not];intro e;subst e;simp only[List.contains_eq_mem,decide_eq_false_iff_not]at W4;exact W4 hq]at this
       obtain⟨w2,g2,DR,H2,Oa⟩:=Wg (σ:=⟨[],(A8 [k] σ.Am).set k Blk.AH++[Blk.row 0 .Ai u ys]⟩) H1 ht hN W5 ⟨AAx,AAS,rfl,rfl⟩ aL (by show BR w g1 _ _ _;rw[lV];exact AAE) (by show BR w g1 _ _ _;rw[lV];exact aJ);simp only at H2 Oa;rw[lV]at Oa;have Al8:k∉[σ.Am.length]:=by simp;omega
       have dh:k≠σ.Am.length:=by omega
       generalize hE:(Blk.Gg (A8 [σ.Am.length] ((A8 [k] σ.Am).set k Blk.AH++[Blk.row 0 .Ai u ys])) []).set σ.Am.length (.row 0 .Ai u (ys.set j.toNat y'))=E at H2 hn;have xx:E.length=σ.Am.length+1:=by rw[<-hE];simp[A3,Ay]
       have hEN:E[σ.Am.length]?=some (.row 0 .Ai u (ys.set j.toNat y')):=by rw[<-hE,List.getElem?_set_self (by simp[A3,Ay])]
       have stA:Step [σ.Am.length,k] E.length w2 g2 w2 (g2.ZT σ.Am.length k (Sw p [i.toNat])):=pI;have Af4:Step [k,σ.Am.length] E.length w2 g2 w2 (g2.ZT σ.Am.length k (Sw p [i.toNat])):=stA.weaken (λq hq=>by simp at hq⊢;exact hq.symm) (AG1 _);have gW:(((A8 [k,σ.Am.length] E).set σ.Am.length Blk.AH).set k (.row ek .Ai tr (xs.set i.toNat x'))).length=E.length:=by simp[Ay]
       have AbG:LP w2 (g2.ZT σ.Am.length k (Sw p [i.toNat])) E.length k (.row ek .Ai tr (xs.set i.toNat x')) :=
        XE w2 g2 E.length 0 (λb q hb=>Oa.BG b k q hb (by omega) Al8) (λj hj=>Oa.AU j (by omega)) (H2.Lf σ.Am.length _ hEN)
       unfold Oper.wp;simp only[execOp,ho,hpv,Sem.run_bind,DR,Result.andThen_ok];refine hn undef w2 (g2.ZT σ.Am.length k (Sw p [i.toNat])) ?_ PX ?_
       ·refine H2.XW Af4 (λb hb=>by simp[G.ZT,H2.BN b hb]) (by rw[gW];exact AG1 _) λj' y Qj=>?_;rw[gW];rcases QS Qj with ⟨rfl,rfl⟩|⟨I8,Qj⟩
        ·exact .inr (.inr AbG)
        ·rcases QS Qj with ⟨rfl,rfl⟩|⟨Amc,Qj⟩
         ·exact .inl rfl
         ·obtain⟨y',aL,rfl⟩:=C4 Qj;exact .inr (.inl ⟨by simp only[List.mem_cons,List.not_mem_nil,or_false,not_or];exact⟨I8,Amc⟩,y',aL,rfl⟩)
       ·refine⟨Oa.os.trans Qc.os,Oa.tape.trans Qc.tape,Oa.output.trans Qc.output,Oa.size,λb hb h=>?_,λb h=>?_,λb j' q h Qj hm=>?_,λj' Qj=>?_⟩
        ·have h1:=Qc.no b hb h;have h2:=Oa.no b hb h1.1;exact⟨by simp[G.ZT,h2.1],h2.2⟩
        ·have h1:=Qc.H8 b h;have h2:=Oa.H8 b h1.1;exact⟨by simp[G.ZT,h2.1],h2.2⟩
        ·simp only[List.mem_append,AHm,not_or]at hm;have h1:=Qc.BG b j' q h Qj (by simpa using hm.2);have h2:=Oa.BG b j' q h1.1 (by omega) (by simpa using hm.1);exact⟨aS h2.1 (by omega),h2.2⟩
        ·show g2.AU j'=_;rw[Oa.AU j' (by omega),Qc.AU j' Qj]
      ·cases h
     ·cases h
    ·cases h
   ·cases h
  ·cases h
 ·cases h
theorem Acm(he:EnvOk P en)(h:wJ en σ o=some e):MP P σ o e:=by
 unfold wJ at h;split at h
 ·rename_i t x v ho;split at h
  ·rename_i ti k i p f j u ht hx;exact sr ho (he.t ht) hx h
  ·cases h
 ·cases h
theorem Aga(he:EnvOk P en)(h:tlE en σ o=some (true,e)):MP P σ o e:=by
 unfold tlE at h;split at h
 ·rename_i t x lo ho;split at h
  ·rename_i ti k ks kk l v7 hx hl;split at h
   ·rename_i el u xs te hb D1;split at h
    ·rename_i hc;obtain⟨Iz,hu⟩:=hc;subst hu;simp only[AGX,AG8,AG2,decide_eq_true_eq]at h;obtain⟨⟨h0,h1⟩,rfl⟩:=h;exact AcU ho (he.t v7) Iz (he.t D1) hx hl hb h0 h1
    ·cases h
   ·cases h
  ·cases h
 ·rename_i t x y ho;split at h
  ·rename_i ti k ks kk l v7 hx hl;split at h
   ·rename_i el u xs te hb D1;split at h
    ·rename_i hc;obtain⟨Iz,hu⟩:=hc;subst hu;simp only[AGX,AG8,AG2,decide_eq_true_eq]at h;obtain⟨⟨h0,h1⟩,rfl⟩:=h;exact AcX ho (he.t v7) Iz (he.t D1) hx hl hb h0 h1
    ·cases h
   ·cases h
  ·cases h
 ·rename_i c ho;split at h
  ·rename_i k t hc hx V1;split at h
   ·rename_i el u xs ti hb v7;split at h
    ·rename_i Iz;simp only[AGX,AG8,true_and]at h;subst h;exact AcY ho hc hx V1 (he.t v7) Iz hb
    ·cases h
   ·cases h
  ·rename_i k y t tx hc hx V1;split at h
   ·rename_i el u xs0 ti ZP hb v7 qg;split at h
    ·rename_i te D1;split at h
     ·rename_i xs ys m2 rs nV dm;split at h
      ·rename_i nX;obtain⟨Iz,hkx,_,lU,R8,_⟩:=nX;obtain⟨ec,hec⟩:=BA nV;injection ec with ec;subst ec;simp only at hec;subst hec;simp only[AGX,AG8,decide_eq_true_eq]at h;obtain⟨OV,rfl⟩:=h;exact AcS ho hc hx V1 (he.t v7) (he.t D1) Iz (he.t qg) hkx lU hb R8 dm OV
      ·cases h
     ·cases h
    ·cases h
   ·cases h
  ·cases h
 ·cases h
theorem AcN(he:EnvOk P en)(h:pe en σ o=some e):MP P σ o e:=by
 exact Acm he h
theorem Zj(he:EnvOk P en)(h:Tk en σ o some=some e):MP P σ o e:=by
 unfold Tk at h;split at h
 ·rename_i v hv;injection h with h;subst h;exact yS he hv
 split at h
 ·rename_i e' hv;injection h with h;subst h;exact AcN he hv
 split at h
 ·rename_i c e' hv;cases c with
  |false=>cases h
  |true=>injection h with h;subst h;exact Aga he hv
 split at h
 ·cases hd:cJ en o with
  |false=>rw[hd]at h;exact Zk he h
  |true =>
   rw[hd]at h;simp only[AHb]at h;rw[LU en he.W9]at h;cases hx:P8 en σ o some with
   |none=>rw[hx]at h;cases h
   |some e0 =>
    rw[hx]at h;simp only[AGV]at h;split at h
    ·rename_i e' hf;injection h with h;subst h;exact wU (Zk he hx) hf
    ·cases h
 ·rename_i t _;rw[LU en he.W9]at h;cases hx:P8 en σ o some with
  |none=>rw[hx]at h;cases h
  |some e0 =>
   rw[hx]at h;simp only[AGV]at h;split at h
   ·rename_i e' hf;injection h with h;subst h;exact Aa4 (Zk he hx) hf
   ·cases h
theorem Q2(he:EnvOk P en)(h:exec en σ o some=some e):MP P σ o e:=by
 unfold exec at h;split at h
 ·split at h
  ·split at h
   ·rename_i bs hp;rw[Ua en he.W9]at h;cases hx:Tk en ⟨σ.AJ,bs⟩ o some with
    |none=>rw[hx]at h;cases h
    |some e0 =>
     rw[hx,AGV]at h;split at h
     ·cases h
     ·rename_i hm;injection h with h;subst h;have hs:=Zj he hx;obtain⟨l',hf⟩:=oY hp;have hl:=nG hf;refine⟨AHp hl hs.grow,λqc=>by rw[qc]at hm;exact(hm rfl).elim,λa w g BH next Q hn=>?_⟩
      obtain⟨_,g',H',st⟩:=tO hf BH.heap;exact hs.wp a w g' ⟨H',BH.len,λi x hx=>(BH.AJ i x hx).PW st hl⟩ next Q λv w' g2 h1 h2 h3=>hn v w' g2 h1 h2 (st.trans h3 hl)
   ·cases h
  ·exact Zj he h
 ·exact Zj he h
end
def Bu(m:Nat)(w:World)(g:G)(w':World)(g':G):Prop:=Step (List.range m) m w g w' g'
theorem Bu.refl(m:Nat)(w:World)(g:G):Bu m w g w g:=Step.refl _ _ _ _
theorem Step.sH{Bw:List Nat}{n m:Nat}{w w':World}{g g':G}(s:Step Bw n w g w' g')(h:m<=n):Bu m w g w' g' :=
 ⟨s.os,s.tape,s.output,s.size,s.no,s.H8,λ_ k _ _ hk hm=>(hm (List.mem_range.2 hk)).elim,λk hk=>s.AU k (AHx hk h)⟩
theorem Bu.trans{m:Nat}{w w1 w2:World}{g g1 g2:G}(s:Bu m w g w1 g1)(t:Bu m w1 g1 w2 g2):Bu m w g w2 g2:=by
 have h:=Step.trans s t (AG1 _);exact⟨h.os,h.tape,h.output,h.size,h.no,h.H8,λ_ k _ _ hk hm=>(hm (List.mem_range.2 hk)).elim,h.AU⟩
theorem AcK{l:List AV}{d:Nat}{x:AV}(h:l[d]?=some x):l.set d x=l:=by
 apply List.ext_getElem?;intro i;rw[AHk];split
 ·rename_i he;subst he;split
  ·exact h.symm
  ·rename_i hl;rw[AHz (Nat.le_of_not_lt hl)]
 ·rfl
inductive Want (all:List Oper) (σ:St) (o:Oper):Bool->Prop where
 |plain (h:o.guard=none):Want all σ o true
 |guard {g:Nat} {aQ:Bool} {d:Nat} {b:Bool} (h:o.guard=some (g,aQ)) (hd:(all[g]?).bind (·.dst)=some d) (hb:σ.AJ[d]?=some (.bool b)):Want all σ o (b==aQ)
 |nil {g:Nat} {aQ:Bool} {d:Nat} (h:o.guard=some (g,aQ)) (hd:(all[g]?).bind (·.dst)=some d) (hb:σ.AJ[d]?=some .nil):Want all σ o false
theorem Oy{R:Type}{all:List Oper}{σ:St}{o:Oper}{Kt Kf:St->Option R}{r:R}(h:UD all σ o Kt Kf=some r):(Want all σ o true/\Kt σ=some r)\/(Want all σ o false/\Kf σ=some r):=by
 unfold UD at h;split at h
 ·rename_i hg;exact .inl ⟨.plain hg,h⟩
 ·rename_i g aQ hg;split at h
  ·cases h
  ·rename_i d hd;split at h
   ·rename_i b hb;have e:({σ with AJ:=σ.AJ.set d (.bool b)}:St)=σ:=by
     have:=AcK hb;cases σ;simp only at this⊢;rw[this]
    cases b
    ·simp only[AHa]at h;rw[e]at h;split at h
     ·rename_i hw;subst hw;exact .inr ⟨.guard hg hd hb,h⟩
     ·rename_i hw;have:aQ=false:=by simpa using hw
      subst this;exact .inl ⟨.guard hg hd hb,h⟩
    ·simp only[AHb]at h;rw[e]at h;split at h
     ·rename_i hw;subst hw;exact .inl ⟨.guard hg hd hb,h⟩
     ·rename_i hw;have:aQ=false:=by simpa using hw
      subst this;exact .inr ⟨.guard hg hd hb,h⟩
   ·rename_i hb;exact .inr ⟨.nil hg hd hb,h⟩
   ·cases h
theorem cZ{R:Type}{all:List Oper}{σ:St}{o:Oper}{T:Type}{Kt Kf:St->Option R}{Kt' Kf':St->Option T}{K:T->Option R}(h1:∀σ,Kt σ=(Kt' σ).bind K)(h2:∀σ,Kf σ=(Kf' σ).bind K):UD all σ o Kt Kf=(UD all σ o Kt' Kf').bind K:=by
 unfold UD;split
 ·exact h1 _
 ·split
  ·rfl
  ·split
   ·rename_i b _;cases b<;>simp only[AHb,AHa]<;>split<;>first |exact h1 _ |exact h2 _
   ·exact h2 _
   ·rfl
section
variable {P:Program} {en:Bd} {R:Type}
theorem nF(he:WT en)(σ:St)(o:Oper){T:Type}{K:G2->Option R}{K':G2->Option T}{k:T->Option R}(h:∀e,K e=(K' e).bind k):exec en σ o K=(exec en σ o K').bind k:=by
 rw[Q1 en he σ o K,Q1 en he σ o K'];cases exec en σ o some with
 |none=>rfl
 |some e=>exact h e
theorem R7(he:WT en)(all:List Oper):∀(is:List Nat) (σ:St) (K:St->Option R),P7 en all is σ K=(P7 en all is σ some).bind K
 |[],_,_=>rfl
 |i::is,σ,K=>by
  simp only[P7];split
  ·rfl
  ·refine cZ (λσ=>?_) λσ=>R7 he all is _ K;exact nF he σ _ λe=>R7 he all is _ K
theorem R6(he:WT en)(all:List Oper)(A:List (Nat×List Nat)):∀(is done M5:List Nat) (σ:St) (K:St->Option R),Sm en all A is done M5 σ K=(Sm en all A is done M5 σ some).bind K
 |[],_,_,_,_=>rfl
 |i::is,done,M5,σ,K=>by
  simp only[Sm];split
  ·rfl
  ·split
   ·refine cZ (λσ=>?_) λσ=>R6 he all A is _ _ _ K;refine nF he σ _ λe=>?_;split
    ·exact R6 he all A is _ _ _ K
    ·split
     ·exact R6 he all A is _ _ _ K
     ·rfl
   ·rfl
theorem wX{w:World}{g:G}{σ:St}{a:Act}(hs:JZ w g σ a){d:Nat}{b:Bool}(h:σ.AJ[d]?=some (.bool b)):a.tmps[d]?=some (.bool b):=by
 have h1:=QZ (hs.AJ d _ h);have hl:d<a.tmps.size:=by rw[<-hs.len];exact AP h
 rw[Array.getElem?_eq_getElem hl];rw[Array.getD_eq_getD_getElem?,Array.getElem?_eq_getElem hl]at h1;exact congrArg some h1
theorem AcQ{w:World}{g:G}{σ:St}{a:Act}(hs:JZ w g σ a){d:Nat}(h:σ.AJ[d]?=some .nil):a.tmps[d]?=some (.tuple #[]):=by
 have h1:a.tmps.getD d undef=.tuple #[]:=hs.AJ d _ h;have hl:d<a.tmps.size:=by rw[<-hs.len];exact AP h
 rw[Array.getElem?_eq_getElem hl];rw[Array.getD_eq_getD_getElem?,Array.getElem?_eq_getElem hl]at h1;exact congrArg some h1
theorem I6{w:World}{g:G}{σ:St}{a:Act}{BW:Array Oper}{o:Oper}{t:Bool}(hs:JZ w g σ a)(h:Want BW.toList σ o t):Region.wanted o (yielded BW a.tmps)=t:=by
 cases h with
 |plain h=>simp[Region.wanted,h]
 |guard h hd hb =>
  have h1:=wX hs hb;rw[AG9]at hd;simp[Region.wanted,h,yielded,hd,h1]
 |nil h hd hb =>
  have h1:=AcQ hs hb;rw[AG9]at hd;simp[Region.wanted,h,yielded,hd,h1]
theorem JZ.skip{w:World}{g:G}{σ:St}{a:Act}(h:JZ w g σ a)(d:Option Nat):JZ w g (σ.skip d) (a.put d undef) where
 heap:=h.heap
 len:=by simp only[St.skip,YJ,Up];exact h.len
 AJ:=ja h.len h.AJ (show BR w g _ .nil undef from rfl)
theorem put_defers(a:Act)(d:Option Tmp)(v:Value):(a.put d v).defers=a.defers:=by cases d<;>rfl
theorem Yp(he:EnvOk P en){BW:Array Oper}{m:Nat}{Q:Exit->Act->World->Prop}:∀(is:List Nat) (σ σ':St),P7 en BW.toList is σ some=some σ'->m<=σ.Am.length->m<=σ'.Am.length/\∀(a:Act) (w:World) (g:G),JZ w g σ a ->
    (∀a' w' g',JZ w' g' σ' a'->Bu m w g w' g'->a'.defers=a.defers->Q .normal a' w')->wpOps P BW Q is a w
 |[],σ,σ',h,hm=>by
  simp only[P7,AGX]at h;subst h;exact⟨hm,λa w g hs hq=>hq a w g hs (Bu.refl _ _ _) rfl⟩
 |i::is,σ,σ',h,hm=>by
  simp only[P7]at h;split at h
  ·cases h
  ·rename_i o ho;have um:BW[i]?=some o:=by rw[<-AG9];exact ho
   rcases Oy h with ⟨hw,h⟩|⟨hw,h⟩
   ·rw[Q1 en he.W9]at h;cases hx:exec en σ o some with
    |none=>rw[hx]at h;cases h
    |some e =>
     rw[hx]at h;have O4:=Q2 he hx;have Oz:=O4.grow;obtain⟨hm',ih⟩:=Yp he (Q:=Q) is _ _ h (AHp hm Oz);refine⟨hm',λa w g hs hq=>?_⟩;simp only[wpOps,um];rw[AHd (I6 hs hw)];refine .inl (O4.wp a w g hs _ Q λv w' g' hH hv BH=>?_);exact ih _ _ _ (hs.after Oz hH hv BH) λa'' w'' vO Amj AbJ hd=>hq a'' w'' vO Amj ((BH.sH hm).trans AbJ) (by rw[hd,put_defers])
   ·obtain⟨hm',ih⟩:=Yp he (Q:=Q) is _ _ h hm;refine⟨hm',λa w g hs hq=>?_⟩;simp only[wpOps,um];rw[I6 hs hw];simp only[Bool.false_eq_true,if_false];exact ih _ _ _ (hs.skip o.dst) λa'' w'' vO Amj AbJ hd=>hq a'' w'' vO Amj AbJ (by rw[hd,put_defers])
end
theorem SG{n:Nat}{ks:List Nat}{k:Nat}:k∈Xp n ks↔k<n/\k∈ks:=by simp[Xp]
section
variable {w:World} {g:G} {n:Nat}
theorem Al.DW{ks:List Nat}(h:∀k∈ks,k<n){b:Nat}(a:Al g.own ks b):Al g.own (Xp n ks) b:=a.mono λk hk=>SG.2 ⟨h k hk,hk⟩
theorem cw(a:AV):(a.DW n).MX=a.MX:=by cases a<;>rfl
theorem ZV(a:AV):(a.DW n).isAgg=a.isAgg:=by cases a<;>rfl
theorem mZ(a:AV):(a.DW n).CZ=a.CZ:=by cases a<;>rfl
theorem Cq.DW:∀(a:AV) (m:Bool) {cs:List Value},Cq w g n m a cs->Cq w g n m (a.DW n) cs
 |.AA ks t x,false,cs,⟨hk,r⟩=>⟨λk h=>(SG.1 h).1,r.mono λb a=>⟨a.DW hk,rfl⟩⟩
 |.zs,false,_,h=>h
 |.Ak _,false,_,h=>h
 |.mp _,false,_,h=>h
 |.ptr _ _ _ _,false,_,h=>h
 |.Eh ks t x,false,cs,⟨hk,b,off,ds,e,ha,r,hc⟩=>⟨λk h=>(SG.1 h).1,b,off,ds,e,ha.DW hk,r.mono λb a=>⟨a.DW hk,rfl⟩,hc⟩
 |.Lw,false,_,h=>h
 |.R1 _ _ _ _ _,false,_,h=>h
 |.TR _ _ _ _ _ _,false,_,h=>h
 |.pr a b,false,_,⟨c,e,he,h1,h2⟩=>⟨c,e,he,Cq.DW a false h1,Cq.DW b false h2⟩
 |.fn f c,false,_,⟨vs,e,hx⟩=>⟨vs,e,Cq.DW c true hx⟩
 |.un k,false,_,h=>h
 |.cons a b,true,_,⟨v,r,e,h1,h2⟩=>by
  refine⟨v,r,e,?_,Cq.DW b true h2⟩;rw[cw,ZV];exact h1.imp id λ⟨cs,hx,hv⟩=>⟨cs,Cq.DW a false hx,hv⟩
 |.nil,true,_,h=>h
 |.cons _ _,false,_,h=>h.elim
 |.nil,false,_,h=>h.elim
 |.R1 _ _ _ _ _,true,_,h=>h.elim
 |.TR _ _ _ _ _ _,true,_,h=>h.elim
 |.AA _ _ _,true,_,h=>h.elim
 |.zs,true,_,h=>h.elim
 |.Ak _,true,_,h=>h.elim
 |.mp _,true,_,h=>h.elim
 |.ptr _ _ _ _,true,_,h=>h.elim
 |.Eh _ _ _,true,_,h=>h.elim
 |.Lw,true,_,h=>h.elim
 |.pr _ _,true,_,h=>h.elim
 |.fn _ _,true,_,h=>h.elim
 |.un _,true,_,h=>h.elim
theorem BR.DW{a:AV}{v:Value}(h:BR w g n a v):BR w g n (a.DW n) v:=by
 cases ht:a.CZ with
 |false =>
  rw[BR.iff ht]at h;rw[BR.iff (by rw[mZ];exact ht),cw,ZV];exact h.imp id λ⟨cs,hx,hv⟩=>⟨cs,Cq.DW a false hx,hv⟩
 |true =>
  cases a with
  |cons a b=>obtain⟨vs,e,h⟩:=h;exact⟨vs,e,Cq.DW (.cons a b) true h⟩
  |nil=>exact h
  |_=>cases ht
theorem LP.DW{k:Nat}{b:Blk}(h:LP w g n k b):LP w g n k (b.DW n):=by
 cases b with
 |AH=>trivial
 |map m kt vt es st =>
  cases m with
  |Ai=>exact h
  |sh ks =>
   obtain⟨PZ,b,Gs,De,ha,ho,hh,QJ,hm⟩:=h;exact⟨λj hj=>(SG.1 hj).1,b,Gs,De,ha,ho,hh,QJ,hm.on λi x c r=>by
    have r:G1 w (Al g.own ks) vt x c:=r;exact r.mono λb a=>⟨a.DW PZ,rfl⟩⟩
 |Qk e t xs i p=>exact h
 |tail e t xs=>exact h
 |box a =>
  obtain⟨h1,b,cs,e,ha,ho,hh,hx⟩:=h;exact⟨h1,b,cs,e,ha,ho,hh,Cq.DW a false hx⟩
 |row e m t xs =>
  cases m with
  |Ai=>exact h
  |sh ks =>
   obtain⟨PZ,hlen,OU,BF,hr⟩:=h;refine⟨λj hj=>(SG.1 hj).1,hlen,OU,BF,hr.imp id λ⟨b,Bs,ds,ha,ho,hh,h1,h2,h3,h4,hc⟩=>⟨b,Bs,ds,ha,ho,hh,h1,h2,h3,h4,?_⟩⟩;exact hc.mono λx c r=>r.mono λb a=>⟨a.DW PZ,rfl⟩
end
def G.pick(g:G)(π:List Nat):G:=⟨λb=>match g.own b with |.BG k r=>if k∈π then .BG (idxOf π k) r else .no |t=>t,λj=>g.AU (π.getD j 0)⟩
theorem Sd{bs:List Blk}{m:Nat}{π Cf:List Nat}(h:wM bs m π Cf=true):π.take m=List.range m/\nodup π=true/\(∀k∈Cf,k∈π)/\∀k∈π,∃b,bs[k]?=some b/\∀j∈b.Cf,j∈π:=by
 simp only[wM,AG2,beq_iff_eq]at h;obtain⟨⟨⟨h1,h2⟩,h3⟩,h4⟩:=h;refine⟨h1,h2,λk hk=>by have:=List.all_eq_true.1 h3 k hk;simpa using this,λk hk=>?_⟩;have:=List.all_eq_true.1 h4 k hk;split at this
 ·rename_i b hb;exact⟨b,hb,λj hj=>by have:=List.all_eq_true.1 this j hj;simpa using this⟩
 ·cases this
theorem Acw{m:Nat}{π:List Nat}(h:π.take m=List.range m):m<=π.length/\∀j,j<m->π[j]?=some j:=by
 have hl:(π.take m).length=m:=by rw[h,AHC]
 rw[AHg]at hl;refine⟨by omega,λj hj=>?_⟩;have:(π.take m)[j]?=some j:=by rw[h,List.getElem?_range hj]
 rw[List.getElem?_take,AHd hj]at this;exact this
section
variable {w:World} {g:G} {bs:List Blk} {π Cf:List Nat} {m:Nat}
theorem YH{k:Nat}(hk:k∈π):Ren (idxOf π) g (g.pick π) π.length k where
 lt:=kr hk
 AU:=by
  have:=kq hk;simp[G.pick,List.getD,this]
 own b r h:=by simp[G.pick,h,hk]
theorem YG{b:Nat}(h:g.own b=.H8):(g.pick π).own b=.H8:=by simp[G.pick,h]
theorem iN(H:Bc w g bs)(h:wM bs m π Cf=true):Bc w (g.pick π) (π.map λk=>(((bs[k]?).getD .AH).M3 (idxOf π)).DW π.length):=by
 obtain⟨_,hn,_,S8⟩:=Sd h;refine⟨λb hb=>by simp[G.pick,H.BN b hb],λj x hx=>?_⟩;rw[AHo]at hx;cases hj:π[j]? with
 |none=>rw[hj]at hx;cases hx
 |some k =>
  rw[hj]at hx;injection hx with hx;subst hx;have hk:k∈π:=List.mem_of_getElem? hj;obtain⟨b,hb,P1⟩:=S8 k hk;have:=(H.Lf k b hb).M3 (φ:=idxOf π) (g':=g.pick π) (n':=π.length) (λb h=>YG h) (YH hk) (λj hj=>YH (P1 j hj));rw[Zt hn hj]at this;simp only[hb,Option.getD_some,AG7];exact this.DW
theorem iO(h:wM bs m π Cf=true):Bu m w g w (g.pick π)/\m<=π.length:=by
 obtain⟨ht,hn,_,S8⟩:=Sd h;obtain⟨h1,h2⟩:=Acw ht;refine⟨⟨rfl,rfl,rfl,AG1 _,λb _ h=>⟨by simp[G.pick,h],rfl⟩,λb h=>⟨YG h,rfl⟩,λb k p h hk hm=>(hm (List.mem_range.2 hk)).elim,λk hk=>?_⟩,h1⟩;simp[G.pick,List.getD,h2 k hk]
theorem ig:∀{Ap:List Nat} {l:List AV} {j i:Nat} {x:AV},(Qb Ap j l)[i]?=some x->∃y,l[i]?=some y/\(x=y\/x=.un 0)
 |Ap,a::r,j,0,x,h=>by
  simp only[Qb,List.getElem?_cons_zero,AGX]at h;refine⟨a,rfl,?_⟩;split at h
  ·exact .inl h.symm
  ·exact .inr h.symm
 |Ap,a::r,j,i+1,x,h=>by
  simp only[Qb,List.getElem?_cons_succ]at h;obtain⟨y,hy,hx⟩:=ig h;exact⟨y,by simpa using hy,hx⟩
 |_,[],_,_,_,h=>by simp[Qb]at h
theorem Zu(Ap:List Nat):∀(l:List AV) (j:Nat),(Qb Ap j l).length=l.length
 |[],_=>rfl
 |_::r,j=>by simp[Qb,Zu Ap r]
theorem AfO{σ σ0:St}{l:List Nat}(h:σ.Av m l=some σ0){a:Act}(hs:JZ w g σ a):∃g0,JZ w g0 σ0 a/\Bu m w g w g0/\m<=σ0.Am.length:=by
 unfold St.Av at h
 dsimp only at h
 split at h
 ·rename_i hp;injection h with h;subst h;obtain⟨BH,hm⟩:=iO (w:=w) (g:=g) hp;obtain⟨_,_,P1,_⟩:=Sd hp;refine⟨_,⟨iN hs.heap hp,by simp[Zu];exact hs.len,λi x hx=>?_⟩,BH,by simpa using hm⟩;simp only[AG7];rw[AHo]at hx;cases hq:(Qb l 0 σ.AJ)[i]? with
  |none=>rw[hq]at hx;cases hx
  |some y =>
   rw[hq]at hx;injection hx with hx;subst hx;obtain⟨z,hz,hyz⟩:=ig hq;rcases hyz with rfl |rfl
   ·exact((hs.AJ i y hz).M3 (λb h=>YG h) λk hk=>YH (P1 k (List.mem_flatMap.2 ⟨y,List.mem_of_getElem? hq,hk⟩))).DW
   ·exact PX
 ·cases h
theorem Aa6{m:Nat}{Z:List Nat}:Bu m w g w (g.UX Z) :=
 ⟨rfl,rfl,rfl,AG1 _,λb _ h=>⟨by simp[G.UX,h],rfl⟩,λb h=>⟨ki h,rfl⟩,λb k p h hk hm=>(hm (List.mem_range.2 hk)).elim,λk hk=>rfl⟩
theorem kh{bs:List Blk}(H:Bc w g bs){m:Nat}{t:Ty}{v v':AV}{Gt:List Blk}(h:Aa5 m t v bs=some (v',Gt)) :
    ∃g',Bc w g' Gt/\Gt.length=bs.length/\Bu m w g w g'/\(∀a u,BR w g bs.length a u->BR w g' bs.length a.XZ u)/\(∀u,BR w g bs.length v u->BR w g' bs.length v' u)/\(∀k,g'.AU k=g.AU k)/\∀cs,Cq w g bs.length false v cs->Cq w g' bs.length false v' cs:=by
 unfold Aa5 at h;split at h
 ·rename_i x hr;simp only[AGX,AG8]at h;obtain⟨rfl,rfl⟩:=h;have key:∀cs,Cq w g bs.length false v cs->Cq w (g.UX ((v.RY bs).filter λk=>!decide (k<m))) bs.length false (.AA ((v.RY bs).filter λk=>decide (k<m)) t x) cs:=by
   intro cs RN;obtain⟨aF,Bj⟩:=Pm H t v x cs hr RN;refine⟨λk hk=>Bj k (List.mem_filter.1 hk).1,aF.mono λb a=>⟨a.Rj.mono λk hk=>?_,rfl⟩⟩;simp only[List.mem_filter,Bool.not_eq_true',decide_eq_false_iff_not,decide_eq_true_eq]at hk⊢;refine⟨hk.1,?_⟩;rcases AG6 k m with h |h
   ·exact h
   ·exact absurd ⟨hk.1,by omega⟩ hk.2
  refine⟨g.UX ((v.RY bs).filter λk=>!decide (k<m)),nO H _,by simp[A3],Aa6,λa u h=>h.Rj _,λu hu=>?_,λk=>rfl,?_⟩
  ·obtain⟨h1,h2⟩:=TS hr;obtain⟨cs,RN,hv⟩:=BO h1 h2 hu;exact Bn (a:=.AA _ t x) rfl (key cs RN) (by rw[show(AV.AA _ t x).isAgg=v.isAgg from(XM hr).symm];exact hv)
  ·exact key
 ·cases h
end
section
variable {w:World} {g:G} {bs:List Blk} {m:Nat}
end
section
variable {w:World} {g:G} {bs:List Blk} {m:Nat}
theorem qY(H:Bc w g bs){c:Co}{a a':AV}{nb:List Blk}(h:vy bs c a=some (a',nb)){v:Value}(hx:BR w g bs.length a v):∃g',Bc w g' (bs++nb)/\BR w g' (bs++nb).length a' v/\Step [] bs.length w g w g':=by
 have dY:a'=a/\nb=[]->∃g',Bc w g' (bs++nb)/\BR w g' (bs++nb).length a' v/\Step [] bs.length w g w g':=by
  rintro⟨rfl,rfl⟩
  exact⟨g,by rw[AHA];exact H,by rw[AHA];exact hx,Step.refl _ _ _ _⟩
 have Axy:a.CZ=true\/a.MX=true->a'=a/\nb=[]:=by
  intro hq;cases c with
  |AA t =>
   simp only[vy]at h;split at h
   ·rename_i y hy;obtain⟨h1,h2⟩:=TS hy;rw[h1,h2]at hq;rcases hq with hq |hq<;>cases hq
   ·cases h
  |aC ks=>cases a<;>simp_all [vy,AV.CZ,AV.MX]
  |row p e t Ai =>
   have:a.TJ p≠some .zs:=by
    cases a<;>simp[AV.CZ,AV.MX]at hq<;>cases p<;>simp[AV.TJ,AV.Xy]
   simp only[vy]at h;simp only[AGX,AG8]at h;exact⟨h.1.symm,h.2.symm⟩
 by_cases ht:a.CZ=true
 ·exact dY (Axy (.inl ht))
 ·by_cases hu:a.MX=true
  ·exact dY (Axy (.inr hu))
  ·obtain⟨cs,RN,hv⟩:=BO (by simpa using ht) (by simpa using hu) hx;obtain⟨g',h1,h2,h3,h4⟩:=qZ H h RN;exact⟨g',h1,Bn (TQ h2) h2 (by rw[h3];exact hv),h4⟩
theorem AlD{σ σ':St}{s:Nat}{b:Bool}{c:Co}(h:coS σ s b c=some σ'){a:Act}(hs:JZ w g σ a)(hm:m<=σ.Am.length):∃g',JZ w g' σ' a/\Bu m w g w g'/\m<=σ'.Am.length:=by
 unfold coS at h;split at h
 ·cases h
 ·rename_i v hv;cases b with
  |false =>
   simp only[AHa]at h;split at h
   ·rename_i v' nb vP;injection h with h;subst h;obtain⟨g',h1,h2,h3⟩:=qY hs.heap vP (hs.AJ s v hv);refine⟨g',⟨h1,by simp only[AG4];exact hs.len,λi x hx=>?_⟩,h3.sH hm,by simp only[AGZ];omega⟩;rw[AHk]at hx;split at hx
    ·rename_i e;subst e;split at hx
     ·injection hx with hx;subst hx;exact h2
     ·cases hx
    ·exact(hs.AJ i x hx).PW h3 (by simp)
   ·cases h
  |true =>
   simp only[AHb]at h;split at h
   ·rename_i k i p o;split at h
    ·rename_i a0 hb;split at h
     ·rename_i a' nb vP;injection h with h;subst h;obtain⟨hlen,bb,cs,e,ha,ho,hh,hx⟩:=hs.heap.Lf k _ hb;obtain⟨g',h1,h2,h3,h4⟩:=qZ hs.heap vP hx;have hk:=AP hb;have bm:(σ.Am.set k (.box a')++nb).length=(σ.Am++nb).length:=by simp
      refine⟨g',⟨⟨h1.BN,λj x hj=>?_⟩,hs.len,λi x ia=>(hs.AJ i x ia).PW h4 (by simp)⟩,h4.sH hm,by simp only[AGZ,AG4];omega⟩;rw[bm];rw[AHl]at hj;split at hj
      ·rename_i VU;rw[AG4]at VU;rw[AHk]at hj;split at hj
       ·rename_i ek;subst ek;injection hj with hj;subst hj;have hl:=h4.BG bb k [] ho hk (by simp);exact⟨by rw[h4.AU k hk];exact hlen,bb,cs,e,by rw[h4.AU k hk];exact ha,hl.1,hh,h2⟩
       ·exact h1.Lf j x (by rw[AHi VU];exact hj)
      ·rename_i VU;rw[AG4]at VU hj;exact h1.Lf j x (by rw[AHh (by omega)];exact hj)
     ·cases h
    ·cases h
   ·cases h
theorem cy:∀{l:List (Nat×Bool×Co)} {σ σ':St} {g:G},Ye l σ=some σ'->∀{a:Act},JZ w g σ a->m<=σ.Am.length->∃g',JZ w g' σ' a/\Bu m w g w g'/\m<=σ'.Am.length
 |[],σ,σ',g,h,a,hs,hm=>by
  simp only[Ye,AGX]at h;subst h;exact⟨g,hs,Bu.refl _ _ _,hm⟩
 |(s,b,c)::r,σ,σ',g,h,a,hs,hm=>by
  simp only[Ye]at h;split at h
  ·rename_i σ1 h1;obtain⟨g1,Qa,Qc,S9⟩:=AlD h1 hs hm;obtain⟨g2,WE,Oa,Q4⟩:=cy h Qa S9;exact⟨g2,WE,Qc.trans Oa,Q4⟩
  ·cases h
theorem dK{bs:List Blk}(H:Bc w g bs){k e:Nat}{md:RM}{t:Ty}{xs:List t.V}(hb:bs[k]?=some (.row e md t xs))(MS:k∉md.Cf) :
    ∃g',Bc w g' (Blk.Gg (A8 [k] bs) [k]++[.row e md t xs])/\Step [k] bs.length w g w g'/\g'.AU bs.length=g.AU k:=by
 obtain⟨PZ,hlen,OU,BF,hr⟩:=H.Lf k _ hb
 let n:=bs.length
 let f:Nat->List Nat->Sf:=λj r=>if j=k then .BG n r else .BG j r
 let g':=g.Tb f none n (g.AU k)
 have st:Step [k] n w g w g':=Step.Tb H.BN rfl rfl rfl (AG1 _) (λ_ _ _=>rfl) (λq h=>by cases h) (AG1 _) λj r _ hm=>by
  simp only[AHm]at hm;simp[f,hm]
 have M9:g'.AU n=g.AU k:=by simp[g',G.Tb]
 refine⟨g',H.XW st (LV H.BN (AG1 _) λq h=>by cases h) (by simp[A3,Ay]) λj y hj=>?_,st,M9⟩;rw[AHl]at hj;split at hj
 ·rcases J6 hj with h |⟨gV,h⟩
  ·exact .inl h
  ·obtain⟨y',aL,rfl⟩:=C4 h;exact .inr (.inl ⟨gV,y',aL,rfl⟩)
 ·rename_i Bj;rw[A3,Ay]at hj Bj;have gU:j-bs.length=0:=by
   rcases AHj (j-bs.length)with h |h
   ·exact h
   ·rw[AHz (by simp;omega)]at hj;cases hj
  rw[gU]at hj;obtain rfl:j=n:=by simp only[n];omega
  simp only[List.getElem?_cons_zero,AGX]at hj;subst hj;refine .inr (.inr ⟨λj hj=>by have:=PZ j hj;simp[A3,Ay];omega,by rw[M9];exact hlen,by rw[M9];exact OU,BF,?_⟩);rw[M9];refine hr.imp id λ⟨b,Bs,ds,ha,Ce,Abe,p1,p2,p3,p4,OT⟩=>⟨b,Bs,ds,ha,by rw[HR (by simp) Ce];simp[f],Abe,p1,p2,p3,p4,?_⟩;rw[Dm];refine(Dm.1 OT).mono λi x c R8=>R8.on ?_;cases md with
  |Ai=>exact λb q hb=>⟨by rw[HR (by simp) hb];simp[f],rfl⟩
  |sh ks =>
   intro b hb;rcases hb with hb |⟨j,hj,r,hb⟩
   ·exact⟨.inl (TE (by simp) hb),rfl⟩
   ·refine⟨.inr ⟨j,hj,r,?_⟩,rfl⟩;have:j≠k:=λe=>MS (e▸hj);rw[HR (by simp) hb];simp[f,this]
theorem kK:∀{l:List Nat} {σ σ':St} {g:G},mvS m l σ=some σ'->∀{a:Act},JZ w g σ a->m<=σ.Am.length->∃g',JZ w g' σ' a/\Bu m w g w g'/\m<=σ'.Am.length
 |[],σ,σ',g,h,a,hs,hm=>by
  simp only[mvS,AGX]at h;subst h;exact⟨g,hs,Bu.refl _ _ _,hm⟩
 |s::r,σ,σ',g,h,a,hs,hm=>by
  simp only[mvS]at h;split at h
  ·rename_i k hv;split at h
   ·split at h
    ·rename_i e md t xs hb;split at h
     ·cases h
     ·rename_i MS;obtain⟨g1,H1,st,Rn⟩:=dK hs.heap hb (by simpa using MS);have hl:(Blk.Gg (A8 [k] σ.Am) [k]++[Blk.row e md t xs]).length=σ.Am.length+1:=by simp[A3,Ay]
      have Qa:JZ w g1 ⟨(Sk [k] σ.AJ).set s (.Ak σ.Am.length),Blk.Gg (A8 [k] σ.Am) [k]++[.row e md t xs]⟩ a:=by
       refine⟨H1,by simp[Sk];exact hs.len,λi x hx=>?_⟩;simp only[hl];rw[AHk]at hx;split at hx
       ·rename_i e';subst e';split at hx
        ·injection hx with hx;subst hx;obtain⟨hk,hv2⟩:=FJ (hs.AJ s _ hv);rw[hv2];exact Bn (cs:=[_]) rfl ⟨AHB _,by rw[Rn]⟩ rfl
        ·cases hx
       ·obtain⟨y,hy,rfl⟩:=Wy hx;exact(hs.AJ i y hy).step st (AHw _)
      obtain⟨g2,WE,Oa,Q4⟩:=kK h Qa (by simp only[hl];omega);exact⟨g2,WE,(st.sH hm).trans Oa,Q4⟩
    ·cases h
   ·exact kK h hs hm
  ·exact kK h hs hm
theorem yU{w:World}{g:G}{n j N:Nat}{p:List Nat}{a a2:AV}{v:Value}(h:BR w g n a v)(hp:a.TJ p=some (.Ak j))(F8:a.XS p (.Ak N)=some a2)(hN:N<n)(Rn:g.AU N=g.AU j):BR w g n a2 v:=by
 cases p with
 |nil =>
  simp only[AV.TJ,AGX]at hp;simp only[AV.XS,AGX]at F8;subst hp;subst F8;obtain⟨_,hv⟩:=FJ h;rw[hv,<-Rn];exact Bn (cs:=[_]) rfl ⟨hN,rfl⟩ rfl
 |cons f p =>
  have h2:a2.isAgg=true:=by
   simp only[AV.XS]at F8;split at F8
   ·split at F8
    ·exact XR F8
    ·cases F8
   ·cases F8
  have h1:a.isAgg=true/\a.CZ=false/\a.MX=false:=by
   simp only[AV.TJ]at hp;cases a with
   |pr x y=>exact⟨rfl,rfl,rfl⟩
   |AA ks t x =>
    cases t with
    |Au b c=>exact⟨rfl,rfl,rfl⟩
    |_=>simp[AV.Xy,Ud]at hp
   |_=>simp[AV.Xy]at hp
  obtain⟨cs,RN,hv⟩:=BO h1.2.1 h1.2.2 h;obtain⟨c0,c1,c2,e1,_,hr,XE⟩:=Qv (f::p) _ cs _ RN hp;obtain⟨_,OS⟩:=hr;have ow:=XE (.Ak N) a2 c1 F8 ⟨hN,by rw[OS,Rn]⟩;rw[<-e1]at ow;have ht:a2.CZ=false:=by cases a2<;>first |rfl |cases h2
  exact Bn ht ow (by rw[h2];rw[h1.1]at hv;exact hv)
theorem Acf{m s:Nat}{p:List Nat}{a:Act}{a0:AV}{σ σ2:St}{g:G}(qf:σ.AJ[s]?=some a0)(h:mvV m s p a0 σ=some σ2)(hs:JZ w g σ a)(hm:m<=σ.Am.length):∃g',JZ w g' σ2 a/\Bu m w g w g'/\m<=σ2.Am.length:=by
 unfold mvV at h;split at h
 ·rename_i j hp;split at h
  ·split at h
   ·rename_i e md t xs hj;split at h
    ·cases h
    ·rename_i MS;split at h
     ·rename_i j' a2 Z2 F8;split at h
      ·rename_i hc;subst hc;injection h with h;subst h;obtain⟨g1,H1,st,Rn⟩:=dK hs.heap hj (by simpa using MS);have hl:(Blk.Gg (A8 [j'] σ.Am) [j']++[Blk.row e md t xs]).length=σ.Am.length+1:=by simp[A3,Ay]
       refine⟨g1,⟨H1,by simp[Sk];exact hs.len,λi x hx=>?_⟩,st.sH hm,by simp only[hl];omega⟩;rw[hl];rcases QS hx with ⟨rfl,rfl⟩|⟨I8,hx⟩
       ·have hv:=(hs.AJ i a0 qf).step st (AHw _);exact yU hv Z2 F8 (AHB _) (by rw[Rn,st.AU j' (AP hj)])
       ·obtain⟨y,hy,rfl⟩:=Wy (show(Sk [j'] σ.AJ)[i]?=some x from hx);exact(hs.AJ i y hy).step st (AHw _)
      ·cases h
     ·cases h
   ·cases h
  ·injection h with h;subst h;exact⟨g,hs,Bu.refl _ _ _,hm⟩
 ·cases h
theorem rR{m k:Nat}{p:List Nat}{w:World}{a:Act}{σ σ2:St}{g:G}(h:mvB m k p σ=some σ2)(hs:JZ w g σ a)(hm:m<=σ.Am.length):∃g',JZ w g' σ2 a/\Bu m w g w g'/\m<=σ2.Am.length:=by
 unfold mvB at h;split at h
 ·rename_i a0 hb;split at h
  ·rename_i j hp;split at h
   ·split at h
    ·rename_i e md t xs hj;split at h
     ·cases h
     ·rename_i MS;split at h
      ·rename_i j' a2 Z2 F8;split at h
       ·rename_i hc;obtain⟨rfl,hkj⟩:=hc;injection h with h;subst h;obtain⟨g1,H1,st,Rn⟩:=dK hs.heap hj (by simpa using MS);have hl:(Blk.Gg (A8 [j'] σ.Am) [j']++[Blk.row e md t xs]).length=σ.Am.length+1:=by simp[A3,Ay]
        have hk:=AP hb;have c7:(Blk.Gg (A8 [j'] σ.Am) [j']++[Blk.row e md t xs])[k]?=some (.box (a0.drop λq=>[j'].contains q)):=by
         rw[AHi (by rw[A3,Ay];exact hk)];simp only[Blk.Gg,A8,AHk,AHo,hb,Option.map_some,Blk.drop,AHe (λe:j'=k=>hkj e.symm)]
        obtain⟨h1,bb,cs,el,ha,ho,hh,hx⟩:=H1.Lf k _ c7;rw[hl]at hx;obtain⟨c0,c1,c2,e1,_,hr,XE⟩:=Qv p _ cs.toList _ hx Z2;obtain⟨VU,OS⟩:=hr;have ow:=XE (.Ak σ.Am.length) a2 c1 F8 ⟨AHB _,by rw[OS,Rn,st.AU j' (AP hj)]⟩;rw[<-e1]at ow;refine⟨g1,⟨⟨H1.BN,λq x hq=>?_⟩,by simp[Sk];exact hs.len,λi x hx=>?_⟩,st.sH hm,by simp only[AG4,hl];omega⟩
        ·rw[AG4,hl];rw[AHk]at hq;split at hq
         ·rename_i e';subst e';split at hq
          ·injection hq with hq;subst hq;exact⟨h1,bb,cs,el,ha,ho,hh,ow⟩
          ·cases hq
         ·have:=H1.Lf q x hq;rwa [hl]at this
        ·simp only[AG4,hl];obtain⟨y,hy,rfl⟩:=Wy (show(Sk [j'] σ.AJ)[i]?=some x from hx);exact(hs.AJ i y hy).step st (AHw _)
       ·cases h
      ·cases h
    ·cases h
   ·injection h with h;subst h;exact⟨g,hs,Bu.refl _ _ _,hm⟩
  ·cases h
 ·cases h
theorem uC:∀{l:List (Nat×List Nat)} {σ σ':St} {g:G},Ace m l σ=some σ'->∀{a:Act},JZ w g σ a->m<=σ.Am.length->∃g',JZ w g' σ' a/\Bu m w g w g'/\m<=σ'.Am.length
 |[],σ,σ',g,h,a,hs,hm=>by
  simp only[Ace,AGX]at h;subst h;exact⟨g,hs,Bu.refl _ _ _,hm⟩
 |(s,p)::r,σ,σ',g,h,a,hs,hm=>by
  simp only[Ace]at h;split at h
  ·rename_i σ1 h1;have h2:∃g',JZ w g' σ1 a/\Bu m w g w g'/\m<=σ1.Am.length:=by
    unfold mvP at h1;split at h1
    ·exact rR h1 hs hm
    ·rename_i a0 qf;exact Acf qf h1 hs hm
    ·cases h1
   obtain⟨g1,Qa,Qc,S9⟩:=h2;obtain⟨g2,WE,Oa,Q4⟩:=uC h Qa S9;exact⟨g2,WE,Qc.trans Oa,Q4⟩
  ·cases h
theorem Yt:∀{l:List (Nat×Bool×Ty)} {σ σ':St} {g:G},kg m l σ=some σ'->∀{a:Act},JZ w g σ a->m<=σ.Am.length->∃g',JZ w g' σ' a/\Bu m w g w g'/\m<=σ'.Am.length
 |[],σ,σ',g,h,a,hs,hm=>by
  simp only[kg,AGX]at h;subst h;exact⟨g,hs,Bu.refl _ _ _,hm⟩
 |(s,false,t)::r,σ,σ',g,h,a,hs,hm=>by
  simp only[kg]at h;split at h
  ·exact Yt h hs hm
  ·rename_i v _ hv;split at h
   ·rename_i v' Gt hf;obtain⟨g1,H1,hl,Qc,ha,aJ,_,_⟩:=kh hs.heap hf;have Qa:JZ w g1 ⟨(σ.AJ.map AV.XZ).set s v',Gt⟩ a:=by
     refine⟨H1,by simpa using hs.len,λi x hx=>?_⟩;simp only[hl];rw[AHk]at hx;split at hx
     ·rename_i e;subst e;split at hx
      ·injection hx with hx;subst hx;exact aJ _ (hs.AJ s v hv)
      ·cases hx
     ·rw[AHo]at hx;cases hq:σ.AJ[i]? with
      |none=>rw[hq]at hx;cases hx
      |some y =>
       rw[hq]at hx;injection hx with hx;subst hx;exact ha _ _ (hs.AJ i y hq)
    obtain⟨g2,WE,Oa,Q4⟩:=Yt h Qa (by simp only[hl];exact hm);exact⟨g2,WE,Qc.trans Oa,Q4⟩
   ·cases h
  ·cases h
 |(s,true,t)::r,σ,σ',g,h,a,hs,hm=>by
  simp only[kg]at h;split at h
  ·rename_i k _ _ _ hv;split at h
   ·rename_i a0 hb;split at h
    ·rename_i a' Gt hf;obtain⟨g1,H1,hl,Qc,ha,aJ,Rn,aK⟩:=kh hs.heap hf;split at h
     ·rename_i a1 c7;have Qa:JZ w g1 ⟨σ.AJ.map AV.XZ,Gt.set k (.box a')⟩ a:=by
       refine⟨⟨H1.BN,λj x hj=>?_⟩,by simpa using hs.len,λi x hx=>?_⟩
       ·rw[AG4];rw[AHk]at hj;split at hj
        ·rename_i e;subst e;split at hj
         ·injection hj with hj;subst hj;obtain⟨p1,b,cs,e,tZ,ho,hh,hx⟩:=H1.Lf k _ c7;obtain⟨q1,b2,cs2,e2,ha2,fF,hh2,ow⟩:=hs.heap.Lf k _ hb;rw[Rn,ha2]at tZ;injection tZ with tZ;injection tZ with tZ;subst tZ;rw[hh2]at hh;injection hh with hh;injection hh with hh;subst hh;exact⟨p1,b2,cs2,e2,by rw[Rn];exact ha2,ho,hh2,by rw[hl];exact aK _ ow⟩
         ·cases hj
        ·exact H1.Lf j x hj
       ·simp only[AG4,hl];rw[AHo]at hx;cases hq:σ.AJ[i]? with
        |none=>rw[hq]at hx;cases hx
        |some y =>
         rw[hq]at hx;injection hx with hx;subst hx;exact ha _ _ (hs.AJ i y hq)
      obtain⟨g2,WE,Oa,Q4⟩:=Yt h Qa (by simp only[AG4,hl];exact hm);exact⟨g2,WE,Qc.trans Oa,Q4⟩
     ·cases h
    ·cases h
   ·cases h
  ·exact Yt h hs hm
theorem sM{ks:List Nat}{n:Nat}(hk:∀j∈ks,j<n):∀{a:AV} {cs:List Value},Cq w g n false a cs->Cq w g n false (a.wid ks) cs
 |.AA l t x,cs,h=>by
  unfold AV.wid;split
  ·rename_i hc;have XG:∀j∈l,j∈ks:=λj hj=>by have:=List.all_eq_true.1 hc.2 j hj;simpa using this
   exact⟨hk,h.2.mono λb a=>⟨a.mono XG,rfl⟩⟩
  ·exact h
 |.pr _ _,_,⟨c,d,e,h1,h2⟩=>⟨c,d,e,sM hk h1,sM hk h2⟩
 |.zs,_,h=>h
 |.Ak _,_,h=>h
 |.ptr _ _ _ _,_,h=>h
 |.Eh _ _ _,_,h=>h
 |.Lw,_,h=>h
 |.R1 _ _ _ _ _,_,h=>h
 |.TR _ _ _ _ _ _,_,h=>h
 |.mp _,_,h=>h
 |.fn _ _,_,h=>h
 |.un _,_,h=>h
 |.cons _ _,_,h=>h.elim
 |.nil,_,h=>h.elim
theorem lL:∀{l:List (Nat×List Nat)} {bs Gt:List Blk},lK l bs=some Gt->Bc w g bs->Bc w g Gt/\Gt.length=bs.length
 |[],bs,Gt,h,H=>by
  simp only[lK,AGX]at h;subst h;exact⟨H,rfl⟩
 |(k,ks)::r,bs,Gt,h,H=>by
  simp only[lK]at h;split at h
  ·rename_i e l t xs hb;split at h
   ·rename_i hc;rw[AG2]at hc;have XG:∀j∈l,j∈ks:=λj hj=>by have:=List.all_eq_true.1 hc.1 j hj;simpa using this
    have Bj:∀j∈ks,j<bs.length:=λj hj=>by have:=List.all_eq_true.1 hc.2 j hj;simpa using this
    have H1:Bc w g (bs.set k (.row e (.sh ks) t xs)):=by
     refine⟨H.BN,λj x hx=>?_⟩;rw[AG4];rw[AHk]at hx;split at hx
     ·rename_i ek;subst ek;split at hx
      ·injection hx with hx;subst hx;obtain⟨PZ,hlen,OU,BF,hr⟩:=H.Lf k _ hb;refine⟨Bj,hlen,OU,BF,hr.imp id λ⟨b,Bs,ds,ha,ho,hh,h1,h2,h3,h4,hc⟩=>⟨b,Bs,ds,ha,ho,hh,h1,h2,h3,h4,?_⟩⟩;exact hc.mono λx c r=>r.mono λb a=>⟨a.mono XG,rfl⟩
      ·cases hx
     ·exact H.Lf j x hx
    obtain⟨H2,hl⟩:=lL h H1;exact⟨H2,by rw[hl,AG4]⟩
   ·cases h
  ·rename_i a hb;split at h
   ·rename_i hc;have Bj:∀j∈ks,j<bs.length:=λj hj=>by have:=List.all_eq_true.1 hc j hj;simpa using this
    have H1:Bc w g (bs.set k (.box (a.wid ks))):=by
     refine⟨H.BN,λj x hx=>?_⟩;rw[AG4];rw[AHk]at hx;split at hx
     ·rename_i ek;subst ek;split at hx
      ·injection hx with hx;subst hx;obtain⟨hlen,b,cs,e,ha,ho,hh,hr⟩:=H.Lf k _ hb;exact⟨hlen,b,cs,e,ha,ho,hh,sM Bj hr⟩
      ·cases hx
     ·exact H.Lf j x hx
    obtain⟨H2,hl⟩:=lL h H1;exact⟨H2,by rw[hl,AG4]⟩
   ·cases h
  ·cases h
theorem UF{h:SH}{σ σ':St}(hh:σ.head h m=some σ'){a:Act}(hs:JZ w g σ a)(hm:m<=σ.Am.length):∃g',JZ w g' σ' a/\Bu m w g w g'/\m<=σ'.Am.length:=by
 unfold St.head at hh;split at hh
 ·cases hh
 ·rename_i σ0 h0;rw[Option.bind_eq_some_iff]at h0;obtain⟨σz,hz,h0⟩:=h0;rw[Option.bind_eq_some_iff]at hz;obtain⟨σy,hy,hz⟩:=hz;obtain⟨gy,hsy,sty,hmy⟩:=kK hy hs hm;obtain⟨gz,Ks,ABf,hmz⟩:=uC hz hsy hmy;have stz:=sty.trans ABf;obtain⟨g0,qf,st0,qc⟩:=Yt h0 Ks hmz;split at hh
  ·cases hh
  ·rename_i σ1 h1;obtain⟨g1,Qa,Qc,S9⟩:=cy h1 qf qc;split at hh
   ·cases hh
   ·rename_i σ2 h2;obtain⟨g2,WE,Oa,Q4⟩:=AfO h2 Qa;split at hh
    ·cases hh
    ·rename_i bs h3;obtain⟨H3,hl⟩:=lL h3 WE.heap;have oo:JZ w g2 ⟨σ2.AJ,bs⟩ a:=⟨H3,WE.len,λi x hx=>by simp only[hl];exact WE.AJ i x hx⟩;obtain⟨g3,hs4,st3,hm3⟩:=cy hh oo (by simp only[hl];exact Q4);exact⟨g3,hs4,(((stz.trans st0).trans Qc).trans Oa).trans st3,hm3⟩
end
theorem Ae4{σ σ':St}{s:Nat}{b:Bool}{c:Co}(h:coS σ s b c=some σ'):σ.Am.length<=σ'.Am.length:=by
 unfold coS at h;split at h
 ·cases h
 ·cases b with
  |false =>
   simp only[AHa]at h;split at h
   ·injection h with h;subst h;simp
   ·cases h
  |true =>
   simp only[AHb]at h;split at h
   ·split at h
    ·split at h
     ·injection h with h;subst h;simp
     ·cases h
    ·cases h
   ·cases h
theorem gE:∀{l:List (Nat×Bool×Co)} {σ σ':St},Ye l σ=some σ'->σ.Am.length<=σ'.Am.length
 |[],σ,σ',h=>by
  simp only[Ye,AGX]at h;subst h;exact AG1 _
 |(s,b,c)::r,σ,σ',h=>by
  simp only[Ye]at h;split at h
  ·rename_i σ1 h1;exact AHp (Ae4 h1) (gE h)
  ·cases h
theorem eU:∀{l:List (Nat×List Nat)} {bs Gt:List Blk},lK l bs=some Gt->Gt.length=bs.length
 |[],bs,Gt,h=>by
  simp only[lK,AGX]at h;subst h;rfl
 |(k,ks)::r,bs,Gt,h=>by
  simp only[lK]at h;split at h
  ·split at h
   ·rw[eU h,AG4]
   ·cases h
  ·split at h
   ·rw[eU h,AG4]
   ·cases h
  ·cases h
theorem Uf{h:SH}{m:Nat}{σ σ':St}(hh:σ.head h m=some σ'):m<=σ'.Am.length:=by
 unfold St.head at hh;split at hh
 ·cases hh
 ·split at hh
  ·cases hh
  ·split at hh
   ·cases hh
   ·rename_i σ2 h2;split at hh
    ·cases hh
    ·rename_i bs h3;refine AHp ?_ (gE hh);simp only[eU h3];unfold St.Av at h2
     dsimp only at h2
     split at h2
     ·rename_i hp;injection h2 with h2;subst h2;have:=(Acw (Sd hp).1).1;simpa using this
     ·cases h2
def jX:Ex->Exit
 |.normal=>.normal
 |.exit n=>.exit n
 |.ret=>.ret
theorem xq{P:Program}{Q:Exit->Act->World->Prop}{c:Code}(R:Nat->Act->World->Prop)(round:∀n a w,R n a w->c.wp P (Exit.then (λa' w'=>∃k,k<n/\R k a' w') Q) a w){n:Nat}{a:Act}{w:World}(h0:R n a w):(Code.loop c).wp P Q a w:=by
 intro b k cs;have key:∀n a w,R n a w->∃e a' w',Q e a' w'/\Arrives P (lone (b.at a (.code c::.inLoop c::k)) cs w) b k cs e a' w':=by
  intro n;induction n using Nat.strongRecOn with
  |_ n ih =>
   intro a w hI;obtain⟨e,a₁,w₁,hq,fB⟩:=round n a w hI b (.inLoop c::k) cs;cases e with
   |normal =>
    obtain⟨j,Bj,hI₁⟩:=hq;obtain⟨e₂,a₂,w₂,hq₂,Awg⟩:=ih j Bj a₁ w₁ hI₁;exact⟨e₂,a₂,w₂,hq₂,.of_steps (Steps.trans fB (.one step_inLoop)) Awg⟩
   |exit id=>exact⟨_,a₁,w₁,hq,.pass (x:=.inLoop c) rfl (λ_ _=>.inl (by simp)) fB⟩
   |goto l=>exact⟨_,a₁,w₁,hq,.pass (x:=.inLoop c) rfl (λ_ _=>.inl (by simp)) fB⟩
   |ret=>exact⟨_,a₁,w₁,hq,.pass (x:=.inLoop c) rfl (λ_ _=>.inl (by simp)) fB⟩
   |panic ch=>exact⟨_,a₁,w₁,hq,.pass (x:=.inLoop c) rfl (λ_ _=>.inl (by simp)) fB⟩
   |outgrown=>exact⟨_,a₁,w₁,hq,.pass (x:=.inLoop c) rfl (λ_ _=>.inl (by simp)) fB⟩
 obtain⟨e,a',w',hq,fB⟩:=key n a w h0;exact⟨e,a',w',hq,.of_steps (.one step_loop) fB⟩
inductive ToN {S T:Type} (f:S->Option (S⊕T)):Nat->S->T->Prop
 |done {s:S} {t:T} (h:f s=some (.inr t)):ToN f 0 s t
 |ZC {s s':S} {t:T} {n:Nat} (h:f s=some (.inl s')) (k:ToN f n s' t):ToN f (n+1) s t
theorem To.n{S T:Type}{f:S->Option (S⊕T)}{s:S}{t:T}(h:To f s t):∃n,ToN f n s t:=by
 induction h with
 |done h=>exact⟨0,.done h⟩
 |ZC h _ ih=>obtain⟨n,hn⟩:=ih;exact⟨n+1,.ZC h hn⟩
structure Iv (P:Program) (en:Bd):Prop extends EnvOk P en where
 mixed:P.follows .mixedOrders=true
section
variable {P:Program} {en:Bd} {m:Nat}
abbrev Nk(e:Ex)(σ:St):Option (Ex×St):=some (e,σ)
theorem sL{c:Code}(hn:∀(R:Type) (σ:St) (K:Ex->St->Option R),ev en m c R σ K=(ev en m c (Ex×St) σ Nk).bind λp=>K p.1 p.2){R T:Type}{σ:St}{K:Ex->St->Option R}{K':Ex->St->Option T}{k:T->Option R}
    (h:∀e s,K e s=(K' e s).bind k):ev en m c R σ K=(ev en m c T σ K').bind k:=by
 rw[hn R,hn T];cases ev en m c (Ex×St) σ Nk with
 |none=>rfl
 |some p=>exact h p.1 p.2
theorem AfQ(he:WT en){all:List Oper}{is:List Nat}{σ:St}{R T:Type}{K:St->Option R}{K':St->Option T}{k:T->Option R}(h:∀s,K s=(K' s).bind k):P7 en all is σ K=(P7 en all is σ K').bind k:=by
 rw[R7 he all is σ K,R7 he all is σ K'];cases P7 en all is σ some with
 |none=>rfl
 |some p=>exact h p
theorem Aek(he:WT en){all:List Oper}{A:List (Nat×List Nat)}{is done M5:List Nat}{σ:St}{R T:Type}{K:St->Option R}{K':St->Option T}{k:T->Option R}(h:∀s,K s=(K' s).bind k):Sm en all A is done M5 σ K=(Sm en all A is done M5 σ K').bind k:=by
 rw[R6 he all A is done M5 σ K,R6 he all A is done M5 σ K'];cases Sm en all A is done M5 σ some with
 |none=>rfl
 |some p=>exact h p
theorem UB(he:WT en):∀(c:Code) (R:Type) (σ:St) (K:Ex->St->Option R),ev en m c R σ K=(ev en m c (Ex×St) σ Nk).bind λp=>K p.1 p.2
 |.skip,_,_,_=>rfl
 |.ret,_,_,_=>rfl
 |.exit _,_,_,_=>rfl
 |.seq a b,R,σ,K=>by
  simp only[ev];split
  ·refine sL (UB he a) λe s=>?_;cases e with
   |normal=>exact UB he b R s K
   |exit n=>rfl
   |ret=>rfl
  ·rw[AHc];congr 1
   funext s0
   rw[AHc];congr 1
   funext ⟨e,s⟩
   cases e with
   |normal=>exact UB he b R s K
   |exit n=>rfl
   |ret=>rfl
 |.cond c a b,R,σ,K=>by
  simp only[ev];split
  ·rename_i t _;cases t
   ·exact UB he b R σ K
   ·exact UB he a R σ K
  ·rfl
 |.block n a,R,σ,K=>by
  simp only[ev];refine sL (UB he a) λe s=>?_;cases e with
  |normal=>rfl
  |exit k=>dsimp only;cases k==n<;>rfl
  |ret=>rfl
 |.region _ BW false,R,σ,K=>by
  simp only[ev];exact AfQ he λs=>rfl
 |.region _ BW true,R,σ,K=>by
  simp only[ev];split
  ·rw[AHc];congr 1
   funext s0
   generalize AfV en m _ BW s0=x;cases x<;>rfl
  ·split
   ·exact Aek he λs=>rfl
   ·rfl
 |.loop body,R,σ,K=>by
  simp only[ev];split
  ·split
   ·rfl
   ·generalize fix _ _=x;cases x<;>rfl
  ·rfl
 |.goto _,_,_,_=>rfl
 |.label _,_,_,_=>rfl
 |.rangeFunc ..,_,_,_=>rfl
 |.scope _,_,_,_=>rfl
 |.refuse _,_,_,_=>rfl
theorem UR(he:WT en){h ho:SH}{body:Code}{s:St}{r:St⊕(Ex×St)}(hh:eD en m h ho body s=some r):∃e s',ev en m body (Ex×St) s Nk=some (e,s') /\
    ((e=.normal/\∃Vv,s'.head h m=some Vv/\r=.inl Vv)\/(e≠.normal/\∃Vv,s'.head ho m=some Vv/\r=.inr (e,Vv))):=by
 unfold eD at hh;rw[UB he]at hh;cases hx:ev en m body (Ex×St) s Nk with
 |none=>rw[hx]at hh;cases hh
 |some p =>
  obtain⟨e,s'⟩:=p;rw[hx]at hh;simp only[AGV]at hh;refine⟨e,s',rfl,?_⟩;cases e with
  |normal =>
   simp only at hh;cases hn:s'.head h m with
   |none=>rw[hn]at hh;cases hh
   |some Vv=>rw[hn]at hh;injection hh with hh;exact .inl ⟨rfl,Vv,rfl,hh.symm⟩
  |exit n =>
   simp only at hh;cases hn:s'.head ho m with
   |none=>rw[hn]at hh;cases hh
   |some Vv=>rw[hn]at hh;injection hh with hh;exact .inr ⟨by simp,Vv,rfl,hh.symm⟩
  |ret =>
   simp only at hh;cases hn:s'.head ho m with
   |none=>rw[hn]at hh;cases hh
   |some Vv=>rw[hn]at hh;injection hh with hh;exact .inr ⟨by simp,Vv,rfl,hh.symm⟩
end
theorem SK{σ τ:St}{l:List Operand}(h:∀x∈l,σ.B5 x=τ.B5 x):l.map σ.B5=l.map τ.B5:=List.map_congr_left h
theorem V8{σ τ:St}{l:List (Nat×Operand)}(h:∀x∈l.map (·.2),σ.B5 x=τ.B5 x):l.map (λp=>(p.1,σ.B5 p.2))=l.map (λp=>(p.1,τ.B5 p.2)) :=
 List.map_congr_left λp hp=>by rw[h p.2 (List.mem_map.2 ⟨p,hp,rfl⟩)]
theorem VP{R:Type}{en:Bd}{σ τ:St}{o:Oper}{K:G2->Option R}(hb:σ.Am=τ.Am)(h:∀x∈o.op.operands,σ.B5 x=τ.B5 x):P8 en σ o K=P8 en τ o K:=by
 obtain⟨dst,op,type,pos,after,guard⟩:=o;unfold P8
 dsimp only at h⊢
 rw[hb];cases op<;>simp only[Op.operands]at h<;>dsimp only
 case build t ps=>rw[V8 (l:=ps.toList) λx hx=>h x (by simpa using hx)]
 case buildSlice t n ps=>rw[V8 (l:=ps.toList) λx hx=>h x (by simpa using hx)]
 case makeFunc fn first captured =>
  rw[SK (l:=captured.toList) λx hx=>h x (by simp[Array.mem_toList_iff.1 hx])]
 case call c =>
  have ha:Oj σ c.args=Oj τ c.args:=SK λx hx=>h x (by simp[Call.operands,Array.mem_toList_iff.1 hx]);unfold Ub;rw[ha,hb];cases hc:c.callee with
  |value f =>
   have hf:σ.B5 f=τ.B5 f:=h f (by simp[Call.operands,hc]);simp only[hf]
  |builtin b=>cases b<;>rfl
  |invoke r n=>rfl
 case slice t x lo hi mx =>
  have hx:σ.B5 x=τ.B5 x:=h x (by simp);have xB:lo.map σ.B5=lo.map τ.B5:=by cases lo with |none=>rfl |some y=>simp[h y (by simp)]
  have ug:hi.map σ.B5=hi.map τ.B5:=by cases hi with |none=>rfl |some y=>simp[h y (by simp)]
  have oe:mx.map σ.B5=mx.map τ.B5:=by cases mx with |none=>rfl |some y=>simp[h y (by simp)]
  rw[hx,xB,ug,oe]
 all_goals (first |rfl |(simp_all;done))
theorem VO{R:Type}{en:Bd}{σ τ:St}{o:Oper}{K:G2->Option R}(hb:σ.Am=τ.Am)(h:∀x∈o.op.operands,σ.B5 x=τ.B5 x):Tk en σ o K=Tk en τ o K:=by
 have ha:bZ en σ o=bZ en τ o:=by
  obtain⟨dst,op,type,pos,after,guard⟩:=o;unfold bZ;cases op<;>simp only[Op.operands]at h<;>dsimp only
  case load t x=>rw[h x (by simp),hb]
  case build t ps=>rw[V8 (l:=ps.toList) λx hx=>h x (by simpa using hx)]
  case index t x i=>rw[h x (by simp),h i (by simp)]
  case field t x f=>rw[h x (by simp)]
  case indexAddr t x i=>rw[h x (by simp),h i (by simp)]
  case call c =>
   have ha:Oj σ c.args=Oj τ c.args:=SK λx hx=>h x (by simp[Call.operands,Array.mem_toList_iff.1 hx]);rw[ha]
 have hs:pe en σ o=pe en τ o:=by
  obtain⟨dst,op,type,pos,after,guard⟩:=o;unfold pe wJ;cases op<;>simp only[Op.operands]at h<;>dsimp only
  case store t x v=>rw[h x (by simp),h v (by simp),hb]
 have ht:tlE en σ o=tlE en τ o:=by
  obtain⟨dst,op,type,pos,after,guard⟩:=o;unfold tlE;cases op<;>simp only[Op.operands]at h<;>dsimp only
  case slice t x lo hi mx =>
   cases lo with
   |none=>rfl
   |some lo=>cases hi with
    |some _=>rfl
    |none=>cases mx with
     |some _=>rfl
     |none=>dsimp only;rw[h x (by simp),h lo (by simp),hb]
  case indexAddr t x i=>rw[h x (by simp),h i (by simp),hb]
  case call c =>
   have ha:Oj σ c.args=Oj τ c.args:=SK λx hx=>h x (by simp[Call.operands,Array.mem_toList_iff.1 hx]);rw[ha,hb]
 unfold Tk;rw[ha,hs,ht,hb];split
 ·rfl
 split
 ·rfl
 split
 ·rfl
 ·split
  ·have hd:cJ en o=cJ en o:=rfl;cases cJ en o
   ·exact VP hb h
   ·simp only[AHb];rw[show τ.Am=σ.Am from hb.symm];exact VP hb h
  ·exact VP hb h
theorem rk{R:Type}{en:Bd}{σ τ:St}{o:Oper}{K:G2->Option R}(hb:σ.Am=τ.Am)(h:∀x∈o.op.operands,σ.B5 x=τ.B5 x):exec en σ o K=exec en τ o K:=by
 unfold exec;split
 ·rename_i c d ho _;have ha:Oj σ c.args=Oj τ c.args:=SK λx hx=>h x (by rw[ho];simp[Op.operands,Call.operands,Array.mem_toList_iff.1 hx]);rw[ha,hb];split
  ·split
   ·exact VO rfl h
   ·rfl
  ·exact VO hb h
 ·exact VO hb h
theorem LS:∀a:AV,a.M3 id=a
 |.AA ks t x=>by simp[AV.M3]
 |.Eh ks t x=>by simp[AV.M3]
 |.Ak k=>rfl
 |.mp k=>rfl
 |.ptr k i p o=>rfl
 |.R1 _ _ _ _ _=>rfl
 |.TR _ _ _ _ _ _=>rfl
 |.pr a b=>by simp[AV.M3,LS a,LS b]
 |.fn g c=>by simp[AV.M3,LS c]
 |.cons a b=>by simp[AV.M3,LS a,LS b]
 |.zs=>rfl
 |.Lw=>rfl
 |.nil=>rfl
 |.un n=>rfl
theorem Xn(b:Blk):b.M3 id=b:=by
 cases b with
 |AH=>rfl
 |map m kt vt es st=>cases m<;>simp[Blk.M3,RM.M3]
 |Qk e t xs i p=>rfl
 |tail e t xs=>rfl
 |box a=>simp[Blk.M3,LS]
 |row e m t xs=>cases m<;>simp[Blk.M3,RM.M3]
def Uw(bs:List Blk):Prop:=∀(k:Nat) (x:Blk),bs[k]?=some x->∀j∈x.Cf,j<bs.length
theorem yY{w:World}{g:G}{n k:Nat}{x:Blk}(h:LP w g n k x):∀j∈x.Cf,j<n:=by
 cases x with
 |AH=>intro j hj;cases hj
 |map m kt vt es st=>exact h.1
 |Qk e t xs i p=>intro j hj;cases hj
 |tail e t xs=>intro j hj;cases hj
 |box a=>obtain⟨_,_,_,_,_,_,_,hx⟩:=h;exact Cq.RO a false hx
 |row e m t xs=>exact h.1
theorem Bc.scp{w:World}{g:G}{bs:List Blk}(H:Bc w g bs):Uw bs:=λk x hx=>yY (H.Lf k x hx)
def G.cut(g:G)(n:Nat):G:=⟨λb=>match g.own b with |.BG k r=>if k<n then .BG k r else .no |t=>t,g.AU⟩
def G.Yu(g g':G)(n:Nat):G:=⟨λb=>match g.own b with |.BG k r=>if k<n then g'.own b else .BG k r |_=>g'.own b,λk=>if k<n then g'.AU k else g.AU k⟩
section
variable {P:Program} {o:Oper} {e:G2}
theorem aW{g:G}{n k:Nat}(hk:k<n):Ren id g (g.cut n) n k:=⟨hk,rfl,λb r h=>by simp[G.cut,h,hk]⟩
theorem w8{σ:St}(O4:MP P σ o e)(hm:e.Bw=[]){l l':List Blk}(rD:e.Am=σ.Am++l')(hor:l=[]\/l'=[]){w:World}{g:G}{a:Act}(H:Bc w g (σ.Am++l))(hsc:Uw σ.Am)(hlen:σ.AJ.length=a.tmps.size)
    (Iz:∀(i:Nat) (x:AV),σ.AJ[i]?=some x->BR w g (σ.Am++l).length x (a.tmps.getD i undef)/\∀k∈x.Cf,k<σ.Am.length) {next:Act->World->Prop} {Q:Exit->Act->World->Prop}
    (hn:∀v w' g',Bc w' g' (σ.Am++(l++l'))->BR w' g' (σ.Am++(l++l')).length e.val v->(∀k∈e.val.Cf,k<e.Am.length)->Step [] (σ.Am++l).length w g w' g'->next (a.put o.dst v) w'):o.wp P a w next Q:=by
 rcases hor with rfl |rfl
 ·simp only[AHA,List.nil_append]at H Iz hn;refine O4.wp a w g ⟨H,hlen,λi x hx=>(Iz i x hx).1⟩ next Q λv w' g' H' hv BH=>?_
  rw[hm]at BH;rw[rD]at H' hv;exact hn v w' g' H' hv (by rw[rD];exact hv.RO) BH
 ·simp only[AHA]at rD hn
  let n:=σ.Am.length
  have hnl:n<=(σ.Am++l).length:=by simp[n]
  have V0:∀k,k<n->Ren id g (g.cut n) n k:=λk hk=>aW hk;have de:∀b,g.own b=.H8->(g.cut n).own b=.H8:=λb h=>by simp[G.cut,h]
  have Hr:Bc w (g.cut n) σ.Am:=by
   refine⟨λb hb=>by simp[G.cut,H.BN b hb],λk x hx=>?_⟩;have hk:=AP hx;have h1:=H.Lf k x (by rw[AHi hk];exact hx);have:=h1.M3 (φ:=id) de (V0 k hk) λj hj=>V0 j (hsc k x hx j hj);rwa [Xn]at this
  refine O4.wp a w (g.cut n) ⟨Hr,hlen,λi x hx=>?_⟩ next Q λv w' g' H' hv BH=>?_
  ·obtain⟨h1,h2⟩:=Iz i x hx;have:=h1.M3 (φ:=id) (g':=g.cut n) (n':=n) de λk hk=>V0 k (h2 k hk);rwa [LS]at this
  ·rw[hm]at BH;rw[rD]at H' hv;have Afn:∀b,g.own b≠.no->b<w.heap.size:=λb h=>Rv H h;have kl:∀b k r,g.own b=.BG k r->¬k<n->g'.own b=.no/\w'.heap[b]?=w.heap[b]?:=λb k r h hk=>BH.no b (Afn b (by rw[h];simp)) (by simp[G.cut,h,hk]);have st:Step [] (σ.Am++l).length w g w' (g.Yu g' n):=by
    refine⟨BH.os,BH.tape,BH.output,BH.size,λb hb h=>?_,λb h=>?_,λb k r h hk hm=>?_,λk hk=>?_⟩
    ·have:=BH.no b hb (by simp[G.cut,h]);exact⟨by simp[G.Yu,h,this.1],this.2⟩
    ·have:=BH.H8 b (de b h);exact⟨by simp[G.Yu,h,this.1],this.2⟩
    ·by_cases dh:k<n
     ·have:=BH.BG b k r (by simp[G.cut,h,dh]) dh (by simp);exact⟨by simp[G.Yu,h,dh,this.1],this.2⟩
     ·exact⟨by simp[G.Yu,h,dh],(kl b k r h dh).2⟩
    ·by_cases dh:k<n
     ·have:=BH.AU k dh;simp only[G.Yu,AHd dh,this];rfl
     ·simp[G.Yu,dh]
   have Abb:∀k,k<n->Ren id g' (g.Yu g' n) (σ.Am++l).length k:=λk hk=>by
    refine⟨by show k<_;omega,by simp[G.Yu,hk],λb r h=>?_⟩;simp only[G.Yu,id];split
    ·rename_i k' r' hg;split
     ·exact h
     ·rename_i TV;rw[(kl b k' r' hg TV).1]at h;cases h
    ·exact h
   have AgI:∀b,g'.own b=.H8->(g.Yu g' n).own b=.H8:=λb h=>by
    simp only[G.Yu];split
    ·rename_i k' r' hg;split
     ·exact h
     ·rename_i TV;rw[(kl b k' r' hg TV).1]at h;cases h
    ·exact h
   refine hn v w' (g.Yu g' n) ⟨λb hb=>?_,λk x hx=>?_⟩ ?_ (by rw[rD];exact hv.RO) st
   ·have h1:=H'.BN b hb;have h2:=H.BN b (AHp BH.size hb);simp[G.Yu,h2,h1]
   ·by_cases hk:k<n
    ·rw[AHi hk]at hx;have:=(H'.Lf k x hx).M3 (φ:=id) AgI (Abb k hk) λj hj=>Abb j (hsc k x hx j hj);rwa [Xn]at this
    ·exact(H.Lf k x hx).PW st (AG1 _) (AP hx)
   ·have:=hv.M3 (φ:=id) AgI λk hk=>Abb k (hv.RO k hk);rwa [LS]at this
end
theorem dG:∀(r l:List Nat) {x:Nat},x∈aM l r->x∈l\/x∈r
 |[],_,_,h=>.inl h
 |k::r,l,x,h=>by
  simp only[aM]at h;split at h
  ·rcases dG r l h with h |h
   ·exact .inl h
   ·exact .inr (by simp[h])
  ·rcases dG r _ h with h |h
   ·rcases List.mem_append.1 h with h |h
    ·exact .inl h
    ·simp at h;exact .inr (by simp[h])
   ·exact .inr (by simp[h])
def gl(all:List Oper)(A:List (Nat×List Nat)):Prop:=∀i x,x∈DV A i->x∈Sj all i\/∃d∈Sj all i,x∈DV A d
theorem gu(all:List Oper):∀(is:List Nat) (A:List (Nat×List Nat)),gl all A->nodup is=true->(∀i∈is,∀p∈A,p.1≠i)->gl all (VF all is A)
 |[],_,h,_,_=>h
 |i::is,A,h,hn,hf=>by
  simp only[nodup,AG2,Bool.not_eq_true']at hn;refine gu all is _ ?_ hn.2 ?_
  ·have wj:∀d y,y∈DV A d->y∈DV ((i,aM [] (Sj all i++(Sj all i).flatMap (DV A)))::A) d:=by
     intro d y hy;simp only[DV];split
     ·rename_i he;have he:i=d:=by simpa using he
      subst he;have:∀(A:List (Nat×List Nat)),(∀p∈A,p.1≠i)->DV A i=[]:=by
       intro A;induction A with
       |nil=>exact λ_=>rfl
       |cons p A ih =>
        intro hp;obtain⟨k,l⟩:=p;simp only[DV];rw[AHe (by simpa using hp (k,l) (by simp))];exact ih λq hq=>hp q (by simp[hq])
      rw[this A (hf i (by simp))]at hy;cases hy
     ·exact hy
   intro j x hx;by_cases he:i=j
   ·subst he;simp only[DV,beq_self_eq_true,if_true]at hx;rcases dG _ _ hx with hx |hx
    ·cases hx
    ·rcases List.mem_append.1 hx with hx |hx
     ·exact .inl hx
     ·obtain⟨d,hd,hx⟩:=List.mem_flatMap.1 hx;exact .inr ⟨d,hd,wj d x hx⟩
   ·simp only[DV]at hx;rw[AHe (by simpa using he)]at hx;rcases h j x hx with h |⟨d,hd,hx⟩
    ·exact .inl h
    ·exact .inr ⟨d,hd,wj d x hx⟩
  ·intro j hj p hp;rcases List.mem_cons.1 hp with rfl |hp
   ·intro e;have e:i=j:=e;subst e;have:=hn.1;simp[hj]at this
   ·exact hf j (by simp[hj]) p hp
def bJ(A:List (Nat×List Nat))(D:Nat->Bool):Prop:=∀i,D i=true->∀x∈DV A i,D x=true
theorem iW{all:List Oper}{A:List (Nat×List Nat)}(hA:gl all A){D:Nat->Bool}(hc:bJ A D){i:Nat}(hd:∀d∈Sj all i,D d=true):∀x∈DV A i,D x=true:=λx hx=>by
 rcases hA i x hx with h |⟨d,hdi,h⟩
 ·exact hd x h
 ·exact hc d (hd d hdi) x h
structure Ib where
 i:Nat
 o:Oper
 σ:St
 e:Option G2
def Ib.val(t:Ib):AV:=match t.e with |some e=>e.val |none=>.nil
def Ib.post(t:Ib):St:=match t.e with |some e=>t.σ.after t.o.dst e |none=>t.σ.skip t.o.dst
def Ib.ft(t:Ib):Bool:=match t.e with |some e=>!e.Bw.isEmpty |none=>false
def Ib.grow(t:Ib):Bool:=match t.e with |some e=>e.Bw.isEmpty&&decide (e.Am.length≠t.σ.Am.length)|none=>false
def Ib.Ok(en:Bd)(all:List Oper)(t:Ib):Prop:=all[t.i]?=some t.o/\match t.e with |some e=>Want all t.σ t.o true/\exec en t.σ t.o some=some e |none=>Want all t.σ t.o false
inductive Tr (en:Bd) (all:List Oper) (A:List (Nat×List Nat)):List Nat->List Nat->St->List Ib->St->Prop
 |nil {done M5:List Nat} {σ:St}:Tr en all A done M5 σ [] σ
 |cons {done M5:List Nat} {σ σ':St} {t:Ib} {ts:List Ib} (hσ:t.σ=σ) (ok:t.Ok en all) (ha:∀x∈M5,x∈DV A t.i) (hb:t.ft=true->∀x∈done,x∈DV A t.i)
     (next:Tr en all A (t.i::done) (if t.ft||t.grow then t.i::M5 else M5) t.post ts σ'):Tr en all A done M5 σ (t::ts) σ'
section
variable {en:Bd} {all:List Oper} {A:List (Nat×List Nat)}
theorem Yo(he:WT en):∀{is done M5:List Nat} {σ σ':St},Sm en all A is done M5 σ some=some σ'->∃ts:List Ib,ts.map (·.i)=is/\Tr en all A done M5 σ ts σ'
 |[],done,M5,σ,σ',h=>by
  simp only[Sm,AGX]at h;subst h;exact⟨[],rfl,.nil⟩
 |i::is,done,M5,σ,σ',h=>by
  simp only[Sm]at h;split at h
  ·cases h
  ·rename_i o ho;split at h
   ·rename_i AzW;have Aa9:∀x∈M5,x∈DV A i:=λx hx=>by have:=List.all_eq_true.1 AzW x hx;simpa using this
    rcases Oy h with ⟨hw,h⟩|⟨hw,h⟩
    ·rw[Q1 en he]at h;cases hx:exec en σ o some with
     |none=>rw[hx]at h;cases h
     |some e =>
      rw[hx]at h;simp only[AGV]at h;split at h
      ·rename_i hm;obtain⟨ts,h1,h2⟩:=Yo he h;refine⟨⟨i,o,σ,some e⟩::ts,by simp[h1],.cons rfl ⟨ho,hw,hx⟩ Aa9 (λhb=>?_) ?_⟩
       ·simp[Ib.ft,hm]at hb
       ·simp only[Ib.ft,Ib.grow,hm,Bool.not_true,Bool.false_or,Bool.true_and,Ib.post];by_cases hl:e.Am.length=σ.Am.length
        ·simpa [hl]using h2
        ·simpa [hl]using h2
      ·rename_i hm;split at h
       ·rename_i Z0;obtain⟨ts,h1,h2⟩:=Yo he h;refine⟨⟨i,o,σ,some e⟩::ts,by simp[h1],.cons rfl ⟨ho,hw,hx⟩ Aa9 (λhb x hx=>?_) ?_⟩
        ·have:=List.all_eq_true.1 Z0 x hx;simpa using this
        ·simp only[Ib.ft,Ib.post];have hm':e.Bw.isEmpty=false:=by simpa using hm
         simpa [hm']using h2
       ·cases h
    ·obtain⟨ts,h1,h2⟩:=Yo he h;refine⟨⟨i,o,σ,none⟩::ts,by simp[h1],.cons rfl ⟨ho,hw⟩ Aa9 (λhb=>by cases hb) ?_⟩;simpa [Ib.ft,Ib.grow,Ib.post]using h2
   ·cases h
theorem Tr.yM:∀{ts:List Ib} {done M5:List Nat} {σ σ':St},Tr en all A done M5 σ ts σ'->∀x∈M5,∀u∈ts,x∈DV A u.i
 |[],_,_,_,_,_,_,_,_,hu=>by cases hu
 |t::ts,_,_,_,_,.cons _ _ ha _ next,x,hx,u,hu=>by
  rcases List.mem_cons.1 hu with rfl |hu
  ·exact ha x hx
  ·exact next.yM x (by split<;>simp[hx]) u hu
theorem Tr.Xa:∀{B6 post:List Ib} {t:Ib} {done M5:List Nat} {σ σ':St},Tr en all A done M5 σ (B6++t::post) σ' ->
    ((t.ft||t.grow)=true->∀u∈post,t.i∈DV A u.i)/\(t.ft=true->(∀x∈done,x∈DV A t.i)/\∀u∈B6,u.i∈DV A t.i)
 |[],post,t,done,M5,σ,σ',.cons hσ ok ha hb next=>by
  refine⟨λh u hu=>next.yM t.i (by rw[AHd h];simp) u hu,λh=>⟨hb h,λu hu=>by cases hu⟩⟩
 |p::B6,post,t,done,M5,σ,σ',.cons hσ ok ha hb next=>by
  obtain⟨h1,h2⟩:=next.Xa
  refine⟨h1,λh=>⟨λx hx=>(h2 h).1 x (by simp[hx]),λu hu=>?_⟩⟩;rcases List.mem_cons.1 hu with rfl |hu
  ·exact(h2 h).1 u.i (by simp)
  ·exact(h2 h).2 u hu
theorem Tr.split:∀{B6 ts:List Ib} {done M5:List Nat} {σ σ':St},Tr en all A done M5 σ (B6++ts) σ'->∃vg σ1,Tr en all A done M5 σ B6 σ1/\Tr en all A ((B6.map (·.i)).reverse++done) vg σ1 ts σ'
 |[],ts,done,M5,σ,σ',h=>⟨M5,σ,.nil,h⟩
 |p::B6,ts,done,M5,σ,σ',.cons hσ ok ha hb next=>by
  obtain⟨vg,σ1,h1,h2⟩:=next.split
  exact⟨vg,σ1,.cons hσ ok ha hb h1,by simpa using h2⟩
theorem Tr.Aco:∀{ts:List Ib} {done M5:List Nat} {σ σ':St},Tr en all A done M5 σ ts σ'->∀u∈ts,u.Ok en all
 |[],_,_,_,_,_,_,hu=>by cases hu
 |t::ts,_,_,_,_,.cons _ ok _ _ next,u,hu=>by
  rcases List.mem_cons.1 hu with rfl |hu
  ·exact ok
  ·exact next.Aco u hu
end
def Lg(D:Nat->Bool):List Ib->List AV->List AV
 |[],sl=>sl
 |t::ts,sl=>Lg D ts (if D t.i then WX t.o.dst t.val sl else sl)
def Ib.nb(t:Ib)(bs:List Blk):List Blk:=match t.e with |some e=>e.Am |none=>bs
def G3(D:Nat->Bool):List Ib->List Blk->List Blk
 |[],bs=>bs
 |t::ts,bs=>G3 D ts (if D t.i&&t.grow then t.nb bs else bs)
theorem br{d:Option Nat}{v:AV}{sl:List AV}{k:Nat}(h:d≠some k):(WX d v sl)[k]?=sl[k]?:=by
 cases d with
 |none=>rfl
 |some d =>
  have:d≠k:=λe=>h (by rw[e]);simp[WX,AHk,this]
theorem dR{d:Option Nat}{v:AV}{sl sl':List AV}{k:Nat}(h:sl[k]?=sl'[k]?):(WX d v sl)[k]?=(WX d v sl')[k]?:=by
 cases d with
 |none=>exact h
 |some d =>
  simp only[WX,AHk];split
  ·rename_i e;subst e;have:d<sl.length↔d<sl'.length:=by
    constructor
    ·intro hl;rw[List.getElem?_eq_getElem hl]at h;exact AP h.symm
    ·intro hl;rw[List.getElem?_eq_getElem hl]at h;exact AP h
   by_cases hl:d<sl.length
   ·rw[AHd hl,AHd (this.1 hl)]
   ·rw[AHe hl,AHe (λh=>hl (this.2 h))]
  ·exact h
theorem iT{d:Nat}{v:AV}{sl:List AV}{x:AV}(h:(WX (some d) v sl)[d]?=some x):x=v:=by
 simp only[WX,AHk,if_true]at h;split at h
 ·injection h with h;exact h.symm
 ·cases h
theorem Yi(D:Nat->Bool):∀(ts:List Ib) (sl:List AV),(Lg D ts sl).length=sl.length
 |[],_=>rfl
 |t::ts,sl=>by
  rw[Lg,Yi D ts];split
  ·exact YJ ..
  ·rfl
theorem VM(D:Nat->Bool):∀(B6 ts:List Ib) (sl:List AV),Lg D (B6++ts) sl=Lg D ts (Lg D B6 sl)
 |[],_,_=>rfl
 |t::B6,ts,sl=>by rw[List.cons_append,Lg,Lg,VM D B6 ts]
theorem Yh(D:Nat->Bool):∀(B6 ts:List Ib) (bs:List Blk),G3 D (B6++ts) bs=G3 D ts (G3 D B6 bs)
 |[],_,_=>rfl
 |t::B6,ts,bs=>by rw[List.cons_append,G3,G3,Yh D B6 ts]
theorem cC{D:Nat->Bool}{k:Nat}:∀{ts:List Ib} {sl sl':List AV},sl[k]?=sl'[k]?->(Lg D ts sl)[k]?=(Lg D ts sl')[k]?
 |[],_,_,h=>h
 |t::ts,sl,sl',h=>by
  simp only[Lg];refine cC ?_;split
  ·exact dR h
  ·exact h
theorem Xt{D:Nat->Bool}{k:Nat}:∀{ts:List Ib} {sl sl':List AV},(∀u∈ts,D u.i=false->u.o.dst≠some k)->sl[k]?=sl'[k]?->(Lg D ts sl)[k]?=(Lg (λ_=>true) ts sl')[k]?
 |[],_,_,_,h=>h
 |t::ts,sl,sl',hu,h=>by
  simp only[Lg,if_true];refine Xt (λu hm=>hu u (by simp[hm])) ?_;cases hD:D t.i with
  |true=>simp only[if_true];exact dR h
  |false =>
   simp only[Bool.false_eq_true,if_false];rw[br (hu t (by simp) hD)];exact h
theorem Wv{D:Nat->Bool}{k:Nat}:∀{ts:List Ib} {sl:List AV},(∀u∈ts,D u.i=true->u.o.dst≠some k)->(Lg D ts sl)[k]?=sl[k]?
 |[],_,_=>rfl
 |t::ts,sl,hu=>by
  simp only[Lg];rw[Wv λu hm=>hu u (by simp[hm])];split
  ·rename_i h;exact br (hu t (by simp) h)
  ·rfl
theorem re{D D':Nat->Bool}:∀{ts:List Ib} {sl:List AV},(∀u∈ts,D u.i=D' u.i)->Lg D ts sl=Lg D' ts sl
 |[],_,_=>rfl
 |t::ts,sl,h=>by
  rw[Lg,Lg,h t (by simp)];exact re λu hu=>h u (by simp[hu])
theorem rb{D D':Nat->Bool}:∀{ts:List Ib} {bs:List Blk},(∀u∈ts,D u.i=D' u.i)->G3 D ts bs=G3 D' ts bs
 |[],_,_=>rfl
 |t::ts,bs,h=>by
  rw[G3,G3,h t (by simp)];exact rb λu hu=>h u (by simp[hu])
theorem Wu{D:Nat->Bool}:∀{ts:List Ib} {bs:List Blk},(∀u∈ts,D u.i=true->u.grow=false)->G3 D ts bs=bs
 |[],_,_=>rfl
 |t::ts,bs,h=>by
  rw[G3];have:(D t.i&&t.grow)=false:=by
   cases hD:D t.i with
   |false=>rfl
   |true=>rw[h t (by simp) hD];rfl
  rw[this];exact Wu λu hu=>h u (by simp[hu])
section
variable {P:Program} {en:Bd} {all:List Oper} {A:List (Nat×List Nat)}
theorem Yn(he:EnvOk P en){t:Ib}(ok:t.Ok en all)(hb:t.ft=false):∃l,t.post.Am=t.σ.Am++l/\(t.grow=false->l=[])/\(∀e,t.e=some e->e.Bw=[]/\e.Am=t.σ.Am++l)/\t.post.AJ=WX t.o.dst t.val t.σ.AJ:=by
 unfold Ib.Ok at ok;unfold Ib.ft at hb;unfold Ib.post Ib.grow Ib.val;cases hq:t.e with
 |none=>exact⟨[],by simp[St.skip],λ_=>rfl,λe h=>by(cases h),rfl⟩
 |some e =>
  rw[hq]at ok hb;have hm:e.Bw=[]:=by simpa using hb
  have O4:=Q2 he ok.2.2;obtain⟨l,hl⟩:=O4.ext hm;refine⟨l,hl,λh=>?_,λe' h=>by injection h with h;subst h;exact⟨hm,hl⟩,?_⟩
  ·simp only[hm,List.isEmpty_nil,Bool.true_and,decide_eq_false_iff_not,ne_eq,Decidable.not_not]at h;rw[hl,AGZ]at h;exact List.eq_nil_of_length_eq_zero (by omega)
  ·simp only[St.after,hm,Sk]
theorem Tr.gq(he:EnvOk P en):∀{ts:List Ib} {done M5:List Nat} {σ σ':St},Tr en all A done M5 σ ts σ'->(∀u∈ts,u.ft=false)->σ'.AJ=Lg (λ_=>true) ts σ.AJ/\σ'.Am=G3 (λ_=>true) ts σ.Am/\(∃l,σ'.Am=σ.Am++l)
 |[],_,_,_,_,.nil,_=>⟨rfl,rfl,[],(AHA _).symm⟩
 |t::ts,done,M5,σ,σ',.cons hσ ok ha hb next,Ro=>by
  obtain⟨l,h1,h2,h3,h4⟩:=Yn he ok (Ro t (by simp));obtain⟨i1,i2,l',i3⟩:=next.gq he λu hu=>Ro u (by simp[hu])
  subst hσ;refine⟨by rw[i1,Lg,AHd rfl,h4],?_,l++l',by rw[i3,h1,AG3]⟩;rw[i2,G3,Bool.true_and];congr 1;cases hg:t.grow with
  |false=>rw[h1,h2 hg,AHA];rfl
  |true =>
   cases hq:t.e with
   |none=>simp[Ib.grow,hq]at hg
   |some e=>simp only[if_true,Ib.nb,hq];rw[h1,(h3 e hq).2]
theorem Tr.np(he:EnvOk P en)(D:Nat->Bool):∀{ts:List Ib} {done M5:List Nat} {σ σ':St},Tr en all A done M5 σ ts σ'->(∀u∈ts,u.ft=false)->∀(b0:List Blk),(∃l,σ.Am=b0++l)->∀bs,(∃l,bs=b0++l)->∃l,G3 D ts bs=b0++l
 |[],_,_,_,_,_,_,_,_,_,h=>h
 |t::ts,done,M5,σ,σ',.cons hσ ok ha hb next,Ro,b0,hb0,bs,hbs=>by
  obtain⟨l,h1,h2,h3,h4⟩:=Yn he ok (Ro t (by simp));obtain⟨l0,bl⟩:=hb0;subst hσ;rw[G3];refine next.np he D (λu hu=>Ro u (by simp[hu])) b0 ⟨l0++l,by rw[h1,bl,AG3]⟩ _ ?_
  split
  ·cases hq:t.e with
   |none=>simpa [Ib.nb,hq]using hbs
   |some e=>exact⟨l0++l,by simp only[Ib.nb,hq];rw[(h3 e hq).2,bl,AG3]⟩
  ·exact hbs
end
theorem Zv:∀{Ap:List Nat} {l:List AV} {j i:Nat},(j+i)∈Ap->(Qb Ap j l)[i]?=l[i]?
 |Ap,a::r,j,0,h=>by
  have h':j∈Ap:=h;simp[Qb,h']
 |Ap,a::r,j,i+1,h=>by
  simp only[Qb,List.getElem?_cons_succ];exact Zv (by rwa [show j+1+i=j+(i+1) by omega])
 |_,[],_,_,_=>by simp[Qb]
theorem ik:∀{Ap:List Nat} {l:List AV} {j i:Nat} {x:AV},(j+i)∉Ap->(Qb Ap j l)[i]?=some x->x=.un 0
 |Ap,a::r,j,0,x,h,hx=>by
  have:Ap.contains j=false:=by simpa using h
  simp only[Qb,this,Bool.false_eq_true,if_false,List.getElem?_cons_zero,AGX]at hx;exact hx.symm
 |Ap,a::r,j,i+1,x,h,hx=>by
  simp only[Qb,List.getElem?_cons_succ]at hx;exact ik (by rwa [show j+1+i=j+(i+1) by omega]) hx
 |_,[],_,_,_,_,hx=>by simp[Qb]at hx
def oO(BW:Array Oper)(o:Oper)(σ:St):St:=⟨Qb (o.looksAt BW) 0 σ.AJ,σ.Am⟩
theorem wC{en:Bd}{BW:Array Oper}{o:Oper}{σ:St}{K:G2->Option G2}:exec en (oO BW o σ) o K=exec en σ o K:=by
 refine rk rfl λx hx=>?_;cases x with
 |tmp t =>
  have:t∈o.looksAt BW:=AHt _ (List.mem_filterMap.2 ⟨.tmp t,by simpa using hx,rfl⟩);simp only[St.B5,oO];rw[Zv (j:=0) (by simpa using this)]
 |const v=>rfl
 |global g=>rfl
 |func f=>rfl
theorem Xr{D:Nat->Bool}:∀{ts:List Ib} {bs:List Blk},(∀u∈ts,u.grow=true->D u.i=true)->G3 D ts bs=G3 (λ_=>true) ts bs
 |[],_,_=>rfl
 |t::ts,bs,h=>by
  rw[G3,G3];have:(D t.i&&t.grow)=(true&&t.grow):=by
   cases hg:t.grow with
   |false=>simp
   |true=>rw[h t (by simp) hg]
  rw[this];exact Xr λu hu=>h u (by simp[hu])
theorem gR{t:Ib}{e:G2}(h:t.e=some e):t.post.Am=e.Am:=by simp[Ib.post,h,St.after]
theorem cA{D:Nat->Bool}:∀{ts:List Ib} {bs:List Blk},G3 D ts bs=bs\/∃u∈ts,D u.i=true/\u.grow=true/\G3 D ts bs=u.post.Am
 |[],_=>.inl rfl
 |t::ts,bs=>by
  rw[G3];rcases cA (D:=D) (ts:=ts) (bs:=if D t.i&&t.grow then t.nb bs else bs)with h |⟨u,hu,h1,h2,h3⟩
  ·rw[h];split
   ·rename_i hc;rw[AG2]at hc;cases hq:t.e with
    |none=>exact .inl (by simp[Ib.nb,hq])
    |some e=>exact .inr ⟨t,by simp,hc.1,hc.2,by rw[gR hq];simp[Ib.nb,hq]⟩
   ·exact .inl rfl
  ·exact .inr ⟨u,by simp[hu],h1,h2,h3⟩
theorem cB:∀{ts:List Ib} {sl:List AV} {k:Nat} {x:AV},(Lg (λ_=>true) ts sl)[k]?=some x->sl[k]?=some x\/∃B6 u post,ts=B6++u::post/\u.o.dst=some k/\x=u.val
 |[],_,_,_,h=>.inl h
 |t::ts,sl,k,x,h=>by
  simp only[Lg,if_true]at h;rcases cB h with h |⟨B6,u,post,e,h1,h2⟩
  ·by_cases hd:t.o.dst=some k
   ·rw[hd]at h;exact .inr ⟨[],t,ts,rfl,hd,iT h⟩
   ·rw[br hd]at h;exact .inl h
  ·exact .inr ⟨t::B6,u,post,by rw[e];rfl,h1,h2⟩
structure Inv (P:Program) (A:List (Nat×List Nat)) (N:Nat) (done:List Nat) (HS:List Ib) (σ:St) (m:Nat) (a0:Act) (w0:World) (g0:G) (D:Nat->Bool) (a:Act) (w:World) (g:G):Prop where
 ru:∀i∈done,D i=true
 only:∀i,D i=true->i∈done\/∃u∈HS,u.i=i
 cx:bJ A D
 dfr:a.defers=a0.defers
 len:σ.AJ.length=a.tmps.size
 step:Bu m w0 g0 w g
 heap:Bc w g (G3 D HS σ.Am)
 AJ:∀(i:Nat) (x:AV),(Lg D HS σ.AJ)[i]?=some x->BR w g (G3 D HS σ.Am).length x (a.tmps.getD i undef)
 Cf:∀u∈HS,D u.i=true->∀k∈u.val.Cf,k<u.post.Am.length
 scp:∀u∈HS,D u.i=true->u.grow=true->Uw u.post.Am
section
variable {P:Program} {en:Bd} {BW:Array Oper} {A:List (Nat×List Nat)} {N m:Nat} {done M5:List Nat} {HS B6 post:List Ib} {t:Ib} {σ σ1:St} {a0 a:Act} {w0 w:World} {g0 g:G} {D:Nat->Bool}
theorem Inv.find(he:EnvOk P en)(Ui:Inv P A N done HS σ m a0 w0 g0 D a w g)(aH:Tr en BW.toList A done M5 σ HS σ1)(Ro:∀u∈HS,u.ft=false)(Ql:HS=B6++t::post)(Qm:D t.i=false)(UE:∀x∈DV A t.i,D x=true)
    (XD:∀u∈B6,u.i∈DV A t.i\/u.o.apart BW t.o=true) (Z2:∀u∈post,t.i∈DV A u.i\/t.o.apart BW u.o=true)
    (h0:∀(i:Nat) (x:AV),σ.AJ[i]?=some x->∀k∈x.Cf,k<σ.Am.length) (fI:Uw σ.Am) :
    (∃l,G3 D HS σ.Am=t.σ.Am++l/\G3 D post t.σ.Am=t.σ.Am++l/\(t.grow=true->l=[]))/\Uw t.σ.Am/\t.σ.AJ.length=a.tmps.size/\(∀u∈post,D u.i=true->t.grow=false/\t.o.apart BW u.o=true)/\(∀u∈B6,u.grow=true->D u.i=true)/\G3 D B6 σ.Am=t.σ.Am /\
     (∀k∈t.o.looksAt BW,∀x,t.σ.AJ[k]?=some x->BR w g (G3 D HS σ.Am).length x (a.tmps.getD k undef)/\∀j∈x.Cf,j<t.σ.Am.length):=by
 subst Ql;obtain⟨vg,σt,htp,v7⟩:=aH.split;have hpb:∀u∈B6,u.ft=false:=λu hu=>Ro u (by simp[hu]);obtain⟨Qa,WE,l0,oo⟩:=htp.gq he hpb;cases v7 with
 |cons hσ ok ha hb next =>
  subst hσ;have hgp:∀u∈B6,u.grow=true->D u.i=true:=λu hu hg=>by
   obtain⟨p1,p2,rfl⟩:=List.append_of_mem hu;have AAQ:Tr en BW.toList A done M5 σ (p1++u::(p2++t::post)) σ1:=by simpa using aH
   exact UE _ (AAQ.Xa.1 (by simp[hg]) t (by simp))
  have hB:G3 D B6 σ.Am=t.σ.Am:=by rw[Xr hgp,<-WE]
  have Vi:∀u∈post,D u.i=true->t.i∉DV A u.i:=λu _ hd hm=>by
   rw[Ui.cx _ hd _ hm]at Qm;cases Qm
  have xA:t.grow=true->∀u∈post,D u.i=false:=λhg u hu=>by
   cases hd:D u.i with
   |false=>rfl
   |true=>exact(Vi u hu hd (aH.Xa.1 (by simp[hg]) u hu)).elim
  have Vj:G3 D (B6++t::post) σ.Am=G3 D post t.σ.Am:=by
   rw[Yh,G3,hB,Qm];rfl
  obtain⟨l1,e1,_,_,_⟩:=Yn he ok (Ro t (by simp));obtain⟨l,hl⟩:=next.np he D (λu hu=>Ro u (by simp[hu])) t.σ.Am ⟨l1,e1⟩ t.σ.Am ⟨[],(AHA _).symm⟩
  have hsc:Uw t.σ.Am:=by
   rw[<-hB];rcases cA (D:=D) (ts:=B6) (bs:=σ.Am)with h |⟨u,hu,h1,h2,h3⟩
   ·rw[h];exact fI
   ·rw[h3];exact Ui.scp u (by simp[hu]) h1 h2
  refine⟨⟨l,by rw[Vj];exact hl,hl,λhg=>?_⟩,hsc,by rw[Qa,Yi];exact Ui.len,λu hu hd=>⟨?_,?_⟩,hgp,hB,λk hk x hx=>⟨?_,?_⟩⟩
  ·have:=Wu (D:=D) (ts:=post) (bs:=t.σ.Am) λu hu hd=>by rw[xA hg u hu]at hd;cases hd
   rw[this]at hl;have h2:t.σ.Am.length=t.σ.Am.length+l.length:=by rw[<-AGZ,<-hl]
   exact List.eq_nil_of_length_eq_zero (by omega)
  ·cases hg:t.grow with
   |false=>rfl
   |true=>rw[xA hg u hu]at hd;cases hd
  ·exact(Z2 u hu).resolve_left (Vi u hu hd)
  ·have h1:(Lg D (B6++t::post) σ.AJ)[k]?=t.σ.AJ[k]?:=by
     rw[VM,Lg,Qm];simp only[Bool.false_eq_true,if_false];rw[Wv,Xt,<-Qa]
     ·intro u hu hd e;rcases XD u hu with h |h
      ·rw[UE _ h]at hd;cases hd
      ·exact(Oper.apart_spec h).1 k e hk
     ·rfl
     ·intro u hu hd e;have:=(Z2 u hu).resolve_left (Vi u hu hd);exact(Oper.apart_spec this).2.2 k e hk
   exact Ui.AJ k x (by rw[h1];exact hx)
  ·rw[Qa]at hx;rcases cB hx with h |⟨p1,u,p2,e,h1,rfl⟩
   ·intro j hj;have:=h0 k x h j hj;rw[oo,AGZ];omega
   ·intro j hj;have hu:u∈B6:=by rw[e];simp
    have hD:D u.i=true:=by
     rcases XD u hu with h |h
     ·exact UE _ h
     ·exact((Oper.apart_spec h).1 k h1 hk).elim
    have:=Ui.Cf u (by simp[hu]) hD j hj;subst e;obtain⟨AEE,σu,q1,q2⟩:=htp.split;cases q2 with
    |cons hσ' ok' ha' p9 next' =>
     obtain⟨_,_,l2,q3⟩:=next'.gq he λv hv=>hpb v (by simp[hv]);rw[q3,AGZ];omega
end
theorem Tx{a:Act}{d:Option Tmp}{v:Value}{k:Nat}(h:d≠some k):(a.put d v).tmps.getD k undef=a.tmps.getD k undef:=by
 cases d with
 |none=>rfl
 |some d =>
  have:d≠k:=λe=>h (by rw[e]);simp[Act.put,Array.getElem?_setIfInBounds_ne this]
theorem Rb{a:Act}{k:Nat}{v:Value}(h:k<a.tmps.size):(a.put (some k) v).tmps.getD k undef=v:=by
 simp[Act.put,h]
section
variable {P:Program} {en:Bd} {BW:Array Oper} {A:List (Nat×List Nat)} {N m:Nat} {done M5:List Nat} {HS B6 post:List Ib} {t:Ib} {σ σ1:St} {a0 a:Act} {w0 w:World} {g0 g:G} {D D':Nat->Bool}
theorem Inv.next(he:EnvOk P en)(Ui:Inv P A N done HS σ m a0 w0 g0 D a w g)(aH:Tr en BW.toList A done M5 σ HS σ1)(Ro:∀u∈HS,u.ft=false)(Ql:HS=B6++t::post)(Qm:D t.i=false)(UE:∀x∈DV A t.i,D x=true)
    (XD:∀u∈B6,u.i∈DV A t.i\/u.o.apart BW t.o=true) (Z2:∀u∈post,t.i∈DV A u.i\/t.o.apart BW u.o=true)
    (h0:∀(i:Nat) (x:AV),σ.AJ[i]?=some x->∀k∈x.Cf,k<σ.Am.length) (fI:Uw σ.Am) (hm:m<=σ.Am.length)
    (nS:∀i,D' i=if i=t.i then true else D i) (hnp:∀u∈B6,u.i≠t.i) (hnq:∀u∈post,u.i≠t.i)
    {l l':List Blk} (hl:G3 D HS σ.Am=t.σ.Am++l) (rD:t.post.Am=t.σ.Am++l') (hlg:t.grow=true->l=[]) (AAk:t.grow=false->l'=[])
    {v:Value} {w':World} {g':G} (H':Bc w' g' (t.σ.Am++(l++l'))) (hv:BR w' g' (t.σ.Am++(l++l')).length t.val v) (P1:∀k∈t.val.Cf,k<t.post.Am.length) (st:Step [] (G3 D HS σ.Am).length w g w' g') :
    Inv P A N done HS σ m a0 w0 g0 D' (a.put t.o.dst v) w' g':=by
 obtain⟨_,hsc,hlen,Vi,hgp,hB,_⟩:=Ui.find he aH Ro Ql Qm UE XD Z2 h0 fI;have AzK:∃l0,t.σ.Am=σ.Am++l0:=by
  subst Ql;obtain⟨vg,σt,htp,v7⟩:=aH.split;cases v7 with
  |cons hσ ok ha hb next =>
   subst hσ;obtain⟨_,_,l0,oo⟩:=htp.gq he λu hu=>Ro u (by simp[hu]);exact⟨l0,oo⟩
 have Zs:t.Ok en BW.toList:=aH.Aco t (by rw[Ql];simp);obtain⟨l1,e1,e2,e3,_⟩:=Yn he Zs (Ro t (by rw[Ql];simp));have bm:l1=l':=List.append_cancel_left (e1.symm.trans rD);subst bm;have hDt:D' t.i=true:=by rw[nS];simp
 have hDp:∀u∈B6,D u.i=D' u.i:=λu hu=>by rw[nS,AHe (hnp u hu)]
 have hDq:∀u∈post,D u.i=D' u.i:=λu hu=>by rw[nS,AHe (hnq u hu)]
 have hB':G3 D' HS σ.Am=t.σ.Am++(l++l1):=by
  have h1:G3 D HS σ.Am=G3 D post t.σ.Am:=by
   rw[Ql,Yh,G3,hB,Qm];rfl
  rw[Ql,Yh,G3,<-rb hDp,hB,hDt,Bool.true_and,<-rb hDq];cases hg:t.grow with
  |false =>
   simp only[Bool.false_eq_true,if_false];rw[<-h1,hl,AAk hg,AHA]
  |true =>
   simp only[if_true];have AwX:∀u∈post,D u.i=true->u.grow=false:=λu hu hd=>by
    have:=(Vi u hu hd).1;rw[hg]at this;cases this
   rw[Wu AwX,hlg hg,List.nil_append];cases hq:t.e with
   |none=>simp[Ib.grow,hq]at hg
   |some e=>simp only[Ib.nb,hq];exact(e3 e hq).2
 have RX:(G3 D HS σ.Am).length<=(G3 D' HS σ.Am).length:=by rw[hl,hB'];simp
 refine⟨λi hi=>?_,λi hi=>?_,λi hi x hx=>?_,by rw[put_defers];exact Ui.dfr,by rw[Up];exact Ui.len,?_,by rw[hB'];exact H',λk x hx=>?_,λu hu hd=>?_,λu hu hd hg=>?_⟩
 ·rw[nS];split
  ·rfl
  ·exact Ui.ru i hi
 ·rw[nS]at hi;split at hi
  ·rename_i e;exact .inr ⟨t,by rw[Ql];simp,e.symm⟩
  ·exact Ui.only i hi
 ·rw[nS]at hi⊢;split
  ·rfl
  ·split at hi
   ·rename_i e;subst e;exact UE x hx
   ·exact Ui.cx i hi x hx
 ·refine Ui.step.trans (st.sH ?_);obtain⟨l0,bl⟩:=AzK;rw[hl,bl];simp only[AGZ];omega
 ·by_cases hd:t.o.dst=some k
  ·have ia:(Lg D' HS σ.AJ)[k]?=(WX (some k) t.val (Lg D' B6 σ.AJ))[k]?:=by
     rw[Ql,VM,Lg,hDt,AHd rfl,hd];refine Wv λu hu hd' e=>?_;rw[<-hDq u hu]at hd';exact(Oper.apart_spec (Vi u hu hd').2).2.1 k hd e
   rw[ia]at hx;have hval:=iT hx;subst hval;have fE:k<a.tmps.size:=by
    have:=AP hx;rw[YJ,Yi,Ui.len]at this;exact this
   rw[hd,Rb fE,hB'];exact hv
  ·rw[Tx hd];have ia:(Lg D' HS σ.AJ)[k]?=(Lg D HS σ.AJ)[k]?:=by
    rw[Ql,VM,VM,Lg,Lg,hDt,Qm,<-re hDq,<-re hDp];simp only[if_true,Bool.false_eq_true,if_false];exact cC (br hd)
   rw[ia]at hx;exact(Ui.AJ k x hx).PW st RX
 ·rw[nS]at hd;split at hd
  ·rename_i e;have hut:u=t:=by
    rw[Ql]at hu;rcases List.mem_append.1 hu with hu |hu
    ·exact(hnp u hu e).elim
    ·rcases List.mem_cons.1 hu with hu |hu
     ·exact hu
     ·exact(hnq u hu e).elim
   subst hut;exact P1
  ·exact Ui.Cf u hu hd
 ·rw[nS]at hd;split at hd
  ·rename_i e;have hut:u=t:=by
    rw[Ql]at hu;rcases List.mem_append.1 hu with hu |hu
    ·exact(hnp u hu e).elim
    ·rcases List.mem_cons.1 hu with hu |hu
     ·exact hu
     ·exact(hnq u hu e).elim
   subst hut;rw[hlg hg,List.nil_append]at H';rw[rD];exact H'.scp
  ·exact Ui.scp u hu hd hg
end
end Go.Va
