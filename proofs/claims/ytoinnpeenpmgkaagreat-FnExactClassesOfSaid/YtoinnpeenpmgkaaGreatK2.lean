import Derived.WalkKit
import Derived.ProofKit
import Derived.OpenShut
import Derived.JoinedCond
import Derived.ReadAgain
import Derived.Shelf.SortG.Plain
import Derived.Shelf.SortG.SortNone
import Derived.Shelf.SlicesG.CompactI
import Derived.KernelRfl
import Derived.Test.YtoinnpeenpmgkaaGreatShelf
import Derived.Test.YtoinnpeenpmgkaaGreatProg
import Derived.Test.YtoinnpeenpmgkaaGreatK1
set_option linter.unusedVariables false
set_option linter.unusedSimpArgs false
namespace Go.Va
def Wm(P:Program):Ty->TypeId->Bool
 |.int k,t=>match P.underlying t with |some (.int k')=>k==k' |_=>false
 |.bool,t=>match P.underlying t with |some .bool=>true |_=>false
 |.str,t=>match P.underlying t with |some .string=>true |_=>false
 |.sl u,t=>match P.underlying t with |some (.slice e)=>P.cellsOf e==u.size&&u.size !=0&&Wm P u e |_=>false
 |.Au a b,t=>match P.underlying t with
  |some (.struct fs)=>P.cellsOf t==a.size+b.size&&(match fs.toList with |f::r=>f.offset==0&&P.cellsOf f.type==a.size&&Wm P a f.type&&ig P b a.size r |[]=>false)
  |_=>false
 |_,_=>false
where ig (P:Program):Ty->Nat->AL7 Field->Bool
 |.Au a b,o,f::r=>f.offset==o&&P.cellsOf f.type==a.size&&Wm P a f.type&&ig P b (o+a.size) r
 |.unit,_,[]=>true
 |_,_,_=>false
def Ty.Wf:(t:Ty)->t.V->Prop
 |.int k,n=>k.min<=n/\n<=k.max
 |.str,s=>s.size<=maxLen
 |.Au a b,x=>a.Wf x.1/\b.Wf x.2
 |.sl t,xs=>xs.length<=maxLen/\∀x∈xs,t.Wf x
 |_,_=>True
section
variable {P:Program} {H:Type} {enc:TypeId×Value->H} {w:World} {base:Nat} {sp:Nat->Bool} {held:Bool}
def sU(w:World)(b:Nat):Prop:=b<w.heap.size
theorem TT{α β:Type}{f:α->AL8 β}{x:α}{l:AL7 α}{r:AL7 β}(h:(x::l).mapM f=some r):∃y ys,f x=some y/\l.mapM f=some ys/\r=y::ys:=by
 simp only[List.mapM_cons,Option.bind_eq_bind,Option.pure_def]at h;cases hx:f x with
 |none=>simp[hx]at h
 |some y =>
  cases hl:l.mapM f with
  |none=>simp[hx,hl]at h
  |some ys=>simp[hx,hl]at h;exact⟨y,ys,rfl,rfl,h.symm⟩
theorem jE(a:Addr)(k:Nat):(a.add k).block=a.block/\(a.add k).off=a.off+k:=by
 unfold Addr.add;split
 ·rename_i h;subst h;exact⟨rfl,rfl⟩
 ·exact⟨rfl,rfl⟩
theorem tF{a:Addr}{k:Nat}{v:Value}(h:w.cell? (a.add k)=some v):w.cell? ⟨a.block,a.off+k,none⟩=some v:=by
 unfold Addr.add at h;split at h
 ·rename_i hk;subst hk;cases a with
  |mk b o sp =>
   cases sp with
   |none=>exact h
   |some q =>
    simp only[World.cell?,Option.isSome_some,AJK]at h;split at h<;>cases h
 ·exact h
theorem qd{u:Ty}{s:Nat}(hs:s=u.size){a:Addr}{F:AL7 Value->AL8 (DataW H×AL7 MemPlace)}(ih:∀cs y,F cs=some y->∃x:u.V,Ha w (sU w) u x cs/\u.Wf x) :
    ∀(n i:Nat) (ys:AL7 (DataW H×AL7 MemPlace)),(List.range' i n).mapM (λi=>(w.cells? base (a.add (i*s)) s).bind F)=some ys ->
     ∃(xs:AL7 u.V) (ds:AL7 Value),xs.length=n/\Ct (Ha w (sU w) u) xs ds/\(∀x∈xs,u.Wf x)/\∀j v,ds[j]?=some v->w.cell? ⟨a.block,a.off+i*s+j,none⟩=some v
 |0,i,ys,_=>⟨[],[],rfl,rfl,λ_ h=>by(cases h),λj v h=>by simp at h⟩
 |n+1,i,ys,h=>by
  rw[List.range'_succ]at h;obtain⟨y,ys',h1,h2,_⟩:=TT h;obtain⟨c,hc,hF⟩:=Option.bind_eq_some_iff.1 h1;obtain⟨x,hx,hw⟩:=ih c y hF;obtain⟨_,SU,C9⟩:=World.cells?_some hc;obtain⟨xs,ds,hl,hr,hwf,hd⟩:=qd hs ih n (i+1) ys' h2;refine⟨x::xs,c++ds,by simp[hl],⟨c,ds,rfl,hx,hr⟩,λz hz=>by
   rcases List.mem_cons.1 hz with rfl |hz
   ·exact hw
   ·exact hwf z hz,λj v hj=>?_⟩
  rw[AJo]at hj;split at hj
  ·rename_i Bh;rw[<-C9 j (by omega)]at hj;have:=tF hj;rw[(jE _ _).1,(jE _ _).2]at this;exact this
  ·rename_i ae;have:=hd _ v hj;have h3:(i+1)*s=i*s+s:=by rw[AJ9,ALb]
   rw[show a.off+(i+1)*s+(j-c.length)=a.off+i*s+j by omega]at this;exact this
theorem Ahw:∀(ty:Ty),(∀(t:TypeId) (QC:Nat) (cs:AL7 Value) (y:DataW H×AL7 MemPlace),Wm P ty t=true->DataW.trod enc P w base sp held QC t cs=some y->∃x:ty.V,Ha w (sU w) ty x cs/\ty.Wf x) /\
    ∀(o QC:Nat) (fs:AL7 Field) (cs:AL7 Value) (ys:AL7 (DataW H×AL7 MemPlace)),Wm.ig P ty o fs=true->fs.mapM (λf=>DataW.trod enc P w base sp held QC f.type ((cs.drop f.offset).take (P.cellsOf f.type)))=some ys->cs.length=o+ty.size ->
     ∃x:ty.V,Ha w (sU w) ty x (cs.drop o)/\ty.Wf x:=by
 intro ty;induction ty with
 |int k =>
  refine⟨λt QC cs y hm h=>?_,λo QC fs cs ys hm=>by simp[Wm.ig]at hm⟩;simp only[Wm]at hm;split at hm
  ·rename_i k' hu;have:k=k':=by simpa using hm
   subst this;cases QC with
   |zero=>simp[DataW.trod]at h
   |succ n =>
    simp only[DataW.trod,hu]at h;split at h<;>try (rename_i he;cases he;done)
    all_goals try (cases h;done)
    all_goals try (rename_i he _;cases he;done)
    rename_i k1 k2 n2 he;injection he with he;injection he with he;subst he;split at h
    ·rename_i hc;obtain⟨hk,hwf⟩:=hc;subst hk;simp only[Lit.wf,AI5,AKl]at hwf;exact⟨n2,rfl,hwf⟩
    ·cases h
  ·cases hm
 |bool =>
  refine⟨λt QC cs y hm h=>?_,λo QC fs cs ys hm=>by simp[Wm.ig]at hm⟩;simp only[Wm]at hm;split at hm
  ·rename_i hu;cases QC with
   |zero=>simp[DataW.trod]at h
   |succ n =>
    simp only[DataW.trod,hu]at h;split at h<;>try (rename_i he;cases he;done)
    all_goals try (cases h;done)
    all_goals try (rename_i he _;cases he;done)
    rename_i b he;exact⟨b,rfl,trivial⟩
  ·cases hm
 |str =>
  refine⟨λt QC cs y hm h=>?_,λo QC fs cs ys hm=>by simp[Wm.ig]at hm⟩;simp only[Wm]at hm;split at hm
  ·rename_i hu;cases QC with
   |zero=>simp[DataW.trod]at h
   |succ n =>
    simp only[DataW.trod,hu]at h;split at h<;>try (rename_i he;cases he;done)
    all_goals try (cases h;done)
    all_goals try (rename_i he _;cases he;done)
    rename_i s he;split at h
    ·rename_i hc;exact⟨s,rfl,hc⟩
    ·cases h
  ·cases hm
 |unit =>
  refine⟨λt QC cs y hm=>by simp[Wm]at hm,λo QC fs cs ys hm h hl=>?_⟩;refine⟨(),?_,trivial⟩;show cs.drop o=[];rw[List.drop_eq_nil_iff];simp only[Ty.size]at hl;omega
 |QG z=>exact⟨λt QC cs y hm=>by simp[Wm]at hm,λo QC fs cs ys hm=>by simp[Wm.ig]at hm⟩
 |sl u ih =>
  refine⟨λt QC cs y hm h=>?_,λo QC fs cs ys hm=>by simp[Wm.ig]at hm⟩;simp only[Wm]at hm;split at hm
  ·rename_i e hu;simp only[AI5,AJ5,AKC]at hm;obtain⟨⟨KD,BH⟩,hm⟩:=hm;cases QC with
   |zero=>simp[DataW.trod]at h
   |succ n =>
    simp only[DataW.trod,hu]at h;split at h<;>try (rename_i he;cases he;done)
    all_goals try (cases h;done)
    all_goals try (rename_i he _;cases he;done)
    all_goals try (rename_i he _ _;cases he;done)
    ·exact⟨[],⟨none,0,[],rfl,AI4 _,rfl,.inl rfl⟩,AJU _,λx hx=>by(cases hx)⟩
    ·rename_i e' a len cap he;injection he with he;injection he with he;subst he;split at h
     ·rename_i hc;obtain⟨elems,Tx,_⟩:=Option.bind_eq_some_iff.1 h;rw[List.range_eq_range']at Tx;obtain⟨xs,ds,hxl,hr,hwf,hd⟩:=qd (u:=u) KD (λcs y hy=>ih.1 e n cs y hm hy) len 0 elems Tx;subst hxl;refine⟨xs,⟨some a,cap,ds,rfl,hc.2.1,hr,?_⟩,AJs hc.2.1 hc.2.2,hwf⟩;cases xs with
      |nil=>exact .inl rfl
      |cons x xs =>
       refine .inr ?_;rw[AJL,List.range'_succ]at Tx;obtain⟨y1,_,h1,_,_⟩:=TT Tx;obtain⟨c,M7,_⟩:=Option.bind_eq_some_iff.1 h1;obtain⟨_,SU,C9⟩:=World.cells?_some M7;have F6:=C9 0 (by omega);have Wu:a.spot=none/\sU w a.block:=by
        have YJ:∃v,c[0]?=some v:=⟨_,AJ6 (by omega)⟩;obtain⟨v,hv⟩:=YJ;rw[hv]at F6;have F6:w.cell? a=some v:=by simpa [Addr.add]using F6
        refine⟨?_,World.block_lt_of_cell? w a F6⟩;cases Wu:a.spot with
        |none=>rfl
        |some q =>
         unfold World.cell? at F6;rw[Wu]at F6;split at F6
         ·simp at F6
         ·cases F6
       refine⟨a.block,a.off,?_,Wu.2,λj v hj=>by simpa using hd j v hj⟩;cases a with
       |mk b o sp=>simp only at Wu;rw[Wu.1]
     ·cases h
  ·cases hm
 |Au a b iha ihb =>
  have main:∀(o QC:Nat) (f:Field) (r:AL7 Field) (cs:AL7 Value) (ys:AL7 (DataW H×AL7 MemPlace)),f.offset=o->P.cellsOf f.type=a.size->Wm P a f.type=true->Wm.ig P b (o+a.size) r=true ->
      (f::r).mapM (λf=>DataW.trod enc P w base sp held QC f.type ((cs.drop f.offset).take (P.cellsOf f.type)))=some ys->cs.length=o+(a.size+b.size)->∃x:(Ty.Au a b).V,Ha w (sU w) (.Au a b) x (cs.drop o)/\(Ty.Au a b).Wf x:=by
   intro o QC f r cs ys ho KD hma hmb h hl;obtain⟨y,ys',h1,h2,_⟩:=TT h;rw[ho,KD]at h1;obtain⟨xa,hra,hwa⟩:=iha.1 f.type QC _ y hma h1;obtain⟨xb,hrb,hwb⟩:=ihb.2 (o+a.size) QC r cs ys' hmb h2 (by omega);refine⟨(xa,xb),⟨_,_,?_,hra,hrb⟩,hwa,hwb⟩;rw[<-List.drop_drop];exact(AJ8 a.size (cs.drop o)).symm
  refine⟨λt QC cs y hm h=>?_,λo QC fs cs ys hm h hl=>?_⟩
  ·simp only[Wm]at hm;split at hm
   ·rename_i fs hu;rw[AI5]at hm;obtain⟨KD,hm⟩:=hm;have KD:P.cellsOf t=a.size+b.size:=by simpa using KD
    split at hm
    ·rename_i f r hfs;simp only[AI5,AJ5]at hm;obtain⟨⟨⟨h1,h2⟩,h3⟩,h4⟩:=hm;cases QC with
     |zero=>simp[DataW.trod]at h
     |succ n =>
      have BJ:(if cs.length=P.cellsOf t then(fs.toList.mapM λf=>DataW.trod enc P w base sp held n f.type ((cs.drop f.offset).take (P.cellsOf f.type))).map λxs=>((.agg (xs.map (·.1)):DataW H),xs.flatMap (·.2))else none)=some y:=by
       simp only[DataW.trod,hu]at h;exact h
      split at BJ
      ·rename_i SU;cases hq:fs.toList.mapM λf=>DataW.trod enc P w base sp held n f.type ((cs.drop f.offset).take (P.cellsOf f.type))with
       |none=>rw[hq]at BJ;cases BJ
       |some ys =>
        rw[hfs]at hq;have:=main 0 n f r cs ys h1 h2 h3 (by rw[AJu];exact h4) hq (by omega);simpa using this
      ·cases BJ
    ·cases hm
   ·cases hm
  ·cases fs with
   |nil=>simp[Wm.ig]at hm
   |cons f r =>
    simp only[Wm.ig,AI5,AJ5]at hm;obtain⟨⟨⟨h1,h2⟩,h3⟩,h4⟩:=hm;exact main o QC f r cs ys h1 h2 h3 h4 h hl
end
def Vi:AL7 Ty->Type
 |[]=>Unit
 |t::ts=>t.V×Vi ts
def Vi.av:(ts:AL7 Ty)->Vi ts->AL7 AV
 |[],_=>[]
 |t::ts,x=>.Ax [] t x.1::Vi.av ts x.2
def Vi.Wf:(ts:AL7 Ty)->Vi ts->Prop
 |[],_=>True
 |t::ts,x=>t.Wf x.1/\Vi.Wf ts x.2
def G.jj(w:World):G:=⟨λb=>if b<w.heap.size then .Ik else .no,λ_=>⟨none,0,0,0⟩⟩
section
variable {P:Program} {H:Type} {enc:TypeId×Value->H} {w:World} {base:Nat} {sp:Nat->Bool} {held:Bool}
theorem AhT{ty:Ty}{t:TypeId}{v:Value}{x:ty.V}(hm:Wm P ty t=true)(hf:v.formed P t=true)(hr:Ha w (sU w) ty x v.cells.toList):BK ty.isAgg v.cells.toList v:=by
 cases ty with
 |Au a b =>
  simp only[Wm]at hm;split at hm
  ·rename_i fs hu;unfold Value.formed at hf;split at hf
   ·rename_i cs;simp[BK,Ty.isAgg,Value.cells]
   ·cases hf
   ·rw[hu]at hf;cases hf
  ·cases hm
 |int k =>
  simp only[Wm]at hm;split at hm
  ·rename_i k' hu;have hr':v.cells.toList=[.int k x]:=hr;cases v<;>simp_all [BK,Ty.isAgg,Value.cells,Value.formed]
  ·cases hm
 |bool =>
  simp only[Wm]at hm;split at hm
  ·rename_i hu;cases v<;>simp_all [BK,Ty.isAgg,Value.cells,Value.formed]
  ·cases hm
 |str =>
  simp only[Wm]at hm;split at hm
  ·rename_i hu;cases v<;>simp_all [BK,Ty.isAgg,Value.cells,Value.formed]
  ·cases hm
 |sl u =>
  simp only[Wm]at hm;split at hm
  ·rename_i e hu;cases v<;>simp_all [BK,Ty.isAgg,Value.cells,Value.formed]
  ·cases hm
 |unit=>simp[Wm]at hm
 |QG z=>simp[Wm]at hm
end
section
variable {P:Program} {H:Type} {enc:TypeId×Value->H}
open Go.ChangeShapes Go.WideShapes Go.ChangeAt Go.RowKit
theorem Yr{w w':World}{base:Nat}{sp:Nat->Bool}{held:Bool}:∀{ts:AL7 TypeId} {vs:AL7 Value} {ds:AL7 (DataW H)} {ps:AL7 MemPlace},DataW.TrodAll enc P w base sp held ts vs ds ps->(∀p∈ps,w.sameAt w' p)->DataW.TrodAll enc P w' base sp held ts vs ds ps
 |[],[],[],_,h,_=>h
 |_::_,_::_,_::_,_,⟨p,q,⟨n,h1⟩,h2,e⟩,hs=>⟨p,q,⟨n,DataW.trod_carry n _ _ _ h1 λx hx=>hs x (by rw[e];exact AJw _ hx)⟩,Yr h2 (λx hx=>hs x (by rw[e];exact AJx _ hx)),e⟩
theorem Adx{f:Func}{s:ChangeSpec}{BP handsOn:Bool}{W W':World}{args:Array Value}{ds gs:AL7 (DataW H)}{before:AL7 MemPlace}(hW:DataW.Whole enc P f.params.toList s.vars false W args.toList ds gs before)(hv:s.vars=[])
    (Ade:gs=[]->s.fn H (ds++gs)={results:=[.lit (.bool true)],args:=ds}) {tb:TypeId} (hrt:f.resultTypes=#[tb]) (hub:P.underlying tb=some .bool) (Vx:∀b,b<W.heap.size->W'.heap[b]?=W.heap[b]?) (hos:W'.os=W.os) (ADf:W'.output=W.output)
    (K:Kids P (·<P.types.size)) (hz:∀t e,t<P.types.size->P.underlying t=some (.slice e)->0<P.cellsOf e) (ht:∀t∈f.params.toList,t<P.types.size):s.post enc P f false BP handsOn false W args (.bool true) W':=by
 have Bh:=hW.lt;obtain⟨p,q,hA,hV,hpq,hfz,Rm⟩:=id hW;rw[hv]at hV;obtain⟨rfl,rfl⟩:=trodVars_none hV;have Wu:=Ade rfl;rw[AJD]at hpq Wu;subst hpq;have bB:∀x∈before,W.sameAt W' x:=λx hx=>by
  have hb:=Vx x.block (Bh x hx);cases x with
  |cell b off=>simp only[World.sameAt,World.cell?];simp only[MemPlace.block]at hb;rw[hb]
  |map b=>exact hb
 have fK:=Yr hA bB;have sF:∀sp:Nat->Bool,(∀x∈before,sp x.block=true)->DataW.TrodAll enc P W' 0 sp true f.params.toList args.toList ds before:=λsp hs=>fK.respare K hz ht hs;have W8:∀(b:Nat) (sp:Nat->Bool) (hd:Bool),DataW.TrodAll enc P W' b sp hd f.resultTypes.toList ((Value.bool true).resultList f.resultTypes.size) [.lit (.bool true)] []:=λb sp hd=>by
  rw[hrt];exact trodAll_cons_mk (shut_bool hub _) trodAll_mk0
 have Ac5:∀x∈before,(λb=>decide (b<W.heap.size)) x.block=true:=λx hx=>by simpa using Bh x hx
 refine⟨ds,[],before,[],before,[],hW,?_,?_,?_,⟨hos,ADf,λi hi=>?_⟩,λh=>by cases h⟩
 ·rw[AJD,Wu];exact W8 _ _ _
 ·rw[AJD,Wu];exact sF _ Ac5
 ·rw[hv];rw[AJD,Wu];rfl
 ·rw[Vx i hi];cases hq:W.heap[i]? with
  |none=>rfl
  |some o=>cases o<;>first |exact⟨rfl,rfl,rfl,λ_ _=>rfl⟩|exact .inr ⟨rfl,rfl⟩|rfl
def oN(P:Program):AL7 Ty->AL7 TypeId->Bool
 |[],[]=>true
 |ty::tys,t::ts=>Wm P ty t&&oN P tys ts
 |_,_=>false
theorem jK{w:World}{base:Nat}{sp:Nat->Bool}{held:Bool}:∀{tys:AL7 Ty} {ts:AL7 TypeId} {vs:AL7 Value} {ds:AL7 (DataW H)} {ps:AL7 MemPlace},oN P tys ts=true->DataW.TrodAll enc P w base sp held ts vs ds ps ->
    (∀(j:Nat) t v,ts[j]?=some t->vs[j]?=some v->v.formed P t=true)->∃xs:Vi tys,Vi.Wf tys xs/\Dj w (G.jj w) 0 (Vi.av tys xs) vs
 |[],[],[],[],_,_,_,_=>⟨(),trivial,trivial⟩
 |ty::tys,t::ts,v::vs,d::ds,_,hm,⟨p,q,⟨n,h1⟩,h2,_⟩,hf=>by
  simp only[oN,AI5]at hm;obtain⟨x,hr,hw⟩:=(Ahw ty).1 t n _ _ hm.1 h1;obtain⟨xs,hws,ha⟩:=jK hm.2 h2 λj t v h3 h4=>hf (j+1) t v (by simpa using h3) (by simpa using h4);refine⟨(x,xs),⟨hw,hws⟩,Bl rfl (cs:=v.cells.toList) ⟨λk hk=>by(cases hk),hr.mono λb hb=>⟨.inl ?_,rfl⟩⟩ (AhT hm.1 (hf 0 t v rfl rfl) hr),ha⟩;have hb:b<w.heap.size:=hb;simp[G.jj,hb]
 |[],_::_,_,_,_,hm,_,_=>by simp[oN]at hm
 |_::_,[],_,_,_,hm,_,_=>by simp[oN]at hm
 |[],[],_::_,_,_,_,h,_=>by simp[DataW.TrodAll]at h
 |[],[],[],_::_,_,_,h,_=>by simp[DataW.TrodAll]at h
 |_::_,_::_,[],_,_,_,h,_=>by simp[DataW.TrodAll]at h
 |_::_,_::_,_::_,[],_,_,h,_=>by simp[DataW.TrodAll]at h
theorem Ad0(w:World):Ba w (G.jj w) []:=⟨λb hb=>by simp[G.jj];omega,λk x hx=>by simp at hx⟩
theorem yG{en:Gd}(he:IL P en){f:FuncId}{fn:Func}(hf:P.funcs[f]?=some fn){av:AL7 AV}{w:World}{vs:AL7 Value}(DT:R4 en fn (AV×AL7 Blk) av [] (λv b=>some (v,b))=some (.bool true,[]))(ha:Dj w (G.jj w) 0 av vs) :
    Calls P f vs.toArray w λe w'=>e=.returned (.bool true)/\(∀b,b<w.heap.size->w'.heap[b]?=w.heap[b]?)/\w'.os=w.os/\w'.output=w.output:=by
 refine((YY he hf DT).2 w (G.jj w) vs (Ad0 w) ha).mono λe w' ⟨v,g',e1,_,hv,st⟩=>?_;have:=RF hv;subst this;exact⟨e1,λb hb=>(st.Ik b (by simp[G.jj,hb])).2,st.os,st.output⟩
theorem qp{ty:Ty}{t:TypeId}{v:Value}{w:World}{r:Reach}{base:Nat}(hm:Wm P ty t=true)(h:Value.okWide P w r base t v):v.formed P t=true:=by
 unfold Value.okWide at h;cases ty with
 |Au a b =>
  simp only[Wm]at hm;split at hm
  ·rename_i fs hu;rw[hu]at h;obtain⟨cs,rfl,hs,_⟩:=h;simp[Value.formed,hu,hs]
  ·cases hm
 |int k =>
  simp only[Wm]at hm;split at hm
  ·rename_i k' hu;rw[hu]at h;cases v<;>simp_all [Value.formed,Cell.okWide,Cell.ok]
  ·cases hm
 |bool =>
  simp only[Wm]at hm;split at hm
  ·rename_i hu;rw[hu]at h;cases v<;>simp_all [Value.formed,Cell.okWide,Cell.ok]
  ·cases hm
 |str =>
  simp only[Wm]at hm;split at hm
  ·rename_i hu;rw[hu]at h;cases v<;>simp_all [Value.formed,Cell.okWide,Cell.ok]
  ·cases hm
 |sl u =>
  simp only[Wm]at hm;split at hm
  ·rename_i e hu;rw[hu]at h;cases v<;>simp_all [Value.formed,Cell.okWide,Cell.ok]
  ·cases hm
 |unit=>simp[Wm]at hm
 |QG z=>simp[Wm]at hm
theorem law_contract{en:Gd}(he:IL P en){f:FuncId}{fn:Func}(hf:P.funcs[f]?=some fn){tys:AL7 Ty}(hm:oN P tys fn.params.toList=true){s:ChangeSpec}(hv:s.vars=[]){tb:TypeId}(hrt:fn.resultTypes=#[tb])(hub:P.underlying tb=some .bool)
    (K:Kids P (·<P.types.size)) (hz:∀t e,t<P.types.size->P.underlying t=some (.slice e)->0<P.cellsOf e) (ht:∀t∈fn.params.toList,t<P.types.size)
    {W:World} {base:Nat} {args:Array Value} {ds gs:AL7 (DataW H)} {before:AL7 MemPlace} (Ade:gs=[]->s.fn H (ds++gs)={results:=[.lit (.bool true)],args:=ds})
    (hval:∀(j:Nat) t v,fn.params[j]?=some t->args[j]?=some v->Value.okWide P W .any base t v) (hW:DataW.Whole enc P fn.params.toList s.vars false W args.toList ds gs before)
    (DT:∀xs:Vi tys,Vi.Wf tys xs->R4 en fn (AV×AL7 Blk) (Vi.av tys xs) [] (λv b=>some (v,b))=some (.bool true,[])) {BP handsOn:Bool} :
    Calls P f args W λe W'=>∃v,e=.returned v/\s.post enc P fn false BP handsOn false W args v W':=by
 obtain⟨p,q,hA,_⟩:=id hW;have Yd:∀(j:Nat) t v,fn.params.toList[j]?=some t->args.toList[j]?=some v->v.formed P t=true:=λj t v h1 h2=>by
  rw[AJc]at h1 h2;have key:∀(tys:AL7 Ty) (ts:AL7 TypeId) (j:Nat),oN P tys ts=true->ts[j]?=some t->∃ty,Wm P ty t=true:=by
   intro tys;induction tys with
   |nil=>intro ts j hm hj;cases ts<;>simp_all [oN]
   |cons ty tys ih =>
    intro ts j hm hj;cases ts with
    |nil=>simp at hj
    |cons u ts =>
     simp only[oN,AI5]at hm;cases j with
     |zero=>simp at hj;subst hj;exact⟨ty,hm.1⟩
     |succ j=>exact ih ts j hm.2 (by simpa using hj)
  obtain⟨ty,dG⟩:=key tys fn.params.toList j hm (by rw[AJc];exact h1);exact qp dG (hval j t v h1 h2)
 obtain⟨xs,hwf,ha⟩:=jK hm hA Yd;have:=yG he hf (DT xs hwf) ha;rw[Array.toArray_toList]at this;refine this.mono λe W' ⟨e1,h1,h2,h3⟩=>⟨_,e1,Adx hW hv Ade hrt hub h1 h2 h3 K hz ht⟩
end
theorem AdI{A B:Type}(f:A->B)(c:Prop)[Decidable c](x:AL8 A):(if c then none else x).map f=if c then none else x.map f:=by split<;>rfl
theorem AdH{A B C D:Type}(f:C->D)(g:A->AL8 C)(h:B->AL8 C)(y:A⊕B):(Sum.elim g h y).map f=Sum.elim (λa=>(g a).map f) (λb=>(h b).map f) y:=by cases y<;>rfl
theorem xO{A B:Type}(k:A->AL8 B)(c:Bool)(x y:AL8 A):(bif c then x else y).bind k=bif c then x.bind k else y.bind k:=by cases c<;>rfl
theorem AaU{A B:Type}(k:A->AL8 B)(c:Prop)[Decidable c](x y:AL8 A):(if c then x else y).bind k=if c then x.bind k else y.bind k:=by split<;>rfl
theorem xQ{A B:Type}(k:A->AL8 B)(c:Prop)[Decidable c](x:AL8 A):(if c then none else x).bind k=if c then none else x.bind k:=by split<;>rfl
theorem xP{A B C D:Type}(k:C->AL8 D)(g:A->AL8 C)(h:B->AL8 C)(y:A⊕B):(Sum.elim g h y).bind k=Sum.elim (λa=>(g a).bind k) (λb=>(h b).bind k) y:=by cases y<;>rfl
theorem ER(s:St):M4 s s=some ():=by simp[M4]
def code(f:Func):Code:=(f.body).getD .skip
def ApZ:Code->Array Oper
 |.region _ B4 _=>B4
 |_=>#[]
def z6(P:Program):AL7 (Nat×Callee)->Prop
 |[]=>True
 |(n,c)::r=>Ap P n c/\z6 P r
theorem Acy{P:Program}:∀{l:AL7 (Nat×Callee)},z6 P l->∀g c,NH l g=some c->Ap P g c
 |[],_,_,_,h=>by cases h
 |(n,c)::r,⟨h1,h2⟩,g,c',h=>by
  simp only[NH]at h;split at h
  ·rename_i e;have e:n=g:=by simpa using e
   subst e;injection h with h;subst h;exact h1
  ·exact Acy h2 g c' h
def Yy(e:Nat)(t:Ty)(bytes:Nat):Callee:={kK:=[.d (.sl t)],run:=λR avs E K=>match avs,E with
    |[.Ax [] u xs],[]=>match IP u (.sl t) xs with
     |some xs=>if xs.length*bytes<=140737488355328 then K (.Am 0) [.row e (if t.BA then .Ai else .sh []) t xs]else none
     |_=>none
    |_,_=>none}
theorem Ap.nY{P:Program}{f:FuncId}{fn:Func}(hf:P.funcs[f]?=some fn)(hn:(fn.name=="runtime.NumGoroutine")=false)(hb:fn.body.isNone=false){c:Callee}(hc:dS c)
    (h:∀args E av E',c.run (AV×AL7 Blk) args E (λv b=>some (v,b))=some (av,E')->E.length<=E'.length/\∀(w:World) (g:G) (vs:AL7 Value),Ba w g E->Dj w g E.length args vs ->
     Calls P f vs.toArray w λe w'=>∃v g',e=.returned v/\Ba w' g' E'/\BS w' g' E'.length av v/\Bq E.length w g w' g'):Ap P f c where
 Yk:=hc
 snd args E av E' hr:=by
  obtain⟨h1,h2⟩:=h args E av E' hr;refine⟨h1,λw g vs H hx o a next Q hn'=>?_⟩
  have:(callFunc f vs.toArray).run P w=.ok (.enter f vs.toArray) w:=by
   have uh:¬fn.name="runtime.NumGoroutine":=by simpa using hn
   have dC:¬fn.body=none:=by
    intro e;rw[e]at hb;cases hb
   simp[callFunc,hf,uh,dC]
  rw[this,Oper.upon_enter];refine(h2 w g vs H hx).mono λe w' ⟨v,g',e1,hH,hv,BJ⟩=>?_;subst e1;exact hn' v w' g' hH hv BJ
theorem yf{P:Program}{t:TypeId}{ti:TI}(ht:EC P t ti)(hs:ti.DZ=true){ad:AL8 Addr}{n c:Nat}{x y:Operand}(w:World) :
    (do eqGuard .eql t x y (.slice ad n c) (.slice none 0 0);binOp .eql t (.slice ad n c) (.slice none 0 0):Sem Value).run P w=.ok (.bool ad.isNone) w:=by
 have hu:=Bs ht hs;have h1:∀d,(Op.equalIn (d+1) t (.slice ad n c) (.slice none 0 0)).run P w=.ok ad.isNone w:=by
  intro d;unfold Op.equalIn;cases ad<;>simp[underlying,hu]
 have h2:(Op.equal t (.slice ad n c) (.slice none 0 0)).run P w=.ok ad.isNone w:=h1 (Op.maxDepth-1);show(do pure (.bool (<-Op.equal t (.slice ad n c) (.slice none 0 0))):Sem Value).run P w=_
 rw[Sem.run_bind,h2];rfl
section
variable {P:Program} {en:Gd}
theorem pV(he:IL P en){f:FuncId}{fn:Func}(hf:P.funcs[f]?=some fn){R0 R2 T:Code}{id:Nat}{o3 o4:Oper}{t t2 e bytes:Nat}{u:Ty}{ti:TI}
    (hb:fn.body=some (R0.seq (((Code.region id #[o3,o4] false).seq (Code.cond (.tmp 4) (R2.seq .ret) .skip)).seq T))) (hnt:fn.ntmps=8) (W8:fn.results=#[.tmp 2])
    (h3:o3.op=.move (.tmp 0)/\o3.dst=some 3/\o3.guard=none) (h4:o4.op=.binOp .eql t (.tmp 3) (.const (.slice none 0 0)) t2/\o4.dst=some 4/\o4.guard=none)
    (ht:en.Dm.get t=some ti) (IR:ti.DZ=true) (hu:u.row=true)
    (hR0:∀xs:(Ty.sl u).V,ev en 0 R0 (Ex×St) ⟨[.Ax [] (.sl u) xs,.un 0,.un 0,.un 0,.un 0,.un 0,.un 0,.un 0],[]⟩ Pj=some (.normal,⟨[.Ax [] (.sl u) xs,.un 0,.zs,.un 0,.un 0,.un 0,.un 0,.un 0],[]⟩))
    (hA:∀xs:(Ty.sl u).V,ev en 0 (R2.seq .ret) (Ex×St) ⟨[.Ax [] (.sl u) xs,.un 0,.zs,.Ax [] (.sl u) xs,.bool true,.un 0,.un 0,.un 0],[]⟩ Pj=some (.ret,⟨[.Ax [] (.sl u) xs,.un 0,.zs,.Ax [] (.sl u) xs,.bool true,.un 0,.un 0,.un 0],[]⟩))
    (hT:∀xs:(Ty.sl u).V,xs.length*bytes<=140737488355328->ev en 0 T (Ex×St) ⟨[.Ax [] (.sl u) xs,.un 0,.zs,.Ax [] (.sl u) xs,.bool false,.un 0,.un 0,.un 0],[]⟩ Pj=some (.ret,⟨[.Ax [] (.sl u) xs,.un 0,.Am 0,.Ax [] (.sl u) xs,.bool false,.zs,.Ax [] (.sl u) xs,.Am 0],[.row e (if u.BA then .Ai else .sh []) u xs]⟩))
    {xs:(Ty.sl u).V} (AcJ:xs.length*bytes<=140737488355328) (w:World) (g:G) (vs:AL7 Value) (H:Ba w g []) (hx:Dj w g 0 [.Ax [] (.sl u) xs] vs) :
    Calls P f vs.toArray w λee w'=>∃v g',ee=.returned v/\Ba w' g' [.row e (if u.BA then .Ai else .sh []) u xs]/\BS w' g' 1 (.Am 0) v/\Bq 0 w g w' g':=by
 refine calls_of_wp hf hb ?_;have sG:=Z6 H hx (n:=fn.ntmps) (by rw[hnt];simp);have ADp:Kg w g ⟨[.Ax [] (.sl u) xs,.un 0,.un 0,.un 0,.un 0,.un 0,.un 0,.un 0],[]⟩ {tmps:=vs.toArray++Array.replicate (fn.ntmps-vs.toArray.size) undef,defers:=[]}:=by
  rw[hnt]at sG;rw[hnt];exact sG
 have UT:∀(a':Act) (w':World) (g':G),a'.defers=[]->Bq 0 w g w' g'->(∃ym,Ba w' ym [.row e (if u.BA then .Ai else .sh []) u xs]/\BS w' ym 1 (.Am 0) (a'.tmps.getD 2 undef)/\Bq 0 w' g' w' ym) ->
     a'.defers=[]/\∃v,(results fn a'.tmps).run P w'=.ok v w'/\∃v' g',Ending.returned v=.returned v'/\Ba w' g' [.row e (if u.BA then .Ai else .sh []) u xs]/\BS w' g' 1 (.Am 0) v'/\Bq 0 w g w' g':=by
  intro a' w' g' hd BJ ⟨ym,H'',wH,uj⟩;refine⟨hd,a'.tmps.getD 2 undef,?_,_,ym,rfl,H'',wH,BJ.trans uj⟩;rw[gJ,W8,Array.mapM_eq_mapM_toList];simp[Aed]
 refine wp_seq ((PF he R0 _ _ _ (hR0 xs) (AI4 _)).2 _ w g _ ADp λa1 w1 g1 QN QP fM=>?_);simp only[mF];refine wp_seq (wp_seq (wp_region ?_));have WC:=QN.AF 0 _ rfl;obtain⟨cs,SV,hval⟩:=BQ rfl rfl WC;obtain⟨_,ad,cap,ds,Apb,hlen,AcX,YL⟩:=SV;subst Apb;have zP:a1.tmps.getD 0 undef=.slice ad xs.length cap:=by
  have:[Value.slice ad xs.length cap]=[a1.tmps.getD 0 undef]:=hval;injection this with h _;exact h.symm
 have ADa:ad=none->xs=[]:=λh=>by
  rcases YL with h1 |⟨b,off,h1,_⟩
  ·exact h1
  ·rw[h]at h1;cases h1
 let a2:=(a1.put (some 3) (.slice ad xs.length cap)).put (some 4) (.bool ad.isNone)
 have KD:a1.tmps.size=8:=QN.len.symm;have XN:Kg w1 g1 ⟨[.Ax [] (.sl u) xs,.un 0,.zs,.Ax [] (.sl u) xs,.bool ad.isNone,.un 0,.un 0,.un 0],[]⟩ a2:=by
  refine⟨QN.heap,by simp[a2,VH,KD],λi x hx=>?_⟩;have h5:∀i,i≠3->i≠4->a2.tmps.getD i undef=a1.tmps.getD i undef:=λi h3 h4=>by
   simp only[a2];rw[UI (by simpa using λh=>h4 h.symm),UI (by simpa using λh=>h3 h.symm)]
  match i,hx with
  |0,hx=>rw[h5 0 (by decide) (by decide)];exact QN.AF 0 x hx
  |1,hx=>rw[h5 1 (by decide) (by decide)];exact QN.AF 1 x hx
  |2,hx=>rw[h5 2 (by decide) (by decide)];exact QN.AF 2 x hx
  |3,hx =>
   injection hx with hx;subst hx;have:a2.tmps.getD 3 undef=.slice ad xs.length cap:=by
    simp only[a2];rw[UI (by decide),R1 (by omega)]
   rw[this,<-zP];exact WC
  |4,hx =>
   injection hx with hx;subst hx;have:a2.tmps.getD 4 undef=.bool ad.isNone:=by
    simp only[a2];rw[R1 (by rw[VH];omega)]
   rw[this];exact Bl (cs:=[.bool ad.isNone]) rfl ⟨λk hk=>by(cases hk),rfl⟩ rfl
  |5,hx=>injection hx with hx;subst hx;exact Qy
  |6,hx=>injection hx with hx;subst hx;exact Qy
  |7,hx=>injection hx with hx;subst hx;exact Qy
  |i+8,hx=>simp at hx
 have e3:a1.eval (.tmp 0)=.slice ad xs.length cap:=zP;have ACO:(a1.put (some 3) (.slice ad xs.length cap)).eval (.tmp 3)=.slice ad xs.length cap:=by
  show(a1.put (some 3) (.slice ad xs.length cap)).tmps.getD 3 undef=_;rw[R1 (by omega)]
 simp only[List.range,wpOps];show wpOps P #[o3,o4] _ [0,1] a1 w1;simp only[wpOps];have g0:(#[o3,o4]:Array Oper)[0]?=some o3:=rfl;have g1':(#[o3,o4]:Array Oper)[1]?=some o4:=rfl;rw[g0,g1'];simp only[Region.wanted,h3.2.2,h4.2.2,AJK];refine .inl ?_;unfold Oper.wp;rw[show(execOp a1.eval o3).run P w1=.ok (.value (.slice ad xs.length cap)) w1 by simp[execOp,h3.1,e3],Oper.upon_value,h3.2.1];have Azs:(a1.put (some 3) (.slice ad xs.length cap)).tmps.getD 3 undef=.slice ad xs.length cap:=ACO;have AzY:(execOp (a1.put (some 3) (.slice ad xs.length cap)).eval o4).run P w1=.ok (.value (.bool ad.isNone)) w1:=by
  have:=yf (P:=P) (t:=t) (he.t ht) IR (ad:=ad) (n:=xs.length) (c:=cap) (x:=.tmp 3) (y:=.const (.slice none 0 0)) w1;simp only[execOp,h4.1,Act.eval,Azs];rw[Sem.run_bind,this];rfl
 refine .inl ?_;rw[AzY,Oper.upon_value,h4.2.1];show(Code.cond (.tmp 4) (R2.seq .ret) .skip).wp P _ a2 w1;have AgX:a2.eval (.tmp 4)=.bool ad.isNone:=by
  show a2.tmps.getD 4 undef=_;simp only[a2];rw[R1 (by rw[VH];omega)]
 have hd2:a2.defers=[]:=by simp only[a2,Go.Va.put_defers];exact fM
 cases ub:ad with
 |none =>
  have hxs:=ADa ub;subst hxs;rw[ub]at XN AgX;refine wp_cond_true AgX ?_;refine(PF he _ _ _ _ (hA []) (AI4 _)).2 a2 w1 g1 _ XN λa3 w3 g3 qN st3 hd3=>?_;have hz:=qN.AF 2 _ rfl;obtain⟨g4,H4,ACz,st4⟩:=tH qN.heap (c:=.row [] e u false) (a:=.zs) (a':=.Am 0) (nb:=[.row e (if(u.BA||false)=true then .Ai else .sh []) u []]) (by simp[xY,AV.UU,AV.Y2,hu]) hz;exact UT a3 w3 g3 (hd3.trans hd2) (QP.trans st3) ⟨g4,by simpa using H4,by simpa using ACz,st4.vb (AJU _)⟩
 |some ad0 =>
  rw[ub]at XN AgX;refine wp_cond_false AgX (wp_skip ?_);refine(PF he _ _ _ _ (hT xs AcJ) (AI4 _)).2 a2 w1 g1 _ XN λa3 w3 g3 qN st3 hd3=>?_;exact UT a3 w3 g3 (hd3.trans hd2) (QP.trans st3) ⟨g3,qN.heap,qN.AF 2 _ rfl,Bq.refl _ _ _⟩
theorem xV{e bytes:Nat}{u:Ty}:dS (Yy e u bytes):=by
 intro R args E K;simp only[Yy];split
 ·split
  ·split<;>rfl
  ·rfl
 ·rfl
theorem aG(he:IL P en){f:FuncId}{fn:Func}(hf:P.funcs[f]?=some fn)(hn:(fn.name=="runtime.NumGoroutine")=false){R0 R2 T:Code}{id:Nat}{o3 o4:Oper}{t t2 e bytes:Nat}{u:Ty}{ti:TI}
    (hb:fn.body=some (R0.seq (((Code.region id #[o3,o4] false).seq (Code.cond (.tmp 4) (R2.seq .ret) .skip)).seq T))) (hnt:fn.ntmps=8) (W8:fn.results=#[.tmp 2])
    (h3:o3.op=.move (.tmp 0)/\o3.dst=some 3/\o3.guard=none) (h4:o4.op=.binOp .eql t (.tmp 3) (.const (.slice none 0 0)) t2/\o4.dst=some 4/\o4.guard=none)
    (ht:en.Dm.get t=some ti) (IR:ti.DZ=true) (hu:u.row=true)
    (hR0:∀xs:(Ty.sl u).V,ev en 0 R0 (Ex×St) ⟨[.Ax [] (.sl u) xs,.un 0,.un 0,.un 0,.un 0,.un 0,.un 0,.un 0],[]⟩ Pj=some (.normal,⟨[.Ax [] (.sl u) xs,.un 0,.zs,.un 0,.un 0,.un 0,.un 0,.un 0],[]⟩))
    (hA:∀xs:(Ty.sl u).V,ev en 0 (R2.seq .ret) (Ex×St) ⟨[.Ax [] (.sl u) xs,.un 0,.zs,.Ax [] (.sl u) xs,.bool true,.un 0,.un 0,.un 0],[]⟩ Pj=some (.ret,⟨[.Ax [] (.sl u) xs,.un 0,.zs,.Ax [] (.sl u) xs,.bool true,.un 0,.un 0,.un 0],[]⟩))
    (hT:∀xs:(Ty.sl u).V,xs.length*bytes<=140737488355328->ev en 0 T (Ex×St) ⟨[.Ax [] (.sl u) xs,.un 0,.zs,.Ax [] (.sl u) xs,.bool false,.un 0,.un 0,.un 0],[]⟩ Pj=some (.ret,⟨[.Ax [] (.sl u) xs,.un 0,.Am 0,.Ax [] (.sl u) xs,.bool false,.zs,.Ax [] (.sl u) xs,.Am 0],[.row e (if u.BA then .Ai else .sh []) u xs]⟩)) :
    Ap P f (Yy e u bytes):=by
 refine Ap.nY hf hn (by rw[hb];rfl) xV λargs E av E' h=>?_;simp only[Yy]at h;split at h
 ·split at h
  ·rename_i xs hc;obtain⟨e1,q⟩:=Bz hc;subst e1;subst q;split at h
   ·rename_i AcJ;simp only[AI0,AJb]at h;obtain⟨rfl,rfl⟩:=h;exact⟨AJU _,λw g vs H hx=>pV he hf hb hnt W8 h3 h4 ht IR hu hR0 hA hT AcJ w g vs H hx⟩
   ·cases h
  ·cases h
 ·cases h
end
open Go.Sort Go.Shelf
def leI(x y:Int):Bool:=decide (x<=y)
def NQ(xs:AL7 Int):AL7 Int:=xs.mergeSort leI
def M0(xs:AL7 Int):AL7 Int:=Lib.compact xs
def rS:Callee:={kK:=[.UJ],run:=λ_ avs E K=>match avs,E with
    |[.Am 0],[.row e .Ai u xs]=>match IP (.sl u) (.sl (.int .i64)) xs with
     |some xs=>if xs.length<4611686018427387904 then K .nil [.row e .Ai (.int .i64) (NQ xs)]else none
     |none=>none
    |[.zs],[]=>K .nil []
    |_,_=>none}
def sq:Callee:={kK:=[.UJ],run:=λ_ avs E K=>match avs,E with
    |[.Am 0],[.row e .Ai u xs]=>match IP (.sl u) (.sl (.int .i64)) xs with
     |some xs=>K (.Am 1) [.AK,.row e .Ai (.int .i64) (M0 xs)]
     |none=>none
    |_,_=>none}
theorem AeG:dS rS:=by
 intro R args E K;simp only[rS];split
 ·split
  ·split<;>rfl
  ·rfl
 ·rfl
 ·rfl
theorem Ae1:dS sq:=by
 intro R args E K;simp only[sq];split
 ·split<;>rfl
 ·rfl
section
variable {w:World} {g:G} {n:Nat}
theorem Vy{own:Nat->Tq}{k:Nat}:∀{xs:AL7 Int} {j:Nat} {ds:AL7 Value},Bd (λi=>Jl w own k (.int .i64) [i]) j xs ds↔ds=xs.map (Value.int .i64)
 |[],_,_=>Iff.rfl
 |x::xs,j,ds=>by
  constructor
  ·rintro⟨c,d,e,h1,h2⟩
   have h1:c=[.int .i64 x]:=h1;rw[e,h1,Vy.1 h2];rfl
  ·intro e;exact⟨[.int .i64 x],xs.map (Value.int .i64),by rw[e];rfl,rfl,Vy.2 rfl⟩
theorem fT{b el:Nat}{Bp:Array Value}{xs:AL7 Int}(hc:w.heap[b]?=some (.cells Bp el (0,0)))(hd:Bp.toList.take (xs.length*1)=xs.map (Value.int .i64)):Holds (Value.int .i64) w b 0 xs.toArray:=by
 intro j hj;have hj:j<xs.length:=by simpa using hj
 constructor
 ·have h1:(Bp.toList.take (xs.length*1))[j]?=some (.int .i64 xs[j]):=by rw[hd];simp[hj]
  rw[AJM,AJg (by omega)]at h1;simp only[World.cell?,hc,AJu];simpa [hj]using h1
 ·simp[World.frozen?,hc]
theorem rE{b el:Nat}{Bp:Array Value}{q:Nat}{d:Array Int}(hc:w.heap[b]?=some (.cells Bp el (0,0))):(putRow (Value.int .i64) (Sort.ahead w q) b 0 d).heap[b]?=some (.cells (putCells (Value.int .i64) 0 d Bp) el (0,0)):=by
 simp[putRow,mapBlock,Sort.ahead,AKM,hc,onCells]
theorem kX{b c q:Nat}{d:Array Int}(h:c≠b):(putRow (Value.int .i64) (Sort.ahead w q) b 0 d).heap[c]?=w.heap[c]?:=by
 simp[putRow,mapBlock,Sort.ahead,AKM,h.symm]
theorem XR(w:World)(b q:Nat)(d:Array Int):(putRow (Value.int .i64) (Sort.ahead w q) b 0 d).heap.size=w.heap.size:=by
 simp[putRow,mapBlock,Sort.ahead]
theorem Ym{Bp:Array Value}{d:Array Int}{m:Nat}(hm:m<=d.size)(hs:d.size<=Bp.size):(putCells (Value.int .i64) 0 d Bp).toList.take m=(d.toList.take m).map (Value.int .i64):=by
 apply AKj;intro i;rw[AJM,AJr,AJM];split
 ·rename_i h;have h1:i<Bp.size:=by omega
  have h2:i<d.size:=by omega
  simp[putCells,h1,h2]
 ·rfl
theorem ux{E:AL7 Blk}(H:Ba w g E){b k:Nat}{r:AL7 Nat}(h:g.own b=.BB k r):b<w.heap.size:=by
 by_cases hb:b<w.heap.size
 ·exact hb
 ·rw[H.BP b (by omega)]at h;cases h
end
section
variable {P:Program} {ρ:Shelf.Ren}
theorem AeH(L:Proofs.SlLaysN.n53 P ρ){f:FuncId}{fn:Func}(e:ρ.f 53=f)(hf:P.funcs[f]?=some fn)(hn:(fn.name=="runtime.NumGoroutine")=false)(hb:fn.body.isNone=false):Ap P f rS:=by
 refine Ap.nY hf hn hb AeG λargs E av E' h=>?_;simp only[rS]at h;split at h
 ·rename_i el u xs;split at h
  ·rename_i ys hc;obtain⟨e1,q⟩:=Bz hc;cases e1;have q:xs=ys:=q;subst q;split at h
   ·rename_i Bh;simp only[AI0,AJb]at h;obtain⟨rfl,rfl⟩:=h;refine⟨AI4 _,λw g vs H hx=>?_⟩
    match vs,hx with
    |[v],⟨hv,_⟩ =>
     obtain⟨_,hv⟩:=EP hv;subst hv;obtain⟨QA,hl,Pu,BH,hr⟩:=H.Ls 0 _ rfl;rcases hr with ⟨WC,F6⟩|⟨b,Bp,ds,ha,ho,⟨ce,he,C9⟩,h1,h2,h3,h4,h5⟩
     ·rw[F6,hl,WC,<-e];refine(Proofs.AnyG.slices_Sort_int_none L _ 0 w).mono λe w' ⟨e1,e2⟩=>?_;subst e1;subst e2;exact⟨_,g,rfl,by simpa [WC,NQ]using H,rfl,Bq.refl _ _ _⟩
     ·rw[hl,ha,<-e];have h5:ds=_:=Vy.1 h5;have h4:Bp.toList.take (List.length (α:=Int) xs*1)=ds:=h4;rw[h5]at h4;have KD:Bp.size=(g.AQ 0).cap*1:=h3;refine(Proofs.AnyG.slices_Sort_int L b 0 _ xs w (fT C9 h4) (ux H ho) Bh).mono λe w' ⟨e1,n,os,e2⟩=>?_;subst e1;have oY:=ux H ho;have Vx:∀c,c≠b->c<w.heap.size->w'.heap[c]?=w.heap[c]?:=λc hc Bh=>by
       rw[e2];show((putRow _ _ _ _ _).heap++os)[c]?=_;rw[Array.getElem?_append_left (by rw[XR];exact Bh),kX hc]
      have ZK:w'.heap[b]?=some (.cells (putCells (Value.int .i64) 0 (List.toArray (NQ xs)) Bp) ce (0,0)):=by
       rw[e2];show((putRow _ _ _ _ _).heap++os)[b]?=_;rw[Array.getElem?_append_left (by rw[XR];exact oY)];exact rE C9
      have O6:w.heap.size<=w'.heap.size:=by
       rw[e2];show _<=((putRow _ _ _ _ _).heap++os).size;rw[Array.size_append,XR];omega
      refine⟨_,g,rfl,⟨λc hc=>H.BP c (by omega),λk x hx=>?_⟩,rfl,?_⟩
      ·match k,hx with
       |0,hx =>
        injection hx with hx;subst hx;have hls:(NQ xs).length=List.length (α:=Int) xs:=List.length_mergeSort _;refine⟨λj hj=>by(cases hj),by rw[hl];exact hls.symm,Pu,BH,.inr ⟨b,_,_,ha,ho,⟨ce,he,ZK⟩,?_,h2,?_,rfl,?_⟩⟩
        ·rw[hls];exact h1
        ·simpa [putCells]using h3
        ·show pj w' g.own 0 .Ai (.int .i64) _ _;refine Vy.2 ?_;rw[Ym (by simp[Ty.size]) (by simp only[AKc,hls];omega)];simp[Ty.size]
       |k+1,hx=>simp at hx
      ·refine⟨by rw[e2];rfl,by rw[e2];rfl,by rw[e2];rfl,O6,λc hc h=>⟨h,Vx c (λe=>by rw[e,ho]at h;cases h) hc⟩,λc h=>⟨h,?_⟩,λc k r h hk hm=>(hm (List.mem_range.2 hk)).elim,λk hk=>rfl⟩;by_cases SV:c<w.heap.size
       ·exact Vx c (λe=>by rw[e,ho]at h;cases h) SV
       ·rw[H.BP c (by omega)]at h;cases h
   ·cases h
  ·cases h
 ·simp only[AI0,AJb]at h;obtain⟨rfl,rfl⟩:=h;refine⟨AI4 _,λw g vs H hx=>?_⟩
  match vs,hx with
  |[v],⟨hv,_⟩ =>
   obtain⟨cs,⟨ad,SV⟩,hval⟩:=BQ rfl rfl hv;subst SV;have hv:v=.slice ad 0 0:=by
    have:[Value.slice ad 0 0]=[v]:=hval;injection this with h _;exact h.symm
   subst hv;rw[<-e];refine(Proofs.AnyG.slices_Sort_int_none L ad 0 w).mono λe w' ⟨e1,e2⟩=>?_;subst e1;subst e2;exact⟨_,g,rfl,H,rfl,Bq.refl _ _ _⟩
 ·cases h
theorem Ae0(xs:AL7 Int):(M0 xs).length<=xs.length:=by
 unfold M0 Lib.compact Lib.compactUpTo;rw[AJa];exact AJs (AKZ _ _) (by simp)
theorem Ae2(L:Proofs.SlLaysN.n43 P ρ){f:FuncId}{fn:Func}(e:ρ.f 43=f)(hf:P.funcs[f]?=some fn)(hn:(fn.name=="runtime.NumGoroutine")=false)(hb:fn.body.isNone=false):Ap P f sq:=by
 refine Ap.nY hf hn hb Ae1 λargs E av E' h=>?_;simp only[sq]at h;split at h
 ·rename_i el u xs;split at h
  ·rename_i ys hc;obtain⟨e1,q⟩:=Bz hc;cases e1;have q:xs=ys:=q;subst q;simp only[AI0,AJb]at h;obtain⟨rfl,rfl⟩:=h;refine⟨by simp,λw g vs H hx=>?_⟩
   match vs,hx with
   |[v],⟨hv,_⟩ =>
    obtain⟨_,hv⟩:=EP hv;subst hv;obtain⟨QA,hl,Pu,BH,hr⟩:=H.Ls 0 _ rfl;rcases hr with ⟨WC,F6⟩|⟨b,Bp,ds,ha,ho,⟨ce,he,C9⟩,h1,h2,h3,h4,h5⟩
    ·rw[F6,hl,WC,<-e];refine(Proofs.AnyG.slices_Compact_int_empty L _ 0 w).mono λe w' ⟨e1,e2⟩=>?_;subst e1;subst e2;refine⟨_,⟨g.own,λk=>if k=1 then⟨(g.AQ 0).a,0,0,1⟩else g.AQ k⟩,rfl,⟨H.BP,λk x hx=>?_⟩,?_,?_⟩
     ·match k,hx with
      |0,hx=>injection hx with hx;subst hx;trivial
      |1,hx =>
       injection hx with hx;subst hx;exact⟨λj hj=>by(cases hj),rfl,rfl,BH,.inl ⟨rfl,rfl⟩⟩
      |k+2,hx=>simp at hx
     ·exact Bl (cs:=[.slice (g.AQ 0).a 0 0]) rfl ⟨by simp,rfl⟩ rfl
     ·refine⟨rfl,rfl,rfl,AI4 _,λc hc h=>⟨h,rfl⟩,λc h=>⟨h,rfl⟩,λc k r h hk hm=>(hm (List.mem_range.2 hk)).elim,λk hk=>?_⟩;have hk:k<1:=hk;have:k≠1:=by omega
      simp[this]
    ·rw[hl,ha,<-e];have h5:ds=_:=Vy.1 h5;have h4:Bp.toList.take (List.length (α:=Int) xs*1)=ds:=h4;rw[h5]at h4;have Apu:(g.AQ 0).cap<=9223372036854775807:=h2;refine(Proofs.AnyG.slices_Compact_int L b 0 _ xs w (fT C9 h4) (AJs h1 Apu) h1).mono λe w' ⟨e1,q,e2⟩=>?_;subst e1;have oY:=ux H ho;have Vx:∀c,c≠b->w'.heap[c]?=w.heap[c]?:=λc hc=>by rw[e2,kX hc]
     have ZK:=rE (q:=q) (d:=(Lib.compact (show AL7 Int from xs)++List.replicate (List.length (α:=Int) xs-(Lib.compact (show AL7 Int from xs)).length) 0).toArray) C9;rw[<-e2]at ZK;have O6:w'.heap.size=w.heap.size:=by rw[e2,XR]
     have kl:(M0 xs).length<=List.length (α:=Int) xs:=Ae0 xs;have KD:(Lib.compact (show AL7 Int from xs)++List.replicate (List.length (α:=Int) xs-(Lib.compact (show AL7 Int from xs)).length) 0).length=List.length (α:=Int) xs:=by
      rw[AI2,AJv];exact Nat.add_sub_cancel' kl
     refine⟨_,⟨λc=>if c=b then .BB 1 []else g.own c,λk=>if k=1 then⟨(g.AQ 0).a,(M0 xs).length,(g.AQ 0).cap,1⟩else g.AQ k⟩,rfl,⟨λc hc=>?_,λk x hx=>?_⟩,?_,?_⟩
     ·have:c≠b:=λe=>by omega
      simp only[this,AKv];exact H.BP c (by omega)
     ·match k,hx with
      |0,hx=>injection hx with hx;subst hx;trivial
      |1,hx =>
       injection hx with hx;subst hx;refine⟨λj hj=>by(cases hj),rfl,rfl,BH,.inr ⟨b,_,_,ha,by simp,⟨ce,he,ZK⟩,AJs kl h1,h2,?_,rfl,?_⟩⟩
       ·simpa [putCells]using h3
       ·show pj w' _ 1 .Ai (.int .i64) _ _;refine Vy.2 ?_;have SV:Bp.size=(g.AQ 0).cap*1:=h3;rw[Ym (by simp[Ty.size,M0]) (by rw[AKc,KD,SV];exact AJs h1 (Nat.le_of_eq (Nat.mul_one _).symm))];simp[Ty.size,M0]
      |k+2,hx=>simp at hx
     ·exact Bl (cs:=[.slice (some ⟨b,0,none⟩) (M0 xs).length (g.AQ 0).cap]) rfl ⟨by simp,by simp[ha]⟩ rfl
     ·refine⟨by rw[e2];rfl,by rw[e2];rfl,by rw[e2];rfl,Nat.le_of_eq O6.symm,λc hc h=>?_,λc h=>?_,λc k r h hk hm=>(hm (List.mem_range.2 hk)).elim,λk hk=>?_⟩
      ·have Lr:c≠b:=λe=>by rw[e,ho]at h;cases h
       exact⟨by simp[Lr,h],Vx c Lr⟩
      ·have Lr:c≠b:=λe=>by rw[e,ho]at h;cases h
       exact⟨by simp[Lr,h],Vx c Lr⟩
      ·have hk:k<1:=hk;have:k≠1:=by omega
       simp[this]
  ·cases h
 ·cases h
end
section
variable {A B C D:Type}
theorem bC(k:A->AL8 B)(c:Bool)(x y:AL8 A):(bif c then x else y).bind k=bif c then x.bind k else y.bind k:=xO k c x y
theorem bI(k:A->AL8 B)(c:Prop)[Decidable c](x y:AL8 A):(if c then x else y).bind k=if c then x.bind k else y.bind k:=AaU k c x y
theorem bN(k:A->AL8 B)(c:Prop)[Decidable c](x:AL8 A):(if c then none else x).bind k=if c then none else x.bind k:=xQ k c x
theorem bE(k:C->AL8 D)(g:A->AL8 C)(h:B->AL8 C)(y:A⊕B):(Sum.elim g h y).bind k=Sum.elim (λa=>(g a).bind k) (λb=>(h b).bind k) y:=xP k g h y
theorem bA(x:AL8 A)(f:A->AL8 B)(g:B->AL8 C):(x.bind f).bind g=x.bind λy=>(f y).bind g:=AJf x f g
theorem bS(a:A)(f:A->AL8 B):(some a).bind f=f a:=rfl
theorem bO(f:A->AL8 B):(none:AL8 A).bind f=none:=rfl
theorem mC(f:A->B)(c:Bool)(x y:AL8 A):(bif c then x else y).map f=bif c then x.map f else y.map f:=AdG f c x y
theorem mI(f:A->B)(c:Prop)[Decidable c](x y:AL8 A):(if c then x else y).map f=if c then x.map f else y.map f:=Aht f c x y
theorem mN(f:A->B)(c:Prop)[Decidable c](x:AL8 A):(if c then none else x).map f=if c then none else x.map f:=AdI f c x
theorem mB(f:B->C)(x:AL8 A)(k:A->AL8 B):(x.bind k).map f=x.bind λy=>(k y).map f:=AdF f x k
theorem mE(f:C->D)(g:A->AL8 C)(h:B->AL8 C)(y:A⊕B):(Sum.elim g h y).map f=Sum.elim (λa=>(g a).map f) (λb=>(h b).map f) y:=AdH f g h y
theorem mS(f:A->B)(a:A):(some a).map f=some (f a):=rfl
theorem mO(f:A->B):(none:AL8 A).map f=none:=rfl
def cc(x y:AL8 Unit):AL8 Unit:=x.bind λ_=>y
class Sh (Y:Type) where
 T:Type->Type
 sp:{Z:Type}->(Y->Z)->T Z
 ij:∀{Z:Type} {f g:Y->Z},sp f=sp g->f=g
instance (priority:=low) shB:Sh A:=⟨λZ=>A->Z,λf=>f,λh=>h⟩
instance shS [Sh A] [Sh B]:Sh (A⊕B):=⟨λZ=>Sh.T A Z×Sh.T B Z,λf=>(Sh.sp λa=>f (.inl a),Sh.sp λb=>f (.inr b)),λ{Z f g} h=>by
 have h1:=Sh.ij (congrArg Prod.fst h);have h2:=Sh.ij (congrArg Prod.snd h)
 funext y
 cases y with
 |inl a=>exact congrFun h1 a
 |inr b=>exact congrFun h2 b⟩
theorem k3{a a':A}{b b':B}{c c':C}(h:(a,b,c)=(a',b',c')):a=a'/\b=b'/\c=c':=by injection h with h1 h;injection h with h2 h3;exact⟨h1,h2,h3⟩
end
abbrev dI(x:Int):AV:=.Ax [] (.int .i64) x
abbrev dB(b:Bool):AV:=.Ax [] .bool b
abbrev dD(t:Ty)(x:t.V):AV:=.Ax [] t x
def sT(n:Nat)(l:AL7 (Nat×AV))(bs:AL7 Blk):St:=⟨mkS n 0 l,bs⟩
abbrev xN(n:Nat)(l:List (Nat×AV))(bs:List Blk):Ex×St:=(.normal,sT n l bs)
abbrev xR(n:Nat)(l:List (Nat×AV))(bs:List Blk):Ex×St:=(.ret,sT n l bs)
abbrev xE(k n:Nat)(l:List (Nat×AV))(bs:List Blk):Ex×St:=(.exit k,sT n l bs)
instance:Coe (List Nat) SH:=⟨λl=>{Bb:=l}⟩
def Gd.hd(en:Gd)(k:Nat):SH:=(NH en.fi.A1 k).getD {Bb:=[]}
def Gd.ot(en:Gd)(k:Nat):SH:=(NH en.fi.Bv k).getD {Bb:=[]}
def Gd.jn(en:Gd)(k:Nat):SH:=(NH en.fi.BR k).getD {Bb:=[]}
def Gd.dr(en:Gd)(k:Nat):SH:=(NH en.fi.X9 k).getD {Bb:=[]}
def ptG:Nat->Nat->AL7 Nat->AL7 Nat
 |0,_,a=>a
 |f+1,n,a=>if n<=1 then a else ptG f (n/2) (n%2::a)
def pt(n:Nat):AL7 Nat:=ptG 60 n []
section
variable {X Y R:Type}
def cd(f:Func)(n:Nat):Code:=sub (code f) (pt n)
def sb(c:Code)(n:Nat):Code:=sub c (pt n)
noncomputable def LP(en:Gd)(m k:Nat):=AAm m (en.hd k) (en.ot k)
noncomputable def Ta(en:Gd)(m k:Nat):=Az9 m (en.jn k)
noncomputable def lpS(en:Gd)(m k:Nat)(fc:Code)(p:AL7 Nat):St->AL8 (St⊕(Ex×St)):=lg en m (en.hd k) (en.ot k) (sub fc (p++[0]))
noncomputable def Xe(en:Gd)(m k:Nat)(fc:Code)(p:AL7 Nat):St->AL8 (Ex×St):=AAa en m (en.jn k) (sub fc p)
noncomputable def sy(en:Gd)(m k:Nat)(fc:Code)(p:AL7 Nat):St->AL8 St:=AhC en m (en.dr k) (ApZ (sub fc p))
noncomputable def kQ(en:Gd)(m:Nat)(R:Type)(fc:Code)(p:AL7 Nat)(K:Ex->St->AL8 R)(q:Ex×St):AL8 R:=yD en m R fc p K q.1 q.2
noncomputable def lpC(en:Gd)(m k:Nat)(fc:Code)(p:AL7 Nat)(R:Type)(K:Ex->St->AL8 R)(s:St):AL8 R:=(fix (lpS en m k fc p) s).bind (kQ en m R fc p K)
noncomputable def jnC(en:Gd)(m k:Nat)(fc:Code)(p:AL7 Nat)(R:Type)(K:Ex->St->AL8 R)(s:St):AL8 R:=(Xe en m k fc p s).bind (kQ en m R fc p K)
noncomputable def drC(en:Gd)(m k:Nat)(fc:Code)(p:AL7 Nat)(R:Type)(K:Ex->St->AL8 R)(s:St):AL8 R:=(sy en m k fc p s).bind λq=>kQ en m R fc p K (.normal,q)
def A0(en:Gd)(m k:Nat)(fc:Code)(n:Nat)(s:X->St)(r:X->AL8 (X⊕Y))(o:Y->Ex×St):Prop:=∀x,lpS en m k fc (pt n) (s x)=(r x).map (Sum.map s o)
def AP(en:Gd)(m k:Nat)(fc:Code)(n:Nat)(s:St)(x:AL8 Y)(o:Y->Ex×St):Prop:=Xe en m k fc (pt n) s=x.map o
def Py(en:Gd)(m k:Nat)(fc:Code)(n:Nat)(s:St)(x:AL8 Y)(o:Y->St):Prop:=sy en m k fc (pt n) s=x.map o
theorem Az{en:Gd}{m k:Nat}{fc:Code}{n:Nat}{s:X->St}{r:X->AL8 (X⊕Y)}{o:Y->Ex×St}(h:A0 en m k fc n s r o){K:Ex->St->AL8 R}{x:X}{F:Y->AL8 R}[Sh Y](hF:Sh.sp F=Sh.sp λy=>kQ en m R fc (pt n) K (o y)) :
    (fix r x).bind F=lpC en m k fc (pt n) R K (s x):=by
 unfold lpC;rw[AgP s o _ r h x,eF];exact congrArg _ (Sh.ij hF)
theorem A8{en:Gd}{m k:Nat}{fc:Code}{n:Nat}{s:St}{x:AL8 Y}{o:Y->Ex×St}(h:AP en m k fc n s x o){K:Ex->St->AL8 R}{F:Y->AL8 R}[Sh Y](hF:Sh.sp F=Sh.sp λy=>kQ en m R fc (pt n) K (o y)) :
    x.bind F=jnC en m k fc (pt n) R K s:=by
 unfold jnC;rw[h,eF];exact congrArg _ (Sh.ij hF)
theorem Up{en:Gd}{m k:Nat}{fc:Code}{n:Nat}{s:St}{x:AL8 Y}{o:Y->St}(h:Py en m k fc n s x o){K:Ex->St->AL8 R}{F:Y->AL8 R}[Sh Y](hF:Sh.sp F=Sh.sp λy=>kQ en m R fc (pt n) K (.normal,o y)) :
    x.bind F=drC en m k fc (pt n) R K s:=by
 unfold drC;rw[h,eF];exact congrArg _ (Sh.ij hF)
def QF(_:St)(x:AL8 R):AL8 R:=x
theorem bM(s:St)(x:AL8 X)(k:X->AL8 Y):(QF s x).bind k=QF s (x.bind k):=rfl
theorem mM(s:St)(x:AL8 X)(k:X->Y):(QF s x).map k=QF s (x.map k):=rfl
theorem F8{en:Gd}{m k:Nat}{fc:Code}{p:AL7 Nat}{s:St}{e:Ex×St}(h:Xe en m k fc p s=some e){K:Ex->St->AL8 R}{T:AL8 R}(hT:T=kQ en m R fc p K e):QF s T=jnC en m k fc p R K s:=by
 unfold jnC;rw[h];exact hT
end
noncomputable def Adp(ms:AL7 PM)(en:Gd)(fn:Func):Callee:={kK:=ms,run:=λR args E K=>R4 en fn R args E K}
theorem Ahj{ms:AL7 PM}{en:Gd}{fn:Func}(he:X1 en):dS (Adp ms en fn):=by
 intro R args E K;show R4 en fn R args E K=(R4 en fn (AV×AL7 Blk) args E _).bind _;unfold R4;split
 ·rfl
 ·split
  ·have UT:∀s:St,(match W2 E.length en.fi.UT s with
       |none=>none
       |some σ=>match br en.Dm σ fn.results.toList with
        |some l=>match fF E.length en.fi.Sj l σ.An with
         |some (l,bs)=>match WW en.fi.dM l bs with
          |some (l',Gx)=>match ck E.length Gx (oc l')with
           |some (v,bs)=>K v bs
           |none=>none
          |none=>none
         |none=>none
        |none=>none)=(match W2 E.length en.fi.UT s with
       |none=>none
       |some σ=>match br en.Dm σ fn.results.toList with
        |some l=>match fF E.length en.fi.Sj l σ.An with
         |some (l,bs)=>match WW en.fi.dM l bs with
          |some (l',Gx)=>match ck E.length Gx (oc l')with
           |some (v,bs)=>some (v,bs)
           |none=>none
          |none=>none
         |none=>none
        |none=>none).bind λp=>K p.1 p.2:=λs=>by
     cases W2 E.length en.fi.UT s with
     |none=>rfl
     |some s =>
      dsimp only
      cases br en.Dm s fn.results.toList with
      |none=>rfl
      |some l =>
       dsimp only
       cases fF E.length en.fi.Sj l s.An with
       |none=>rfl
       |some q =>
        dsimp only
        cases WW en.fi.dM q.1 q.2 with
        |none=>rfl
        |some q =>
         dsimp only
         cases ck E.length q.2 (oc q.1)with
         |none=>rfl
         |some q=>rfl
   refine vg (VX he _) λe s=>?_;cases e with
   |exit n=>rfl
   |normal=>exact UT s
   |ret=>exact UT s
  ·rfl
theorem nD{P:Program}{f:FuncId}{fn:Func}{ms:AL7 PM}{en:Gd}(he:IL P en)(q:(P.funcs[f]?,fn.name=="runtime.NumGoroutine",fn.body.isNone)=(some fn,false,false):=by kernel_rfl):Ap P f (Adp ms en fn) :=
 Ap.of he (k3 q).1 (k3 q).2.1 (k3 q).2.2 (Ahj he.Yk) λ_ _ _ _ h=>h
inductive Pt where
 |k (a:AV)|Ax (ks:List Nat) (t:Ty)|EJ (ks:List Nat) (t:Ty)|ptr (k:Nat) (p:List Nat) (o:Nat)|pr (a b:Pt)|cons (a b:Pt)|fn (f:Nat) (c:Pt)
def AV.isK:AV->AV->Bool
 |.zs,.zs=>true
 |.LO,.LO=>true
 |.nil,.nil=>true
 |.un n,.un m=>n==m
 |.Am n,.Am m=>n==m
 |.mp n,.mp m=>n==m
 |.ptr k i p o,.ptr k' i' p' o'=>k==k'&&i==i'&&p==p'&&o==o'
 |.Ax [] .unit _,.Ax [] .unit _=>true
 |_,_=>false
theorem AV.ApM{a b:AV}(h:a.isK b=true):b=a:=by
 unfold AV.isK at h;split at h<;>first |rfl |(simp at h;obtain⟨⟨⟨rfl,rfl⟩,rfl⟩,rfl⟩:=h;rfl)|(simp at h;subst h;rfl)|cases h
@[reducible] def Pt.T:Pt->Type
 |.k _=>Unit
 |.Ax _ t=>t.V
 |.EJ _ t=>t.V
 |.ptr _ _ _=>Int
 |.pr a b=>a.T×b.T
 |.cons a b=>a.T×b.T
 |.fn _ c=>c.T
def Pt.fill:(p:Pt)->p.T->AV
 |.k a,_=>a
 |.Ax ks t,x=>.Ax ks t x
 |.EJ ks t,x=>.EJ ks t x
 |.ptr j p o,i=>.ptr j i p o
 |.pr a b,x=>.pr (a.fill x.1) (b.fill x.2)
 |.cons a b,x=>.cons (a.fill x.1) (b.fill x.2)
 |.fn f c,x=>.fn f (c.fill x)
def Pt.mt:(p:Pt)->AV->AL8 p.T
 |.k a,b=>bif a.isK b then some ()else none
 |.Ax ks t,a=>match a with |.Ax Uh t' x=>if Uh=ks then IP t' t x else none |_=>none
 |.EJ ks t,a=>match a with |.EJ Uh t' x=>if Uh=ks then IP t' t x else none |_=>none
 |.ptr j p o,a=>match a with |.ptr j' i p' o'=>if j'=j/\p'=p/\o'=o then some i else none |_=>none
 |.pr a b,c=>match c with |.pr x y=>(match a.mt x,b.mt y with |some u,some v=>some (u,v)|_,_=>none)|_=>none
 |.cons a b,c=>match c with |.cons x y=>(match a.mt x,b.mt y with |some u,some v=>some (u,v)|_,_=>none)|_=>none
 |.fn f c,a=>match a with |.fn f' x=>if f'=f then c.mt x else none |_=>none
theorem Pt.Te:∀{p:Pt} {a:AV} {x:p.T},p.mt a=some x->a=p.fill x
 |.k a,b,x,h=>by
  unfold Pt.mt at h;cases e:a.isK b with
  |false=>rw[e]at h;cases h
  |true=>exact AV.ApM e
 |.Ax ks t,a,x,h=>by
  unfold Pt.mt at h;cases a with
  |Ax Uh t' y =>
   simp only at h;split at h
   ·rename_i e;subst e;obtain⟨e,q⟩:=Bz h;subst e;subst q;rfl
   ·cases h
  |_=>cases h
 |.EJ ks t,a,x,h=>by
  unfold Pt.mt at h;cases a with
  |EJ Uh t' y =>
   simp only at h;split at h
   ·rename_i e;subst e;obtain⟨e,q⟩:=Bz h;subst e;subst q;rfl
   ·cases h
  |_=>cases h
 |.ptr j p o,a,x,h=>by
  unfold Pt.mt at h;cases a with
  |ptr j' i p' o' =>
   simp only at h;split at h
   ·rename_i e;obtain⟨rfl,rfl,rfl⟩:=e;injection h with h;subst h;rfl
   ·cases h
  |_=>cases h
 |.pr a b,c,x,h=>by
  unfold Pt.mt at h;cases c with
  |pr y z =>
   simp only at h;split at h
   ·rename_i u v hu hv;injection h with h;subst h;rw[Pt.Te hu,Pt.Te hv];rfl
   ·cases h
  |_=>cases h
 |.cons a b,c,x,h=>by
  unfold Pt.mt at h;cases c with
  |cons y z =>
   simp only at h;split at h
   ·rename_i u v hu hv;injection h with h;subst h;rw[Pt.Te hu,Pt.Te hv];rfl
   ·cases h
  |_=>cases h
 |.fn f c,a,x,h=>by
  unfold Pt.mt at h;cases a with
  |fn f' y =>
   simp only at h;split at h
   ·rename_i e;subst e;rw[Pt.Te h];rfl
   ·cases h
  |_=>cases h
@[reducible] def Aea:List Pt->Type
 |[]=>Unit
 |p::r=>p.T×Aea r
def ApX:(l:AL7 Pt)->Aea l->AL7 AV
 |[],_=>[]
 |p::r,x=>p.fill x.1::ApX r x.2
def AhA:(l:AL7 Pt)->AL7 AV->AL8 (Aea l)
 |[],l=>match l with |[]=>some ()|_=>none
 |p::r,l=>match l with |a::iG=>(match p.mt a,AhA r iG with |some u,some v=>some (u,v)|_,_=>none)|_=>none
theorem kU:∀{l:AL7 Pt} {a:AL7 AV} {x:Aea l},AhA l a=some x->a=ApX l x
 |[],a,x,h=>by
  cases a with
  |nil=>rfl
  |cons _ _=>cases h
 |p::r,a,x,h=>by
  unfold AhA at h;cases a with
  |nil=>cases h
  |cons a iG =>
   simp only at h;split at h
   ·rename_i u v hu hv;injection h with h;subst h;rw[Pt.Te hu,kU hv];rfl
   ·cases h
inductive oU where
 |box (p:Pt)|row (e:Nat) (m:RM) (t:Ty)|map (m:RM) (kt vt:Ty)|AK
def RM.eqb:RM->RM->Bool
 |.Ai,.Ai=>true
 |.sh a,.sh b=>a==b
 |_,_=>false
theorem RM.Acp{a b:RM}(h:a.eqb b=true):b=a:=by
 cases a<;>cases b<;>simp[RM.eqb]at h
 ·rfl
 ·subst h;rfl
@[reducible] def oU.T:oU->Type
 |.box p=>p.T
 |.row _ _ t=>List t.V
 |.map _ kt vt=>List (kt.V×vt.V)
 |.AK=>Unit
def oU.fill:(p:oU)->p.T->Blk
 |.box p,x=>.box (p.fill x)
 |.row e m t,x=>.row e m t x
 |.map m kt vt,x=>.map m kt vt x none
 |.AK,_=>.AK
def oU.mt:(p:oU)->Blk->AL8 p.T
 |.box p,b=>match b with |.box a=>p.mt a |_=>none
 |.row e m t,b=>match b with |.row e' m' t' xs=>if e'=e then bif m.eqb m' then IP (.sl t') (.sl t) xs else none else none |_=>none
 |.map m kt vt,b=>match b with |.map m' kt' vt' es none=>bif m.eqb m' then IP (.sl (.Au kt' vt')) (.sl (.Au kt vt)) es else none |_=>none
 |.AK,b=>match b with |.AK=>some ()|_=>none
theorem oU.Te:∀{p:oU} {a:Blk} {x:p.T},p.mt a=some x->a=p.fill x
 |.box p,a,x,h=>by
  unfold oU.mt at h;cases a with
  |box y=>rw[Pt.Te h];rfl
  |_=>cases h
 |.row e m t,a,x,h=>by
  unfold oU.mt at h;cases a with
  |row e' m' t' y =>
   simp only at h;split at h
   ·rename_i e0;subst e0;cases hm:m.eqb m' with
    |false=>rw[hm]at h;cases h
    |true =>
     rw[hm,AJe]at h;have:=RM.Acp hm;subst this;obtain⟨e1,q⟩:=Bz h;cases Ty.sl.inj e1;subst q;rfl
   ·cases h
  |_=>cases h
 |.map m kt vt,a,x,h=>by
  unfold oU.mt at h;cases a with
  |map m' kt' vt' es st =>
   cases st with
   |none =>
    simp only at h;cases hm:m.eqb m' with
    |false=>rw[hm]at h;cases h
    |true =>
     rw[hm,AJe]at h;have:=RM.Acp hm;subst this;obtain⟨e1,q⟩:=Bz h;obtain⟨e2,e3⟩:=Ty.Au.inj (Ty.sl.inj e1);subst e2;subst e3;subst q;rfl
   |some z=>cases h
  |_=>cases h
 |.AK,a,x,h=>by
  unfold oU.mt at h;cases a with
  |AK=>rfl
  |_=>cases h
@[reducible] def pI:List oU->Type
 |[]=>Unit
 |p::r=>p.T×pI r
def AaX:(l:AL7 oU)->pI l->AL7 Blk
 |[],_=>[]
 |p::r,x=>p.fill x.1::AaX r x.2
def vJ:(l:AL7 oU)->AL7 Blk->AL8 (pI l)
 |[],l=>match l with |[]=>some ()|_=>none
 |p::r,l=>match l with |a::iG=>(match p.mt a,vJ r iG with |some u,some v=>some (u,v)|_,_=>none)|_=>none
theorem eG:∀{l:AL7 oU} {a:AL7 Blk} {x:pI l},vJ l a=some x->a=AaX l x
 |[],a,x,h=>by
  cases a with
  |nil=>rfl
  |cons _ _=>cases h
 |p::r,a,x,h=>by
  unfold vJ at h;cases a with
  |nil=>cases h
  |cons a iG =>
   simp only at h;split at h
   ·rename_i u v hu hv;injection h with h;subst h;rw[oU.Te hu,eG hv];rfl
   ·cases h
structure Br where
 pa:List Pt
 pb:List oU
 U:Type
 F:Aea pa×pI pb->Option U
 out:U->AV×List Blk
def Zq:AL7 Br->(R:Type)->AL7 AV->AL7 Blk->(AV->AL7 Blk->AL8 R)->AL8 R
 |[],_,_,_,_=>none
 |b::r,R,avs,E,K=>match AhA b.pa avs,vJ b.pb E with
  |some x,some y=>(b.F (x,y)).bind λu=>K (b.out u).1 (b.out u).2
  |_,_=>Zq r R avs E K
def B6(ms:AL7 PM)(bs:AL7 Br):Callee:={kK:=ms,run:=Zq bs}
theorem aD:∀(bs:AL7 Br) (R:Type) (args:AL7 AV) (E:AL7 Blk) (K:AV->AL7 Blk->AL8 R),Zq bs R args E K=(Zq bs (AV×AL7 Blk) args E λv b=>some (v,b)).bind λp=>K p.1 p.2
 |[],_,_,_,_=>rfl
 |b::r,R,args,E,K=>by
  unfold Zq;split
  ·rw[AJf];rfl
  ·exact aD r R args E K
def ABa(P:Program)(fn:Func)(b:Br):Prop:=∃en,IL P en/\∀p (R:Type) (K:AV->AL7 Blk->AL8 R),R4 en fn R (ApX b.pa p.1) (AaX b.pb p.2) K=(b.F p).bind λu=>K (b.out u).1 (b.out u).2
def zW(P:Program)(fn:Func):AL7 Br->Prop
 |[]=>True
 |b::r=>ABa P fn b/\zW P fn r
theorem AaY{P:Program}{fn:Func}:∀{bs:AL7 Br},zW P fn bs->∀args E av E',Zq bs (AV×AL7 Blk) args E (λv b=>some (v,b))=some (av,E')->∃en,IL P en/\R4 en fn (AV×AL7 Blk) args E (λv b=>some (v,b))=some (av,E')
 |[],_,_,_,_,_,h=>by cases h
 |b::r,⟨⟨en,he,hb⟩,hr⟩,args,E,av,E',h=>by
  unfold Zq at h;split at h
  ·rename_i x y hx hy;refine⟨en,he,?_⟩;rw[kU hx,eG hy];exact(hb (x,y) _ _).trans h
  ·exact AaY hr args E av E' h
theorem As{P:Program}{f:FuncId}{fn:Func}{ms:AL7 PM}{bs:AL7 Br}(h:zW P fn bs)(q:(P.funcs[f]?,fn.name=="runtime.NumGoroutine",fn.body.isNone)=(some fn,false,false):=by kernel_rfl):Ap P f (B6 ms bs) :=
 Ap.of2 (k3 q).1 (k3 q).2.1 (k3 q).2.2 (aD bs) (AaY h)
def zV:AL7 Br->Prop
 |[]=>True
 |b::r=>(∀p,b.F p=none)/\zV r
theorem Ais:∀{bs:AL7 Br},zV bs->∀(R:Type) args E K,Zq bs R args E K=none
 |[],_,_,_,_,_=>rfl
 |b::r,h,R,args,E,K=>by
  unfold Zq;split
  ·rw[h.1];rfl
  ·exact Ais h.2 R args E K
theorem AfG{P:Program}{f:FuncId}{ms:AL7 PM}{bs:AL7 Br}(h:zV bs):Ap P f (B6 ms bs) where
 Yk:=aD bs
 snd args E av E' hr:=by
  rw[show(B6 ms bs).run _ args E _=none from Ais h _ _ _ _]at hr;cases hr
abbrev ALh:=And.intro @mC (And.intro @mI (And.intro @mN (And.intro @mB (And.intro @mE @mM))))
abbrev ALi:=And.intro @bC (And.intro @bI (And.intro @bN (And.intro @bE (And.intro @bA (And.intro @bS (And.intro @bO @bM))))))
abbrev wI(x:Int):Int:=IntKind.i64.wrap x
end Go.Va
namespace Go.Proofs.X
open Go Go.Va Go.Proofs.Tryz
set_option maxRecDepth 100000
abbrev Tlaws_Decl:Ty:=(.Au .str (.Au (.int .i64) .unit))
abbrev ea:Ty:=(.Au (.int .i64) (.Au (.sl (.int .u64)) .unit))
abbrev WN:Ty:=(.Au (.int .i64) (.Au (.int .i64) (.Au (.int .i64) (.Au (.int .i64) (.Au ea (.Au (.sl (.int .i64)) .unit))))))
abbrev Yt:Ty:=(.Au (.sl WN) .unit)
abbrev Tlaws_Literal:Ty:=(.Au (.int .i64) (.Au .bool (.Au Yt (.Au Yt .unit))))
abbrev Tlaws_Cuts:Ty:=(.Au (.sl (.sl (.int .i64))) .unit)
abbrev Aj:Ty:=(.Au (.sl (.sl (.int .i64))) .unit)
abbrev Ah:Ty:=(.Au (.int .i64) (.Au (.sl (.int .u64)) .unit))
abbrev Ak:Ty:=(.Au (.sl (.int .i64)) (.Au .bool (.Au Ah .unit)))
abbrev AG:Ty:=(.Au Aj (.Au (.sl Ak) (.Au (.sl (.int .i64)) .unit)))
abbrev Ad:Ty:=(.Au .str (.Au (.int .i64) .unit))
abbrev Af:Ty:=(.Au (.int .i64) (.Au (.int .i64) (.Au (.int .i64) (.Au (.int .i64) (.Au Ah (.Au (.sl (.int .i64)) .unit))))))
abbrev Ar:Ty:=(.Au (.sl Af) .unit)
abbrev Ag:Ty:=(.Au (.int .i64) (.Au .bool (.Au Ar (.Au Ar .unit))))
abbrev Ab:Ty:=(.Au (.int .i64) (.Au (.int .i64) (.Au (.int .i64) .unit)))
abbrev Cu:Ty:=(.Au (.int .i64) (.Au Ah .unit))
abbrev Aq:Ty:=(.Au Cu (.Au Cu (.Au (.int .i64) .unit)))
abbrev VR:Ty:=(.Au (.int .i64) (.Au (.int .i64) (.Au (.int .i64) .unit)))
abbrev pq:Ty:=(.Au (.sl Ah) (.Au (.sl VR) (.Au (.sl (.int .i64)) .unit)))
abbrev Ae:Ty:=(.Au (.int .i64) (.Au (.int .i64) (.Au (.int .i64) (.Au Ah .unit))))
abbrev Aa:Ty:=(.Au (.int .i64) (.Au (.int .i64) .unit))
abbrev Ao:Ty:=(.Au (.sl Aa) (.Au (.sl .bool) .unit))
abbrev pn:Ty:=(.Au (.sl Ad) (.Au (.sl Ag) (.Au (.sl (.Au (.sl Ae) (.Au (.sl Ae) .unit))) (.Au Aj (.Au (.sl Ab) (.Au (.QG 1) .unit))))))
abbrev lV:Ty:=(.Au (.sl (.int .i64)) (.Au (.sl (.int .i64)) (.Au (.QG 1) (.Au (.sl VR) .unit))))
abbrev lU:Ty:=(.Au (.sl Ad) (.Au (.sl (.sl .bool)) (.Au (.QG 1) (.Au (.sl (.Au (.int .i64) (.Au (.int .i64) .unit))) .unit))))
abbrev d9:Ty:=(.Au (.int .i64) (.Au (.int .i64) (.Au (.int .i64) .unit)))
abbrev Ku:Ty:=(.Au Ae (.Au (.int .i64) .unit))
abbrev ALP:Ty:=.int .i64
abbrev ALQ:Ty:=.int .u64
abbrev ALR:Ty:=.int .u8
abbrev ALS:Ty:=.sl Ae
abbrev ALT:Ty:=.sl ALP
abbrev ALU:Ty:=.sl Ad
abbrev ALV:Ty:=.sl Aa
abbrev ALW:Ty:=.sl .bool
abbrev ALX:Ty:=.sl Ab
abbrev ALY:Ty:=.sl Ag
abbrev ALZ:Ty:=.sl ALQ
abbrev AL0:Ty:=.sl Af
abbrev AL1:Ty:=.sl ALR
abbrev AL2:Ty:=.sl Ak
abbrev AL3:Ty:=.sl ALT
abbrev AL4:Ty:=.sl ALW
abbrev AL5:Ty:=.sl ALS
abbrev AL6:Ty:=.sl ALV
abbrev ALj:=AG.V
abbrev ALk:=Aa.V
abbrev ALl:=Ab.V
abbrev ALm:=Ad.V
abbrev ALn:=Ae.V
abbrev ALo:=Af.V
abbrev ALp:=Ag.V
abbrev ALq:=Ah.V
abbrev ALr:=Aj.V
abbrev ALs:=Ak.V
abbrev ALt:=Ao.V
abbrev ALu:=Aq.V
abbrev ALv:=Ar.V
abbrev ALw:=Cu.V
abbrev ALx:=List Int
abbrev ALy:=List Bool
abbrev ALz:=List Nat
abbrev ALA:=List ALk
abbrev ALB:=List ALl
abbrev ALC:=List ALm
abbrev ALD:=List ALn
abbrev ALE:=List ALo
abbrev ALF:=List ALp
abbrev ALG:=List ALq
abbrev ALH:=List ALs
abbrev ALI:=List ALt
abbrev ALJ:=List ALu
abbrev ALK:=List ALx
abbrev ALM:=List ALy
abbrev ALN:=List ALA
abbrev ALO:=List ALD
def Dm:vA:=[
 (2,⟨ALP,[],0,8,0,0,false⟩),
 (3,⟨ALP,[],0,8,0,0,false⟩),
 (4,⟨.bool,[],0,1,0,0,false⟩),
 (5,⟨ALR,[],0,1,0,0,false⟩),
 (9,⟨.str,[],0,16,0,0,false⟩),
 (22,⟨.sl Tlaws_Decl,[],75,24,0,0,false⟩),
 (23,⟨.sl Tlaws_Literal,[],78,24,0,0,false⟩),
 (24,⟨AL3,[],32,24,0,0,false⟩),
 (26,⟨Tlaws_Cuts,[0],0,24,0,0,false⟩),
 (30,⟨Aj,[0],0,24,0,0,false⟩),
 (31,⟨AL2,[],102,24,0,0,false⟩),
 (32,⟨ALT,[],2,24,0,0,false⟩),
 (34,⟨AG,[0,1,2],0,72,0,0,false⟩),
 (37,⟨ALU,[],105,24,0,0,false⟩),
 (39,⟨ALY,[],87,24,0,0,false⟩),
 (51,⟨.sl WN,[],186,24,0,0,false⟩),
 (53,⟨Yt,[0],0,24,0,0,false⟩),
 (55,⟨ALZ,[],199,24,0,0,false⟩),
 (57,⟨Ah,[0,1],0,32,0,0,false⟩),
 (60,⟨AL0,[],182,24,0,0,false⟩),
 (62,⟨Ar,[0],0,24,0,0,false⟩),
 (75,⟨Tlaws_Decl,[0,1],0,24,0,0,false⟩),
 (78,⟨Tlaws_Literal,[0,1,2,3],0,64,0,0,false⟩),
 (82,⟨ALX,[],151,24,0,0,false⟩),
 (87,⟨Ag,[0,1,2,3],0,64,0,0,false⟩),
 (88,⟨.sl Aq,[],96,24,0,0,false⟩),
 (94,⟨Cu,[0,1],0,40,0,0,false⟩),
 (96,⟨Aq,[0,3,6],0,88,0,0,false⟩),
 (97,⟨.sl Ah,[],57,24,0,0,false⟩),
 (98,⟨.sl VR,[],164,24,0,0,false⟩),
 (100,⟨pq,[0,1,2],0,72,0,0,false⟩),
 (102,⟨Ak,[0,1,2],0,64,0,0,false⟩),
 (105,⟨Ad,[0,1],0,24,0,0,false⟩),
 (122,⟨ALS,[],218,24,0,0,false⟩),
 (125,⟨AL1,[],5,24,0,0,false⟩),
 (146,⟨AL4,[],154,24,0,0,false⟩),
 (151,⟨Ab,[0,1,2],0,24,0,0,false⟩),
 (153,⟨ALV,[],198,24,0,0,false⟩),
 (154,⟨ALW,[],4,24,0,0,false⟩),
 (156,⟨Ao,[0,1],0,48,0,0,false⟩),
 (164,⟨VR,[0,1,2],0,24,0,0,false⟩),
 (168,⟨.sl (.Au ALS (.Au ALS .unit)),[],222,24,0,0,false⟩),
 (172,⟨.QG 1,[],2,8,0,225,false⟩),
 (174,⟨pn,[0,1,2,3,4,5],0,128,0,0,false⟩),
 (182,⟨Af,[0,1,2,3,4,6],0,88,0,0,false⟩),
 (184,⟨ea,[0,1],0,32,0,0,false⟩),
 (186,⟨WN,[0,1,2,3,4,6],0,88,0,0,false⟩),
 (187,⟨AL5,[],122,24,0,0,false⟩),
 (192,⟨AL6,[],153,24,0,0,false⟩),
 (198,⟨Aa,[0,1],0,16,0,0,false⟩),
 (199,⟨ALQ,[],0,8,0,0,false⟩),
 (200,⟨ALQ,[],0,8,0,0,false⟩),
 (216,⟨.sl Ao,[],156,24,0,0,false⟩),
 (218,⟨Ae,[0,1,2,3],0,56,0,0,false⟩),
 (222,⟨.Au ALS (.Au ALS .unit),[],122,48,2,0,false⟩),
 (225,⟨.Au ALP (.Au ALP .unit),[],2,16,2,0,false⟩),
 (226,⟨.QG 1,[],57,8,0,2,false⟩),
 (228,⟨lV,[0,1,2,3],0,80,0,0,false⟩),
 (231,⟨.QG 1,[],3,8,0,2,false⟩),
 (243,⟨.QG 1,[],244,8,0,225,false⟩),
 (244,⟨.sl (.Au ALP (.Au ALP .unit)),[],225,24,0,0,false⟩),
 (246,⟨lU,[0,1,2,3],0,80,0,0,false⟩),
 (249,⟨.sl d9,[],252,24,0,0,false⟩),
 (252,⟨d9,[0,1,2],0,24,0,0,false⟩),
 (257,⟨Ku,[0,5],0,64,0,0,false⟩),
 (260,⟨.QG 1,[],98,8,0,2,false⟩),
 (261,⟨.QG 1,[],164,8,0,2,false⟩)]
theorem AAn:cF prog Dm=true:=by kernel_rfl
theorem mixed:prog.follows .mixedOrders=true:=by kernel_rfl
abbrev eN(l:List (Nat×Va.Callee))(fi:FI):Gd:=⟨Dm,NH l,fi⟩
theorem pk{l fi}(h:z6 prog l):IL prog ⟨Dm,NH l,fi⟩:=⟨⟨AAn,Acy h⟩,mixed⟩
noncomputable section
abbrev E0:=eN [] {}
def HP(a:ALm)(b:Int):Int:=(bif decide ((wI (b-(a.1.size:Int)))<0)then(-1)else(wI (b-(a.1.size:Int))))
theorem U0 R a b K:R4 E0 f37 R [dD Ad a,dI b] [] K=K (dI (HP a b)) []:=by
 refine .trans (b:=
 bif decide ((wI (b-(a.1.size:Int)))<0)then
 K (dI (-1)) []
 else
 K (dI (wI (b-(a.1.size:Int)))) []) (by kernel_rfl) ?_
 unfold HP;cases (decide ((wI (b-(a.1.size:Int)))<0));rfl;rfl
def c37:=B6 [.d Ad,.d ALP] [⟨[.Ax [] Ad,.Ax [] ALP],[],Int,λp=>some (HP p.1.1 p.1.2.1),λr=>(dI r,[])⟩]
theorem Af2:Ap prog 37 c37:=As ⟨⟨E0,pk trivial,λ_ _ _=>U0 ..⟩,trivial⟩
abbrev E1:=eN [(37,c37)] {A1:=[(5,[0,1,5])],Bv:=[(5,[1,4])]}
def ABN a (z_:Int×Int):=sT 27 [(0,dD ALU a),(1,dI z_.1),(5,dI z_.2)] []
def ABK(a:ALC):=Sum.elim (λ(b:Int)=>xR 27 [(1,dI b),(4,dI (-1))] []) (λ(c:Int)=>xE 0 27 [(1,dI c)] [])
def Uz(a:ALC)(d e:Int):AL8 ((Int×Int)⊕(Int⊕Int)):=
 bif decide (e<(a.length:Int))then
 if 0<=e/\e<a.length then
 bif decide ((HP (a.getD e.toNat Ad.zero) d)<0)then
 some (.inr (.inl (HP (a.getD e.toNat Ad.zero) d)))
 else
 some (.inl (HP (a.getD e.toNat Ad.zero) d,wI (e+1)))
 else none
 else
 some (.inr (.inr d))
def KY a (z_:Int×Int):=Uz a z_.1 z_.2
def Wy a d e:=fix (KY a) (d,e)
theorem ABQ a:A0 E1 0 5 (code f6) 122 (ABN a) (KY a) (ABK a):=by
 intro _;simp only[KY,Uz,ALh];kernel_rfl
def Tc(a:ALC)(g:Int):AL8 Int:=
 bif decide ((wI (g-(a.length:Int)))<0)then
 some (-1)
 else
 (Wy a (wI (g-(a.length:Int))) 0).bind (Sum.elim (λb=>some (-1)) (λc=>some c))
def c6:=B6 [.d ALU,.d ALP] [⟨[.Ax [] ALU,.Ax [] ALP],[],Int,λp=>Tc p.1.1 p.1.2.1,λr=>(dI r,[])⟩]
theorem AoS:Ap prog 6 c6:=As (fn:=f6) ⟨⟨E1,pk ⟨Af2,trivial⟩,λ_ R K=>by
 simp only[Tc,ALi];simp(disch:=refine id ?_;kernel_rfl) only[Wy,Az (ABQ _) (K:=AY E1 f6 0 R K)];kernel_rfl⟩,trivial⟩
abbrev E2:=eN [] {}
def B9(a:ALx)(b:Int):Int:=(bif decide ((wI (b-(a.length:Int)))<0)then(-1)else(wI (b-(a.length:Int))))
theorem U2 R a b K:R4 E2 f170 R [dD ALZ a,dI b] [] K=K (dI (B9 a b)) []:=by
 refine .trans (b:=
 bif decide ((wI (b-(a.length:Int)))<0)then
 K (dI (-1)) []
 else
 K (dI (wI (b-(a.length:Int)))) []) (by kernel_rfl) ?_
 unfold B9;cases (decide ((wI (b-(a.length:Int)))<0));rfl;rfl
def Ayv:=B6 [.d ALZ,.d ALP] [⟨[.Ax [] ALZ,.Ax [] ALP],[],Int,λp=>some (B9 p.1.1 p.1.2.1),λr=>(dI r,[])⟩]
theorem AbP:Ap prog 170 Ayv:=As ⟨⟨E2,pk trivial,λ_ _ _=>U2 ..⟩,trivial⟩
abbrev E3:=eN [(170,Ayv)] {}
def Cv(a:ALq)(b:Int):Int:=(bif decide ((B9 a.2.1 b)<0)then(-1)else(B9 a.2.1 b))
theorem U3 R a b K:R4 E3 f147 R [dD Ah a,dI b] [] K=K (dI (Cv a b)) []:=by
 refine .trans (b:=
 bif decide ((B9 a.2.1 b)<0)then
 K (dI (-1)) []
 else
 K (dI (B9 a.2.1 b)) []) (by kernel_rfl) ?_
 unfold Cv;cases (decide ((B9 a.2.1 b)<0));rfl;rfl
def Aye:=B6 [.d Ah,.d ALP] [⟨[.Ax [] Ah,.Ax [] ALP],[],Int,λp=>some (Cv p.1.1 p.1.2.1),λr=>(dI r,[])⟩]
theorem Aby:Ap prog 147 Aye:=As ⟨⟨E3,pk ⟨AbP,trivial⟩,λ_ _ _=>U3 ..⟩,trivial⟩
abbrev E4:=eN [] {}
def BG(a:ALx)(b:Int):Int:=(bif decide ((wI (b-(a.length:Int)))<0)then(-1)else(wI (b-(a.length:Int))))
theorem U4 R a b K:R4 E4 f82 R [dD ALT a,dI b] [] K=K (dI (BG a b)) []:=by
 refine .trans (b:=
 bif decide ((wI (b-(a.length:Int)))<0)then
 K (dI (-1)) []
 else
 K (dI (wI (b-(a.length:Int)))) []) (by kernel_rfl) ?_
 unfold BG;cases (decide ((wI (b-(a.length:Int)))<0));rfl;rfl
def c82:=B6 [.d ALT,.d ALP] [⟨[.Ax [] ALT,.Ax [] ALP],[],Int,λp=>some (BG p.1.1 p.1.2.1),λr=>(dI r,[])⟩]
theorem vT:Ap prog 82 c82:=As ⟨⟨E4,pk trivial,λ_ _ _=>U4 ..⟩,trivial⟩
abbrev E5:=eN [(82,c82),(147,Aye)] {}
def FV(a:ALo)(b:Int):Int:=(bif decide ((Cv a.2.2.2.2.1 b)<0)then(-1)else(bif decide ((BG a.2.2.2.2.2.1 (Cv a.2.2.2.2.1 b))<0)then(-1)else(BG a.2.2.2.2.2.1 (Cv a.2.2.2.2.1 b))))
theorem U5 R a b K:R4 E5 f108 R [dD Af a,dI b] [] K=K (dI (FV a b)) []:=by
 refine .trans (b:=
 bif decide ((Cv a.2.2.2.2.1 b)<0)then
 K (dI (-1)) []
 else
 bif decide ((BG a.2.2.2.2.2.1 (Cv a.2.2.2.2.1 b))<0)then
 K (dI (-1)) []
 else
 K (dI (BG a.2.2.2.2.2.1 (Cv a.2.2.2.2.1 b))) []) (by kernel_rfl) ?_
 unfold FV;cases (decide ((Cv a.2.2.2.2.1 b)<0));cases (decide ((BG a.2.2.2.2.2.1 (Cv a.2.2.2.2.1 b))<0));rfl;rfl;rfl
def AxR:=B6 [.d Af,.d ALP] [⟨[.Ax [] Af,.Ax [] ALP],[],Int,λp=>some (FV p.1.1 p.1.2.1),λr=>(dI r,[])⟩]
theorem Abb:Ap prog 108 AxR:=As ⟨⟨E5,pk ⟨vT,Aby,trivial⟩,λ_ _ _=>U5 ..⟩,trivial⟩
abbrev E6:=eN [(108,AxR)] {A1:=[(5,[0,1,5])],Bv:=[(5,[1,4])]}
def ABO a (z_:Int×Int):=sT 27 [(0,dD AL0 a),(1,dI z_.1),(5,dI z_.2)] []
def ABL(a:ALE):=Sum.elim (λ(b:Int)=>xR 27 [(1,dI b),(4,dI (-1))] []) (λ(c:Int)=>xE 0 27 [(1,dI c)] [])
def TP(a:ALE)(d e:Int):AL8 ((Int×Int)⊕(Int⊕Int)):=
 bif decide (e<(a.length:Int))then
 if 0<=e/\e<a.length then
 bif decide ((FV (a.getD e.toNat Af.zero) d)<0)then
 some (.inr (.inl (FV (a.getD e.toNat Af.zero) d)))
 else
 some (.inl (FV (a.getD e.toNat Af.zero) d,wI (e+1)))
 else none
 else
 some (.inr (.inr d))
def JM a (z_:Int×Int):=TP a z_.1 z_.2
def VD a d e:=fix (JM a) (d,e)
theorem ABR a:A0 E6 0 5 (code f62) 122 (ABO a) (JM a) (ABL a):=by
 intro _;simp only[JM,TP,ALh];kernel_rfl
def NF(a:ALE)(g:Int):AL8 Int:=
 bif decide ((wI (g-(a.length:Int)))<0)then
 some (-1)
 else
 (VD a (wI (g-(a.length:Int))) 0).bind (Sum.elim (λb=>some (-1)) (λc=>some c))
def c62:=B6 [.d AL0,.d ALP] [⟨[.Ax [] AL0,.Ax [] ALP],[],Int,λp=>NF p.1.1 p.1.2.1,λr=>(dI r,[])⟩]
theorem Ago:Ap prog 62 c62:=As (fn:=f62) ⟨⟨E6,pk ⟨Abb,trivial⟩,λ_ R K=>by
 simp only[NF,ALi];simp(disch:=refine id ?_;kernel_rfl) only[VD,Az (ABR _) (K:=AY E6 f62 0 R K)];kernel_rfl⟩,trivial⟩
abbrev E7:=eN [(62,c62)] {}
def LL(a:ALv)(b:Int):AL8 Int:=
 (NF a.1 b).bind λc=>bif decide (c<0)then
 some (-1)
 else
 some c
def c23:=B6 [.d Ar,.d ALP] [⟨[.Ax [] Ar,.Ax [] ALP],[],Int,λp=>LL p.1.1 p.1.2.1,λr=>(dI r,[])⟩]
theorem AfZ:Ap prog 23 c23:=As (fn:=f23) ⟨⟨E7,pk ⟨Ago,trivial⟩,λ_ R K=>by
 simp only[LL,ALi];kernel_rfl⟩,trivial⟩
end
noncomputable section
abbrev E8:=eN [(23,c23)] {}
def PZ(a:ALp)(b:Int):AL8 Int:=
 (LL a.2.2.1 b).bind λc=>bif decide (c<0)then
 some (-1)
 else
 (LL a.2.2.2.1 c).bind λd=>bif decide (d<0)then
 some (-1)
 else
 some d
def c38:=B6 [.d Ag,.d ALP] [⟨[.Ax [] Ag,.Ax [] ALP],[],Int,λp=>PZ p.1.1 p.1.2.1,λr=>(dI r,[])⟩]
theorem Af3:Ap prog 38 c38:=As (fn:=f38) ⟨⟨E8,pk ⟨AfZ,trivial⟩,λ_ R K=>by
 simp only[PZ,ALi];kernel_rfl⟩,trivial⟩
abbrev E9:=eN [(38,c38)] {A1:=[(5,[0,1,5])],Bv:=[(5,[1,4])]}
def ABP a (z_:Int×Int):=sT 27 [(0,dD ALY a),(1,dI z_.1),(5,dI z_.2)] []
def ABM(a:ALF):=Sum.elim (λ(b:Int)=>xR 27 [(1,dI b),(4,dI (-1))] []) (λ(c:Int)=>xE 0 27 [(1,dI c)] [])
def RV(a:ALF)(d e:Int):AL8 ((Int×Int)⊕(Int⊕Int)):=
 bif decide (e<(a.length:Int))then
 if 0<=e/\e<a.length then
 (PZ (a.getD e.toNat Ag.zero) d).bind λg=>bif decide (g<0)then
 some (.inr (.inl g))
 else
 some (.inl (g,wI (e+1)))
 else none
 else
 some (.inr (.inr d))
def HQ a (z_:Int×Int):=RV a z_.1 z_.2
def TN a d e:=fix (HQ a) (d,e)
theorem ABS a:A0 E9 0 5 (code f7) 122 (ABP a) (HQ a) (ABM a):=by
 intro _;simp only[HQ,RV,ALh];kernel_rfl
def Ob(a:ALF)(i:Int):AL8 Int:=
 bif decide ((wI (i-(a.length:Int)))<0)then
 some (-1)
 else
 (TN a (wI (i-(a.length:Int))) 0).bind (Sum.elim (λb=>some (-1)) (λc=>some c))
def c7:=B6 [.d ALY,.d ALP] [⟨[.Ax [] ALY,.Ax [] ALP],[],Int,λp=>Ob p.1.1 p.1.2.1,λr=>(dI r,[])⟩]
theorem AoT:Ap prog 7 c7:=As (fn:=f7) ⟨⟨E9,pk ⟨Af3,trivial⟩,λ_ R K=>by
 simp only[Ob,ALi];simp(disch:=refine id ?_;kernel_rfl) only[TN,Az (ABS _) (K:=AY E9 f7 0 R K)];kernel_rfl⟩,trivial⟩
abbrev E10:=eN [(82,c82)] {A1:=[(5,[0,1,5])],Bv:=[(5,[1,4])]}
def As3 a (z_:Int×Int):=sT 27 [(0,dD AL3 a),(1,dI z_.1),(5,dI z_.2)] []
def AqW(a:ALK):=Sum.elim (λ(b:Int)=>xR 27 [(1,dI b),(4,dI (-1))] []) (λ(c:Int)=>xE 0 27 [(1,dI c)] [])
def S3(a:ALK)(d e:Int):AL8 ((Int×Int)⊕(Int⊕Int)):=
 bif decide (e<(a.length:Int))then
 if 0<=e/\e<a.length then
 bif decide ((BG (a.getD e.toNat ALT.zero) d)<0)then
 some (.inr (.inl (BG (a.getD e.toNat ALT.zero) d)))
 else
 some (.inl (BG (a.getD e.toNat ALT.zero) d,wI (e+1)))
 else none
 else
 some (.inr (.inr d))
def IE a (z_:Int×Int):=S3 a z_.1 z_.2
def UA a d e:=fix (IE a) (d,e)
theorem Avb a:A0 E10 0 5 (code f39) 122 (As3 a) (IE a) (AqW a):=by
 intro _;simp only[IE,S3,ALh];kernel_rfl
def LK(a:ALK)(g:Int):AL8 Int:=
 bif decide ((wI (g-(a.length:Int)))<0)then
 some (-1)
 else
 (UA a (wI (g-(a.length:Int))) 0).bind (Sum.elim (λb=>some (-1)) (λc=>some c))
def c39:=B6 [.d AL3,.d ALP] [⟨[.Ax [] AL3,.Ax [] ALP],[],Int,λp=>LK p.1.1 p.1.2.1,λr=>(dI r,[])⟩]
theorem Af4:Ap prog 39 c39:=As (fn:=f39) ⟨⟨E10,pk ⟨vT,trivial⟩,λ_ R K=>by
 simp only[LK,ALi];simp(disch:=refine id ?_;kernel_rfl) only[UA,Az (Avb _) (K:=AY E10 f39 0 R K)];kernel_rfl⟩,trivial⟩
abbrev E11:=eN [(39,c39)] {}
def Uy(a:ALr)(b:Int):AL8 Int:=
 (LK a.1 b).bind λc=>bif decide (c<0)then
 some (-1)
 else
 some c
def c8:=B6 [.d Aj,.d ALP] [⟨[.Ax [] Aj,.Ax [] ALP],[],Int,λp=>Uy p.1.1 p.1.2.1,λr=>(dI r,[])⟩]
theorem AoU:Ap prog 8 c8:=As (fn:=f8) ⟨⟨E11,pk ⟨Af4,trivial⟩,λ_ R K=>by
 simp only[Uy,ALi];kernel_rfl⟩,trivial⟩
abbrev E12:=eN [] {}
def UC(a:ALm):(ByteArray×Int):=(a.1,a.2.1)
def c47:=B6 [.d Ad] [⟨[.Ax [] Ad],[],ByteArray×Int,λp=>some (UC p.1.1),λr=>(.pr (dD .str r.1) (.pr (dI r.2) .u),[])⟩]
theorem Af9:Ap prog 47 c47:=As (fn:=f47) ⟨⟨E12,pk trivial,λ_ _ _=>by kernel_rfl⟩,trivial⟩
abbrev E13:=eN [(47,c47)] {A1:=[(3,[0,3,4])],Bv:=[(3,[3])]}
def As4 a (z_:Int×ALC):=sT 23 [(0,dD ALU a),(3,.Am 0),(4,dI z_.1)] [.row 105 .Ai Ad z_.2]
def AqX(a:ALC):=λ(b:ALC)=>xE 0 23 [(3,.Am 0)] [.row 105 .Ai Ad b]
def UD(a:ALC)(c:Int)(d:ALC):AL8 ((Int×ALC)⊕ALC):=
 bif decide (c<(a.length:Int))then
 if 0<=c/\c<a.length then
 if 0<=c/\c<d.length then
 some (.inl (wI (c+1),d.set c.toNat ((UC (a.getD c.toNat Ad.zero)).1,(UC (a.getD c.toNat Ad.zero)).2,())))
 else none
 else none
 else
 some (.inr d)
def KZ a (z_:Int×ALC):=UD a z_.1 z_.2
def Sy a c d:=fix (KZ a) (c,d)
theorem Avc a:A0 E13 0 3 (code f10) 58 (As4 a) (KZ a) (AqX a):=by
 intro _;simp only[KZ,UD,ALh];kernel_rfl
def BU(a:ALC):AL8 ALC:=
 if Ty.row Ad=true/\(0:Int)<=(a.length:Int)/\(a.length:Int)<=(a.length:Int)/\((24:Nat):Int)*(a.length:Int)<=(281474976710656:Int)/\(a.length:Int)<=(9223372036854775807:Int)then
 (Sy a 0 (List.replicate (a.length:Int).toNat ((⟨#[]⟩:ByteArray),0,()))).bind λb=>some b
 else none
def c10:=B6 [.d ALU] [⟨[.Ax [] ALU],[],ALC,λp=>BU p.1.1,λr=>(.Am 0,[.row 105 .Ai Ad r])⟩]
theorem AfJ:Ap prog 10 c10:=As (fn:=f10) ⟨⟨E13,pk ⟨Af9,trivial⟩,λ_ R K=>by
 simp only[BU,ALi];simp(disch:=refine id ?_;kernel_rfl) only[Sy,Az (Avc _) (K:=AY E13 f10 0 R K)];kernel_rfl⟩,trivial⟩
abbrev E14:=eN [] {A1:=[(3,[0,3,4])],Bv:=[(3,[3])]}
def As5 a (z_:Int×ALx):=sT 22 [(0,dD ALZ a),(3,.Am 0),(4,dI z_.1)] [.row 199 .Ai ALQ z_.2]
def AqY(a:ALx):=λ(b:ALx)=>xE 0 22 [(3,.Am 0)] [.row 199 .Ai ALQ b]
def S5(a:ALx)(c:Int)(d:ALx):AL8 ((Int×ALx)⊕ALx):=
 bif decide (c<(a.length:Int))then
 if 0<=c/\c<a.length then
 if 0<=c/\c<d.length then
 some (.inl (wI (c+1),d.set c.toNat (a.getD c.toNat ALQ.zero)))
 else none
 else none
 else
 some (.inr d)
def IH a (z_:Int×ALx):=S5 a z_.1 z_.2
def P3 a c d:=fix (IH a) (c,d)
theorem Avd a:A0 E14 0 3 (code f173) 58 (As5 a) (IH a) (AqY a):=by
 intro _;simp only[IH,S5,ALh];kernel_rfl
def I6(a:ALx):AL8 ALx:=
 if Ty.row ALQ=true/\(0:Int)<=(a.length:Int)/\(a.length:Int)<=(a.length:Int)/\((8:Nat):Int)*(a.length:Int)<=(281474976710656:Int)/\(a.length:Int)<=(9223372036854775807:Int)then
 (P3 a 0 (List.replicate (a.length:Int).toNat 0)).bind λb=>some b
 else none
def Ayy:=B6 [.d ALZ] [⟨[.Ax [] ALZ],[],ALx,λp=>I6 p.1.1,λr=>(.Am 0,[.row 199 .Ai ALQ r])⟩]
theorem AbS:Ap prog 173 Ayy:=As (fn:=f173) ⟨⟨E14,pk trivial,λ_ R K=>by
 simp only[I6,ALi];simp(disch:=refine id ?_;kernel_rfl) only[P3,Az (Avd _) (K:=AY E14 f173 0 R K)];kernel_rfl⟩,trivial⟩
abbrev E15:=eN [(173,Ayy)] {}
def UB(a:ALq):AL8 (Int×ALx):=
 (I6 a.2.1).bind λb=>some (a.1,b)
def Ayg:=B6 [.d Ah] [⟨[.Ax [] Ah],[],Int×ALx,λp=>UB p.1.1,λr=>(.pr (dI r.1) (.pr (.Am 0) .u),[.row 199 .Ai ALQ r.2])⟩]
theorem AbA:Ap prog 150 Ayg:=As (fn:=f150) ⟨⟨E15,pk ⟨AbS,trivial⟩,λ_ R K=>by
 simp only[UB,ALi];kernel_rfl⟩,trivial⟩
abbrev E16:=eN [] {A1:=[(3,[0,3,4])],Bv:=[(3,[3])]}
def As6 a (z_:Int×ALx):=sT 22 [(0,dD ALT a),(3,.Am 0),(4,dI z_.1)] [.row 2 .Ai ALP z_.2]
def AqZ(a:ALx):=λ(b:ALx)=>xE 0 22 [(3,.Am 0)] [.row 2 .Ai ALP b]
def TQ(a:ALx)(c:Int)(d:ALx):AL8 ((Int×ALx)⊕ALx):=
 bif decide (c<(a.length:Int))then
 if 0<=c/\c<a.length then
 if 0<=c/\c<d.length then
 some (.inl (wI (c+1),d.set c.toNat (a.getD c.toNat ALP.zero)))
 else none
 else none
 else
 some (.inr d)
def JO a (z_:Int×ALx):=TQ a z_.1 z_.2
def Q3 a c d:=fix (JO a) (c,d)
theorem Ave a:A0 E16 0 3 (code f97) 58 (As6 a) (JO a) (AqZ a):=by
 intro _;simp only[JO,TQ,ALh];kernel_rfl
def Ga(a:ALx):AL8 ALx:=
 if Ty.row ALP=true/\(0:Int)<=(a.length:Int)/\(a.length:Int)<=(a.length:Int)/\((8:Nat):Int)*(a.length:Int)<=(281474976710656:Int)/\(a.length:Int)<=(9223372036854775807:Int)then
 (Q3 a 0 (List.replicate (a.length:Int).toNat 0)).bind λb=>some b
 else none
def c97:=B6 [.d ALT] [⟨[.Ax [] ALT],[],ALx,λp=>Ga p.1.1,λr=>(.Am 0,[.row 2 .Ai ALP r])⟩]
theorem vY:Ap prog 97 c97:=As (fn:=f97) ⟨⟨E16,pk trivial,λ_ R K=>by
 simp only[Ga,ALi];simp(disch:=refine id ?_;kernel_rfl) only[Q3,Az (Ave _) (K:=AY E16 f97 0 R K)];kernel_rfl⟩,trivial⟩
abbrev E17:=eN [(97,c97),(150,Ayg)] {}
def P2(a:ALo):AL8 (Int×Int×Int×Int×Int×ALx×ALx):=
 (UB a.2.2.2.2.1).bind λb=>(Ga a.2.2.2.2.2.1).bind λc=>some (a.1,a.2.1,a.2.2.1,a.2.2.2.1,b.1,b.2,c)
def AxW:=B6 [.d Af] [⟨[.Ax [] Af],[],Int×Int×Int×Int×Int×ALx×ALx,λp=>P2 p.1.1,λr=>(.pr (dI r.1) (.pr (dI r.2.1) (.pr (dI r.2.2.1) (.pr (dI r.2.2.2.1) (.pr (.pr (dI r.2.2.2.2.1) (.pr (.Am 0) .u)) (.pr (.Am 1) .u))))),[.row 199 .Ai ALQ r.2.2.2.2.2.1,.row 2 .Ai ALP r.2.2.2.2.2.2])⟩]
theorem Abg:Ap prog 116 AxW:=As (fn:=f116) ⟨⟨E17,pk ⟨vY,AbA,trivial⟩,λ_ R K=>by
 simp only[P2,ALi];kernel_rfl⟩,trivial⟩
abbrev E18:=eN [(116,AxW)] {A1:=[(3,[0,3,4])],Bv:=[(3,[3])]}
def As7 a (z_:Int×ALE):=sT 23 [(0,dD AL0 a),(3,.Am 0),(4,dI z_.1)] [.row 182 .Ai Af z_.2]
def Aq0(a:ALE):=λ(b:ALE)=>xE 0 23 [(3,.Am 0)] [.row 182 .Ai Af b]
def TR(a:ALE)(c:Int)(d:ALE):AL8 ((Int×ALE)⊕ALE):=
 bif decide (c<(a.length:Int))then
 if 0<=c/\c<a.length then
 (P2 (a.getD c.toNat Af.zero)).bind λe=>if 0<=c/\c<d.length then
 some (.inl (wI (c+1),d.set c.toNat (e.1,e.2.1,e.2.2.1,e.2.2.2.1,(e.2.2.2.2.1,e.2.2.2.2.2.1,()),e.2.2.2.2.2.2,())))
 else none
 else none
 else
 some (.inr d)
def JQ a (z_:Int×ALE):=TR a z_.1 z_.2
def Q4 a c d:=fix (JQ a) (c,d)
theorem Avf a:A0 E18 0 3 (code f68) 58 (As7 a) (JQ a) (Aq0 a):=by
 intro _;simp only[JQ,TR,ALh];kernel_rfl
def NG(a:ALE):AL8 ALE:=
 if Ty.row Af=true/\(0:Int)<=(a.length:Int)/\(a.length:Int)<=(a.length:Int)/\((88:Nat):Int)*(a.length:Int)<=(281474976710656:Int)/\(a.length:Int)<=(9223372036854775807:Int)then
 (Q4 a 0 (List.replicate (a.length:Int).toNat (0,0,0,0,(0,([]:ALx),()),([]:ALx),()))).bind λb=>some b
 else none
def c68:=B6 [.d AL0] [⟨[.Ax [] AL0],[],ALE,λp=>NG p.1.1,λr=>(.Am 0,[.row 182 .Ai Af r])⟩]
theorem Agp:Ap prog 68 c68:=As (fn:=f68) ⟨⟨E18,pk ⟨Abg,trivial⟩,λ_ R K=>by
 simp only[NG,ALi];simp(disch:=refine id ?_;kernel_rfl) only[Q4,Az (Avf _) (K:=AY E18 f68 0 R K)];kernel_rfl⟩,trivial⟩
abbrev E19:=eN [(68,c68)] {}
def Ph(a:ALv):AL8 ALE:=
 (NG a.1).bind λb=>some b
def c25:=B6 [.d Ar] [⟨[.Ax [] Ar],[],ALE,λp=>Ph p.1.1,λr=>(.pr (.Am 0) .u,[.row 182 .Ai Af r])⟩]
theorem Af0:Ap prog 25 c25:=As (fn:=f25) ⟨⟨E19,pk ⟨Agp,trivial⟩,λ_ R K=>by
 simp only[Ph,ALi];kernel_rfl⟩,trivial⟩
abbrev E20:=eN [(25,c25)] {}
def LN(a:ALp):AL8 (Int×Bool×ALE×ALE):=
 (Ph a.2.2.1).bind λb=>(Ph a.2.2.2.1).bind λc=>some (a.1,a.2.1,b,c)
def c48:=B6 [.d Ag] [⟨[.Ax [] Ag],[],Int×Bool×ALE×ALE,λp=>LN p.1.1,λr=>(.pr (dI r.1) (.pr (dB r.2.1) (.pr (.pr (.Am 0) .u) (.pr (.pr (.Am 1) .u) .u))),[.row 182 .Ai Af r.2.2.1,.row 182 .Ai Af r.2.2.2])⟩]
theorem Aga:Ap prog 48 c48:=As (fn:=f48) ⟨⟨E20,pk ⟨Af0,trivial⟩,λ_ R K=>by
 simp only[LN,ALi];kernel_rfl⟩,trivial⟩
abbrev E21:=eN [(48,c48)] {A1:=[(3,[0,3,4])],Bv:=[(3,[3])]}
def As8 a (z_:Int×ALF):=sT 23 [(0,dD ALY a),(3,.Am 0),(4,dI z_.1)] [.row 87 .Ai Ag z_.2]
def Aq1(a:ALF):=λ(b:ALF)=>xE 0 23 [(3,.Am 0)] [.row 87 .Ai Ag b]
def RX(a:ALF)(c:Int)(d:ALF):AL8 ((Int×ALF)⊕ALF):=
 bif decide (c<(a.length:Int))then
 if 0<=c/\c<a.length then
 (LN (a.getD c.toNat Ag.zero)).bind λe=>if 0<=c/\c<d.length then
 some (.inl (wI (c+1),d.set c.toNat (e.1,e.2.1,(e.2.2.1,()),(e.2.2.2,()),())))
 else none
 else none
 else
 some (.inr d)
def HR a (z_:Int×ALF):=RX a z_.1 z_.2
def OT a c d:=fix (HR a) (c,d)
theorem Avg a:A0 E21 0 3 (code f11) 58 (As8 a) (HR a) (Aq1 a):=by
 intro _;simp only[HR,RX,ALh];kernel_rfl
def A9(a:ALF):AL8 ALF:=
 if Ty.row Ag=true/\(0:Int)<=(a.length:Int)/\(a.length:Int)<=(a.length:Int)/\((64:Nat):Int)*(a.length:Int)<=(281474976710656:Int)/\(a.length:Int)<=(9223372036854775807:Int)then
 (OT a 0 (List.replicate (a.length:Int).toNat (0,false,(([]:ALE),()),(([]:ALE),()),()))).bind λb=>some b
 else none
def c11:=B6 [.d ALY] [⟨[.Ax [] ALY],[],ALF,λp=>A9 p.1.1,λr=>(.Am 0,[.row 87 .Ai Ag r])⟩]
theorem AfK:Ap prog 11 c11:=As (fn:=f11) ⟨⟨E21,pk ⟨Aga,trivial⟩,λ_ R K=>by
 simp only[A9,ALi];simp(disch:=refine id ?_;kernel_rfl) only[OT,Az (Avg _) (K:=AY E21 f11 0 R K)];kernel_rfl⟩,trivial⟩
abbrev E22:=eN [(97,c97)] {A1:=[(3,[0,3,4])],Bv:=[(3,[3])]}
def As9 a (z_:Int×ALK):=sT 23 [(0,dD AL3 a),(3,.Am 0),(4,dI z_.1)] [.row 32 .Ai ALT z_.2]
def Aq2(a:ALK):=λ(b:ALK)=>xE 0 23 [(3,.Am 0)] [.row 32 .Ai ALT b]
def S4(a:ALK)(c:Int)(d:ALK):AL8 ((Int×ALK)⊕ALK):=
 bif decide (c<(a.length:Int))then
 if 0<=c/\c<a.length then
 (Ga (a.getD c.toNat ALT.zero)).bind λe=>if 0<=c/\c<d.length then
 some (.inl (wI (c+1),d.set c.toNat e))
 else none
 else none
 else
 some (.inr d)
def IG a (z_:Int×ALK):=S4 a z_.1 z_.2
def P1 a c d:=fix (IG a) (c,d)
theorem Avh a:A0 E22 0 3 (code f49) 58 (As9 a) (IG a) (Aq2 a):=by
 intro _;simp only[IG,S4,ALh];kernel_rfl
def P0(a:ALK):AL8 ALK:=
 if Ty.row ALT=true/\(0:Int)<=(a.length:Int)/\(a.length:Int)<=(a.length:Int)/\((24:Nat):Int)*(a.length:Int)<=(281474976710656:Int)/\(a.length:Int)<=(9223372036854775807:Int)then
 (P1 a 0 (List.replicate (a.length:Int).toNat ([]:ALx))).bind λb=>some b
 else none
def c49:=B6 [.d AL3] [⟨[.Ax [] AL3],[],ALK,λp=>P0 p.1.1,λr=>(.Am 0,[.row 32 .Ai ALT r])⟩]
theorem Agb:Ap prog 49 c49:=As (fn:=f49) ⟨⟨E22,pk ⟨vY,trivial⟩,λ_ R K=>by
 simp only[P0,ALi];simp(disch:=refine id ?_;kernel_rfl) only[P1,Az (Avh _) (K:=AY E22 f49 0 R K)];kernel_rfl⟩,trivial⟩
abbrev E23:=eN [(49,c49)] {}
def BD(a:ALr):AL8 ALK:=
 (P0 a.1).bind λb=>some b
def c12:=B6 [.d Aj] [⟨[.Ax [] Aj],[],ALK,λp=>BD p.1.1,λr=>(.pr (.Am 0) .u,[.row 32 .Ai ALT r])⟩]
theorem AfM:Ap prog 12 c12:=As (fn:=f12) ⟨⟨E23,pk ⟨Agb,trivial⟩,λ_ R K=>by
 simp only[BD,ALi];kernel_rfl⟩,trivial⟩
end
end Go.Proofs.X
