import Derived.WalkKit
import Derived.ProofKit
import Derived.OpenShut
import Derived.JoinedCond
import Derived.ReadAgain
import Derived.Shelf.SortG.Plain
import Derived.Shelf.SortG.SortNone
import Derived.Shelf.SlicesG.CompactI
import Derived.KernelRfl
import Derived.Test.YtoinnpeenpmgkaaGreatShelf
import Derived.Test.YtoinnpeenpmgkaaGreatProg
import Derived.Test.YtoinnpeenpmgkaaGreatK1
set_option linter.unusedVariables false
set_option linter.unusedSimpArgs false
namespace Go.Va
def Ya(P:Program):Ty->TypeId->Bool
 |.int k,t=>match P.underlying t with |some (.int k')=>k==k' |_=>false
 |.bool,t=>match P.underlying t with |some .bool=>true |_=>false
 |.str,t=>match P.underlying t with |some .string=>true |_=>false
 |.sl u,t=>match P.underlying t with |some (.slice e)=>P.cellsOf e==u.size&&u.size !=0&&Ya P u e |_=>false
 |.AG a b,t=>match P.underlying t with
  |some (.struct fs)=>P.cellsOf t==a.size+b.size&&(match fs.toList with |f::r=>f.offset==0&&P.cellsOf f.type==a.size&&Ya P a f.type&&mf P b a.size r |[]=>false)
  |_=>false
 |_,_=>false
where mf (P:Program):Ty->Nat->ATO Field->Bool
 |.AG a b,o,f::r=>f.offset==o&&P.cellsOf f.type==a.size&&Ya P a f.type&&mf P b (o+a.size) r
 |.unit,_,[]=>true
 |_,_,_=>false
def Ty.Wf:(t:Ty)->t.V->Prop
 |.int k,n=>k.min<=n/\n<=k.max
 |.str,s=>s.size<=maxLen
 |.AG a b,x=>a.Wf x.1/\b.Wf x.2
 |.sl t,xs=>xs.length<=maxLen/\∀x∈xs,t.Wf x
 |_,_=>True
section
variable {P:Program} {H:Type} {enc:TypeId×Value->H} {w:World} {base:Nat} {sp:Nat->Bool} {held:Bool}
def yC(w:World)(b:Nat):Prop:=b<w.heap.size
theorem Vy{α β:Type}{f:α->ATP β}{x:α}{l:ATO α}{r:ATO β}(h:(x::l).mapM f=some r):∃y ys,f x=some y/\l.mapM f=some ys/\r=y::ys:=by
 cases hx:f x with
 |none=>grind
 |some y =>
  cases hl:l.mapM f with
  |none=>grind
  |some ys=>simp[hx,hl]at h;exact⟨y,ys,rfl,rfl,h.symm⟩
theorem od(a:Addr)(k:Nat):(a.add k).block=a.block/\(a.add k).off=a.off+k:=by
 unfold Addr.add
 grind
theorem zm{a:Addr}{k:Nat}{v:Value}(h:w.cell? (a.add k)=some v):w.cell? ⟨a.block,a.off+k,none⟩=some v:=by
 unfold Addr.add at h;split at h
 ·rename_i hk;subst hk;cases a with
  |mk b o sp =>
   cases sp with
   |none=>grind
   |some q =>
    simp only[World.cell?,AQV]at h;split at h<;>cases h
 ·grind
theorem u0{u:Ty}{s:Nat}(hs:s=u.size){a:Addr}{F:ATO Value->ATP (DataW H×ATO MemPlace)}(ih:∀cs y,F cs=some y->∃x:u.V,H9 w (yC w) u x cs/\u.Wf x) :
    ∀(n i:Nat) (ys:ATO (DataW H×ATO MemPlace)),(List.range' i n).mapM (λi=>(w.cells? base (a.add (i*s)) s).bind F)=some ys ->
     ∃(xs:ATO u.V) (ds:ATO Value),xs.length=n/\CP (H9 w (yC w) u) xs ds/\(∀x∈xs,u.Wf x)/\∀j v,ds[j]?=some v->w.cell? ⟨a.block,a.off+i*s+j,none⟩=some v
 |0,i,ys,_=>⟨[],[],rfl,rfl,λ_ h=>by grind,λj v h=>by grind⟩
 |n+1,i,ys,h=>by
  obtain⟨y,ys',h1,h2,_⟩:=Vy h;obtain⟨c,hc,hF⟩:=Option.bind_eq_some_iff.1 h1;obtain⟨x,hx,hw⟩:=ih c y hF;obtain⟨_,OC,D2⟩:=World.cells?_some hc;obtain⟨xs,ds,hl,hr,hwf,hd⟩:=u0 hs ih n (i+1) ys' h2;refine⟨x::xs,c++ds,by grind,⟨c,ds,rfl,hx,hr⟩,λz hz=>by
   grind,λj v hj=>?_⟩
  rw[AQz]at hj;split at hj
  ·rw[<-D2 j (by omega)]at hj;have:=zm hj;rw[(od _ _).1,(od _ _).2]at this;exact this
  grind
theorem AmP:∀(ty:Ty),(∀(t:TypeId) (RV:Nat) (cs:ATO Value) (y:DataW H×ATO MemPlace),Ya P ty t=true->DataW.trod enc P w base sp held RV t cs=some y->∃x:ty.V,H9 w (yC w) ty x cs/\ty.Wf x) /\
    ∀(o RV:Nat) (fs:ATO Field) (cs:ATO Value) (ys:ATO (DataW H×ATO MemPlace)),Ya.mf P ty o fs=true->fs.mapM (λf=>DataW.trod enc P w base sp held RV f.type ((cs.drop f.offset).take (P.cellsOf f.type)))=some ys->cs.length=o+ty.size ->
     ∃x:ty.V,H9 w (yC w) ty x (cs.drop o)/\ty.Wf x:=by
 intro ty;induction ty with
 |int k =>
  refine⟨λt RV cs y hm h=>?_,λo RV fs cs ys hm=>by simp[Ya.mf]at hm⟩;simp only[Ya]at hm;split at hm
  ·rename_i k' hu;have:k=k':=by simpa using hm
   subst this;cases RV with
   |zero=>simp[DataW.trod]at h
   |succ n =>
    simp only[DataW.trod,hu]at h;split at h<;>try (rename_i he;cases he;done)
    all_goals try (cases h;done)
    all_goals try (rename_i he _;cases he;done)
    rename_i k1 k2 n2 he;injection he with he;injection he with he;subst he;split at h
    ·rename_i hc;obtain⟨hk,hwf⟩:=hc;subst hk;simp only[Lit.wf,AQg,ARo]at hwf;exact⟨n2,rfl,hwf⟩
    ·cases h
  ·cases hm
 |bool =>
  refine⟨λt RV cs y hm h=>?_,λo RV fs cs ys hm=>by simp[Ya.mf]at hm⟩;simp only[Ya]at hm;split at hm
  ·rename_i hu;cases RV with
   |zero=>simp[DataW.trod]at h
   |succ n =>
    simp only[DataW.trod,hu]at h;split at h<;>try (rename_i he;cases he;done)
    all_goals try (cases h;done)
    all_goals try (rename_i he _;cases he;done)
    rename_i b he;exact⟨b,rfl,trivial⟩
  ·cases hm
 |str =>
  refine⟨λt RV cs y hm h=>?_,λo RV fs cs ys hm=>by simp[Ya.mf]at hm⟩;simp only[Ya]at hm;split at hm
  ·rename_i hu;cases RV with
   |zero=>simp[DataW.trod]at h
   |succ n =>
    simp only[DataW.trod,hu]at h;split at h<;>try (rename_i he;cases he;done)
    all_goals try (cases h;done)
    all_goals try (rename_i he _;cases he;done)
    rename_i s he;split at h
    ·rename_i hc;exact⟨s,rfl,hc⟩
    ·cases h
  ·cases hm
 |unit =>
  refine⟨λt RV cs y hm=>by simp[Ya]at hm,λo RV fs cs ys hm h hl=>?_⟩;refine⟨(),?_,trivial⟩;show cs.drop o=[];rw[List.drop_eq_nil_iff];simp only[Ty.size]at hl;omega
 |R4 z=>exact⟨λt RV cs y hm=>by simp[Ya]at hm,λo RV fs cs ys hm=>by simp[Ya.mf]at hm⟩
 |sl u ih =>
  refine⟨λt RV cs y hm h=>?_,λo RV fs cs ys hm=>by simp[Ya.mf]at hm⟩;simp only[Ya]at hm;split at hm
  ·rename_i e hu;simp only[AQg,ARd,ART]at hm;obtain⟨⟨Nt,B5⟩,hm⟩:=hm;cases RV with
   |zero=>simp[DataW.trod]at h
   |succ n =>
    simp only[DataW.trod,hu]at h;split at h<;>try (rename_i he;cases he;done)
    all_goals try (cases h;done)
    all_goals try (rename_i he _;cases he;done)
    all_goals try (rename_i he _ _;cases he;done)
    ·exact⟨[],⟨none,0,[],rfl,AQf _,rfl,.inl rfl⟩,AQW _,λx hx=>by(cases hx)⟩
    ·rename_i e' a len cap he;injection he with he;injection he with he;subst he;split at h
     ·rename_i hc;obtain⟨elems,V2,_⟩:=Option.bind_eq_some_iff.1 h;rw[List.range_eq_range']at V2;obtain⟨xs,ds,hxl,hr,hwf,hd⟩:=u0 (u:=u) Nt (λcs y hy=>ih.1 e n cs y hm hy) len 0 elems V2;subst hxl;refine⟨xs,⟨some a,cap,ds,rfl,hc.2.1,hr,?_⟩,AQD hc.2.1 hc.2.2,hwf⟩;cases xs with
      |nil=>exact .inl rfl
      |cons x xs =>
       refine .inr ?_;rw[AQ4,List.range'_succ]at V2;obtain⟨y1,_,h1,_,_⟩:=Vy V2;obtain⟨c,Pk,_⟩:=Option.bind_eq_some_iff.1 h1;obtain⟨_,OC,D2⟩:=World.cells?_some Pk;have GM:=D2 0 (by omega);have Y7:a.spot=none/\yC w a.block:=by
        have YE:∃v,c[0]?=some v:=⟨_,ARi (by omega)⟩;obtain⟨v,hv⟩:=YE;rw[hv]at GM;have GM:w.cell? a=some v:=by simpa [Addr.add]using GM
        refine⟨?_,World.block_lt_of_cell? w a GM⟩;cases Y7:a.spot with
        |none=>rfl
        |some q =>
         unfold World.cell? at GM;rw[Y7]at GM;split at GM
         ·simp at GM
         ·cases GM
       refine⟨a.block,a.off,?_,Y7.2,λj v hj=>by simpa using hd j v hj⟩;cases a with
       |mk b o sp=>simp only at Y7;rw[Y7.1]
     ·cases h
  ·cases hm
 |AG a b iha ihb =>
  have main:∀(o RV:Nat) (f:Field) (r:ATO Field) (cs:ATO Value) (ys:ATO (DataW H×ATO MemPlace)),f.offset=o->P.cellsOf f.type=a.size->Ya P a f.type=true->Ya.mf P b (o+a.size) r=true ->
      (f::r).mapM (λf=>DataW.trod enc P w base sp held RV f.type ((cs.drop f.offset).take (P.cellsOf f.type)))=some ys->cs.length=o+(a.size+b.size)->∃x:(Ty.AG a b).V,H9 w (yC w) (.AG a b) x (cs.drop o)/\(Ty.AG a b).Wf x:=by
   intro o RV f r cs ys ho Nt hma hmb h hl;obtain⟨y,ys',h1,h2,_⟩:=Vy h;rw[ho,Nt]at h1;obtain⟨xa,hra,hwa⟩:=iha.1 f.type RV _ y hma h1;obtain⟨xb,hrb,hwb⟩:=ihb.2 (o+a.size) RV r cs ys' hmb h2 (by omega);refine⟨(xa,xb),⟨_,_,?_,hra,hrb⟩,hwa,hwb⟩;rw[<-List.drop_drop];exact(ARj a.size (cs.drop o)).symm
  refine⟨λt RV cs y hm h=>?_,λo RV fs cs ys hm h hl=>?_⟩
  ·simp only[Ya]at hm;split at hm
   ·rename_i fs hu;rw[AQg]at hm;obtain⟨Nt,hm⟩:=hm;have Nt:P.cellsOf t=a.size+b.size:=by simpa using Nt
    split at hm
    ·rename_i f r hfs;simp only[AQg,ARd]at hm;obtain⟨⟨⟨h1,h2⟩,h3⟩,h4⟩:=hm;cases RV with
     |zero=>simp[DataW.trod]at h
     |succ n =>
      have BX:(if cs.length=P.cellsOf t then(fs.toList.mapM λf=>DataW.trod enc P w base sp held n f.type ((cs.drop f.offset).take (P.cellsOf f.type))).map λxs=>((.agg (xs.map (·.1)):DataW H),xs.flatMap (·.2))else none)=some y:=by
       simp only[DataW.trod,hu]at h;exact h
      split at BX
      ·rename_i OC;cases hq:fs.toList.mapM λf=>DataW.trod enc P w base sp held n f.type ((cs.drop f.offset).take (P.cellsOf f.type))with
       |none=>rw[hq]at BX;cases BX
       |some ys =>
        rw[hfs]at hq;have:=main 0 n f r cs ys h1 h2 h3 (by rw[AQF];exact h4) hq (by omega);simpa using this
      ·cases BX
    ·cases hm
   ·cases hm
  ·cases fs with
   |nil=>simp[Ya.mf]at hm
   |cons f r =>
    simp only[Ya.mf,AQg,ARd]at hm;obtain⟨⟨⟨h1,h2⟩,h3⟩,h4⟩:=hm;exact main o RV f r cs ys h1 h2 h3 h4 h hl
end
def W1:ATO Ty->Type
 |[]=>Unit
 |t::ts=>t.V×W1 ts
def W1.av:(ts:ATO Ty)->W1 ts->ATO AV
 |[],_=>[]
 |t::ts,x=>.AB [] t x.1::W1.av ts x.2
def W1.Wf:(ts:ATO Ty)->W1 ts->Prop
 |[],_=>True
 |t::ts,x=>t.Wf x.1/\W1.Wf ts x.2
def G.pI(w:World):G:=⟨λb=>if b<w.heap.size then .Jd else .no,λ_=>⟨none,0,0,0⟩⟩
section
variable {P:Program} {H:Type} {enc:TypeId×Value->H} {w:World} {base:Nat} {sp:Nat->Bool} {held:Bool}
theorem Anb{ty:Ty}{t:TypeId}{v:Value}{x:ty.V}(hm:Ya P ty t=true)(hf:v.formed P t=true)(hr:H9 w (yC w) ty x v.cells.toList):Cp ty.isAgg v.cells.toList v:=by
 cases ty with
 |AG a b =>
  simp only[Ya]at hm;split at hm
  ·rename_i fs hu;unfold Value.formed at hf;split at hf
   ·simp[Cp,Ty.isAgg,Value.cells]
   ·grind
   ·grind
  ·grind
 |int k =>
  simp only[Ya]at hm;split at hm
  ·cases v<;>simp_all [Cp,Ty.isAgg,Value.cells,Value.formed]
  ·grind
 |bool =>
  simp only[Ya]at hm;split at hm
  ·cases v<;>simp_all [Cp,Ty.isAgg,Value.cells,Value.formed]
  ·grind
 |str =>
  simp only[Ya]at hm;split at hm
  ·cases v<;>simp_all [Cp,Ty.isAgg,Value.cells,Value.formed]
  ·grind
 |sl u =>
  simp only[Ya]at hm;split at hm
  ·cases v<;>simp_all [Cp,Ty.isAgg,Value.cells,Value.formed]
  ·grind
 |unit=>simp[Ya]at hm
 |R4 z=>simp[Ya]at hm
end
section
variable {P:Program} {H:Type} {enc:TypeId×Value->H}
open Go.ChangeShapes Go.WideShapes Go.ChangeAt Go.RowKit
theorem aO{w w':World}{base:Nat}{sp:Nat->Bool}{held:Bool}:∀{ts:ATO TypeId} {vs:ATO Value} {ds:ATO (DataW H)} {ps:ATO MemPlace},DataW.TrodAll enc P w base sp held ts vs ds ps->(∀p∈ps,w.sameAt w' p)->DataW.TrodAll enc P w' base sp held ts vs ds ps
 |[],[],[],_,h,_=>h
 |_::_,_::_,_::_,_,⟨p,q,⟨n,h1⟩,h2,e⟩,hs=>⟨p,q,⟨n,DataW.trod_carry n _ _ _ h1 λx hx=>hs x (by grind)⟩,aO h2 (λx hx=>hs x (by grind)),e⟩
theorem Aip{f:Func}{s:ChangeSpec}{B7 handsOn:Bool}{W W':World}{args:Array Value}{ds gs:ATO (DataW H)}{before:ATO MemPlace}(hW:DataW.Whole enc P f.params.toList s.vars false W args.toList ds gs before)(hv:s.vars=[])
    (Ah9:gs=[]->s.fn H (ds++gs)={results:=[.lit (.bool true)],args:=ds}) {tb:TypeId} (hrt:f.resultTypes=#[tb]) (hub:P.underlying tb=some .bool) (XQ:∀b,b<W.heap.size->W'.heap[b]?=W.heap[b]?) (hos:W'.os=W.os) (AJ9:W'.output=W.output)
    (K:Kids P (·<P.types.size)) (hz:∀t e,t<P.types.size->P.underlying t=some (.slice e)->0<P.cellsOf e) (ht:∀t∈f.params.toList,t<P.types.size):s.post enc P f false B7 handsOn false W args (.bool true) W':=by
 have Bw:=hW.lt;obtain⟨p,q,hA,hV,hpq,hfz,S7⟩:=id hW;rw[hv]at hV;obtain⟨rfl,rfl⟩:=trodVars_none hV;have Y7:=Ah9 rfl;rw[AQO]at hpq Y7;subst hpq;have sI:∀x∈before,W.sameAt W' x:=λx hx=>by
  have hb:=XQ x.block (Bw x hx);cases x with
  |cell b off=>simp only[World.sameAt,World.cell?];simp only[MemPlace.block]at hb;rw[hb]
  |map b=>exact hb
 have kC:=aO hA sI;have zP:∀sp:Nat->Bool,(∀x∈before,sp x.block=true)->DataW.TrodAll enc P W' 0 sp true f.params.toList args.toList ds before:=λsp hs=>kC.respare K hz ht hs;have dk:∀(b:Nat) (sp:Nat->Bool) (hd:Bool),DataW.TrodAll enc P W' b sp hd f.resultTypes.toList ((Value.bool true).resultList f.resultTypes.size) [.lit (.bool true)] []:=λb sp hd=>by
  rw[hrt];exact trodAll_cons_mk (shut_bool hub _) trodAll_mk0
 have Aod:∀x∈before,(λb=>decide (b<W.heap.size)) x.block=true:=λx hx=>by grind
 refine⟨ds,[],before,[],before,[],hW,?_,?_,?_,⟨hos,AJ9,λi hi=>?_⟩,λh=>by grind⟩
 ·grind
 ·grind
 ·rw[hv];rw[AQO,Y7];rfl
 grind
def tm(P:Program):ATO Ty->ATO TypeId->Bool
 |[],[]=>true
 |ty::tys,t::ts=>Ya P ty t&&tm P tys ts
 |_,_=>false
theorem oq{w:World}{base:Nat}{sp:Nat->Bool}{held:Bool}:∀{tys:ATO Ty} {ts:ATO TypeId} {vs:ATO Value} {ds:ATO (DataW H)} {ps:ATO MemPlace},tm P tys ts=true->DataW.TrodAll enc P w base sp held ts vs ds ps ->
    (∀(j:Nat) t v,ts[j]?=some t->vs[j]?=some v->v.formed P t=true)->∃xs:W1 tys,W1.Wf tys xs/\DV w (G.pI w) 0 (W1.av tys xs) vs
 |[],[],[],[],_,_,_,_=>⟨(),trivial,trivial⟩
 |ty::tys,t::ts,v::vs,d::ds,_,hm,⟨p,q,⟨n,h1⟩,h2,_⟩,hf=>by
  simp only[tm,AQg]at hm;obtain⟨x,hr,hw⟩:=(AmP ty).1 t n _ _ hm.1 h1;obtain⟨xs,hws,ha⟩:=oq hm.2 h2 λj t v h3 h4=>hf (j+1) t v (by grind) (by grind);refine⟨(x,xs),⟨hw,hws⟩,BD rfl  ⟨λk hk=>by grind,hr.mono λb hb=>⟨.inl ?_,rfl⟩⟩ (Anb hm.1 (hf 0 t v rfl rfl) hr),ha⟩;have hb:b<w.heap.size:=hb;simp[G.pI,hb]
 |[],_::_,_,_,_,hm,_,_=>by simp[tm]at hm
 |_::_,[],_,_,_,hm,_,_=>by simp[tm]at hm
 |[],[],_::_,_,_,_,h,_=>by simp[DataW.TrodAll]at h
 |[],[],[],_::_,_,_,h,_=>by simp[DataW.TrodAll]at h
 |_::_,_::_,[],_,_,_,h,_=>by simp[DataW.TrodAll]at h
 |_::_,_::_,_::_,[],_,_,h,_=>by simp[DataW.TrodAll]at h
theorem AiO(w:World):Bo w (G.pI w) []:=⟨λb hb=>by simp[G.pI];omega,λk x hx=>by grind⟩
theorem AdG{en:GX}(he:Jz P en){f:FuncId}{fn:Func}(hf:P.funcs[f]?=some fn){av:ATO AV}{w:World}{vs:ATO Value}(Es:TT en fn (AV×ATO Blk) av [] (λv b=>some (v,b))=some (.bool true,[]))(ha:DV w (G.pI w) 0 av vs) :
    Calls P f vs.toArray w λe w'=>e=.returned (.bool true)/\(∀b,b<w.heap.size->w'.heap[b]?=w.heap[b]?)/\w'.os=w.os/\w'.output=w.output:=by
 refine((bJ he hf Es).2 w _ vs (AiO w) ha).mono λe w' ⟨v,g',e1,_,hv,st⟩=>?_;have:=Tq hv;subst this;exact⟨e1,λb hb=>(st.Jd b (by simp[G.pI,hb])).2,st.os,st.output⟩
theorem vr{ty:Ty}{t:TypeId}{v:Value}{w:World}{r:Reach}{base:Nat}(hm:Ya P ty t=true)(h:Value.okWide P w r base t v):v.formed P t=true:=by
 unfold Value.okWide at h;cases ty with
 |AG a b =>
  simp only[Ya]at hm;split at hm
  ·rename_i fs hu;rw[hu]at h;obtain⟨cs,rfl,hs,_⟩:=h;simp[Value.formed,hu,hs]
  ·cases hm
 |int k =>
  simp only[Ya]at hm;split at hm
  ·rename_i k' hu;rw[hu]at h;cases v<;>simp_all [Value.formed,Cell.okWide,Cell.ok]
  ·cases hm
 |bool =>
  simp only[Ya]at hm;split at hm
  ·rename_i hu;rw[hu]at h;cases v<;>simp_all [Value.formed,Cell.okWide,Cell.ok]
  ·cases hm
 |str =>
  simp only[Ya]at hm;split at hm
  ·rename_i hu;rw[hu]at h;cases v<;>simp_all [Value.formed,Cell.okWide,Cell.ok]
  ·cases hm
 |sl u =>
  simp only[Ya]at hm;split at hm
  ·rename_i e hu;rw[hu]at h;cases v<;>simp_all [Value.formed,Cell.okWide,Cell.ok]
  ·cases hm
 |unit=>simp[Ya]at hm
 |R4 z=>simp[Ya]at hm
theorem law_contract{en:GX}(he:Jz P en){f:FuncId}{fn:Func}(hf:P.funcs[f]?=some fn){tys:ATO Ty}(hm:tm P tys fn.params.toList=true){s:ChangeSpec}(hv:s.vars=[]){tb:TypeId}(hrt:fn.resultTypes=#[tb])(hub:P.underlying tb=some .bool)
    (K:Kids P (·<P.types.size)) (hz:∀t e,t<P.types.size->P.underlying t=some (.slice e)->0<P.cellsOf e) (ht:∀t∈fn.params.toList,t<P.types.size)
    {W:World} {base:Nat} {args:Array Value} {ds gs:ATO (DataW H)} {before:ATO MemPlace} (Ah9:gs=[]->s.fn H (ds++gs)={results:=[.lit (.bool true)],args:=ds})
    (hval:∀(j:Nat) t v,fn.params[j]?=some t->args[j]?=some v->Value.okWide P W .any base t v) (hW:DataW.Whole enc P fn.params.toList s.vars false W args.toList ds gs before)
    (Es:∀xs:W1 tys,W1.Wf tys xs->TT en fn (AV×ATO Blk) (W1.av tys xs) [] (λv b=>some (v,b))=some (.bool true,[])) {B7 handsOn:Bool} :
    Calls P f args W λe W'=>∃v,e=.returned v/\s.post enc P fn false B7 handsOn false W args v W':=by
 obtain⟨p,q,hA,_⟩:=id hW;have az:∀(j:Nat) t v,fn.params.toList[j]?=some t->args.toList[j]?=some v->v.formed P t=true:=λj t v h1 h2=>by
  rw[AQn]at h1 h2;have key:∀(tys:ATO Ty) (ts:ATO TypeId) (j:Nat),tm P tys ts=true->ts[j]?=some t->∃ty,Ya P ty t=true:=by
   intro tys;induction tys with
   |nil=>intro ts j hm hj;cases ts<;>simp_all [tm]
   |cons ty tys ih =>
    intro ts j hm hj;cases ts with
    |nil=>grind
    |cons u ts =>
     simp only[tm,AQg]at hm
     grind
  obtain⟨ty,iM⟩:=key tys fn.params.toList j hm (by grind);exact vr iM (hval j t v h1 h2)
 obtain⟨xs,hwf,ha⟩:=oq hm hA az;have:=AdG he hf (Es xs hwf) ha;refine this.mono λe W' ⟨e1,h1,h2,h3⟩=>⟨_,e1,Aip hW hv Ah9 hrt hub h1 h2 h3 K hz ht⟩
end
theorem Aiy{A B:Type}(f:A->B)(c:Prop)[Decidable c](x:ATP A):(if c then none else x).map f=if c then none else x.map f:=by split<;>rfl
theorem Aix{A B C D:Type}(f:C->D)(g:A->ATP C)(h:B->ATP C)(y:A⊕B):(Sum.elim g h y).map f=Sum.elim (λa=>(g a).map f) (λb=>(h b).map f) y:=by cases y<;>rfl
theorem AcU{A B:Type}(k:A->ATP B)(c:Bool)(x y:ATP A):(bif c then x else y).bind k=bif c then x.bind k else y.bind k:=by cases c<;>rfl
theorem AfR{A B:Type}(k:A->ATP B)(c:Prop)[Decidable c](x y:ATP A):(if c then x else y).bind k=if c then x.bind k else y.bind k:=by split<;>rfl
theorem AcW{A B:Type}(k:A->ATP B)(c:Prop)[Decidable c](x:ATP A):(if c then none else x).bind k=if c then none else x.bind k:=by split<;>rfl
theorem AcV{A B C D:Type}(k:C->ATP D)(g:A->ATP C)(h:B->ATP C)(y:A⊕B):(Sum.elim g h y).bind k=Sum.elim (λa=>(g a).bind k) (λb=>(h b).bind k) y:=by cases y<;>rfl
theorem DD(s:St):C2 s s=some ():=by simp[C2]
def code(f:Func):Code:=(f.body).getD .skip
def Awy:Code->Array Oper
 |.region _ Cf _=>Cf
 |_=>#[]
def AeT(P:Program):ATO (Nat×Callee)->Prop
 |[]=>True
 |(n,c)::r=>An P n c/\AeT P r
theorem Ahs{P:Program}:∀{l:ATO (Nat×Callee)},AeT P l->∀g c,O8 l g=some c->An P g c
 |[],_,_,_,h=>by cases h
 |(n,c)::r,⟨h1,h2⟩,g,c',h=>by
  simp only[O8]at h;split at h
  ·rename_i e;have e:n=g:=by simpa using e
   subst e;injection h with h;subst h;exact h1
  ·exact Ahs h2 g c' h
def aW(e:Nat)(t:Ty)(bytes:Nat):Callee:={pE:=[.d (.sl t)],run:=λR avs E K=>match avs,E with
    |[.AB [] u xs],[]=>match JA u (.sl t) xs with
     |some xs=>if xs.length*bytes<=140737488355328 then K (.AK 0) [.row e (if t.BZ then .Aw else .sh []) t xs]else none
     |_=>none
    |_,_=>none}
theorem An.sD{P:Program}{f:FuncId}{fn:Func}(hf:P.funcs[f]?=some fn)(hn:(fn.name=="runtime.NumGoroutine")=false)(hb:fn.body.isNone=false){c:Callee}(hc:jf c)
    (h:∀args E av E',c.run (AV×ATO Blk) args E (λv b=>some (v,b))=some (av,E')->E.length<=E'.length/\∀(w:World) (g:G) (vs:ATO Value),Bo w g E->DV w g E.length args vs ->
     Calls P f vs.toArray w λe w'=>∃v g',e=.returned v/\Bo w' g' E'/\Cb w' g' E'.length av v/\BL E.length w g w' g'):An P f c where
 aH:=hc
 snd args E av E' hr:=by
  obtain⟨h1,h2⟩:=h args E av E' hr;refine⟨h1,λw g vs H hx o a next Q hn'=>?_⟩
  have:(callFunc f vs.toArray).run P w=.ok (.enter f vs.toArray) w:=by
   have hn1:¬fn.name="runtime.NumGoroutine":=by simpa using hn
   have gY:¬fn.body=none:=by
    intro e;rw[e]at hb;cases hb
   simp[callFunc,hf,hn1,gY]
  rw[this,Oper.upon_enter];refine(h2 w g vs H hx).mono λe w' ⟨v,g',e1,hH,hv,BX⟩=>?_;subst e1;exact hn' v w' g' hH hv BX
theorem Adg{P:Program}{t:TypeId}{ti:TI}(ht:Fp P t ti)(hs:ti.EA=true){ad:ATP Addr}{n c:Nat}{x y:Operand}(w:World) :
    (do eqGuard .eql t x y (.slice ad n c) (.slice none 0 0);binOp .eql t (.slice ad n c) (.slice none 0 0):Sem Value).run P w=.ok (.bool ad.isNone) w:=by
 have hu:=BH ht hs;have h1:∀d,(Op.equalIn (d+1) t (.slice ad n c) (.slice none 0 0)).run P w=.ok ad.isNone w:=by
  intro d;unfold Op.equalIn;cases ad<;>simp[underlying,hu]
 have h2:(Op.equal t (.slice ad n c) (.slice none 0 0)).run P w=.ok ad.isNone w:=h1 (Op.maxDepth-1);show(do pure (.bool (<-Op.equal t (.slice ad n c) (.slice none 0 0))):Sem Value).run P w=_
 rw[Sem.run_bind,h2];rfl
section
variable {P:Program} {en:GX}
theorem uQ(he:Jz P en){f:FuncId}{fn:Func}(hf:P.funcs[f]?=some fn){R0 R2 T:Code}{id:Nat}{o3 o4:Oper}{t t2 e bytes:Nat}{u:Ty}{ti:TI}
    (hb:fn.body=some (R0.seq (((Code.region id #[o3,o4] false).seq (Code.cond (.tmp 4) (R2.seq .ret) .skip)).seq T))) (hnt:fn.ntmps=8) (dk:fn.results=#[.tmp 2])
    (h3:o3.op=.move (.tmp 0)/\o3.dst=some 3/\o3.guard=none) (h4:o4.op=.binOp .eql t (.tmp 3) (.const (.slice none 0 0)) t2/\o4.dst=some 4/\o4.guard=none)
    (ht:en.Ee.get t=some ti) (Jc:ti.EA=true) (hu:u.row=true)
    (hR0:∀xs:(Ty.sl u).V,ev en 0 R0 (Ex×St) ⟨[.AB [] (.sl u) xs,.un 0,.un 0,.un 0,.un 0,.un 0,.un 0,.un 0],[]⟩ Se=some (.normal,⟨[.AB [] (.sl u) xs,.un 0,.zs,.un 0,.un 0,.un 0,.un 0,.un 0],[]⟩))
    (hA:∀xs:(Ty.sl u).V,ev en 0 (R2.seq .ret) (Ex×St) ⟨[.AB [] (.sl u) xs,.un 0,.zs,.AB [] (.sl u) xs,.bool true,.un 0,.un 0,.un 0],[]⟩ Se=some (.ret,⟨[.AB [] (.sl u) xs,.un 0,.zs,.AB [] (.sl u) xs,.bool true,.un 0,.un 0,.un 0],[]⟩))
    (hT:∀xs:(Ty.sl u).V,xs.length*bytes<=140737488355328->ev en 0 T (Ex×St) ⟨[.AB [] (.sl u) xs,.un 0,.zs,.AB [] (.sl u) xs,.bool false,.un 0,.un 0,.un 0],[]⟩ Se=some (.ret,⟨[.AB [] (.sl u) xs,.un 0,.AK 0,.AB [] (.sl u) xs,.bool false,.zs,.AB [] (.sl u) xs,.AK 0],[.row e (if u.BZ then .Aw else .sh []) u xs]⟩))
    {xs:(Ty.sl u).V} (AhG:xs.length*bytes<=140737488355328) (w:World) (g:G) (vs:ATO Value) (H:Bo w g []) (hx:DV w g 0 [.AB [] (.sl u) xs] vs) :
    Calls P f vs.toArray w λee w'=>∃v g',ee=.returned v/\Bo w' g' [.row e (if u.BZ then .Aw else .sh []) u xs]/\Cb w' g' 1 (.AK 0) v/\BL 0 w g w' g':=by
 refine calls_of_wp hf hb ?_;have yk:=dR H hx (n:=fn.ntmps) (by rw[hnt];simp);have AKi:LA w g ⟨[.AB [] (.sl u) xs,.un 0,.un 0,.un 0,.un 0,.un 0,.un 0,.un 0],[]⟩ {tmps:=vs.toArray++Array.replicate (fn.ntmps-vs.toArray.size) undef,defers:=[]}:=by
  rw[hnt]at yk;rw[hnt];exact yk
 have WX:∀(a':Act) (w':World) (g':G),a'.defers=[]->BL 0 w g w' g'->(∃g'',Bo w' g'' [.row e (if u.BZ then .Aw else .sh []) u xs]/\Cb w' g'' 1 (.AK 0) (a'.tmps.getD 2 undef)/\BL 0 w' g' w' g'') ->
     a'.defers=[]/\∃v,(results fn a'.tmps).run P w'=.ok v w'/\∃v' g',Ending.returned v=.returned v'/\Bo w' g' [.row e (if u.BZ then .Aw else .sh []) u xs]/\Cb w' g' 1 (.AK 0) v'/\BL 0 w g w' g':=by
  intro a' w' g' hd BX ⟨g'',H'',hav,zR⟩;refine⟨hd,a'.tmps.getD 2 undef,?_,_,g'',rfl,H'',hav,BX.trans zR⟩;rw[lF,dk,Array.mapM_eq_mapM_toList];simp[Ai1]
 refine wp_seq ((QP he R0 _ _ _ (hR0 xs) (AQf _)).2 _ w g _ AKi λa1 w1 g1 Sb Sf kD=>?_);simp only[rl];refine wp_seq (wp_seq (wp_region ?_));have ZP:=Sb.AU 0 _ rfl;obtain⟨cs,UA,hval⟩:=B9 rfl rfl ZP;obtain⟨_,ad,cap,ds,AvI,hlen,AhU,rJ⟩:=UA;subst AvI;have hv0:a1.tmps.getD 0 undef=.slice ad xs.length cap:=by
  have:[Value.slice ad xs.length cap]=[a1.tmps.getD 0 undef]:=hval;injection this with h _;exact h.symm
 have AJ3:ad=none->xs=[]:=λh=>by
  rcases rJ with h1 |⟨b,off,h1,_⟩
  ·exact h1
  ·rw[h]at h1;cases h1
 let a2:=(a1.put (some 3) (.slice ad xs.length cap)).put (some 4) (.bool ad.isNone)
 have Nt:a1.tmps.size=8:=Sb.len.symm;have ZO:LA w1 g1 ⟨[.AB [] (.sl u) xs,.un 0,.zs,.AB [] (.sl u) xs,.bool ad.isNone,.un 0,.un 0,.un 0],[]⟩ a2:=by
  refine⟨Sb.heap,by simp[a2,Xt,Nt],λi x hx=>?_⟩;have h5:∀i,i≠3->i≠4->a2.tmps.getD i undef=a1.tmps.getD i undef:=λi h3 h4=>by
   simp only[a2];rw[Wq (by simpa using λh=>h4 h.symm),Wq (by simpa using λh=>h3 h.symm)]
  match i,hx with
  |0,hx=>rw[h5 0 (by decide) (by decide)];exact Sb.AU 0 x hx
  |1,hx=>rw[h5 1 (by decide) (by decide)];exact Sb.AU 1 x hx
  |2,hx=>rw[h5 2 (by decide) (by decide)];exact Sb.AU 2 x hx
  |3,hx =>
   injection hx with hx;subst hx;have:a2.tmps.getD 3 undef=.slice ad xs.length cap:=by
    simp only[a2];rw[Wq (by decide),TR (by omega)]
   rw[this,<-hv0];exact ZP
  |4,hx =>
   injection hx with hx;subst hx;have:a2.tmps.getD 4 undef=.bool ad.isNone:=by
    simp only[a2];rw[TR (by rw[Xt];omega)]
   rw[this];exact BD (cs:=[.bool ad.isNone]) rfl ⟨λk hk=>by(cases hk),rfl⟩ rfl
  |5,hx=>injection hx with hx;subst hx;exact RP
  |6,hx=>injection hx with hx;subst hx;exact RP
  |7,hx=>injection hx with hx;subst hx;exact RP
  |i+8,hx=>simp at hx
 have e3:a1.eval (.tmp 0)=.slice ad xs.length cap:=hv0;have AJG:(a1.put (some 3) (.slice ad xs.length cap)).eval (.tmp 3)=.slice ad xs.length cap:=by
  show(a1.put (some 3) (.slice ad xs.length cap)).tmps.getD 3 undef=_;rw[TR (by omega)]
 simp only[List.range,wpOps];show wpOps P #[o3,o4] _ [0,1] a1 w1;simp only[wpOps];have g0:(#[o3,o4]:Array Oper)[0]?=some o3:=rfl;have g1':(#[o3,o4]:Array Oper)[1]?=some o4:=rfl;rw[g0,g1'];simp only[Region.wanted,h3.2.2,h4.2.2,AQV];refine .inl ?_;unfold Oper.wp;rw[show(execOp a1.eval o3).run P w1=.ok (.value (.slice ad xs.length cap)) w1 by simp[execOp,h3.1,e3],Oper.upon_value,h3.2.1];have AF6:(a1.put (some 3) (.slice ad xs.length cap)).tmps.getD 3 undef=.slice ad xs.length cap:=AJG;have AGD:(execOp (a1.put (some 3) (.slice ad xs.length cap)).eval o4).run P w1=.ok (.value (.bool ad.isNone)) w1:=by
  have:=Adg (P:=P) (t:=t) (he.t ht) Jc (ad:=ad) (n:=xs.length) (c:=cap) (x:=.tmp 3) (y:=.const (.slice none 0 0)) w1;simp only[execOp,h4.1,Act.eval,AF6];rw[Sem.run_bind,this];rfl
 refine .inl ?_;rw[AGD,Oper.upon_value,h4.2.1];show(Code.cond (.tmp 4) (R2.seq .ret) .skip).wp P _ a2 w1;have Ami:a2.eval (.tmp 4)=.bool ad.isNone:=by
  show a2.tmps.getD 4 undef=_;simp only[a2];rw[TR (by rw[Xt];omega)]
 have hd2:a2.defers=[]:=by simp only[a2,Go.Va.put_defers];exact kD
 cases zE:ad with
 |none =>
  have hxs:=AJ3 zE;subst hxs;rw[zE]at ZO Ami;refine wp_cond_true Ami ?_;refine(QP he _ _ _ _ (hA []) (AQf _)).2 a2 w1 g1 _ ZO λa3 w3 g3 vS st3 hd3=>?_;have hz:=vS.AU 2 _ rfl;obtain⟨g4,H4,AJu,st4⟩:=zo vS.heap (c:=.row [] e u false) (a:=.zs) (a':=.AK 0) (nb:=[.row e (if(u.BZ||false)=true then .Aw else .sh []) u []]) (by simp[coV,AV.Wz,AV.bQ,hu]) hz;exact WX a3 w3 g3 (hd3.trans hd2) (Sf.trans st3) ⟨g4,by simpa using H4,by simpa using AJu,st4.toC (AQW _)⟩
 |some ad0 =>
  rw[zE]at ZO Ami;refine wp_cond_false Ami (wp_skip ?_);refine(QP he _ _ _ _ (hT xs AhG) (AQf _)).2 a2 w1 g1 _ ZO λa3 w3 g3 vS st3 hd3=>?_;exact WX a3 w3 g3 (hd3.trans hd2) (Sf.trans st3) ⟨g3,vS.heap,vS.AU 2 _ rfl,BL.refl _ _ _⟩
theorem Ac2{e bytes:Nat}{u:Ty}:jf (aW e u bytes):=by
 intro R args E K;simp only[aW];split
 ·split
  ·split<;>rfl
  ·rfl
 ·rfl
theorem eK(he:Jz P en){f:FuncId}{fn:Func}(hf:P.funcs[f]?=some fn)(hn:(fn.name=="runtime.NumGoroutine")=false){R0 R2 T:Code}{id:Nat}{o3 o4:Oper}{t t2 e bytes:Nat}{u:Ty}{ti:TI}
    (hb:fn.body=some (R0.seq (((Code.region id #[o3,o4] false).seq (Code.cond (.tmp 4) (R2.seq .ret) .skip)).seq T))) (hnt:fn.ntmps=8) (dk:fn.results=#[.tmp 2])
    (h3:o3.op=.move (.tmp 0)/\o3.dst=some 3/\o3.guard=none) (h4:o4.op=.binOp .eql t (.tmp 3) (.const (.slice none 0 0)) t2/\o4.dst=some 4/\o4.guard=none)
    (ht:en.Ee.get t=some ti) (Jc:ti.EA=true) (hu:u.row=true)
    (hR0:∀xs:(Ty.sl u).V,ev en 0 R0 (Ex×St) ⟨[.AB [] (.sl u) xs,.un 0,.un 0,.un 0,.un 0,.un 0,.un 0,.un 0],[]⟩ Se=some (.normal,⟨[.AB [] (.sl u) xs,.un 0,.zs,.un 0,.un 0,.un 0,.un 0,.un 0],[]⟩))
    (hA:∀xs:(Ty.sl u).V,ev en 0 (R2.seq .ret) (Ex×St) ⟨[.AB [] (.sl u) xs,.un 0,.zs,.AB [] (.sl u) xs,.bool true,.un 0,.un 0,.un 0],[]⟩ Se=some (.ret,⟨[.AB [] (.sl u) xs,.un 0,.zs,.AB [] (.sl u) xs,.bool true,.un 0,.un 0,.un 0],[]⟩))
    (hT:∀xs:(Ty.sl u).V,xs.length*bytes<=140737488355328->ev en 0 T (Ex×St) ⟨[.AB [] (.sl u) xs,.un 0,.zs,.AB [] (.sl u) xs,.bool false,.un 0,.un 0,.un 0],[]⟩ Se=some (.ret,⟨[.AB [] (.sl u) xs,.un 0,.AK 0,.AB [] (.sl u) xs,.bool false,.zs,.AB [] (.sl u) xs,.AK 0],[.row e (if u.BZ then .Aw else .sh []) u xs]⟩)) :
    An P f (aW e u bytes):=by
 refine An.sD hf hn (by rw[hb];rfl) Ac2 λargs E av E' h=>?_;simp only[aW]at h;split at h
 ·split at h
  ·rename_i xs hc;obtain⟨e1,q⟩:=BR hc;subst e1;subst q;split at h
   ·rename_i AhG;simp only[AQb,AQm]at h;obtain⟨rfl,rfl⟩:=h;exact⟨AQW _,λw g vs H hx=>uQ he hf hb hnt dk h3 h4 ht Jc hu hR0 hA hT AhG w g vs H hx⟩
   ·cases h
  ·cases h
 ·cases h
end
open Go.Sort Go.Shelf
def leI(x y:Int):Bool:=decide (x<=y)
def Ro(xs:ATO Int):ATO Int:=xs.mergeSort leI
def Oy(xs:ATO Int):ATO Int:=Lib.compact xs
def xl:Callee:={pE:=[.VE],run:=λ_ avs E K=>match avs,E with
    |[.AK 0],[.row e .Aw u xs]=>match JA (.sl u) (.sl (.int .i64)) xs with
     |some xs=>if xs.length<4611686018427387904 then K .nil [.row e .Aw (.int .i64) (Ro xs)]else none
     |none=>none
    |[.zs],[]=>K .nil []
    |_,_=>none}
def xL:Callee:={pE:=[.VE],run:=λ_ avs E K=>match avs,E with
    |[.AK 0],[.row e .Aw u xs]=>match JA (.sl u) (.sl (.int .i64)) xs with
     |some xs=>K (.AK 1) [.Bg,.row e .Aw (.int .i64) (Oy xs)]
     |none=>none
    |_,_=>none}
theorem Ajw:jf xl:=by
 intro R args E K;simp only[xl];split
 ·split
  ·split<;>rfl
  ·rfl
 ·rfl
 ·rfl
theorem AjP:jf xL:=by
 intro R args E K;simp only[xL];split
 ·split<;>rfl
 ·rfl
section
variable {w:World} {g:G} {n:Nat}
theorem Xi{own:Nat->Vf}{k:Nat}:∀{xs:ATO Int} {j:Nat} {ds:ATO Value},Bu (λi=>J9 w own k (.int .i64) [i]) j xs ds↔ds=xs.map (Value.int .i64)
 |[],_,_=>Iff.rfl
 |x::xs,j,ds=>by
  constructor
  ·rintro⟨c,d,e,h1,h2⟩
   have h1:c=[.int .i64 x]:=h1;rw[e,h1,Xi.1 h2];rfl
  ·intro e;exact⟨[.int .i64 x],xs.map (Value.int .i64),by rw[e];rfl,rfl,Xi.2 rfl⟩
theorem kJ{b el:Nat}{BG:Array Value}{xs:ATO Int}(hc:w.heap[b]?=some (.cells BG el (0,0)))(hd:BG.toList.take (xs.length*1)=xs.map (Value.int .i64)):Holds (Value.int .i64) w b 0 xs.toArray:=by
 intro j hj;have hj:j<xs.length:=by simpa using hj
 constructor
 ·have h1:(BG.toList.take (xs.length*1))[j]?=some (.int .i64 xs[j]):=by rw[hd];simp[hj]
  rw[AQ8,AQr (by omega)]at h1;simp only[World.cell?,hc,AQF];simpa [hj]using h1
 ·simp[World.frozen?,hc]
theorem wU{b el:Nat}{BG:Array Value}{q:Nat}{d:Array Int}(hc:w.heap[b]?=some (.cells BG el (0,0))):(putRow (Value.int .i64) (Sort.ahead w q) b 0 d).heap[b]?=some (.cells (putCells (Value.int .i64) 0 d BG) el (0,0)):=by
 simp[putRow,mapBlock,Sort.ahead,ARK,hc,onCells]
theorem pS{b c q:Nat}{d:Array Int}(h:c≠b):(putRow (Value.int .i64) (Sort.ahead w q) b 0 d).heap[c]?=w.heap[c]?:=by
 simp[putRow,mapBlock,Sort.ahead,ARK,h.symm]
theorem ZU(w:World)(b q:Nat)(d:Array Int):(putRow (Value.int .i64) (Sort.ahead w q) b 0 d).heap.size=w.heap.size:=by
 simp[putRow,mapBlock,Sort.ahead]
theorem aJ{BG:Array Value}{d:Array Int}{m:Nat}(hm:m<=d.size)(hs:d.size<=BG.size):(putCells (Value.int .i64) 0 d BG).toList.take m=(d.toList.take m).map (Value.int .i64):=by
 apply ARn;intro i;rw[AQ8,AQC,AQ8];split
 ·rename_i h;have h1:i<BG.size:=by omega
  have h2:i<d.size:=by omega
  simp[putCells,h1,h2]
 ·rfl
theorem z6{E:ATO Blk}(H:Bo w g E){b k:Nat}{r:ATO Nat}(h:g.own b=.BV k r):b<w.heap.size:=by
 by_cases hb:b<w.heap.size
 ·exact hb
 ·rw[H.B7 b (by omega)]at h;cases h
end
section
variable {P:Program} {ρ:Shelf.Ren}
theorem Ajx(L:Proofs.SlLaysN.n53 P ρ){f:FuncId}{fn:Func}(e:ρ.f 53=f)(hf:P.funcs[f]?=some fn)(hn:(fn.name=="runtime.NumGoroutine")=false)(hb:fn.body.isNone=false):An P f xl:=by
 refine An.sD hf hn hb Ajw λargs E av E' h=>?_;simp only[xl]at h;split at h
 ·rename_i el u xs;split at h
  ·rename_i ys hc;obtain⟨e1,q⟩:=BR hc;cases e1;have q:xs=ys:=q;subst q;split at h
   ·rename_i Bw;simp only[AQb,AQm]at h;obtain⟨rfl,rfl⟩:=h;refine⟨AQf _,λw g vs H hx=>?_⟩
    match vs,hx with
    |[v],⟨hv,_⟩ =>
     obtain⟨_,hv⟩:=FE hv;subst hv;obtain⟨RZ,hl,QL,B5,hr⟩:=H.MP 0 _ rfl;rcases hr with ⟨ZP,GM⟩|⟨b,BG,ds,ha,ho,⟨ce,he,D2⟩,h1,h2,h3,h4,h5⟩
     ·rw[GM,hl,ZP,<-e];refine(Proofs.AnyG.slices_Sort_int_none L _ 0 w).mono λe w' ⟨e1,e2⟩=>?_;subst e1;subst e2;exact⟨_,g,rfl,by simpa [ZP,Ro]using H,rfl,BL.refl _ _ _⟩
     ·rw[hl,ha,<-e];have h5:ds=_:=Xi.1 h5;have h4:BG.toList.take (List.length (α:=Int) xs*1)=ds:=h4;rw[h5]at h4;have Nt:BG.size=(g.A5 0).cap*1:=h3;refine(Proofs.AnyG.slices_Sort_int L b 0 _ xs w (kJ D2 h4) (z6 H ho) Bw).mono λe w' ⟨e1,n,os,e2⟩=>?_;subst e1;have zM:=z6 H ho;have XQ:∀c,c≠b->c<w.heap.size->w'.heap[c]?=w.heap[c]?:=λc hc Bw=>by
       rw[e2];show((putRow _ _ _ _ _).heap++os)[c]?=_;rw[Array.getElem?_append_left (by rw[ZU];exact Bw),pS hc]
      have dj:w'.heap[b]?=some (.cells (putCells (Value.int .i64) 0 (List.toArray (Ro xs)) BG) ce (0,0)):=by
       rw[e2];show((putRow _ _ _ _ _).heap++os)[b]?=_;rw[Array.getElem?_append_left (by rw[ZU];exact zM)];exact wU D2
      have Qs:w.heap.size<=w'.heap.size:=by
       rw[e2];show _<=((putRow _ _ _ _ _).heap++os).size;rw[Array.size_append,ZU];omega
      refine⟨_,g,rfl,⟨λc hc=>H.B7 c (by omega),λk x hx=>?_⟩,rfl,?_⟩
      ·match k,hx with
       |0,hx =>
        injection hx with hx;subst hx;have hls:(Ro xs).length=List.length (α:=Int) xs:=List.length_mergeSort _;refine⟨λj hj=>by(cases hj),by rw[hl];exact hls.symm,QL,B5,.inr ⟨b,_,_,ha,ho,⟨ce,he,dj⟩,?_,h2,?_,rfl,?_⟩⟩
        ·rw[hls];exact h1
        ·simpa [putCells]using h3
        ·show uc w' g.own 0 .Aw (.int .i64) _ _;refine Xi.2 ?_;rw[aJ (by simp[Ty.size]) (by simp only[ARm,hls];omega)];simp[Ty.size]
       |k+1,hx=>simp at hx
      ·refine⟨by rw[e2];rfl,by rw[e2];rfl,by rw[e2];rfl,Qs,λc hc h=>⟨h,XQ c (λe=>by rw[e,ho]at h;cases h) hc⟩,λc h=>⟨h,?_⟩,λc k r h hk hm=>(hm (List.mem_range.2 hk)).elim,λk hk=>rfl⟩;by_cases UA:c<w.heap.size
       ·exact XQ c (λe=>by rw[e,ho]at h;cases h) UA
       ·rw[H.B7 c (by omega)]at h;cases h
   ·cases h
  ·cases h
 ·simp only[AQb,AQm]at h;obtain⟨rfl,rfl⟩:=h;refine⟨AQf _,λw g vs H hx=>?_⟩
  match vs,hx with
  |[v],⟨hv,_⟩ =>
   obtain⟨cs,⟨ad,UA⟩,hval⟩:=B9 rfl rfl hv;subst UA;have hv:v=.slice ad 0 0:=by
    have:[Value.slice ad 0 0]=[v]:=hval;injection this with h _;exact h.symm
   subst hv;rw[<-e];refine(Proofs.AnyG.slices_Sort_int_none L ad 0 w).mono λe w' ⟨e1,e2⟩=>?_;subst e1;subst e2;exact⟨_,g,rfl,H,rfl,BL.refl _ _ _⟩
 ·cases h
theorem AjO(xs:ATO Int):(Oy xs).length<=xs.length:=by
 unfold Oy Lib.compact Lib.compactUpTo;rw[AQl];exact AQD (ARL _ _) (by simp)
theorem AjQ(L:Proofs.SlLaysN.n43 P ρ){f:FuncId}{fn:Func}(e:ρ.f 43=f)(hf:P.funcs[f]?=some fn)(hn:(fn.name=="runtime.NumGoroutine")=false)(hb:fn.body.isNone=false):An P f xL:=by
 refine An.sD hf hn hb AjP λargs E av E' h=>?_;simp only[xL]at h;split at h
 ·rename_i el u xs;split at h
  ·rename_i ys hc;obtain⟨e1,q⟩:=BR hc;cases e1;have q:xs=ys:=q;subst q;simp only[AQb,AQm]at h;obtain⟨rfl,rfl⟩:=h;refine⟨by simp,λw g vs H hx=>?_⟩
   match vs,hx with
   |[v],⟨hv,_⟩ =>
    obtain⟨_,hv⟩:=FE hv;subst hv;obtain⟨RZ,hl,QL,B5,hr⟩:=H.MP 0 _ rfl;rcases hr with ⟨ZP,GM⟩|⟨b,BG,ds,ha,ho,⟨ce,he,D2⟩,h1,h2,h3,h4,h5⟩
    ·rw[GM,hl,ZP,<-e];refine(Proofs.AnyG.slices_Compact_int_empty L _ 0 w).mono λe w' ⟨e1,e2⟩=>?_;subst e1;subst e2;refine⟨_,⟨g.own,λk=>if k=1 then⟨(g.A5 0).a,0,0,1⟩else g.A5 k⟩,rfl,⟨H.B7,λk x hx=>?_⟩,?_,?_⟩
     ·match k,hx with
      |0,hx=>injection hx with hx;subst hx;trivial
      |1,hx =>
       injection hx with hx;subst hx;exact⟨λj hj=>by(cases hj),rfl,rfl,B5,.inl ⟨rfl,rfl⟩⟩
      |k+2,hx=>simp at hx
     ·exact BD (cs:=[.slice (g.A5 0).a 0 0]) rfl ⟨by simp,rfl⟩ rfl
     ·refine⟨rfl,rfl,rfl,AQf _,λc hc h=>⟨h,rfl⟩,λc h=>⟨h,rfl⟩,λc k r h hk hm=>(hm (List.mem_range.2 hk)).elim,λk hk=>?_⟩;have hk:k<1:=hk;have:k≠1:=by omega
      simp[this]
    ·rw[hl,ha,<-e];have h5:ds=_:=Xi.1 h5;have h4:BG.toList.take (List.length (α:=Int) xs*1)=ds:=h4;rw[h5]at h4;have AvY:(g.A5 0).cap<=9223372036854775807:=h2;refine(Proofs.AnyG.slices_Compact_int L b 0 _ xs w (kJ D2 h4) (AQD h1 AvY) h1).mono λe w' ⟨e1,q,e2⟩=>?_;subst e1;have zM:=z6 H ho;have XQ:∀c,c≠b->w'.heap[c]?=w.heap[c]?:=λc hc=>by rw[e2,pS hc]
     have dj:=wU (q:=q) (d:=(Lib.compact (show ATO Int from xs)++List.replicate (List.length (α:=Int) xs-(Lib.compact (show ATO Int from xs)).length) 0).toArray) D2;rw[<-e2]at dj;have Qs:w'.heap.size=w.heap.size:=by rw[e2,ZU]
     have ia:(Oy xs).length<=List.length (α:=Int) xs:=AjO xs;have Nt:(Lib.compact (show ATO Int from xs)++List.replicate (List.length (α:=Int) xs-(Lib.compact (show ATO Int from xs)).length) 0).length=List.length (α:=Int) xs:=by
      rw[AQd,AQG];exact Nat.add_sub_cancel' ia
     refine⟨_,⟨λc=>if c=b then .BV 1 []else g.own c,λk=>if k=1 then⟨(g.A5 0).a,(Oy xs).length,(g.A5 0).cap,1⟩else g.A5 k⟩,rfl,⟨λc hc=>?_,λk x hx=>?_⟩,?_,?_⟩
     ·have:c≠b:=λe=>by omega
      simp only[this,ARA];exact H.B7 c (by omega)
     ·match k,hx with
      |0,hx=>injection hx with hx;subst hx;trivial
      |1,hx =>
       injection hx with hx;subst hx;refine⟨λj hj=>by(cases hj),rfl,rfl,B5,.inr ⟨b,_,_,ha,by simp,⟨ce,he,dj⟩,AQD ia h1,h2,?_,rfl,?_⟩⟩
       ·simpa [putCells]using h3
       ·show uc w' _ 1 .Aw (.int .i64) _ _;refine Xi.2 ?_;have UA:BG.size=(g.A5 0).cap*1:=h3;rw[aJ (by simp[Ty.size,Oy]) (by rw[ARm,Nt,UA];exact AQD h1 (Nat.le_of_eq (Nat.mul_one _).symm))];simp[Ty.size,Oy]
      |k+2,hx=>simp at hx
     ·exact BD (cs:=[.slice (some ⟨b,0,none⟩) (Oy xs).length (g.A5 0).cap]) rfl ⟨by simp,by simp[ha]⟩ rfl
     ·refine⟨by rw[e2];rfl,by rw[e2];rfl,by rw[e2];rfl,Nat.le_of_eq Qs.symm,λc hc h=>?_,λc h=>?_,λc k r h hk hm=>(hm (List.mem_range.2 hk)).elim,λk hk=>?_⟩
      ·have MO:c≠b:=λe=>by rw[e,ho]at h;cases h
       exact⟨by simp[MO,h],XQ c MO⟩
      ·have MO:c≠b:=λe=>by rw[e,ho]at h;cases h
       exact⟨by simp[MO,h],XQ c MO⟩
      ·have hk:k<1:=hk;have:k≠1:=by omega
       simp[this]
  ·cases h
 ·cases h
end
section
variable {A B C D:Type}
theorem bC(k:A->ATP B)(c:Bool)(x y:ATP A):(bif c then x else y).bind k=bif c then x.bind k else y.bind k:=AcU k c x y
theorem bI(k:A->ATP B)(c:Prop)[Decidable c](x y:ATP A):(if c then x else y).bind k=if c then x.bind k else y.bind k:=AfR k c x y
theorem bN(k:A->ATP B)(c:Prop)[Decidable c](x:ATP A):(if c then none else x).bind k=if c then none else x.bind k:=AcW k c x
theorem bE(k:C->ATP D)(g:A->ATP C)(h:B->ATP C)(y:A⊕B):(Sum.elim g h y).bind k=Sum.elim (λa=>(g a).bind k) (λb=>(h b).bind k) y:=AcV k g h y
theorem bA(x:ATP A)(f:A->ATP B)(g:B->ATP C):(x.bind f).bind g=x.bind λy=>(f y).bind g:=AQq x f g
theorem bS(a:A)(f:A->ATP B):(some a).bind f=f a:=rfl
theorem bO(f:A->ATP B):(none:ATP A).bind f=none:=rfl
theorem mC(f:A->B)(c:Bool)(x y:ATP A):(bif c then x else y).map f=bif c then x.map f else y.map f:=Aiw f c x y
theorem mI(f:A->B)(c:Prop)[Decidable c](x y:ATP A):(if c then x else y).map f=if c then x.map f else y.map f:=AmK f c x y
theorem mN(f:A->B)(c:Prop)[Decidable c](x:ATP A):(if c then none else x).map f=if c then none else x.map f:=Aiy f c x
theorem mB(f:B->C)(x:ATP A)(k:A->ATP B):(x.bind k).map f=x.bind λy=>(k y).map f:=Aiv f x k
theorem mE(f:C->D)(g:A->ATP C)(h:B->ATP C)(y:A⊕B):(Sum.elim g h y).map f=Sum.elim (λa=>(g a).map f) (λb=>(h b).map f) y:=Aix f g h y
theorem mS(f:A->B)(a:A):(some a).map f=some (f a):=rfl
theorem mO(f:A->B):(none:ATP A).map f=none:=rfl
def cc(x y:ATP Unit):ATP Unit:=x.bind λ_=>y
class Sh (Y:Type) where
 T:Type->Type
 sp:{Z:Type}->(Y->Z)->T Z
 ij:∀{Z:Type} {f g:Y->Z},sp f=sp g->f=g
instance (priority:=low) shB:Sh A:=⟨λZ=>A->Z,λf=>f,λh=>h⟩
instance shS [Sh A] [Sh B]:Sh (A⊕B):=⟨λZ=>Sh.T A Z×Sh.T B Z,λf=>(Sh.sp λa=>f (.inl a),Sh.sp λb=>f (.inr b)),λ{Z f g} h=>by
 have h1:=Sh.ij (congrArg Prod.fst h);have h2:=Sh.ij (congrArg Prod.snd h)
 funext y
 cases y with
 |inl a=>exact congrFun h1 a
 |inr b=>exact congrFun h2 b⟩
theorem k3{a a':A}{b b':B}{c c':C}(h:(a,b,c)=(a',b',c')):a=a'/\b=b'/\c=c':=by grind
end
abbrev dI(x:Int):AV:=.AB [] (.int .i64) x
abbrev dB(b:Bool):AV:=.AB [] .bool b
abbrev dD(t:Ty)(x:t.V):AV:=.AB [] t x
def sT(n:Nat)(l:ATO (Nat×AV))(bs:ATO Blk):St:=⟨mkS n 0 l,bs⟩
abbrev xN(n:Nat)(l:List (Nat×AV))(bs:List Blk):Ex×St:=(.normal,sT n l bs)
abbrev xR(n:Nat)(l:List (Nat×AV))(bs:List Blk):Ex×St:=(.ret,sT n l bs)
abbrev xE(k n:Nat)(l:List (Nat×AV))(bs:List Blk):Ex×St:=(.exit k,sT n l bs)
instance:Coe (List Nat) SH:=⟨λl=>{Be:=l}⟩
def GX.hd(en:GX)(k:Nat):SH:=(O8 en.fi.Ba k).getD {Be:=[]}
def GX.ot(en:GX)(k:Nat):SH:=(O8 en.fi.BN k).getD {Be:=[]}
def GX.jn(en:GX)(k:Nat):SH:=(O8 en.fi.BM k).getD {Be:=[]}
def GX.dr(en:GX)(k:Nat):SH:=(O8 en.fi.W8 k).getD {Be:=[]}
def ptG:Nat->Nat->ATO Nat->ATO Nat
 |0,_,a=>a
 |f+1,n,a=>if n<=1 then a else ptG f (n/2) (n%2::a)
def pt(n:Nat):ATO Nat:=ptG 60 n []
section
variable {X Y R:Type}
def cd(f:Func)(n:Nat):Code:=sub (code f) (pt n)
def sb(c:Code)(n:Nat):Code:=sub c (pt n)
noncomputable def Ka(en:GX)(m k:Nat):=AG8 m (en.hd k) (en.ot k)
noncomputable def Ui(en:GX)(m k:Nat):=AGP m (en.jn k)
noncomputable def lpS(en:GX)(m k:Nat)(fc:Code)(p:ATO Nat):St->ATP (St⊕(Ex×St)):=p9 en m (en.hd k) (en.ot k) (sub fc (p++[0]))
noncomputable def Xk(en:GX)(m k:Nat)(fc:Code)(p:ATO Nat):St->ATP (Ex×St):=AGQ en m (en.jn k) (sub fc p)
noncomputable def re(en:GX)(m k:Nat)(fc:Code)(p:ATO Nat):St->ATP St:=AmV en m (en.dr k) (Awy (sub fc p))
noncomputable def kQ(en:GX)(m:Nat)(R:Type)(fc:Code)(p:ATO Nat)(K:Ex->St->ATP R)(q:Ex×St):ATP R:=AdE en m R fc p K q.1 q.2
noncomputable def lpC(en:GX)(m k:Nat)(fc:Code)(p:ATO Nat)(R:Type)(K:Ex->St->ATP R)(s:St):ATP R:=(fix (lpS en m k fc p) s).bind (kQ en m R fc p K)
noncomputable def jnC(en:GX)(m k:Nat)(fc:Code)(p:ATO Nat)(R:Type)(K:Ex->St->ATP R)(s:St):ATP R:=(Xk en m k fc p s).bind (kQ en m R fc p K)
noncomputable def drC(en:GX)(m k:Nat)(fc:Code)(p:ATO Nat)(R:Type)(K:Ex->St->ATP R)(s:St):ATP R:=(re en m k fc p s).bind λq=>kQ en m R fc p K (.normal,q)
def A8(en:GX)(m k:Nat)(fc:Code)(n:Nat)(s:X->St)(r:X->ATP (X⊕Y))(o:Y->Ex×St):Prop:=∀x,lpS en m k fc (pt n) (s x)=(r x).map (Sum.map s o)
def AX(en:GX)(m k:Nat)(fc:Code)(n:Nat)(s:St)(x:ATP Y)(o:Y->Ex×St):Prop:=Xk en m k fc (pt n) s=x.map o
def MQ(en:GX)(m k:Nat)(fc:Code)(n:Nat)(s:St)(x:ATP Y)(o:Y->St):Prop:=re en m k fc (pt n) s=x.map o
theorem AJ{en:GX}{m k:Nat}{fc:Code}{n:Nat}{s:X->St}{r:X->ATP (X⊕Y)}{o:Y->Ex×St}(h:A8 en m k fc n s r o){K:Ex->St->ATP R}{x:X}{F:Y->ATP R}[Sh Y](hF:Sh.sp F=Sh.sp λy=>kQ en m R fc (pt n) K (o y)) :
    (fix r x).bind F=lpC en m k fc (pt n) R K (s x):=by
 unfold lpC;rw[Al8 s o _ r h x,jD];exact congrArg _ (Sh.ij hF)
theorem Bf{en:GX}{m k:Nat}{fc:Code}{n:Nat}{s:St}{x:ATP Y}{o:Y->Ex×St}(h:AX en m k fc n s x o){K:Ex->St->ATP R}{F:Y->ATP R}[Sh Y](hF:Sh.sp F=Sh.sp λy=>kQ en m R fc (pt n) K (o y)) :
    x.bind F=jnC en m k fc (pt n) R K s:=by
 unfold jnC;rw[h,jD];exact congrArg _ (Sh.ij hF)
theorem Tv{en:GX}{m k:Nat}{fc:Code}{n:Nat}{s:St}{x:ATP Y}{o:Y->St}(h:MQ en m k fc n s x o){K:Ex->St->ATP R}{F:Y->ATP R}[Sh Y](hF:Sh.sp F=Sh.sp λy=>kQ en m R fc (pt n) K (.normal,o y)) :
    x.bind F=drC en m k fc (pt n) R K s:=by
 unfold drC;rw[h,jD];exact congrArg _ (Sh.ij hF)
def OQ(_:St)(x:ATP R):ATP R:=x
theorem bM(s:St)(x:ATP X)(k:X->ATP Y):(OQ s x).bind k=OQ s (x.bind k):=rfl
theorem mM(s:St)(x:ATP X)(k:X->Y):(OQ s x).map k=OQ s (x.map k):=rfl
theorem Ey{en:GX}{m k:Nat}{fc:Code}{p:ATO Nat}{s:St}{e:Ex×St}(h:Xk en m k fc p s=some e){K:Ex->St->ATP R}{T:ATP R}(hT:T=kQ en m R fc p K e):OQ s T=jnC en m k fc p R K s:=by
 unfold jnC;rw[h];exact hT
end
noncomputable def AdB(ms:ATO PM)(en:GX)(fn:Func):Callee:={pE:=ms,run:=λR args E K=>TT en fn R args E K}
theorem Amz{ms:ATO PM}{en:GX}{fn:Func}(he:Z7 en):jf (AdB ms en fn):=by
 intro R args E K;show TT en fn R args E K=(TT en fn _ args E _).bind _;unfold TT;split
 ·rfl
 ·split
  ·have WX:∀s ,(match af E.length en.fi.WX s with
       |none=>none
       |some σ=>match iu en.Ee σ fn.results.toList with
        |some l=>match rC E.length en.fi.RU l σ.Aj with
         |some (l,bs)=>match cK en.fi.iq l bs with
          |some (l',HH)=>match lb E.length HH (wY l')with
           |some (v,bs)=>K v bs
           |none=>none
          |none=>none
         |none=>none
        |none=>none)=(match af E.length en.fi.WX s with
       |none=>none
       |some σ=>match iu en.Ee σ fn.results.toList with
        |some l=>match rC E.length en.fi.RU l σ.Aj with
         |some (l,bs)=>match cK en.fi.iq l bs with
          |some (l',HH)=>match lb E.length HH (wY l')with
           |some (v,bs)=>some (v,bs)
           |none=>none
          |none=>none
         |none=>none
        |none=>none).bind λp=>K p.1 p.2:=λs=>by
     cases af _ _ s with
     |none=>rfl
     |some s =>
      grind
   refine AaK (XK he _) λe s=>?_;cases e with
   |exit n=>rfl
   |normal=>exact WX s
   |ret=>exact WX s
  ·rfl
theorem iQ{P:Program}{f:FuncId}{fn:Func}{ms:ATO PM}{en:GX}(he:Jz P en)(q:(P.funcs[f]?,fn.name=="runtime.NumGoroutine",fn.body.isNone)=(some fn,false,false):=by kernel_rfl):An P f (AdB ms en fn) :=
 An.of he (k3 q).1 (k3 q).2.1 (k3 q).2.2 (Amz he.aH) λ_ _ _ _ h=>h
inductive Pt where
 |k (a:AV)|AB (ks:List Nat) (t:Ty)|FQ (ks:List Nat) (t:Ty)|ptr (k:Nat) (p:List Nat) (o:Nat)|pr (a b:Pt)|cons (a b:Pt)|fn (f:Nat) (c:Pt)
def AV.isK:AV->AV->Bool
 |.zs,.zs=>true
 |.KG,.KG=>true
 |.nil,.nil=>true
 |.un n,.un m=>n==m
 |.AK n,.AK m=>n==m
 |.mp n,.mp m=>n==m
 |.ptr k i p o,.ptr k' i' p' o'=>k==k'&&i==i'&&p==p'&&o==o'
 |.AB [] .unit _,.AB [] .unit _=>true
 |_,_=>false
theorem AV.Awj{a b:AV}(h:a.isK b=true):b=a:=by
 unfold AV.isK at h
 grind
@[reducible] def Pt.T:Pt->Type
 |.k _=>Unit
 |.AB _ t=>t.V
 |.FQ _ t=>t.V
 |.ptr _ _ _=>Int
 |.pr a b=>a.T×b.T
 |.cons a b=>a.T×b.T
 |.fn _ c=>c.T
def Pt.fill:(p:Pt)->p.T->AV
 |.k a,_=>a
 |.AB ks t,x=>.AB ks t x
 |.FQ ks t,x=>.FQ ks t x
 |.ptr j p o,i=>.ptr j i p o
 |.pr a b,x=>.pr (a.fill x.1) (b.fill x.2)
 |.cons a b,x=>.cons (a.fill x.1) (b.fill x.2)
 |.fn f c,x=>.fn f (c.fill x)
def Pt.mt:(p:Pt)->AV->ATP p.T
 |.k a,b=>bif a.isK b then some ()else none
 |.AB ks t,a=>match a with |.AB UO t' x=>if UO=ks then JA t' t x else none |_=>none
 |.FQ ks t,a=>match a with |.FQ UO t' x=>if UO=ks then JA t' t x else none |_=>none
 |.ptr j p o,a=>match a with |.ptr j' i p' o'=>if j'=j/\p'=p/\o'=o then some i else none |_=>none
 |.pr a b,c=>match c with |.pr x y=>(match a.mt x,b.mt y with |some u,some v=>some (u,v)|_,_=>none)|_=>none
 |.cons a b,c=>match c with |.cons x y=>(match a.mt x,b.mt y with |some u,some v=>some (u,v)|_,_=>none)|_=>none
 |.fn f c,a=>match a with |.fn f' x=>if f'=f then c.mt x else none |_=>none
theorem Pt.US:∀{p:Pt} {a:AV} {x:p.T},p.mt a=some x->a=p.fill x
 |.k a,b,x,h=>by
  unfold Pt.mt at h;cases e:a.isK b with
  |false=>grind
  |true=>exact AV.Awj e
 |.AB ks t,a,x,h=>by
  unfold Pt.mt at h;cases a with
  |AB UO t' y =>
   simp only at h;split at h
   ·rename_i e;subst e;obtain⟨e,q⟩:=BR h;subst e;subst q;rfl
   ·grind
  |_=>grind
 |.FQ ks t,a,x,h=>by
  unfold Pt.mt at h;cases a with
  |FQ UO t' y =>
   simp only at h;split at h
   ·rename_i e;subst e;obtain⟨e,q⟩:=BR h;subst e;subst q;rfl
   ·grind
  |_=>grind
 |.ptr j p o,a,x,h=>by
  unfold Pt.mt at h;cases a with
  |ptr j' i p' o' =>
   simp only at h;split at h
   ·rename_i e;obtain⟨rfl,rfl,rfl⟩:=e;injection h with h;subst h;rfl
   ·grind
  |_=>grind
 |.pr a b,c,x,h=>by
  unfold Pt.mt at h;cases c with
  |pr y z =>
   simp only at h;split at h
   ·rename_i u v hu hv;injection h with h;subst h;rw[Pt.US hu,Pt.US hv];rfl
   ·grind
  |_=>grind
 |.cons a b,c,x,h=>by
  unfold Pt.mt at h;cases c with
  |cons y z =>
   simp only at h;split at h
   ·rename_i u v hu hv;injection h with h;subst h;rw[Pt.US hu,Pt.US hv];rfl
   ·grind
  |_=>grind
 |.fn f c,a,x,h=>by
  unfold Pt.mt at h;cases a with
  |fn f' y =>
   simp only at h;split at h
   ·rename_i e;subst e;rw[Pt.US h];rfl
   ·grind
  |_=>grind
@[reducible] def AiX:List Pt->Type
 |[]=>Unit
 |p::r=>p.T×AiX r
def Aww:(l:ATO Pt)->AiX l->ATO AV
 |[],_=>[]
 |p::r,x=>p.fill x.1::Aww r x.2
def AmT:(l:ATO Pt)->ATO AV->ATP (AiX l)
 |[],l=>match l with |[]=>some ()|_=>none
 |p::r,l=>match l with |a::mU=>(match p.mt a,AmT r mU with |some u,some v=>some (u,v)|_,_=>none)|_=>none
theorem pP:∀{l:ATO Pt} {a:ATO AV} {x:AiX l},AmT l a=some x->a=Aww l x
 |[],a,x,h=>by
  cases a with
  |nil=>rfl
  |cons _ _=>cases h
 |p::r,a,x,h=>by
  unfold AmT at h;cases a with
  |nil=>grind
  |cons a mU =>
   simp only at h;split at h
   ·rename_i u v hu hv;injection h with h;subst h;rw[Pt.US hu,pP hv];rfl
   ·grind
inductive ye where
 |box (p:Pt)|row (e:Nat) (m:RM) (t:Ty)|map (m:RM) (kt vt:Ty)|Bg
def RM.eqb:RM->RM->Bool
 |.Aw,.Aw=>true
 |.sh a,.sh b=>a==b
 |_,_=>false
theorem RM.Ahj{a b:RM}(h:a.eqb b=true):b=a:=by
 cases a<;>cases b<;>simp[RM.eqb]at h
 ·rfl
 ·grind
@[reducible] def ye.T:ye->Type
 |.box p=>p.T
 |.row _ _ t=>List t.V
 |.map _ kt vt=>List (kt.V×vt.V)
 |.Bg=>Unit
def ye.fill:(p:ye)->p.T->Blk
 |.box p,x=>.box (p.fill x)
 |.row e m t,x=>.row e m t x
 |.map m kt vt,x=>.map m kt vt x none
 |.Bg,_=>.Bg
def ye.mt:(p:ye)->Blk->ATP p.T
 |.box p,b=>match b with |.box a=>p.mt a |_=>none
 |.row e m t,b=>match b with |.row e' m' t' xs=>if e'=e then bif m.eqb m' then JA (.sl t') (.sl t) xs else none else none |_=>none
 |.map m kt vt,b=>match b with |.map m' kt' vt' es none=>bif m.eqb m' then JA (.sl (.AG kt' vt')) (.sl (.AG kt vt)) es else none |_=>none
 |.Bg,b=>match b with |.Bg=>some ()|_=>none
theorem ye.US:∀{p:ye} {a:Blk} {x:p.T},p.mt a=some x->a=p.fill x
 |.box p,a,x,h=>by
  cases a with
  |box y=>rw[Pt.US h];rfl
  |_=>cases h
 |.row e m t,a,x,h=>by
  unfold ye.mt at h;cases a with
  |row e' m' t' y =>
   simp only at h;split at h
   ·rename_i e0;subst e0;cases hm:m.eqb m' with
    |false=>grind
    |true =>
     rw[hm]at h;have:=RM.Ahj hm;subst this;obtain⟨e1,q⟩:=BR h;cases Ty.sl.inj e1;subst q;rfl
   ·grind
  |_=>grind
 |.map m kt vt,a,x,h=>by
  unfold ye.mt at h;cases a with
  |map m' kt' vt' es st =>
   cases st with
   |none =>
    simp only at h;cases hm:m.eqb m' with
    |false=>grind
    |true =>
     rw[hm]at h;have:=RM.Ahj hm;subst this;obtain⟨e1,q⟩:=BR h;obtain⟨e2,e3⟩:=Ty.AG.inj (Ty.sl.inj e1);subst e2;subst e3;subst q;rfl
   |some z=>grind
  |_=>grind
 |.Bg,a,x,h=>by
  cases a with
  |Bg=>rfl
  |_=>cases h
@[reducible] def uy:List ye->Type
 |[]=>Unit
 |p::r=>p.T×uy r
def AfU:(l:ATO ye)->uy l->ATO Blk
 |[],_=>[]
 |p::r,x=>p.fill x.1::AfU r x.2
def Aa8:(l:ATO ye)->ATO Blk->ATP (uy l)
 |[],l=>match l with |[]=>some ()|_=>none
 |p::r,l=>match l with |a::mU=>(match p.mt a,Aa8 r mU with |some u,some v=>some (u,v)|_,_=>none)|_=>none
theorem jE:∀{l:ATO ye} {a:ATO Blk} {x:uy l},Aa8 l a=some x->a=AfU l x
 |[],a,x,h=>by
  cases a with
  |nil=>rfl
  |cons _ _=>cases h
 |p::r,a,x,h=>by
  unfold Aa8 at h;cases a with
  |nil=>grind
  |cons a mU =>
   simp only at h;split at h
   ·rename_i u v hu hv;injection h with h;subst h;rw[ye.US hu,jE hv];rfl
   ·grind
structure Br where
 pa:List Pt
 pb:List ye
 U:Type
 F:AiX pa×uy pb->Option U
 out:U->AV×List Blk
def cF:ATO Br->(R:Type)->ATO AV->ATO Blk->(AV->ATO Blk->ATP R)->ATP R
 |[],_,_,_,_=>none
 |b::r,R,avs,E,K=>match AmT b.pa avs,Aa8 b.pb E with
  |some x,some y=>(b.F (x,y)).bind λu=>K (b.out u).1 (b.out u).2
  |_,_=>cF r R avs E K
def Ck(ms:ATO PM)(bs:ATO Br):Callee:={pE:=ms,run:=cF bs}
theorem eE:∀(bs:ATO Br) (R:Type) (args:ATO AV) (E:ATO Blk) (K:AV->ATO Blk->ATP R),cF bs R args E K=(cF bs (AV×ATO Blk) args E λv b=>some (v,b)).bind λp=>K p.1 p.2
 |[],_,_,_,_=>rfl
 |b::r,R,args,E,K=>by
  unfold cF;split
  ·grind
  ·exact eE r R args E K
def AH3(P:Program)(fn:Func)(b:Br):Prop:=∃en,Jz P en/\∀p (R:Type) (K:AV->ATO Blk->ATP R),TT en fn R (Aww b.pa p.1) (AfU b.pb p.2) K=(b.F p).bind λu=>K (b.out u).1 (b.out u).2
def AeM(P:Program)(fn:Func):ATO Br->Prop
 |[]=>True
 |b::r=>AH3 P fn b/\AeM P fn r
theorem AfV{P:Program}{fn:Func}:∀{bs:ATO Br},AeM P fn bs->∀args E av E',cF bs (AV×ATO Blk) args E (λv b=>some (v,b))=some (av,E')->∃en,Jz P en/\TT en fn (AV×ATO Blk) args E (λv b=>some (v,b))=some (av,E')
 |[],_,_,_,_,_,h=>by cases h
 |b::r,⟨⟨en,he,hb⟩,hr⟩,args,E,av,E',h=>by
  unfold cF at h;split at h
  ·rename_i x y hx hy;refine⟨en,he,?_⟩;rw[pP hx,jE hy];exact(hb (x,y) _ _).trans h
  ·exact AfV hr args E av E' h
theorem Av{P:Program}{f:FuncId}{fn:Func}{ms:ATO PM}{bs:ATO Br}(h:AeM P fn bs)(q:(P.funcs[f]?,fn.name=="runtime.NumGoroutine",fn.body.isNone)=(some fn,false,false):=by kernel_rfl):An P f (Ck ms bs) :=
 An.of2 (k3 q).1 (k3 q).2.1 (k3 q).2.2 (eE bs) (AfV h)
def AeL:ATO Br->Prop
 |[]=>True
 |b::r=>(∀p,b.F p=none)/\AeL r
theorem AnT:∀{bs:ATO Br},AeL bs->∀(R:Type) args E K,cF bs R args E K=none
 |[],_,_,_,_,_=>rfl
 |b::r,h,R,args,E,K=>by
  unfold cF;split
  ·rw[h.1];rfl
  ·exact AnT h.2 R args E K
theorem Ak0{P:Program}{f:FuncId}{ms:ATO PM}{bs:ATO Br}(h:AeL bs):An P f (Ck ms bs) where
 aH:=eE bs
 snd args E av E' hr:=by
  rw[show(Ck ms bs).run _ args E _=none from AnT h _ _ _ _]at hr;cases hr
noncomputable abbrev DY(s:St):Option Unit:=C2 s s
theorem I3{p:Prop}[Decidable p](h:¬p:=by omega):decide p=false:=AQc h
theorem MM{p:Prop}[Decidable p](h:p:=by omega):decide p=true:=AQe h
theorem QK{c:Prop}[Decidable c](h:¬c:=by omega){A:Sort _}{t e:A}:ite c t e=e:=AQs h
theorem WA{c:Prop}[Decidable c](h:c:=by omega){A:Sort _}{t e:A}:ite c t e=t:=AQr h
abbrev ASm:=And.intro @mC (And.intro @mI (And.intro @mN (And.intro @mB (And.intro @mE @mM))))
abbrev ASn:=And.intro @bC (And.intro @bI (And.intro @bN (And.intro @bE (And.intro @bA (And.intro @bS (And.intro @bO @bM))))))
abbrev wI(x:Int):Int:=IntKind.i64.wrap x
end Go.Va
namespace Go.Proofs.X
open Go Go.Va Go.Proofs.Tryz
set_option maxRecDepth 100000
abbrev Tlaws_Decl:Ty:=(.AG .str (.AG (.int .i64) .unit))
abbrev js:Ty:=(.AG (.int .i64) (.AG (.sl (.int .u64)) .unit))
abbrev YN:Ty:=(.AG (.int .i64) (.AG (.int .i64) (.AG (.int .i64) (.AG (.int .i64) (.AG js (.AG (.sl (.int .i64)) .unit))))))
abbrev Tlaws_Term:Ty:=(.AG (.sl YN) .unit)
abbrev Tlaws_Literal:Ty:=(.AG (.int .i64) (.AG .bool (.AG Tlaws_Term (.AG Tlaws_Term .unit))))
abbrev Am:Ty:=(.AG (.sl (.sl (.int .i64))) .unit)
abbrev Ai:Ty:=(.AG (.int .i64) (.AG (.sl (.int .u64)) .unit))
abbrev Ao:Ty:=(.AG (.sl (.int .i64)) (.AG .bool (.AG Ai .unit)))
abbrev OT:Ty:=(.AG Am (.AG (.sl Ao) (.AG (.sl (.int .i64)) .unit)))
abbrev Ab:Ty:=(.AG .str (.AG (.int .i64) .unit))
abbrev Ag:Ty:=(.AG (.int .i64) (.AG (.int .i64) (.AG (.int .i64) (.AG (.int .i64) (.AG Ai (.AG (.sl (.int .i64)) .unit))))))
abbrev Ap:Ty:=(.AG (.sl Ag) .unit)
abbrev Ah:Ty:=(.AG (.int .i64) (.AG .bool (.AG Ap (.AG Ap .unit))))
abbrev Ae:Ty:=(.AG (.int .i64) (.AG (.int .i64) (.AG (.int .i64) .unit)))
abbrev A9:Ty:=(.AG (.int .i64) (.AG Ai .unit))
abbrev As:Ty:=(.AG A9 (.AG A9 (.AG (.int .i64) .unit)))
abbrev XF:Ty:=(.AG (.int .i64) (.AG (.int .i64) (.AG (.int .i64) .unit)))
abbrev ug:Ty:=(.AG (.sl Ai) (.AG (.sl XF) (.AG (.sl (.int .i64)) .unit)))
abbrev Af:Ty:=(.AG (.int .i64) (.AG (.int .i64) (.AG (.int .i64) (.AG Ai .unit))))
abbrev Ak:Ty:=(.AG (.int .i64) (.AG (.int .i64) (.AG (.int .u64) .unit)))
abbrev Aa:Ty:=(.AG (.int .i64) (.AG (.int .i64) .unit))
abbrev Au:Ty:=(.AG (.sl Aa) (.AG (.sl .bool) .unit))
abbrev ud:Ty:=(.AG (.sl Ab) (.AG (.sl Ah) (.AG (.sl (.AG (.sl Af) (.AG (.sl Af) .unit))) (.AG Am (.AG (.sl Ae) (.AG (.R4 1) .unit))))))
abbrev qB:Ty:=(.AG (.sl (.int .i64)) (.AG (.sl (.int .i64)) (.AG (.R4 1) (.AG (.sl XF) .unit))))
abbrev qA:Ty:=(.AG (.sl Ab) (.AG (.sl (.sl .bool)) (.AG (.R4 1) (.AG (.sl (.AG (.int .i64) (.AG (.int .i64) .unit))) .unit))))
abbrev jr:Ty:=(.AG (.int .i64) (.AG (.int .i64) (.AG (.int .i64) .unit)))
abbrev Ln:Ty:=(.AG Af (.AG (.int .i64) .unit))
abbrev AA:=Blk.row 2 .Aw (.int .i64)
abbrev Bj:=Blk.row 199 .Aw (.int .u64)
abbrev Cg:=Blk.row 154 .Aw (.sl .bool)
abbrev Db:=Blk.row 164 .Aw Ae
abbrev CZ:=Blk.row 222 .Aw (.AG (.sl Af) (.AG (.sl Af) .unit))
abbrev Dt:=Blk.row 32 .Aw (.sl (.int .i64))
abbrev Ig:=Blk.row 4 .Aw .bool
abbrev FB:=Blk.row 225 .Aw Aa
abbrev EY:=Blk.row 198 .Aw Aa
abbrev DU:=Blk.row 151 .Aw Ae
abbrev Ca:=Blk.row 218 .Aw Af
abbrev Gg:=Blk.row 57 (.sh []) Ai
abbrev Ci:=Blk.row 218 (.sh []) Af
abbrev Fl:=Blk.row 102 .Aw Ao
abbrev Wx:=Blk.row 156 .Aw Au
abbrev I1:=Blk.row 182 .Aw Ag
abbrev K7:=Blk.row 5 .Aw (.int .u8)
abbrev Ot:=Blk.row 87 .Aw Ah
abbrev dW:=Blk.row 96 (.sh []) As
abbrev RS:=Blk.row 122 .Aw (.sl Af)
abbrev UZ:=Blk.row 207 .Aw (.sl Ak)
abbrev Tn:=Blk.row 87 (.sh []) Ah
abbrev U1:=Blk.row 0 .Aw Ag
abbrev Ye:=Blk.row 105 .Aw Ab
abbrev Yf:=Blk.row 252 .Aw Ae
abbrev Yg:=Blk.row 210 .Aw Ak
abbrev jd:=Blk.row 153 (.sh []) (.sl Aa)
abbrev je:=Blk.row 122 (.sh []) (.sl Af)
abbrev tE:=Blk.row 96 .Aw As
abbrev tF:=Blk.row 0 .Aw (.int .u64)
abbrev tG:=Blk.row 0 .Aw (.int .i64)
abbrev HF:=Blk.map .Aw Aa (.sl Aa)
abbrev J7:=Blk.map (.sh []) (.int .i64) Ai
abbrev HG:=Blk.map .Aw Aa (.int .i64)
abbrev cb:=Blk.map .Aw (.int .i64) (.sl Ae)
abbrev AaP:=Blk.map .Aw (.int .i64) Ae
abbrev AaQ:=Blk.map .Aw (.int .i64) (.int .i64)
abbrev Ar:=dD (.sl Ab)
abbrev Bl:=dD (.sl Ah)
abbrev BP:=dD Am
abbrev B3:=dD (.sl Af)
abbrev Gn:=dD (.sl Ae)
abbrev B8:=dD (.sl (.int .i64))
abbrev WV:=dD Ag
abbrev LR:=dD Ap
abbrev Ie:=dD (.sl (.sl (.int .i64)))
abbrev K6:=dD Af
abbrev ED:=dD Ae
abbrev Jy:=dD Ai
abbrev HZ:=dD .str
abbrev Tl:=dD (.sl Aa)
abbrev Yc:=dD (.sl (.sl .bool))
abbrev RQ:=dD (.sl (.sl Aa))
abbrev Oq:=dD (.sl (.sl Af))
abbrev Tm:=dD (.sl (.int .u64))
abbrev Yd:=dD Ah
abbrev Z5:=dD (.sl .bool)
abbrev Z6:=dD (.sl (.int .u8))
abbrev dV:=dD Ab
abbrev tz:=dD (.sl (.sl Ak))
abbrev jb:=dD (.sl Ag)
abbrev jc:=dD Au
abbrev tA:=dD (.sl As)
abbrev Aq:=AV.ptr 0 0 [] 0
abbrev AZ:=AV.ptr 1 0 [] 0
abbrev Dr:=AV.ptr 2 0 [] 0
abbrev LS:=AV.ptr 5 0 [] 0
abbrev J8:=AV.ptr 3 0 [] 0
abbrev V0:=AV.ptr 6 0 [] 0
abbrev Ns:=AV.ptr 4 0 [] 0
abbrev fO:=AV.ptr 7 0 [] 0
abbrev tC:=AV.ptr 8 0 [] 0
abbrev V4:AV:=.pr .zs .u
abbrev S3:AV:=.pr (dI 0) V4
abbrev Aks:AV:=.pr (.AK 1) (.pr (.pr (.AK 2) .u) (.pr (.AK 3) (.pr (.mp 4) .u)))
abbrev tH:AV:=.pr (.AK 4) (.pr (.pr (.AK 1) .u) (.pr (.AK 5) (.pr (.mp 6) .u)))
abbrev Aku:AV:=.pr (.AK 2) (.pr (.mp 3) (.pr (.AK 4) .u))
abbrev iA:AV:=.pr V4 (.pr .zs V4)
abbrev Ani:AV:=.pr (.AK 5) (.pr (.AK 6) .u)
abbrev AaR:AV:=.pr (.AK 7) .u
abbrev nZ:AV:=.pr (.AK 3) .u
abbrev V5:AV:=.AK 2
abbrev aQ:AV:=.pr (.AK 5) .u
abbrev I2:AV:=.AK 1
abbrev AHb:AV:=.pr (.AK 5) (.pr (.AK 6) (.pr (.mp 3) AaR))
abbrev YA:AV:=.pr V5 .u
abbrev gN:AV:=.pr (.AK 4) .u
abbrev dX:AV:=.pr V5 (.pr (.mp 3) AaR)
abbrev Pj:AV:=.pr (.AK 0) .u
abbrev AoL:AV:=.pr I2 (.pr (.mp 2) (.pr (.AK 6) .u))
abbrev AcF:AV:=.pr (.AK 5) (.pr (.AK 6) AaR)
abbrev AHc:AV:=.pr (.AK 8) (.pr (.AK 9) (.pr (.mp 10) (.pr (.AK 11) .u)))
abbrev gO:AV:=.pr (.AK 8) .u
abbrev aR:AV:=.pr (dI 0) (.pr S3 .u)
abbrev AoM:AV:=.pr V5 (.pr (.mp 3) aQ)
abbrev AoN:AV:=.pr (.AK 9) (.pr (.AK 10) (.pr (.mp 11) (.pr (.AK 12) .u)))
abbrev qj:AV:=.pr V5 nZ
abbrev ya:AV:=.pr .zs V4
abbrev yb:AV:=.pr (.AK 4) Ani
abbrev H7:AV:=.AK 0
abbrev dY:AV:=.pr I2 Aku
abbrev yc:AV:=.pr (.AK 6) .u
abbrev AoO:AV:=.pr YA (.pr .zs gO)
abbrev AoP:AV:=.pr I2 (.pr (.mp 2) aQ)
abbrev AHd:AV:=.pr (.AK 3) gN
abbrev yd:AV:=.pr (.AK 9) .u
abbrev UH:AV:=.AK 4
abbrev AcG:AV:=.pr (.AK 10) .u
abbrev dZ:AV:=.pr I2 .u
abbrev Akt:AV:=.pr I2 qj
abbrev AcH:AV:=.pr I2 (.pr (.mp 2) nZ)
abbrev mr:=([(3,.AK 0)]:List (Nat×AV))
abbrev Ang Cq CO:=([(0,B8 Cq),(3,.AK 0),(4,dI CO)]:List (Nat×AV))
abbrev Anh Cq CO:=([(0,Bl Cq),(3,.AK 0),(4,dI CO)]:List (Nat×AV))
abbrev VZ Cq:=([.box (WV Cq)]:List Blk)
abbrev tB Cq CO DT:=([.box (LR Cq),AA CO,Ig DT]:List Blk)
abbrev mD:=([(4,dB false)]:List (Nat×AV))
abbrev nY:=([(7,.AK 0)]:List (Nat×AV))
abbrev AwN Cq:=([(2,RQ Cq),(4,Aq),(7,.zs),(11,AZ)]:List (Nat×AV))
abbrev Akq Cq CO:=([.box S3,.box (.pr (dI Cq) YA),Bj CO]:List Blk)
abbrev Aex Cq CO DT:=([(0,Tl Cq),(4,.AK 0),(5,dI CO),(6,dI DT)]:List (Nat×AV))
abbrev Acr Cq CO:=([(0,Tl Cq),(4,.AK 0),(6,dI CO),(7,.AK 1)]:List (Nat×AV))
abbrev Acs Cq:=([.box V4,.box YA,Dt Cq]:List Blk)
abbrev Acu Cq CO:=([(0,Ar Cq),(3,Aq),(5,.AK 1),(6,dI CO)]:List (Nat×AV))
abbrev AjY Cq CO DT:=([(0,B3 Cq),(3,.AK 0),(4,dI CO),(5,dI DT)]:List (Nat×AV))
abbrev Acv Cq CO:=([.box ya,.box qj,EY Cq,Ig CO]:List Blk)
abbrev T4 Cq CO:=([Cg Cq,Wx CO]:List Blk)
abbrev Acw Cq CO DT H5:=([(2,.AK 0),(9,.AK 1),(13,dB Cq),(14,dI CO),(15,dI DT),(16,dI H5)]:List (Nat×AV))
abbrev AjZ Cq CO DT H5 P8 Y2:=([(2,.AK 0),(9,.AK 1),(13,dB Cq),(14,dI CO),(15,dI DT),(16,dI H5),(17,dI P8),(18,dI Y2)]:List (Nat×AV))
abbrev xQ Cq CO DT H5 P8:=([(2,.AK 0),(9,.AK 1),(13,dB Cq),(14,dI CO),(15,dI DT),(16,dI H5),(17,dI P8)]:List (Nat×AV))
abbrev Aj0 Cq CO:=([(2,.AK 0),(7,.AK 1),(9,.AK 2),(10,dI Cq),(11,dI CO)]:List (Nat×AV))
abbrev Aj1 Cq CO DT:=([(0,Yc Cq),(2,Aq),(3,AZ),(4,dI CO),(5,.AK 2),(6,dI DT)]:List (Nat×AV))
abbrev Acx Cq CO:=([.box V4,.box nZ,AA Cq,Dt CO]:List Blk)
abbrev qf Cq CO DT H5 P8:=([(8,.zs),(15,Aq),(16,AZ),(17,Yc Cq),(18,Ie CO),(19,Gn DT),(20,.AK 2),(21,dI H5),(22,dI P8)]:List (Nat×AV))
abbrev my Cq CO DT H5 P8:=([.box AHd,.box Ani,dW Cq,EY CO,Ig DT,EY H5,Ig P8]:List Blk)
abbrev AoB Cq CO DT H5 P8 Y2 kB vz vA h9_ zB:=([.box Ani,.box (.pr (.AK 7) gO),dW Cq,.box (.pr (dI CO) (.pr (.pr (dI DT) yd) .u)),.box (.pr (dI H5) (.pr (.pr (dI P8) AcG) .u)),EY Y2,Ig kB,EY vz,Ig vA,Bj h9_,Bj zB]:List Blk)
abbrev qg Cq CO DT H5:=([(0,Gn Cq),(1,.AK 0),(2,dI CO),(3,dI DT),(10,dI H5)]:List (Nat×AV))
abbrev xS Cq CO DT:=([(0,B8 Cq),(3,.AK 0),(4,dI CO),(5,dI DT)]:List (Nat×AV))
abbrev Aj2 Cq CO DT:=([(0,.AK 0),(6,dI Cq),(7,dI CO),(8,dI DT)]:List (Nat×AV))
abbrev xT Cq CO DT:=([.box Akt,Gg Cq,Db CO,AA DT]:List Blk)
abbrev Aj3 Cq CO DT:=([(6,Aq),(10,AZ),(11,dI Cq),(12,.ptr 2 CO [] 0),(19,dI DT)]:List (Nat×AV))
abbrev Aj4 Cq CO DT H5 P8:=([.box iA,.box (.pr (BP Cq) (.pr (.AK 3) V4)),.box yb,Fl CO,Gg DT,Db H5,AA P8]:List Blk)
abbrev xU Cq CO DT H5 P8 Y2:=([.box iA,.box (.pr (BP Cq) (.pr UH V4)),.box AcF,.box (.pr (.AK 8) (.pr (dB false) (.pr S3 .u))),Fl CO,Gg DT,Db H5,AA P8,AA Y2]:List Blk)
abbrev Aj5 Cq CO DT H5:=([(6,Aq),(10,AZ),(11,dI Cq),(12,.ptr 2 CO [] 0),(19,dI DT),(20,J8),(21,dI H5)]:List (Nat×AV))
abbrev Acy Cq CO DT H5 P8:=([(0,Ar Cq),(1,Bl CO),(6,Aq),(8,AZ),(10,Dr),(11,dI DT),(12,.ptr 3 H5 [] 0),(13,dI P8)]:List (Nat×AV))
abbrev xV Cq CO DT H5 P8:=([.box iA,.box (BP Cq),.box (.pr (BP CO) ya),.box yb,Gg DT,Db H5,AA P8]:List Blk)
abbrev AoC Cq CO DT H5 P8:=([(0,Ar Cq),(1,Bl CO),(6,Aq),(7,dB true),(8,AZ),(10,Dr),(11,dI DT),(12,.ptr 3 H5 [] 0),(13,dI P8)]:List (Nat×AV))
abbrev AoD Cq CO DT H5 P8 Y2 kB:=([.box (.pr (BP Cq) (.pr .zs gN)),.box (BP CO),.box (.pr (BP DT) (.pr .zs gN)),.box AcF,AA H5,Gg P8,Db Y2,AA kB]:List Blk)
abbrev mz Cq CO DT H5:=([.box S3,.box S3,.box (.pr (dI Cq) gN),.box (.pr (dI CO) aQ),Bj DT,Bj H5]:List Blk)
abbrev Acz Cq CO DT H5:=([.box (.pr (dI Cq) YA),.box (.pr (dI CO) nZ),Bj DT,Bj H5]:List Blk)
abbrev AcA Cq CO:=([(0,.FQ [] Ag Cq),(7,dI CO)]:List (Nat×AV))
abbrev Aj6 Cq CO DT H5:=([(1,dI Cq),(3,AZ),(10,Tm CO),(11,dI DT),(12,dI H5)]:List (Nat×AV))
abbrev Aj7 Cq CO DT:=([(0,.AK 1),(8,B3 Cq),(9,dI CO),(10,dI DT)]:List (Nat×AV))
abbrev Aj8 Cq CO DT H5:=([(0,.AK 1),(6,Dr),(7,dI Cq),(8,B3 CO),(9,dI DT),(10,dI H5)]:List (Nat×AV))
abbrev Aj9 Cq CO DT H5:=([(1,dI Cq),(2,dI CO),(3,Aq),(6,AZ),(7,Dr),(15,dI DT),(16,dI H5)]:List (Nat×AV))
abbrev Aka Cq CO DT:=([.box (Jy Cq),.box S3,.box (.pr (dI CO) nZ),Bj DT]:List Blk)
abbrev Akb Cq CO DT:=([(3,.AK 0),(7,Bl Cq),(8,dI CO),(9,dI DT)]:List (Nat×AV))
abbrev Akc Cq CO DT H5:=([(3,.AK 0),(5,AZ),(6,dI Cq),(8,B3 CO),(9,dI DT),(10,dI H5)]:List (Nat×AV))
abbrev xW Cq CO DT H5:=([(0,.ptr 0 Cq [] 0),(8,Gn CO),(9,Gn DT),(10,dI H5)]:List (Nat×AV))
abbrev mA Cq CO DT H5 P8:=([.box (.pr (Ar Cq) AoM),CZ CO,Cg DT,HF H5 none,.Bg,FB P8]:List Blk)
abbrev AcB Cq CO DT H5:=([(0,.ptr 0 Cq [] 0),(8,Gn CO),(9,Gn DT),(10,dI H5),(13,LS),(14,V0)]:List (Nat×AV))
abbrev AcC Cq CO DT H5 P8 Y2 kB vz vA:=([.box (.pr (Ar Cq) dX),CZ CO,Cg DT,HF H5 none,.Bg,.box (.pr (dI P8) (.pr (dI Y2) .u)),.box (.pr (dI kB) (.pr (dI vz) .u)),FB vA]:List Blk)
abbrev xX Cq CO DT H5:=([(0,.ptr 0 Cq [] 0),(8,Gn CO),(9,Gn DT),(10,dI H5),(11,LS),(12,V0)]:List (Nat×AV))
abbrev Akd Cq CO DT H5 P8:=([(0,.ptr 0 Cq [] 0),(1,.AB [1] (.sl Af) CO),(2,.AB [1] (.sl Af) DT),(18,.AK 5),(19,dI H5),(20,dI P8)]:List (Nat×AV))
abbrev Ake Cq CO DT H5 P8 Y2:=([.box (.pr (Ar Cq) (.pr V5 (.pr (.mp 3) yc))),CZ CO,Cg DT,HF H5 none,.Bg,.row 218 (.sh [1]) Af P8,FB Y2]:List Blk)
abbrev mF Cq CO DT H5 P8:=([.box (.pr (Ar Cq) AoL),Cg CO,HF DT none,.Bg,.box V4,.box AaR,FB H5,Dt P8]:List Blk)
abbrev AcD Cq CO DT H5 P8 Y2:=([(2,Ns),(7,LS),(8,dI Cq),(68,.AK 1),(69,dI CO),(70,dI DT),(75,.AB [1] (.sl .bool) H5),(76,dI P8),(77,dI Y2)]:List (Nat×AV))
abbrev AcE Cq CO DT H5:=([.box (.pr (Ar Cq) AoP),Cg CO,HF DT none,.Bg,.box V4,FB H5]:List Blk)
abbrev Akf Cq CO DT H5:=([(3,Aq),(5,.AK 1),(6,dI Cq),(8,Dr),(12,B3 CO),(13,dI DT),(14,dI H5)]:List (Nat×AV))
abbrev gL Cq CO DT:=([.box (BP Cq),AA CO,.box (K6 DT)]:List Blk)
abbrev Akg Cq CO DT H5 P8 Y2 kB:=([(3,Aq),(5,.AK 1),(6,dI Cq),(8,Dr),(12,B3 CO),(13,dI DT),(14,dI H5),(30,B8 P8),(31,dI Y2),(32,dI kB)]:List (Nat×AV))
abbrev xY Cq CO DT:=([cb Cq none,AaP CO none,.tail 2 (.int .i64) DT]:List Blk)
abbrev Akh Cq CO DT H5 P8:=([(1,dI Cq),(2,dI CO),(7,.mp 0),(10,.mp 1),(11,.AK 2),(71,.AB [0] (.sl Ae) DT),(72,dI H5),(73,dI P8)]:List (Nat×AV))
abbrev Aki Cq CO DT H5 P8:=([(1,dI Cq),(2,dI CO),(7,.mp 0),(9,AZ),(20,Gn DT),(21,dI H5),(22,dI P8)]:List (Nat×AV))
abbrev gM Cq CO DT H5:=([.box AHb,.Bg,.Bg,J7 Cq none,.Bg,AA CO,AA DT,Db H5]:List Blk)
abbrev Akj Cq CO DT H5 P8:=([(0,.ptr 0 Cq [] 0),(10,dI CO),(11,dI DT),(12,dI H5),(13,dI P8)]:List (Nat×AV))
abbrev Akk Cq CO DT H5 P8 Y2:=([.box dY,AA Cq,AA CO,J7 DT none,Db H5,Fl P8,AaQ Y2 none]:List Blk)
abbrev qh Cq CO DT H5 P8:=([(0,.ptr 0 Cq [] 0),(2,LS),(3,V0),(4,.ptr 7 CO [] 0),(25,Bl DT),(26,dI H5),(27,dI P8)]:List (Nat×AV))
abbrev xZ Cq CO DT H5 P8 Y2 kB vz vA h9_:=([.box (.pr (Ar Cq) (.pr (Bl CO) Aks)),CZ DT,Dt H5,DU P8,HG Y2 none,.box iA,.box (.pr YA ya),.box AHc,AA kB,AA vz,J7 vA none,Db h9_]:List Blk)
abbrev Akl Cq CO DT H5 P8 Y2 kB vz vA h9_ zB:=([.box (.pr (Ar Cq) (.pr (Bl CO) Aks)),CZ DT,Dt H5,DU P8,HG Y2 none,.box AoO,.box AoO,.box AoN,AA kB,AA vz,AA vA,J7 h9_ none,Db zB]:List Blk)
abbrev Akm Cq CO DT H5 P8 Y2 kB vz vA:=([.box (.pr (Ar Cq) (.pr (Bl CO) tH)),Dt DT,Fl H5,AA P8,CZ Y2,DU kB,HG vz none,UZ vA]:List Blk)
abbrev AoE Cq CO DT H5 P8 Y2 kB:=([(0,.ptr 0 Cq [] 0),(5,.AK 7),(8,dI CO),(9,tC),(39,.AK 2),(40,dI DT),(41,dI H5),(47,.AB [2] (.sl (.int .i64)) P8),(48,dI Y2),(49,dI kB)]:List (Nat×AV))
abbrev AoF Cq CO DT H5 P8 Y2 kB vz vA h9_:=([(0,.ptr 0 Cq [] 0),(5,.AK 7),(8,dI CO),(9,tC),(12,.ptr 9 0 [] 0),(13,dI DT),(14,.ptr 10 0 [] 0),(39,.AK 2),(40,dI H5),(41,dI P8),(47,.AB [2] (.sl (.int .i64)) Y2),(48,dI kB),(49,dI vz),(61,dI vA),(62,dI h9_)]:List (Nat×AV))
abbrev Akn Cq CO DT H5 P8 Y2:=([(1,tz Cq),(5,.AK 0),(7,AZ),(10,B3 CO),(11,dI DT),(12,dI H5),(17,dI P8),(18,dI Y2)]:List (Nat×AV))
abbrev Ako Cq CO DT:=([(4,Aq),(5,AZ),(7,Dr),(8,J8),(19,dD (.sl Ak) Cq),(20,dI CO),(21,dI DT)]:List (Nat×AV))
abbrev Akp Cq:=([.box S3,.box S3,Ca Cq,.box iA]:List Blk)
abbrev AoG Cq:=([(6,Aq),(7,AZ),(9,.AK 2),(10,dB Cq),(11,.KG),(12,J8),(13,dI 1)]:List (Nat×AV))
abbrev AoH Cq:=([(6,Aq),(7,AZ),(9,B3 Cq),(11,.KG),(12,Dr),(13,dI 1),(39,dB true)]:List (Nat×AV))
abbrev Lm Cq CO:=([(0,.AK 0),(1,dI Cq),(5,dI CO)]:List (Nat×AV))
abbrev AoI Cq CO DT:=([(8,Aq),(9,AZ),(10,dI Cq),(14,Dr),(15,J8),(18,dI CO),(20,Ns),(21,LS),(22,dI DT)]:List (Nat×AV))
abbrev AoJ Cq CO DT H5 P8 Y2 kB vz vA h9_ zB AvC:=([.box (.pr (dI Cq) yc),.box (.pr (dI CO) AaR),.box (.pr (dI DT) gO),.box (.pr (dI H5) yd),.box (.pr (dI P8) AcG),.box (.pr (dI Y2) (.pr (.AK 11) .u)),Bj kB,Bj vz,Bj vA,Bj h9_,Bj zB,Bj AvC]:List Blk)
abbrev Akr Cq CO DT H5 P8 Y2 kB vz vA:=([.box (LR Cq),.box (.pr (dI CO) aQ),.box (.pr (dI DT) yc),.box (.pr (dI H5) AaR),.box (.pr (dI P8) gO),Bj Y2,Bj kB,Bj vz,Bj vA]:List Blk)
abbrev AoK Cq CO DT H5 P8 Y2 kB vz vA h9_ zB AvC:=([.box (LR Cq),.box (.pr (dI CO) gO),.box (.pr (dI DT) yd),Ye H5,Ot P8,.box AcG,.box (.pr (dI Y2) (.pr (.AK 11) .u)),.box (.pr (dI kB) (.pr (.AK 12) .u)),Bj vz,Bj vA,I1 h9_,Bj zB,Bj AvC]:List Blk)
abbrev ATy:Ty:=.int .i64
abbrev ATz:Ty:=.int .u64
abbrev ATA:Ty:=.int .u8
abbrev ATB:Ty:=.sl Af
abbrev ATC:Ty:=.sl Aa
abbrev ATD:Ty:=.sl ATy
abbrev ATE:Ty:=.sl Ab
abbrev ATF:Ty:=.sl .bool
abbrev ATG:Ty:=.sl Ah
abbrev ATH:Ty:=.sl Ae
abbrev ATI:Ty:=.sl ATz
abbrev ATJ:Ty:=.sl Ak
abbrev ATK:Ty:=.sl Ag
abbrev ATL:Ty:=.sl ATF
abbrev ATM:Ty:=.sl ATB
abbrev ATN:Ty:=.sl ATD
abbrev ASo:=A9.V
abbrev ASp:=Aa.V
abbrev ASq:=Ab.V
abbrev ASr:=Ae.V
abbrev ASs:=Af.V
abbrev ASt:=Ag.V
abbrev ASu:=Ah.V
abbrev ASv:=Ai.V
abbrev ASw:=Ak.V
abbrev ASx:=Am.V
abbrev ASy:=Ao.V
abbrev ASz:=Ap.V
abbrev ASA:=As.V
abbrev ASB:=Au.V
abbrev ASC:=List Int
abbrev ASD:=List Bool
abbrev ASE:=List Nat
abbrev ASF:=List ASp
abbrev ASG:=List ASq
abbrev ASH:=List ASr
abbrev ASI:=List ASs
abbrev ASJ:=List ASt
abbrev ASK:=List ASu
abbrev ASL:=List ASv
abbrev ASM:=List ASw
abbrev ASN:=List ASy
abbrev ASO:=List ASA
abbrev ASP:=List ASB
abbrev ASQ:=List ASC
abbrev ASR:=List ASD
abbrev ASS:=List ASF
abbrev AST:=List ASI
abbrev ASU:=List ASM
abbrev ASV:=Int×ASv
abbrev ASW:=ASp×ASF
abbrev ASX:=ASI×Unit
abbrev ASY:=ASp×Int
abbrev ASZ:=Int×ASC
abbrev AS0:=Int×ASH
abbrev AS1:=Int×Int
abbrev AS2:=Bool×ASI
abbrev AS3:=ASG×ASR×ASF
abbrev AS4:=Int×ASr
abbrev AS5:=Int×Int×Int×ASC×ASC
abbrev AS6:=ASD×ASC
abbrev AS7:=Int×ASJ
abbrev AS8:=Bool×ASR
abbrev AS9:=Int×Int×Bool×ASC
abbrev ATa:=ASC×ASL×ASH×ASC
abbrev ATb:=Int×ASI
abbrev ATc:=Int×ASK
abbrev ATd:=Int×Int×Int×Int×ASC
abbrev ATe:=ASC×ASC
abbrev ATf:=ASL×ASH×ASC
abbrev ATg:=Int×ASL×ASH×ASC
abbrev ATh:=Int×ASG×ASR×ASF
abbrev ATi:=ASI×ASI×Unit
abbrev ATj:=Int×ASF
abbrev ATk:=Int×Int×ASC
abbrev ATl:=List ASW
abbrev ATm:=ASI×ASX
abbrev ATn:=List ASV
abbrev ATo:=List ASY
abbrev ATp:=List AS0
abbrev ATq:=List AS4
abbrev ATr:=List AS1
abbrev ATs:=List ATm
abbrev ATt:=ASG×ASR×ATl×ASF
abbrev ATu:=ASC×ASC×ATn×ASH×ASN
abbrev ATv:=ASG×ASK×ATs×ASQ×ASH×ATo×ASC×ASC×ASC×ATn×ASH
abbrev ATw:=ASG×ASK×ATs×ASQ×ASH×ATo×ASC×ASC×ATn×ASH
abbrev ATx:=ASG×ASK×ATs×ASQ×ASH×ATo×ASN×ASC
def Ee:Tab:=[
 (2,⟨ATy,[],0,8,0,0,false⟩),
 (3,⟨ATy,[],0,8,0,0,false⟩),
 (4,⟨.bool,[],0,1,0,0,false⟩),
 (5,⟨ATA,[],0,1,0,0,false⟩),
 (9,⟨.str,[],0,16,0,0,false⟩),
 (22,⟨.sl Tlaws_Decl,[],75,24,0,0,false⟩),
 (23,⟨.sl Tlaws_Literal,[],78,24,0,0,false⟩),
 (24,⟨ATN,[],32,24,0,0,false⟩),
 (30,⟨Am,[0],0,24,0,0,false⟩),
 (31,⟨.sl Ao,[],102,24,0,0,false⟩),
 (32,⟨ATD,[],2,24,0,0,false⟩),
 (34,⟨OT,[0,1,2],0,72,0,0,false⟩),
 (37,⟨ATE,[],105,24,0,0,false⟩),
 (39,⟨ATG,[],87,24,0,0,false⟩),
 (51,⟨.sl YN,[],186,24,0,0,false⟩),
 (53,⟨Tlaws_Term,[0],0,24,0,0,false⟩),
 (55,⟨ATI,[],199,24,0,0,false⟩),
 (57,⟨Ai,[0,1],0,32,0,0,false⟩),
 (60,⟨ATK,[],182,24,0,0,false⟩),
 (62,⟨Ap,[0],0,24,0,0,false⟩),
 (75,⟨Tlaws_Decl,[0,1],0,24,0,0,false⟩),
 (78,⟨Tlaws_Literal,[0,1,2,3],0,64,0,0,false⟩),
 (82,⟨ATH,[],151,24,0,0,false⟩),
 (87,⟨Ah,[0,1,2,3],0,64,0,0,false⟩),
 (88,⟨.sl As,[],96,24,0,0,false⟩),
 (94,⟨A9,[0,1],0,40,0,0,false⟩),
 (96,⟨As,[0,3,6],0,88,0,0,false⟩),
 (97,⟨.sl Ai,[],57,24,0,0,false⟩),
 (98,⟨.sl XF,[],164,24,0,0,false⟩),
 (100,⟨ug,[0,1,2],0,72,0,0,false⟩),
 (102,⟨Ao,[0,1,2],0,64,0,0,false⟩),
 (105,⟨Ab,[0,1],0,24,0,0,false⟩),
 (122,⟨ATB,[],218,24,0,0,false⟩),
 (125,⟨.sl ATA,[],5,24,0,0,false⟩),
 (137,⟨.sl ATJ,[],207,24,0,0,false⟩),
 (146,⟨ATL,[],154,24,0,0,false⟩),
 (151,⟨Ae,[0,1,2],0,24,0,0,false⟩),
 (153,⟨ATC,[],198,24,0,0,false⟩),
 (154,⟨ATF,[],4,24,0,0,false⟩),
 (156,⟨Au,[0,1],0,48,0,0,false⟩),
 (164,⟨XF,[0,1,2],0,24,0,0,false⟩),
 (168,⟨.sl (.AG ATB (.AG ATB .unit)),[],222,24,0,0,false⟩),
 (172,⟨.R4 1,[],2,8,0,225,false⟩),
 (174,⟨ud,[0,1,2,3,4,5],0,128,0,0,false⟩),
 (182,⟨Ag,[0,1,2,3,4,6],0,88,0,0,false⟩),
 (184,⟨js,[0,1],0,32,0,0,false⟩),
 (186,⟨YN,[0,1,2,3,4,6],0,88,0,0,false⟩),
 (187,⟨ATM,[],122,24,0,0,false⟩),
 (192,⟨.sl ATC,[],153,24,0,0,false⟩),
 (198,⟨Aa,[0,1],0,16,0,0,false⟩),
 (199,⟨ATz,[],0,8,0,0,false⟩),
 (200,⟨ATz,[],0,8,0,0,false⟩),
 (207,⟨ATJ,[],210,24,0,0,false⟩),
 (210,⟨Ak,[0,1,2],0,24,0,0,false⟩),
 (216,⟨.sl Au,[],156,24,0,0,false⟩),
 (218,⟨Af,[0,1,2,3],0,56,0,0,false⟩),
 (222,⟨.AG ATB (.AG ATB .unit),[],122,48,2,0,false⟩),
 (225,⟨.AG ATy (.AG ATy .unit),[],2,16,2,0,false⟩),
 (226,⟨.R4 1,[],57,8,0,2,false⟩),
 (228,⟨qB,[0,1,2,3],0,80,0,0,false⟩),
 (231,⟨.R4 1,[],3,8,0,2,false⟩),
 (243,⟨.R4 1,[],244,8,0,225,false⟩),
 (244,⟨.sl (.AG ATy (.AG ATy .unit)),[],225,24,0,0,false⟩),
 (246,⟨qA,[0,1,2,3],0,80,0,0,false⟩),
 (249,⟨.sl jr,[],252,24,0,0,false⟩),
 (252,⟨jr,[0,1,2],0,24,0,0,false⟩),
 (257,⟨Ln,[0,5],0,64,0,0,false⟩),
 (260,⟨.R4 1,[],98,8,0,2,false⟩),
 (261,⟨.R4 1,[],164,8,0,2,false⟩)]
theorem AHa:gG prog Ee=true:=by kernel_rfl
theorem mixed:prog.follows .mixedOrders=true:=by kernel_rfl
abbrev eN(l:List (Nat×Va.Callee))(fi:FI):GX:=⟨Ee,O8 l,fi⟩
theorem pk{l fi}(h:AeT prog l):Jz prog ⟨Ee,O8 l,fi⟩:=⟨⟨AHa,Ahs h⟩,mixed⟩
noncomputable section
abbrev E0:=eN [] {}
def Kc(a:ASq)(b:Int):Int:=(bif decide ((wI (b-(a.1.size:Int)))<0)then(-1)else(wI (b-(a.1.size:Int))))
theorem U0 R a b K:TT E0 f37 R [dV a,dI b] [] K=K (dI (Kc a b)) []:=by
 refine .trans (b:=
 bif decide ((wI (b-(a.1.size:Int)))<0)then
 K (dI (-1)) []
 else
 K (dI (wI (b-(a.1.size:Int)))) []) (by kernel_rfl) ?_
 unfold Kc;cases (decide ((wI (b-(a.1.size:Int)))<0));rfl;rfl
def c37:=Ck [.d Ab,.d ATy] [⟨[.AB [] Ab,.AB [] ATy],[],Int,λp=>some (Kc p.1.1 p.1.2.1),λr=>(dI r,[])⟩]
theorem Alm:An prog 37 c37:=Av ⟨⟨E0,pk trivial,λ_ _ _=>U0 ..⟩,trivial⟩
abbrev E1:=eN [(37,c37)] {Ba:=[(5,[0,1,5])],BN:=[(5,[1,4])]}
def AIH a (z_:Int×Int):=sT 27 [(0,Ar a),(1,dI z_.1),(5,dI z_.2)] []
def AID(a:ASG):=Sum.elim (λ(b:Int)=>xR 27 [(1,dI b),(4,dI (-1))] []) (λ(c:Int)=>xE 0 27 [(1,dI c)] [])
def Wj(a:ASG)(d e:Int):ATP (AS1⊕(Int⊕Int)):=
 bif decide (e<(a.length:Int))then
 if 0<=e/\e<a.length then
 bif decide ((Kc (a.getD e.toNat Ab.zero) d)<0)then
 some (.inr (.inl (Kc (a.getD e.toNat Ab.zero) d)))
 else
 some (.inl (Kc (a.getD e.toNat Ab.zero) d,wI (e+1)))
 else none
 else
 some (.inr (.inr d))
def Md a (z_:Int×Int):=Wj a z_.1 z_.2
def Yu a d e:=fix (Md a) (d,e)
theorem AIK a:A8 E1 0 5 (code f6) 122 (AIH a) (Md a) (AID a):=by
 intro _;simp only[Md,Wj,ASm];kernel_rfl
def UR(a:ASG)(g:Int):ATP Int:=
 bif decide ((wI (g-(a.length:Int)))<0)then
 some (-1)
 else
 (Yu a (wI (g-(a.length:Int))) 0).bind (Sum.elim (λb=>some (-1)) (λc=>some c))
def c6:=Ck [.d ATE,.d ATy] [⟨[.AB [] ATE,.AB [] ATy],[],Int,λp=>UR p.1.1 p.1.2.1,λr=>(dI r,[])⟩]
theorem Avs:An prog 6 c6:=Av (fn:=f6) ⟨⟨E1,pk ⟨Alm,trivial⟩,λ_ R K=>by
 simp(disch:=refine id ?_;kernel_rfl) only[UR,ASn,Yu,AJ (AIK _) (K:=A2 E1 f6 0 R K)];kernel_rfl⟩,trivial⟩
abbrev E2:=eN [] {}
def CW(a:ASC)(b:Int):Int:=(bif decide ((wI (b-(a.length:Int)))<0)then(-1)else(wI (b-(a.length:Int))))
theorem U2 R a b K:TT E2 f170 R [Tm a,dI b] [] K=K (dI (CW a b)) []:=by
 refine .trans (b:=
 bif decide ((wI (b-(a.length:Int)))<0)then
 K (dI (-1)) []
 else
 K (dI (wI (b-(a.length:Int)))) []) (by kernel_rfl) ?_
 unfold CW;cases (decide ((wI (b-(a.length:Int)))<0));rfl;rfl
def AFe:=Ck [.d ATI,.d ATy] [⟨[.AB [] ATI,.AB [] ATy],[],Int,λp=>some (CW p.1.1 p.1.2.1),λr=>(dI r,[])⟩]
theorem AgL:An prog 170 AFe:=Av ⟨⟨E2,pk trivial,λ_ _ _=>U2 ..⟩,trivial⟩
abbrev E3:=eN [(170,AFe)] {}
def DK(a:ASv)(b:Int):Int:=(bif decide ((CW a.2.1 b)<0)then(-1)else(CW a.2.1 b))
theorem U3 R a b K:TT E3 f147 R [Jy a,dI b] [] K=K (dI (DK a b)) []:=by
 refine .trans (b:=
 bif decide ((CW a.2.1 b)<0)then
 K (dI (-1)) []
 else
 K (dI (CW a.2.1 b)) []) (by kernel_rfl) ?_
 unfold DK;cases (decide ((CW a.2.1 b)<0));rfl;rfl
def AEW:=Ck [.d Ai,.d ATy] [⟨[.AB [] Ai,.AB [] ATy],[],Int,λp=>some (DK p.1.1 p.1.2.1),λr=>(dI r,[])⟩]
theorem Agt:An prog 147 AEW:=Av ⟨⟨E3,pk ⟨AgL,trivial⟩,λ_ _ _=>U3 ..⟩,trivial⟩
abbrev E4:=eN [] {}
def Dq(a:ASC)(b:Int):Int:=(bif decide ((wI (b-(a.length:Int)))<0)then(-1)else(wI (b-(a.length:Int))))
theorem U4 R a b K:TT E4 f82 R [B8 a,dI b] [] K=K (dI (Dq a b)) []:=by
 refine .trans (b:=
 bif decide ((wI (b-(a.length:Int)))<0)then
 K (dI (-1)) []
 else
 K (dI (wI (b-(a.length:Int)))) []) (by kernel_rfl) ?_
 unfold Dq;cases (decide ((wI (b-(a.length:Int)))<0));rfl;rfl
def c82:=Ck [.d ATD,.d ATy] [⟨[.AB [] ATD,.AB [] ATy],[],Int,λp=>some (Dq p.1.1 p.1.2.1),λr=>(dI r,[])⟩]
theorem AlO:An prog 82 c82:=Av ⟨⟨E4,pk trivial,λ_ _ _=>U4 ..⟩,trivial⟩
abbrev E5:=eN [(82,c82),(147,AEW)] {}
def IH(a:ASt)(b:Int):Int:=(bif decide ((DK a.2.2.2.2.1 b)<0)then(-1)else(bif decide ((Dq a.2.2.2.2.2.1 (DK a.2.2.2.2.1 b))<0)then(-1)else(Dq a.2.2.2.2.2.1 (DK a.2.2.2.2.1 b))))
theorem U5 R a b K:TT E5 f108 R [WV a,dI b] [] K=K (dI (IH a b)) []:=by
 refine .trans (b:=
 bif decide ((DK a.2.2.2.2.1 b)<0)then
 K (dI (-1)) []
 else
 bif decide ((Dq a.2.2.2.2.2.1 (DK a.2.2.2.2.1 b))<0)then
 K (dI (-1)) []
 else
 K (dI (Dq a.2.2.2.2.2.1 (DK a.2.2.2.2.1 b))) []) (by kernel_rfl) ?_
 unfold IH;cases (decide ((DK a.2.2.2.2.1 b)<0));cases (decide ((Dq a.2.2.2.2.2.1 (DK a.2.2.2.2.1 b))<0));rfl;rfl;rfl
def AEy:=Ck [.d Ag,.d ATy] [⟨[.AB [] Ag,.AB [] ATy],[],Int,λp=>some (IH p.1.1 p.1.2.1),λr=>(dI r,[])⟩]
theorem Af4:An prog 108 AEy:=Av ⟨⟨E5,pk ⟨AlO,Agt,trivial⟩,λ_ _ _=>U5 ..⟩,trivial⟩
abbrev E6:=eN [(108,AEy)] {Ba:=[(5,[0,1,5])],BN:=[(5,[1,4])]}
def AII a (z_:Int×Int):=sT 27 [(0,jb a),(1,dI z_.1),(5,dI z_.2)] []
def AIE(a:ASJ):=Sum.elim (λ(b:Int)=>xR 27 [(1,dI b),(4,dI (-1))] []) (λ(c:Int)=>xE 0 27 [(1,dI c)] [])
def Vu(a:ASJ)(d e:Int):ATP (AS1⊕(Int⊕Int)):=
 bif decide (e<(a.length:Int))then
 if 0<=e/\e<a.length then
 bif decide ((IH (a.getD e.toNat Ag.zero) d)<0)then
 some (.inr (.inl (IH (a.getD e.toNat Ag.zero) d)))
 else
 some (.inl (IH (a.getD e.toNat Ag.zero) d,wI (e+1)))
 else none
 else
 some (.inr (.inr d))
def KD a (z_:Int×Int):=Vu a z_.1 z_.2
def Xn a d e:=fix (KD a) (d,e)
theorem AIL a:A8 E6 0 5 (code f62) 122 (AII a) (KD a) (AIE a):=by
 intro _;simp only[KD,Vu,ASm];kernel_rfl
def Tf(a:ASJ)(g:Int):ATP Int:=
 bif decide ((wI (g-(a.length:Int)))<0)then
 some (-1)
 else
 (Xn a (wI (g-(a.length:Int))) 0).bind (Sum.elim (λb=>some (-1)) (λc=>some c))
def c62:=Ck [.d ATK,.d ATy] [⟨[.AB [] ATK,.AB [] ATy],[],Int,λp=>Tf p.1.1 p.1.2.1,λr=>(dI r,[])⟩]
theorem AlA:An prog 62 c62:=Av (fn:=f62) ⟨⟨E6,pk ⟨Af4,trivial⟩,λ_ R K=>by
 simp(disch:=refine id ?_;kernel_rfl) only[Tf,ASn,Xn,AJ (AIL _) (K:=A2 E6 f62 0 R K)];kernel_rfl⟩,trivial⟩
abbrev E7:=eN [(62,c62)] {}
def Qz(a:ASz)(b:Int):ATP Int:=
 (Tf a.1 b).bind λc=>bif decide (c<0)then
 some (-1)
 else
 some c
def c23:=Ck [.d Ap,.d ATy] [⟨[.AB [] Ap,.AB [] ATy],[],Int,λp=>Qz p.1.1 p.1.2.1,λr=>(dI r,[])⟩]
theorem Aa9:An prog 23 c23:=Av (fn:=f23) ⟨⟨E7,pk ⟨AlA,trivial⟩,λ_ R K=>by
 simp only[Qz,ASn];kernel_rfl⟩,trivial⟩
end
noncomputable section
abbrev E8:=eN [(23,c23)] {}
def Rc(a:ASu)(b:Int):ATP Int:=
 (Qz a.2.2.1 b).bind λc=>bif decide (c<0)then
 some (-1)
 else
 (Qz a.2.2.2.1 c).bind λd=>bif decide (d<0)then
 some (-1)
 else
 some d
def c38:=Ck [.d Ah,.d ATy] [⟨[.AB [] Ah,.AB [] ATy],[],Int,λp=>Rc p.1.1 p.1.2.1,λr=>(dI r,[])⟩]
theorem Aln:An prog 38 c38:=Av (fn:=f38) ⟨⟨E8,pk ⟨Aa9,trivial⟩,λ_ R K=>by
 simp only[Rc,ASn];kernel_rfl⟩,trivial⟩
abbrev E9:=eN [(38,c38)] {Ba:=[(5,[0,1,5])],BN:=[(5,[1,4])]}
def AIJ a (z_:Int×Int):=sT 27 [(0,Bl a),(1,dI z_.1),(5,dI z_.2)] []
def AIF(a:ASK):=Sum.elim (λ(b:Int)=>xR 27 [(1,dI b),(4,dI (-1))] []) (λ(c:Int)=>xE 0 27 [(1,dI c)] [])
def TM(a:ASK)(d e:Int):ATP (AS1⊕(Int⊕Int)):=
 bif decide (e<(a.length:Int))then
 if 0<=e/\e<a.length then
 (Rc (a.getD e.toNat Ah.zero) d).bind λg=>bif decide (g<0)then
 some (.inr (.inl g))
 else
 some (.inl (g,wI (e+1)))
 else none
 else
 some (.inr (.inr d))
def Ng a (z_:Int×Int):=TM a z_.1 z_.2
def Vt a d e:=fix (Ng a) (d,e)
theorem AIM a:A8 E9 0 5 (code f7) 122 (AIJ a) (Ng a) (AIF a):=by
 intro _;simp only[Ng,TM,ASm];kernel_rfl
def Pz(a:ASK)(i:Int):ATP Int:=
 bif decide ((wI (i-(a.length:Int)))<0)then
 some (-1)
 else
 (Vt a (wI (i-(a.length:Int))) 0).bind (Sum.elim (λb=>some (-1)) (λc=>some c))
def c7:=Ck [.d ATG,.d ATy] [⟨[.AB [] ATG,.AB [] ATy],[],Int,λp=>Pz p.1.1 p.1.2.1,λr=>(dI r,[])⟩]
theorem Avt:An prog 7 c7:=Av (fn:=f7) ⟨⟨E9,pk ⟨Aln,trivial⟩,λ_ R K=>by
 simp(disch:=refine id ?_;kernel_rfl) only[Pz,ASn,Vt,AJ (AIM _) (K:=A2 E9 f7 0 R K)];kernel_rfl⟩,trivial⟩
abbrev E10:=eN [] {}
def Wl(a:ASq):(ByteArray×Int):=(a.1,a.2.1)
def c47:=Ck [.d Ab] [⟨[.AB [] Ab],[],ByteArray×Int,λp=>some (Wl p.1.1),λr=>(.pr (HZ r.1) (.pr (dI r.2) .u),[])⟩]
theorem Als:An prog 47 c47:=Av (fn:=f47) ⟨⟨E10,pk trivial,λ_ _ _=>by kernel_rfl⟩,trivial⟩
abbrev E11:=eN [(47,c47)] {Ba:=[(3,[0,3,4])],BN:=[(3,[3])]}
def AzH a (z_:Int×ASG):=sT 23 [(0,Ar a),(3,.AK 0),(4,dI z_.1)] [Ye z_.2]
def AxA(a:ASG):=λ(b:ASG)=>xE 0 23 mr [Ye b]
def Wm(a:ASG)(c:Int)(d:ASG):ATP ((Int×ASG)⊕ASG):=
 bif decide (c<(a.length:Int))then
 if 0<=c/\c<a.length then
 if 0<=c/\c<d.length then
 some (.inl (wI (c+1),d.set c.toNat ((Wl (a.getD c.toNat Ab.zero)).1,(Wl (a.getD c.toNat Ab.zero)).2,())))
 else none
 else none
 else
 some (.inr d)
def Me a (z_:Int×ASG):=Wm a z_.1 z_.2
def Uj a c d:=fix (Me a) (c,d)
theorem ABO a:A8 E11 0 3 (code f10) 58 (AzH a) (Me a) (AxA a):=by
 intro _;simp only[Me,Wm,ASm];kernel_rfl
def Bz(a:ASG):ATP ASG:=
 if Ty.row Ab=true/\(0:Int)<=(a.length:Int)/\(a.length:Int)<=(a.length:Int)/\((24:Nat):Int)*(a.length:Int)<=(281474976710656:Int)/\(a.length:Int)<=(9223372036854775807:Int)then
 (Uj a 0 (List.replicate (a.length:Int).toNat ((⟨#[]⟩:ByteArray),0,()))).bind λb=>some b
 else none
def gU:=Ck [.d ATE] [⟨[.AB [] ATE],[],ASG,λp=>Bz p.1.1,λr=>(.AK 0,[Ye r])⟩]
theorem Ak4:An prog 10 gU:=Av (fn:=f10) ⟨⟨E11,pk ⟨Als,trivial⟩,λ_ R K=>by
 simp(disch:=refine id ?_;kernel_rfl) only[Bz,ASn,Uj,AJ (ABO _) (K:=A2 E11 f10 0 R K)];kernel_rfl⟩,trivial⟩
abbrev E12:=eN [] {Ba:=[(3,[0,3,4])],BN:=[(3,[3])]}
def AzI a (z_:Int×ASC):=sT 22 [(0,Tm a),(3,.AK 0),(4,dI z_.1)] [Bj z_.2]
def AxB(a:ASC):=λ(b:ASC)=>xE 0 22 mr [Bj b]
def UF(a:ASC)(c:Int)(d:ASC):ATP (ASZ⊕ASC):=
 bif decide (c<(a.length:Int))then
 if 0<=c/\c<a.length then
 if 0<=c/\c<d.length then
 some (.inl (wI (c+1),d.set c.toNat (a.getD c.toNat ATz.zero)))
 else none
 else none
 else
 some (.inr d)
def Ju a (z_:Int×ASC):=UF a z_.1 z_.2
def Rf a c d:=fix (Ju a) (c,d)
theorem ABP a:A8 E12 0 3 (code f173) 58 (AzI a) (Ju a) (AxB a):=by
 intro _;simp only[Ju,UF,ASm];kernel_rfl
def JR(a:ASC):ATP ASC:=
 if Ty.row ATz=true/\(0:Int)<=(a.length:Int)/\(a.length:Int)<=(a.length:Int)/\((8:Nat):Int)*(a.length:Int)<=(281474976710656:Int)/\(a.length:Int)<=(9223372036854775807:Int)then
 (Rf a 0 (List.replicate (a.length:Int).toNat 0)).bind λb=>some b
 else none
def AFh:=Ck [.d ATI] [⟨[.AB [] ATI],[],ASC,λp=>JR p.1.1,λr=>(.AK 0,[Bj r])⟩]
theorem AgO:An prog 173 AFh:=Av (fn:=f173) ⟨⟨E12,pk trivial,λ_ R K=>by
 simp(disch:=refine id ?_;kernel_rfl) only[JR,ASn,Rf,AJ (ABP _) (K:=A2 E12 f173 0 R K)];kernel_rfl⟩,trivial⟩
abbrev E13:=eN [(173,AFh)] {}
def Wk(a:ASv):ATP ASZ:=
 (JR a.2.1).bind λb=>some (a.1,b)
def AEY:=Ck [.d Ai] [⟨[.AB [] Ai],[],ASZ,λp=>Wk p.1.1,λr=>(.pr (dI r.1) Pj,[Bj r.2])⟩]
theorem Agv:An prog 150 AEY:=Av (fn:=f150) ⟨⟨E13,pk ⟨AgO,trivial⟩,λ_ R K=>by
 simp only[Wk,ASn];kernel_rfl⟩,trivial⟩
abbrev E14:=eN [] {Ba:=[(3,[0,3,4])],BN:=[(3,[3])]}
def AzJ a (z_:Int×ASC):=sT 22 (Ang a z_.1) [AA z_.2]
def AxC(a:ASC):=λ(b:ASC)=>xE 0 22 mr [AA b]
def Vv(a:ASC)(c:Int)(d:ASC):ATP (ASZ⊕ASC):=
 bif decide (c<(a.length:Int))then
 if 0<=c/\c<a.length then
 if 0<=c/\c<d.length then
 some (.inl (wI (c+1),d.set c.toNat (a.getD c.toNat ATy.zero)))
 else none
 else none
 else
 some (.inr d)
def KE a (z_:Int×ASC):=Vv a z_.1 z_.2
def Sy a c d:=fix (KE a) (c,d)
theorem ABQ a:A8 E14 0 3 (code f97) 58 (AzJ a) (KE a) (AxC a):=by
 intro _;simp only[KE,Vv,ASm];kernel_rfl
def Lw(a:ASC):ATP ASC:=
 if Ty.row ATy=true/\(0:Int)<=(a.length:Int)/\(a.length:Int)<=(a.length:Int)/\((8:Nat):Int)*(a.length:Int)<=(281474976710656:Int)/\(a.length:Int)<=(9223372036854775807:Int)then
 (Sy a 0 (List.replicate (a.length:Int).toNat 0)).bind λb=>some b
 else none
def c97:=Ck [.d ATD] [⟨[.AB [] ATD],[],ASC,λp=>Lw p.1.1,λr=>(.AK 0,[AA r])⟩]
theorem AlX:An prog 97 c97:=Av (fn:=f97) ⟨⟨E14,pk trivial,λ_ R K=>by
 simp(disch:=refine id ?_;kernel_rfl) only[Lw,ASn,Sy,AJ (ABQ _) (K:=A2 E14 f97 0 R K)];kernel_rfl⟩,trivial⟩
abbrev E15:=eN [(97,c97),(150,AEY)] {}
def Re(a:ASt):ATP (Int×Int×Int×Int×Int×ASC×ASC):=
 (Wk a.2.2.2.2.1).bind λb=>(Lw a.2.2.2.2.2.1).bind λc=>some (a.1,a.2.1,a.2.2.1,a.2.2.2.1,b.1,b.2,c)
def AED:=Ck [.d Ag] [⟨[.AB [] Ag],[],Int×Int×Int×Int×Int×ASC×ASC,λp=>Re p.1.1,λr=>(.pr (dI r.1) (.pr (dI r.2.1) (.pr (dI r.2.2.1) (.pr (dI r.2.2.2.1) (.pr (.pr (dI r.2.2.2.2.1) Pj) dZ)))),[Bj r.2.2.2.2.2.1,AA r.2.2.2.2.2.2])⟩]
theorem Af9:An prog 116 AED:=Av (fn:=f116) ⟨⟨E15,pk ⟨AlX,Agv,trivial⟩,λ_ R K=>by
 simp only[Re,ASn];kernel_rfl⟩,trivial⟩
end
end Go.Proofs.X
