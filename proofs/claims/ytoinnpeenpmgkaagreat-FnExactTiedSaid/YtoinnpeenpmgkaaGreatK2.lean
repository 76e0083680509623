import Derived.WalkKit
import Derived.ProofKit
import Derived.OpenShut
import Derived.JoinedCond
import Derived.ReadAgain
import Derived.Shelf.SortG.Plain
import Derived.Shelf.SortG.SortNone
import Derived.Shelf.SlicesG.CompactI
import Derived.KernelRfl
import Derived.Test.YtoinnpeenpmgkaaGreatShelf
import Derived.Test.YtoinnpeenpmgkaaGreatProg
import Derived.Test.YtoinnpeenpmgkaaGreatK1
set_option linter.unusedVariables false
set_option linter.unusedSimpArgs false
namespace Go.Va
def Yw(P:Program):Ty->TypeId->Bool
 |.int k,t=>match P.underlying t with |some (.int k')=>k==k' |_=>false
 |.bool,t=>match P.underlying t with |some .bool=>true |_=>false
 |.str,t=>match P.underlying t with |some .string=>true |_=>false
 |.sl u,t=>match P.underlying t with |some (.slice e)=>P.cellsOf e==u.size&&u.size !=0&&Yw P u e |_=>false
 |.AH a b,t=>match P.underlying t with
  |some (.struct fs)=>P.cellsOf t==a.size+b.size&&(match fs.toList with |f::r=>f.offset==0&&P.cellsOf f.type==a.size&&Yw P a f.type&&my P b a.size r |[]=>false)
  |_=>false
 |_,_=>false
where my (P:Program):Ty->Nat->ATU Field->Bool
 |.AH a b,o,f::r=>f.offset==o&&P.cellsOf f.type==a.size&&Yw P a f.type&&my P b (o+a.size) r
 |.unit,_,[]=>true
 |_,_,_=>false
def Ty.Wf:(t:Ty)->t.V->Prop
 |.int k,n=>k.min<=n/\n<=k.max
 |.str,s=>s.size<=maxLen
 |.AH a b,x=>a.Wf x.1/\b.Wf x.2
 |.sl t,xs=>xs.length<=maxLen/\∀x∈xs,t.Wf x
 |_,_=>True
section
variable {P:Program} {H:Type} {enc:TypeId×Value->H} {w:World} {base:Nat} {sp:Nat->Bool} {held:Bool}
def yq(w:World)(b:Nat):Prop:=b<w.heap.size
theorem VZ{α β:Type}{f:α->ATV β}{x:α}{l:ATU α}{r:ATU β}(h:(x::l).mapM f=some r):∃y ys,f x=some y/\l.mapM f=some ys/\r=y::ys:=by
 cases hx:f x with
 |none=>grind
 |some y =>
  cases hl:l.mapM f with
  |none=>grind
  |some ys=>simp[hx,hl]at h;exact⟨y,ys,rfl,rfl,h.symm⟩
theorem ou(a:Addr)(k:Nat):(a.add k).block=a.block/\(a.add k).off=a.off+k:=by
 unfold Addr.add
 grind
theorem y7{a:Addr}{k:Nat}{v:Value}(h:w.cell? (a.add k)=some v):w.cell? ⟨a.block,a.off+k,none⟩=some v:=by
 unfold Addr.add at h;split at h
 ·rename_i hk;subst hk;cases a with
  |mk b o sp =>
   cases sp with
   |none=>grind
   |some q =>
    simp only[World.cell?,AQ2]at h;split at h<;>cases h
 ·grind
theorem u9{u:Ty}{s:Nat}(hs:s=u.size){a:Addr}{F:ATU Value->ATV (DataW H×ATU MemPlace)}(ih:∀cs y,F cs=some y->∃x:u.V,Ii w (yq w) u x cs/\u.Wf x) :
    ∀(n i:Nat) (ys:ATU (DataW H×ATU MemPlace)),(List.range' i n).mapM (λi=>(w.cells? base (a.add (i*s)) s).bind F)=some ys ->
     ∃(xs:ATU u.V) (ds:ATU Value),xs.length=n/\CL (Ii w (yq w) u) xs ds/\(∀x∈xs,u.Wf x)/\∀j v,ds[j]?=some v->w.cell? ⟨a.block,a.off+i*s+j,none⟩=some v
 |0,i,ys,_=>⟨[],[],rfl,rfl,λ_ h=>by grind,λj v h=>by grind⟩
 |n+1,i,ys,h=>by
  obtain⟨y,ys',h1,h2,_⟩:=VZ h;obtain⟨c,hc,hF⟩:=Option.bind_eq_some_iff.1 h1;obtain⟨x,hx,hw⟩:=ih c y hF;obtain⟨_,OO,DW⟩:=World.cells?_some hc;obtain⟨xs,ds,hl,hr,hwf,hd⟩:=u9 hs ih n (i+1) ys' h2;refine⟨x::xs,c++ds,by grind,⟨c,ds,rfl,hx,hr⟩,λz hz=>by
   grind,λj v hj=>?_⟩
  rw[AQF]at hj;split at hj
  ·rw[<-DW j (by omega)]at hj;have:=y7 hj;rw[(ou _ _).1,(ou _ _).2]at this;exact this
  grind
theorem Amx:∀(ty:Ty),(∀(t:TypeId) (Si:Nat) (cs:ATU Value) (y:DataW H×ATU MemPlace),Yw P ty t=true->DataW.trod enc P w base sp held Si t cs=some y->∃x:ty.V,Ii w (yq w) ty x cs/\ty.Wf x) /\
    ∀(o Si:Nat) (fs:ATU Field) (cs:ATU Value) (ys:ATU (DataW H×ATU MemPlace)),Yw.my P ty o fs=true->fs.mapM (λf=>DataW.trod enc P w base sp held Si f.type ((cs.drop f.offset).take (P.cellsOf f.type)))=some ys->cs.length=o+ty.size ->
     ∃x:ty.V,Ii w (yq w) ty x (cs.drop o)/\ty.Wf x:=by
 intro ty;induction ty with
 |int k =>
  refine⟨λt Si cs y hm h=>?_,λo Si fs cs ys hm=>by simp[Yw.my]at hm⟩;simp only[Yw]at hm;split at hm
  ·rename_i k' hu;have:k=k':=by simpa using hm
   subst this;cases Si with
   |zero=>simp[DataW.trod]at h
   |succ n =>
    simp only[DataW.trod,hu]at h;split at h<;>try (rename_i he;cases he;done)
    all_goals try (cases h;done)
    all_goals try (rename_i he _;cases he;done)
    rename_i k1 k2 n2 he;injection he with he;injection he with he;subst he;split at h
    ·rename_i hc;obtain⟨hk,hwf⟩:=hc;subst hk;simp only[Lit.wf,AQm,ARv]at hwf;exact⟨n2,rfl,hwf⟩
    ·cases h
  ·cases hm
 |bool =>
  refine⟨λt Si cs y hm h=>?_,λo Si fs cs ys hm=>by simp[Yw.my]at hm⟩;simp only[Yw]at hm;split at hm
  ·rename_i hu;cases Si with
   |zero=>simp[DataW.trod]at h
   |succ n =>
    simp only[DataW.trod,hu]at h;split at h<;>try (rename_i he;cases he;done)
    all_goals try (cases h;done)
    all_goals try (rename_i he _;cases he;done)
    rename_i b he;exact⟨b,rfl,trivial⟩
  ·cases hm
 |str =>
  refine⟨λt Si cs y hm h=>?_,λo Si fs cs ys hm=>by simp[Yw.my]at hm⟩;simp only[Yw]at hm;split at hm
  ·rename_i hu;cases Si with
   |zero=>simp[DataW.trod]at h
   |succ n =>
    simp only[DataW.trod,hu]at h;split at h<;>try (rename_i he;cases he;done)
    all_goals try (cases h;done)
    all_goals try (rename_i he _;cases he;done)
    rename_i s he;split at h
    ·rename_i hc;exact⟨s,rfl,hc⟩
    ·cases h
  ·cases hm
 |unit =>
  refine⟨λt Si cs y hm=>by simp[Yw]at hm,λo Si fs cs ys hm h hl=>?_⟩;refine⟨(),?_,trivial⟩;show cs.drop o=[];rw[List.drop_eq_nil_iff];simp only[Ty.size]at hl;omega
 |Sp z=>exact⟨λt Si cs y hm=>by simp[Yw]at hm,λo Si fs cs ys hm=>by simp[Yw.my]at hm⟩
 |sl u ih =>
  refine⟨λt Si cs y hm h=>?_,λo Si fs cs ys hm=>by simp[Yw.my]at hm⟩;simp only[Yw]at hm;split at hm
  ·rename_i e hu;simp only[AQm,ARm,ARY]at hm;obtain⟨⟨NC,BX⟩,hm⟩:=hm;cases Si with
   |zero=>simp[DataW.trod]at h
   |succ n =>
    simp only[DataW.trod,hu]at h;split at h<;>try (rename_i he;cases he;done)
    all_goals try (cases h;done)
    all_goals try (rename_i he _;cases he;done)
    all_goals try (rename_i he _ _;cases he;done)
    ·exact⟨[],⟨none,0,[],rfl,AQl _,rfl,.inl rfl⟩,AQ1 _,λx hx=>by(cases hx)⟩
    ·rename_i e' a len cap he;injection he with he;injection he with he;subst he;split at h
     ·rename_i hc;obtain⟨elems,Ws,_⟩:=Option.bind_eq_some_iff.1 h;rw[List.range_eq_range']at Ws;obtain⟨xs,ds,hxl,hr,hwf,hd⟩:=u9 (u:=u) NC (λcs y hy=>ih.1 e n cs y hm hy) len 0 elems Ws;subst hxl;refine⟨xs,⟨some a,cap,ds,rfl,hc.2.1,hr,?_⟩,AQJ hc.2.1 hc.2.2,hwf⟩;cases xs with
      |nil=>exact .inl rfl
      |cons x xs =>
       refine .inr ?_;rw[ARe,List.range'_succ]at Ws;obtain⟨y1,_,h1,_,_⟩:=VZ Ws;obtain⟨c,QS,_⟩:=Option.bind_eq_some_iff.1 h1;obtain⟨_,OO,DW⟩:=World.cells?_some QS;have Hs:=DW 0 (by omega);have Zx:a.spot=none/\yq w a.block:=by
        have Y1:∃v,c[0]?=some v:=⟨_,ARo (by omega)⟩;obtain⟨v,hv⟩:=Y1;rw[hv]at Hs;have Hs:w.cell? a=some v:=by simpa [Addr.add]using Hs
        refine⟨?_,World.block_lt_of_cell? w a Hs⟩;cases Zx:a.spot with
        |none=>rfl
        |some q =>
         unfold World.cell? at Hs;rw[Zx]at Hs;split at Hs
         ·simp at Hs
         ·cases Hs
       refine⟨a.block,a.off,?_,Zx.2,λj v hj=>by simpa using hd j v hj⟩;cases a with
       |mk b o sp=>simp only at Zx;rw[Zx.1]
     ·cases h
  ·cases hm
 |AH a b iha ihb =>
  have main:∀(o Si:Nat) (f:Field) (r:ATU Field) (cs:ATU Value) (ys:ATU (DataW H×ATU MemPlace)),f.offset=o->P.cellsOf f.type=a.size->Yw P a f.type=true->Yw.my P b (o+a.size) r=true ->
      (f::r).mapM (λf=>DataW.trod enc P w base sp held Si f.type ((cs.drop f.offset).take (P.cellsOf f.type)))=some ys->cs.length=o+(a.size+b.size)->∃x:(Ty.AH a b).V,Ii w (yq w) (.AH a b) x (cs.drop o)/\(Ty.AH a b).Wf x:=by
   intro o Si f r cs ys ho NC hma hmb h hl;obtain⟨y,ys',h1,h2,_⟩:=VZ h;rw[ho,NC]at h1;obtain⟨xa,hra,hwa⟩:=iha.1 f.type Si _ y hma h1;obtain⟨xb,hrb,hwb⟩:=ihb.2 (o+a.size) Si r cs ys' hmb h2 (by omega);refine⟨(xa,xb),⟨_,_,?_,hra,hrb⟩,hwa,hwb⟩;rw[<-List.drop_drop];exact(ARp a.size (cs.drop o)).symm
  refine⟨λt Si cs y hm h=>?_,λo Si fs cs ys hm h hl=>?_⟩
  ·simp only[Yw]at hm;split at hm
   ·rename_i fs hu;rw[AQm]at hm;obtain⟨NC,hm⟩:=hm;have NC:P.cellsOf t=a.size+b.size:=by simpa using NC
    split at hm
    ·rename_i f r hfs;simp only[AQm,ARm]at hm;obtain⟨⟨⟨h1,h2⟩,h3⟩,h4⟩:=hm;cases Si with
     |zero=>simp[DataW.trod]at h
     |succ n =>
      have BS:(if cs.length=P.cellsOf t then(fs.toList.mapM λf=>DataW.trod enc P w base sp held n f.type ((cs.drop f.offset).take (P.cellsOf f.type))).map λxs=>((.agg (xs.map (·.1)):DataW H),xs.flatMap (·.2))else none)=some y:=by
       simp only[DataW.trod,hu]at h;exact h
      split at BS
      ·rename_i OO;cases hq:fs.toList.mapM λf=>DataW.trod enc P w base sp held n f.type ((cs.drop f.offset).take (P.cellsOf f.type))with
       |none=>rw[hq]at BS;cases BS
       |some ys =>
        rw[hfs]at hq;have:=main 0 n f r cs ys h1 h2 h3 (by rw[AQL];exact h4) hq (by omega);simpa using this
      ·cases BS
    ·cases hm
   ·cases hm
  ·cases fs with
   |nil=>simp[Yw.my]at hm
   |cons f r =>
    simp only[Yw.my,AQm,ARm]at hm;obtain⟨⟨⟨h1,h2⟩,h3⟩,h4⟩:=hm;exact main o Si f r cs ys h1 h2 h3 h4 h hl
end
def Xq:ATU Ty->Type
 |[]=>Unit
 |t::ts=>t.V×Xq ts
def Xq.av:(ts:ATU Ty)->Xq ts->ATU AV
 |[],_=>[]
 |t::ts,x=>.AB [] t x.1::Xq.av ts x.2
def Xq.Wf:(ts:ATU Ty)->Xq ts->Prop
 |[],_=>True
 |t::ts,x=>t.Wf x.1/\Xq.Wf ts x.2
def G.pH(w:World):G:=⟨λb=>if b<w.heap.size then .Jl else .no,λ_=>⟨none,0,0,0⟩⟩
section
variable {P:Program} {H:Type} {enc:TypeId×Value->H} {w:World} {base:Nat} {sp:Nat->Bool} {held:Bool}
theorem AmU{ty:Ty}{t:TypeId}{v:Value}{x:ty.V}(hm:Yw P ty t=true)(hf:v.formed P t=true)(hr:Ii w (yq w) ty x v.cells.toList):Cm ty.isAgg v.cells.toList v:=by
 cases ty with
 |AH a b =>
  simp only[Yw]at hm;split at hm
  ·rename_i fs hu;unfold Value.formed at hf;split at hf
   ·simp[Cm,Ty.isAgg,Value.cells]
   ·grind
   ·grind
  ·grind
 |int k =>
  simp only[Yw]at hm;split at hm
  ·cases v<;>simp_all [Cm,Ty.isAgg,Value.cells,Value.formed]
  ·grind
 |bool =>
  simp only[Yw]at hm;split at hm
  ·cases v<;>simp_all [Cm,Ty.isAgg,Value.cells,Value.formed]
  ·grind
 |str =>
  simp only[Yw]at hm;split at hm
  ·cases v<;>simp_all [Cm,Ty.isAgg,Value.cells,Value.formed]
  ·grind
 |sl u =>
  simp only[Yw]at hm;split at hm
  ·cases v<;>simp_all [Cm,Ty.isAgg,Value.cells,Value.formed]
  ·grind
 |unit=>simp[Yw]at hm
 |Sp z=>simp[Yw]at hm
end
section
variable {P:Program} {H:Type} {enc:TypeId×Value->H}
open Go.ChangeShapes Go.WideShapes Go.ChangeAt Go.RowKit
theorem bK{w w':World}{base:Nat}{sp:Nat->Bool}{held:Bool}:∀{ts:ATU TypeId} {vs:ATU Value} {ds:ATU (DataW H)} {ps:ATU MemPlace},DataW.TrodAll enc P w base sp held ts vs ds ps->(∀p∈ps,w.sameAt w' p)->DataW.TrodAll enc P w' base sp held ts vs ds ps
 |[],[],[],_,h,_=>h
 |_::_,_::_,_::_,_,⟨p,q,⟨n,h1⟩,h2,e⟩,hs=>⟨p,q,⟨n,DataW.trod_carry n _ _ _ h1 λx hx=>hs x (by grind)⟩,bK h2 (λx hx=>hs x (by grind)),e⟩
theorem Ah2{f:Func}{s:ChangeSpec}{B3 handsOn:Bool}{W W':World}{args:Array Value}{ds gs:ATU (DataW H)}{before:ATU MemPlace}(hW:DataW.Whole enc P f.params.toList s.vars false W args.toList ds gs before)(hv:s.vars=[])
    (AhM:gs=[]->s.fn H (ds++gs)={results:=[.lit (.bool true)],args:=ds}) {tb:TypeId} (hrt:f.resultTypes=#[tb]) (hub:P.underlying tb=some .bool) (Yf:∀b,b<W.heap.size->W'.heap[b]?=W.heap[b]?) (hos:W'.os=W.os) (AKu:W'.output=W.output)
    (K:Kids P (·<P.types.size)) (hz:∀t e,t<P.types.size->P.underlying t=some (.slice e)->0<P.cellsOf e) (ht:∀t∈f.params.toList,t<P.types.size):s.post enc P f false B3 handsOn false W args (.bool true) W':=by
 have Bp:=hW.lt;obtain⟨p,q,hA,hV,hpq,hfz,Tn⟩:=id hW;rw[hv]at hV;obtain⟨rfl,rfl⟩:=trodVars_none hV;have Zx:=AhM rfl;rw[AQU]at hpq Zx;subst hpq;have sM:∀x∈before,W.sameAt W' x:=λx hx=>by
  have hb:=Yf x.block (Bp x hx);cases x with
  |cell b off=>simp only[World.sameAt,World.cell?];simp only[MemPlace.block]at hb;rw[hb]
  |map b=>exact hb
 have kT:=bK hA sM;have zy:∀sp:Nat->Bool,(∀x∈before,sp x.block=true)->DataW.TrodAll enc P W' 0 sp true f.params.toList args.toList ds before:=λsp hs=>kT.respare K hz ht hs;have dQ:∀(b:Nat) (sp:Nat->Bool) (hd:Bool),DataW.TrodAll enc P W' b sp hd f.resultTypes.toList ((Value.bool true).resultList f.resultTypes.size) [.lit (.bool true)] []:=λb sp hd=>by
  rw[hrt];exact trodAll_cons_mk (shut_bool hub _) trodAll_mk0
 have AnX:∀x∈before,(λb=>decide (b<W.heap.size)) x.block=true:=λx hx=>by grind
 refine⟨ds,[],before,[],before,[],hW,?_,?_,?_,⟨hos,AKu,λi hi=>?_⟩,λh=>by grind⟩
 ·grind
 ·grind
 ·rw[hv];rw[AQU,Zx];rfl
 grind
def tt(P:Program):ATU Ty->ATU TypeId->Bool
 |[],[]=>true
 |ty::tys,t::ts=>Yw P ty t&&tt P tys ts
 |_,_=>false
theorem oD{w:World}{base:Nat}{sp:Nat->Bool}{held:Bool}:∀{tys:ATU Ty} {ts:ATU TypeId} {vs:ATU Value} {ds:ATU (DataW H)} {ps:ATU MemPlace},tt P tys ts=true->DataW.TrodAll enc P w base sp held ts vs ds ps ->
    (∀(j:Nat) t v,ts[j]?=some t->vs[j]?=some v->v.formed P t=true)->∃xs:Xq tys,Xq.Wf tys xs/\DI w (G.pH w) 0 (Xq.av tys xs) vs
 |[],[],[],[],_,_,_,_=>⟨(),trivial,trivial⟩
 |ty::tys,t::ts,v::vs,d::ds,_,hm,⟨p,q,⟨n,h1⟩,h2,_⟩,hf=>by
  simp only[tt,AQm]at hm;obtain⟨x,hr,hw⟩:=(Amx ty).1 t n _ _ hm.1 h1;obtain⟨xs,hws,ha⟩:=oD hm.2 h2 λj t v h3 h4=>hf (j+1) t v (by grind) (by grind);refine⟨(x,xs),⟨hw,hws⟩,Bv rfl  ⟨λk hk=>by grind,hr.mono λb hb=>⟨.inl ?_,rfl⟩⟩ (AmU hm.1 (hf 0 t v rfl rfl) hr),ha⟩;have hb:b<w.heap.size:=hb;simp[G.pH,hb]
 |[],_::_,_,_,_,hm,_,_=>by simp[tt]at hm
 |_::_,[],_,_,_,hm,_,_=>by simp[tt]at hm
 |[],[],_::_,_,_,_,h,_=>by simp[DataW.TrodAll]at h
 |[],[],[],_::_,_,_,h,_=>by simp[DataW.TrodAll]at h
 |_::_,_::_,[],_,_,_,h,_=>by simp[DataW.TrodAll]at h
 |_::_,_::_,_::_,[],_,_,h,_=>by simp[DataW.TrodAll]at h
theorem Air(w:World):Bi w (G.pH w) []:=⟨λb hb=>by simp[G.pH];omega,λk x hx=>by grind⟩
theorem Adj{en:G5}(he:JM P en){f:FuncId}{fn:Func}(hf:P.funcs[f]?=some fn){av:ATU AV}{w:World}{vs:ATU Value}(Ep:T6 en fn (AV×ATU Blk) av [] (λv b=>some (v,b))=some (.bool true,[]))(ha:DI w (G.pH w) 0 av vs) :
    Calls P f vs.toArray w λe w'=>e=.returned (.bool true)/\(∀b,b<w.heap.size->w'.heap[b]?=w.heap[b]?)/\w'.os=w.os/\w'.output=w.output:=by
 refine((cy he hf Ep).2 w _ vs (Air w) ha).mono λe w' ⟨v,g',e1,_,hv,st⟩=>?_;have:=TG hv;subst this;exact⟨e1,λb hb=>(st.Jl b (by simp[G.pH,hb])).2,st.os,st.output⟩
theorem vp{ty:Ty}{t:TypeId}{v:Value}{w:World}{r:Reach}{base:Nat}(hm:Yw P ty t=true)(h:Value.okWide P w r base t v):v.formed P t=true:=by
 unfold Value.okWide at h;cases ty with
 |AH a b =>
  simp only[Yw]at hm;split at hm
  ·rename_i fs hu;rw[hu]at h;obtain⟨cs,rfl,hs,_⟩:=h;simp[Value.formed,hu,hs]
  ·cases hm
 |int k =>
  simp only[Yw]at hm;split at hm
  ·rename_i k' hu;rw[hu]at h;cases v<;>simp_all [Value.formed,Cell.okWide,Cell.ok]
  ·cases hm
 |bool =>
  simp only[Yw]at hm;split at hm
  ·rename_i hu;rw[hu]at h;cases v<;>simp_all [Value.formed,Cell.okWide,Cell.ok]
  ·cases hm
 |str =>
  simp only[Yw]at hm;split at hm
  ·rename_i hu;rw[hu]at h;cases v<;>simp_all [Value.formed,Cell.okWide,Cell.ok]
  ·cases hm
 |sl u =>
  simp only[Yw]at hm;split at hm
  ·rename_i e hu;rw[hu]at h;cases v<;>simp_all [Value.formed,Cell.okWide,Cell.ok]
  ·cases hm
 |unit=>simp[Yw]at hm
 |Sp z=>simp[Yw]at hm
theorem law_contract{en:G5}(he:JM P en){f:FuncId}{fn:Func}(hf:P.funcs[f]?=some fn){tys:ATU Ty}(hm:tt P tys fn.params.toList=true){s:ChangeSpec}(hv:s.vars=[]){tb:TypeId}(hrt:fn.resultTypes=#[tb])(hub:P.underlying tb=some .bool)
    (K:Kids P (·<P.types.size)) (hz:∀t e,t<P.types.size->P.underlying t=some (.slice e)->0<P.cellsOf e) (ht:∀t∈fn.params.toList,t<P.types.size)
    {W:World} {base:Nat} {args:Array Value} {ds gs:ATU (DataW H)} {before:ATU MemPlace} (AhM:gs=[]->s.fn H (ds++gs)={results:=[.lit (.bool true)],args:=ds})
    (hval:∀(j:Nat) t v,fn.params[j]?=some t->args[j]?=some v->Value.okWide P W .any base t v) (hW:DataW.Whole enc P fn.params.toList s.vars false W args.toList ds gs before)
    (Ep:∀xs:Xq tys,Xq.Wf tys xs->T6 en fn (AV×ATU Blk) (Xq.av tys xs) [] (λv b=>some (v,b))=some (.bool true,[])) {B3 handsOn:Bool} :
    Calls P f args W λe W'=>∃v,e=.returned v/\s.post enc P fn false B3 handsOn false W args v W':=by
 obtain⟨p,q,hA,_⟩:=id hW;have bh:∀(j:Nat) t v,fn.params.toList[j]?=some t->args.toList[j]?=some v->v.formed P t=true:=λj t v h1 h2=>by
  rw[AQt]at h1 h2;have key:∀(tys:ATU Ty) (ts:ATU TypeId) (j:Nat),tt P tys ts=true->ts[j]?=some t->∃ty,Yw P ty t=true:=by
   intro tys;induction tys with
   |nil=>intro ts j hm hj;cases ts<;>simp_all [tt]
   |cons ty tys ih =>
    intro ts j hm hj;cases ts with
    |nil=>grind
    |cons u ts =>
     simp only[tt,AQm]at hm
     grind
  obtain⟨ty,jl⟩:=key tys fn.params.toList j hm (by grind);exact vp jl (hval j t v h1 h2)
 obtain⟨xs,hwf,ha⟩:=oD hm hA bh;have:=Adj he hf (Ep xs hwf) ha;refine this.mono λe W' ⟨e1,h1,h2,h3⟩=>⟨_,e1,Ah2 hW hv AhM hrt hub h1 h2 h3 K hz ht⟩
end
end Go.Va
namespace Go.Va
theorem Aib{A B:Type}(f:A->B)(c:Prop)[Decidable c](x:ATV A):(if c then none else x).map f=if c then none else x.map f:=by split<;>rfl
theorem Aia{A B C D:Type}(f:C->D)(g:A->ATV C)(h:B->ATV C)(y:A⊕B):(Sum.elim g h y).map f=Sum.elim (λa=>(g a).map f) (λb=>(h b).map f) y:=by cases y<;>rfl
theorem Acx{A B:Type}(k:A->ATV B)(c:Bool)(x y:ATV A):(bif c then x else y).bind k=bif c then x.bind k else y.bind k:=by cases c<;>rfl
theorem Afr{A B:Type}(k:A->ATV B)(c:Prop)[Decidable c](x y:ATV A):(if c then x else y).bind k=if c then x.bind k else y.bind k:=by split<;>rfl
theorem Acz{A B:Type}(k:A->ATV B)(c:Prop)[Decidable c](x:ATV A):(if c then none else x).bind k=if c then none else x.bind k:=by split<;>rfl
theorem Acy{A B C D:Type}(k:C->ATV D)(g:A->ATV C)(h:B->ATV C)(y:A⊕B):(Sum.elim g h y).bind k=Sum.elim (λa=>(g a).bind k) (λb=>(h b).bind k) y:=by cases y<;>rfl
theorem EJ(s:St):nt s s=some ():=by simp[nt]
def code(f:Func):Code:=(f.body).getD .skip
def AwG:Code->Array Oper
 |.region _ Ca _=>Ca
 |_=>#[]
def Aev(P:Program):ATU (Nat×Callee)->Prop
 |[]=>True
 |(n,c)::r=>Ao P n c/\Aev P r
theorem Ag3{P:Program}:∀{l:ATU (Nat×Callee)},Aev P l->∀g c,Pl l g=some c->Ao P g c
 |[],_,_,_,h=>by cases h
 |(n,c)::r,⟨h1,h2⟩,g,c',h=>by
  simp only[Pl]at h;split at h
  ·rename_i e;have e:n=g:=by simpa using e
   subst e;injection h with h;subst h;exact h1
  ·exact Ag3 h2 g c' h
def bU(e:Nat)(t:Ty)(bytes:Nat):Callee:={pD:=[.d (.sl t)],run:=λR avs E K=>match avs,E with
    |[.AB [] u xs],[]=>match JQ u (.sl t) xs with
     |some xs=>if xs.length*bytes<=140737488355328 then K (.AG 0) [.row e (if t.BU then .Aw else .sh []) t xs]else none
     |_=>none
    |_,_=>none}
end Go.Va
namespace Go.Va
theorem Ao.sH{P:Program}{f:FuncId}{fn:Func}(hf:P.funcs[f]?=some fn)(hn:(fn.name=="runtime.NumGoroutine")=false)(hb:fn.body.isNone=false){c:Callee}(hc:jG c)
    (h:∀args E av E',c.run (AV×ATU Blk) args E (λv b=>some (v,b))=some (av,E')->E.length<=E'.length/\∀(w:World) (g:G) (vs:ATU Value),Bi w g E->DI w g E.length args vs ->
     Calls P f vs.toArray w λe w'=>∃v g',e=.returned v/\Bi w' g' E'/\B6 w' g' E'.length av v/\BK E.length w g w' g'):Ao P f c where
 bB:=hc
 snd args E av E' hr:=by
  obtain⟨h1,h2⟩:=h args E av E' hr;refine⟨h1,λw g vs H hx o a next Q hn'=>?_⟩
  have:(callFunc f vs.toArray).run P w=.ok (.enter f vs.toArray) w:=by
   have x7:¬fn.name="runtime.NumGoroutine":=by simpa using hn
   have iK:¬fn.body=none:=by
    intro e;rw[e]at hb;cases hb
   simp[callFunc,hf,x7,iK]
  rw[this,Oper.upon_enter];refine(h2 w g vs H hx).mono λe w' ⟨v,g',e1,hH,hv,BS⟩=>?_;subst e1;exact hn' v w' g' hH hv BS
theorem AcT{P:Program}{t:TypeId}{ti:TI}(ht:Fy P t ti)(hs:ti.EA=true){ad:ATV Addr}{n c:Nat}{x y:Operand}(w:World) :
    (do eqGuard .eql t x y (.slice ad n c) (.slice none 0 0);binOp .eql t (.slice ad n c) (.slice none 0 0):Sem Value).run P w=.ok (.bool ad.isNone) w:=by
 have hu:=BD ht hs;have h1:∀d,(Op.equalIn (d+1) t (.slice ad n c) (.slice none 0 0)).run P w=.ok ad.isNone w:=by
  intro d;unfold Op.equalIn;cases ad<;>simp[underlying,hu]
 have h2:(Op.equal t (.slice ad n c) (.slice none 0 0)).run P w=.ok ad.isNone w:=h1 (Op.maxDepth-1);show(do pure (.bool (<-Op.equal t (.slice ad n c) (.slice none 0 0))):Sem Value).run P w=_
 rw[Sem.run_bind,h2];rfl
section
variable {P:Program} {en:G5}
theorem uR(he:JM P en){f:FuncId}{fn:Func}(hf:P.funcs[f]?=some fn){R0 R2 T:Code}{id:Nat}{o3 o4:Oper}{t t2 e bytes:Nat}{u:Ty}{ti:TI}
    (hb:fn.body=some (R0.seq (((Code.region id #[o3,o4] false).seq (Code.cond (.tmp 4) (R2.seq .ret) .skip)).seq T))) (hnt:fn.ntmps=8) (dQ:fn.results=#[.tmp 2])
    (h3:o3.op=.move (.tmp 0)/\o3.dst=some 3/\o3.guard=none) (h4:o4.op=.binOp .eql t (.tmp 3) (.const (.slice none 0 0)) t2/\o4.dst=some 4/\o4.guard=none)
    (ht:en.Eb.get t=some ti) (Jk:ti.EA=true) (hu:u.row=true)
    (hR0:∀xs:(Ty.sl u).V,ev en 0 R0 (Ex×St) ⟨[.AB [] (.sl u) xs,.un 0,.un 0,.un 0,.un 0,.un 0,.un 0,.un 0],[]⟩ Sz=some (.normal,⟨[.AB [] (.sl u) xs,.un 0,.zs,.un 0,.un 0,.un 0,.un 0,.un 0],[]⟩))
    (hA:∀xs:(Ty.sl u).V,ev en 0 (R2.seq .ret) (Ex×St) ⟨[.AB [] (.sl u) xs,.un 0,.zs,.AB [] (.sl u) xs,.bool true,.un 0,.un 0,.un 0],[]⟩ Sz=some (.ret,⟨[.AB [] (.sl u) xs,.un 0,.zs,.AB [] (.sl u) xs,.bool true,.un 0,.un 0,.un 0],[]⟩))
    (hT:∀xs:(Ty.sl u).V,xs.length*bytes<=140737488355328->ev en 0 T (Ex×St) ⟨[.AB [] (.sl u) xs,.un 0,.zs,.AB [] (.sl u) xs,.bool false,.un 0,.un 0,.un 0],[]⟩ Sz=some (.ret,⟨[.AB [] (.sl u) xs,.un 0,.AG 0,.AB [] (.sl u) xs,.bool false,.zs,.AB [] (.sl u) xs,.AG 0],[.row e (if u.BU then .Aw else .sh []) u xs]⟩))
    {xs:(Ty.sl u).V} (Ahj:xs.length*bytes<=140737488355328) (w:World) (g:G) (vs:ATU Value) (H:Bi w g []) (hx:DI w g 0 [.AB [] (.sl u) xs] vs) :
    Calls P f vs.toArray w λee w'=>∃v g',ee=.returned v/\Bi w' g' [.row e (if u.BU then .Aw else .sh []) u xs]/\B6 w' g' 1 (.AG 0) v/\BK 0 w g w' g':=by
 refine calls_of_wp hf hb ?_;have ya:=eO H hx (n:=fn.ntmps) (by rw[hnt];simp);have AKD:LJ w g ⟨[.AB [] (.sl u) xs,.un 0,.un 0,.un 0,.un 0,.un 0,.un 0,.un 0],[]⟩ {tmps:=vs.toArray++Array.replicate (fn.ntmps-vs.toArray.size) undef,defers:=[]}:=by
  rw[hnt]at ya;rw[hnt];exact ya
 have Xm:∀(a':Act) (w':World) (g':G),a'.defers=[]->BK 0 w g w' g'->(∃g'',Bi w' g'' [.row e (if u.BU then .Aw else .sh []) u xs]/\B6 w' g'' 1 (.AG 0) (a'.tmps.getD 2 undef)/\BK 0 w' g' w' g'') ->
     a'.defers=[]/\∃v,(results fn a'.tmps).run P w'=.ok v w'/\∃v' g',Ending.returned v=.returned v'/\Bi w' g' [.row e (if u.BU then .Aw else .sh []) u xs]/\B6 w' g' 1 (.AG 0) v'/\BK 0 w g w' g':=by
  intro a' w' g' hd BS ⟨g'',H'',hav,zA⟩;refine⟨hd,a'.tmps.getD 2 undef,?_,_,g'',rfl,H'',hav,BS.trans zA⟩;rw[lU,dQ,Array.mapM_eq_mapM_toList];simp[AiE]
 refine wp_seq ((QX he R0 _ _ _ (hR0 xs) (AQl _)).2 _ w g _ AKD λa1 w1 g1 Sx SA jj=>?_);simp only[rr];refine wp_seq (wp_seq (wp_region ?_));have al:=Sx.AU 0 _ rfl;obtain⟨cs,UN,hval⟩:=B4 rfl rfl al;obtain⟨_,ad,cap,ds,AvP,hlen,Ahx,rM⟩:=UN;subst AvP;have hv0:a1.tmps.getD 0 undef=.slice ad xs.length cap:=by
  have:[Value.slice ad xs.length cap]=[a1.tmps.getD 0 undef]:=hval;injection this with h _;exact h.symm
 have AKo:ad=none->xs=[]:=λh=>by
  rcases rM with h1 |⟨b,off,h1,_⟩
  ·exact h1
  ·rw[h]at h1;cases h1
 let a2:=(a1.put (some 3) (.slice ad xs.length cap)).put (some 4) (.bool ad.isNone)
 have NC:a1.tmps.size=8:=Sx.len.symm;have ak:LJ w1 g1 ⟨[.AB [] (.sl u) xs,.un 0,.zs,.AB [] (.sl u) xs,.bool ad.isNone,.un 0,.un 0,.un 0],[]⟩ a2:=by
  refine⟨Sx.heap,by simp[a2,XR,NC],λi x hx=>?_⟩;have h5:∀i,i≠3->i≠4->a2.tmps.getD i undef=a1.tmps.getD i undef:=λi h3 h4=>by
   simp only[a2];rw[WS (by simpa using λh=>h4 h.symm),WS (by simpa using λh=>h3 h.symm)]
  match i,hx with
  |0,hx=>rw[h5 0 (by decide) (by decide)];exact Sx.AU 0 x hx
  |1,hx=>rw[h5 1 (by decide) (by decide)];exact Sx.AU 1 x hx
  |2,hx=>rw[h5 2 (by decide) (by decide)];exact Sx.AU 2 x hx
  |3,hx =>
   injection hx with hx;subst hx;have:a2.tmps.getD 3 undef=.slice ad xs.length cap:=by
    simp only[a2];rw[WS (by decide),T4 (by omega)]
   rw[this,<-hv0];exact al
  |4,hx =>
   injection hx with hx;subst hx;have:a2.tmps.getD 4 undef=.bool ad.isNone:=by
    simp only[a2];rw[T4 (by rw[XR];omega)]
   rw[this];exact Bv (cs:=[.bool ad.isNone]) rfl ⟨λk hk=>by(cases hk),rfl⟩ rfl
  |5,hx=>injection hx with hx;subst hx;exact Sc
  |6,hx=>injection hx with hx;subst hx;exact Sc
  |7,hx=>injection hx with hx;subst hx;exact Sc
  |i+8,hx=>simp at hx
 have e3:a1.eval (.tmp 0)=.slice ad xs.length cap:=hv0;have AJ1:(a1.put (some 3) (.slice ad xs.length cap)).eval (.tmp 3)=.slice ad xs.length cap:=by
  show(a1.put (some 3) (.slice ad xs.length cap)).tmps.getD 3 undef=_;rw[T4 (by omega)]
 simp only[List.range,wpOps];show wpOps P #[o3,o4] _ [0,1] a1 w1;simp only[wpOps];have g0:(#[o3,o4]:Array Oper)[0]?=some o3:=rfl;have g1':(#[o3,o4]:Array Oper)[1]?=some o4:=rfl;rw[g0,g1'];simp only[Region.wanted,h3.2.2,h4.2.2,AQ2];refine .inl ?_;unfold Oper.wp;rw[show(execOp a1.eval o3).run P w1=.ok (.value (.slice ad xs.length cap)) w1 by simp[execOp,h3.1,e3],Oper.upon_value,h3.2.1];have AGm:(a1.put (some 3) (.slice ad xs.length cap)).tmps.getD 3 undef=.slice ad xs.length cap:=AJ1;have AGT:(execOp (a1.put (some 3) (.slice ad xs.length cap)).eval o4).run P w1=.ok (.value (.bool ad.isNone)) w1:=by
  have:=AcT (P:=P) (t:=t) (he.t ht) Jk (ad:=ad) (n:=xs.length) (c:=cap) (x:=.tmp 3) (y:=.const (.slice none 0 0)) w1;simp only[execOp,h4.1,Act.eval,AGm];rw[Sem.run_bind,this];rfl
 refine .inl ?_;rw[AGT,Oper.upon_value,h4.2.1];show(Code.cond (.tmp 4) (R2.seq .ret) .skip).wp P _ a2 w1;have AlZ:a2.eval (.tmp 4)=.bool ad.isNone:=by
  show a2.tmps.getD 4 undef=_;simp only[a2];rw[T4 (by rw[XR];omega)]
 have hd2:a2.defers=[]:=by simp only[a2,Go.Va.put_defers];exact jj
 cases zm:ad with
 |none =>
  have hxs:=AKo zm;subst hxs;rw[zm]at ak AlZ;refine wp_cond_true AlZ ?_;refine(QX he _ _ _ _ (hA []) (AQl _)).2 a2 w1 g1 _ ak λa3 w3 g3 vQ st3 hd3=>?_;have hz:=vQ.AU 2 _ rfl;obtain⟨g4,H4,AJO,st4⟩:=y9 vQ.heap (c:=.row [] e u false) (a:=.zs) (a':=.AG 0) (nb:=[.row e (if(u.BU||false)=true then .Aw else .sh []) u []]) (by simp[coV,AV.W2,AV.cC,hu]) hz;exact Xm a3 w3 g3 (hd3.trans hd2) (SA.trans st3) ⟨g4,by simpa using H4,by simpa using AJO,st4.toC (AQ1 _)⟩
 |some ad0 =>
  rw[zm]at ak AlZ;refine wp_cond_false AlZ (wp_skip ?_);refine(QX he _ _ _ _ (hT xs Ahj) (AQl _)).2 a2 w1 g1 _ ak λa3 w3 g3 vQ st3 hd3=>?_;exact Xm a3 w3 g3 (hd3.trans hd2) (SA.trans st3) ⟨g3,vQ.heap,vQ.AU 2 _ rfl,BK.refl _ _ _⟩
theorem AcF{e bytes:Nat}{u:Ty}:jG (bU e u bytes):=by
 intro R args E K;simp only[bU];split
 ·split
  ·split<;>rfl
  ·rfl
 ·rfl
theorem fB(he:JM P en){f:FuncId}{fn:Func}(hf:P.funcs[f]?=some fn)(hn:(fn.name=="runtime.NumGoroutine")=false){R0 R2 T:Code}{id:Nat}{o3 o4:Oper}{t t2 e bytes:Nat}{u:Ty}{ti:TI}
    (hb:fn.body=some (R0.seq (((Code.region id #[o3,o4] false).seq (Code.cond (.tmp 4) (R2.seq .ret) .skip)).seq T))) (hnt:fn.ntmps=8) (dQ:fn.results=#[.tmp 2])
    (h3:o3.op=.move (.tmp 0)/\o3.dst=some 3/\o3.guard=none) (h4:o4.op=.binOp .eql t (.tmp 3) (.const (.slice none 0 0)) t2/\o4.dst=some 4/\o4.guard=none)
    (ht:en.Eb.get t=some ti) (Jk:ti.EA=true) (hu:u.row=true)
    (hR0:∀xs:(Ty.sl u).V,ev en 0 R0 (Ex×St) ⟨[.AB [] (.sl u) xs,.un 0,.un 0,.un 0,.un 0,.un 0,.un 0,.un 0],[]⟩ Sz=some (.normal,⟨[.AB [] (.sl u) xs,.un 0,.zs,.un 0,.un 0,.un 0,.un 0,.un 0],[]⟩))
    (hA:∀xs:(Ty.sl u).V,ev en 0 (R2.seq .ret) (Ex×St) ⟨[.AB [] (.sl u) xs,.un 0,.zs,.AB [] (.sl u) xs,.bool true,.un 0,.un 0,.un 0],[]⟩ Sz=some (.ret,⟨[.AB [] (.sl u) xs,.un 0,.zs,.AB [] (.sl u) xs,.bool true,.un 0,.un 0,.un 0],[]⟩))
    (hT:∀xs:(Ty.sl u).V,xs.length*bytes<=140737488355328->ev en 0 T (Ex×St) ⟨[.AB [] (.sl u) xs,.un 0,.zs,.AB [] (.sl u) xs,.bool false,.un 0,.un 0,.un 0],[]⟩ Sz=some (.ret,⟨[.AB [] (.sl u) xs,.un 0,.AG 0,.AB [] (.sl u) xs,.bool false,.zs,.AB [] (.sl u) xs,.AG 0],[.row e (if u.BU then .Aw else .sh []) u xs]⟩)) :
    Ao P f (bU e u bytes):=by
 refine Ao.sH hf hn (by rw[hb];rfl) AcF λargs E av E' h=>?_;simp only[bU]at h;split at h
 ·split at h
  ·rename_i xs hc;obtain⟨e1,q⟩:=BO hc;subst e1;subst q;split at h
   ·rename_i Ahj;simp only[AQh,AQs]at h;obtain⟨rfl,rfl⟩:=h;exact⟨AQ1 _,λw g vs H hx=>uR he hf hb hnt dQ h3 h4 ht Jk hu hR0 hA hT Ahj w g vs H hx⟩
   ·cases h
  ·cases h
 ·cases h
end
end Go.Va
namespace Go.Va
open Go.Sort Go.Shelf
def leI(x y:Int):Bool:=decide (x<=y)
def RE(xs:ATU Int):ATU Int:=xs.mergeSort leI
def OI(xs:ATU Int):ATU Int:=Lib.compact xs
def xc:Callee:={pD:=[.VA],run:=λ_ avs E K=>match avs,E with
    |[.AG 0],[.row e .Aw u xs]=>match JQ (.sl u) (.sl (.int .i64)) xs with
     |some xs=>if xs.length<4611686018427387904 then K .nil [.row e .Aw (.int .i64) (RE xs)]else none
     |none=>none
    |[.zs],[]=>K .nil []
    |_,_=>none}
def xC:Callee:={pD:=[.VA],run:=λ_ avs E K=>match avs,E with
    |[.AG 0],[.row e .Aw u xs]=>match JQ (.sl u) (.sl (.int .i64)) xs with
     |some xs=>K (.AG 1) [.Bd,.row e .Aw (.int .i64) (OI xs)]
     |none=>none
    |_,_=>none}
theorem Ai9:jG xc:=by
 intro R args E K;simp only[xc];split
 ·split
  ·split<;>rfl
  ·rfl
 ·rfl
 ·rfl
theorem Ajs:jG xC:=by
 intro R args E K;simp only[xC];split
 ·split<;>rfl
 ·rfl
section
variable {w:World} {g:G} {n:Nat}
theorem XH{own:Nat->VC}{k:Nat}:∀{xs:ATU Int} {j:Nat} {ds:ATU Value},Bo (λi=>Kl w own k (.int .i64) [i]) j xs ds↔ds=xs.map (Value.int .i64)
 |[],_,_=>Iff.rfl
 |x::xs,j,ds=>by
  constructor
  ·rintro⟨c,d,e,h1,h2⟩
   have h1:c=[.int .i64 x]:=h1;rw[e,h1,XH.1 h2];rfl
  ·intro e;exact⟨[.int .i64 x],xs.map (Value.int .i64),by rw[e];rfl,rfl,XH.2 rfl⟩
theorem kZ{b el:Nat}{BA:Array Value}{xs:ATU Int}(hc:w.heap[b]?=some (.cells BA el (0,0)))(hd:BA.toList.take (xs.length*1)=xs.map (Value.int .i64)):Holds (Value.int .i64) w b 0 xs.toArray:=by
 intro j hj;have hj:j<xs.length:=by simpa using hj
 constructor
 ·have h1:(BA.toList.take (xs.length*1))[j]?=some (.int .i64 xs[j]):=by rw[hd];simp[hj]
  rw[ARg,AQx (by omega)]at h1;simp only[World.cell?,hc,AQL];simpa [hj]using h1
 ·simp[World.frozen?,hc]
theorem wQ{b el:Nat}{BA:Array Value}{q:Nat}{d:Array Int}(hc:w.heap[b]?=some (.cells BA el (0,0))):(putRow (Value.int .i64) (Sort.ahead w q) b 0 d).heap[b]?=some (.cells (putCells (Value.int .i64) 0 d BA) el (0,0)):=by
 simp[putRow,mapBlock,Sort.ahead,ARR,hc,onCells]
theorem pR{b c q:Nat}{d:Array Int}(h:c≠b):(putRow (Value.int .i64) (Sort.ahead w q) b 0 d).heap[c]?=w.heap[c]?:=by
 simp[putRow,mapBlock,Sort.ahead,ARR,h.symm]
theorem aA(w:World)(b q:Nat)(d:Array Int):(putRow (Value.int .i64) (Sort.ahead w q) b 0 d).heap.size=w.heap.size:=by
 simp[putRow,mapBlock,Sort.ahead]
theorem bF{BA:Array Value}{d:Array Int}{m:Nat}(hm:m<=d.size)(hs:d.size<=BA.size):(putCells (Value.int .i64) 0 d BA).toList.take m=(d.toList.take m).map (Value.int .i64):=by
 apply ARu;intro i;rw[ARg,AQI,ARg];split
 ·rename_i h;have h1:i<BA.size:=by omega
  have h2:i<d.size:=by omega
  simp[putCells,h1,h2]
 ·rfl
theorem zI{E:ATU Blk}(H:Bi w g E){b k:Nat}{r:ATU Nat}(h:g.own b=.BQ k r):b<w.heap.size:=by
 by_cases hb:b<w.heap.size
 ·exact hb
 ·rw[H.B3 b (by omega)]at h;cases h
end
section
variable {P:Program} {ρ:Shelf.Ren}
theorem Aja(L:Proofs.SlLaysN.n53 P ρ){f:FuncId}{fn:Func}(e:ρ.f 53=f)(hf:P.funcs[f]?=some fn)(hn:(fn.name=="runtime.NumGoroutine")=false)(hb:fn.body.isNone=false):Ao P f xc:=by
 refine Ao.sH hf hn hb Ai9 λargs E av E' h=>?_;simp only[xc]at h;split at h
 ·rename_i el u xs;split at h
  ·rename_i ys hc;obtain⟨e1,q⟩:=BO hc;cases e1;have q:xs=ys:=q;subst q;split at h
   ·rename_i Bp;simp only[AQh,AQs]at h;obtain⟨rfl,rfl⟩:=h;refine⟨AQl _,λw g vs H hx=>?_⟩
    match vs,hx with
    |[v],⟨hv,_⟩ =>
     obtain⟨_,hv⟩:=FN hv;subst hv;obtain⟨Sl,hl,QT,BX,hr⟩:=H.MR 0 _ rfl;rcases hr with ⟨al,Hs⟩|⟨b,BA,ds,ha,ho,⟨ce,he,DW⟩,h1,h2,h3,h4,h5⟩
     ·rw[Hs,hl,al,<-e];refine(Proofs.AnyG.slices_Sort_int_none L _ 0 w).mono λe w' ⟨e1,e2⟩=>?_;subst e1;subst e2;exact⟨_,g,rfl,by simpa [al,RE]using H,rfl,BK.refl _ _ _⟩
     ·rw[hl,ha,<-e];have h5:ds=_:=XH.1 h5;have h4:BA.toList.take (List.length (α:=Int) xs*1)=ds:=h4;rw[h5]at h4;have NC:BA.size=(g.A2 0).cap*1:=h3;refine(Proofs.AnyG.slices_Sort_int L b 0 _ xs w (kZ DW h4) (zI H ho) Bp).mono λe w' ⟨e1,n,os,e2⟩=>?_;subst e1;have zu:=zI H ho;have Yf:∀c,c≠b->c<w.heap.size->w'.heap[c]?=w.heap[c]?:=λc hc Bp=>by
       rw[e2];show((putRow _ _ _ _ _).heap++os)[c]?=_;rw[Array.getElem?_append_left (by rw[aA];exact Bp),pR hc]
      have dP:w'.heap[b]?=some (.cells (putCells (Value.int .i64) 0 (List.toArray (RE xs)) BA) ce (0,0)):=by
       rw[e2];show((putRow _ _ _ _ _).heap++os)[b]?=_;rw[Array.getElem?_append_left (by rw[aA];exact zu)];exact wQ DW
      have QC:w.heap.size<=w'.heap.size:=by
       rw[e2];show _<=((putRow _ _ _ _ _).heap++os).size;rw[Array.size_append,aA];omega
      refine⟨_,g,rfl,⟨λc hc=>H.B3 c (by omega),λk x hx=>?_⟩,rfl,?_⟩
      ·match k,hx with
       |0,hx =>
        injection hx with hx;subst hx;have hls:(RE xs).length=List.length (α:=Int) xs:=List.length_mergeSort _;refine⟨λj hj=>by(cases hj),by rw[hl];exact hls.symm,QT,BX,.inr ⟨b,_,_,ha,ho,⟨ce,he,dP⟩,?_,h2,?_,rfl,?_⟩⟩
        ·rw[hls];exact h1
        ·simpa [putCells]using h3
        ·show uf w' g.own 0 .Aw (.int .i64) _ _;refine XH.2 ?_;rw[bF (by simp[Ty.size]) (by simp only[ARt,hls];omega)];simp[Ty.size]
       |k+1,hx=>simp at hx
      ·refine⟨by rw[e2];rfl,by rw[e2];rfl,by rw[e2];rfl,QC,λc hc h=>⟨h,Yf c (λe=>by rw[e,ho]at h;cases h) hc⟩,λc h=>⟨h,?_⟩,λc k r h hk hm=>(hm (List.mem_range.2 hk)).elim,λk hk=>rfl⟩;by_cases UN:c<w.heap.size
       ·exact Yf c (λe=>by rw[e,ho]at h;cases h) UN
       ·rw[H.B3 c (by omega)]at h;cases h
   ·cases h
  ·cases h
 ·simp only[AQh,AQs]at h;obtain⟨rfl,rfl⟩:=h;refine⟨AQl _,λw g vs H hx=>?_⟩
  match vs,hx with
  |[v],⟨hv,_⟩ =>
   obtain⟨cs,⟨ad,UN⟩,hval⟩:=B4 rfl rfl hv;subst UN;have hv:v=.slice ad 0 0:=by
    have:[Value.slice ad 0 0]=[v]:=hval;injection this with h _;exact h.symm
   subst hv;rw[<-e];refine(Proofs.AnyG.slices_Sort_int_none L ad 0 w).mono λe w' ⟨e1,e2⟩=>?_;subst e1;subst e2;exact⟨_,g,rfl,H,rfl,BK.refl _ _ _⟩
 ·cases h
theorem Ajr(xs:ATU Int):(OI xs).length<=xs.length:=by
 unfold OI Lib.compact Lib.compactUpTo;rw[AQr];exact AQJ (ARG _ _) (by simp)
theorem Ajt(L:Proofs.SlLaysN.n43 P ρ){f:FuncId}{fn:Func}(e:ρ.f 43=f)(hf:P.funcs[f]?=some fn)(hn:(fn.name=="runtime.NumGoroutine")=false)(hb:fn.body.isNone=false):Ao P f xC:=by
 refine Ao.sH hf hn hb Ajs λargs E av E' h=>?_;simp only[xC]at h;split at h
 ·rename_i el u xs;split at h
  ·rename_i ys hc;obtain⟨e1,q⟩:=BO hc;cases e1;have q:xs=ys:=q;subst q;simp only[AQh,AQs]at h;obtain⟨rfl,rfl⟩:=h;refine⟨by simp,λw g vs H hx=>?_⟩
   match vs,hx with
   |[v],⟨hv,_⟩ =>
    obtain⟨_,hv⟩:=FN hv;subst hv;obtain⟨Sl,hl,QT,BX,hr⟩:=H.MR 0 _ rfl;rcases hr with ⟨al,Hs⟩|⟨b,BA,ds,ha,ho,⟨ce,he,DW⟩,h1,h2,h3,h4,h5⟩
    ·rw[Hs,hl,al,<-e];refine(Proofs.AnyG.slices_Compact_int_empty L _ 0 w).mono λe w' ⟨e1,e2⟩=>?_;subst e1;subst e2;refine⟨_,⟨g.own,λk=>if k=1 then⟨(g.A2 0).a,0,0,1⟩else g.A2 k⟩,rfl,⟨H.B3,λk x hx=>?_⟩,?_,?_⟩
     ·match k,hx with
      |0,hx=>injection hx with hx;subst hx;trivial
      |1,hx =>
       injection hx with hx;subst hx;exact⟨λj hj=>by(cases hj),rfl,rfl,BX,.inl ⟨rfl,rfl⟩⟩
      |k+2,hx=>simp at hx
     ·exact Bv (cs:=[.slice (g.A2 0).a 0 0]) rfl ⟨by simp,rfl⟩ rfl
     ·refine⟨rfl,rfl,rfl,AQl _,λc hc h=>⟨h,rfl⟩,λc h=>⟨h,rfl⟩,λc k r h hk hm=>(hm (List.mem_range.2 hk)).elim,λk hk=>?_⟩;have hk:k<1:=hk;have:k≠1:=by omega
      simp[this]
    ·rw[hl,ha,<-e];have h5:ds=_:=XH.1 h5;have h4:BA.toList.take (List.length (α:=Int) xs*1)=ds:=h4;rw[h5]at h4;have Av6:(g.A2 0).cap<=9223372036854775807:=h2;refine(Proofs.AnyG.slices_Compact_int L b 0 _ xs w (kZ DW h4) (AQJ h1 Av6) h1).mono λe w' ⟨e1,q,e2⟩=>?_;subst e1;have zu:=zI H ho;have Yf:∀c,c≠b->w'.heap[c]?=w.heap[c]?:=λc hc=>by rw[e2,pR hc]
     have dP:=wQ (q:=q) (d:=(Lib.compact (show ATU Int from xs)++List.replicate (List.length (α:=Int) xs-(Lib.compact (show ATU Int from xs)).length) 0).toArray) DW;rw[<-e2]at dP;have QC:w'.heap.size=w.heap.size:=by rw[e2,aA]
     have dO:(OI xs).length<=List.length (α:=Int) xs:=Ajr xs;have NC:(Lib.compact (show ATU Int from xs)++List.replicate (List.length (α:=Int) xs-(Lib.compact (show ATU Int from xs)).length) 0).length=List.length (α:=Int) xs:=by
      rw[AQj,AQM];exact Nat.add_sub_cancel' dO
     refine⟨_,⟨λc=>if c=b then .BQ 1 []else g.own c,λk=>if k=1 then⟨(g.A2 0).a,(OI xs).length,(g.A2 0).cap,1⟩else g.A2 k⟩,rfl,⟨λc hc=>?_,λk x hx=>?_⟩,?_,?_⟩
     ·have:c≠b:=λe=>by omega
      simp only[this,ARH];exact H.B3 c (by omega)
     ·match k,hx with
      |0,hx=>injection hx with hx;subst hx;trivial
      |1,hx =>
       injection hx with hx;subst hx;refine⟨λj hj=>by(cases hj),rfl,rfl,BX,.inr ⟨b,_,_,ha,by simp,⟨ce,he,dP⟩,AQJ dO h1,h2,?_,rfl,?_⟩⟩
       ·simpa [putCells]using h3
       ·show uf w' _ 1 .Aw (.int .i64) _ _;refine XH.2 ?_;have UN:BA.size=(g.A2 0).cap*1:=h3;rw[bF (by simp[Ty.size,OI]) (by rw[ARt,NC,UN];exact AQJ h1 (Nat.le_of_eq (Nat.mul_one _).symm))];simp[Ty.size,OI]
      |k+2,hx=>simp at hx
     ·exact Bv (cs:=[.slice (some ⟨b,0,none⟩) (OI xs).length (g.A2 0).cap]) rfl ⟨by simp,by simp[ha]⟩ rfl
     ·refine⟨by rw[e2];rfl,by rw[e2];rfl,by rw[e2];rfl,Nat.le_of_eq QC.symm,λc hc h=>?_,λc h=>?_,λc k r h hk hm=>(hm (List.mem_range.2 hk)).elim,λk hk=>?_⟩
      ·have LN:c≠b:=λe=>by rw[e,ho]at h;cases h
       exact⟨by simp[LN,h],Yf c LN⟩
      ·have LN:c≠b:=λe=>by rw[e,ho]at h;cases h
       exact⟨by simp[LN,h],Yf c LN⟩
      ·have hk:k<1:=hk;have:k≠1:=by omega
       simp[this]
  ·cases h
 ·cases h
end
end Go.Va
namespace Go.Va
section
variable {A B C D:Type}
theorem bC(k:A->ATV B)(c:Bool)(x y:ATV A):(bif c then x else y).bind k=bif c then x.bind k else y.bind k:=Acx k c x y
theorem bI(k:A->ATV B)(c:Prop)[Decidable c](x y:ATV A):(if c then x else y).bind k=if c then x.bind k else y.bind k:=Afr k c x y
theorem bN(k:A->ATV B)(c:Prop)[Decidable c](x:ATV A):(if c then none else x).bind k=if c then none else x.bind k:=Acz k c x
theorem bE(k:C->ATV D)(g:A->ATV C)(h:B->ATV C)(y:A⊕B):(Sum.elim g h y).bind k=Sum.elim (λa=>(g a).bind k) (λb=>(h b).bind k) y:=Acy k g h y
theorem bA(x:ATV A)(f:A->ATV B)(g:B->ATV C):(x.bind f).bind g=x.bind λy=>(f y).bind g:=AQw x f g
theorem bS(a:A)(f:A->ATV B):(some a).bind f=f a:=rfl
theorem bO(f:A->ATV B):(none:ATV A).bind f=none:=rfl
theorem mC(f:A->B)(c:Bool)(x y:ATV A):(bif c then x else y).map f=bif c then x.map f else y.map f:=Ah9 f c x y
theorem mI(f:A->B)(c:Prop)[Decidable c](x y:ATV A):(if c then x else y).map f=if c then x.map f else y.map f:=Ams f c x y
theorem mN(f:A->B)(c:Prop)[Decidable c](x:ATV A):(if c then none else x).map f=if c then none else x.map f:=Aib f c x
theorem mB(f:B->C)(x:ATV A)(k:A->ATV B):(x.bind k).map f=x.bind λy=>(k y).map f:=Ah8 f x k
theorem mE(f:C->D)(g:A->ATV C)(h:B->ATV C)(y:A⊕B):(Sum.elim g h y).map f=Sum.elim (λa=>(g a).map f) (λb=>(h b).map f) y:=Aia f g h y
theorem mS(f:A->B)(a:A):(some a).map f=some (f a):=rfl
theorem mO(f:A->B):(none:ATV A).map f=none:=rfl
def cc(x y:ATV Unit):ATV Unit:=x.bind λ_=>y
class Sh (Y:Type) where
 T:Type->Type
 sp:{Z:Type}->(Y->Z)->T Z
 ij:∀{Z:Type} {f g:Y->Z},sp f=sp g->f=g
instance (priority:=low) shB:Sh A:=⟨λZ=>A->Z,λf=>f,λh=>h⟩
instance shS [Sh A] [Sh B]:Sh (A⊕B):=⟨λZ=>Sh.T A Z×Sh.T B Z,λf=>(Sh.sp λa=>f (.inl a),Sh.sp λb=>f (.inr b)),λ{Z f g} h=>by
 have h1:=Sh.ij (congrArg Prod.fst h);have h2:=Sh.ij (congrArg Prod.snd h)
 funext y
 cases y with
 |inl a=>exact congrFun h1 a
 |inr b=>exact congrFun h2 b⟩
theorem k3{a a':A}{b b':B}{c c':C}(h:(a,b,c)=(a',b',c')):a=a'/\b=b'/\c=c':=by grind
end
abbrev dI(x:Int):AV:=.AB [] (.int .i64) x
abbrev dB(b:Bool):AV:=.AB [] .bool b
abbrev dD(t:Ty)(x:t.V):AV:=.AB [] t x
def sT(n:Nat)(l:ATU (Nat×AV))(bs:ATU Blk):St:=⟨mkS n 0 l,bs⟩
abbrev xN(n:Nat)(l:List (Nat×AV))(bs:List Blk):Ex×St:=(.normal,sT n l bs)
abbrev xR(n:Nat)(l:List (Nat×AV))(bs:List Blk):Ex×St:=(.ret,sT n l bs)
abbrev xE(k n:Nat)(l:List (Nat×AV))(bs:List Blk):Ex×St:=(.exit k,sT n l bs)
instance:Coe (List Nat) SH:=⟨λl=>{A7:=l}⟩
def G5.hd(en:G5)(k:Nat):SH:=(Pl en.fi.A5 k).getD {A7:=[]}
def G5.ot(en:G5)(k:Nat):SH:=(Pl en.fi.BB k).getD {A7:=[]}
def G5.jn(en:G5)(k:Nat):SH:=(Pl en.fi.Bw k).getD {A7:=[]}
def G5.dr(en:G5)(k:Nat):SH:=(Pl en.fi.YH k).getD {A7:=[]}
def ptG:Nat->Nat->ATU Nat->ATU Nat
 |0,_,a=>a
 |f+1,n,a=>if n<=1 then a else ptG f (n/2) (n%2::a)
def pt(n:Nat):ATU Nat:=ptG 60 n []
section
variable {X Y R:Type}
def cd(f:Func)(n:Nat):Code:=sub (code f) (pt n)
def sb(c:Code)(n:Nat):Code:=sub c (pt n)
noncomputable def JG(en:G5)(m k:Nat):=AHo m (en.hd k) (en.ot k)
noncomputable def Uk(en:G5)(m k:Nat):=AG6 m (en.jn k)
noncomputable def lpS(en:G5)(m k:Nat)(fc:Code)(p:ATU Nat):St->ATV (St⊕(Ex×St)):=pZ en m (en.hd k) (en.ot k) (sub fc (p++[0]))
noncomputable def XJ(en:G5)(m k:Nat)(fc:Code)(p:ATU Nat):St->ATV (Ex×St):=AG7 en m (en.jn k) (sub fc p)
noncomputable def u0(en:G5)(m k:Nat)(fc:Code)(p:ATU Nat):St->ATV St:=AmD en m (en.dr k) (AwG (sub fc p))
noncomputable def kQ(en:G5)(m:Nat)(R:Type)(fc:Code)(p:ATU Nat)(K:Ex->St->ATV R)(q:Ex×St):ATV R:=Adh en m R fc p K q.1 q.2
noncomputable def lpC(en:G5)(m k:Nat)(fc:Code)(p:ATU Nat)(R:Type)(K:Ex->St->ATV R)(s:St):ATV R:=(fix (lpS en m k fc p) s).bind (kQ en m R fc p K)
noncomputable def jnC(en:G5)(m k:Nat)(fc:Code)(p:ATU Nat)(R:Type)(K:Ex->St->ATV R)(s:St):ATV R:=(XJ en m k fc p s).bind (kQ en m R fc p K)
noncomputable def drC(en:G5)(m k:Nat)(fc:Code)(p:ATU Nat)(R:Type)(K:Ex->St->ATV R)(s:St):ATV R:=(u0 en m k fc p s).bind λq=>kQ en m R fc p K (.normal,q)
def A3(en:G5)(m k:Nat)(fc:Code)(n:Nat)(s:X->St)(r:X->ATV (X⊕Y))(o:Y->Ex×St):Prop:=∀x,lpS en m k fc (pt n) (s x)=(r x).map (Sum.map s o)
def AQ(en:G5)(m k:Nat)(fc:Code)(n:Nat)(s:St)(x:ATV Y)(o:Y->Ex×St):Prop:=XJ en m k fc (pt n) s=x.map o
def Qf(en:G5)(m k:Nat)(fc:Code)(n:Nat)(s:St)(x:ATV Y)(o:Y->St):Prop:=u0 en m k fc (pt n) s=x.map o
theorem AF{en:G5}{m k:Nat}{fc:Code}{n:Nat}{s:X->St}{r:X->ATV (X⊕Y)}{o:Y->Ex×St}(h:A3 en m k fc n s r o){K:Ex->St->ATV R}{x:X}{F:Y->ATV R}[Sh Y](hF:Sh.sp F=Sh.sp λy=>kQ en m R fc (pt n) K (o y)) :
    (fix r x).bind F=lpC en m k fc (pt n) R K (s x):=by
 unfold lpC;rw[AlP s o _ r h x,jZ];exact congrArg _ (Sh.ij hF)
theorem Ba{en:G5}{m k:Nat}{fc:Code}{n:Nat}{s:St}{x:ATV Y}{o:Y->Ex×St}(h:AQ en m k fc n s x o){K:Ex->St->ATV R}{F:Y->ATV R}[Sh Y](hF:Sh.sp F=Sh.sp λy=>kQ en m R fc (pt n) K (o y)) :
    x.bind F=jnC en m k fc (pt n) R K s:=by
 unfold jnC;rw[h,jZ];exact congrArg _ (Sh.ij hF)
theorem VE{en:G5}{m k:Nat}{fc:Code}{n:Nat}{s:St}{x:ATV Y}{o:Y->St}(h:Qf en m k fc n s x o){K:Ex->St->ATV R}{F:Y->ATV R}[Sh Y](hF:Sh.sp F=Sh.sp λy=>kQ en m R fc (pt n) K (.normal,o y)) :
    x.bind F=drC en m k fc (pt n) R K s:=by
 unfold drC;rw[h,jZ];exact congrArg _ (Sh.ij hF)
def Po(_:St)(x:ATV R):ATV R:=x
theorem bM(s:St)(x:ATV X)(k:X->ATV Y):(Po s x).bind k=Po s (x.bind k):=rfl
theorem mM(s:St)(x:ATV X)(k:X->Y):(Po s x).map k=Po s (x.map k):=rfl
theorem Ev{en:G5}{m k:Nat}{fc:Code}{p:ATU Nat}{s:St}{e:Ex×St}(h:XJ en m k fc p s=some e){K:Ex->St->ATV R}{T:ATV R}(hT:T=kQ en m R fc p K e):Po s T=jnC en m k fc p R K s:=by
 unfold jnC;rw[h];exact hT
end
noncomputable def zE(ms:ATU PM)(en:G5)(fn:Func):Callee:={pD:=ms,run:=λR args E K=>T6 en fn R args E K}
theorem Amg{ms:ATU PM}{en:G5}{fn:Func}(he:aN en):jG (zE ms en fn):=by
 intro R args E K;show T6 en fn R args E K=(T6 en fn _ args E _).bind _;unfold T6;split
 ·rfl
 ·split
  ·have Xm:∀s ,(match aR E.length en.fi.Xm s with
       |none=>none
       |some σ=>match iT en.Eb σ fn.results.toList with
        |some l=>match rF E.length en.fi.O4 l σ.Aj with
         |some (l,bs)=>match dj en.fi.gk l bs with
          |some (l',HT)=>match lA E.length HT (wU l')with
           |some (v,bs)=>K v bs
           |none=>none
          |none=>none
         |none=>none
        |none=>none)=(match aR E.length en.fi.Xm s with
       |none=>none
       |some σ=>match iT en.Eb σ fn.results.toList with
        |some l=>match rF E.length en.fi.O4 l σ.Aj with
         |some (l,bs)=>match dj en.fi.gk l bs with
          |some (l',HT)=>match lA E.length HT (wU l')with
           |some (v,bs)=>some (v,bs)
           |none=>none
          |none=>none
         |none=>none
        |none=>none).bind λp=>K p.1 p.2:=λs=>by
     cases aR _ _ s with
     |none=>rfl
     |some s =>
      grind
   refine Aas (X9 he _) λe s=>?_;cases e with
   |exit n=>rfl
   |normal=>exact Xm s
   |ret=>exact Xm s
  ·rfl
theorem dR{P:Program}{f:FuncId}{fn:Func}{ms:ATU PM}{en:G5}(he:JM P en)(q:(P.funcs[f]?,fn.name=="runtime.NumGoroutine",fn.body.isNone)=(some fn,false,false):=by kernel_rfl):Ao P f (zE ms en fn) :=
 Ao.of he (k3 q).1 (k3 q).2.1 (k3 q).2.2 (Amg he.bB) λ_ _ _ _ h=>h
inductive Pt where
 |k (a:AV)|AB (ks:List Nat) (t:Ty)|FZ (ks:List Nat) (t:Ty)|ptr (k:Nat) (p:List Nat) (o:Nat)|pr (a b:Pt)|cons (a b:Pt)|fn (f:Nat) (c:Pt)
def AV.isK:AV->AV->Bool
 |.zs,.zs=>true
 |.KQ,.KQ=>true
 |.nil,.nil=>true
 |.un n,.un m=>n==m
 |.AG n,.AG m=>n==m
 |.mp n,.mp m=>n==m
 |.ptr k i p o,.ptr k' i' p' o'=>k==k'&&i==i'&&p==p'&&o==o'
 |.AB [] .unit _,.AB [] .unit _=>true
 |_,_=>false
theorem AV.Awr{a b:AV}(h:a.isK b=true):b=a:=by
 unfold AV.isK at h
 grind
@[reducible] def Pt.T:Pt->Type
 |.k _=>Unit
 |.AB _ t=>t.V
 |.FZ _ t=>t.V
 |.ptr _ _ _=>Int
 |.pr a b=>a.T×b.T
 |.cons a b=>a.T×b.T
 |.fn _ c=>c.T
def Pt.fill:(p:Pt)->p.T->AV
 |.k a,_=>a
 |.AB ks t,x=>.AB ks t x
 |.FZ ks t,x=>.FZ ks t x
 |.ptr j p o,i=>.ptr j i p o
 |.pr a b,x=>.pr (a.fill x.1) (b.fill x.2)
 |.cons a b,x=>.cons (a.fill x.1) (b.fill x.2)
 |.fn f c,x=>.fn f (c.fill x)
def Pt.mt:(p:Pt)->AV->ATV p.T
 |.k a,b=>bif a.isK b then some ()else none
 |.AB ks t,a=>match a with |.AB Vb t' x=>if Vb=ks then JQ t' t x else none |_=>none
 |.FZ ks t,a=>match a with |.FZ Vb t' x=>if Vb=ks then JQ t' t x else none |_=>none
 |.ptr j p o,a=>match a with |.ptr j' i p' o'=>if j'=j/\p'=p/\o'=o then some i else none |_=>none
 |.pr a b,c=>match c with |.pr x y=>(match a.mt x,b.mt y with |some u,some v=>some (u,v)|_,_=>none)|_=>none
 |.cons a b,c=>match c with |.cons x y=>(match a.mt x,b.mt y with |some u,some v=>some (u,v)|_,_=>none)|_=>none
 |.fn f c,a=>match a with |.fn f' x=>if f'=f then c.mt x else none |_=>none
theorem Pt.Vg:∀{p:Pt} {a:AV} {x:p.T},p.mt a=some x->a=p.fill x
 |.k a,b,x,h=>by
  unfold Pt.mt at h;cases e:a.isK b with
  |false=>grind
  |true=>exact AV.Awr e
 |.AB ks t,a,x,h=>by
  unfold Pt.mt at h;cases a with
  |AB Vb t' y =>
   simp only at h;split at h
   ·rename_i e;subst e;obtain⟨e,q⟩:=BO h;subst e;subst q;rfl
   ·grind
  |_=>grind
 |.FZ ks t,a,x,h=>by
  unfold Pt.mt at h;cases a with
  |FZ Vb t' y =>
   simp only at h;split at h
   ·rename_i e;subst e;obtain⟨e,q⟩:=BO h;subst e;subst q;rfl
   ·grind
  |_=>grind
 |.ptr j p o,a,x,h=>by
  unfold Pt.mt at h;cases a with
  |ptr j' i p' o' =>
   simp only at h;split at h
   ·rename_i e;obtain⟨rfl,rfl,rfl⟩:=e;injection h with h;subst h;rfl
   ·grind
  |_=>grind
 |.pr a b,c,x,h=>by
  unfold Pt.mt at h;cases c with
  |pr y z =>
   simp only at h;split at h
   ·rename_i u v hu hv;injection h with h;subst h;rw[Pt.Vg hu,Pt.Vg hv];rfl
   ·grind
  |_=>grind
 |.cons a b,c,x,h=>by
  unfold Pt.mt at h;cases c with
  |cons y z =>
   simp only at h;split at h
   ·rename_i u v hu hv;injection h with h;subst h;rw[Pt.Vg hu,Pt.Vg hv];rfl
   ·grind
  |_=>grind
 |.fn f c,a,x,h=>by
  unfold Pt.mt at h;cases a with
  |fn f' y =>
   simp only at h;split at h
   ·rename_i e;subst e;rw[Pt.Vg h];rfl
   ·grind
  |_=>grind
@[reducible] def AiA:List Pt->Type
 |[]=>Unit
 |p::r=>p.T×AiA r
def AwE:(l:ATU Pt)->AiA l->ATU AV
 |[],_=>[]
 |p::r,x=>p.fill x.1::AwE r x.2
def AmB:(l:ATU Pt)->ATU AV->ATV (AiA l)
 |[],l=>match l with |[]=>some ()|_=>none
 |p::r,l=>match l with |a::ng=>(match p.mt a,AmB r ng with |some u,some v=>some (u,v)|_,_=>none)|_=>none
theorem pO:∀{l:ATU Pt} {a:ATU AV} {x:AiA l},AmB l a=some x->a=AwE l x
 |[],a,x,h=>by
  cases a with
  |nil=>rfl
  |cons _ _=>cases h
 |p::r,a,x,h=>by
  unfold AmB at h;cases a with
  |nil=>grind
  |cons a ng =>
   simp only at h;split at h
   ·rename_i u v hu hv;injection h with h;subst h;rw[Pt.Vg hu,pO hv];rfl
   ·grind
inductive xU where
 |box (p:Pt)|row (e:Nat) (m:RM) (t:Ty)|map (m:RM) (kt vt:Ty)|Bd
def RM.eqb:RM->RM->Bool
 |.Aw,.Aw=>true
 |.sh a,.sh b=>a==b
 |_,_=>false
theorem RM.AgU{a b:RM}(h:a.eqb b=true):b=a:=by
 cases a<;>cases b<;>simp[RM.eqb]at h
 ·rfl
 ·grind
@[reducible] def xU.T:xU->Type
 |.box p=>p.T
 |.row _ _ t=>List t.V
 |.map _ kt vt=>List (kt.V×vt.V)
 |.Bd=>Unit
def xU.fill:(p:xU)->p.T->Blk
 |.box p,x=>.box (p.fill x)
 |.row e m t,x=>.row e m t x
 |.map m kt vt,x=>.map m kt vt x none
 |.Bd,_=>.Bd
def xU.mt:(p:xU)->Blk->ATV p.T
 |.box p,b=>match b with |.box a=>p.mt a |_=>none
 |.row e m t,b=>match b with |.row e' m' t' xs=>if e'=e then bif m.eqb m' then JQ (.sl t') (.sl t) xs else none else none |_=>none
 |.map m kt vt,b=>match b with |.map m' kt' vt' es none=>bif m.eqb m' then JQ (.sl (.AH kt' vt')) (.sl (.AH kt vt)) es else none |_=>none
 |.Bd,b=>match b with |.Bd=>some ()|_=>none
theorem xU.Vg:∀{p:xU} {a:Blk} {x:p.T},p.mt a=some x->a=p.fill x
 |.box p,a,x,h=>by
  cases a with
  |box y=>rw[Pt.Vg h];rfl
  |_=>cases h
 |.row e m t,a,x,h=>by
  unfold xU.mt at h;cases a with
  |row e' m' t' y =>
   simp only at h;split at h
   ·rename_i e0;subst e0;cases hm:m.eqb m' with
    |false=>grind
    |true =>
     rw[hm]at h;have:=RM.AgU hm;subst this;obtain⟨e1,q⟩:=BO h;cases Ty.sl.inj e1;subst q;rfl
   ·grind
  |_=>grind
 |.map m kt vt,a,x,h=>by
  unfold xU.mt at h;cases a with
  |map m' kt' vt' es st =>
   cases st with
   |none =>
    simp only at h;cases hm:m.eqb m' with
    |false=>grind
    |true =>
     rw[hm]at h;have:=RM.AgU hm;subst this;obtain⟨e1,q⟩:=BO h;obtain⟨e2,e3⟩:=Ty.AH.inj (Ty.sl.inj e1);subst e2;subst e3;subst q;rfl
   |some z=>grind
  |_=>grind
 |.Bd,a,x,h=>by
  cases a with
  |Bd=>rfl
  |_=>cases h
@[reducible] def uz:List xU->Type
 |[]=>Unit
 |p::r=>p.T×uz r
def Afu:(l:ATU xU)->uz l->ATU Blk
 |[],_=>[]
 |p::r,x=>p.fill x.1::Afu r x.2
def AaP:(l:ATU xU)->ATU Blk->ATV (uz l)
 |[],l=>match l with |[]=>some ()|_=>none
 |p::r,l=>match l with |a::ng=>(match p.mt a,AaP r ng with |some u,some v=>some (u,v)|_,_=>none)|_=>none
theorem j6:∀{l:ATU xU} {a:ATU Blk} {x:uz l},AaP l a=some x->a=Afu l x
 |[],a,x,h=>by
  cases a with
  |nil=>rfl
  |cons _ _=>cases h
 |p::r,a,x,h=>by
  unfold AaP at h;cases a with
  |nil=>grind
  |cons a ng =>
   simp only at h;split at h
   ·rename_i u v hu hv;injection h with h;subst h;rw[xU.Vg hu,j6 hv];rfl
   ·grind
structure Br where
 pa:List Pt
 pb:List xU
 U:Type
 F:AiA pa×uz pb->Option U
 out:U->AV×List Blk
def de:ATU Br->(R:Type)->ATU AV->ATU Blk->(AV->ATU Blk->ATV R)->ATV R
 |[],_,_,_,_=>none
 |b::r,R,avs,E,K=>match AmB b.pa avs,AaP b.pb E with
  |some x,some y=>(b.F (x,y)).bind λu=>K (b.out u).1 (b.out u).2
  |_,_=>de r R avs E K
def Ci(ms:ATU PM)(bs:ATU Br):Callee:={pD:=ms,run:=de bs}
theorem fw:∀(bs:ATU Br) (R:Type) (args:ATU AV) (E:ATU Blk) (K:AV->ATU Blk->ATV R),de bs R args E K=(de bs (AV×ATU Blk) args E λv b=>some (v,b)).bind λp=>K p.1 p.2
 |[],_,_,_,_=>rfl
 |b::r,R,args,E,K=>by
  unfold de;split
  ·grind
  ·exact fw r R args E K
def AIk(P:Program)(fn:Func)(b:Br):Prop:=∃en,JM P en/\∀p (R:Type) (K:AV->ATU Blk->ATV R),T6 en fn R (AwE b.pa p.1) (Afu b.pb p.2) K=(b.F p).bind λu=>K (b.out u).1 (b.out u).2
def Aeo(P:Program)(fn:Func):ATU Br->Prop
 |[]=>True
 |b::r=>AIk P fn b/\Aeo P fn r
theorem Afv{P:Program}{fn:Func}:∀{bs:ATU Br},Aeo P fn bs->∀args E av E',de bs (AV×ATU Blk) args E (λv b=>some (v,b))=some (av,E')->∃en,JM P en/\T6 en fn (AV×ATU Blk) args E (λv b=>some (v,b))=some (av,E')
 |[],_,_,_,_,_,h=>by cases h
 |b::r,⟨⟨en,he,hb⟩,hr⟩,args,E,av,E',h=>by
  unfold de at h;split at h
  ·rename_i x y hx hy;refine⟨en,he,?_⟩;rw[pO hx,j6 hy];exact(hb (x,y) _ _).trans h
  ·exact Afv hr args E av E' h
theorem Av{P:Program}{f:FuncId}{fn:Func}{ms:ATU PM}{bs:ATU Br}(h:Aeo P fn bs)(q:(P.funcs[f]?,fn.name=="runtime.NumGoroutine",fn.body.isNone)=(some fn,false,false):=by kernel_rfl):Ao P f (Ci ms bs) :=
 Ao.of2 (k3 q).1 (k3 q).2.1 (k3 q).2.2 (fw bs) (Afv h)
def Aen:ATU Br->Prop
 |[]=>True
 |b::r=>(∀p,b.F p=none)/\Aen r
theorem AnC:∀{bs:ATU Br},Aen bs->∀(R:Type) args E K,de bs R args E K=none
 |[],_,_,_,_,_=>rfl
 |b::r,h,R,args,E,K=>by
  unfold de;split
  ·rw[h.1];rfl
  ·exact AnC h.2 R args E K
theorem AkJ{P:Program}{f:FuncId}{ms:ATU PM}{bs:ATU Br}(h:Aen bs):Ao P f (Ci ms bs) where
 bB:=fw bs
 snd args E av E' hr:=by
  rw[show(Ci ms bs).run _ args E _=none from AnC h _ _ _ _]at hr;cases hr
noncomputable abbrev Eu(s:St):Option Unit:=nt s s
theorem Ic{p:Prop}[Decidable p](h:¬p:=by omega):decide p=false:=AQi h
theorem LL{p:Prop}[Decidable p](h:p:=by omega):decide p=true:=AQk h
theorem Q4{c:Prop}[Decidable c](h:¬c:=by omega){A:Sort _}{t e:A}:ite c t e=e:=AQy h
theorem VI{c:Prop}[Decidable c](h:c:=by omega){A:Sort _}{t e:A}:ite c t e=t:=AQx h
abbrev ASr:=And.intro @mC (And.intro @mI (And.intro @mN (And.intro @mB (And.intro @mE @mM))))
abbrev ASs:=And.intro @bC (And.intro @bI (And.intro @bN (And.intro @bE (And.intro @bA (And.intro @bS (And.intro @bO @bM))))))
abbrev wI(x:Int):Int:=IntKind.i64.wrap x
end Go.Va
namespace Go.Proofs.X
open Go Go.Va Go.Proofs.Tryz
set_option maxRecDepth 100000
abbrev Tlaws_Decl:Ty:=(.AH .str (.AH (.int .i64) .unit))
abbrev jQ:Ty:=(.AH (.int .i64) (.AH (.sl (.int .u64)) .unit))
abbrev Zb:Ty:=(.AH (.int .i64) (.AH (.int .i64) (.AH (.int .i64) (.AH (.int .i64) (.AH jQ (.AH (.sl (.int .i64)) .unit))))))
abbrev Tlaws_Term:Ty:=(.AH (.sl Zb) .unit)
abbrev Tlaws_Literal:Ty:=(.AH (.int .i64) (.AH .bool (.AH Tlaws_Term (.AH Tlaws_Term .unit))))
abbrev Am:Ty:=(.AH (.sl (.sl (.int .i64))) .unit)
abbrev Ai:Ty:=(.AH (.int .i64) (.AH (.sl (.int .u64)) .unit))
abbrev Ap:Ty:=(.AH (.sl (.int .i64)) (.AH .bool (.AH Ai .unit)))
abbrev O1:Ty:=(.AH Am (.AH (.sl Ap) (.AH (.sl (.int .i64)) .unit)))
abbrev Ab:Ty:=(.AH .str (.AH (.int .i64) .unit))
abbrev Ah:Ty:=(.AH (.int .i64) (.AH (.int .i64) (.AH (.int .i64) (.AH (.int .i64) (.AH Ai (.AH (.sl (.int .i64)) .unit))))))
abbrev An:Ty:=(.AH (.sl Ah) .unit)
abbrev Af:Ty:=(.AH (.int .i64) (.AH .bool (.AH An (.AH An .unit))))
abbrev Ae:Ty:=(.AH (.int .i64) (.AH (.int .i64) (.AH (.int .i64) .unit)))
abbrev A6:Ty:=(.AH (.int .i64) (.AH Ai .unit))
abbrev As:Ty:=(.AH A6 (.AH A6 (.AH (.int .i64) .unit)))
abbrev X5:Ty:=(.AH (.int .i64) (.AH (.int .i64) (.AH (.int .i64) .unit)))
abbrev ui:Ty:=(.AH (.sl Ai) (.AH (.sl X5) (.AH (.sl (.int .i64)) .unit)))
abbrev Ag:Ty:=(.AH (.int .i64) (.AH (.int .i64) (.AH (.int .i64) (.AH Ai .unit))))
abbrev Ak:Ty:=(.AH (.int .i64) (.AH (.int .i64) (.AH (.int .u64) .unit)))
abbrev Aa:Ty:=(.AH (.int .i64) (.AH (.int .i64) .unit))
abbrev Au:Ty:=(.AH (.sl Aa) (.AH (.sl .bool) .unit))
abbrev ug:Ty:=(.AH (.sl Ab) (.AH (.sl Af) (.AH (.sl (.AH (.sl Ag) (.AH (.sl Ag) .unit))) (.AH Am (.AH (.sl Ae) (.AH (.Sp 1) .unit))))))
abbrev qE:Ty:=(.AH (.sl (.int .i64)) (.AH (.sl (.int .i64)) (.AH (.Sp 1) (.AH (.sl X5) .unit))))
abbrev qD:Ty:=(.AH (.sl Ab) (.AH (.sl (.sl .bool)) (.AH (.Sp 1) (.AH (.sl (.AH (.int .i64) (.AH (.int .i64) .unit))) .unit))))
abbrev jP:Ty:=(.AH (.int .i64) (.AH (.int .i64) (.AH (.int .i64) .unit)))
abbrev Lw:Ty:=(.AH Ag (.AH (.int .i64) .unit))
abbrev Ay:=Blk.row 2 .Aw (.int .i64)
abbrev Bq:=Blk.row 199 .Aw (.int .u64)
abbrev Ce:=Blk.row 154 .Aw (.sl .bool)
abbrev C7:=Blk.row 164 .Aw Ae
abbrev CS:=Blk.row 222 .Aw (.AH (.sl Ag) (.AH (.sl Ag) .unit))
abbrev Dn:=Blk.row 32 .Aw (.sl (.int .i64))
abbrev Il:=Blk.row 4 .Aw .bool
abbrev FK:=Blk.row 225 .Aw Aa
abbrev Fc:=Blk.row 198 .Aw Aa
abbrev DG:=Blk.row 151 .Aw Ae
abbrev B5:=Blk.row 218 .Aw Ag
abbrev Gp:=Blk.row 57 (.sh []) Ai
abbrev Cf:=Blk.row 218 (.sh []) Ag
abbrev Fx:=Blk.row 102 .Aw Ap
abbrev WZ:=Blk.row 156 .Aw Au
abbrev Ib:=Blk.row 182 .Aw Ah
abbrev Lg:=Blk.row 5 .Aw (.int .u8)
abbrev MP:=Blk.row 87 .Aw Af
abbrev OC:=Blk.row 87 (.sh []) Af
abbrev eW:=Blk.row 96 (.sh []) As
abbrev Sf:=Blk.row 122 .Aw (.sl Ag)
abbrev Vr:=Blk.row 207 .Aw (.sl Ak)
abbrev Vs:=Blk.row 0 .Aw Ah
abbrev W0:=Blk.row 105 .Aw Ab
abbrev YB:=Blk.row 252 .Aw Ae
abbrev YC:=Blk.row 210 .Aw Ak
abbrev jE:=Blk.row 153 (.sh []) (.sl Aa)
abbrev jF:=Blk.row 122 (.sh []) (.sl Ag)
abbrev tH:=Blk.row 96 .Aw As
abbrev tJ:=Blk.row 0 .Aw (.int .u64)
abbrev tK:=Blk.row 0 .Aw (.int .i64)
abbrev HQ:=Blk.map .Aw Aa (.sl Aa)
abbrev Kk:=Blk.map (.sh []) (.int .i64) Ai
abbrev HR:=Blk.map .Aw Aa (.int .i64)
abbrev cM:=Blk.map .Aw (.int .i64) (.sl Ae)
abbrev Aax:=Blk.map .Aw (.int .i64) Ae
abbrev Aay:=Blk.map .Aw (.int .i64) (.int .i64)
abbrev Ar:=dD (.sl Ab)
abbrev Bb:=dD (.sl Af)
abbrev BM:=dD Am
abbrev BV:=dD (.sl Ag)
abbrev Gw:=dD (.sl Ae)
abbrev BJ:=dD (.sl (.int .i64))
abbrev G0:=dD An
abbrev Xk:=dD Ah
abbrev Ik:=dD (.sl (.sl (.int .i64)))
abbrev Lf:=dD Ag
abbrev EE:=dD Ae
abbrev JK:=dD Ai
abbrev Ia:=dD .str
abbrev TE:=dD (.sl Aa)
abbrev Yy:=dD (.sl (.sl .bool))
abbrev Sd:=dD (.sl (.sl Aa))
abbrev OB:=dD (.sl (.sl Ag))
abbrev Vp:=dD (.sl (.int .u64))
abbrev Vq:=dD (.sl (.sl Af))
abbrev Yz:=dD Af
abbrev aL:=dD (.sl .bool)
abbrev aM:=dD (.sl (.int .u8))
abbrev eV:=dD Ab
abbrev tA:=dD (.sl (.sl Ak))
abbrev jC:=dD (.sl Ah)
abbrev jD:=dD Au
abbrev tB:=dD (.sl As)
abbrev Aq:=AV.ptr 0 0 [] 0
abbrev A1:=AV.ptr 1 0 [] 0
abbrev EB:=AV.ptr 2 0 [] 0
abbrev OZ:=AV.ptr 5 0 [] 0
abbrev Nz:=AV.ptr 3 0 [] 0
abbrev YA:=AV.ptr 6 0 [] 0
abbrev Qy:=AV.ptr 4 0 [] 0
abbrev tG:=AV.ptr 8 0 [] 0
abbrev Wv:AV:=.pr .zs .u
abbrev Tj:AV:=.pr (dI 0) Wv
abbrev Aj8:AV:=.pr (.AG 1) (.pr (.pr (.AG 2) .u) (.pr (.AG 3) (.pr (.mp 4) .u)))
abbrev tL:AV:=.pr (.AG 4) (.pr (.pr (.AG 1) .u) (.pr (.AG 5) (.pr (.mp 6) .u)))
abbrev Akb:AV:=.pr (.AG 2) (.pr (.mp 3) (.pr (.AG 4) .u))
abbrev iZ:AV:=.pr Wv (.pr .zs Wv)
abbrev Am0:AV:=.pr (.AG 5) (.pr (.AG 6) .u)
abbrev AHu:AV:=.pr (.mp 3) (.pr (.AG 7) .u)
abbrev om:AV:=.pr (.AG 3) .u
abbrev cN:AV:=.pr (.AG 2) .u
abbrev ZW:AV:=.pr (.AG 5) .u
abbrev Aci:AV:=.pr (.AG 5) (.pr (.AG 6) (.pr (.AG 7) .u))
abbrev eZ:AV:=.pr (.AG 4) .u
abbrev I8:AV:=.AG 1
abbrev Ps:AV:=.pr (.AG 0) .u
abbrev Aot:AV:=.pr I8 (.pr (.mp 2) (.pr (.AG 6) .u))
abbrev Pu:AV:=.AG 2
abbrev AHr:AV:=.pr (.AG 8) (.pr (.AG 9) (.pr (.mp 10) (.pr (.AG 11) .u)))
abbrev AHs:AV:=.pr (.AG 5) (.pr (.AG 6) AHu)
abbrev bP:AV:=.pr (dI 0) (.pr Tj .u)
abbrev Aou:AV:=.pr Pu (.pr (.mp 3) ZW)
abbrev Aov:AV:=.pr (.AG 9) (.pr (.AG 10) (.pr (.mp 11) (.pr (.AG 12) .u)))
abbrev qk:AV:=.pr Pu om
abbrev Aow:AV:=.pr cN (.pr .zs (.pr (.AG 8) .u))
abbrev xQ:AV:=.pr .zs Wv
abbrev xS:AV:=.pr (.AG 4) Am0
abbrev HS:AV:=.AG 0
abbrev fa:AV:=.pr Pu AHu
abbrev fb:AV:=.pr I8 Akb
abbrev Aj9:AV:=.pr (.AG 7) .u
abbrev Aox:AV:=.pr I8 (.pr (.mp 2) ZW)
abbrev AHt:AV:=.pr (.AG 3) eZ
abbrev UV:AV:=.AG 4
abbrev fe:AV:=.pr I8 .u
abbrev Aka:AV:=.pr I8 qk
abbrev xT:AV:=.pr (.AG 6) .u
abbrev Acj:AV:=.pr I8 (.pr (.mp 2) om)
abbrev tC:=([(3,.AG 0)]:List (Nat×AV))
abbrev AmY Cq CP:=([(0,BJ Cq),(3,.AG 0),(4,dI CP)]:List (Nat×AV))
abbrev AmZ Cq CP:=([(0,Bb Cq),(3,.AG 0),(4,dI CP)]:List (Nat×AV))
abbrev Wr Cq:=([.box (Xk Cq)]:List Blk)
abbrev tE:=([(6,.AG 0)]:List (Nat×AV))
abbrev tF Cq CP DN:=([.box (G0 Cq),Ay CP,Il DN]:List Blk)
abbrev mQ:=([(4,dB false)]:List (Nat×AV))
abbrev oi:=([(7,.AG 0)]:List (Nat×AV))
abbrev AwV Cq:=([(2,Sd Cq),(4,Aq),(7,.zs),(11,A1)]:List (Nat×AV))
abbrev Aj7 Cq CP:=([.box Tj,.box (.pr (dI Cq) cN),Bq CP]:List Blk)
abbrev qf Cq CP DN:=([(0,TE Cq),(4,.AG 0),(5,dI CP),(6,dI DN)]:List (Nat×AV))
abbrev Ab5 Cq CP:=([(0,TE Cq),(4,.AG 0),(6,dI CP),(7,.AG 1)]:List (Nat×AV))
abbrev Ab6 Cq:=([.box Wv,.box cN,Dn Cq]:List Blk)
abbrev Ab7 Cq CP:=([(0,Ar Cq),(3,Aq),(5,.AG 1),(6,dI CP)]:List (Nat×AV))
abbrev AjB Cq CP DN:=([(0,BV Cq),(3,.AG 0),(4,dI CP),(5,dI DN)]:List (Nat×AV))
abbrev Ab8 Cq CP:=([.box xQ,.box qk,Fc Cq,Il CP]:List Blk)
abbrev Ui Cq CP:=([Ce Cq,WZ CP]:List Blk)
abbrev Ab9 Cq CP DN Iy:=([(2,.AG 0),(9,.AG 1),(13,dB Cq),(14,dI CP),(15,dI DN),(16,dI Iy)]:List (Nat×AV))
abbrev AjC Cq CP DN Iy Q2 dN:=([(2,.AG 0),(9,.AG 1),(13,dB Cq),(14,dI CP),(15,dI DN),(16,dI Iy),(17,dI Q2),(18,dI dN)]:List (Nat×AV))
abbrev xG Cq CP DN Iy Q2:=([(2,.AG 0),(9,.AG 1),(13,dB Cq),(14,dI CP),(15,dI DN),(16,dI Iy),(17,dI Q2)]:List (Nat×AV))
abbrev AjD Cq CP:=([(2,.AG 0),(7,.AG 1),(9,.AG 2),(10,dI Cq),(11,dI CP)]:List (Nat×AV))
abbrev AjE Cq CP DN:=([(0,Yy Cq),(2,Aq),(3,A1),(4,dI CP),(5,.AG 2),(6,dI DN)]:List (Nat×AV))
abbrev Aca Cq CP:=([.box Wv,.box om,Ay Cq,Dn CP]:List Blk)
abbrev qg Cq CP DN Iy Q2:=([(8,.zs),(15,Aq),(16,A1),(17,Yy Cq),(18,Ik CP),(19,Gw DN),(20,.AG 2),(21,dI Iy),(22,dI Q2)]:List (Nat×AV))
abbrev mJ Cq CP DN Iy Q2:=([.box AHt,.box Am0,eW Cq,Fc CP,Il DN,Fc Iy,Il Q2]:List Blk)
abbrev Aom Cq CP DN Iy Q2 dN vx h7_ h8_ h9_ AvI:=([.box Am0,.box (.pr (.AG 7) (.pr (.AG 8) .u)),eW Cq,.box (.pr (dI CP) (.pr (.pr (dI DN) (.pr (.AG 9) .u)) .u)),.box (.pr (dI Iy) (.pr (.pr (dI Q2) (.pr (.AG 10) .u)) .u)),Fc dN,Il vx,Fc h7_,Il h8_,Bq h9_,Bq AvI]:List Blk)
abbrev qh Cq CP DN Iy:=([(0,Gw Cq),(1,.AG 0),(2,dI CP),(3,dI DN),(10,dI Iy)]:List (Nat×AV))
abbrev xH Cq CP DN:=([(0,BJ Cq),(3,.AG 0),(4,dI CP),(5,dI DN)]:List (Nat×AV))
abbrev AjF Cq CP DN:=([(0,.AG 0),(6,dI Cq),(7,dI CP),(8,dI DN)]:List (Nat×AV))
abbrev xI Cq CP DN:=([.box Aka,Gp Cq,C7 CP,Ay DN]:List Blk)
abbrev AjG Cq CP DN:=([(6,Aq),(10,A1),(11,dI Cq),(12,.ptr 2 CP [] 0),(19,dI DN)]:List (Nat×AV))
abbrev AjH Cq CP DN Iy Q2:=([.box iZ,.box (.pr (BM Cq) (.pr (.AG 3) Wv)),.box xS,Fx CP,Gp DN,C7 Iy,Ay Q2]:List Blk)
abbrev xJ Cq CP DN Iy Q2 dN:=([.box iZ,.box (.pr (BM Cq) (.pr UV Wv)),.box Aci,.box (.pr (.AG 8) (.pr (dB false) (.pr Tj .u))),Fx CP,Gp DN,C7 Iy,Ay Q2,Ay dN]:List Blk)
abbrev AjI Cq CP DN Iy:=([(6,Aq),(10,A1),(11,dI Cq),(12,.ptr 2 CP [] 0),(19,dI DN),(20,Nz),(21,dI Iy)]:List (Nat×AV))
abbrev Acb Cq CP DN Iy Q2:=([(0,Ar Cq),(1,Bb CP),(6,Aq),(8,A1),(10,EB),(11,dI DN),(12,.ptr 3 Iy [] 0),(13,dI Q2)]:List (Nat×AV))
abbrev xK Cq CP DN Iy Q2:=([.box iZ,.box (BM Cq),.box (.pr (BM CP) xQ),.box xS,Gp DN,C7 Iy,Ay Q2]:List Blk)
abbrev Aon Cq CP DN Iy Q2:=([(0,Ar Cq),(1,Bb CP),(6,Aq),(7,dB true),(8,A1),(10,EB),(11,dI DN),(12,.ptr 3 Iy [] 0),(13,dI Q2)]:List (Nat×AV))
abbrev Aoo Cq CP DN Iy Q2 dN vx:=([.box (.pr (BM Cq) (.pr .zs eZ)),.box (BM CP),.box (.pr (BM DN) (.pr .zs eZ)),.box Aci,Ay Iy,Gp Q2,C7 dN,Ay vx]:List Blk)
abbrev mK Cq CP DN Iy:=([.box Tj,.box Tj,.box (.pr (dI Cq) eZ),.box (.pr (dI CP) ZW),Bq DN,Bq Iy]:List Blk)
abbrev AjJ Cq CP DN Iy:=([.box (.pr (dI Cq) cN),.box (.pr (dI CP) om),Bq DN,Bq Iy]:List Blk)
abbrev AjK Cq CP DN:=([(0,Ar Cq),(5,Aq),(8,A1),(11,Bb CP),(12,dI DN)]:List (Nat×AV))
abbrev Acd Cq CP:=([(0,.FZ [] Ah Cq),(7,dI CP)]:List (Nat×AV))
abbrev AjL Cq CP DN Iy:=([(1,dI Cq),(3,A1),(10,Vp CP),(11,dI DN),(12,dI Iy)]:List (Nat×AV))
abbrev AjM Cq CP DN:=([(0,.AG 1),(8,BV Cq),(9,dI CP),(10,dI DN)]:List (Nat×AV))
abbrev AjN Cq CP DN Iy:=([(0,.AG 1),(6,EB),(7,dI Cq),(8,BV CP),(9,dI DN),(10,dI Iy)]:List (Nat×AV))
abbrev AjO Cq CP DN Iy:=([(1,dI Cq),(2,dI CP),(3,Aq),(6,A1),(7,EB),(15,dI DN),(16,dI Iy)]:List (Nat×AV))
abbrev AjP Cq CP DN:=([.box (JK Cq),.box Tj,.box (.pr (dI CP) om),Bq DN]:List Blk)
abbrev AjQ Cq CP DN:=([(3,.AG 0),(7,Bb Cq),(8,dI CP),(9,dI DN)]:List (Nat×AV))
abbrev AjR Cq CP DN Iy:=([(3,.AG 0),(5,A1),(6,dI Cq),(8,BV CP),(9,dI DN),(10,dI Iy)]:List (Nat×AV))
abbrev xL Cq CP DN Iy:=([(0,.ptr 0 Cq [] 0),(8,Gw CP),(9,Gw DN),(10,dI Iy)]:List (Nat×AV))
abbrev mL Cq CP DN Iy Q2:=([.box (.pr (Ar Cq) Aou),CS CP,Ce DN,HQ Iy none,.Bd,FK Q2]:List Blk)
abbrev Ace Cq CP DN Iy:=([(0,.ptr 0 Cq [] 0),(8,Gw CP),(9,Gw DN),(10,dI Iy),(13,OZ),(14,YA)]:List (Nat×AV))
abbrev Acf Cq CP DN Iy Q2 dN vx h7_ h8_:=([.box (.pr (Ar Cq) fa),CS CP,Ce DN,HQ Iy none,.Bd,.box (.pr (dI Q2) (.pr (dI dN) .u)),.box (.pr (dI vx) (.pr (dI h7_) .u)),FK h8_]:List Blk)
abbrev xM Cq CP DN Iy:=([(0,.ptr 0 Cq [] 0),(8,Gw CP),(9,Gw DN),(10,dI Iy),(11,OZ),(12,YA)]:List (Nat×AV))
abbrev AjS Cq CP DN Iy Q2:=([(0,.ptr 0 Cq [] 0),(1,.AB [1] (.sl Ag) CP),(2,.AB [1] (.sl Ag) DN),(18,.AG 5),(19,dI Iy),(20,dI Q2)]:List (Nat×AV))
abbrev AjT Cq CP DN Iy Q2 dN:=([.box (.pr (Ar Cq) (.pr Pu (.pr (.mp 3) xT))),CS CP,Ce DN,HQ Iy none,.Bd,.row 218 (.sh [1]) Ag Q2,FK dN]:List Blk)
abbrev mP Cq CP DN Iy Q2:=([.box (.pr (Ar Cq) Aot),Ce CP,HQ DN none,.Bd,.box Wv,.box Aj9,FK Iy,Dn Q2]:List Blk)
abbrev Acg Cq CP DN Iy Q2 dN:=([(2,Qy),(7,OZ),(8,dI Cq),(68,.AG 1),(69,dI CP),(70,dI DN),(75,.AB [1] (.sl .bool) Iy),(76,dI Q2),(77,dI dN)]:List (Nat×AV))
abbrev Ach Cq CP DN Iy:=([.box (.pr (Ar Cq) Aox),Ce CP,HQ DN none,.Bd,.box Wv,FK Iy]:List Blk)
abbrev AjU Cq CP DN Iy:=([(3,Aq),(5,.AG 1),(6,dI Cq),(8,EB),(12,BV CP),(13,dI DN),(14,dI Iy)]:List (Nat×AV))
abbrev iA Cq CP DN:=([.box (BM Cq),Ay CP,.box (Lf DN)]:List Blk)
abbrev AjV Cq CP DN Iy Q2 dN vx:=([(3,Aq),(5,.AG 1),(6,dI Cq),(8,EB),(12,BV CP),(13,dI DN),(14,dI Iy),(30,BJ Q2),(31,dI dN),(32,dI vx)]:List (Nat×AV))
abbrev xO Cq CP DN:=([cM Cq none,Aax CP none,.tail 2 (.int .i64) DN]:List Blk)
abbrev AjW Cq CP DN Iy Q2:=([(1,dI Cq),(2,dI CP),(7,.mp 0),(10,.mp 1),(11,.AG 2),(71,.AB [0] (.sl Ae) DN),(72,dI Iy),(73,dI Q2)]:List (Nat×AV))
abbrev AjX Cq CP DN Iy Q2:=([(1,dI Cq),(2,dI CP),(7,.mp 0),(9,A1),(20,Gw DN),(21,dI Iy),(22,dI Q2)]:List (Nat×AV))
abbrev iB Cq CP DN Iy:=([.box AHs,.Bd,.Bd,Kk Cq none,.Bd,Ay CP,Ay DN,C7 Iy]:List Blk)
abbrev AjY Cq CP DN Iy Q2:=([(0,.ptr 0 Cq [] 0),(10,dI CP),(11,dI DN),(12,dI Iy),(13,dI Q2)]:List (Nat×AV))
abbrev AjZ Cq CP DN Iy Q2 dN:=([.box fb,Ay Cq,Ay CP,Kk DN none,C7 Iy,Fx Q2,Aay dN none]:List Blk)
abbrev qj Cq CP DN Iy Q2:=([(0,.ptr 0 Cq [] 0),(2,OZ),(3,YA),(4,.ptr 7 CP [] 0),(25,Bb DN),(26,dI Iy),(27,dI Q2)]:List (Nat×AV))
abbrev xP Cq CP DN Iy Q2 dN vx h7_ h8_ h9_:=([.box (.pr (Ar Cq) (.pr (Bb CP) Aj8)),CS DN,Dn Iy,DG Q2,HR dN none,.box iZ,.box (.pr cN xQ),.box AHr,Ay vx,Ay h7_,Kk h8_ none,C7 h9_]:List Blk)
abbrev Aj0 Cq CP DN Iy Q2 dN vx h7_ h8_ h9_ AvI:=([.box (.pr (Ar Cq) (.pr (Bb CP) Aj8)),CS DN,Dn Iy,DG Q2,HR dN none,.box Aow,.box Aow,.box Aov,Ay vx,Ay h7_,Ay h8_,Kk h9_ none,C7 AvI]:List Blk)
abbrev Aj1 Cq CP DN Iy Q2 dN vx h7_ h8_:=([.box (.pr (Ar Cq) (.pr (Bb CP) tL)),Dn DN,Fx Iy,Ay Q2,CS dN,DG vx,HR h7_ none,Vr h8_]:List Blk)
abbrev Aop Cq CP DN Iy Q2 dN vx:=([(0,.ptr 0 Cq [] 0),(5,.AG 7),(8,dI CP),(9,tG),(39,.AG 2),(40,dI DN),(41,dI Iy),(47,.AB [2] (.sl (.int .i64)) Q2),(48,dI dN),(49,dI vx)]:List (Nat×AV))
abbrev Aoq Cq CP DN Iy Q2 dN vx h7_ h8_ h9_:=([(0,.ptr 0 Cq [] 0),(5,.AG 7),(8,dI CP),(9,tG),(12,.ptr 9 0 [] 0),(13,dI DN),(14,.ptr 10 0 [] 0),(39,.AG 2),(40,dI Iy),(41,dI Q2),(47,.AB [2] (.sl (.int .i64)) dN),(48,dI vx),(49,dI h7_),(61,dI h8_),(62,dI h9_)]:List (Nat×AV))
abbrev Aj2 Cq CP DN Iy Q2 dN:=([(1,tA Cq),(5,.AG 0),(7,A1),(10,BV CP),(11,dI DN),(12,dI Iy),(17,dI Q2),(18,dI dN)]:List (Nat×AV))
abbrev Aj3 Cq CP DN:=([(4,Aq),(5,A1),(7,EB),(8,Nz),(19,dD (.sl Ak) Cq),(20,dI CP),(21,dI DN)]:List (Nat×AV))
abbrev Aj4 Cq:=([.box Tj,.box Tj,B5 Cq,.box iZ]:List Blk)
abbrev Aor Cq:=([(6,Aq),(7,A1),(9,.AG 2),(10,dB Cq),(11,.KQ),(12,Nz),(13,dI 1)]:List (Nat×AV))
abbrev Aos Cq:=([(6,Aq),(7,A1),(9,BV Cq),(11,.KQ),(12,EB),(13,dI 1),(39,dB true)]:List (Nat×AV))
abbrev Aj5 Cq CP DN:=([(0,Ar Cq),(5,Aq),(8,A1),(9,EB),(11,Bb CP),(12,dI DN)]:List (Nat×AV))
abbrev Aj6 Cq CP DN Iy Q2:=([.box (G0 Cq),.box (.pr (dI CP) om),.box (.pr (dI DN) eZ),Bq Iy,Bq Q2]:List Blk)
abbrev Lv Cq CP:=([(0,.AG 0),(1,dI Cq),(5,dI CP)]:List (Nat×AV))
abbrev ATE:Ty:=.int .i64
abbrev ATF:Ty:=.int .u64
abbrev ATG:Ty:=.int .u8
abbrev ATH:Ty:=.sl Ag
abbrev ATI:Ty:=.sl Aa
abbrev ATJ:Ty:=.sl ATE
abbrev ATK:Ty:=.sl Ab
abbrev ATL:Ty:=.sl Af
abbrev ATM:Ty:=.sl .bool
abbrev ATN:Ty:=.sl Ae
abbrev ATO:Ty:=.sl ATF
abbrev ATP:Ty:=.sl Ak
abbrev ATQ:Ty:=.sl Ah
abbrev ATR:Ty:=.sl ATM
abbrev ATS:Ty:=.sl ATH
abbrev ATT:Ty:=.sl ATJ
abbrev ASt:=A6.V
abbrev ASu:=Aa.V
abbrev ASv:=Ab.V
abbrev ASw:=Ae.V
abbrev ASx:=Af.V
abbrev ASy:=Ag.V
abbrev ASz:=Ah.V
abbrev ASA:=Ai.V
abbrev ASB:=Ak.V
abbrev ASC:=Am.V
abbrev ASD:=An.V
abbrev ASE:=Ap.V
abbrev ASF:=As.V
abbrev ASG:=Au.V
abbrev ASH:=List Int
abbrev ASI:=List Bool
abbrev ASJ:=List Nat
abbrev ASK:=List ASu
abbrev ASL:=List ASv
abbrev ASM:=List ASw
abbrev ASN:=List ASx
abbrev ASO:=List ASy
abbrev ASP:=List ASz
abbrev ASQ:=List ASA
abbrev ASR:=List ASB
abbrev ASS:=List ASE
abbrev AST:=List ASF
abbrev ASU:=List ASG
abbrev ASV:=List ASH
abbrev ASW:=List ASI
abbrev ASX:=List ASK
abbrev ASY:=List ASN
abbrev ASZ:=List ASO
abbrev AS0:=List ASR
abbrev AS1:=Int×ASA
abbrev AS2:=ASu×ASK
abbrev AS3:=ASO×Unit
abbrev AS4:=ASu×Int
abbrev AS5:=Int×ASH
abbrev AS6:=Int×ASM
abbrev AS7:=Int×Int
abbrev AS8:=Bool×ASO
abbrev AS9:=ASL×ASW×ASK
abbrev ATa:=Int×ASw
abbrev ATb:=ASI×ASH
abbrev ATc:=Int×ASP
abbrev ATd:=Bool×ASW
abbrev ATe:=Int×Int×Bool×ASH
abbrev ATf:=Int×ASN
abbrev ATg:=ASH×ASQ×ASM×ASH
abbrev ATh:=Int×ASO
abbrev ATi:=Int×Int×Int×ASH×ASH
abbrev ATj:=Int×Int×Int×Int×ASH
abbrev ATk:=ASH×ASH
abbrev ATl:=ASQ×ASM×ASH
abbrev ATm:=Int×ASQ×ASM×ASH
abbrev ATn:=Int×ASL×ASW×ASK
abbrev ATo:=ASO×ASO×Unit
abbrev ATp:=Int×ASK
abbrev ATq:=Int×Int×ASH
abbrev ATr:=List AS2
abbrev ATs:=ASO×AS3
abbrev ATt:=List AS1
abbrev ATu:=List AS4
abbrev ATv:=List AS6
abbrev ATw:=List ATa
abbrev ATx:=List AS7
abbrev ATy:=List ATs
abbrev ATz:=ASL×ASW×ATr×ASK
abbrev ATA:=ASH×ASH×ATt×ASM×ASS
abbrev ATB:=ASL×ASN×ATy×ASV×ASM×ATu×ASH×ASH×ASH×ATt×ASM
abbrev ATC:=ASL×ASN×ATy×ASV×ASM×ATu×ASH×ASH×ATt×ASM
abbrev ATD:=ASL×ASN×ATy×ASV×ASM×ATu×ASS×ASH
def Eb:Tab:=[
 (2,⟨ATE,[],0,8,0,0,false⟩),
 (3,⟨ATE,[],0,8,0,0,false⟩),
 (4,⟨.bool,[],0,1,0,0,false⟩),
 (5,⟨ATG,[],0,1,0,0,false⟩),
 (9,⟨.str,[],0,16,0,0,false⟩),
 (22,⟨.sl Tlaws_Decl,[],75,24,0,0,false⟩),
 (23,⟨.sl Tlaws_Literal,[],78,24,0,0,false⟩),
 (24,⟨ATT,[],32,24,0,0,false⟩),
 (30,⟨Am,[0],0,24,0,0,false⟩),
 (31,⟨.sl Ap,[],102,24,0,0,false⟩),
 (32,⟨ATJ,[],2,24,0,0,false⟩),
 (34,⟨O1,[0,1,2],0,72,0,0,false⟩),
 (37,⟨ATK,[],105,24,0,0,false⟩),
 (39,⟨ATL,[],87,24,0,0,false⟩),
 (51,⟨.sl Zb,[],186,24,0,0,false⟩),
 (53,⟨Tlaws_Term,[0],0,24,0,0,false⟩),
 (55,⟨ATO,[],199,24,0,0,false⟩),
 (57,⟨Ai,[0,1],0,32,0,0,false⟩),
 (60,⟨ATQ,[],182,24,0,0,false⟩),
 (62,⟨An,[0],0,24,0,0,false⟩),
 (75,⟨Tlaws_Decl,[0,1],0,24,0,0,false⟩),
 (78,⟨Tlaws_Literal,[0,1,2,3],0,64,0,0,false⟩),
 (82,⟨ATN,[],151,24,0,0,false⟩),
 (87,⟨Af,[0,1,2,3],0,64,0,0,false⟩),
 (88,⟨.sl As,[],96,24,0,0,false⟩),
 (94,⟨A6,[0,1],0,40,0,0,false⟩),
 (96,⟨As,[0,3,6],0,88,0,0,false⟩),
 (97,⟨.sl Ai,[],57,24,0,0,false⟩),
 (98,⟨.sl X5,[],164,24,0,0,false⟩),
 (100,⟨ui,[0,1,2],0,72,0,0,false⟩),
 (102,⟨Ap,[0,1,2],0,64,0,0,false⟩),
 (105,⟨Ab,[0,1],0,24,0,0,false⟩),
 (122,⟨ATH,[],218,24,0,0,false⟩),
 (125,⟨.sl ATG,[],5,24,0,0,false⟩),
 (137,⟨.sl ATP,[],207,24,0,0,false⟩),
 (146,⟨ATR,[],154,24,0,0,false⟩),
 (151,⟨Ae,[0,1,2],0,24,0,0,false⟩),
 (153,⟨ATI,[],198,24,0,0,false⟩),
 (154,⟨ATM,[],4,24,0,0,false⟩),
 (156,⟨Au,[0,1],0,48,0,0,false⟩),
 (164,⟨X5,[0,1,2],0,24,0,0,false⟩),
 (168,⟨.sl (.AH ATH (.AH ATH .unit)),[],222,24,0,0,false⟩),
 (172,⟨.Sp 1,[],2,8,0,225,false⟩),
 (174,⟨ug,[0,1,2,3,4,5],0,128,0,0,false⟩),
 (182,⟨Ah,[0,1,2,3,4,6],0,88,0,0,false⟩),
 (184,⟨jQ,[0,1],0,32,0,0,false⟩),
 (186,⟨Zb,[0,1,2,3,4,6],0,88,0,0,false⟩),
 (187,⟨ATS,[],122,24,0,0,false⟩),
 (192,⟨.sl ATI,[],153,24,0,0,false⟩),
 (198,⟨Aa,[0,1],0,16,0,0,false⟩),
 (199,⟨ATF,[],0,8,0,0,false⟩),
 (200,⟨ATF,[],0,8,0,0,false⟩),
 (207,⟨ATP,[],210,24,0,0,false⟩),
 (210,⟨Ak,[0,1,2],0,24,0,0,false⟩),
 (214,⟨.sl ATL,[],39,24,0,0,false⟩),
 (216,⟨.sl Au,[],156,24,0,0,false⟩),
 (218,⟨Ag,[0,1,2,3],0,56,0,0,false⟩),
 (222,⟨.AH ATH (.AH ATH .unit),[],122,48,2,0,false⟩),
 (225,⟨.AH ATE (.AH ATE .unit),[],2,16,2,0,false⟩),
 (226,⟨.Sp 1,[],57,8,0,2,false⟩),
 (228,⟨qE,[0,1,2,3],0,80,0,0,false⟩),
 (231,⟨.Sp 1,[],3,8,0,2,false⟩),
 (243,⟨.Sp 1,[],244,8,0,225,false⟩),
 (244,⟨.sl (.AH ATE (.AH ATE .unit)),[],225,24,0,0,false⟩),
 (246,⟨qD,[0,1,2,3],0,80,0,0,false⟩),
 (249,⟨.sl jP,[],252,24,0,0,false⟩),
 (252,⟨jP,[0,1,2],0,24,0,0,false⟩),
 (257,⟨Lw,[0,5],0,64,0,0,false⟩),
 (260,⟨.Sp 1,[],98,8,0,2,false⟩),
 (261,⟨.Sp 1,[],164,8,0,2,false⟩)]
theorem AHq:ix prog Eb=true:=by kernel_rfl
theorem mixed:prog.follows .mixedOrders=true:=by kernel_rfl
abbrev eN(l:List (Nat×Va.Callee))(fi:FI):G5:=⟨Eb,Pl l,fi⟩
theorem pk{l fi}(h:Aev prog l):JM prog ⟨Eb,Pl l,fi⟩:=⟨⟨AHq,Ag3 h⟩,mixed⟩
noncomputable section
abbrev E0:=eN [] {}
def Km(a:ASv)(b:Int):Int:=(bif decide ((wI (b-(a.1.size:Int)))<0)then(-1)else(wI (b-(a.1.size:Int))))
theorem U0 R a b K:T6 E0 f37 R [eV a,dI b] [] K=K (dI (Km a b)) []:=by
 refine .trans (b:=
 bif decide ((wI (b-(a.1.size:Int)))<0)then
 K (dI (-1)) []
 else
 K (dI (wI (b-(a.1.size:Int)))) []) (by kernel_rfl) ?_
 unfold Km;cases (decide ((wI (b-(a.1.size:Int)))<0));rfl;rfl
def c37:=Ci [.d Ab,.d ATE] [⟨[.AB [] Ab,.AB [] ATE],[],Int,λp=>some (Km p.1.1 p.1.2.1),λr=>(dI r,[])⟩]
theorem Ak5:Ao prog 37 c37:=Av ⟨⟨E0,pk trivial,λ_ _ _=>U0 ..⟩,trivial⟩
abbrev E1:=eN [(37,c37)] {A5:=[(5,[0,1,5])],BB:=[(5,[1,4])]}
def AIX a (z_:Int×Int):=sT 27 [(0,Ar a),(1,dI z_.1),(5,dI z_.2)] []
def AIU(a:ASL):=Sum.elim (λ(b:Int)=>xR 27 [(1,dI b),(4,dI (-1))] []) (λ(c:Int)=>xE 0 27 [(1,dI c)] [])
def WK(a:ASL)(d e:Int):ATV (AS7⊕(Int⊕Int)):=
 bif decide (e<(a.length:Int))then
 if 0<=e/\e<a.length then
 bif decide ((Km (a.getD e.toNat Ab.zero) d)<0)then
 some (.inr (.inl (Km (a.getD e.toNat Ab.zero) d)))
 else
 some (.inl (Km (a.getD e.toNat Ab.zero) d,wI (e+1)))
 else none
 else
 some (.inr (.inr d))
def Mi a (z_:Int×Int):=WK a z_.1 z_.2
def YQ a d e:=fix (Mi a) (d,e)
theorem AI0 a:A3 E1 0 5 (code f6) 122 (AIX a) (Mi a) (AIU a):=by
 intro _;simp only[Mi,WK,ASr];kernel_rfl
def Vf(a:ASL)(g:Int):ATV Int:=
 bif decide ((wI (g-(a.length:Int)))<0)then
 some (-1)
 else
 (YQ a (wI (g-(a.length:Int))) 0).bind (Sum.elim (λb=>some (-1)) (λc=>some c))
def c6:=Ci [.d ATK,.d ATE] [⟨[.AB [] ATK,.AB [] ATE],[],Int,λp=>Vf p.1.1 p.1.2.1,λr=>(dI r,[])⟩]
theorem Avy:Ao prog 6 c6:=Av (fn:=f6) ⟨⟨E1,pk ⟨Ak5,trivial⟩,λ_ R K=>by
 simp(disch:=refine id ?_;kernel_rfl) only[Vf,ASs,YQ,AF (AI0 _) (K:=A0 E1 f6 0 R K)];kernel_rfl⟩,trivial⟩
abbrev E2:=eN [] {}
def Dm(a:ASH)(b:Int):Int:=(bif decide ((wI (b-(a.length:Int)))<0)then(-1)else(wI (b-(a.length:Int))))
theorem U2 R a b K:T6 E2 f170 R [Vp a,dI b] [] K=K (dI (Dm a b)) []:=by
 refine .trans (b:=
 bif decide ((wI (b-(a.length:Int)))<0)then
 K (dI (-1)) []
 else
 K (dI (wI (b-(a.length:Int)))) []) (by kernel_rfl) ?_
 unfold Dm;cases (decide ((wI (b-(a.length:Int)))<0));rfl;rfl
def AFu:=Ci [.d ATO,.d ATE] [⟨[.AB [] ATO,.AB [] ATE],[],Int,λp=>some (Dm p.1.1 p.1.2.1),λr=>(dI r,[])⟩]
theorem Agm:Ao prog 170 AFu:=Av ⟨⟨E2,pk trivial,λ_ _ _=>U2 ..⟩,trivial⟩
abbrev E3:=eN [(170,AFu)] {}
def Dz(a:ASA)(b:Int):Int:=(bif decide ((Dm a.2.1 b)<0)then(-1)else(Dm a.2.1 b))
theorem U3 R a b K:T6 E3 f147 R [JK a,dI b] [] K=K (dI (Dz a b)) []:=by
 refine .trans (b:=
 bif decide ((Dm a.2.1 b)<0)then
 K (dI (-1)) []
 else
 K (dI (Dm a.2.1 b)) []) (by kernel_rfl) ?_
 unfold Dz;cases (decide ((Dm a.2.1 b)<0));rfl;rfl
def AFc:=Ci [.d Ai,.d ATE] [⟨[.AB [] Ai,.AB [] ATE],[],Int,λp=>some (Dz p.1.1 p.1.2.1),λr=>(dI r,[])⟩]
theorem Af4:Ao prog 147 AFc:=Av ⟨⟨E3,pk ⟨Agm,trivial⟩,λ_ _ _=>U3 ..⟩,trivial⟩
abbrev E4:=eN [] {}
def DT(a:ASH)(b:Int):Int:=(bif decide ((wI (b-(a.length:Int)))<0)then(-1)else(wI (b-(a.length:Int))))
theorem U4 R a b K:T6 E4 f82 R [BJ a,dI b] [] K=K (dI (DT a b)) []:=by
 refine .trans (b:=
 bif decide ((wI (b-(a.length:Int)))<0)then
 K (dI (-1)) []
 else
 K (dI (wI (b-(a.length:Int)))) []) (by kernel_rfl) ?_
 unfold DT;cases (decide ((wI (b-(a.length:Int)))<0));rfl;rfl
def c82:=Ci [.d ATJ,.d ATE] [⟨[.AB [] ATJ,.AB [] ATE],[],Int,λp=>some (DT p.1.1 p.1.2.1),λr=>(dI r,[])⟩]
theorem Alv:Ao prog 82 c82:=Av ⟨⟨E4,pk trivial,λ_ _ _=>U4 ..⟩,trivial⟩
abbrev E5:=eN [(82,c82),(147,AFc)] {}
def IQ(a:ASz)(b:Int):Int:=(bif decide ((Dz a.2.2.2.2.1 b)<0)then(-1)else(bif decide ((DT a.2.2.2.2.2.1 (Dz a.2.2.2.2.1 b))<0)then(-1)else(DT a.2.2.2.2.2.1 (Dz a.2.2.2.2.1 b))))
theorem U5 R a b K:T6 E5 f108 R [Xk a,dI b] [] K=K (dI (IQ a b)) []:=by
 refine .trans (b:=
 bif decide ((Dz a.2.2.2.2.1 b)<0)then
 K (dI (-1)) []
 else
 bif decide ((DT a.2.2.2.2.2.1 (Dz a.2.2.2.2.1 b))<0)then
 K (dI (-1)) []
 else
 K (dI (DT a.2.2.2.2.2.1 (Dz a.2.2.2.2.1 b))) []) (by kernel_rfl) ?_
 unfold IQ;cases (decide ((Dz a.2.2.2.2.1 b)<0));cases (decide ((DT a.2.2.2.2.2.1 (Dz a.2.2.2.2.1 b))<0));rfl;rfl;rfl
def AEN:=Ci [.d Ah,.d ATE] [⟨[.AB [] Ah,.AB [] ATE],[],Int,λp=>some (IQ p.1.1 p.1.2.1),λr=>(dI r,[])⟩]
theorem AfE:Ao prog 108 AEN:=Av ⟨⟨E5,pk ⟨Alv,Af4,trivial⟩,λ_ _ _=>U5 ..⟩,trivial⟩
abbrev E6:=eN [(108,AEN)] {A5:=[(5,[0,1,5])],BB:=[(5,[1,4])]}
def AIY a (z_:Int×Int):=sT 27 [(0,jC a),(1,dI z_.1),(5,dI z_.2)] []
def AIV(a:ASP):=Sum.elim (λ(b:Int)=>xR 27 [(1,dI b),(4,dI (-1))] []) (λ(c:Int)=>xE 0 27 [(1,dI c)] [])
def VU(a:ASP)(d e:Int):ATV (AS7⊕(Int⊕Int)):=
 bif decide (e<(a.length:Int))then
 if 0<=e/\e<a.length then
 bif decide ((IQ (a.getD e.toNat Ah.zero) d)<0)then
 some (.inr (.inl (IQ (a.getD e.toNat Ah.zero) d)))
 else
 some (.inl (IQ (a.getD e.toNat Ah.zero) d,wI (e+1)))
 else none
 else
 some (.inr (.inr d))
def KN a (z_:Int×Int):=VU a z_.1 z_.2
def XM a d e:=fix (KN a) (d,e)
theorem AI1 a:A3 E6 0 5 (code f62) 122 (AIY a) (KN a) (AIV a):=by
 intro _;simp only[KN,VU,ASr];kernel_rfl
def Tx(a:ASP)(g:Int):ATV Int:=
 bif decide ((wI (g-(a.length:Int)))<0)then
 some (-1)
 else
 (XM a (wI (g-(a.length:Int))) 0).bind (Sum.elim (λb=>some (-1)) (λc=>some c))
def c62:=Ci [.d ATQ,.d ATE] [⟨[.AB [] ATQ,.AB [] ATE],[],Int,λp=>Tx p.1.1 p.1.2.1,λr=>(dI r,[])⟩]
theorem Ali:Ao prog 62 c62:=Av (fn:=f62) ⟨⟨E6,pk ⟨AfE,trivial⟩,λ_ R K=>by
 simp(disch:=refine id ?_;kernel_rfl) only[Tx,ASs,XM,AF (AI1 _) (K:=A0 E6 f62 0 R K)];kernel_rfl⟩,trivial⟩
abbrev E7:=eN [(62,c62)] {}
def QI(a:ASD)(b:Int):ATV Int:=
 (Tx a.1 b).bind λc=>bif decide (c<0)then
 some (-1)
 else
 some c
def c23:=Ci [.d An,.d ATE] [⟨[.AB [] An,.AB [] ATE],[],Int,λp=>QI p.1.1 p.1.2.1,λr=>(dI r,[])⟩]
theorem AaQ:Ao prog 23 c23:=Av (fn:=f23) ⟨⟨E7,pk ⟨Ali,trivial⟩,λ_ R K=>by
 simp only[QI,ASs];kernel_rfl⟩,trivial⟩
end
end Go.Proofs.X
namespace Go.Proofs.X
open Go Go.Va Go.Proofs.Tryz
set_option maxRecDepth 100000
noncomputable section
abbrev E8:=eN [(23,c23)] {}
def Rt(a:ASx)(b:Int):ATV Int:=
 (QI a.2.2.1 b).bind λc=>bif decide (c<0)then
 some (-1)
 else
 (QI a.2.2.2.1 c).bind λd=>bif decide (d<0)then
 some (-1)
 else
 some d
def c38:=Ci [.d Af,.d ATE] [⟨[.AB [] Af,.AB [] ATE],[],Int,λp=>Rt p.1.1 p.1.2.1,λr=>(dI r,[])⟩]
theorem Ak6:Ao prog 38 c38:=Av (fn:=f38) ⟨⟨E8,pk ⟨AaQ,trivial⟩,λ_ R K=>by
 simp only[Rt,ASs];kernel_rfl⟩,trivial⟩
abbrev E9:=eN [(38,c38)] {A5:=[(5,[0,1,5])],BB:=[(5,[1,4])]}
def AIZ a (z_:Int×Int):=sT 27 [(0,Bb a),(1,dI z_.1),(5,dI z_.2)] []
def AIW(a:ASN):=Sum.elim (λ(b:Int)=>xR 27 [(1,dI b),(4,dI (-1))] []) (λ(c:Int)=>xE 0 27 [(1,dI c)] [])
def T0(a:ASN)(d e:Int):ATV (AS7⊕(Int⊕Int)):=
 bif decide (e<(a.length:Int))then
 if 0<=e/\e<a.length then
 (Rt (a.getD e.toNat Af.zero) d).bind λg=>bif decide (g<0)then
 some (.inr (.inl g))
 else
 some (.inl (g,wI (e+1)))
 else none
 else
 some (.inr (.inr d))
def Nl a (z_:Int×Int):=T0 a z_.1 z_.2
def VT a d e:=fix (Nl a) (d,e)
theorem AI2 a:A3 E9 0 5 (code f7) 122 (AIZ a) (Nl a) (AIW a):=by
 intro _;simp only[Nl,T0,ASr];kernel_rfl
def PN(a:ASN)(i:Int):ATV Int:=
 bif decide ((wI (i-(a.length:Int)))<0)then
 some (-1)
 else
 (VT a (wI (i-(a.length:Int))) 0).bind (Sum.elim (λb=>some (-1)) (λc=>some c))
def c7:=Ci [.d ATL,.d ATE] [⟨[.AB [] ATL,.AB [] ATE],[],Int,λp=>PN p.1.1 p.1.2.1,λr=>(dI r,[])⟩]
theorem Avz:Ao prog 7 c7:=Av (fn:=f7) ⟨⟨E9,pk ⟨Ak6,trivial⟩,λ_ R K=>by
 simp(disch:=refine id ?_;kernel_rfl) only[PN,ASs,VT,AF (AI2 _) (K:=A0 E9 f7 0 R K)];kernel_rfl⟩,trivial⟩
abbrev E10:=eN [] {}
def WM(a:ASv):(ByteArray×Int):=(a.1,a.2.1)
def c47:=Ci [.d Ab] [⟨[.AB [] Ab],[],ByteArray×Int,λp=>some (WM p.1.1),λr=>(.pr (Ia r.1) (.pr (dI r.2) .u),[])⟩]
theorem Alb:Ao prog 47 c47:=Av (fn:=f47) ⟨⟨E10,pk trivial,λ_ _ _=>by kernel_rfl⟩,trivial⟩
abbrev E11:=eN [(47,c47)] {A5:=[(3,[0,3,4])],BB:=[(3,[3])]}
def AzQ a (z_:Int×ASL):=sT 23 [(0,Ar a),(3,.AG 0),(4,dI z_.1)] [W0 z_.2]
def AxG(a:ASL):=λ(b:ASL)=>xE 0 23 tC [W0 b]
def WN(a:ASL)(c:Int)(d:ASL):ATV ((Int×ASL)⊕ASL):=
 bif decide (c<(a.length:Int))then
 if 0<=c/\c<a.length then
 if 0<=c/\c<d.length then
 some (.inl (wI (c+1),d.set c.toNat ((WM (a.getD c.toNat Ab.zero)).1,(WM (a.getD c.toNat Ab.zero)).2,())))
 else none
 else none
 else
 some (.inr d)
def Mj a (z_:Int×ASL):=WN a z_.1 z_.2
def Ux a c d:=fix (Mj a) (c,d)
theorem AB0 a:A3 E11 0 3 (code f10) 58 (AzQ a) (Mj a) (AxG a):=by
 intro _;simp only[Mj,WN,ASr];kernel_rfl
def IR(a:ASL):ATV ASL:=
 if Ty.row Ab=true/\(0:Int)<=(a.length:Int)/\(a.length:Int)<=(a.length:Int)/\((24:Nat):Int)*(a.length:Int)<=(281474976710656:Int)/\(a.length:Int)<=(9223372036854775807:Int)then
 (Ux a 0 (List.replicate (a.length:Int).toNat ((⟨#[]⟩:ByteArray),0,()))).bind λb=>some b
 else none
def c10:=Ci [.d ATK] [⟨[.AB [] ATK],[],ASL,λp=>IR p.1.1,λr=>(.AG 0,[W0 r])⟩]
theorem AkN:Ao prog 10 c10:=Av (fn:=f10) ⟨⟨E11,pk ⟨Alb,trivial⟩,λ_ R K=>by
 simp(disch:=refine id ?_;kernel_rfl) only[IR,ASs,Ux,AF (AB0 _) (K:=A0 E11 f10 0 R K)];kernel_rfl⟩,trivial⟩
abbrev E12:=eN [] {A5:=[(3,[0,3,4])],BB:=[(3,[3])]}
def AzR a (z_:Int×ASH):=sT 22 [(0,Vp a),(3,.AG 0),(4,dI z_.1)] [Bq z_.2]
def AxH(a:ASH):=λ(b:ASH)=>xE 0 22 tC [Bq b]
def UT(a:ASH)(c:Int)(d:ASH):ATV (AS5⊕ASH):=
 bif decide (c<(a.length:Int))then
 if 0<=c/\c<a.length then
 if 0<=c/\c<d.length then
 some (.inl (wI (c+1),d.set c.toNat (a.getD c.toNat ATF.zero)))
 else none
 else none
 else
 some (.inr d)
def JF a (z_:Int×ASH):=UT a z_.1 z_.2
def Rv a c d:=fix (JF a) (c,d)
theorem AB1 a:A3 E12 0 3 (code f173) 58 (AzR a) (JF a) (AxH a):=by
 intro _;simp only[JF,UT,ASr];kernel_rfl
def J6(a:ASH):ATV ASH:=
 if Ty.row ATF=true/\(0:Int)<=(a.length:Int)/\(a.length:Int)<=(a.length:Int)/\((8:Nat):Int)*(a.length:Int)<=(281474976710656:Int)/\(a.length:Int)<=(9223372036854775807:Int)then
 (Rv a 0 (List.replicate (a.length:Int).toNat 0)).bind λb=>some b
 else none
def AFx:=Ci [.d ATO] [⟨[.AB [] ATO],[],ASH,λp=>J6 p.1.1,λr=>(.AG 0,[Bq r])⟩]
theorem Agp:Ao prog 173 AFx:=Av (fn:=f173) ⟨⟨E12,pk trivial,λ_ R K=>by
 simp(disch:=refine id ?_;kernel_rfl) only[J6,ASs,Rv,AF (AB1 _) (K:=A0 E12 f173 0 R K)];kernel_rfl⟩,trivial⟩
abbrev E13:=eN [(173,AFx)] {}
def WL(a:ASA):ATV AS5:=
 (J6 a.2.1).bind λb=>some (a.1,b)
def AFe:=Ci [.d Ai] [⟨[.AB [] Ai],[],AS5,λp=>WL p.1.1,λr=>(.pr (dI r.1) Ps,[Bq r.2])⟩]
theorem Af6:Ao prog 150 AFe:=Av (fn:=f150) ⟨⟨E13,pk ⟨Agp,trivial⟩,λ_ R K=>by
 simp only[WL,ASs];kernel_rfl⟩,trivial⟩
abbrev E14:=eN [] {A5:=[(3,[0,3,4])],BB:=[(3,[3])]}
def AzS a (z_:Int×ASH):=sT 22 (AmY a z_.1) [Ay z_.2]
def AxI(a:ASH):=λ(b:ASH)=>xE 0 22 tC [Ay b]
def VW(a:ASH)(c:Int)(d:ASH):ATV (AS5⊕ASH):=
 bif decide (c<(a.length:Int))then
 if 0<=c/\c<a.length then
 if 0<=c/\c<d.length then
 some (.inl (wI (c+1),d.set c.toNat (a.getD c.toNat ATE.zero)))
 else none
 else none
 else
 some (.inr d)
def KO a (z_:Int×ASH):=VW a z_.1 z_.2
def SV a c d:=fix (KO a) (c,d)
theorem AB2 a:A3 E14 0 3 (code f97) 58 (AzS a) (KO a) (AxI a):=by
 intro _;simp only[KO,VW,ASr];kernel_rfl
def LF(a:ASH):ATV ASH:=
 if Ty.row ATE=true/\(0:Int)<=(a.length:Int)/\(a.length:Int)<=(a.length:Int)/\((8:Nat):Int)*(a.length:Int)<=(281474976710656:Int)/\(a.length:Int)<=(9223372036854775807:Int)then
 (SV a 0 (List.replicate (a.length:Int).toNat 0)).bind λb=>some b
 else none
def c97:=Ci [.d ATJ] [⟨[.AB [] ATJ],[],ASH,λp=>LF p.1.1,λr=>(.AG 0,[Ay r])⟩]
theorem AlE:Ao prog 97 c97:=Av (fn:=f97) ⟨⟨E14,pk trivial,λ_ R K=>by
 simp(disch:=refine id ?_;kernel_rfl) only[LF,ASs,SV,AF (AB2 _) (K:=A0 E14 f97 0 R K)];kernel_rfl⟩,trivial⟩
abbrev E15:=eN [(97,c97),(150,AFe)] {}
def Ru(a:ASz):ATV (Int×Int×Int×Int×Int×ASH×ASH):=
 (WL a.2.2.2.2.1).bind λb=>(LF a.2.2.2.2.2.1).bind λc=>some (a.1,a.2.1,a.2.2.1,a.2.2.2.1,b.1,b.2,c)
def AES:=Ci [.d Ah] [⟨[.AB [] Ah],[],Int×Int×Int×Int×Int×ASH×ASH,λp=>Ru p.1.1,λr=>(.pr (dI r.1) (.pr (dI r.2.1) (.pr (dI r.2.2.1) (.pr (dI r.2.2.2.1) (.pr (.pr (dI r.2.2.2.2.1) Ps) fe)))),[Bq r.2.2.2.2.2.1,Ay r.2.2.2.2.2.2])⟩]
theorem AfJ:Ao prog 116 AES:=Av (fn:=f116) ⟨⟨E15,pk ⟨AlE,Af6,trivial⟩,λ_ R K=>by
 simp only[Ru,ASs];kernel_rfl⟩,trivial⟩
end
end Go.Proofs.X
