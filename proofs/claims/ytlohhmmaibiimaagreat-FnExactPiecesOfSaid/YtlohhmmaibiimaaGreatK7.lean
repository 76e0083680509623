import Derived.WalkKit
import Derived.ProofKit
import Derived.OpenShut
import Derived.JoinedCond
import Derived.ReadAgain
import Derived.Shelf.SortG.Plain
import Derived.Shelf.SortG.SortNone
import Derived.Shelf.SlicesG.CompactI
import Derived.Test.YtlohhmmaibiimaaGreatShelf
import Derived.Test.YtlohhmmaibiimaaGreatProg
import Derived.KernelRfl
import Derived.Test.YtlohhmmaibiimaaGreatK6
set_option linter.unusedVariables false
set_option linter.unusedSimpArgs false
namespace Go.Va
def Q0(P:Program):Ty->TypeId->Bool
 | .int k,t=>match P.underlying t with | some (.int k')=>k==k' | _=>false
 | .bool,t=>match P.underlying t with | some .bool=>true | _=>false
 | .str,t=>match P.underlying t with | some .string=>true | _=>false
 | .sl u,t=>match P.underlying t with | some (.slice e)=>P.cellsOf e==u.size&&u.size !=0&&Q0 P u e | _=>false
 | .pair a b,t=>match P.underlying t with
  | some (.struct fs)=>P.cellsOf t==a.size+b.size&&(match fs.toList with | f::r=>f.offset==0&&P.cellsOf f.type==a.size&&Q0 P a f.type&&XS P b a.size r | []=>false)
  | _=>false
 | _,_=>false
where XS (P:Program):Ty->Nat->List Field->Bool
 | .pair a b,o,f::r=>f.offset==o&&P.cellsOf f.type==a.size&&Q0 P a f.type&&XS P b (o+a.size) r
 | .unit,_,[]=>true
 | _,_,_=>false
def Ty.Wf:(t:Ty)->t.V->Prop
 | .int k,n=>k.min<=n/\n<=k.max
 | .str,s=>s.size<=maxLen
 | .pair a b,x=>a.Wf x.1/\b.Wf x.2
 | .sl t,xs=>xs.length<=maxLen/\∀x∈xs,t.Wf x
 | _,_=>True
section
variable {P:Program} {H:Type} {enc:TypeId×Value->H} {w:World} {base:Nat} {sp:Nat->Bool} {held:Bool}
def Here(w:World)(b:Nat):Prop:=b<w.heap.size
theorem O8{α β:Type}{f:α->Option β}{x:α}{l:List α}{r:List β}(h:(x::l).mapM f=some r):∃y ys,f x=some y/\l.mapM f=some ys/\r=y::ys:=by
 simp only[List.mapM_cons,Option.bind_eq_bind,Option.pure_def] at h;cases hx:f x with
 | none=>simp[hx] at h
 | some y =>
  cases hl:l.mapM f with
  | none=>simp[hx,hl] at h
  | some ys=>simp[hx,hl] at h;exact⟨y,ys,rfl,rfl,h.symm⟩
theorem Yw(a:Addr)(k:Nat):(a.add k).block=a.block/\(a.add k).off=a.off+k:=by
 unfold Addr.add;split
 ·rename_i h;subst h;exact⟨rfl,rfl⟩
 ·exact⟨rfl,rfl⟩
theorem kL{a:Addr}{k:Nat}{v:Value}(h:w.cell? (a.add k)=some v):w.cell? ⟨a.block,a.off+k,none⟩=some v:=by
 unfold Addr.add at h;split at h
 ·rename_i hk;subst hk;cases a with
  | mk b o sp =>
   cases sp with
   | none=>exact h
   | some q =>
    simp only[World.cell?,Option.isSome_some,if_true] at h;split at h<;>cases h
 ·exact h
theorem fP {u:Ty} {s:Nat} (hs:s=u.size) {a:Addr} {F:List Value->Option (DataW H×List MemPlace)} (ih:∀cs y,F cs=some y->∃x:u.V,FL w (Here w) u x cs/\u.Wf x) :
    ∀(n i:Nat) (ys:List (DataW H×List MemPlace)),(List.range' i n).mapM (λi=>(w.cells? base (a.add (i*s)) s).bind F)=some ys ->
     ∃(xs:List u.V) (ds:List Value),xs.length=n/\BK (FL w (Here w) u) xs ds/\(∀x∈xs,u.Wf x)/\∀j v,ds[j]?=some v->w.cell? ⟨a.block,a.off+i*s+j,none⟩=some v
 | 0,i,ys,_=>⟨[],[],rfl,rfl,λ_ h=>by(cases h),λj v h=>by simp at h⟩
 | n+1,i,ys,h=>by
  rw[List.range'_succ] at h;obtain⟨y,ys',h1,h2,_⟩:=O8 h;obtain⟨c,hc,hF⟩:=Option.bind_eq_some_iff.1 h1;obtain⟨x,hx,hw⟩:=ih c y hF;obtain⟨_,hcl,hcell⟩:=World.cells?_some hc;obtain⟨xs,ds,hl,hr,hwf,hd⟩:=fP hs ih n (i+1) ys' h2;refine⟨x::xs,c++ds,by simp[hl],⟨c,ds,rfl,hx,hr⟩,λz hz=>by
   rcases List.mem_cons.1 hz with rfl | hz
   ·exact hw
   ·exact hwf z hz,λj v hj=>?_⟩
  rw[List.getElem?_append] at hj;split at hj
  ·rename_i hlt;rw[<-hcell j (by omega)] at hj;have:=kL hj;rw[(Yw _ _).1,(Yw _ _).2] at this;exact this
  ·rename_i hge;have:=hd _ v hj;have h3:(i+1)*s=i*s+s:=by rw[Nat.add_mul,Nat.one_mul]
   rw[show a.off+(i+1)*s+(j-c.length)=a.off+i*s+j by omega] at this;exact this
theorem Adw:∀(ty:Ty),(∀(t:TypeId) (fuel:Nat) (cs:List Value) (y:DataW H×List MemPlace),Q0 P ty t=true->DataW.trod enc P w base sp held fuel t cs=some y->∃x:ty.V,FL w (Here w) ty x cs/\ty.Wf x) /\
    ∀(o fuel:Nat) (fs:List Field) (cs:List Value) (ys:List (DataW H×List MemPlace)),Q0.XS P ty o fs=true->fs.mapM (λf=>DataW.trod enc P w base sp held fuel f.type ((cs.drop f.offset).take (P.cellsOf f.type)))=some ys->cs.length=o+ty.size ->
     ∃x:ty.V,FL w (Here w) ty x (cs.drop o)/\ty.Wf x:=by
 intro ty;induction ty with
 | int k =>
  refine⟨λt fuel cs y hm h=>?_,λo fuel fs cs ys hm=>by simp[Q0.XS] at hm⟩;simp only[Q0] at hm;split at hm
  ·rename_i k' hu;have:k=k':=by simpa using hm
   subst this;cases fuel with
   | zero=>simp[DataW.trod] at h
   | succ n =>
    simp only[DataW.trod,hu] at h;split at h<;>try (rename_i he;cases he;done)
    all_goals try (cases h;done)
    all_goals try (rename_i he _;cases he;done)
    rename_i k1 k2 n2 he;injection he with he;injection he with he;subst he;split at h
    ·rename_i hc;obtain⟨hk,hwf⟩:=hc;subst hk;simp only[Lit.wf,Aw3,decide_eq_true_eq] at hwf;exact⟨n2,rfl,hwf⟩
    ·cases h
  ·cases hm
 | bool =>
  refine⟨λt fuel cs y hm h=>?_,λo fuel fs cs ys hm=>by simp[Q0.XS] at hm⟩;simp only[Q0] at hm;split at hm
  ·rename_i hu;cases fuel with
   | zero=>simp[DataW.trod] at h
   | succ n =>
    simp only[DataW.trod,hu] at h;split at h<;>try (rename_i he;cases he;done)
    all_goals try (cases h;done)
    all_goals try (rename_i he _;cases he;done)
    rename_i b he;exact⟨b,rfl,trivial⟩
  ·cases hm
 | str =>
  refine⟨λt fuel cs y hm h=>?_,λo fuel fs cs ys hm=>by simp[Q0.XS] at hm⟩;simp only[Q0] at hm;split at hm
  ·rename_i hu;cases fuel with
   | zero=>simp[DataW.trod] at h
   | succ n =>
    simp only[DataW.trod,hu] at h;split at h<;>try (rename_i he;cases he;done)
    all_goals try (cases h;done)
    all_goals try (rename_i he _;cases he;done)
    rename_i s he;split at h
    ·rename_i hc;exact⟨s,rfl,hc⟩
    ·cases h
  ·cases hm
 | unit =>
  refine⟨λt fuel cs y hm=>by simp[Q0] at hm,λo fuel fs cs ys hm h hl=>?_⟩;refine⟨(),?_,trivial⟩;show cs.drop o=[];rw[List.drop_eq_nil_iff];simp only[Ty.size] at hl;omega
 | opq z=>exact⟨λt fuel cs y hm=>by simp[Q0] at hm,λo fuel fs cs ys hm=>by simp[Q0.XS] at hm⟩
 | sl u ih =>
  refine⟨λt fuel cs y hm h=>?_,λo fuel fs cs ys hm=>by simp[Q0.XS] at hm⟩;simp only[Q0] at hm;split at hm
  ·rename_i e hu;simp only[Aw3,beq_iff_eq,bne_iff_ne] at hm;obtain⟨⟨hsz,hpos⟩,hm⟩:=hm;cases fuel with
   | zero=>simp[DataW.trod] at h
   | succ n =>
    simp only[DataW.trod,hu] at h;split at h<;>try (rename_i he;cases he;done)
    all_goals try (cases h;done)
    all_goals try (rename_i he _;cases he;done)
    all_goals try (rename_i he _ _;cases he;done)
    ·exact⟨[],⟨none,0,[],rfl,Aw2 _,rfl,.inl rfl⟩,Nat.zero_le _,λx hx=>by(cases hx)⟩
    ·rename_i e' a len cap he;injection he with he;injection he with he;subst he;split at h
     ·rename_i hc;obtain⟨elems,hel,_⟩:=Option.bind_eq_some_iff.1 h;rw[List.range_eq_range'] at hel;obtain⟨xs,ds,hxl,hr,hwf,hd⟩:=fP (u:=u) hsz (λcs y hy=>ih.1 e n cs y hm hy) len 0 elems hel;subst hxl;refine⟨xs,⟨some a,cap,ds,rfl,hc.2.1,hr,?_⟩,Nat.le_trans hc.2.1 hc.2.2,hwf⟩;cases xs with
      | nil=>exact .inl rfl
      | cons x xs =>
       refine .inr ?_;rw[List.length_cons,List.range'_succ] at hel;obtain⟨y1,_,h1,_,_⟩:=O8 hel;obtain⟨c,hc1,_⟩:=Option.bind_eq_some_iff.1 h1;obtain⟨_,hcl,hcell⟩:=World.cells?_some hc1;have hc0:=hcell 0 (by omega);have hsp:a.spot=none/\Here w a.block:=by
        have hcv:∃v,c[0]?=some v:=⟨_,List.getElem?_eq_getElem (by omega)⟩;obtain⟨v,hv⟩:=hcv;rw[hv] at hc0;have hc0:w.cell? a=some v:=by simpa [Addr.add] using hc0
        refine⟨?_,World.block_lt_of_cell? w a hc0⟩;cases hsp:a.spot with
        | none=>rfl
        | some q =>
         unfold World.cell? at hc0;rw[hsp] at hc0;split at hc0
         ·simp at hc0
         ·cases hc0
       refine⟨a.block,a.off,?_,hsp.2,λj v hj=>by simpa using hd j v hj⟩;cases a with
       | mk b o sp=>simp only at hsp;rw[hsp.1]
     ·cases h
  ·cases hm
 | pair a b iha ihb =>
  have main:∀(o fuel:Nat) (f:Field) (r:List Field) (cs:List Value) (ys:List (DataW H×List MemPlace)),f.offset=o->P.cellsOf f.type=a.size->Q0 P a f.type=true->Q0.XS P b (o+a.size) r=true ->
      (f::r).mapM (λf=>DataW.trod enc P w base sp held fuel f.type ((cs.drop f.offset).take (P.cellsOf f.type)))=some ys->cs.length=o+(a.size+b.size)->∃x:(Ty.pair a b).V,FL w (Here w) (.pair a b) x (cs.drop o)/\(Ty.pair a b).Wf x:=by
   intro o fuel f r cs ys ho hsz hma hmb h hl;obtain⟨y,ys',h1,h2,_⟩:=O8 h;rw[ho,hsz] at h1;obtain⟨xa,hra,hwa⟩:=iha.1 f.type fuel _ y hma h1;obtain⟨xb,hrb,hwb⟩:=ihb.2 (o+a.size) fuel r cs ys' hmb h2 (by omega);refine⟨(xa,xb),⟨_,_,?_,hra,hrb⟩,hwa,hwb⟩;rw[<-List.drop_drop];exact(List.take_append_drop a.size (cs.drop o)).symm
  refine⟨λt fuel cs y hm h=>?_,λo fuel fs cs ys hm h hl=>?_⟩
  ·simp only[Q0] at hm;split at hm
   ·rename_i fs hu;rw[Aw3] at hm;obtain⟨hsz,hm⟩:=hm;have hsz:P.cellsOf t=a.size+b.size:=by simpa using hsz
    split at hm
    ·rename_i f r hfs;simp only[Aw3,beq_iff_eq] at hm;obtain⟨⟨⟨h1,h2⟩,h3⟩,h4⟩:=hm;cases fuel with
     | zero=>simp[DataW.trod] at h
     | succ n =>
      have hst:(if cs.length=P.cellsOf t then(fs.toList.mapM λf=>DataW.trod enc P w base sp held n f.type ((cs.drop f.offset).take (P.cellsOf f.type))).map λxs=>((.agg (xs.map (·.1)):DataW H),xs.flatMap (·.2)) else none)=some y:=by
       simp only[DataW.trod,hu] at h;exact h
      split at hst
      ·rename_i hcl;cases hq:fs.toList.mapM λf=>DataW.trod enc P w base sp held n f.type ((cs.drop f.offset).take (P.cellsOf f.type)) with
       | none=>rw[hq] at hst;cases hst
       | some ys =>
        rw[hfs] at hq;have:=main 0 n f r cs ys h1 h2 h3 (by rw[Nat.zero_add];exact h4) hq (by omega);simpa using this
      ·cases hst
    ·cases hm
   ·cases hm
  ·cases fs with
   | nil=>simp[Q0.XS] at hm
   | cons f r =>
    simp only[Q0.XS,Aw3,beq_iff_eq] at hm;obtain⟨⟨⟨h1,h2⟩,h3⟩,h4⟩:=hm;exact main o fuel f r cs ys h1 h2 h3 h4 h hl
end
def P8:List Ty->Type
 | []=>Unit
 | t::ts=>t.V×P8 ts
def P8.av:(ts:List Ty)->P8 ts->List AV
 | [],_=>[]
 | t::ts,x=>.dat [] t x.1::P8.av ts x.2
def P8.Wf:(ts:List Ty)->P8 ts->Prop
 | [],_=>True
 | t::ts,x=>t.Wf x.1/\P8.Wf ts x.2
def G.old(w:World):G:=⟨λb=>if b<w.heap.size then .Gr else .no,λ_=>⟨none,0,0,0⟩⟩
section
variable {P:Program} {H:Type} {enc:TypeId×Value->H} {w:World} {base:Nat} {sp:Nat->Bool} {held:Bool}
theorem AdQ{ty:Ty}{t:TypeId}{v:Value}{x:ty.V}(hm:Q0 P ty t=true)(hf:v.formed P t=true)(hr:FL w (Here w) ty x v.cells.toList):A3 ty.isAgg v.cells.toList v:=by
 cases ty with
 | pair a b =>
  simp only[Q0] at hm;split at hm
  ·rename_i fs hu;unfold Value.formed at hf;split at hf
   ·rename_i cs;simp[A3,Ty.isAgg,Value.cells]
   ·cases hf
   ·rw[hu] at hf;cases hf
  ·cases hm
 | int k =>
  simp only[Q0] at hm;split at hm
  ·rename_i k' hu;have hr':v.cells.toList=[.int k x]:=hr;cases v<;>simp_all [A3,Ty.isAgg,Value.cells,Value.formed]
  ·cases hm
 | bool =>
  simp only[Q0] at hm;split at hm
  ·rename_i hu;cases v<;>simp_all [A3,Ty.isAgg,Value.cells,Value.formed]
  ·cases hm
 | str =>
  simp only[Q0] at hm;split at hm
  ·rename_i hu;cases v<;>simp_all [A3,Ty.isAgg,Value.cells,Value.formed]
  ·cases hm
 | sl u =>
  simp only[Q0] at hm;split at hm
  ·rename_i e hu;cases v<;>simp_all [A3,Ty.isAgg,Value.cells,Value.formed]
  ·cases hm
 | unit=>simp[Q0] at hm
 | opq z=>simp[Q0] at hm
end
section
variable {P:Program} {H:Type} {enc:TypeId×Value->H}
open Go.ChangeShapes Go.WideShapes Go.ChangeAt Go.RowKit
theorem S2{w w':World}{base:Nat}{sp:Nat->Bool}{held:Bool}:∀{ts:List TypeId} {vs:List Value} {ds:List (DataW H)} {ps:List MemPlace},DataW.TrodAll enc P w base sp held ts vs ds ps->(∀p∈ps,w.sameAt w' p)->DataW.TrodAll enc P w' base sp held ts vs ds ps
 | [],[],[],_,h,_=>h
 | _::_,_::_,_::_,_,⟨p,q,⟨n,h1⟩,h2,e⟩,hs=>⟨p,q,⟨n,DataW.trod_carry n _ _ _ h1 λx hx=>hs x (by rw[e];exact List.mem_append_left _ hx)⟩,S2 h2 (λx hx=>hs x (by rw[e];exact List.mem_append_right _ hx)),e⟩
theorem z8 {f:Func} {s:ChangeSpec} {fresh handsOn:Bool} {W W':World} {args:Array Value} {ds gs:List (DataW H)} {before:List MemPlace} (hW:DataW.Whole enc P f.params.toList s.vars false W args.toList ds gs before) (hv:s.vars=[])
    (hspec:gs=[]->s.fn H (ds++gs)={results:=[.lit (.bool true)],args:=ds}) {tb:TypeId} (hrt:f.resultTypes=#[tb]) (hub:P.underlying tb=some .bool) (hold:∀b,b<W.heap.size->W'.heap[b]?=W.heap[b]?) (hos:W'.os=W.os) (hout:W'.output=W.output)
    (K:Kids P (·<P.types.size)) (hz:∀t e,t<P.types.size->P.underlying t=some (.slice e)->0<P.cellsOf e) (ht:∀t∈f.params.toList,t<P.types.size):s.post enc P f false fresh handsOn false W args (.bool true) W':=by
 have hlt:=hW.lt;obtain⟨p,q,hA,hV,hpq,hfz,hnd⟩:=id hW;rw[hv] at hV;obtain⟨rfl,rfl⟩:=trodVars_none hV;have hsp:=hspec rfl;rw[List.append_nil] at hpq hsp;subst hpq;have same:∀x∈before,W.sameAt W' x:=λx hx=>by
  have hb:=hold x.block (hlt x hx);cases x with
  | cell b off=>simp only[World.sameAt,World.cell?];simp only[MemPlace.block] at hb;rw[hb]
  | map b=>exact hb
 have hA':=S2 hA same;have hre:∀sp:Nat->Bool,(∀x∈before,sp x.block=true)->DataW.TrodAll enc P W' 0 sp true f.params.toList args.toList ds before:=λsp hs=>hA'.respare K hz ht hs;have hres:∀(b:Nat) (sp:Nat->Bool) (hd:Bool),DataW.TrodAll enc P W' b sp hd f.resultTypes.toList ((Value.bool true).resultList f.resultTypes.size) [.lit (.bool true)] []:=λb sp hd=>by
  rw[hrt];exact trodAll_cons_mk (shut_bool hub _) trodAll_mk0
 have hold':∀x∈before,(λb=>decide (b<W.heap.size)) x.block=true:=λx hx=>by simpa using hlt x hx
 refine⟨ds,[],before,[],before,[],hW,?_,?_,?_,⟨hos,hout,λi hi=>?_⟩,λh=>by cases h⟩
 ·rw[List.append_nil,hsp];exact hres _ _ _
 ·rw[List.append_nil,hsp];exact hre _ hold'
 ·rw[hv];rw[List.append_nil,hsp];rfl
 ·rw[hold i hi];cases hq:W.heap[i]? with
  | none=>rfl
  | some o=>cases o<;>first | exact⟨rfl,rfl,rfl,λ_ _=>rfl⟩| exact .inr ⟨rfl,rfl⟩| rfl
def dx(P:Program):List Ty->List TypeId->Bool
 | [],[]=>true
 | ty::tys,t::ts=>Q0 P ty t&&dx P tys ts
 | _,_=>false
theorem YC {w:World} {base:Nat} {sp:Nat->Bool} {held:Bool}:∀{tys:List Ty} {ts:List TypeId} {vs:List Value} {ds:List (DataW H)} {ps:List MemPlace},dx P tys ts=true->DataW.TrodAll enc P w base sp held ts vs ds ps ->
    (∀(j:Nat) t v,ts[j]?=some t->vs[j]?=some v->v.formed P t=true)->∃xs:P8 tys,P8.Wf tys xs/\B9 w (G.old w) 0 (P8.av tys xs) vs
 | [],[],[],[],_,_,_,_=>⟨(),trivial,trivial⟩
 | ty::tys,t::ts,v::vs,d::ds,_,hm,⟨p,q,⟨n,h1⟩,h2,_⟩,hf=>by
  simp only[dx,Aw3] at hm;obtain⟨x,hr,hw⟩:=(Adw ty).1 t n _ _ hm.1 h1;obtain⟨xs,hws,ha⟩:=YC hm.2 h2 λj t v h3 h4=>hf (j+1) t v (by simpa using h3) (by simpa using h4);refine⟨(x,xs),⟨hw,hws⟩,A7 rfl (cs:=v.cells.toList) ⟨λk hk=>by(cases hk),hr.mono λb hb=>⟨.inl ?_,rfl⟩⟩ (AdQ hm.1 (hf 0 t v rfl rfl) hr),ha⟩;have hb:b<w.heap.size:=hb;simp[G.old,hb]
 | [],_::_,_,_,_,hm,_,_=>by simp[dx] at hm
 | _::_,[],_,_,_,hm,_,_=>by simp[dx] at hm
 | [],[],_::_,_,_,_,h,_=>by simp[DataW.TrodAll] at h
 | [],[],[],_::_,_,_,h,_=>by simp[DataW.TrodAll] at h
 | _::_,_::_,[],_,_,_,h,_=>by simp[DataW.TrodAll] at h
 | _::_,_::_,_::_,[],_,_,h,_=>by simp[DataW.TrodAll] at h
theorem Aay(w:World):Heap w (G.old w) []:=⟨λb hb=>by simp[G.old];omega,λk x hx=>by simp at hx⟩
theorem rO {en:Env} (he:HB P en) {f:FuncId} {fn:Func} (hf:P.funcs[f]?=some fn) {av:List AV} {w:World} {vs:List Value} (hrun:AH en fn (AV×List Blk) av [] (λv b=>some (v,b))=some (.bool true,[])) (ha:B9 w (G.old w) 0 av vs) :
    Calls P f vs.toArray w λe w'=>e=.returned (.bool true)/\(∀b,b<w.heap.size->w'.heap[b]?=w.heap[b]?)/\w'.os=w.os/\w'.output=w.output:=by
 refine((Tv he hf hrun).2 w (G.old w) vs (Aay w) ha).mono λe w' ⟨v,g',e1,_,hv,st⟩=>?_;have:=NP hv;subst this;exact⟨e1,λb hb=>(st.Gr b (by simp[G.old,hb])).2,st.os,st.output⟩
theorem gI{ty:Ty}{t:TypeId}{v:Value}{w:World}{r:Reach}{base:Nat}(hm:Q0 P ty t=true)(h:Value.okWide P w r base t v):v.formed P t=true:=by
 unfold Value.okWide at h;cases ty with
 | pair a b =>
  simp only[Q0] at hm;split at hm
  ·rename_i fs hu;rw[hu] at h;obtain⟨cs,rfl,hs,_⟩:=h;simp[Value.formed,hu,hs]
  ·cases hm
 | int k =>
  simp only[Q0] at hm;split at hm
  ·rename_i k' hu;rw[hu] at h;cases v<;>simp_all [Value.formed,Cell.okWide,Cell.ok]
  ·cases hm
 | bool =>
  simp only[Q0] at hm;split at hm
  ·rename_i hu;rw[hu] at h;cases v<;>simp_all [Value.formed,Cell.okWide,Cell.ok]
  ·cases hm
 | str =>
  simp only[Q0] at hm;split at hm
  ·rename_i hu;rw[hu] at h;cases v<;>simp_all [Value.formed,Cell.okWide,Cell.ok]
  ·cases hm
 | sl u =>
  simp only[Q0] at hm;split at hm
  ·rename_i e hu;rw[hu] at h;cases v<;>simp_all [Value.formed,Cell.okWide,Cell.ok]
  ·cases hm
 | unit=>simp[Q0] at hm
 | opq z=>simp[Q0] at hm
theorem law_contract {en:Env} (he:HB P en) {f:FuncId} {fn:Func} (hf:P.funcs[f]?=some fn) {tys:List Ty} (hm:dx P tys fn.params.toList=true) {s:ChangeSpec} (hv:s.vars=[]) {tb:TypeId} (hrt:fn.resultTypes=#[tb]) (hub:P.underlying tb=some .bool)
    (K:Kids P (·<P.types.size)) (hz:∀t e,t<P.types.size->P.underlying t=some (.slice e)->0<P.cellsOf e) (ht:∀t∈fn.params.toList,t<P.types.size)
    {W:World} {base:Nat} {args:Array Value} {ds gs:List (DataW H)} {before:List MemPlace} (hspec:gs=[]->s.fn H (ds++gs)={results:=[.lit (.bool true)],args:=ds})
    (hval:∀(j:Nat) t v,fn.params[j]?=some t->args[j]?=some v->Value.okWide P W .any base t v) (hW:DataW.Whole enc P fn.params.toList s.vars false W args.toList ds gs before)
    (hrun:∀xs:P8 tys,P8.Wf tys xs->AH en fn (AV×List Blk) (P8.av tys xs) [] (λv b=>some (v,b))=some (.bool true,[])) {fresh handsOn:Bool} :
    Calls P f args W λe W'=>∃v,e=.returned v/\s.post enc P fn false fresh handsOn false W args v W':=by
 obtain⟨p,q,hA,_⟩:=id hW;have hform:∀(j:Nat) t v,fn.params.toList[j]?=some t->args.toList[j]?=some v->v.formed P t=true:=λj t v h1 h2=>by
  rw[Axa] at h1 h2;have key:∀(tys:List Ty) (ts:List TypeId) (j:Nat),dx P tys ts=true->ts[j]?=some t->∃ty,Q0 P ty t=true:=by
   intro tys;induction tys with
   | nil=>intro ts j hm hj;cases ts<;>simp_all [dx]
   | cons ty tys ih =>
    intro ts j hm hj;cases ts with
    | nil=>simp at hj
    | cons u ts =>
     simp only[dx,Aw3] at hm;cases j with
     | zero=>simp at hj;subst hj;exact⟨ty,hm.1⟩
     | succ j=>exact ih ts j hm.2 (by simpa using hj)
  obtain⟨ty,hty⟩:=key tys fn.params.toList j hm (by rw[Axa];exact h1);exact gI hty (hval j t v h1 h2)
 obtain⟨xs,hwf,ha⟩:=YC hm hA hform;have:=rO he hf (hrun xs hwf) ha;rw[Array.toArray_toList] at this;refine this.mono λe W' ⟨e1,h1,h2,h3⟩=>⟨_,e1,z8 hW hv hspec hrt hub h1 h2 h3 K hz ht⟩
end
end Go.Va
namespace Go.Va
theorem Aai{A B:Type}(f:A->B)(c:Prop)[Decidable c](x:Option A):(if c then none else x).map f=if c then none else x.map f:=by split<;>rfl
theorem Aah{A B C D:Type}(f:C->D)(g:A->Option C)(h:B->Option C)(y:A⊕B):(Sum.elim g h y).map f=Sum.elim (λa=>(g a).map f) (λb=>(h b).map f) y:=by cases y<;>rfl
theorem qG{A B:Type}(k:A->Option B)(c:Bool)(x y:Option A):(bif c then x else y).bind k=bif c then x.bind k else y.bind k:=by cases c<;>rfl
theorem wG{A B:Type}(k:A->Option B)(c:Prop)[Decidable c](x y:Option A):(if c then x else y).bind k=if c then x.bind k else y.bind k:=by split<;>rfl
theorem qI{A B:Type}(k:A->Option B)(c:Prop)[Decidable c](x:Option A):(if c then none else x).bind k=if c then none else x.bind k:=by split<;>rfl
theorem qH{A B C D:Type}(k:C->Option D)(g:A->Option C)(h:B->Option C)(y:A⊕B):(Sum.elim g h y).bind k=Sum.elim (λa=>(g a).bind k) (λb=>(h b).bind k) y:=by cases y<;>rfl
theorem Nm(s:St):Ti s s=some ():=by simp[Ti]
def code(f:Func):Code:=(f.body).getD .skip
def AhD:Code->Array Oper
 | .region _ ops _=>ops
 | _=>#[]
def AdW(P:Program):List (Nat×Callee)->Prop
 | []=>True
 | (n,c)::r=>An P n c/\AdW P r
theorem Ao{P:Program}:∀{l:List (Nat×Callee)},AdW P l->∀g c,As l g=some c->An P g c
 | [],_,_,_,h=>by cases h
 | (n,c)::r,⟨h1,h2⟩,g,c',h=>by
  simp only[As] at h;split at h
  ·rename_i e;have e:n=g:=by simpa using e
   subst e;injection h with h;subst h;exact h1
  ·exact Ao h2 g c' h
def Tb (e:Nat) (t:Ty) (bytes:Nat):Callee:={modes:=[.d (.sl t)],run:=λR avs E K=>match avs,E with
    | [.dat [] u xs],[]=>match Hw u (.sl t) xs with
     | some xs=>if xs.length*bytes<=140737488355328 then K (.ref 0) [.row e (if t.flat then .deep else .sh []) t xs] else none
     | _=>none
    | _,_=>none}
end Go.Va
namespace Go.Va
theorem An.aY {P:Program} {f:FuncId} {fn:Func} (hf:P.funcs[f]?=some fn) (hn:(fn.name=="runtime.NumGoroutine")=false) (hb:fn.body.isNone=false) {c:Callee} (hc:Wl c)
    (h:∀args E av E',c.run (AV×List Blk) args E (λv b=>some (v,b))=some (av,E')->E.length<=E'.length/\∀(w:World) (g:G) (vs:List Value),Heap w g E->B9 w g E.length args vs ->
     Calls P f vs.toArray w λe w'=>∃v g',e=.returned v/\Heap w' g' E'/\Bg w' g' E'.length av v/\A2 E.length w g w' g'):An P f c where
 nat:=hc
 snd args E av E' hr:=by
  obtain⟨h1,h2⟩:=h args E av E' hr;refine⟨h1,λw g vs H hx o a next Q hn'=>?_⟩
  have:(callFunc f vs.toArray).run P w=.ok (.enter f vs.toArray) w:=by
   have hn1:¬fn.name="runtime.NumGoroutine":=by simpa using hn
   have hb1:¬fn.body=none:=by
    intro e;rw[e] at hb;cases hb
   simp[callFunc,hf,hn1,hb1]
  rw[this,Oper.upon_enter];refine(h2 w g vs H hx).mono λe w' ⟨v,g',e1,hH,hv,hst⟩=>?_;subst e1;exact hn' v w' g' hH hv hst
theorem ru {P:Program} {t:TypeId} {ti:TI} (ht:Eg P t ti) (hs:ti.Ea=true) {ad:Option Addr} {n c:Nat} {x y:Operand} (w:World) :
    (do eqGuard .eql t x y (.slice ad n c) (.slice none 0 0);binOp .eql t (.slice ad n c) (.slice none 0 0):Sem Value).run P w=.ok (.bool ad.isNone) w:=by
 have hu:=Bc ht hs;have h1:∀d,(Op.equalIn (d+1) t (.slice ad n c) (.slice none 0 0)).run P w=.ok ad.isNone w:=by
  intro d;unfold Op.equalIn;cases ad<;>simp[underlying,hu]
 have h2:(Op.equal t (.slice ad n c) (.slice none 0 0)).run P w=.ok ad.isNone w:=h1 (Op.maxDepth-1);show(do pure (.bool (<-Op.equal t (.slice ad n c) (.slice none 0 0))):Sem Value).run P w=_
 rw[Sem.run_bind,h2];rfl
section
variable {P:Program} {en:Env}
theorem fE (he:HB P en) {f:FuncId} {fn:Func} (hf:P.funcs[f]?=some fn) {R0 R2 T:Code} {id:Nat} {o3 o4:Oper} {t t2 e bytes:Nat} {u:Ty} {ti:TI}
    (hb:fn.body=some (R0.seq (((Code.region id #[o3,o4] false).seq (Code.cond (.tmp 4) (R2.seq .ret) .skip)).seq T))) (hnt:fn.ntmps=8) (hres:fn.results=#[.tmp 2])
    (h3:o3.op=.move (.tmp 0)/\o3.dst=some 3/\o3.guard=none) (h4:o4.op=.binOp .eql t (.tmp 3) (.const (.slice none 0 0)) t2/\o4.dst=some 4/\o4.guard=none)
    (ht:en.tab.get t=some ti) (hsl:ti.Ea=true) (hu:u.row=true)
    (hR0:∀xs:(Ty.sl u).V,ev en 0 R0 (Ex×St) ⟨[.dat [] (.sl u) xs,.un 0,.un 0,.un 0,.un 0,.un 0,.un 0,.un 0],[]⟩ Hz=some (.normal,⟨[.dat [] (.sl u) xs,.un 0,.zs,.un 0,.un 0,.un 0,.un 0,.un 0],[]⟩))
    (hA:∀xs:(Ty.sl u).V,ev en 0 (R2.seq .ret) (Ex×St) ⟨[.dat [] (.sl u) xs,.un 0,.zs,.dat [] (.sl u) xs,.bool true,.un 0,.un 0,.un 0],[]⟩ Hz=some (.ret,⟨[.dat [] (.sl u) xs,.un 0,.zs,.dat [] (.sl u) xs,.bool true,.un 0,.un 0,.un 0],[]⟩))
    (hT:∀xs:(Ty.sl u).V,xs.length*bytes<=140737488355328->ev en 0 T (Ex×St) ⟨[.dat [] (.sl u) xs,.un 0,.zs,.dat [] (.sl u) xs,.bool false,.un 0,.un 0,.un 0],[]⟩ Hz=some (.ret,⟨[.dat [] (.sl u) xs,.un 0,.ref 0,.dat [] (.sl u) xs,.bool false,.zs,.dat [] (.sl u) xs,.ref 0],[.row e (if u.flat then .deep else .sh []) u xs]⟩))
    {xs:(Ty.sl u).V} (hbig:xs.length*bytes<=140737488355328) (w:World) (g:G) (vs:List Value) (H:Heap w g []) (hx:B9 w g 0 [.dat [] (.sl u) xs] vs) :
    Calls P f vs.toArray w λee w'=>∃v g',ee=.returned v/\Heap w' g' [.row e (if u.flat then .deep else .sh []) u xs]/\Bg w' g' 1 (.ref 0) v/\A2 0 w g w' g':=by
 refine calls_of_wp hf hb ?_;have hs0:=jv H hx (n:=fn.ntmps) (by rw[hnt];simp);have AsT:Ik w g ⟨[.dat [] (.sl u) xs,.un 0,.un 0,.un 0,.un 0,.un 0,.un 0,.un 0],[]⟩ {tmps:=vs.toArray++Array.replicate (fn.ntmps-vs.toArray.size) undef,defers:=[]}:=by
  rw[hnt] at hs0;rw[hnt];exact hs0
 have fin:∀(a':Act) (w':World) (g':G),a'.defers=[]->A2 0 w g w' g'->(∃g'',Heap w' g'' [.row e (if u.flat then .deep else .sh []) u xs]/\Bg w' g'' 1 (.ref 0) (a'.tmps.getD 2 undef)/\A2 0 w' g' w' g'') ->
     a'.defers=[]/\∃v,(results fn a'.tmps).run P w'=.ok v w'/\∃v' g',Ending.returned v=.returned v'/\Heap w' g' [.row e (if u.flat then .deep else .sh []) u xs]/\Bg w' g' 1 (.ref 0) v'/\A2 0 w g w' g':=by
  intro a' w' g' hd hst ⟨g'',H'',oW,Xd⟩;refine⟨hd,a'.tmps.getD 2 undef,?_,_,g'',rfl,H'',oW,hst.trans Xd⟩;rw[Xz,hres,Array.mapM_eq_mapM_toList];simp[AaJ]
 refine wp_seq ((Ms he R0 _ _ _ (hR0 xs) (Aw2 _)).2 _ w g _ AsT λa1 w1 g1 hs1 st1 hd1=>?_);simp only[Z7];refine wp_seq (wp_seq (wp_region ?_));have hx0:=hs1.slots 0 _ rfl;obtain⟨cs,hcs,hval⟩:=Ba rfl rfl hx0;obtain⟨_,ad,cap,ds,hcs1,hlen,hlist,hmem⟩:=hcs;subst hcs1;have hv0:a1.tmps.getD 0 undef=.slice ad xs.length cap:=by
  have:[Value.slice ad xs.length cap]=[a1.tmps.getD 0 undef]:=hval;injection this with h _;exact h.symm
 have hnil:ad=none->xs=[]:=λh=>by
  rcases hmem with h1 | ⟨b,off,h1,_⟩
  ·exact h1
  ·rw[h] at h1;cases h1
 let a2:=(a1.put (some 3) (.slice ad xs.length cap)).put (some 4) (.bool ad.isNone)
 have hsz:a1.tmps.size=8:=hs1.len.symm;have hs2:Ik w1 g1 ⟨[.dat [] (.sl u) xs,.un 0,.zs,.dat [] (.sl u) xs,.bool ad.isNone,.un 0,.un 0,.un 0],[]⟩ a2:=by
  refine⟨hs1.heap,by simp[a2,Qw,hsz],λi x hx=>?_⟩;have h5:∀i,i≠3->i≠4->a2.tmps.getD i undef=a1.tmps.getD i undef:=λi h3 h4=>by
   simp only[a2];rw[PT (by simpa using λh=>h4 h.symm),PT (by simpa using λh=>h3 h.symm)]
  match i,hx with
  | 0,hx=>rw[h5 0 (by decide) (by decide)];exact hs1.slots 0 x hx
  | 1,hx=>rw[h5 1 (by decide) (by decide)];exact hs1.slots 1 x hx
  | 2,hx=>rw[h5 2 (by decide) (by decide)];exact hs1.slots 2 x hx
  | 3,hx =>
   injection hx with hx;subst hx;have:a2.tmps.getD 3 undef=.slice ad xs.length cap:=by
    simp only[a2];rw[PT (by decide),NY (by omega)]
   rw[this,<-hv0];exact hx0
  | 4,hx =>
   injection hx with hx;subst hx;have:a2.tmps.getD 4 undef=.bool ad.isNone:=by
    simp only[a2];rw[NY (by rw[Qw];omega)]
   rw[this];exact A7 (cs:=[.bool ad.isNone]) rfl ⟨λk hk=>by(cases hk),rfl⟩ rfl
  | 5,hx=>injection hx with hx;subst hx;exact M9
  | 6,hx=>injection hx with hx;subst hx;exact M9
  | 7,hx=>injection hx with hx;subst hx;exact M9
  | i+8,hx=>simp at hx
 have e3:a1.eval (.tmp 0)=.slice ad xs.length cap:=hv0;have AsD:(a1.put (some 3) (.slice ad xs.length cap)).eval (.tmp 3)=.slice ad xs.length cap:=by
  show(a1.put (some 3) (.slice ad xs.length cap)).tmps.getD 3 undef=_;rw[NY (by omega)]
 simp only[List.range,wpOps];show wpOps P #[o3,o4] _ [0,1] a1 w1;simp only[wpOps];have g0:(#[o3,o4]:Array Oper)[0]?=some o3:=rfl;have g1':(#[o3,o4]:Array Oper)[1]?=some o4:=rfl;rw[g0,g1'];simp only[Region.wanted,h3.2.2,h4.2.2,if_true];refine .inl ?_;unfold Oper.wp;rw[show(execOp a1.eval o3).run P w1=.ok (.value (.slice ad xs.length cap)) w1 by simp[execOp,h3.1,e3],Oper.upon_value,h3.2.1];have Aqp:(a1.put (some 3) (.slice ad xs.length cap)).tmps.getD 3 undef=.slice ad xs.length cap:=AsD;have AqD:(execOp (a1.put (some 3) (.slice ad xs.length cap)).eval o4).run P w1=.ok (.value (.bool ad.isNone)) w1:=by
  have:=ru (P:=P) (t:=t) (he.t ht) hsl (ad:=ad) (n:=xs.length) (c:=cap) (x:=.tmp 3) (y:=.const (.slice none 0 0)) w1;simp only[execOp,h4.1,Act.eval,Aqp];rw[Sem.run_bind,this];rfl
 refine .inl ?_;rw[AqD,Oper.upon_value,h4.2.1];show(Code.cond (.tmp 4) (R2.seq .ret) .skip).wp P _ a2 w1;have Adf:a2.eval (.tmp 4)=.bool ad.isNone:=by
  show a2.tmps.getD 4 undef=_;simp only[a2];rw[NY (by rw[Qw];omega)]
 have hd2:a2.defers=[]:=by simp only[a2,Go.Va.put_defers];exact hd1
 cases had:ad with
 | none =>
  have hxs:=hnil had;subst hxs;rw[had] at hs2 Adf;refine wp_cond_true Adf ?_;refine(Ms he _ _ _ _ (hA []) (Aw2 _)).2 a2 w1 g1 _ hs2 λa3 w3 g3 hs3 st3 hd3=>?_;have hz:=hs3.slots 2 _ rfl;obtain⟨g4,H4,Asy,st4⟩:=kM hs3.heap (c:=.row [] e u false) (a:=.zs) (a':=.ref 0) (nb:=[.row e (if(u.flat||false)=true then .deep else .sh []) u []]) (by simp[qP,AV.P1,AV.Tz,hu]) hz;exact fin a3 w3 g3 (hd3.trans hd2) (st1.trans st3) ⟨g4,by simpa using H4,by simpa using Asy,st4.toC (Nat.zero_le _)⟩
 | some ad0 =>
  rw[had] at hs2 Adf;refine wp_cond_false Adf (wp_skip ?_);refine(Ms he _ _ _ _ (hT xs hbig) (Aw2 _)).2 a2 w1 g1 _ hs2 λa3 w3 g3 hs3 st3 hd3=>?_;exact fin a3 w3 g3 (hd3.trans hd2) (st1.trans st3) ⟨g3,hs3.heap,hs3.slots 2 _ rfl,A2.refl _ _ _⟩
theorem qM{e bytes:Nat}{u:Ty}:Wl (Tb e u bytes):=by
 intro R args E K;simp only[Tb];split
 ·split
  ·split<;>rfl
  ·rfl
 ·rfl
theorem UL (he:HB P en) {f:FuncId} {fn:Func} (hf:P.funcs[f]?=some fn) (hn:(fn.name=="runtime.NumGoroutine")=false) {R0 R2 T:Code} {id:Nat} {o3 o4:Oper} {t t2 e bytes:Nat} {u:Ty} {ti:TI}
    (hb:fn.body=some (R0.seq (((Code.region id #[o3,o4] false).seq (Code.cond (.tmp 4) (R2.seq .ret) .skip)).seq T))) (hnt:fn.ntmps=8) (hres:fn.results=#[.tmp 2])
    (h3:o3.op=.move (.tmp 0)/\o3.dst=some 3/\o3.guard=none) (h4:o4.op=.binOp .eql t (.tmp 3) (.const (.slice none 0 0)) t2/\o4.dst=some 4/\o4.guard=none)
    (ht:en.tab.get t=some ti) (hsl:ti.Ea=true) (hu:u.row=true)
    (hR0:∀xs:(Ty.sl u).V,ev en 0 R0 (Ex×St) ⟨[.dat [] (.sl u) xs,.un 0,.un 0,.un 0,.un 0,.un 0,.un 0,.un 0],[]⟩ Hz=some (.normal,⟨[.dat [] (.sl u) xs,.un 0,.zs,.un 0,.un 0,.un 0,.un 0,.un 0],[]⟩))
    (hA:∀xs:(Ty.sl u).V,ev en 0 (R2.seq .ret) (Ex×St) ⟨[.dat [] (.sl u) xs,.un 0,.zs,.dat [] (.sl u) xs,.bool true,.un 0,.un 0,.un 0],[]⟩ Hz=some (.ret,⟨[.dat [] (.sl u) xs,.un 0,.zs,.dat [] (.sl u) xs,.bool true,.un 0,.un 0,.un 0],[]⟩))
    (hT:∀xs:(Ty.sl u).V,xs.length*bytes<=140737488355328->ev en 0 T (Ex×St) ⟨[.dat [] (.sl u) xs,.un 0,.zs,.dat [] (.sl u) xs,.bool false,.un 0,.un 0,.un 0],[]⟩ Hz=some (.ret,⟨[.dat [] (.sl u) xs,.un 0,.ref 0,.dat [] (.sl u) xs,.bool false,.zs,.dat [] (.sl u) xs,.ref 0],[.row e (if u.flat then .deep else .sh []) u xs]⟩)) :
    An P f (Tb e u bytes):=by
 refine An.aY hf hn (by rw[hb];rfl) qM λargs E av E' h=>?_;simp only[Tb] at h;split at h
 ·split at h
  ·rename_i xs hc;obtain⟨e1,q⟩:=Bb hc;subst e1;subst q;split at h
   ·rename_i hbig;simp only[AwY,Aw9] at h;obtain⟨rfl,rfl⟩:=h;exact⟨Nat.zero_le _,λw g vs H hx=>fE he hf hb hnt hres h3 h4 ht hsl hu hR0 hA hT hbig w g vs H hx⟩
   ·cases h
  ·cases h
 ·cases h
end
end Go.Va
namespace Go.Va
open Go.Sort Go.Shelf
def leI(x y:Int):Bool:=decide (x<=y)
def Mh(xs:List Int):List Int:=xs.mergeSort leI
def Li(xs:List Int):List Int:=Lib.compact xs
def jg:Callee:={modes:=[.raw],run:=λ_ avs E K=>match avs,E with
    | [.ref 0],[.row e .deep u xs]=>match Hw (.sl u) (.sl (.int .i64)) xs with
     | some xs=>if xs.length<4611686018427387904 then K .nil [.row e .deep (.int .i64) (Mh xs)] else none
     | none=>none
    | [.zs],[]=>K .nil []
    | _,_=>none}
def jI:Callee:={modes:=[.raw],run:=λ_ avs E K=>match avs,E with
    | [.ref 0],[.row e .deep u xs]=>match Hw (.sl u) (.sl (.int .i64)) xs with
     | some xs=>K (.ref 1) [.dead,.row e .deep (.int .i64) (Li xs)]
     | none=>none
    | _,_=>none}
theorem Aa7:Wl jg:=by
 intro R args E K;simp only[jg];split
 ·split
  ·split<;>rfl
  ·rfl
 ·rfl
 ·rfl
theorem Abs:Wl jI:=by
 intro R args E K;simp only[jI];split
 ·split<;>rfl
 ·rfl
section
variable {w:World} {g:G} {n:Nat}
theorem Qp{own:Nat->Tag}{k:Nat}:∀{xs:List Int} {j:Nat} {ds:List Value},AZ (λi=>Hv w own k (.int .i64) [i]) j xs ds↔ds=xs.map (Value.int .i64)
 | [],_,_=>Iff.rfl
 | x::xs,j,ds=>by
  constructor
  ·rintro⟨c,d,e,h1,h2⟩
   have h1:c=[.int .i64 x]:=h1;rw[e,h1,Qp.1 h2];rfl
  ·intro e;exact⟨[.int .i64 x],xs.map (Value.int .i64),by rw[e];rfl,rfl,Qp.2 rfl⟩
theorem Xc{b el:Nat}{cur:Array Value}{xs:List Int}(hc:w.heap[b]?=some (.cells cur el (0,0)))(hd:cur.toList.take (xs.length*1)=xs.map (Value.int .i64)):Holds (Value.int .i64) w b 0 xs.toArray:=by
 intro j hj;have hj:j<xs.length:=by simpa using hj
 constructor
 ·have h1:(cur.toList.take (xs.length*1))[j]?=some (.int .i64 xs[j]):=by rw[hd];simp[hj]
  rw[List.getElem?_take,if_pos (by omega)] at h1;simp only[World.cell?,hc,Nat.zero_add];simpa [hj] using h1
 ·simp[World.frozen?,hc]
theorem iQ{b el:Nat}{cur:Array Value}{q:Nat}{d:Array Int}(hc:w.heap[b]?=some (.cells cur el (0,0))):(putRow (Value.int .i64) (Sort.ahead w q) b 0 d).heap[b]?=some (.cells (putCells (Value.int .i64) 0 d cur) el (0,0)):=by
 simp[putRow,mapBlock,Sort.ahead,Array.getElem?_modify,hc,onCells]
theorem Zs{b c q:Nat}{d:Array Int}(h:c≠b):(putRow (Value.int .i64) (Sort.ahead w q) b 0 d).heap[c]?=w.heap[c]?:=by
 simp[putRow,mapBlock,Sort.ahead,Array.getElem?_modify,h.symm]
theorem Sr(w:World)(b q:Nat)(d:Array Int):(putRow (Value.int .i64) (Sort.ahead w q) b 0 d).heap.size=w.heap.size:=by
 simp[putRow,mapBlock,Sort.ahead]
theorem SX{cur:Array Value}{d:Array Int}{m:Nat}(hm:m<=d.size)(hs:d.size<=cur.size):(putCells (Value.int .i64) 0 d cur).toList.take m=(d.toList.take m).map (Value.int .i64):=by
 apply List.ext_getElem?;intro i;rw[List.getElem?_take,List.getElem?_map,List.getElem?_take];split
 ·rename_i h;have h1:i<cur.size:=by omega
  have h2:i<d.size:=by omega
  simp[putCells,h1,h2]
 ·rfl
theorem lK{E:List Blk}(H:Heap w g E){b k:Nat}{r:List Nat}(h:g.own b=.lab k r):b<w.heap.size:=by
 by_cases hb:b<w.heap.size
 ·exact hb
 ·rw[H.fresh b (by omega)] at h;cases h
end
section
variable {P:Program} {ρ:Shelf.Ren}
theorem Aa8(L:Proofs.SlLaysN.n53 P ρ){f:FuncId}{fn:Func}(e:ρ.f 53=f)(hf:P.funcs[f]?=some fn)(hn:(fn.name=="runtime.NumGoroutine")=false)(hb:fn.body.isNone=false):An P f jg:=by
 refine An.aY hf hn hb Aa7 λargs E av E' h=>?_;simp only[jg] at h;split at h
 ·rename_i el u xs;split at h
  ·rename_i ys hc;obtain⟨e1,q⟩:=Bb hc;cases e1;have q:xs=ys:=q;subst q;split at h
   ·rename_i hlt;simp only[AwY,Aw9] at h;obtain⟨rfl,rfl⟩:=h;refine⟨Aw2 _,λw g vs H hx=>?_⟩
    match vs,hx with
    | [v],⟨hv,_⟩ =>
     obtain⟨_,hv⟩:=HC hv;subst hv;obtain⟨Nb,hl,hes,hpos,hr⟩:=H.blk 0 _ rfl;rcases hr with ⟨hx0,hc0⟩| ⟨b,cur,ds,ha,ho,⟨ce,he,hcell⟩,h1,h2,h3,h4,h5⟩
     ·rw[hc0,hl,hx0,<-e];refine(Proofs.AnyG.slices_Sort_int_none L _ 0 w).mono λe w' ⟨e1,e2⟩=>?_;subst e1;subst e2;exact⟨_,g,rfl,by simpa [hx0,Mh] using H,rfl,A2.refl _ _ _⟩
     ·rw[hl,ha,<-e];have h5:ds=_:=Qp.1 h5;have h4:cur.toList.take (List.length (α:=Int) xs*1)=ds:=h4;rw[h5] at h4;have hsz:cur.size=(g.at_ 0).cap*1:=h3;refine(Proofs.AnyG.slices_Sort_int L b 0 _ xs w (Xc hcell h4) (lK H ho) hlt).mono λe w' ⟨e1,n,os,e2⟩=>?_;subst e1;have hlb:=lK H ho;have hold:∀c,c≠b->c<w.heap.size->w'.heap[c]?=w.heap[c]?:=λc hc hlt=>by
       rw[e2];show((putRow _ _ _ _ _).heap++os)[c]?=_;rw[Array.getElem?_append_left (by rw[Sr];exact hlt),Zs hc]
      have hnew:w'.heap[b]?=some (.cells (putCells (Value.int .i64) 0 (List.toArray (Mh xs)) cur) ce (0,0)):=by
       rw[e2];show((putRow _ _ _ _ _).heap++os)[b]?=_;rw[Array.getElem?_append_left (by rw[Sr];exact hlb)];exact iQ hcell
      have hgrow:w.heap.size<=w'.heap.size:=by
       rw[e2];show _<=((putRow _ _ _ _ _).heap++os).size;rw[Array.size_append,Sr];omega
      refine⟨_,g,rfl,⟨λc hc=>H.fresh c (by omega),λk x hx=>?_⟩,rfl,?_⟩
      ·match k,hx with
       | 0,hx =>
        injection hx with hx;subst hx;have hls:(Mh xs).length=List.length (α:=Int) xs:=List.length_mergeSort _;refine⟨λj hj=>by(cases hj),by rw[hl];exact hls.symm,hes,hpos,.inr ⟨b,_,_,ha,ho,⟨ce,he,hnew⟩,?_,h2,?_,rfl,?_⟩⟩
        ·rw[hls];exact h1
        ·simpa [putCells] using h3
        ·show ku w' g.own 0 .deep (.int .i64) _ _;refine Qp.2 ?_;rw[SX (by simp[Ty.size]) (by simp only[List.size_toArray,hls];omega)];simp[Ty.size]
       | k+1,hx=>simp at hx
      ·refine⟨by rw[e2];rfl,by rw[e2];rfl,by rw[e2];rfl,hgrow,λc hc h=>⟨h,hold c (λe=>by rw[e,ho] at h;cases h) hc⟩,λc h=>⟨h,?_⟩,λc k r h hk hm=>(hm (List.mem_range.2 hk)).elim,λk hk=>rfl⟩;by_cases hcs:c<w.heap.size
       ·exact hold c (λe=>by rw[e,ho] at h;cases h) hcs
       ·rw[H.fresh c (by omega)] at h;cases h
   ·cases h
  ·cases h
 ·simp only[AwY,Aw9] at h;obtain⟨rfl,rfl⟩:=h;refine⟨Aw2 _,λw g vs H hx=>?_⟩
  match vs,hx with
  | [v],⟨hv,_⟩ =>
   obtain⟨cs,⟨ad,hcs⟩,hval⟩:=Ba rfl rfl hv;subst hcs;have hv:v=.slice ad 0 0:=by
    have:[Value.slice ad 0 0]=[v]:=hval;injection this with h _;exact h.symm
   subst hv;rw[<-e];refine(Proofs.AnyG.slices_Sort_int_none L ad 0 w).mono λe w' ⟨e1,e2⟩=>?_;subst e1;subst e2;exact⟨_,g,rfl,H,rfl,A2.refl _ _ _⟩
 ·cases h
theorem Abr(xs:List Int):(Li xs).length<=xs.length:=by
 unfold Li Lib.compact Lib.compactUpTo;rw[Aw8];exact Nat.le_trans (List.length_filter_le _ _) (by simp)
theorem Abt(L:Proofs.SlLaysN.n43 P ρ){f:FuncId}{fn:Func}(e:ρ.f 43=f)(hf:P.funcs[f]?=some fn)(hn:(fn.name=="runtime.NumGoroutine")=false)(hb:fn.body.isNone=false):An P f jI:=by
 refine An.aY hf hn hb Abs λargs E av E' h=>?_;simp only[jI] at h;split at h
 ·rename_i el u xs;split at h
  ·rename_i ys hc;obtain⟨e1,q⟩:=Bb hc;cases e1;have q:xs=ys:=q;subst q;simp only[AwY,Aw9] at h;obtain⟨rfl,rfl⟩:=h;refine⟨by simp,λw g vs H hx=>?_⟩
   match vs,hx with
   | [v],⟨hv,_⟩ =>
    obtain⟨_,hv⟩:=HC hv;subst hv;obtain⟨Nb,hl,hes,hpos,hr⟩:=H.blk 0 _ rfl;rcases hr with ⟨hx0,hc0⟩| ⟨b,cur,ds,ha,ho,⟨ce,he,hcell⟩,h1,h2,h3,h4,h5⟩
    ·rw[hc0,hl,hx0,<-e];refine(Proofs.AnyG.slices_Compact_int_empty L _ 0 w).mono λe w' ⟨e1,e2⟩=>?_;subst e1;subst e2;refine⟨_,⟨g.own,λk=>if k=1 then⟨(g.at_ 0).a,0,0,1⟩ else g.at_ k⟩,rfl,⟨H.fresh,λk x hx=>?_⟩,?_,?_⟩
     ·match k,hx with
      | 0,hx=>injection hx with hx;subst hx;trivial
      | 1,hx =>
       injection hx with hx;subst hx;exact⟨λj hj=>by(cases hj),rfl,rfl,hpos,.inl ⟨rfl,rfl⟩⟩
      | k+2,hx=>simp at hx
     ·exact A7 (cs:=[.slice (g.at_ 0).a 0 0]) rfl ⟨by simp,rfl⟩ rfl
     ·refine⟨rfl,rfl,rfl,Aw2 _,λc hc h=>⟨h,rfl⟩,λc h=>⟨h,rfl⟩,λc k r h hk hm=>(hm (List.mem_range.2 hk)).elim,λk hk=>?_⟩;have hk:k<1:=hk;have:k≠1:=by omega
      simp[this]
    ·rw[hl,ha,<-e];have h5:ds=_:=Qp.1 h5;have h4:cur.toList.take (List.length (α:=Int) xs*1)=ds:=h4;rw[h5] at h4;have hmax:(g.at_ 0).cap<=9223372036854775807:=h2;refine(Proofs.AnyG.slices_Compact_int L b 0 _ xs w (Xc hcell h4) (Nat.le_trans h1 hmax) h1).mono λe w' ⟨e1,q,e2⟩=>?_;subst e1;have hlb:=lK H ho;have hold:∀c,c≠b->w'.heap[c]?=w.heap[c]?:=λc hc=>by rw[e2,Zs hc]
     have hnew:=iQ (q:=q) (d:=(Lib.compact (show List Int from xs)++List.replicate (List.length (α:=Int) xs-(Lib.compact (show List Int from xs)).length) 0).toArray) hcell;rw[<-e2] at hnew;have hgrow:w'.heap.size=w.heap.size:=by rw[e2,Sr]
     have hll:(Li xs).length<=List.length (α:=Int) xs:=Abr xs;have hsz:(Lib.compact (show List Int from xs)++List.replicate (List.length (α:=Int) xs-(Lib.compact (show List Int from xs)).length) 0).length=List.length (α:=Int) xs:=by
      rw[Aw0,List.length_replicate];exact Nat.add_sub_cancel' hll
     refine⟨_,⟨λc=>if c=b then .lab 1 [] else g.own c,λk=>if k=1 then⟨(g.at_ 0).a,(Li xs).length,(g.at_ 0).cap,1⟩ else g.at_ k⟩,rfl,⟨λc hc=>?_,λk x hx=>?_⟩,?_,?_⟩
     ·have:c≠b:=λe=>by omega
      simp only[this,if_false];exact H.fresh c (by omega)
     ·match k,hx with
      | 0,hx=>injection hx with hx;subst hx;trivial
      | 1,hx =>
       injection hx with hx;subst hx;refine⟨λj hj=>by(cases hj),rfl,rfl,hpos,.inr ⟨b,_,_,ha,by simp,⟨ce,he,hnew⟩,Nat.le_trans hll h1,h2,?_,rfl,?_⟩⟩
       ·simpa [putCells] using h3
       ·show ku w' _ 1 .deep (.int .i64) _ _;refine Qp.2 ?_;have hcs:cur.size=(g.at_ 0).cap*1:=h3;rw[SX (by simp[Ty.size,Li]) (by rw[List.size_toArray,hsz,hcs];exact Nat.le_trans h1 (Nat.le_of_eq (Nat.mul_one _).symm))];simp[Ty.size,Li]
      | k+2,hx=>simp at hx
     ·exact A7 (cs:=[.slice (some ⟨b,0,none⟩) (Li xs).length (g.at_ 0).cap]) rfl ⟨by simp,by simp[ha]⟩ rfl
     ·refine⟨by rw[e2];rfl,by rw[e2];rfl,by rw[e2];rfl,Nat.le_of_eq hgrow.symm,λc hc h=>?_,λc h=>?_,λc k r h hk hm=>(hm (List.mem_range.2 hk)).elim,λk hk=>?_⟩
      ·have hne:c≠b:=λe=>by rw[e,ho] at h;cases h
       exact⟨by simp[hne,h],hold c hne⟩
      ·have hne:c≠b:=λe=>by rw[e,ho] at h;cases h
       exact⟨by simp[hne,h],hold c hne⟩
      ·have hk:k<1:=hk;have:k≠1:=by omega
       simp[this]
  ·cases h
 ·cases h
end
end Go.Va
namespace Go.Va
section
variable {A B C D:Type}
theorem bC(k:A->Option B)(c:Bool)(x y:Option A):(bif c then x else y).bind k=bif c then x.bind k else y.bind k:=qG k c x y
theorem bI(k:A->Option B)(c:Prop)[Decidable c](x y:Option A):(if c then x else y).bind k=if c then x.bind k else y.bind k:=wG k c x y
theorem bN(k:A->Option B)(c:Prop)[Decidable c](x:Option A):(if c then none else x).bind k=if c then none else x.bind k:=qI k c x
theorem bE(k:C->Option D)(g:A->Option C)(h:B->Option C)(y:A⊕B):(Sum.elim g h y).bind k=Sum.elim (λa=>(g a).bind k) (λb=>(h b).bind k) y:=qH k g h y
theorem bA(x:Option A)(f:A->Option B)(g:B->Option C):(x.bind f).bind g=x.bind λy=>(f y).bind g:=Axd x f g
theorem bS(a:A)(f:A->Option B):(some a).bind f=f a:=rfl
theorem bO(f:A->Option B):(none:Option A).bind f=none:=rfl
theorem mC(f:A->B)(c:Bool)(x y:Option A):(bif c then x else y).map f=bif c then x.map f else y.map f:=Aag f c x y
theorem mI(f:A->B)(c:Prop)[Decidable c](x y:Option A):(if c then x else y).map f=if c then x.map f else y.map f:=Adt f c x y
theorem mN(f:A->B)(c:Prop)[Decidable c](x:Option A):(if c then none else x).map f=if c then none else x.map f:=Aai f c x
theorem mB(f:B->C)(x:Option A)(k:A->Option B):(x.bind k).map f=x.bind λy=>(k y).map f:=Aaf f x k
theorem mE(f:C->D)(g:A->Option C)(h:B->Option C)(y:A⊕B):(Sum.elim g h y).map f=Sum.elim (λa=>(g a).map f) (λb=>(h b).map f) y:=Aah f g h y
theorem mS(f:A->B)(a:A):(some a).map f=some (f a):=rfl
theorem mO(f:A->B):(none:Option A).map f=none:=rfl
theorem sI{P:Prop}(h:P):P:=h
theorem sA{P:A⊕B->Prop}(h1:∀a,P (.inl a))(h2:∀b,P (.inr b)):∀y,P y
 | .inl a=>h1 a
 | .inr b=>h2 b
end
abbrev dI(x:Int):AV:=.dat [] (.int .i64) x
abbrev dB(b:Bool):AV:=.dat [] .bool b
abbrev dD(t:Ty)(x:t.V):AV:=.dat [] t x
def sT(n:Nat)(l:List (Nat×AV))(bs:List Blk):St:=⟨mkS n 0 l,bs⟩
def Env.hd(en:Env)(k:Nat):SH:=(As en.fi.heads k).getD {live:=[]}
def Env.ot(en:Env)(k:Nat):SH:=(As en.fi.outs k).getD {live:=[]}
def Env.jn(en:Env)(k:Nat):SH:=(As en.fi.joins k).getD {live:=[]}
def Env.dr(en:Env)(k:Nat):SH:=(As en.fi.draws k).getD {live:=[]}
section
variable {X Y R:Type}
noncomputable def lpS(en:Env)(m k:Nat)(fc:Code)(p:List Nat):St->Option (St⊕(Ex×St)):=XL en m (en.hd k) (en.ot k) (sub fc (p++[0]))
noncomputable def Mn(en:Env)(m k:Nat)(fc:Code)(p:List Nat):St->Option (Ex×St):=joinL en m (en.jn k) (sub fc p)
noncomputable def drS(en:Env)(m k:Nat)(fc:Code)(p:List Nat):St->Option St:=AdC en m (en.dr k) (AhD (sub fc p))
noncomputable def kQ(en:Env)(m:Nat)(R:Type)(fc:Code)(p:List Nat)(K:Ex->St->Option R)(q:Ex×St):Option R:=rH en m R fc p K q.1 q.2
noncomputable def lpC(en:Env)(m k:Nat)(fc:Code)(p:List Nat)(R:Type)(K:Ex->St->Option R)(s:St):Option R:=(fix (lpS en m k fc p) s).bind (kQ en m R fc p K)
noncomputable def jnC(en:Env)(m k:Nat)(fc:Code)(p:List Nat)(R:Type)(K:Ex->St->Option R)(s:St):Option R:=(Mn en m k fc p s).bind (kQ en m R fc p K)
noncomputable def drC(en:Env)(m k:Nat)(fc:Code)(p:List Nat)(R:Type)(K:Ex->St->Option R)(s:St):Option R:=(drS en m k fc p s).bind λq=>kQ en m R fc p K (.normal,q)
def AU(en:Env)(m k:Nat)(fc:Code)(p:List Nat)(s:X->St)(r:X->Option (X⊕Y))(o:Y->Ex×St):Prop:=∀x,lpS en m k fc p (s x)=(r x).map (Sum.map s o)
def AL(en:Env)(m k:Nat)(fc:Code)(p:List Nat)(s:St)(x:Option Y)(o:Y->Ex×St):Prop:=Mn en m k fc p s=x.map o
def S4(en:Env)(m k:Nat)(fc:Code)(p:List Nat)(s:St)(x:Option Y)(o:Y->St):Prop:=drS en m k fc p s=x.map o
theorem Ax {en:Env} {m k:Nat} {fc:Code} {p:List Nat} {s:X->St} {r:X->Option (X⊕Y)} {o:Y->Ex×St} (h:AU en m k fc p s r o) {K:Ex->St->Option R} {x:X} {F:Y->Option R} (hF:∀y,F y=kQ en m R fc p K (o y)) :
    (fix r x).bind F=lpC en m k fc p R K (s x):=by
 unfold lpC;rw[Ac7 s o _ r h x,Wx];exact congrArg _ (funext hF)
theorem A6 {en:Env} {m k:Nat} {fc:Code} {p:List Nat} {s:St} {x:Option Y} {o:Y->Ex×St} (h:AL en m k fc p s x o) {K:Ex->St->Option R} {F:Y->Option R} (hF:∀y,F y=kQ en m R fc p K (o y)) :
    x.bind F=jnC en m k fc p R K s:=by
 unfold jnC;rw[h,Wx];exact congrArg _ (funext hF)
theorem WW {en:Env} {m k:Nat} {fc:Code} {p:List Nat} {s:St} {x:Option Y} {o:Y->St} (h:S4 en m k fc p s x o) {K:Ex->St->Option R} {F:Y->Option R} (hF:∀y,F y=kQ en m R fc p K (.normal,o y)) :
    x.bind F=drC en m k fc p R K s:=by
 unfold drC;rw[h,Wx];exact congrArg _ (funext hF)
def N8(_:St)(x:Option R):Option R:=x
theorem bM(s:St)(x:Option X)(k:X->Option Y):(N8 s x).bind k=N8 s (x.bind k):=rfl
theorem mM(s:St)(x:Option X)(k:X->Y):(N8 s x).map k=N8 s (x.map k):=rfl
theorem F7{en:Env}{m k:Nat}{fc:Code}{p:List Nat}{s:St}{e:Ex×St}(h:Mn en m k fc p s=some e){K:Ex->St->Option R}{T:Option R}(hT:∀_:Unit,T=kQ en m R fc p K e):N8 s T=jnC en m k fc p R K s:=by
 unfold jnC;rw[h];exact hT ()
end
noncomputable def Adk(ms:List PM)(en:Env)(fn:Func):Callee:={modes:=ms,run:=λR args E K=>AH en fn R args E K}
theorem Adl{ms:List PM}{en:Env}{fn:Func}(he:Rh en):Wl (Adk ms en fn):=by
 intro R args E K;show AH en fn R args E K=(AH en fn (AV×List Blk) args E _).bind _;unfold AH;split
 ·rfl
 ·split
  ·have fin:∀s:St,(match Ry E.length en.fi.fin s with
       | none=>none
       | some σ=>match Vl en.tab σ fn.results.toList with
        | some l=>match W6 E.length en.fi.Ow l σ.blks with
         | some (l,bs)=>match Rt en.fi.res l bs with
          | some (l',bs')=>match leave E.length bs' (bg l') with
           | some (v,bs)=>K v bs
           | none=>none
          | none=>none
         | none=>none
        | none=>none)=(match Ry E.length en.fi.fin s with
       | none=>none
       | some σ=>match Vl en.tab σ fn.results.toList with
        | some l=>match W6 E.length en.fi.Ow l σ.blks with
         | some (l,bs)=>match Rt en.fi.res l bs with
          | some (l',bs')=>match leave E.length bs' (bg l') with
           | some (v,bs)=>some (v,bs)
           | none=>none
          | none=>none
         | none=>none
        | none=>none).bind λp=>K p.1 p.2:=λs=>by
     cases Ry E.length en.fi.fin s with
     | none=>rfl
     | some s =>
      dsimp only
      cases Vl en.tab s fn.results.toList with
      | none=>rfl
      | some l =>
       dsimp only
       cases W6 E.length en.fi.Ow l s.blks with
       | none=>rfl
       | some q =>
        dsimp only
        cases Rt en.fi.res q.1 q.2 with
        | none=>rfl
        | some q =>
         dsimp only
         cases leave E.length q.2 (bg q.1) with
         | none=>rfl
         | some q=>rfl
   refine nu (P0 he _) λe s=>?_;cases e with
   | exit n=>rfl
   | normal=>exact fin s
   | ret=>exact fin s
  ·rfl
theorem o9{P:Program}{f:FuncId}{fn:Func}{ms:List PM}{en:Env}(hf:P.funcs[f]?=some fn)(hn:(fn.name=="runtime.NumGoroutine")=false)(hb:fn.body.isNone=false)(he:HB P en):An P f (Adk ms en fn) :=
 An.of he hf hn hb (Adl he.nat) λ_ _ _ _ h=>h
inductive Pt where
 | k (a:AV)| dat (ks:List Nat) (t:Ty)| rop (ks:List Nat) (t:Ty)| ptr (k:Nat) (p:List Nat) (o:Nat)| pr (a b:Pt)| cons (a b:Pt)| fn (f:Nat) (c:Pt)
def AV.isK:AV->AV->Bool
 | .zs,.zs=>true
 | .JH,.JH=>true
 | .nil,.nil=>true
 | .un n,.un m=>n==m
 | .ref n,.ref m=>n==m
 | .mp n,.mp m=>n==m
 | .ptr k i p o,.ptr k' i' p' o'=>k==k'&&i==i'&&p==p'&&o==o'
 | .dat [] .unit _,.dat [] .unit _=>true
 | _,_=>false
theorem AV.Ahr{a b:AV}(h:a.isK b=true):b=a:=by
 unfold AV.isK at h;split at h<;>first | rfl | (simp at h;obtain⟨⟨⟨rfl,rfl⟩,rfl⟩,rfl⟩:=h;rfl)| (simp at h;subst h;rfl)| cases h
@[reducible] def Pt.T:Pt->Type
 | .k _=>Unit
 | .dat _ t=>t.V
 | .rop _ t=>t.V
 | .ptr _ _ _=>Int
 | .pr a b=>a.T×b.T
 | .cons a b=>a.T×b.T
 | .fn _ c=>c.T
def Pt.fill:(p:Pt)->p.T->AV
 | .k a,_=>a
 | .dat ks t,x=>.dat ks t x
 | .rop ks t,x=>.rop ks t x
 | .ptr j p o,i=>.ptr j i p o
 | .pr a b,x=>.pr (a.fill x.1) (b.fill x.2)
 | .cons a b,x=>.cons (a.fill x.1) (b.fill x.2)
 | .fn f c,x=>.fn f (c.fill x)
def Pt.mt:(p:Pt)->AV->Option p.T
 | .k a,b=>bif a.isK b then some () else none
 | .dat ks t,a=>match a with | .dat ks' t' x=>if ks'=ks then Hw t' t x else none | _=>none
 | .rop ks t,a=>match a with | .rop ks' t' x=>if ks'=ks then Hw t' t x else none | _=>none
 | .ptr j p o,a=>match a with | .ptr j' i p' o'=>if j'=j/\p'=p/\o'=o then some i else none | _=>none
 | .pr a b,c=>match c with | .pr x y=>(match a.mt x,b.mt y with | some u,some v=>some (u,v)| _,_=>none)| _=>none
 | .cons a b,c=>match c with | .cons x y=>(match a.mt x,b.mt y with | some u,some v=>some (u,v)| _,_=>none)| _=>none
 | .fn f c,a=>match a with | .fn f' x=>if f'=f then c.mt x else none | _=>none
theorem Pt.Oy:∀{p:Pt} {a:AV} {x:p.T},p.mt a=some x->a=p.fill x
 | .k a,b,x,h=>by
  unfold Pt.mt at h;cases e:a.isK b with
  | false=>rw[e] at h;cases h
  | true=>exact AV.Ahr e
 | .dat ks t,a,x,h=>by
  unfold Pt.mt at h;cases a with
  | dat ks' t' y =>
   simp only at h;split at h
   ·rename_i e;subst e;obtain⟨e,q⟩:=Bb h;subst e;subst q;rfl
   ·cases h
  | _=>cases h
 | .rop ks t,a,x,h=>by
  unfold Pt.mt at h;cases a with
  | rop ks' t' y =>
   simp only at h;split at h
   ·rename_i e;subst e;obtain⟨e,q⟩:=Bb h;subst e;subst q;rfl
   ·cases h
  | _=>cases h
 | .ptr j p o,a,x,h=>by
  unfold Pt.mt at h;cases a with
  | ptr j' i p' o' =>
   simp only at h;split at h
   ·rename_i e;obtain⟨rfl,rfl,rfl⟩:=e;injection h with h;subst h;rfl
   ·cases h
  | _=>cases h
 | .pr a b,c,x,h=>by
  unfold Pt.mt at h;cases c with
  | pr y z =>
   simp only at h;split at h
   ·rename_i u v hu hv;injection h with h;subst h;rw[Pt.Oy hu,Pt.Oy hv];rfl
   ·cases h
  | _=>cases h
 | .cons a b,c,x,h=>by
  unfold Pt.mt at h;cases c with
  | cons y z =>
   simp only at h;split at h
   ·rename_i u v hu hv;injection h with h;subst h;rw[Pt.Oy hu,Pt.Oy hv];rfl
   ·cases h
  | _=>cases h
 | .fn f c,a,x,h=>by
  unfold Pt.mt at h;cases a with
  | fn f' y =>
   simp only at h;split at h
   ·rename_i e;subst e;rw[Pt.Oy h];rfl
   ·cases h
  | _=>cases h
@[reducible] def AaG:List Pt->Type
 | []=>Unit
 | p::r=>p.T×AaG r
def AhB:(l:List Pt)->AaG l->List AV
 | [],_=>[]
 | p::r,x=>p.fill x.1::AhB r x.2
def AdA:(l:List Pt)->List AV->Option (AaG l)
 | [],l=>match l with | []=>some ()| _=>none
 | p::r,l=>match l with | a::as'=>(match p.mt a,AdA r as' with | some u,some v=>some (u,v)| _,_=>none)| _=>none
theorem Zp:∀{l:List Pt} {a:List AV} {x:AaG l},AdA l a=some x->a=AhB l x
 | [],a,x,h=>by
  cases a with
  | nil=>rfl
  | cons _ _=>cases h
 | p::r,a,x,h=>by
  unfold AdA at h;cases a with
  | nil=>cases h
  | cons a as' =>
   simp only at h;split at h
   ·rename_i u v hu hv;injection h with h;subst h;rw[Pt.Oy hu,Zp hv];rfl
   ·cases h
inductive dK where
 | box (p:Pt)| row (e:Nat) (m:RM) (t:Ty)| map (m:RM) (kt vt:Ty)| dead
def RM.eqb:RM->RM->Bool
 | .deep,.deep=>true
 | .sh a,.sh b=>a==b
 | _,_=>false
theorem RM.zn{a b:RM}(h:a.eqb b=true):b=a:=by
 cases a<;>cases b<;>simp[RM.eqb] at h
 ·rfl
 ·subst h;rfl
@[reducible] def dK.T:dK->Type
 | .box p=>p.T
 | .row _ _ t=>List t.V
 | .map _ kt vt=>List (kt.V×vt.V)
 | .dead=>Unit
def dK.fill:(p:dK)->p.T->Blk
 | .box p,x=>.box (p.fill x)
 | .row e m t,x=>.row e m t x
 | .map m kt vt,x=>.map m kt vt x none
 | .dead,_=>.dead
def dK.mt:(p:dK)->Blk->Option p.T
 | .box p,b=>match b with | .box a=>p.mt a | _=>none
 | .row e m t,b=>match b with | .row e' m' t' xs=>if e'=e then bif m.eqb m' then Hw (.sl t') (.sl t) xs else none else none | _=>none
 | .map m kt vt,b=>match b with | .map m' kt' vt' es none=>bif m.eqb m' then Hw (.sl (.pair kt' vt')) (.sl (.pair kt vt)) es else none | _=>none
 | .dead,b=>match b with | .dead=>some ()| _=>none
theorem dK.Oy:∀{p:dK} {a:Blk} {x:p.T},p.mt a=some x->a=p.fill x
 | .box p,a,x,h=>by
  unfold dK.mt at h;cases a with
  | box y=>rw[Pt.Oy h];rfl
  | _=>cases h
 | .row e m t,a,x,h=>by
  unfold dK.mt at h;cases a with
  | row e' m' t' y =>
   simp only at h;split at h
   ·rename_i e0;subst e0;cases hm:m.eqb m' with
    | false=>rw[hm] at h;cases h
    | true =>
     rw[hm,Axc] at h;have:=RM.zn hm;subst this;obtain⟨e1,q⟩:=Bb h;cases Ty.sl.inj e1;subst q;rfl
   ·cases h
  | _=>cases h
 | .map m kt vt,a,x,h=>by
  unfold dK.mt at h;cases a with
  | map m' kt' vt' es st =>
   cases st with
   | none =>
    simp only at h;cases hm:m.eqb m' with
    | false=>rw[hm] at h;cases h
    | true =>
     rw[hm,Axc] at h;have:=RM.zn hm;subst this;obtain⟨e1,q⟩:=Bb h;obtain⟨e2,e3⟩:=Ty.pair.inj (Ty.sl.inj e1);subst e2;subst e3;subst q;rfl
   | some z=>cases h
  | _=>cases h
 | .dead,a,x,h=>by
  unfold dK.mt at h;cases a with
  | dead=>rfl
  | _=>cases h
@[reducible] def eD:List dK->Type
 | []=>Unit
 | p::r=>p.T×eD r
def wK:(l:List dK)->eD l->List Blk
 | [],_=>[]
 | p::r,x=>p.fill x.1::wK r x.2
def nZ:(l:List dK)->List Blk->Option (eD l)
 | [],l=>match l with | []=>some ()| _=>none
 | p::r,l=>match l with | a::as'=>(match p.mt a,nZ r as' with | some u,some v=>some (u,v)| _,_=>none)| _=>none
theorem Wy:∀{l:List dK} {a:List Blk} {x:eD l},nZ l a=some x->a=wK l x
 | [],a,x,h=>by
  cases a with
  | nil=>rfl
  | cons _ _=>cases h
 | p::r,a,x,h=>by
  unfold nZ at h;cases a with
  | nil=>cases h
  | cons a as' =>
   simp only at h;split at h
   ·rename_i u v hu hv;injection h with h;subst h;rw[dK.Oy hu,Wy hv];rfl
   ·cases h
structure Br where
 pa:List Pt
 pb:List dK
 U:Type
 F:AaG pa×eD pb->Option U
 out:U->AV×List Blk
def Wz:List Br->(R:Type)->List AV->List Blk->(AV->List Blk->Option R)->Option R
 | [],_,_,_,_=>none
 | b::r,R,avs,E,K=>match AdA b.pa avs,nZ b.pb E with
  | some x,some y=>(b.F (x,y)).bind λu=>K (b.out u).1 (b.out u).2
  | _,_=>Wz r R avs E K
def BX(ms:List PM)(bs:List Br):Callee:={modes:=ms,run:=Wz bs}
theorem YD:∀(bs:List Br) (R:Type) (args:List AV) (E:List Blk) (K:AV->List Blk->Option R),Wz bs R args E K=(Wz bs (AV×List Blk) args E λv b=>some (v,b)).bind λp=>K p.1 p.2
 | [],_,_,_,_=>rfl
 | b::r,R,args,E,K=>by
  unfold Wz;split
  ·rw[Axd];rfl
  ·exact YD r R args E K
def Arp(P:Program)(fn:Func)(b:Br):Prop:=∃en,HB P en/\∀p (R:Type) (K:AV->List Blk->Option R),AH en fn R (AhB b.pa p.1) (wK b.pb p.2) K=(b.F p).bind λu=>K (b.out u).1 (b.out u).2
def uy(P:Program)(fn:Func):List Br->Prop
 | []=>True
 | b::r=>Arp P fn b/\uy P fn r
theorem wL{P:Program}{fn:Func}:∀{bs:List Br},uy P fn bs->∀args E av E',Wz bs (AV×List Blk) args E (λv b=>some (v,b))=some (av,E')->∃en,HB P en/\AH en fn (AV×List Blk) args E (λv b=>some (v,b))=some (av,E')
 | [],_,_,_,_,_,h=>by cases h
 | b::r,⟨⟨en,he,hb⟩,hr⟩,args,E,av,E',h=>by
  unfold Wz at h;split at h
  ·rename_i x y hx hy;refine⟨en,he,?_⟩;rw[Zp hx,Wy hy];exact(hb (x,y) _ _).trans h
  ·exact wL hr args E av E' h
theorem Ap{P:Program}{f:FuncId}{fn:Func}{ms:List PM}{bs:List Br}(hf:P.funcs[f]?=some fn)(hn:(fn.name=="runtime.NumGoroutine")=false)(hb:fn.body.isNone=false)(h:uy P fn bs):An P f (BX ms bs) :=
 An.of2 hf hn hb (YD bs) (wL h)
abbrev Axe:=And.intro @mC (And.intro @mI (And.intro @mN (And.intro @mB (And.intro @mE @mM))))
abbrev Axf:=And.intro @bC (And.intro @bI (And.intro @bN (And.intro @bE (And.intro @bA (And.intro @bS (And.intro @bO @bM))))))
abbrev wI(x:Int):Int:=IntKind.i64.wrap x
end Go.Va
namespace Go.Proofs.X
open Go Go.Va
set_option maxRecDepth 100000
abbrev Tlaws_Decl:Ty:=(.pair .str (.pair (.int .i64) .unit))
abbrev Ab:Ty:=(.pair .str (.pair (.int .i64) .unit))
abbrev Am:Ty:=(.pair (.int .i64) (.pair (.sl (.int .u64)) .unit))
abbrev Ae:Ty:=(.pair (.int .i64) (.pair (.int .i64) (.pair (.int .i64) (.pair (.int .i64) (.pair Am (.pair (.sl (.int .i64)) .unit))))))
abbrev Ak:Ty:=(.pair (.sl Ae) .unit)
abbrev Ag:Ty:=(.pair (.int .i64) (.pair .bool (.pair Ak (.pair Ak .unit))))
abbrev Wp:Ty:=(.pair (.int .i64) (.pair (.sl (.int .u64)) .unit))
abbrev Rm:Ty:=(.pair (.int .i64) (.pair (.int .i64) (.pair (.int .i64) (.pair (.int .i64) (.pair Wp (.pair (.sl (.int .i64)) .unit))))))
abbrev S6:Ty:=(.pair (.sl Rm) .unit)
abbrev Tlaws_Literal:Ty:=(.pair (.int .i64) (.pair .bool (.pair S6 (.pair S6 .unit))))
abbrev Tlaws_Cuts:Ty:=(.pair (.sl (.sl (.int .i64))) .unit)
abbrev Bm:Ty:=(.pair (.int .i64) (.pair Am .unit))
abbrev Ai:Ty:=(.pair Bm (.pair Bm (.pair (.int .i64) .unit)))
abbrev Ah:Ty:=(.pair (.sl (.sl (.int .i64))) .unit)
abbrev Ad:Ty:=(.pair (.int .i64) (.pair (.int .i64) (.pair (.int .i64) (.pair Am .unit))))
abbrev Aa:Ty:=(.pair (.int .i64) (.pair (.int .i64) .unit))
abbrev Aj:Ty:=(.pair (.sl Aa) (.pair (.sl .bool) .unit))
abbrev Af:Ty:=(.pair (.int .i64) (.pair (.int .i64) (.pair (.int .i64) .unit)))
abbrev EH:Ty:=(.pair Ad (.pair (.int .i64) .unit))
abbrev ZN:Ty:=(.pair (.sl Ab) (.pair (.sl (.sl .bool)) (.pair (.opq 1) (.pair (.sl (.pair (.int .i64) (.pair (.int .i64) .unit))) .unit))))
abbrev Wo:Ty:=(.pair (.int .i64) (.pair (.int .i64) (.pair (.int .i64) .unit)))
abbrev Axg:=Aa.V
abbrev Axh:=Ab.V
abbrev Axi:=Ad.V
abbrev Axj:=Ae.V
abbrev Axk:=Af.V
abbrev Axl:=Ag.V
abbrev Axm:=Ah.V
abbrev Axn:=Ai.V
abbrev Axo:=Aj.V
abbrev Axp:=Ak.V
abbrev Axq:=Am.V
abbrev Axr:=Bm.V
abbrev Axs:=List Int
abbrev Axt:=List Bool
abbrev Axu:=List Nat
abbrev Axv:=List Axg
abbrev Axw:=List Axh
abbrev Axx:=List Axi
abbrev Axy:=List Axj
abbrev Axz:=List Axk
abbrev AxA:=List Axl
abbrev AxB:=List Axn
abbrev AxC:=List Axo
abbrev AxD:=List Axs
abbrev AxE:=List Axt
abbrev AxF:=List Axv
abbrev AxG:=List Axx
def tab:Tab:=[
 (2,⟨(.int .i64),[],0,8,0,0,false⟩),
 (3,⟨(.int .i64),[],0,8,0,0,false⟩),
 (4,⟨.bool,[],0,1,0,0,false⟩),
 (5,⟨(.int .u8),[],0,1,0,0,false⟩),
 (9,⟨.str,[],0,16,0,0,false⟩),
 (22,⟨(.sl Tlaws_Decl),[],94,24,0,0,false⟩),
 (30,⟨(.sl Ab),[],109,24,0,0,false⟩),
 (32,⟨(.sl Ag),[],58,24,0,0,false⟩),
 (41,⟨(.sl Rm),[],268,24,0,0,false⟩),
 (43,⟨S6,[0],0,24,0,0,false⟩),
 (45,⟨Tlaws_Literal,[0,1,2,3],0,64,0,0,false⟩),
 (46,⟨(.sl (.sl (.int .i64))),[],72,24,0,0,false⟩),
 (48,⟨Tlaws_Cuts,[0],0,24,0,0,false⟩),
 (51,⟨(.sl Ai),[],139,24,0,0,false⟩),
 (54,⟨(.sl Ae),[],231,24,0,0,false⟩),
 (56,⟨Ak,[0],0,24,0,0,false⟩),
 (58,⟨Ag,[0,1,2,3],0,64,0,0,false⟩),
 (60,⟨Ah,[0],0,24,0,0,false⟩),
 (72,⟨(.sl (.int .i64)),[],2,24,0,0,false⟩),
 (81,⟨(.sl (.int .u64)),[],216,24,0,0,false⟩),
 (83,⟨Am,[0,1],0,32,0,0,false⟩),
 (94,⟨Tlaws_Decl,[0,1],0,24,0,0,false⟩),
 (97,⟨(.sl (.sl Ad)),[],121,24,0,0,false⟩),
 (104,⟨(.sl .bool),[],4,24,0,0,false⟩),
 (109,⟨Ab,[0,1],0,24,0,0,false⟩),
 (121,⟨(.sl Ad),[],238,24,0,0,false⟩),
 (124,⟨(.sl Aa),[],199,24,0,0,false⟩),
 (126,⟨Aj,[0,1],0,48,0,0,false⟩),
 (128,⟨(.sl (.sl .bool)),[],104,24,0,0,false⟩),
 (131,⟨(.sl Af),[],157,24,0,0,false⟩),
 (135,⟨Bm,[0,1],0,40,0,0,false⟩),
 (139,⟨Ai,[0,3,6],0,88,0,0,false⟩),
 (141,⟨(.sl (.pair (.sl Ad) (.pair (.sl Ad) .unit))),[],145,24,0,0,false⟩),
 (145,⟨(.pair (.sl Ad) (.pair (.sl Ad) .unit)),[],121,48,2,0,false⟩),
 (147,⟨(.opq 1),[],2,8,0,253,false⟩),
 (157,⟨Af,[0,1,2],0,24,0,0,false⟩),
 (180,⟨(.sl (.int .u8)),[],5,24,0,0,false⟩),
 (199,⟨Aa,[0,1],0,16,0,0,false⟩),
 (216,⟨(.int .u64),[],0,8,0,0,false⟩),
 (231,⟨Ae,[0,1,2,3,4,6],0,88,0,0,false⟩),
 (234,⟨(.sl (.sl Aa)),[],124,24,0,0,false⟩),
 (238,⟨Ad,[0,1,2,3],0,56,0,0,false⟩),
 (250,⟨EH,[0,5],0,64,0,0,false⟩),
 (253,⟨(.pair (.int .i64) (.pair (.int .i64) .unit)),[],2,16,2,0,false⟩),
 (266,⟨Wp,[0,1],0,32,0,0,false⟩),
 (268,⟨Rm,[0,1,2,3,4,6],0,88,0,0,false⟩),
 (269,⟨(.int .u64),[],0,8,0,0,false⟩),
 (290,⟨(.sl Aj),[],126,24,0,0,false⟩),
 (291,⟨(.opq 1),[],292,8,0,253,false⟩),
 (292,⟨(.sl (.pair (.int .i64) (.pair (.int .i64) .unit))),[],253,24,0,0,false⟩),
 (294,⟨ZN,[0,1,2,3],0,80,0,0,false⟩),
 (297,⟨(.sl Wo),[],300,24,0,0,false⟩),
 (300,⟨Wo,[0,1,2],0,24,0,0,false⟩)]
theorem Aw:V0 Tryz.prog tab=true:=by kernel_rfl
theorem mixed:Tryz.prog.follows .mixedOrders=true:=by kernel_rfl
noncomputable section
abbrev E0:Env:=⟨tab,As [],{deep:=true}⟩
def Gd(a:Axh)(b:Int):Int:=(bif decide ((wI (b-(a.1.size:Int)))<0) then(-1) else(wI (b-(a.1.size:Int))))
theorem U0(R:Type)(a:Axh)(b:Int)(K:AV->List Blk->Option R):AH E0 Tryz.f50 R [dD Ab a,dI b] [] K=K (dI (Gd a b)) []:=by
 have h:AH E0 Tryz.f50 R [dD Ab a,dI b] [] K =
 bif decide ((wI (b-(a.1.size:Int)))<0) then
 K (dI (-1)) []
 else
 K (dI (wI (b-(a.1.size:Int)))) []:=by kernel_rfl
 rw[h];unfold Gd;cases h1:(decide ((wI (b-(a.1.size:Int)))<0))
 ·first | rfl | kernel_rfl
 ·first | rfl | kernel_rfl
def c50:Va.Callee:=BX [.d Ab,.d (.int .i64)] [⟨[.dat [] Ab,.dat [] (.int .i64)],[],Int,λp=>some (Gd p.1.1 p.1.2.1),λr=>(dI r,[])⟩]
theorem AcC:An Tryz.prog 50 c50:=Ap (fn:=Tryz.f50) (by kernel_rfl) (by kernel_rfl) (by kernel_rfl) ⟨⟨E0,⟨⟨Aw,Ao trivial⟩,mixed⟩,λp R K=>U0 R p.1.1 p.1.2.1 K⟩,trivial⟩
abbrev E1:Env:=⟨tab,As [(50,c50)],{deep:=true,heads:=[(5,{live:=[0,1,5]})],outs:=[(5,{live:=[1,4]})]}⟩
def ArA(a:Axw)(z_:Int×Int):St:=sT 27 [(0,dD (.sl Ab) a),(1,dI z_.1),(5,dI z_.2)] []
def Arx(a:Axw):(Int⊕Int)->Ex×St:=Sum.elim (λb=>(.ret,sT 27 [(1,dI b),(4,dI (-1))] [])) (λc=>((.exit 0),sT 27 [(1,dI c)] []))
def PK(a:Axw)(d e:Int):Option ((Int×Int)⊕(Int⊕Int)) :=
 bif decide (e<(a.length:Int)) then
 if(0:Int)<=e/\e<(a.length:Int) then
 bif decide ((Gd (a.getD e.toNat Ab.zero) d)<0) then
 some (.inr (.inl (Gd (a.getD e.toNat Ab.zero) d)))
 else
 some (.inl ((Gd (a.getD e.toNat Ab.zero) d),(wI (e+1))))
 else none
 else
 some (.inr (.inr d))
def IZ(a:Axw)(z_:Int×Int):=PK a z_.1 z_.2
def Q8(a:Axw)(d e:Int):=fix (IZ a) (d,e)
theorem ArD(a:Axw):AU E1 0 5 (code Tryz.f8) [1,1,1,0,1,0] (ArA a) (IZ a) (Arx a):=by
 intro _;simp only[IZ,PK,Axe];kernel_rfl
def ME(a:Axw)(g:Int):Option Int :=
 bif decide ((wI (g-(a.length:Int)))<0) then
 some (-1)
 else
 (Q8 a (wI (g-(a.length:Int))) 0).bind (Sum.elim (λb =>
 some (-1)) (λc =>
 some c))
theorem U1(R:Type)(a:Axw)(g:Int)(K:AV->List Blk->Option R):AH E1 Tryz.f8 R [dD (.sl Ab) a,dI g] [] K=(ME a g).bind λr=>K (dI r) []:=by
 simp only[ME,Axf];simp(disch:=refine sI ?_<;>(repeat' refine sA ?_ ?_)<;>intro _<;>kernel_rfl) only[Q8,Ax (ArD _) (K:=AP E1 Tryz.f8 0 R K)]
 kernel_rfl
def c8:Va.Callee:=BX [.d (.sl Ab),.d (.int .i64)] [⟨[.dat [] (.sl Ab),.dat [] (.int .i64)],[],Int,λp=>ME p.1.1 p.1.2.1,λr=>(dI r,[])⟩]
theorem Ag9:An Tryz.prog 8 c8:=Ap (fn:=Tryz.f8) (by kernel_rfl) (by kernel_rfl) (by kernel_rfl) ⟨⟨E1,⟨⟨Aw,Ao ⟨AcC,trivial⟩⟩,mixed⟩,λp R K=>U1 R p.1.1 p.1.2.1 K⟩,trivial⟩
abbrev E2:Env:=⟨tab,As [],{deep:=true}⟩
def Bo(a:Axs)(b:Int):Int:=(bif decide ((wI (b-(a.length:Int)))<0) then(-1) else(wI (b-(a.length:Int))))
theorem U2(R:Type)(a:Axs)(b:Int)(K:AV->List Blk->Option R):AH E2 Tryz.f246 R [dD (.sl (.int .u64)) a,dI b] [] K=K (dI (Bo a b)) []:=by
 have h:AH E2 Tryz.f246 R [dD (.sl (.int .u64)) a,dI b] [] K =
 bif decide ((wI (b-(a.length:Int)))<0) then
 K (dI (-1)) []
 else
 K (dI (wI (b-(a.length:Int)))) []:=by kernel_rfl
 rw[h];unfold Bo;cases h1:(decide ((wI (b-(a.length:Int)))<0))
 ·first | rfl | kernel_rfl
 ·first | rfl | kernel_rfl
def ApX:Va.Callee:=BX [.d (.sl (.int .u64)),.d (.int .i64)] [⟨[.dat [] (.sl (.int .u64)),.dat [] (.int .i64)],[],Int,λp=>some (Bo p.1.1 p.1.2.1),λr=>(dI r,[])⟩]
theorem yH:An Tryz.prog 246 ApX:=Ap (fn:=Tryz.f246) (by kernel_rfl) (by kernel_rfl) (by kernel_rfl) ⟨⟨E2,⟨⟨Aw,Ao trivial⟩,mixed⟩,λp R K=>U2 R p.1.1 p.1.2.1 K⟩,trivial⟩
abbrev E3:Env:=⟨tab,As [(246,ApX)],{deep:=true}⟩
def BF(a:Axq)(b:Int):Int:=(bif decide ((Bo a.2.1 b)<0) then(-1) else(Bo a.2.1 b))
theorem U3(R:Type)(a:Axq)(b:Int)(K:AV->List Blk->Option R):AH E3 Tryz.f217 R [dD Am a,dI b] [] K=K (dI (BF a b)) []:=by
 have h:AH E3 Tryz.f217 R [dD Am a,dI b] [] K =
 bif decide ((Bo a.2.1 b)<0) then
 K (dI (-1)) []
 else
 K (dI (Bo a.2.1 b)) []:=by kernel_rfl
 rw[h];unfold BF;cases h1:(decide ((Bo a.2.1 b)<0))
 ·first | rfl | kernel_rfl
 ·first | rfl | kernel_rfl
def ApP:Va.Callee:=BX [.d Am,.d (.int .i64)] [⟨[.dat [] Am,.dat [] (.int .i64)],[],Int,λp=>some (BF p.1.1 p.1.2.1),λr=>(dI r,[])⟩]
theorem yh:An Tryz.prog 217 ApP:=Ap (fn:=Tryz.f217) (by kernel_rfl) (by kernel_rfl) (by kernel_rfl) ⟨⟨E3,⟨⟨Aw,Ao ⟨yH,trivial⟩⟩,mixed⟩,λp R K=>U3 R p.1.1 p.1.2.1 K⟩,trivial⟩
abbrev E4:Env:=⟨tab,As [],{deep:=true}⟩
def A9(a:Axs)(b:Int):Int:=(bif decide ((wI (b-(a.length:Int)))<0) then(-1) else(wI (b-(a.length:Int))))
theorem U4(R:Type)(a:Axs)(b:Int)(K:AV->List Blk->Option R):AH E4 Tryz.f140 R [dD (.sl (.int .i64)) a,dI b] [] K=K (dI (A9 a b)) []:=by
 have h:AH E4 Tryz.f140 R [dD (.sl (.int .i64)) a,dI b] [] K =
 bif decide ((wI (b-(a.length:Int)))<0) then
 K (dI (-1)) []
 else
 K (dI (wI (b-(a.length:Int)))) []:=by kernel_rfl
 rw[h];unfold A9;cases h1:(decide ((wI (b-(a.length:Int)))<0))
 ·first | rfl | kernel_rfl
 ·first | rfl | kernel_rfl
def Ag4:Va.Callee:=BX [.d (.sl (.int .i64)),.d (.int .i64)] [⟨[.dat [] (.sl (.int .i64)),.dat [] (.int .i64)],[],Int,λp=>some (A9 p.1.1 p.1.2.1),λr=>(dI r,[])⟩]
theorem eT:An Tryz.prog 140 Ag4:=Ap (fn:=Tryz.f140) (by kernel_rfl) (by kernel_rfl) (by kernel_rfl) ⟨⟨E4,⟨⟨Aw,Ao trivial⟩,mixed⟩,λp R K=>U4 R p.1.1 p.1.2.1 K⟩,trivial⟩
abbrev E5:Env:=⟨tab,As [(140,Ag4),(217,ApP)],{deep:=true}⟩
def Ev(a:Axj)(b:Int):Int:=(bif decide ((BF a.2.2.2.2.1 b)<0) then(-1) else(bif decide ((A9 a.2.2.2.2.2.1 (BF a.2.2.2.2.1 b))<0) then(-1) else(A9 a.2.2.2.2.2.1 (BF a.2.2.2.2.1 b))))
theorem U5(R:Type)(a:Axj)(b:Int)(K:AV->List Blk->Option R):AH E5 Tryz.f177 R [dD Ae a,dI b] [] K=K (dI (Ev a b)) []:=by
 have h:AH E5 Tryz.f177 R [dD Ae a,dI b] [] K =
 bif decide ((BF a.2.2.2.2.1 b)<0) then
 K (dI (-1)) []
 else
 bif decide ((A9 a.2.2.2.2.2.1 (BF a.2.2.2.2.1 b))<0) then
 K (dI (-1)) []
 else
 K (dI (A9 a.2.2.2.2.2.1 (BF a.2.2.2.2.1 b))) []:=by kernel_rfl
 rw[h];unfold Ev;cases h1:(decide ((BF a.2.2.2.2.1 b)<0))
 ·cases h2:(decide ((A9 a.2.2.2.2.2.1 (BF a.2.2.2.2.1 b))<0))
  ·first | rfl | kernel_rfl
  ·first | rfl | kernel_rfl
 ·first | rfl | kernel_rfl
def ApE:Va.Callee:=BX [.d Ae,.d (.int .i64)] [⟨[.dat [] Ae,.dat [] (.int .i64)],[],Int,λp=>some (Ev p.1.1 p.1.2.1),λr=>(dI r,[])⟩]
theorem xM:An Tryz.prog 177 ApE:=Ap (fn:=Tryz.f177) (by kernel_rfl) (by kernel_rfl) (by kernel_rfl) ⟨⟨E5,⟨⟨Aw,Ao ⟨eT,yh,trivial⟩⟩,mixed⟩,λp R K=>U5 R p.1.1 p.1.2.1 K⟩,trivial⟩
abbrev E6:Env:=⟨tab,As [(177,ApE)],{deep:=true,heads:=[(5,{live:=[0,1,5]})],outs:=[(5,{live:=[1,4]})]}⟩
def ArB(a:Axy)(z_:Int×Int):St:=sT 27 [(0,dD (.sl Ae) a),(1,dI z_.1),(5,dI z_.2)] []
def Ary(a:Axy):(Int⊕Int)->Ex×St:=Sum.elim (λb=>(.ret,sT 27 [(1,dI b),(4,dI (-1))] [])) (λc=>((.exit 0),sT 27 [(1,dI c)] []))
def O5(a:Axy)(d e:Int):Option ((Int×Int)⊕(Int⊕Int)) :=
 bif decide (e<(a.length:Int)) then
 if(0:Int)<=e/\e<(a.length:Int) then
 bif decide ((Ev (a.getD e.toNat Ae.zero) d)<0) then
 some (.inr (.inl (Ev (a.getD e.toNat Ae.zero) d)))
 else
 some (.inl ((Ev (a.getD e.toNat Ae.zero) d),(wI (e+1))))
 else none
 else
 some (.inr (.inr d))
def HZ(a:Axy)(z_:Int×Int):=O5 a z_.1 z_.2
def Qu(a:Axy)(d e:Int):=fix (HZ a) (d,e)
theorem ArE(a:Axy):AU E6 0 5 (code Tryz.f109) [1,1,1,0,1,0] (ArB a) (HZ a) (Ary a):=by
 intro _;simp only[HZ,O5,Axe];kernel_rfl
def Iz(a:Axy)(g:Int):Option Int :=
 bif decide ((wI (g-(a.length:Int)))<0) then
 some (-1)
 else
 (Qu a (wI (g-(a.length:Int))) 0).bind (Sum.elim (λb =>
 some (-1)) (λc =>
 some c))
theorem U6(R:Type)(a:Axy)(g:Int)(K:AV->List Blk->Option R):AH E6 Tryz.f109 R [dD (.sl Ae) a,dI g] [] K=(Iz a g).bind λr=>K (dI r) []:=by
 simp only[Iz,Axf];simp(disch:=refine sI ?_<;>(repeat' refine sA ?_ ?_)<;>intro _<;>kernel_rfl) only[Qu,Ax (ArE _) (K:=AP E6 Tryz.f109 0 R K)]
 kernel_rfl
def c109:Va.Callee:=BX [.d (.sl Ae),.d (.int .i64)] [⟨[.dat [] (.sl Ae),.dat [] (.int .i64)],[],Int,λp=>Iz p.1.1 p.1.2.1,λr=>(dI r,[])⟩]
theorem wQ:An Tryz.prog 109 c109:=Ap (fn:=Tryz.f109) (by kernel_rfl) (by kernel_rfl) (by kernel_rfl) ⟨⟨E6,⟨⟨Aw,Ao ⟨xM,trivial⟩⟩,mixed⟩,λp R K=>U6 R p.1.1 p.1.2.1 K⟩,trivial⟩
abbrev E7:Env:=⟨tab,As [(109,c109)],{deep:=true}⟩
def Hy(a:Axp)(b:Int):Option Int :=
 (Iz a.1 b).bind λc =>
 bif decide (c<0) then
 some (-1)
 else
 some c
theorem U7(R:Type)(a:Axp)(b:Int)(K:AV->List Blk->Option R):AH E7 Tryz.f41 R [dD Ak a,dI b] [] K=(Hy a b).bind λr=>K (dI r) []:=by
 simp only[Hy,Axf];kernel_rfl
def c41:Va.Callee:=BX [.d Ak,.d (.int .i64)] [⟨[.dat [] Ak,.dat [] (.int .i64)],[],Int,λp=>Hy p.1.1 p.1.2.1,λr=>(dI r,[])⟩]
theorem Acy:An Tryz.prog 41 c41:=Ap (fn:=Tryz.f41) (by kernel_rfl) (by kernel_rfl) (by kernel_rfl) ⟨⟨E7,⟨⟨Aw,Ao ⟨wQ,trivial⟩⟩,mixed⟩,λp R K=>U7 R p.1.1 p.1.2.1 K⟩,trivial⟩
end
end Go.Proofs.X
namespace Go.Proofs.X
open Go Go.Va
set_option maxRecDepth 100000
noncomputable section
abbrev E8:Env:=⟨tab,As [(41,c41)],{deep:=true}⟩
def JF(a:Axl)(b:Int):Option Int :=
 (Hy a.2.2.1 b).bind λc =>
 bif decide (c<0) then
 some (-1)
 else
 (Hy a.2.2.2.1 c).bind λd =>
 bif decide (d<0) then
 some (-1)
 else
 some d
theorem U8(R:Type)(a:Axl)(b:Int)(K:AV->List Blk->Option R):AH E8 Tryz.f21 R [dD Ag a,dI b] [] K=(JF a b).bind λr=>K (dI r) []:=by
 simp only[JF,Axf];kernel_rfl
def c21:Va.Callee:=BX [.d Ag,.d (.int .i64)] [⟨[.dat [] Ag,.dat [] (.int .i64)],[],Int,λp=>JF p.1.1 p.1.2.1,λr=>(dI r,[])⟩]
theorem Acj:An Tryz.prog 21 c21:=Ap (fn:=Tryz.f21) (by kernel_rfl) (by kernel_rfl) (by kernel_rfl) ⟨⟨E8,⟨⟨Aw,Ao ⟨Acy,trivial⟩⟩,mixed⟩,λp R K=>U8 R p.1.1 p.1.2.1 K⟩,trivial⟩
abbrev E9:Env:=⟨tab,As [(140,Ag4)],{deep:=true,heads:=[(5,{live:=[0,1,5]})],outs:=[(5,{live:=[1,4]})]}⟩
def ArC(a:AxD)(z_:Int×Int):St:=sT 27 [(0,dD (.sl (.sl (.int .i64))) a),(1,dI z_.1),(5,dI z_.2)] []
def Arz(a:AxD):(Int⊕Int)->Ex×St:=Sum.elim (λb=>(.ret,sT 27 [(1,dI b),(4,dI (-1))] [])) (λc=>((.exit 0),sT 27 [(1,dI c)] []))
def On(a:AxD)(d e:Int):Option ((Int×Int)⊕(Int⊕Int)) :=
 bif decide (e<(a.length:Int)) then
 if(0:Int)<=e/\e<(a.length:Int) then
 bif decide ((A9 (a.getD e.toNat (Ty.zero (.sl (.int .i64)))) d)<0) then
 some (.inr (.inl (A9 (a.getD e.toNat (Ty.zero (.sl (.int .i64)))) d)))
 else
 some (.inl ((A9 (a.getD e.toNat (Ty.zero (.sl (.int .i64)))) d),(wI (e+1))))
 else none
 else
 some (.inr (.inr d))
def GX(a:AxD)(z_:Int×Int):=On a z_.1 z_.2
def PL(a:AxD)(d e:Int):=fix (GX a) (d,e)
theorem ArF(a:AxD):AU E9 0 5 (code Tryz.f69) [1,1,1,0,1,0] (ArC a) (GX a) (Arz a):=by
 intro _;simp only[GX,On,Axe];kernel_rfl
def Hb(a:AxD)(g:Int):Option Int :=
 bif decide ((wI (g-(a.length:Int)))<0) then
 some (-1)
 else
 (PL a (wI (g-(a.length:Int))) 0).bind (Sum.elim (λb =>
 some (-1)) (λc =>
 some c))
theorem U9(R:Type)(a:AxD)(g:Int)(K:AV->List Blk->Option R):AH E9 Tryz.f69 R [dD (.sl (.sl (.int .i64))) a,dI g] [] K=(Hb a g).bind λr=>K (dI r) []:=by
 simp only[Hb,Axf];simp(disch:=refine sI ?_<;>(repeat' refine sA ?_ ?_)<;>intro _<;>kernel_rfl) only[PL,Ax (ArF _) (K:=AP E9 Tryz.f69 0 R K)]
 kernel_rfl
def c69:Va.Callee:=BX [.d (.sl (.sl (.int .i64))),.d (.int .i64)] [⟨[.dat [] (.sl (.sl (.int .i64))),.dat [] (.int .i64)],[],Int,λp=>Hb p.1.1 p.1.2.1,λr=>(dI r,[])⟩]
theorem AcJ:An Tryz.prog 69 c69:=Ap (fn:=Tryz.f69) (by kernel_rfl) (by kernel_rfl) (by kernel_rfl) ⟨⟨E9,⟨⟨Aw,Ao ⟨eT,trivial⟩⟩,mixed⟩,λp R K=>U9 R p.1.1 p.1.2.1 K⟩,trivial⟩
abbrev E10:Env:=⟨tab,As [(69,c69)],{deep:=true}⟩
def NS(a:Axm)(b:Int):Option Int :=
 (Hb a.1 b).bind λc =>
 bif decide (c<0) then
 some (-1)
 else
 some c
theorem U10(R:Type)(a:Axm)(b:Int)(K:AV->List Blk->Option R):AH E10 Tryz.f22 R [dD Ah a,dI b] [] K=(NS a b).bind λr=>K (dI r) []:=by
 simp only[NS,Axf];kernel_rfl
def c22:Va.Callee:=BX [.d Ah,.d (.int .i64)] [⟨[.dat [] Ah,.dat [] (.int .i64)],[],Int,λp=>NS p.1.1 p.1.2.1,λr=>(dI r,[])⟩]
theorem Ack:An Tryz.prog 22 c22:=Ap (fn:=Tryz.f22) (by kernel_rfl) (by kernel_rfl) (by kernel_rfl) ⟨⟨E10,⟨⟨Aw,Ao ⟨AcJ,trivial⟩⟩,mixed⟩,λp R K=>U10 R p.1.1 p.1.2.1 K⟩,trivial⟩
abbrev E11:Env:=⟨tab,As [],{deep:=true}⟩
def Mg(a:Axh):(ByteArray×Int):=(a.1,a.2.1)
theorem U11(R:Type)(a:Axh)(K:AV->List Blk->Option R):AH E11 Tryz.f57 R [dD Ab a] [] K=K (.pr (dD .str (Mg a).1) (.pr (dI (Mg a).2) .u)) []:=by
 kernel_rfl
def c57:Va.Callee:=BX [.d Ab] [⟨[.dat [] Ab],[],(ByteArray×Int),λp=>some (Mg p.1.1),λr=>(.pr (dD .str r.1) (.pr (dI r.2) .u),[])⟩]
theorem AcF:An Tryz.prog 57 c57:=Ap (fn:=Tryz.f57) (by kernel_rfl) (by kernel_rfl) (by kernel_rfl) ⟨⟨E11,⟨⟨Aw,Ao trivial⟩,mixed⟩,λp R K=>U11 R p.1.1 K⟩,trivial⟩
abbrev E12:Env:=⟨tab,As [(57,c57)],{deep:=true,heads:=[(3,{live:=[0,3,4]})],outs:=[(3,{live:=[3]})]}⟩
def Ako(a:Axw)(z_:Int×Axw):St:=sT 23 [(0,dD (.sl Ab) a),(3,.ref 0),(4,dI z_.1)] [.row 109 .deep Ab z_.2]
def Aid(a:Axw):Axw->Ex×St:=λb=>((.exit 0),sT 23 [(3,.ref 0)] [.row 109 .deep Ab b])
def PN(a:Axw)(c:Int)(d:Axw):Option ((Int×Axw)⊕Axw) :=
 bif decide (c<(a.length:Int)) then
 if(0:Int)<=c/\c<(a.length:Int) then
 if(0:Int)<=c/\c<(d.length:Int) then
 some (.inl ((wI (c+1)),(d.set c.toNat ((Mg (a.getD c.toNat Ab.zero)).1,(Mg (a.getD c.toNat Ab.zero)).2,()))))
 else none
 else none
 else
 some (.inr d)
def I0(a:Axw)(z_:Int×Axw):=PN a z_.1 z_.2
def N6(a:Axw)(c:Int)(d:Axw):=fix (I0 a) (c,d)
theorem AmB(a:Axw):AU E12 0 3 (code Tryz.f11) [1,1,0,1,0] (Ako a) (I0 a) (Aid a):=by
 intro _;simp only[I0,PN,Axe];kernel_rfl
def Ew(a:Axw):Option Axw :=
 if Ty.row Ab=true/\(0:Int)<=(a.length:Int)/\(a.length:Int)<=(a.length:Int)/\((24:Nat):Int)*(a.length:Int)<=(281474976710656:Int)/\(a.length:Int)<=(9223372036854775807:Int) then
 (N6 a 0 (List.replicate (a.length:Int).toNat ((⟨#[]⟩:ByteArray),0,()))).bind λb =>
 some b
 else none
theorem U12(R:Type)(a:Axw)(K:AV->List Blk->Option R):AH E12 Tryz.f11 R [dD (.sl Ab) a] [] K=(Ew a).bind λr=>K (.ref 0) [.row 109 .deep Ab r]:=by
 simp only[Ew,Axf];simp(disch:=refine sI ?_<;>(repeat' refine sA ?_ ?_)<;>intro _<;>kernel_rfl) only[N6,Ax (AmB _) (K:=AP E12 Tryz.f11 0 R K)]
 kernel_rfl
def c11:Va.Callee:=BX [.d (.sl Ab)] [⟨[.dat [] (.sl Ab)],[],Axw,λp=>Ew p.1.1,λr=>(.ref 0,[.row 109 .deep Ab r])⟩]
theorem Acf:An Tryz.prog 11 c11:=Ap (fn:=Tryz.f11) (by kernel_rfl) (by kernel_rfl) (by kernel_rfl) ⟨⟨E12,⟨⟨Aw,Ao ⟨AcF,trivial⟩⟩,mixed⟩,λp R K=>U12 R p.1.1 K⟩,trivial⟩
abbrev E13:Env:=⟨tab,As [],{deep:=true,heads:=[(3,{live:=[0,3,4]})],outs:=[(3,{live:=[3]})]}⟩
def Akp(a:Axs)(z_:Int×Axs):St:=sT 22 [(0,dD (.sl (.int .u64)) a),(3,.ref 0),(4,dI z_.1)] [.row 216 .deep (.int .u64) z_.2]
def Aie(a:Axs):Axs->Ex×St:=λb=>((.exit 0),sT 22 [(3,.ref 0)] [.row 216 .deep (.int .u64) b])
def Oq(a:Axs)(c:Int)(d:Axs):Option ((Int×Axs)⊕Axs) :=
 bif decide (c<(a.length:Int)) then
 if(0:Int)<=c/\c<(a.length:Int) then
 if(0:Int)<=c/\c<(d.length:Int) then
 some (.inl ((wI (c+1)),(d.set c.toNat (a.getD c.toNat (Ty.zero (.int .u64))))))
 else none
 else none
 else
 some (.inr d)
def GZ(a:Axs)(z_:Int×Axs):=Oq a z_.1 z_.2
def MG(a:Axs)(c:Int)(d:Axs):=fix (GZ a) (c,d)
theorem AmC(a:Axs):AU E13 0 3 (code Tryz.f247) [1,1,0,1,0] (Akp a) (GZ a) (Aie a):=by
 intro _;simp only[GZ,Oq,Axe];kernel_rfl
def Fp(a:Axs):Option Axs :=
 if Ty.row (.int .u64)=true/\(0:Int)<=(a.length:Int)/\(a.length:Int)<=(a.length:Int)/\((8:Nat):Int)*(a.length:Int)<=(281474976710656:Int)/\(a.length:Int)<=(9223372036854775807:Int) then
 (MG a 0 (List.replicate (a.length:Int).toNat 0)).bind λb =>
 some b
 else none
theorem U13(R:Type)(a:Axs)(K:AV->List Blk->Option R):AH E13 Tryz.f247 R [dD (.sl (.int .u64)) a] [] K=(Fp a).bind λr=>K (.ref 0) [.row 216 .deep (.int .u64) r]:=by
 simp only[Fp,Axf];simp(disch:=refine sI ?_<;>(repeat' refine sA ?_ ?_)<;>intro _<;>kernel_rfl) only[MG,Ax (AmC _) (K:=AP E13 Tryz.f247 0 R K)]
 kernel_rfl
def ApY:Va.Callee:=BX [.d (.sl (.int .u64))] [⟨[.dat [] (.sl (.int .u64))],[],Axs,λp=>Fp p.1.1,λr=>(.ref 0,[.row 216 .deep (.int .u64) r])⟩]
theorem yI:An Tryz.prog 247 ApY:=Ap (fn:=Tryz.f247) (by kernel_rfl) (by kernel_rfl) (by kernel_rfl) ⟨⟨E13,⟨⟨Aw,Ao trivial⟩,mixed⟩,λp R K=>U13 R p.1.1 K⟩,trivial⟩
abbrev E14:Env:=⟨tab,As [(247,ApY)],{deep:=true}⟩
def NT(a:Axq):Option (Int×Axs) :=
 (Fp a.2.1).bind λb =>
 some (a.1,b)
theorem U14(R:Type)(a:Axq)(K:AV->List Blk->Option R):AH E14 Tryz.f218 R [dD Am a] [] K=(NT a).bind λr=>K (.pr (dI r.1) (.pr (.ref 0) .u)) [.row 216 .deep (.int .u64) r.2]:=by
 simp only[NT,Axf];kernel_rfl
def c218:Va.Callee:=BX [.d Am] [⟨[.dat [] Am],[],(Int×Axs),λp=>NT p.1.1,λr=>(.pr (dI r.1) (.pr (.ref 0) .u),[.row 216 .deep (.int .u64) r.2])⟩]
theorem yj:An Tryz.prog 218 c218:=Ap (fn:=Tryz.f218) (by kernel_rfl) (by kernel_rfl) (by kernel_rfl) ⟨⟨E14,⟨⟨Aw,Ao ⟨yI,trivial⟩⟩,mixed⟩,λp R K=>U14 R p.1.1 K⟩,trivial⟩
abbrev E15:Env:=⟨tab,As [],{deep:=true,heads:=[(3,{live:=[0,3,4]})],outs:=[(3,{live:=[3]})]}⟩
def Akq(a:Axs)(z_:Int×Axs):St:=sT 22 [(0,dD (.sl (.int .i64)) a),(3,.ref 0),(4,dI z_.1)] [.row 2 .deep (.int .i64) z_.2]
def Aif(a:Axs):Axs->Ex×St:=λb=>((.exit 0),sT 22 [(3,.ref 0)] [.row 2 .deep (.int .i64) b])
def O6(a:Axs)(c:Int)(d:Axs):Option ((Int×Axs)⊕Axs) :=
 bif decide (c<(a.length:Int)) then
 if(0:Int)<=c/\c<(a.length:Int) then
 if(0:Int)<=c/\c<(d.length:Int) then
 some (.inl ((wI (c+1)),(d.set c.toNat (a.getD c.toNat (Ty.zero (.int .i64))))))
 else none
 else none
 else
 some (.inr d)
def H5(a:Axs)(z_:Int×Axs):=O6 a z_.1 z_.2
def Nt(a:Axs)(c:Int)(d:Axs):=fix (H5 a) (c,d)
theorem AmD(a:Axs):AU E15 0 3 (code Tryz.f145) [1,1,0,1,0] (Akq a) (H5 a) (Aif a):=by
 intro _;simp only[H5,O6,Axe];kernel_rfl
def Di(a:Axs):Option Axs :=
 if Ty.row (.int .i64)=true/\(0:Int)<=(a.length:Int)/\(a.length:Int)<=(a.length:Int)/\((8:Nat):Int)*(a.length:Int)<=(281474976710656:Int)/\(a.length:Int)<=(9223372036854775807:Int) then
 (Nt a 0 (List.replicate (a.length:Int).toNat 0)).bind λb =>
 some b
 else none
theorem U15(R:Type)(a:Axs)(K:AV->List Blk->Option R):AH E15 Tryz.f145 R [dD (.sl (.int .i64)) a] [] K=(Di a).bind λr=>K (.ref 0) [.row 2 .deep (.int .i64) r]:=by
 simp only[Di,Axf];simp(disch:=refine sI ?_<;>(repeat' refine sA ?_ ?_)<;>intro _<;>kernel_rfl) only[Nt,Ax (AmD _) (K:=AP E15 Tryz.f145 0 R K)]
 kernel_rfl
def c145:Va.Callee:=BX [.d (.sl (.int .i64))] [⟨[.dat [] (.sl (.int .i64))],[],Axs,λp=>Di p.1.1,λr=>(.ref 0,[.row 2 .deep (.int .i64) r])⟩]
theorem eU:An Tryz.prog 145 c145:=Ap (fn:=Tryz.f145) (by kernel_rfl) (by kernel_rfl) (by kernel_rfl) ⟨⟨E15,⟨⟨Aw,Ao trivial⟩,mixed⟩,λp R K=>U15 R p.1.1 K⟩,trivial⟩
end
end Go.Proofs.X
namespace Go.Proofs.X
open Go Go.Va
set_option maxRecDepth 100000
noncomputable section
abbrev E16:Env:=⟨tab,As [(145,c145),(218,c218)],{deep:=true}⟩
def Kk(a:Axj):Option (Int×Int×Int×Int×Int×Axs×Axs) :=
 (NT a.2.2.2.2.1).bind λb =>
 (Di a.2.2.2.2.2.1).bind λc =>
 some (a.1,a.2.1,a.2.2.1,a.2.2.2.1,b.1,b.2,c)
theorem U16(R:Type)(a:Axj)(K:AV->List Blk->Option R):AH E16 Tryz.f179 R [dD Ae a] [] K=(Kk a).bind λr=>K (.pr (dI r.1) (.pr (dI r.2.1) (.pr (dI r.2.2.1) (.pr (dI r.2.2.2.1) (.pr (.pr (dI r.2.2.2.2.1) (.pr (.ref 0) .u)) (.pr (.ref 1) .u)))))) [.row 216 .deep (.int .u64) r.2.2.2.2.2.1,.row 2 .deep (.int .i64) r.2.2.2.2.2.2]:=by
 simp only[Kk,Axf];kernel_rfl
def ApF:Va.Callee:=BX [.d Ae] [⟨[.dat [] Ae],[],(Int×Int×Int×Int×Int×Axs×Axs),λp=>Kk p.1.1,λr=>(.pr (dI r.1) (.pr (dI r.2.1) (.pr (dI r.2.2.1) (.pr (dI r.2.2.2.1) (.pr (.pr (dI r.2.2.2.2.1) (.pr (.ref 0) .u)) (.pr (.ref 1) .u))))),[.row 216 .deep (.int .u64) r.2.2.2.2.2.1,.row 2 .deep (.int .i64) r.2.2.2.2.2.2])⟩]
theorem xO:An Tryz.prog 179 ApF:=Ap (fn:=Tryz.f179) (by kernel_rfl) (by kernel_rfl) (by kernel_rfl) ⟨⟨E16,⟨⟨Aw,Ao ⟨eU,yj,trivial⟩⟩,mixed⟩,λp R K=>U16 R p.1.1 K⟩,trivial⟩
abbrev E17:Env:=⟨tab,As [(179,ApF)],{deep:=true,heads:=[(3,{live:=[0,3,4]})],outs:=[(3,{live:=[3]})]}⟩
def Akr(a:Axy)(z_:Int×Axy):St:=sT 23 [(0,dD (.sl Ae) a),(3,.ref 0),(4,dI z_.1)] [.row 231 .deep Ae z_.2]
def Aig(a:Axy):Axy->Ex×St:=λb=>((.exit 0),sT 23 [(3,.ref 0)] [.row 231 .deep Ae b])
def O7(a:Axy)(c:Int)(d:Axy):Option ((Int×Axy)⊕Axy) :=
 bif decide (c<(a.length:Int)) then
 if(0:Int)<=c/\c<(a.length:Int) then
 (Kk (a.getD c.toNat Ae.zero)).bind λe =>
 if(0:Int)<=c/\c<(d.length:Int) then
 some (.inl ((wI (c+1)),(d.set c.toNat (e.1,e.2.1,e.2.2.1,e.2.2.2.1,(e.2.2.2.2.1,e.2.2.2.2.2.1,()),e.2.2.2.2.2.2,()))))
 else none
 else none
 else
 some (.inr d)
def H6(a:Axy)(z_:Int×Axy):=O7 a z_.1 z_.2
def Nu(a:Axy)(c:Int)(d:Axy):=fix (H6 a) (c,d)
theorem AmE(a:Axy):AU E17 0 3 (code Tryz.f112) [1,1,0,1,0] (Akr a) (H6 a) (Aig a):=by
 intro _;simp only[H6,O7,Axe];kernel_rfl
def IA(a:Axy):Option Axy :=
 if Ty.row Ae=true/\(0:Int)<=(a.length:Int)/\(a.length:Int)<=(a.length:Int)/\((88:Nat):Int)*(a.length:Int)<=(281474976710656:Int)/\(a.length:Int)<=(9223372036854775807:Int) then
 (Nu a 0 (List.replicate (a.length:Int).toNat (0,0,0,0,(0,([]:Axs),()),([]:Axs),()))).bind λb =>
 some b
 else none
theorem U17(R:Type)(a:Axy)(K:AV->List Blk->Option R):AH E17 Tryz.f112 R [dD (.sl Ae) a] [] K=(IA a).bind λr=>K (.ref 0) [.row 231 .deep Ae r]:=by
 simp only[IA,Axf];simp(disch:=refine sI ?_<;>(repeat' refine sA ?_ ?_)<;>intro _<;>kernel_rfl) only[Nu,Ax (AmE _) (K:=AP E17 Tryz.f112 0 R K)]
 kernel_rfl
def Apn:Va.Callee:=BX [.d (.sl Ae)] [⟨[.dat [] (.sl Ae)],[],Axy,λp=>IA p.1.1,λr=>(.ref 0,[.row 231 .deep Ae r])⟩]
theorem wR:An Tryz.prog 112 Apn:=Ap (fn:=Tryz.f112) (by kernel_rfl) (by kernel_rfl) (by kernel_rfl) ⟨⟨E17,⟨⟨Aw,Ao ⟨xO,trivial⟩⟩,mixed⟩,λp R K=>U17 R p.1.1 K⟩,trivial⟩
abbrev E18:Env:=⟨tab,As [(112,Apn)],{deep:=true}⟩
def JG(a:Axp):Option Axy :=
 (IA a.1).bind λb =>
 some b
theorem U18(R:Type)(a:Axp)(K:AV->List Blk->Option R):AH E18 Tryz.f43 R [dD Ak a] [] K=(JG a).bind λr=>K (.pr (.ref 0) .u) [.row 231 .deep Ae r]:=by
 simp only[JG,Axf];kernel_rfl
def c43:Va.Callee:=BX [.d Ak] [⟨[.dat [] Ak],[],Axy,λp=>JG p.1.1,λr=>(.pr (.ref 0) .u,[.row 231 .deep Ae r])⟩]
theorem Acz:An Tryz.prog 43 c43:=Ap (fn:=Tryz.f43) (by kernel_rfl) (by kernel_rfl) (by kernel_rfl) ⟨⟨E18,⟨⟨Aw,Ao ⟨wR,trivial⟩⟩,mixed⟩,λp R K=>U18 R p.1.1 K⟩,trivial⟩
abbrev E19:Env:=⟨tab,As [(43,c43)],{deep:=true}⟩
def Cx(a:Axl):Option (Int×Bool×Axy×Axy) :=
 (JG a.2.2.1).bind λb =>
 (JG a.2.2.2.1).bind λc =>
 some (a.1,a.2.1,b,c)
theorem U19(R:Type)(a:Axl)(K:AV->List Blk->Option R):AH E19 Tryz.f24 R [dD Ag a] [] K=(Cx a).bind λr=>K (.pr (dI r.1) (.pr (dB r.2.1) (.pr (.pr (.ref 0) .u) (.pr (.pr (.ref 1) .u) .u)))) [.row 231 .deep Ae r.2.2.1,.row 231 .deep Ae r.2.2.2]:=by
 simp only[Cx,Axf];kernel_rfl
def c24:Va.Callee:=BX [.d Ag] [⟨[.dat [] Ag],[],(Int×Bool×Axy×Axy),λp=>Cx p.1.1,λr=>(.pr (dI r.1) (.pr (dB r.2.1) (.pr (.pr (.ref 0) .u) (.pr (.pr (.ref 1) .u) .u))),[.row 231 .deep Ae r.2.2.1,.row 231 .deep Ae r.2.2.2])⟩]
theorem Acm:An Tryz.prog 24 c24:=Ap (fn:=Tryz.f24) (by kernel_rfl) (by kernel_rfl) (by kernel_rfl) ⟨⟨E19,⟨⟨Aw,Ao ⟨Acz,trivial⟩⟩,mixed⟩,λp R K=>U19 R p.1.1 K⟩,trivial⟩
abbrev E20:Env:=⟨tab,As [(145,c145)],{deep:=true,heads:=[(3,{live:=[0,3,4]})],outs:=[(3,{live:=[3]})]}⟩
def Aks(a:AxD)(z_:Int×AxD):St:=sT 23 [(0,dD (.sl (.sl (.int .i64))) a),(3,.ref 0),(4,dI z_.1)] [.row 72 .deep (.sl (.int .i64)) z_.2]
def Aih(a:AxD):AxD->Ex×St:=λb=>((.exit 0),sT 23 [(3,.ref 0)] [.row 72 .deep (.sl (.int .i64)) b])
def Oo(a:AxD)(c:Int)(d:AxD):Option ((Int×AxD)⊕AxD) :=
 bif decide (c<(a.length:Int)) then
 if(0:Int)<=c/\c<(a.length:Int) then
 (Di (a.getD c.toNat (Ty.zero (.sl (.int .i64))))).bind λe =>
 if(0:Int)<=c/\c<(d.length:Int) then
 some (.inl ((wI (c+1)),(d.set c.toNat e)))
 else none
 else none
 else
 some (.inr d)
def GY(a:AxD)(z_:Int×AxD):=Oo a z_.1 z_.2
def MF(a:AxD)(c:Int)(d:AxD):=fix (GY a) (c,d)
theorem AmF(a:AxD):AU E20 0 3 (code Tryz.f80) [1,1,0,1,0] (Aks a) (GY a) (Aih a):=by
 intro _;simp only[GY,Oo,Axe];kernel_rfl
def Hd(a:AxD):Option AxD :=
 if Ty.row (.sl (.int .i64))=true/\(0:Int)<=(a.length:Int)/\(a.length:Int)<=(a.length:Int)/\((24:Nat):Int)*(a.length:Int)<=(281474976710656:Int)/\(a.length:Int)<=(9223372036854775807:Int) then
 (MF a 0 (List.replicate (a.length:Int).toNat ([]:Axs))).bind λb =>
 some b
 else none
theorem U20(R:Type)(a:AxD)(K:AV->List Blk->Option R):AH E20 Tryz.f80 R [dD (.sl (.sl (.int .i64))) a] [] K=(Hd a).bind λr=>K (.ref 0) [.row 72 .deep (.sl (.int .i64)) r]:=by
 simp only[Hd,Axf];simp(disch:=refine sI ?_<;>(repeat' refine sA ?_ ?_)<;>intro _<;>kernel_rfl) only[MF,Ax (AmF _) (K:=AP E20 Tryz.f80 0 R K)]
 kernel_rfl
def c80:Va.Callee:=BX [.d (.sl (.sl (.int .i64)))] [⟨[.dat [] (.sl (.sl (.int .i64)))],[],AxD,λp=>Hd p.1.1,λr=>(.ref 0,[.row 72 .deep (.sl (.int .i64)) r])⟩]
theorem AcO:An Tryz.prog 80 c80:=Ap (fn:=Tryz.f80) (by kernel_rfl) (by kernel_rfl) (by kernel_rfl) ⟨⟨E20,⟨⟨Aw,Ao ⟨eU,trivial⟩⟩,mixed⟩,λp R K=>U20 R p.1.1 K⟩,trivial⟩
abbrev E21:Env:=⟨tab,As [(80,c80)],{deep:=true}⟩
def Ge(a:Axm):Option AxD :=
 (Hd a.1).bind λb =>
 some b
theorem U21(R:Type)(a:Axm)(K:AV->List Blk->Option R):AH E21 Tryz.f25 R [dD Ah a] [] K=(Ge a).bind λr=>K (.pr (.ref 0) .u) [.row 72 .deep (.sl (.int .i64)) r]:=by
 simp only[Ge,Axf];kernel_rfl
def c25:Va.Callee:=BX [.d Ah] [⟨[.dat [] Ah],[],AxD,λp=>Ge p.1.1,λr=>(.pr (.ref 0) .u,[.row 72 .deep (.sl (.int .i64)) r])⟩]
theorem Acn:An Tryz.prog 25 c25:=Ap (fn:=Tryz.f25) (by kernel_rfl) (by kernel_rfl) (by kernel_rfl) ⟨⟨E21,⟨⟨Aw,Ao ⟨AcO,trivial⟩⟩,mixed⟩,λp R K=>U21 R p.1.1 K⟩,trivial⟩
abbrev E22:Env:=⟨tab,As [],{deep:=true}⟩
def Ks(a:Int):Bool:=((decide (a>=48))&&(decide (a<=57)))
theorem U22(R:Type)(a:Int)(K:AV->List Blk->Option R):AH E22 Tryz.f222 R [dD (.int .u8) a] [] K=K (dB (Ks a)) []:=by
 have h:AH E22 Tryz.f222 R [dD (.int .u8) a] [] K =
 bif decide (a>=48) then
 K (dB (decide (a<=57))) []
 else
 K (dB false) []:=by kernel_rfl
 rw[h];unfold Ks;cases h1:(decide (a>=48))
 ·first | rfl | kernel_rfl
 ·first | rfl | kernel_rfl
def c222:Va.Callee:=BX [.d (.int .u8)] [⟨[.dat [] (.int .u8)],[],Bool,λp=>some (Ks p.1.1),λr=>(dB r,[])⟩]
theorem yA:An Tryz.prog 222 c222:=Ap (fn:=Tryz.f222) (by kernel_rfl) (by kernel_rfl) (by kernel_rfl) ⟨⟨E22,⟨⟨Aw,Ao trivial⟩,mixed⟩,λp R K=>U22 R p.1.1 K⟩,trivial⟩
abbrev E23:Env:=⟨tab,As [(222,c222)],{deep:=true,heads:=[(4,{live:=[0,3]})],outs:=[(4,{live:=[2]})],joins:=[(2,{live:=[0,16]}),(7,{live:=[0,3,39]})],ents:=[(2,[0]),(7,[0,3])]}⟩
def Akv(a:ByteArray)(z_:Int):St:=sT 40 [(0,dD .str a),(3,dI z_)] []
def Aik(a:ByteArray):(Unit⊕Unit)->Ex×St:=Sum.elim (λb=>(.ret,sT 40 [(2,dB false)] [])) (λc=>((.exit 0),sT 40 [] []))
def Aku(a:ByteArray)(d:Int):St:=sT 40 [(0,dD .str a),(3,dI d)] []
def Aij(a:ByteArray)(d:Int):Bool->Ex×St:=λe=>(.normal,sT 40 [(0,dD .str a),(3,dI d),(39,dB e)] [])
def JO(a:ByteArray)(d:Int):Option Bool :=
 if(0:Int)<=d/\d<(a.size:Int) then
 bif !(Ks (BL a d)) then
 if(0:Int)<=d/\d<(a.size:Int) then
 bif decide ((BL a d)<97) then
 some true
 else
 if(0:Int)<=d/\d<(a.size:Int) then
 some (decide ((BL a d)>122))
 else none
 else none
 else
 some false
 else none
theorem AmH(a:ByteArray)(d:Int):AL E23 0 7 (sub (code Tryz.f186) [1,1,0,1,0,0]) [1,0,0,0] (Aku a d) (JO a d) (Aij a d):=by
 unfold AL;simp only[JO,Axe];kernel_rfl
def Kv(a:ByteArray)(d:Int):Option (Int⊕(Unit⊕Unit)) :=
 bif decide (d<(a.size:Int)) then
 (JO a d).bind λe =>
 bif e then
 some (.inr (.inl ()))
 else
 some (.inl (wI (d+1)))
 else
 some (.inr (.inr ()))
def Hn(a:ByteArray)(z_:Int):=Kv a z_
def Pq(a:ByteArray)(d:Int):=fix (Hn a) d
theorem AmI(a:ByteArray):AU E23 0 4 (code Tryz.f186) [1,1,0,1,0] (Akv a) (Hn a) (Aik a):=by
 intro _;simp only[Hn,Kv,Axe];simp(disch:=refine sI ?_<;>(repeat' refine sA ?_ ?_)<;>intro _<;>kernel_rfl) only[A6 (AmH _ _) (K:=Be 0 (E23.hd 4) (E23.ot 4))]
 kernel_rfl
def Akt(a:ByteArray):St:=sT 40 [(0,dD .str a)] []
def Aii(a:ByteArray):Bool->Ex×St:=λg=>(.normal,sT 40 [(0,dD .str a),(16,dB g)] [])
def MP(a:ByteArray):Option Bool :=
 bif decide ((a.size:Int)<1) then
 some true
 else
 bif decide ((a.size:Int)>12) then
 some true
 else
 if(0:Int)<=(0:Int)/\(0:Int)<(a.size:Int) then
 some (Ks (BL a 0))
 else none
theorem AmG(a:ByteArray):AL E23 0 2 (code Tryz.f186) [1,0,0] (Akt a) (MP a) (Aii a):=by
 unfold AL;simp only[MP,Axe];kernel_rfl
def JN(a:ByteArray):Option Bool :=
 (MP a).bind λg =>
 bif g then
 some false
 else
 (Pq a 0).bind (Sum.elim (λb =>
 some false) (λc =>
 some true))
theorem U23(R:Type)(a:ByteArray)(K:AV->List Blk->Option R):AH E23 Tryz.f186 R [dD .str a] [] K=(JN a).bind λr=>K (dB r) []:=by
 simp only[JN,Axf];simp(disch:=refine sI ?_<;>(repeat' refine sA ?_ ?_)<;>intro _<;>kernel_rfl) only[A6 (AmG _) (K:=AP E23 Tryz.f186 0 R K),Pq,Ax (AmI _) (K:=AP E23 Tryz.f186 0 R K)]
 kernel_rfl
def ApJ:Va.Callee:=BX [.d .str] [⟨[.dat [] .str],[],Bool,λp=>JN p.1.1,λr=>(dB r,[])⟩]
theorem xU:An Tryz.prog 186 ApJ:=Ap (fn:=Tryz.f186) (by kernel_rfl) (by kernel_rfl) (by kernel_rfl) ⟨⟨E23,⟨⟨Aw,Ao ⟨yA,trivial⟩⟩,mixed⟩,λp R K=>U23 R p.1.1 K⟩,trivial⟩
end
end Go.Proofs.X
