import Derived.MapKept
import Derived.Laws.Strings
import Derived.Laws.StructEq
import Derived.Test.YtlohhmmaibiimaaGreatK3
set_option linter.unusedVariables false
set_option linter.unusedSimpArgs false
namespace Go.Va
section
variable {P:Program} {σ:St} {o:Oper} {en:Env} {e:Eff}
theorem tC{t:TypeId}{x:Operand}(ho:o.op=.load t x){ti:TI}(ht:Eg P t ti)(hsl:ti.Ea=true)(h:TC σ.blks ti (σ.Bw x) some=some e):Lj P σ o e:=by
 unfold TC at h;split at h
 ·rename_i k i p f hx;split at h
  ·rename_i el tr xs hb;split at h
   ·rename_i u hty;split at h
    ·rename_i ys x0 hg hs;split at h
     ·rename_i hc;injection h with h;subst h;obtain⟨hti,hof,hu⟩:=hc;refine⟨by simp[Au],λh=>(by cases h),λa w g hst next Q hn=>?_⟩
      have QK:=AB hst x;rw[hx] at QK;obtain⟨hk,h0,h1,b,hba,hpe⟩:=IJ QK;obtain⟨ad,c,hcell⟩:=rY hst.heap hb h1 hg hs hof hba;obtain⟨g1,H1,st1,lu,_,Aqs⟩:=Sf hst.heap hb h1 hg hof hu hba hcell hs;have hrun:(execOp a.eval o).run P w=.ok (.value (.slice ad ys.length c)) w:=by
       have hl:=NU (P:=P) (w:=w) ht (b:=b) (off:=i.toNat*(g.at_ k).YS+f) (cs:=[.slice ad ys.length c]) (by rw[hti];rfl) (λj v hv=>by
        match j,hv with
        | 0,hv=>simp at hv;subst hv;exact hcell
        | j+1,hv=>simp at hv) (λ_=>rfl)
       obtain⟨v,hv,hsv⟩:=hl;rw[hti] at hsv;have:[Value.slice ad ys.length c]=[v]:=hsv;injection this with h2 _;subst h2;simp[execOp,ho,hpe,Instr.loadAt,Instr.sureAddr,hv]
      unfold Oper.wp;rw[hrun];have hl1:((AQ [k] σ.blks).set k (Blk.hole el tr xs i p)++[Blk.row 0 .deep u ys]).length=σ.blks.length+1:=by simp[Au]
      refine hn _ w g1 ⟨H1.fresh,λj y hj=>?_⟩ (by rw[hl1];exact lu) st1;rw[hl1];have hlb:((AQ [k] σ.blks).set k Blk.dead++[Blk.row 0 .deep u ys]).length=σ.blks.length+1:=by simp[Au]
      by_cases hjk:j=k
      ·subst hjk;rw[List.getElem?_append_left (by rw[Aw5,Au];exact hk),List.getElem?_set_self (by rw[Au];exact hk)] at hj;injection hj with hj;subst hj;exact Aqs rfl hty h0 _
      ·have:=H1.blk j y (by
         rw[List.getElem?_append] at hj ⊢;simp only[Aw5] at hj ⊢;split at hj
         ·rename_i hlt;rw[if_pos hlt];rw[List.getElem?_set_ne (λh=>hjk h.symm)] at hj ⊢;exact hj
         ·rename_i hlt;rw[if_neg hlt];exact hj)
       rwa [hlb] at this
     ·cases h
    ·cases h
   ·cases h
  ·cases h
 ·cases h
structure XY (P:Program) (kid:TypeId) (kt:Ty):Prop where
 check:∀(w:World) (em:Bool) (x:kt.V),(Instr.checkKey em 10000 kid (CR kt x)).run P w=.ok () w
 find:∀(w:World) (x:kt.V) (ks:List kt.V) (ms:List MapEntry),ms.map (·.key)=ks.map (CR kt) ->
  (∀j:Nat,(∀i,i<j->∀y,ks[i]?=some y->A0 kt x y=false)->(∀y,ks[j]?=some y->A0 kt x y=true)->(Instr.findKey kid (CR kt x) ms).run P w=.ok (if h:j<ms.length then some (j,ms[j].val) else none) w)
 stays:∀(w:World) (x:kt.V),(Instr.keyThatStays (CR kt x) (CR kt x)).run P w=.ok (CR kt x) w
 eq:∀x y:kt.V,A0 kt x y=true->x=y
theorem TD{s t:ByteArray}:strEq s t=true↔s=t:=by
 unfold strEq;rw[ByteArray.toList_eq,ByteArray.toList_eq,beq_iff_eq];constructor
 ·intro h;cases s with
  | mk a=>cases t with
   | mk b=>simp at h;rw[h]
 ·rintro rfl;rfl
theorem Ad6{s t:ByteArray}:(s==t)=true↔s=t:=by
 constructor
 ·intro h;have:(s.data==t.data)=true:=h;rw[beq_iff_eq] at this;cases s;cases t;simp at this;rw[this]
 ·rintro rfl
  show(s.data==s.data)=true;simp
theorem jA{s t:ByteArray}:strEq s t=(s==t):=by rw[Bool.eq_iff_iff,TD,Ad6]
theorem W3 {kt:Ty} {d:TypeDesc} (hs:∀x y:kt.V,Instr.sameNow d (CR kt x) (CR kt y)=some (A0 kt x y)) {x:kt.V}:∀(ks:List kt.V) (ms:List MapEntry) (n j:Nat),ms.map (·.key)=ks.map (CR kt) ->
    (∀i,i<j->∀y,ks[i]?=some y->A0 kt x y=false)->(∀y,ks[j]?=some y->A0 kt x y=true)->Instr.findNow d (CR kt x) ms n=some (if h:j<ms.length then some (n+j,ms[j].val) else none)
 | [],ms,n,j,hm,_,_=>by
  have:ms=[]:=by simpa using hm
  subst this;rfl
 | k::ks,m::ms,n,0,hm,_,h1=>by
  simp only[List.map_cons,List.cons.injEq] at hm;simp[Instr.findNow,hm.1,hs,h1 k rfl]
 | k::ks,m::ms,n,j+1,hm,h0,h1=>by
  simp only[List.map_cons,List.cons.injEq] at hm;have ih:=W3 hs ks ms (n+1) j hm.2 (λi hi y hy=>h0 (i+1) (by omega) y (by simpa using hy)) (λy hy=>h1 y (by simpa using hy));simp only[Instr.findNow,hm.1,hs,h0 0 (by omega) k rfl];rw[ih];by_cases hj:j<ms.length
  ·simp[hj];omega
  ·simp[hj]
 | k::ks,[],n,j,hm,_,_=>by simp at hm
theorem XY.plain {kid:TypeId} {kt:Ty} {d:TypeDesc} (hu:P.underlying kid=some d) (hs:∀x y:kt.V,Instr.sameNow d (CR kt x) (CR kt y)=some (A0 kt x y)) (hc:∀(w:World) (em:Bool) (x:kt.V),(Instr.checkKey em 10000 kid (CR kt x)).run P w=.ok () w)
    (hst:∀(w:World) (x:kt.V),(Instr.keyThatStays (CR kt x) (CR kt x)).run P w=.ok (CR kt x) w) (heq:∀x y:kt.V,A0 kt x y=true->x=y):XY P kid kt where
 check:=hc
 find w x ks ms hm j h0 h1:=by
  have:=W3 hs (x:=x) ks ms 0 j hm h0 h1;rw[Nat.zero_add] at this;simp[Instr.findKey,underlying,hu,this]
 stays:=hst
 eq:=heq
theorem Ado{kid:TypeId}{q q':IntKind}(hu:P.underlying kid=some (.int q')):XY P kid (.int q) :=
 .plain hu (λx y=>by simp[CR,Instr.sameNow,A0]) (λw em x=>by
     rw[show(10000:Nat)=9999+1 from rfl,Instr.checkKey];simp[underlying,hu,CR]) (λw x=>by
     have:Instr.sameBits 10000 (.int q x) (.int q x)=true:=by rw[show(10000:Nat)=9999+1 from rfl];simp[Instr.sameBits]
     simp[Instr.keyThatStays,CR,this]) λx y h=>by simpa [A0] using h
theorem Adp{kid:TypeId}(hu:P.underlying kid=some .string):XY P kid .str :=
 .plain hu (λx y=>by simp[CR,Instr.sameNow,A0,jA]) (λw em x=>by
     rw[show(10000:Nat)=9999+1 from rfl,Instr.checkKey];simp[underlying,hu,CR]) (λw x=>by
     have:Instr.sameBits 10000 (.string x) (.string x)=true:=by rw[show(10000:Nat)=9999+1 from rfl];simp only[Instr.sameBits];exact Ad6.2 rfl
     simp[Instr.keyThatStays,CR,this]) λx y h=>TD.1 (by simpa [A0] using h)
theorem Ui{e2:TypeId}{te:TI}(hte:Eg P e2 te){q:IntKind}(hq:te.ty=.int q){w:World}{cs:Array Value}{i:Nat}{v:Value}(h:cs[i]?=some v):(part e2 cs i).run P w=.ok v w:=by
 have ha:=TL (w:=w) hte;rw[hq] at ha;simp[part,ha,Ty.isAgg,h]
theorem VF{e2:TypeId}{q q':IntKind}(hu:P.underlying e2=some (.int q'))(d:Nat)(w:World)(a b:Int):(Op.equalIn (d+1) e2 (.int q a) (.int q b)).run P w=.ok (a==b) w:=by
 simp[Op.equalIn,underlying,hu]
theorem YR {kid e2:TypeId} (hu:P.underlying kid=some (.array 2 e2)) {te:TI} (hte:Eg P e2 te) {q:IntKind} (hq:te.ty=.int q) (w:World) (a b c d:Int) :
    (Op.equal kid (.agg #[.int q a,.int q b]) (.agg #[.int q c,.int q d])).run P w=.ok (a==c&&b==d) w:=by
 have hs:=CW (w:=w) hte;rw[hq] at hs;have hi:=OG hte hq;have p0:∀x y:Int,(part e2 #[.int q x,.int q y] 0).run P w=.ok (.int q x) w:=λx y=>Ui hte hq rfl;have p1:∀x y:Int,(part e2 #[.int q x,.int q y] 1).run P w=.ok (.int q y) w:=λx y=>Ui hte hq rfl;have eq:=λx y=>VF (P:=P) (q:=q) hi 9998 w x y;unfold Op.equal Op.maxDepth;rw[show(10000:Nat)=9999+1 from rfl,Op.equalIn];simp only[Sem.run_bind,run_underlying hu,Result.andThen_ok,hs];simp only[Std.Legacy.Range.forIn_eq_forIn_range',Std.Legacy.Range.size,Nat.sub_zero,Nat.add_sub_cancel,Nat.div_one,List.range'_succ,List.range'_zero,List.forIn_cons,List.forIn_nil];by_cases h1:a=c<;>by_cases h2:b=d<;>simp[p0,p1,eq,h1,h2,Ty.size]
theorem SK {kid e2:TypeId} (hu:P.underlying kid=some (.array 2 e2)) {te:TI} (hte:Eg P e2 te) {q:IntKind} (hq:te.ty=.int q) (w:World) {x:(Ty.pair (.int q) (.pair (.int q) .unit)).V} :
    ∀(ks:List (Ty.pair (.int q) (.pair (.int q) .unit)).V) (ms:List MapEntry) (n j:Nat),ms.map (·.key)=ks.map (CR (.pair (.int q) (.pair (.int q) .unit))) ->
    (∀i,i<j->∀y,ks[i]?=some y->A0 (.pair (.int q) (.pair (.int q) .unit)) x y=false)->(∀y,ks[j]?=some y->A0 (.pair (.int q) (.pair (.int q) .unit)) x y=true) ->
    (Instr.findAsking kid (CR (.pair (.int q) (.pair (.int q) .unit)) x) ms n).run P w=.ok (if h:j<ms.length then some (n+j,ms[j].val) else none) w
 | [],ms,n,j,hm,_,_=>by
  have:ms=[]:=by simpa using hm
  subst this;simp[Instr.findAsking]
 | k::ks,m::ms,n,0,hm,_,h1=>by
  simp only[List.map_cons,List.cons.injEq] at hm;have:=h1 k rfl;simp only[A0,Bool.and_true] at this;simp[Instr.findAsking,hm.1,CR,YR hu hte hq,this]
 | k::ks,m::ms,n,j+1,hm,h0,h1=>by
  simp only[List.map_cons,List.cons.injEq] at hm;have ih:=SK hu hte hq w ks ms (n+1) j hm.2 (λi hi y hy=>h0 (i+1) (by omega) y (by simpa using hy)) (λy hy=>h1 y (by simpa using hy));have:=h0 0 (by omega) k rfl;simp only[A0,Bool.and_true] at this;simp only[Instr.findAsking,hm.1,Sem.run_bind];rw[show(Op.equal kid (CR (.pair (.int q) (.pair (.int q) .unit)) x) (CR (.pair (.int q) (.pair (.int q) .unit)) k)).run P w=.ok false w by simp[CR,YR hu hte hq,this]];simp only[Result.andThen_ok,Bool.false_eq_true,if_false];rw[ih];by_cases hj:j<ms.length
  ·simp[hj];omega
  ·simp[hj]
 | k::ks,[],n,j,hm,_,_=>by simp at hm
theorem Adn{kid e2:TypeId}(hu:P.underlying kid=some (.array 2 e2)){te:TI}(hte:Eg P e2 te){q:IntKind}(hq:te.ty=.int q):XY P kid (.pair (.int q) (.pair (.int q) .unit)) where
 check w em x:=by
  have hs:=CW (w:=w) hte;rw[hq] at hs;have hi:=OG hte hq;have p0:(part e2 #[.int q x.1,.int q x.2.1] 0).run P w=.ok (.int q x.1) w:=Ui hte hq rfl;have p1:(part e2 #[.int q x.1,.int q x.2.1] 1).run P w=.ok (.int q x.2.1) w:=Ui hte hq rfl;have hc:∀y,(Instr.checkKey em 9999 e2 (.int q y)).run P w=.ok () w:=λy=>by
   rw[show(9999:Nat)=9998+1 from rfl,Instr.checkKey];simp[underlying,hi]
  rw[show(10000:Nat)=9999+1 from rfl,Instr.checkKey];simp only[Sem.run_bind,run_underlying hu,Result.andThen_ok,CR];simp only[Std.Legacy.Range.forIn_eq_forIn_range',Std.Legacy.Range.size,Nat.sub_zero,Nat.add_sub_cancel,Nat.div_one,List.range'_succ,List.range'_zero,List.forIn_cons,List.forIn_nil];simp[hs,p0,p1,hc,Ty.size]
 find w x ks ms hm j h0 h1:=by
  have hf:=SK hu hte hq w (x:=x) ks ms 0 j hm h0 h1;rw[Nat.zero_add] at hf;simp only[Instr.findKey,underlying,Sem.run_bind,run_underlying hu];cases ms with
  | nil=>simp[underlying,hu,Instr.findNow]
  | cons m ms =>
   cases ks with
   | nil=>simp at hm
   | cons k ks =>
    have hk:=(List.cons.inj (by simpa using hm:m.key::ms.map (·.key)=CR _ k::ks.map (CR _))).1;have:Instr.findNow (.array 2 e2) (CR (.pair (.int q) (.pair (.int q) .unit)) x) (m::ms) 0=none:=by simp[Instr.findNow,Instr.sameNow]
    simp[underlying,hu,this,hf]
 stays w x:=by
  have:Instr.sameBits 10000 (.agg #[.int q x.1,.int q x.2.1]) (.agg #[.int q x.1,.int q x.2.1])=true:=by
   rw[show(10000:Nat)=9998+1+1 from rfl];simp[Instr.sameBits]
  simp[Instr.keyThatStays,CR,this]
 eq x y h:=by
  simp only[A0,Aw3,beq_iff_eq,Bool.and_true] at h;obtain⟨x1,x2,_⟩:=x;obtain⟨y1,y2,_⟩:=y;simp at h;rw[h.1,h.2]
theorem XY.of{tab:Tab}{kid:TypeId}{tk:TI}(ht:V0 P tab=true)(hk:Eg P kid tk)(h:tk.ty.keyed=true)(hh:Vd tab tk=true):XY P kid tk.ty:=by
 unfold Vd at hh;split at hh
 ·rename_i q r hq;simp only[Aw3,beq_iff_eq] at hh;obtain⟨harr,hh⟩:=hh;split at hh
  ·rename_i te hte;simp only[Aw3,beq_iff_eq] at hh;have hu:=hk.arr (by omega);rw[harr] at hu;rw[hh.2];exact Adn hu (Eg.of ht hte) hh.1
  ·cases hh
 ·cases hq:tk.ty with
  | int q=>exact Ado (OG hk hq)
  | str=>exact Adp (NG hk hq)
  | pair a b =>
   rename_i hno;rw[hq] at h;cases a with
   | int q=>exact(hno q b hq).elim
   | _=>simp[Ty.keyed] at h
  | _=>rw[hq] at h;simp[Ty.keyed] at h
theorem Adm{w:World}{A:Nat->Prop}:∀{kt:Ty} {x:kt.V} {cs:List Value} {v:Value},kt.keyed=true->FL w A kt x cs->A3 kt.isAgg cs v->v=CR kt x
 | .int k,x,cs,v,_,h,hv=>by
  have h:cs=[.int k x]:=h;subst h;simpa [A3,Ty.isAgg,CR] using hv.symm
 | .str,x,cs,v,_,h,hv=>by
  have h:cs=[.string x]:=h;subst h;simpa [A3,Ty.isAgg,CR] using hv.symm
 | .pair a b,x,cs,v,hk,h,hv=>by
  cases a with
  | int q=>cases b with
   | pair b c=>cases b with
    | int q'=>cases c with
     | unit =>
      obtain⟨c1,d1,rfl,h1,c2,d2,rfl,h2,h3⟩:=h;have h1:c1=[.int q x.1]:=h1;have h2:c2=[.int q' x.2.1]:=h2;have h3:d2=[]:=h3;subst h1;subst h2;subst h3;simpa [A3,Ty.isAgg,CR] using hv
     | _=>simp[Ty.keyed] at hk
    | _=>simp[Ty.keyed] at hk
   | _=>simp[Ty.keyed] at hk
  | _=>simp[Ty.keyed] at hk
 | .bool,_,_,_,hk,_,_=>by simp[Ty.keyed] at hk
 | .unit,_,_,_,hk,_,_=>by simp[Ty.keyed] at hk
 | .sl _,_,_,_,hk,_,_=>by simp[Ty.keyed] at hk
 | .opq _,_,_,_,hk,_,_=>by simp[Ty.keyed] at hk
theorem Xg{w:World}{g:G}{bs:List Blk}(H:Heap w g bs){kt:Ty}{a:AV}{key:kt.V}{v:Value}(hk:kt.keyed=true)(h:rd bs kt a=some key)(hv:Bg w g bs.length a v):v=CR kt key:=by
 obtain⟨h1,h2⟩:=P5 h;obtain⟨cs,hcs,hv⟩:=Ba h1 h2 hv;rw[Tt h] at hv;exact Adm hk (MI H kt a key cs h hcs).1 hv
theorem QL:∀{kt:Ty},kt.keyed=true->∀{x:kt.V},A0 kt x x=true
 | .int _,_,x=>by simp[A0]
 | .str,_,x=>TD.2 rfl
 | .pair a b,hk,x=>by
  cases a with
  | int q=>cases b with
   | pair b c=>cases b with
    | int q'=>cases c with
     | unit=>simp[A0]
     | _=>simp[Ty.keyed] at hk
    | _=>simp[Ty.keyed] at hk
   | _=>simp[Ty.keyed] at hk
  | _=>simp[Ty.keyed] at hk
 | .bool,hk,_=>by simp[Ty.keyed] at hk
 | .unit,hk,_=>by simp[Ty.keyed] at hk
 | .sl _,hk,_=>by simp[Ty.keyed] at hk
 | .opq _,hk,_=>by simp[Ty.keyed] at hk
theorem Ze {kt vt:Ty} (k:kt.V):∀(es:List (kt.V×vt.V)),(∃(j:Nat) (x:kt.V×vt.V),es[j]?=some x/\A0 kt k x.1=true/\(∀i,i<j->∀y,es[i]?=some y->A0 kt k y.1=false)/\MH kt vt es k=some x.2/\∀v,Cq kt vt es k v=es.set j (k,v)) \/
    ((∀(i:Nat) y,es[i]?=some y->A0 kt k y.1=false)/\MH kt vt es k=none/\∀v,Cq kt vt es k v=es++[(k,v)])
 | []=>.inr ⟨λi y h=>by simp at h,rfl,λ_=>rfl⟩
 | x::r=>by
  cases hk:A0 kt k x.1 with
  | true=>exact .inl ⟨0,x,rfl,hk,λi hi=>by omega,by simp[MH,hk],λv=>by simp[Cq,hk]⟩
  | false =>
   rcases Ze k r with ⟨j,y,h1,h2,h3,h4,h5⟩| ⟨h1,h2,h3⟩
   ·refine .inl ⟨j+1,y,by simpa using h1,h2,λi hi z hz=>?_,by simp[MH,hk,h4],λv=>by simp[Cq,hk,h5]⟩;cases i with
    | zero=>simp at hz;subst hz;exact hk
    | succ i=>exact h3 i (by omega) z (by simpa using hz)
   ·refine .inr ⟨λi z hz=>?_,by simp[MH,hk,h2],λv=>by simp[Cq,hk,h3]⟩;cases i with
    | zero=>simp at hz;subst hz;exact hk
    | succ i=>exact h1 i z (by simpa using hz)
section
variable {w:World} {own:Nat->Tag} {k:Nat} {md:RM} {kt vt:Ty} {st:Option kt.V}
theorem P7.keys:∀{i:Nat} {es:List (kt.V×vt.V)} {ms:List MapEntry},P7 w own k md kt vt st i es ms->ms.map (·.key)=(es.map (·.1)).map (CR kt)
 | _,[],_,h=>by cases h;rfl
 | _,x::xs,_,⟨m,r,e,h1,_,h3⟩=>by subst e;simp[h1.1,P7.keys h3]
theorem P7.len{i:Nat}{es:List (kt.V×vt.V)}{ms:List MapEntry}(h:P7 w own k md kt vt st i es ms):ms.length=es.length:=by
 have:=congrArg List.length h.keys;simpa using this
theorem P7.get:∀{i:Nat} {es:List (kt.V×vt.V)} {ms:List MapEntry} {j:Nat} {x:kt.V×vt.V},P7 w own k md kt vt st i es ms->es[j]?=some x ->
    ∃m,ms[j]?=some m/\(m.key=CR kt x.1/\m.born=i+j)/\(st=some x.1\/∃cs,Ri w own k md vt (i+j) x.2 cs/\A3 vt.isAgg cs m.val)
 | i,x::xs,_,0,y,⟨m,r,e,h1,h2,h3⟩,hj=>by
  simp at hj;subst hj;subst e;exact⟨m,rfl,h1,h2⟩
 | i,x::xs,_,j+1,y,⟨m,r,e,h1,h2,h3⟩,hj=>by
  subst e;obtain⟨m',h4,h5,h6⟩:=h3.get (j:=j) (by simpa using hj);exact⟨m',by simpa using h4,by rw[show i+(j+1)=i+1+j by omega];exact h5,by rw[show i+(j+1)=i+1+j by omega];exact h6⟩
 | _,[],_,_,_,_,hj=>by simp at hj
theorem P7.mk:∀{i:Nat} {es:List (kt.V×vt.V)} {ms:List MapEntry},ms.length=es.length->(∀(j:Nat) (x:kt.V×vt.V) (m:MapEntry),es[j]?=some x->ms[j]?=some m->(m.key=CR kt x.1/\m.born=i+j)/\(st=some x.1\/∃cs,Ri w own k md vt (i+j) x.2 cs/\A3 vt.isAgg cs m.val))->P7 w own k md kt vt st i es ms
 | _,[],ms,hl,_=>by
  cases ms with
  | nil=>rfl
  | cons _ _=>simp at hl
 | i,x::xs,[],hl,_=>by simp at hl
 | i,x::xs,m::ms,hl,h=>by
  obtain⟨h1,h2⟩:=h 0 x m rfl rfl;refine⟨m,ms,rfl,h1,h2,P7.mk (by simpa using hl) λj y m' hy hm=>?_⟩;have:=h (j+1) y m' (by simpa using hy) (by simpa using hm);rwa [show i+(j+1)=i+1+j by omega] at this
end
theorem jO{t:Nat}{ti:TI}(h:Eg P t ti)(w:World):∃z,(zeroValue t).run P w=.ok z w/\A3 ti.ty.isAgg (Na ti.ty) z:=by
 obtain⟨i,z,hi,_,_,hz,hzc,ha⟩:=h.info;refine⟨z,by simp[zeroValue,typeInfo,hi,hz],?_⟩;cases hg:ti.ty.isAgg with
 | true =>
  obtain⟨c,rfl⟩:=ha.2 hg;have:c.toList=Na ti.ty:=hzc;simp[A3,<-this]
 | false =>
  have hn:∀c,z≠.agg c:=λc e=>by have:=ha.1 ⟨c,e⟩;rw[hg] at this;cases this
  have:z.cells=#[z]:=by cases z<;>first | rfl | exact(hn _ rfl).elim
  rw[this] at hzc;simp[A3,<-hzc]
theorem T5 {w:World} {g:G} {k:Nat} {md:RM} {kt vt:Ty} {st:Option kt.V} {kid:TypeId} (K:XY P kid kt) {es:List (kt.V×vt.V)} {arr:Array MapEntry} (hm:P7 w g.own k md kt vt st 0 es arr.toList) (key:kt.V) :
    (∃(j:Nat) (x:kt.V×vt.V) (m:MapEntry),es[j]?=some x/\x.1=key/\arr[j]?=some m/\(∀i,i<j->∀y,es[i]?=some y->A0 kt key y.1=false)/\MH kt vt es key=some x.2/\(∀v,Cq kt vt es key v=es.set j (key,v))/\(st=some x.1\/∃cs,Ri w g.own k md vt j x.2 cs/\A3 vt.isAgg cs m.val)/\(m.key=CR kt key/\m.born=j) /\
     (Instr.findKey kid (CR kt key) arr.toList).run P w=.ok (some (j,m.val)) w) \/
    ((∀(i:Nat) y,es[i]?=some y->A0 kt key y.1=false)/\MH kt vt es key=none/\(∀v,Cq kt vt es key v=es++[(key,v)])/\(Instr.findKey kid (CR kt key) arr.toList).run P w=.ok none w):=by
 rcases Ze key es with ⟨j,x,h1,h2,h3,h4,h5⟩| ⟨h1,h2,h3⟩
 ·obtain⟨m,h6,⟨h7,h7b⟩,h8⟩:=hm.get h1;have hjl:j<arr.toList.length:=AE h6;have hf:=K.find w key (es.map (·.1)) arr.toList hm.keys j (λi hi y hy=>by
   rw[List.getElem?_map] at hy;cases hq:es[i]? with
   | none=>rw[hq] at hy;cases hy
   | some z=>rw[hq] at hy;injection hy with hy;subst hy;exact h3 i hi z hq) (λy hy=>by
   rw[List.getElem?_map,h1] at hy;injection hy with hy;subst hy;exact h2)
  have hmv:arr.toList[j]=m:=by
   have:=List.getElem?_eq_getElem hjl;rw[this] at h6;injection h6
  rw[dif_pos hjl,hmv] at hf;have e:=(K.eq _ _ h2).symm;exact .inl ⟨j,x,m,h1,e,by rw[<-Axa];exact h6,h3,h4,h5,by rw[Nat.zero_add] at h8;exact h8,⟨by rw[h7,e],by rw[h7b];omega⟩,hf⟩
 ·have hf:=K.find w key (es.map (·.1)) arr.toList hm.keys es.length (λi hi y hy=>by
    rw[List.getElem?_map] at hy;cases hq:es[i]? with
    | none=>rw[hq] at hy;cases hy
    | some z=>rw[hq] at hy;injection hy with hy;subst hy;exact h1 i z hq) (λy hy=>by
    rw[List.getElem?_map,List.getElem?_eq_none (Aw2 _)] at hy;cases hy)
  rw[dif_neg (by rw[hm.len];omega)] at hf;exact .inr ⟨h1,h2,h3,hf⟩
theorem Wv{w:World}{g:G}{n k:Nat}{v:Value}(h:Bg w g n (.mp k) v):k<n/\∃b,(g.at_ k).a=some ⟨b,0,none⟩/\v=.map (some b):=by
 obtain⟨cs,⟨hk,b,hb,e⟩,hv⟩:=Ba rfl rfl h;subst e;exact⟨hk,b,hb,by simpa [A3,AV.isAgg] using hv.symm⟩
theorem je{t:TypeId}(ho:o.op=.makeMap t none){m:RM}{kt vt:Ty}(hm:m.ids=[]):Lj P σ o ⟨.mp σ.blks.length,σ.blks++[.map m kt vt [] none],[]⟩:=by
 refine⟨by simp,λ_=>⟨_,rfl⟩,λa w g hs next Q hn=>?_⟩
 have hr:(execOp a.eval o).run P w=.ok (.value (.map (some w.heap.size))) (w.alloc (.map #[] 0)):=by
  simp[execOp,ho,Instr.makeMap]
 unfold Oper.wp;rw[hr];have st:=Step.add hs.heap (.map #[] 0) ⟨some ⟨w.heap.size,0,none⟩,0,0,0⟩;refine hn _ _ _ (hs.heap.new ?_) ?_ st
 ·exact⟨(by rw[hm];intro j hj;cases hj),w.heap.size,#[],0,by simp[G.add],by simp[G.add],heap_alloc_new w _,by simp,rfl⟩
 ·exact A7 (cs:=[_]) rfl ⟨by simp,w.heap.size,by simp[G.add],rfl⟩ (by simp[A3,AV.isAgg])
theorem iC {w:World} {g:G} {k b:Nat} {md:RM} {kt vt:Ty} {st:Option kt.V} {t kid:TypeId} {el:TypeId} {te:TI} (ht:P.underlying t=some (.map kid el)) (hte:Eg P el te) (zU:vt=te.ty) (hd:te.ty.data=true) (K:XY P kid kt) {es:List (kt.V×vt.V)} {arr:Array MapEntry} {clock:Nat} (hb:w.heap[b]?=some (.map arr clock))
    (hm:P7 w g.own k md kt vt st 0 es arr.toList) (key:kt.V) (ok:Bool):∃v,(Instr.lookup t (.map (some b)) (CR kt key) ok).run P w=.ok (if ok then .tuple #[v,.bool (Vg kt vt es key)] else v) w /\
     ((∃(j:Nat) (x:kt.V×vt.V) (m:MapEntry),es[j]?=some x/\x.1=key/\arr[j]?=some m/\m.val=v/\BG kt vt es key=x.2/\(st=some x.1\/∃cs,Ri w g.own k md vt j x.2 cs/\A3 vt.isAgg cs v))\/(BG kt vt es key=vt.zero/\A3 vt.isAgg (Na vt) v)):=by
 subst zU;rcases T5 K hm key with ⟨j,x,m,h1,h2,h3,_,h4,_,h5,_,hf⟩| ⟨_,h2,_,hf⟩
 ·refine⟨m.val,?_,.inl ⟨j,x,m,h1,h2,h3,rfl,by simp[BG,h4],h5⟩⟩;cases ok<;>simp[Instr.lookup,underlying,ht,MapKept.run_getObj_map hb,K.check,hf,Vg,h4]
 ·obtain⟨z,hz,hzv⟩:=jO hte w;refine⟨z,?_,.inr ⟨by simp[BG,h2],hzv⟩⟩;cases ok<;>simp[Instr.lookup,underlying,ht,MapKept.run_getObj_map hb,K.check,hf,hz,Vg,h2]
theorem Aa0 {t:TypeId} {m x:Operand} {ok:Bool} (ho:o.op=.lookup t m x ok) {ti tk te:TI} (ht:Eg P t ti) (hmk:ti.Mp≠0) (hte:Eg P ti.elem te) (hd:te.ty.data=true) (K:tk.ty.keyed=true->XY P ti.Mp tk.ty) {z:AV}
    (h:VO σ.blks tk te ok (σ.Bw m) (σ.Bw x) some=some z):Lj P σ o ⟨z,σ.blks,[]⟩ :=
 .He <| JI (s:=λρ=>Instr.lookup t (ρ m) (ρ x) ok) (λρ=>by simp[execOp,ho]) λa w g hst=>by
  unfold VO at h;split at h
  ·rename_i k hm;split at h
   ·rename_i md kt vt es hb;split at h
    ·rename_i key hx;split at h
     ·rename_i hc;obtain⟨hkt,zU,hkk⟩:=hc;subst hkt;subst zU;have hmm:=AB hst m;rw[hm] at hmm;obtain⟨hk,b,hba,hbe⟩:=Wv hmm;obtain⟨Nb,b',arr,clock,ha,hown,hh,hnd,hmr⟩:=hst.heap.blk k _ hb;rw[hba] at ha;injection ha with ha;injection ha with ha;subst ha;have hkey:=Xg hst.heap hkk hx (AB hst x);obtain⟨v,hr,hres⟩:=iC (ht.mp hmk) hte rfl hd (K hkk) hh hmr key ok;have hv:Bg w g σ.blks.length (.dat (Tm (md.own k) te.ty) te.ty (BG tk.ty te.ty es key)) v:=by
       have hrd:∃cs,FL w (Al g.own (md.own k)) te.ty (BG tk.ty te.ty es key) cs/\A3 te.ty.isAgg cs v:=by
        rcases hres with ⟨j,y,mm,h1,h2,h3,h4,h5,h6⟩| ⟨h1,h2⟩
        ·rw[h5];rcases h6 with h6 | ⟨cs,h6,h7⟩
         ·cases h6
         ·refine⟨cs,?_,h7⟩;cases md with
          | deep=>exact Hv.rd (λb q hb=>.mem (List.mem_cons_self) hb) h6
          | sh ks=>exact h6
        ·rw[h1];exact⟨_,FL.zero hd,h2⟩
       obtain⟨cs,h1,h2⟩:=hrd;refine A7 rfl (cs:=cs) ⟨λj hj=>?_,?_⟩ h2
       ·unfold Tm at hj;split at hj
        ·cases hj
        ·cases md with
         | deep=>simp[RM.own] at hj;subst hj;exact hk
         | sh ks=>exact Nb j hj
       ·unfold Tm;split
        ·rename_i hf;exact(FL.flat hf).2 ((FL.flat hf).1 h1)
        ·cases md<;>exact h1
      cases ok with
      | false =>
       simp only[Axb,AwY] at h;subst h;exact⟨v,by rw[hbe,hkey];simpa using hr,hv⟩
      | true =>
       simp only[Axc,AwY] at h;subst h;refine⟨_,by rw[hbe,hkey];simpa using hr,[v,.bool (Vg tk.ty te.ty es key)],rfl,v,_,rfl,(Bg.iff rfl).1 hv,.bool (Vg tk.ty te.ty es key),[],rfl,?_,rfl⟩;exact(Bg.iff rfl).1 (Ue _)
     ·cases h
    ·cases h
   ·cases h
  ·cases h
theorem sZ {t:TypeId} {m x:Operand} (ho:o.op=.lookup t m x false) {ti tk te:TI} (ht:Eg P t ti) (hmk:ti.Mp≠0) (hte:Eg P ti.elem te) (hd:te.ty.data=true) (K:tk.ty.keyed=true->XY P ti.Mp tk.ty)
    (h:Za σ.blks tk te (σ.Bw m) (σ.Bw x) some=some e):Lj P σ o e:=by
 unfold Za at h;split at h
 ·rename_i k hm;split at h
  ·rename_i kt u es hb;split at h
   ·rename_i key hx;split at h
    ·rename_i hc;injection h with h;subst h;obtain⟨hkt,zU,hkk,hu⟩:=hc;subst hkt;refine⟨by simp[Au],λh=>(by cases h),λa w g hst next Q hn=>?_⟩
     have H:=hst.heap;have hmm:=AB hst m;rw[hm] at hmm;obtain⟨hk,b,hba,hbe⟩:=Wv hmm;obtain⟨Nb,b',arr,clock,ha,hown,hh,hnd,hmr⟩:=H.blk k _ hb;rw[hba] at ha;injection ha with ha;injection ha with ha;subst ha;have hkey:=Xg H hkk hx (AB hst x);obtain⟨v,hr,hres⟩:=iC (ht.mp hmk) hte zU hd (K hkk) hh hmr key false;have hrun:(execOp a.eval o).run P w=.ok (.value v) w:=by
      simp only[Bool.false_eq_true,if_false] at hr;simp[execOp,ho,hbe,hkey,hr]
     unfold Oper.wp;rw[hrun];obtain ⟨J,ad,cap,hv,hrow,hkeep⟩:∃(J:Nat) (ad:Option Addr) (cap:Nat),v=.slice ad (BG tk.ty (.sl u) es key).length cap/\Hv w g.own k (.sl u) [J] (BG tk.ty (.sl u) es key) [.slice ad (BG tk.ty (.sl u) es key).length cap] /\
         ∀(i:Nat) (y:tk.ty.V×(Ty.sl u).V),es[i]?=some y->y.1=key\/i≠J:=by
      rcases hres with ⟨j,y,mm,h1,h2,h3,h4,h5,h6⟩| ⟨h1,h2⟩
      ·rcases h6 with h6 | ⟨cs,h6,h7⟩
       ·cases h6
       ·have h6':Hv w g.own k (.sl u) [j] y.2 cs:=h6;obtain⟨ad,cap,e1,h8⟩:=h6;subst e1;have hv:[Value.slice ad y.2.length cap]=[v]:=h7;injection hv with hv _;refine⟨j,ad,cap,by rw[h5];exact hv.symm,by rw[h5];exact h6',λi z hz=>?_⟩;by_cases hi:i=j
        ·subst hi;rw[h1] at hz;injection hz with hz;subst hz;exact .inl h2
        ·exact .inr hi
      ·have hv:[Value.slice none 0 0]=[v]:=h2;injection hv with hv _;refine⟨es.length,none,0,by rw[h1];exact hv.symm,by rw[h1];exact⟨none,0,rfl,.inl ⟨rfl,rfl⟩⟩,λi z hz=>.inr ?_⟩;have:=AE hz;omega
     let ys:=BG tk.ty (.sl u) es key
     let i1:BI:=⟨ad,ys.length,cap,u.size⟩
     let n:=σ.blks.length
     let g1:=g.WV n k [J] i1
     have st:Step [k] n w g w g1:=XM;have hat:g1.at_ n=i1:=by simp[g1,G.WV]
     have hkn:k≠n:=by simp only[n];omega
     have Y1:((AQ [k] σ.blks).set k (Blk.map .deep tk.ty (.sl u) es (some key))++[Blk.row 0 .deep u ys]).length=n+1:=by simp[Au,n]
     refine hn v w g1 ?_ ?_ st
     ·refine H.turn st (λb hb=>by simp[g1,G.WV,H.fresh b hb]) (by rw[Y1];exact Nat.le_succ _) λj y hj=>?_;rw[List.getElem?_append] at hj;split at hj
      ·rcases NK hj with ⟨hjk,rfl⟩| ⟨hne,hj⟩
       ·rw[hjk];have Np:g1.at_ k=g.at_ k:=by simp[g1,G.WV,hkn]
        refine .inr (.inr ⟨λj hj=>(by cases hj),b,arr,clock,by rw[Np];exact hba,QF hown (λhc=>by have:=hc.2;simp at this),hh,hnd,P7.mk hmr.len λi z mm hz hmz=>?_⟩);obtain⟨m',h1,h2,h3⟩:=hmr.get hz;rw[hmz] at h1;injection h1 with h1;subst h1;refine⟨h2,?_⟩;rcases hkeep i z hz with h | h
        ·exact .inl (by rw[h])
        ·rcases h3 with h3 | ⟨cs,h3,h4⟩
         ·cases h3
         ·refine .inr ⟨cs,?_,h4⟩;rw[Nat.zero_add] at h3 ⊢;exact Hv.mono (λb q hb=>⟨QF hb λhc=>by
           obtain⟨s,hs⟩:=hc.2;have:=List.append_inj_right' hs rfl;simp at this;exact h this.symm,rfl⟩) h3
       ·obtain⟨y,hy,rfl⟩:=CY hj;exact .inr (.inl ⟨by simpa using hne,y,hy,rfl⟩)
      ·rename_i hge;simp only[Aw5,Au] at hj hge;have hj0:j-σ.blks.length=0:=by
        rcases Nat.eq_zero_or_pos (j-σ.blks.length) with h | h
        ·exact h
        ·rw[List.getElem?_eq_none (by simp;omega)] at hj;cases hj
       rw[hj0] at hj;obtain rfl:j=n:=by simp only[n];omega
       simp only[List.getElem?_cons_zero,AwY] at hj;subst hj;refine .inr (.inr ⟨λj hj=>(by cases hj),by rw[hat],by rw[hat],Nat.pos_of_ne_zero hu,?_⟩);rw[hat];obtain⟨ad',cap',e3,hrow⟩:=hrow;injection e3 with e3 _;injection e3 with e3 _ e4;subst e3;subst e4;refine hrow.imp id λ⟨b,el,cur,ds,q1,q2,q3,q4,q5,q6,q7,q8⟩=>⟨b,cur,ds,q1,Se (q:=[]) (by simpa using q2),⟨el,.inl rfl,q3⟩,q4,q5,q6,q7,?_⟩;exact q8.mono λi x c r=>r.mono λb q hb=>⟨Se (by simpa using hb),rfl⟩
     ·rw[Y1,hv];exact A7 (cs:=[_]) rfl ⟨Nat.lt_succ_self _,by rw[hat]⟩ rfl
    ·cases h
   ·cases h
  ·cases h
 ·cases h
theorem zX{w:World}{g:G}{mods:List Nat}{b k:Nat}{arr:Array MapEntry}{clock:Nat}{ob:Obj}(hh:w.heap[b]?=some (.map arr clock))(ho:g.own b=.lab k [])(hk:k∈mods):∀q,q<w.heap.size->(∀k p,g.own q=.lab k p->k∉mods)->({w with heap:=w.heap.setIfInBounds b ob}:World).heap[q]?=w.heap[q]?:=by
 intro q _ hq;exact Array.getElem?_setIfInBounds_ne (λe=>by subst e;exact hq k [] ho hk)
theorem AhL {P:Program} {w:World} {g:G} {bs:List Blk} (H:Heap w g bs) {t:TypeId} {am ax av:AV} {mv xv vv:Value} (zG:Bg w g bs.length am mv) (hAx:Bg w g bs.length ax xv) (hAv:Bg w g bs.length av vv) {ti tk te:TI} (ht:Eg P t ti) (hmk:ti.Mp≠0) (K:tk.ty.keyed=true->XY P ti.Mp tk.ty) {e:Eff}
    (h:Vt bs tk te am ax av some=some e):e.mods≠[]/\e.blks.length=bs.length/\e.val=.un 0/\∃w' g',(Instr.mapUpdate t mv xv vv).run P w=.ok () w'/\Heap w' g' e.blks/\Step e.mods bs.length w g w' g':=by
 unfold Vt at h;split at h
 ·rename_i k;split at h
  ·rename_i md kt vt es st0 hb;split at h
   ·rename_i key y m' rs hx htk;split at h
    ·rename_i hc;obtain⟨hkt,zU,hkk,hoff,hrk⟩:=hc;subst hkt;have h':e=⟨.un 0,(Blk.kill (AQ (k::rs) bs) rs).set k (.map m' tk.ty vt (Cq tk.ty vt es key y) none),k::rs⟩/\(st0=none\/st0=some key):=by
      cases st0 with
      | none=>injection h with h;exact⟨h.symm,.inl rfl⟩
      | some k0 =>
       simp only at h;cases hq:A0 tk.ty k0 key with
       | false=>rw[hq] at h;cases h
       | true =>
        rw[hq,Axc] at h;injection h with h;exact⟨h.symm,.inr (by rw[(K hkk).eq _ _ hq])⟩
     obtain⟨rfl,gU⟩:=h';refine⟨by simp,by simp[AX,Au],rfl,?_⟩;have hmm:=zG;obtain⟨hk,b,hba,hbe⟩:=Wv hmm;obtain⟨Nb,b',arr,clock,ha,hown,hh,hnd,hmr⟩:=H.blk k _ hb;rw[hba] at ha;injection ha with ha;injection ha with ha;subst ha;have hkey:=Xg H hkk hx hAx;obtain⟨hy,hrs,AsN,hmm'⟩:=Mm htk;obtain⟨Tk,hun⟩:=P5 hy;obtain⟨cv,hcv,hvv⟩:=Ba Tk hun hAv;rw[Tt hy] at hvv;obtain⟨hsub,hdp⟩:=Uy htk;have Q5:=Qv hoff;have lC:k∉rs:=by simpa using hrk
     have hlt:b<w.heap.size:=O1 H (by rw[hown];simp);obtain ⟨J,arr',clock',hrun,zJ⟩:∃(J:Nat) (arr':Array MapEntry) (clock':Nat),(Instr.mapUpdate t mv xv vv).run P w=.ok () {w with heap:=w.heap.setIfInBounds b (.map arr' clock')} /\
         ((((Cq tk.ty vt es key y).map (·.1)).Nodup/\clock'=arr'.size)/\arr'.toList.length=(Cq tk.ty vt es key y).length/\∀(i:Nat) (z:tk.ty.V×vt.V) (mm:MapEntry),(Cq tk.ty vt es key y)[i]?=some z->arr'.toList[i]?=some mm ->
          (i=J/\z=(key,y)/\(mm.key=CR tk.ty key/\mm.born=i)/\mm.val=vv)\/(i≠J/\es[i]?=some z/\arr.toList[i]?=some mm/\st0≠some z.1)):=by
      have hu:=ht.mp hmk;have hself:∀z:tk.ty.V,A0 tk.ty key z=false->st0≠some z:=λz hz e=>by
       rcases gU with h | h
       ·rw[h] at e;cases e
       ·rw[h] at e;injection e with e;subst e;rw[QL hkk] at hz;cases hz
      rcases T5 (K hkk) hmr key with ⟨j,z,mm,h1,h2,h3,h4,h5,h6,h7,⟨h8,h8b⟩,hf⟩| ⟨h1,h2,h3,hf⟩
      ·refine⟨j,arr.modify j λe=>{e with key:=CR tk.ty key,val:=vv},clock,?_,?_⟩
       ·rw[hbe,hkey];simp[Instr.mapUpdate,underlying,hu,MapKept.run_getObj_map hh,(K hkk).check,hf,h3,h8,(K hkk).stays,MapKept.run_setObj_map _ hh]
       ·rw[h6 y];have hl:arr.toList.length=es.length:=hmr.len;refine⟨⟨by
         rw[List.map_set];have:(es.map (·.1)).set j key=es.map (·.1):=by
          have hg:(es.map (·.1))[j]?=some key:=by rw[List.getElem?_map,h1,<-h2];rfl
          apply List.ext_getElem?;intro i;rw[List.getElem?_set];split
          ·rename_i e;subst e;rw[if_pos (AE hg),hg]
          ·rfl
         rw[this];exact hnd.1,by simp[hnd.2]⟩,by simpa using hl,λi z' m2 hz hm2=>?_⟩
        rw[Axa,Array.getElem?_modify] at hm2;rw[List.getElem?_set] at hz;by_cases hij:j=i
        ·subst hij;have hjl:=AE h1;simp only[if_true,hjl] at hz;injection hz with hz;simp only[if_true,h3,Option.map_some,AwY] at hm2;subst hm2;exact .inl ⟨rfl,hz.symm,⟨rfl,h8b⟩,rfl⟩
        ·simp only[if_neg hij] at hz hm2;refine .inr ⟨λe=>hij e.symm,hz,by rw[Axa];exact hm2,?_⟩;intro e;rcases gU with h | h
         ·rw[h] at e;cases e
         ·rw[h] at e;injection e with e;have g1:(es.map (·.1))[j]?=some key:=by rw[List.getElem?_map,h1,<-h2];rfl
          have g2:(es.map (·.1))[i]?=some key:=by rw[List.getElem?_map,hz,e];rfl
          exact hij ((List.getElem?_inj (AE g1) hnd.1).1 (g1.trans g2.symm))
      ·refine⟨es.length,arr.push {key:=CR tk.ty key,val:=vv,born:=clock},clock+1,?_,?_⟩
       ·rw[hbe,hkey];simp[Instr.mapUpdate,underlying,hu,MapKept.run_getObj_map hh,(K hkk).check,hf,MapKept.run_setObj_map _ hh]
       ·rw[h3 y];have hl:arr.toList.length=es.length:=hmr.len;refine⟨⟨by
         rw[List.map_append,List.nodup_append];refine⟨hnd.1,by simp,λa ha b hb=>?_⟩;simp at hb;subst hb
         rintro rfl
         obtain⟨z,hz,rfl⟩:=List.mem_map.1 ha;obtain⟨i,hi⟩:=List.getElem?_of_mem hz;have:=h1 i z hi;rw[QL hkk] at this;exact Bool.noConfusion this,by simp[hnd.2]⟩,by simpa using hl,λi z' m2 hz hm2=>?_⟩
        rw[Array.toList_push] at hm2;by_cases hi:i<es.length
        ·rw[List.getElem?_append_left hi] at hz;rw[List.getElem?_append_left (by rw[hl];exact hi)] at hm2;exact .inr ⟨by omega,hz,hm2,hself _ (h1 i z' hz)⟩
        ·have hi':=AE hz;rw[Aw0,List.length_singleton] at hi';obtain rfl:i=es.length:=by omega
         simp at hz;rw[<-hl] at hm2;simp at hm2;subst hm2;subst hz;exact .inl ⟨rfl,rfl,⟨rfl,by show clock=es.length;rw[hnd.2,<-hl];simp⟩,rfl⟩
     obtain⟨AsM,oZ,zJ⟩:=zJ
     let w':World:={w with heap:=w.heap.setIfInBounds b (.map arr' clock')}
     let M:=Ip av [J]
     have lq:M.map (·.1)=rs:=by rw[hrs];exact EG _ _
     let f:=Qz md k M
     let g':=g.upd f none bs.length ⟨none,0,0,0⟩
     have gQ:∀b' r,g.own b'=.lab k r->g'.own b'=.lab k r:=λb' r h=>by
      have:=Ij (f:=f) (ob:=none) (n:=bs.length) (i:=⟨none,0,0,0⟩) (by simp) h;rw[this];exact L5 (by rw[lq];exact lC)
     have hsz:w'.heap.size=w.heap.size:=by simp[w']
     have st:Step (k::rs) bs.length w g w' g':=Step.upd H.fresh rfl rfl rfl (by rw[hsz];exact Aw2 _) (zX hh hown (by simp)) (λq h=>by cases h) (Aw2 _) λj r _ hm =>
      L5 (by rw[lq];exact λh=>hm (List.mem_cons_of_mem _ h))
     have hne1:∀b',b'≠b->w'.heap[b']?=w.heap[b']?:=λb' h=>Array.getElem?_setIfInBounds_ne (Ne.symm h);have hneb:∀b' j r,g.own b'=.lab j r->j≠k->w'.heap[b']?=w.heap[b']?:=λb' j r h hj=>hne1 b' λe=>by subst e;rw[hown] at h;injection h with h;exact hj h.symm
     have zM:∀b' q,g.own b'=.lab k q->q≠[]->w'.heap[b']?=w.heap[b']?:=λb' q h hq=>hne1 b' λe=>by subst e;rw[hown] at h;injection h with _ h;exact hq h.symm
     have gN:∀b',g.own b'=.Gr->w'.heap[b']?=w.heap[b']?:=λb' h=>hne1 b' λe=>by subst e;rw[hown] at h;cases h
     have hon:∀(i':Nat) (x:vt.V) (c:List Value),Ri w g.own k md vt i' x c->Ri w' g'.own k m' vt i' x c:=by
      intro i' x c hel;refine hel.on ?_;rcases hmm' with ⟨rfl,rfl,_⟩| ⟨ks,rfl,rfl⟩
      ·exact λb' q h=>⟨gQ b' _ h,zM b' _ h (by simp)⟩
      ·intro b' h;rcases h with h | ⟨j,hj,r,h⟩
       ·exact⟨.inl (PY (by simp) h),gN b' h⟩
       ·have hjm:=hsub j hj;have hjk:=Q5 j hjm;exact⟨.inr ⟨j,hjm,r,by
         have:=Ij (f:=f) (ob:=none) (n:=bs.length) (i:=⟨none,0,0,0⟩) (by simp) h;rw[this];exact L5 (by rw[lq];exact λh=>hjk (List.mem_cons_of_mem _ h))⟩,hneb b' j r h λe=>hjk (by simp[e])⟩
     have hput:InR w' g'.own k m' vt [J] y cv:=by
      refine bZ H htk hcv (M:=M) (λjq hj=>Ud (by rw[EG];exact AsN) hj) (λ_ h=>h) (λj hj=>OH (by rw[lq];exact λh=>Q5 j hj (List.mem_cons_of_mem _ h))) hdp
       (λb' j r h _=>Ij (by simp) h) (λb' h=>PY (by simp) h) λb' h=>?_
      rcases h with h | ⟨j,r,h,hj⟩
      ·exact gN b' h
      ·refine hneb b' j r h λe=>?_;subst e;rcases hj with hj | hj
       ·rw[lq] at hj;exact lC hj
       ·exact Q5 j hj (by simp)
     have AqA:Ri w' g'.own k m' vt J y cv:=by
      cases m' with
      | deep=>exact hput
      | sh ks=>exact hput
     refine⟨w',g',hrun,H.turn st (Nn H.fresh (by rw[hsz];exact Aw2 _) (λq h=>by cases h)) (by simp[AX,Au]) λj z hj=>?_,st⟩;rcases NK hj with ⟨hjk,rfl⟩| ⟨hne,hj⟩
     ·rw[hjk];have Np:g'.at_ k=g.at_ k:=st.at_ k hk;refine .inr (.inr ⟨by simpa [AX,Au] using cu H htk hcv Nb,b,arr',clock',by rw[Np];exact hba,gQ b [] hown,by simp[w',hlt],AsM,P7.mk oZ λi z mm hz hmz=>?_⟩);rw[Nat.zero_add];rcases zJ i z mm hz hmz with ⟨rfl,rfl,h3,h4⟩| ⟨h1,h2,h3,h4⟩
      ·exact⟨h3,.inr ⟨cv,AqA,by rw[h4];exact hvv⟩⟩
      ·obtain⟨m2,h5,h6,h7⟩:=hmr.get h2;rw[h3] at h5;injection h5 with h5;subst h5;rw[Nat.zero_add] at h6;refine⟨h6,?_⟩;rcases h7 with h7 | ⟨cs,h7,h8⟩
       ·exact(h4 h7).elim
       ·rw[Nat.zero_add] at h7;exact .inr ⟨cs,hon _ _ _ h7,h8⟩
     ·rcases La hj with h | ⟨hjr,h⟩
      ·exact .inl h
      ·obtain⟨y',hy',rfl⟩:=CY h;exact .inr (.inl ⟨by simp only[List.mem_cons,not_or];exact⟨hne,hjr⟩,y',hy',rfl⟩)
    ·cases h
   ·cases h
  ·cases h
 ·cases h
theorem XT{bs:List Blk}{tk te:TI}{am ax av:AV}{e:Eff}(h:Vt bs tk te am ax av some=some e):e.mods≠[]/\e.blks.length=bs.length:=by
 unfold Vt at h;split at h
 ·split at h
  ·split at h
   ·split at h
    ·split at h
     ·injection h with h;subst h;exact⟨by simp,by simp[AX,Au]⟩
     ·rename_i y0 _;generalize A0 _ y0 _=q at h;cases q with
      | false=>cases h
      | true=>injection h with h;subst h;exact⟨by simp,by simp[AX,Au]⟩
    ·cases h
   ·cases h
  ·cases h
 ·cases h
theorem AdK {t:TypeId} {m x v:Operand} (ho:o.op=.mapUpdate t m x v\/o.op=.insert t m x v) {ti tk te:TI} (ht:Eg P t ti) (hmk:ti.Mp≠0) (K:tk.ty.keyed=true->XY P ti.Mp tk.ty)
    (h:Vt σ.blks tk te (σ.Bw m) (σ.Bw x) (σ.Bw v) some=some e):Lj P σ o e:=by
 obtain⟨s1,s2⟩:=XT h;refine⟨by rw[s2];exact Aw2 _,λh=>(s1 h).elim,λa w g hst next Q hn=>?_⟩
 ·obtain⟨h1,h2,h3,w',g',hrun,hH,st⟩:=AhL hst.heap (AB hst m) (AB hst x) (AB hst v) ht hmk K h;have VH:(execOp a.eval o).run P w=.ok .skip w':=by
   rcases ho with ho | ho<;>simp[execOp,ho,hrun]
  unfold Oper.wp;rw[VH];exact hn undef w' g' hH (by rw[h3];exact M9) st
theorem Aep {w:World} {g:G} {bs:List Blk} (H:Heap w g bs) {k:Nat} {kt u:Ty} {es:List (kt.V×(Ty.sl u).V)} (hb:bs[k]?=some (.map .deep kt (.sl u) es none)) (hu:u.size≠0) {J:Nat} {key:kt.V} {ys:(Ty.sl u).V} (hJ:es[J]?=some (key,ys)) {b:Nat} (hba:(g.at_ k).a=some ⟨b,0,none⟩)
    {arr:Array MapEntry} {clock:Nat} (hh:w.heap[b]?=some (.map arr clock)) {mm:MapEntry} (hm:arr[J]?=some mm) :
    mm.born=J/\clock=arr.size/\∃g1,Heap w g1 ((AQ [k] bs).set k (.map .deep kt (.sl u) es (some key))++[.row 0 .deep u ys])/\Step [k] bs.length w g w g1/\Bg w g1 (bs.length+1) (.ref bs.length) mm.val/\g1.at_ k=g.at_ k:=by
 have hk:=AE hb;obtain⟨Nb,b',arr',clock',ha,hown,hh',hnd,hmr⟩:=H.blk k _ hb;rw[hba] at ha;injection ha with ha;injection ha with ha;subst ha;rw[hh] at hh';injection hh' with hh';injection hh' with e1 e2;subst e1;subst e2;obtain⟨m',q1,⟨_,q2⟩,q3⟩:=hmr.get hJ;rw[Axa,hm] at q1;injection q1 with q1;subst q1;rw[Nat.zero_add] at q2 q3;refine⟨q2,hnd.2,?_⟩;obtain⟨ad,cap,hv,hrow⟩:∃(ad:Option Addr) (cap:Nat),mm.val=.slice ad ys.length cap/\Hv w g.own k (.sl u) [J] ys [.slice ad ys.length cap]:=by
  rcases q3 with h6 | ⟨cs,h6,h7⟩
  ·cases h6
  ·have h6':Hv w g.own k (.sl u) [J] ys cs:=h6;obtain⟨ad,cap,e1,h8⟩:=h6;subst e1;have hv:[Value.slice ad ys.length cap]=[mm.val]:=h7;injection hv with hv _;exact⟨ad,cap,hv.symm,h6'⟩
 let i1:BI:=⟨ad,ys.length,cap,u.size⟩
 let n:=bs.length
 let g1:=g.WV n k [J] i1
 have st:Step [k] n w g w g1:=XM;have hat:g1.at_ n=i1:=by simp[g1,G.WV]
 have hkn:k≠n:=by simp only[n];omega
 have Np:g1.at_ k=g.at_ k:=by simp[g1,G.WV,hkn]
 have Y1:((AQ [k] bs).set k (Blk.map .deep kt (.sl u) es (some key))++[Blk.row 0 .deep u ys]).length=n+1:=by simp[Au,n]
 refine⟨g1,?_,st,?_,Np⟩
 ·refine H.turn st (λb hb=>by simp[g1,G.WV,H.fresh b hb]) (by rw[Y1];exact Nat.le_succ _) λj y hj=>?_;rw[List.getElem?_append] at hj;split at hj
  ·rcases NK hj with ⟨hjk,rfl⟩| ⟨hne,hj⟩
   ·rw[hjk];refine .inr (.inr ⟨λj hj=>(by cases hj),b,arr,clock,by rw[Np];exact hba,QF hown (λhc=>by have:=hc.2;simp at this),hh,hnd,P7.mk hmr.len λi z mm hz hmz=>?_⟩);obtain⟨m',h1,h2,h3⟩:=hmr.get hz;rw[hmz] at h1;injection h1 with h1;subst h1;refine⟨h2,?_⟩;by_cases hi:i=J
    ·subst hi;rw[hJ] at hz;injection hz with hz;subst hz;exact .inl rfl
    ·rcases h3 with h3 | ⟨cs,h3,h4⟩
     ·cases h3
     ·refine .inr ⟨cs,?_,h4⟩;rw[Nat.zero_add] at h3 ⊢;exact Hv.mono (λb q hb=>⟨QF hb λhc=>by
       obtain⟨s,hs⟩:=hc.2;have:=List.append_inj_right' hs rfl;simp at this;exact hi this.symm,rfl⟩) h3
   ·obtain⟨y,hy,rfl⟩:=CY hj;exact .inr (.inl ⟨by simpa using hne,y,hy,rfl⟩)
  ·rename_i hge;simp only[Aw5,Au] at hj hge;have hj0:j-bs.length=0:=by
    rcases Nat.eq_zero_or_pos (j-bs.length) with h | h
    ·exact h
    ·rw[List.getElem?_eq_none (by simp;omega)] at hj;cases hj
   rw[hj0] at hj;obtain rfl:j=n:=by simp only[n];omega
   simp only[List.getElem?_cons_zero,AwY] at hj;subst hj;refine .inr (.inr ⟨λj hj=>(by cases hj),by rw[hat],by rw[hat],Nat.pos_of_ne_zero hu,?_⟩);rw[hat];obtain⟨ad',cap',e3,hrow⟩:=hrow;injection e3 with e3 _;injection e3 with e3 _ e4;subst e3;subst e4;refine hrow.imp id λ⟨b,el,cur,ds,q1,q2,q3,q4,q5,q6,q7,q8⟩=>⟨b,cur,ds,q1,Se (q:=[]) (by simpa using q2),⟨el,.inl rfl,q3⟩,q4,q5,q6,q7,?_⟩;exact q8.mono λi x c r=>r.mono λb q hb=>⟨Se (by simpa using hb),rfl⟩
 ·rw[hv];exact A7 (cs:=[_]) rfl ⟨Nat.lt_succ_self _,by rw[hat]⟩ rfl
end
end Go.Va
namespace Go.Va
theorem JY(bad:Nat->Bool):∀a:AV,(a.drop bad).drop bad=a.drop bad
 | .dat ks t x=>by
  simp only[AV.drop];split
  ·rfl
  ·rename_i h;simp only[AV.drop,if_neg h]
 | .rop ks t x=>by
  simp only[AV.drop];split
  ·rfl
  ·rename_i h;simp only[AV.drop,if_neg h]
 | .Oz k i p o e=>by
  simp only[AV.drop];split
  ·rfl
  ·rename_i h;simp only[AV.drop,if_neg h]
 | .P4 k i p o j u=>by
  simp only[AV.drop];split
  ·rfl
  ·rename_i h;simp only[AV.drop,if_neg h]
 | .pr a b=>by simp only[AV.drop,JY bad a,JY bad b]
 | .fn f c=>by simp only[AV.drop,JY bad c]
 | .cons a b=>by simp only[AV.drop,JY bad a,JY bad b]
 | .zs=>rfl
 | .ref _=>rfl
 | .ptr _ _ _ _=>rfl
 | .JH=>rfl
 | .nil=>rfl
 | .QS _ _=>rfl
 | .mp _=>rfl
 | .un _=>rfl
theorem X0(bad:Nat->Bool):∀b:Blk,(b.drop bad).drop bad=b.drop bad
 | .box a=>by simp only[Blk.drop,JY]
 | .row e m t xs=>by cases h:m.ids.any bad<;>simp[Blk.drop,h]
 | .map m kt vt es st=>by cases h:m.ids.any bad<;>simp[Blk.drop,h]
 | .hole _ _ _ _ _=>rfl
 | .dead=>rfl
theorem X1{bs:List Blk}{k:Nat}{X Y:Blk}:(AQ [k] ((Blk.kill (AQ [k] bs) []).set k X)).set k Y=(AQ [k] bs).set k Y:=by
 apply List.ext_getElem?;intro i;by_cases h:i=k
 ·subst h;simp only[List.getElem?_set,if_true];simp[Au,AX]
 ·have h':k≠i:=Ne.symm h;rw[List.getElem?_set_ne h',List.getElem?_set_ne h'];unfold AQ;rw[List.getElem?_map,List.getElem?_set_ne h'];unfold Blk.kill;simp only[List.getElem?_map,Option.map_map];cases bs[i]? with
  | none=>simp
  | some y=>simp[X0]
section
variable {kt vt:Ty}
theorem aQ{k:kt.V}:∀{es:List (kt.V×vt.V)} {j:Nat} {x:kt.V×vt.V},es[j]?=some x->A0 kt k x.1=true->(∀i,i<j->∀y,es[i]?=some y->A0 kt k y.1=false)->midx kt vt es k=j
 | y::r,0,x,h,he,_=>by
  simp at h;subst h;unfold midx;rw[he];rfl
 | y::r,j+1,x,h,he,hn=>by
  unfold midx;rw[hn 0 (by omega) y rfl,Axb,aQ (es:=r) (j:=j) (by simpa using h) he λi hi z hz=>hn (i+1) (by omega) z (by simpa using hz)]
 | [],_,_,h,_,_=>by simp at h
theorem iG{k:kt.V}:∀{es:List (kt.V×vt.V)},(∀(i:Nat) y,es[i]?=some y->A0 kt k y.1=false)->midx kt vt es k=es.length
 | [],_=>rfl
 | y::r,h=>by
  unfold midx;rw[h 0 y rfl,Axb,iG (es:=r) λi z hz=>h (i+1) z (by simpa using hz)];rfl
theorem iW{arr:Array MapEntry}{j:Nat}{m:MapEntry}{v:Value}(h:arr[j]?=some m)(hk:m.key=v):arr.modify j (λe=>{e with key:=v})=arr:=by
 apply Array.ext_getElem?;intro i;rw[Array.getElem?_modify];split
 ·rename_i e;subst e;rw[h];simp[<-hk]
 ·rfl
theorem sG{w:World}{b:Nat}{o:Obj}(h:w.heap[b]?=some o):({w with heap:=w.heap.setIfInBounds b o}:World)=w:=by
 have:w.heap.setIfInBounds b o=w.heap:=by
  apply Array.ext_getElem?;intro i;rw[Array.getElem?_setIfInBounds];split
  ·rename_i e;subst e;split
   ·exact h.symm
   ·rename_i hn;rw[Array.getElem?_eq_none (by omega)]
  ·rfl
 rw[this]
theorem Asp {P:Program} {w:World} {g:G} {bs:List Blk} (H:Heap w g bs) {k:Nat} {u:Ty} {tk:TI} {es:List (tk.ty.V×(Ty.sl u).V)} (hb:bs[k]?=some (.map .deep tk.ty (.sl u) es none)) {ax:AV} {key:tk.ty.V} (hx:rd bs tk.ty ax=some key) {mv xv:Value} (zG:Bg w g bs.length (.mp k) mv) (hAx:Bg w g bs.length ax xv)
    {t:TypeId} {ti te:TI} (ht:Eg P t ti) (hmk:ti.Mp≠0) (hte:Eg P ti.elem te) (zU:.sl u=te.ty) (hkk:tk.ty.keyed=true) (hu:u.size≠0) (K:tk.ty.keyed=true->XY P ti.Mp tk.ty) :
    ∃v w' g',(Instr.mapEntry t mv xv).run P w=.ok (.tuple #[v,.int .i64 (midx tk.ty (.sl u) es key:Nat)]) w' /\
     Heap w' g' ((AQ [k] bs).set k (.map .deep tk.ty (.sl u) (Cq tk.ty (.sl u) es key (BG tk.ty (.sl u) es key)) (some key))++[.row 0 .deep u (BG tk.ty (.sl u) es key)])/\Bg w' g' (bs.length+1) (.ref bs.length) v/\Step [k] bs.length w g w' g':=by
 obtain⟨hk,b,hba,hbe⟩:=Wv zG;obtain⟨Nb,b',arr,clock,ha,hown,hh,hnd,hmr⟩:=H.blk k _ hb;rw[hba] at ha;injection ha with ha;injection ha with ha;subst ha;have hkey:=Xg H hkk hx hAx;have hun:=ht.mp hmk;have hl:arr.toList.length=es.length:=hmr.len;rcases T5 (K hkk) hmr key with ⟨j,x,m,h1,h2,h3,h4,h5,h6,h7,⟨h8,h8b⟩,hf⟩| ⟨h1,h2,h3,hf⟩
 ·have hJ:es[j]?=some (key,x.2):=by rw[h1,<-h2]
  obtain⟨hborn,Awb,g1,H1,st,oW,_⟩:=Aep H hb hu hJ hba hh h3;have hg:BG tk.ty (.sl u) es key=x.2:=by unfold BG;rw[h5];rfl
  have hp:Cq tk.ty (.sl u) es key x.2=es:=by
   rw[h6];apply List.ext_getElem?;intro i;rw[List.getElem?_set];split
   ·rename_i e;subst e;rw[if_pos (AE hJ),hJ]
   ·rfl
  have hmx:midx tk.ty (.sl u) es key=j:=aQ hJ (QL hkk) h4;refine⟨m.val,w,g1,?_,by rw[hg,hp];exact H1,oW,st⟩;rw[hbe,hkey];have hw:=sG (o:=.map (arr.modify j λe=>{e with key:=CR tk.ty key}) clock) (by rw[iW h3 h8];exact hh);simp[Instr.mapEntry,underlying,hun,MapKept.run_getObj_map hh,(K hkk).check,hf,h3,h8,(K hkk).stays,MapKept.run_setObj_map _ hh,hw,hmx,hborn,goInt]
 ·obtain⟨z,hz,hzv⟩:=jO hte w;rw[<-zU] at hzv;have hzs:z=.slice none 0 0:=by
   have:[Value.slice none 0 0]=[z]:=hzv;injection this with h _;exact h.symm
  subst hzs;have hg:BG tk.ty (.sl u) es key=[]:=by unfold BG;rw[h2];rfl
  have hmx:midx tk.ty (.sl u) es key=es.length:=iG h1;have hA0:Bg w g bs.length .zs (.slice none 0 0):=A7 (cs:=[_]) rfl ⟨none,rfl⟩ rfl;have AsZ:Vt bs tk te (.mp k) ax .zs some=some ⟨.un 0,(Blk.kill (AQ [k] bs) []).set k (.map .deep tk.ty (.sl u) (Cq tk.ty (.sl u) es key []) none),[k]⟩:=by
   have htk:take bs .deep (.sl u) .zs=some ([],.deep,[]):=by simp[take,rd,AV.refs,AV.Rz,nodup]
   unfold Vt;simp only[hb,hx,htk];rw[if_pos ⟨trivial,zU,hkk,by rfl,by rfl⟩]
  obtain⟨_,_,_,w',g',hrun,H',st'⟩:=AhL H zG hAx hA0 ht hmk K AsZ;have hw:w'={w with heap:=w.heap.setIfInBounds b (.map (arr.push {key:=CR tk.ty key,val:=.slice none 0 0,born:=clock}) (clock+1))}:=by
   rw[hbe,hkey] at hrun;simp[Instr.mapUpdate,underlying,hun,MapKept.run_getObj_map hh,(K hkk).check,hf,MapKept.run_setObj_map _ hh] at hrun;exact hrun.symm
  have hlt:b<w.heap.size:=O1 H (by rw[hown];simp);have hb':((Blk.kill (AQ [k] bs) []).set k (Blk.map .deep tk.ty (.sl u) (Cq tk.ty (.sl u) es key []) none))[k]?=some (.map .deep tk.ty (.sl u) (Cq tk.ty (.sl u) es key []) none):=by
   rw[List.getElem?_set_self (by simpa [AX,Au] using hk)]
  have hJ:(Cq tk.ty (.sl u) es key [])[es.length]?=some (key,[]):=by rw[h3];simp
  have Asz:(g'.at_ k).a=some ⟨b,0,none⟩:=by rw[st'.at_ k hk];exact hba
  have hh':w'.heap[b]?=some (.map (arr.push {key:=CR tk.ty key,val:=.slice none 0 0,born:=clock}) (clock+1)):=by
   rw[hw];simp[hlt]
  have hsz:arr.size=es.length:=by rw[<-hl];simp
  have hm:(arr.push {key:=CR tk.ty key,val:=.slice none 0 0,born:=clock})[es.length]?=some {key:=CR tk.ty key,val:=.slice none 0 0,born:=clock}:=by
   rw[<-hsz];simp
  obtain⟨hborn,_,g1,H1,st1,oW,_⟩:=Aep H' hb' hu hJ Asz hh' hm;have hlb:((Blk.kill (AQ [k] bs) []).set k (Blk.map .deep tk.ty (.sl u) (Cq tk.ty (.sl u) es key []) none)).length=bs.length:=by simp[AX,Au]
  rw[hlb] at oW st1;rw[X1] at H1;have st2:=st'.trans st1 (Aw2 _);refine⟨.slice none 0 0,w',g1,?_,by rw[hg];exact H1,oW,⟨st2.os,st2.tape,st2.output,st2.size,st2.no,st2.Gr,λb k' p h1 h2 h3=>st2.lab b k' p h1 h2 (by simpa using h3),st2.at_⟩⟩;have hborn:clock=es.length:=hborn;rw[hbe,hkey,hw];simp[Instr.mapEntry,underlying,hun,MapKept.run_getObj_map hh,(K hkk).check,hf,hz,MapKept.run_setObj_map _ hh,hmx,hborn,goInt]
variable {P:Program} {σ:St} {o:Oper} {en:Env} {e:Eff}
theorem AdH {t:TypeId} {m x:Operand} (ho:o.op=.mapEntry t m x) {ti tk te:TI} (ht:Eg P t ti) (hmk:ti.Mp≠0) (hte:Eg P ti.elem te) (K:tk.ty.keyed=true->XY P ti.Mp tk.ty)
    (h:qX σ.blks tk te (σ.Bw m) (σ.Bw x) some=some e):Lj P σ o e:=by
 unfold qX at h;split at h
 ·rename_i k hm;split at h
  ·rename_i kt u es hb;split at h
   ·rename_i key hx;split at h
    ·rename_i hc;obtain⟨rfl,zU,hkk,hu⟩:=hc;injection h with h;subst h;refine⟨by simp[Au],λh=>(by cases h),λa w g hst next Q hn=>?_⟩
     have zG:=AB hst m;rw[hm] at zG;obtain⟨v,w',g',hrun,hH,oW,st⟩:=Asp hst.heap hb hx zG (AB hst x) ht hmk hte zU hkk hu K;have VH:(execOp a.eval o).run P w=.ok (.value (.tuple #[v,.int .i64 (midx tk.ty (.sl u) es key:Nat)])) w':=by
      simp[execOp,ho,hrun]
     unfold Oper.wp;rw[VH];have hl1:((AQ [k] σ.blks).set k (Blk.map .deep tk.ty (.sl u) (Cq tk.ty (.sl u) es key (BG tk.ty (.sl u) es key)) (some key))++[Blk.row 0 .deep u (BG tk.ty (.sl u) es key)]).length=σ.blks.length+1:=by simp[Au]
     refine hn _ w' g' hH ?_ st;rw[hl1];have hr:=(Bg.iff (a:=.ref σ.blks.length) rfl).1 oW;exact⟨[v,.int .i64 (midx tk.ty (.sl u) es key:Nat)],rfl,v,[.int .i64 (midx tk.ty (.sl u) es key:Nat)],rfl,hr,_,[],rfl,.inr ⟨[.int .i64 (midx tk.ty (.sl u) es key:Nat)],⟨λ_ h=>(by cases h),rfl⟩,rfl⟩,rfl⟩
    ·cases h
   ·cases h
  ·cases h
 ·cases h
theorem Aca{w:World}{g:G}{n:Nat}:∀{kt:Ty} {x:kt.V},kt.keyed=true->Bg w g n (.dat [] kt x) (CR kt x):=by
 intro kt x hk;have key:∀cs,FL w (Al g.own []) kt x cs->A3 kt.isAgg cs (CR kt x)->Bg w g n (.dat [] kt x) (CR kt x):=λcs h1 h2=>A7 (cs:=cs) rfl ⟨λ_ h=>(by cases h),h1⟩ h2
 match kt,x,hk with
 | .int q,x,_=>exact key [.int q x] rfl rfl
 | .str,x,_=>exact key [.string x] rfl rfl
 | .pair (.int q) (.pair (.int q') .unit),x,_=>exact key [.int q x.1,.int q' x.2.1] ⟨[_],[_],rfl,rfl,[_],[],rfl,rfl,rfl⟩ rfl
theorem AaX {t:TypeId} {m j v:Operand} (ho:o.op=.entryStore t m j v) {ti tk te:TI} (ht:Eg P t ti) (hmk:ti.Mp≠0) (K:tk.ty.keyed=true->XY P ti.Mp tk.ty)
    (h:qY σ.blks tk te (σ.Bw m) (σ.Bw j) (σ.Bw v) some=some e):Lj P σ o e:=by
 unfold qY at h;split at h
 ·rename_i k hm;split at h
  ·rename_i md kt vt es key hb;split at h
   ·rename_i n hj;split at h
    ·rename_i hc;obtain⟨hkt,hkk⟩:=hc;subst hkt;obtain⟨hn,hmh,h⟩:n=Int.ofNat (midx tk.ty vt es key)/\Vg tk.ty vt es key=true/\Vt σ.blks tk te (σ.Bw m) (.dat [] tk.ty key) (σ.Bw v) some=some e:=by
      cases hq:Qf tk.ty vt es key n with
      | false=>rw[hq] at h;cases h
      | true =>
       rw[hq,Axc] at h;simp only[Qf,Aw3,beq_iff_eq] at hq;exact⟨hq.1,hq.2,h⟩
     obtain⟨s1,s2⟩:=XT h;refine⟨by rw[s2];exact Aw2 _,λh=>(s1 h).elim,λa w g hst next Q hnx=>?_⟩
     have zG:=AB hst m;rw[hm] at zG h;obtain⟨h1,h2,h3,w',g',hrun,hH,st⟩:=AhL hst.heap zG (Aca hkk) (AB hst v) ht hmk K h;obtain⟨hk,b,hba,hbe⟩:=Wv zG;obtain⟨Nb,b',arr,clock,ha,hown,hh,hnd,hmr⟩:=hst.heap.blk k _ hb;rw[hba] at ha;injection ha with ha;injection ha with ha;subst ha;have hjv:a.eval j=.int .i64 n:=Xg (kt:=.int .i64) hst.heap rfl hj (AB hst j);have hun:=ht.mp hmk;have VH:(execOp a.eval o).run P w=.ok .skip w':=by
      rcases T5 (K hkk) hmr key with ⟨J,x,mm,h1',h2',h3',h4',h5',h6',h7',⟨h8,h8b⟩,hf⟩| ⟨_,h2',_,_⟩
      ·have hJ:es[J]?=some (key,x.2):=by rw[h1',<-h2']
       have hmx:midx tk.ty vt es key=J:=aQ hJ (QL hkk) h4';rw[hmx] at hn;rw[hbe] at hrun;simp[Instr.mapUpdate,underlying,hun,MapKept.run_getObj_map hh,(K hkk).check,hf,h3',h8,(K hkk).stays,MapKept.run_setObj_map _ hh] at hrun;have hJl:J<arr.size:=by
        have:=AE (show arr.toList[J]?=some mm by rw[Axa];exact h3');simpa using this
       have hidx:arr.findIdx? (λe=>(e.born:Int)==n)=some J:=by
        rw[Array.findIdx?_eq_some_iff_getElem];have hbn:∀i (h:i<arr.size),arr[i].born=i:=λi hi=>by
         have hi':i<es.length:=by rw[<-hmr.len];simpa using hi
         obtain⟨m',q1,⟨_,q2⟩,_⟩:=hmr.get (List.getElem?_eq_getElem hi');rw[Axa,Array.getElem?_eq_getElem hi] at q1;injection q1 with q1;rw[q1,q2];omega
        refine⟨hJl,by rw[hbn,hn];simp,λi hi=>?_⟩;rw[hbn,hn];simp;omega
       have hmod:arr.modify J (λe=>{e with val:=a.eval v})=arr.modify J (λe=>{e with key:=CR tk.ty key,val:=a.eval v}):=by
        apply Array.ext_getElem?;intro i;rw[Array.getElem?_modify,Array.getElem?_modify];split
        ·rename_i e;subst e;rw[h3'];simp[h8]
        ·rfl
       simp[execOp,ho,hbe,hjv,Instr.entryStore,asInt,asIntOf,MapKept.run_getObj_map hh,hidx,MapKept.run_setObj_map _ hh,hmod,hrun]
      ·simp[Vg,h2'] at hmh
     unfold Oper.wp;rw[VH];exact hnx undef w' g' hH (by rw[h3];exact M9) st
    ·cases h
   ·cases h
  ·cases h
 ·cases h
end
end Go.Va
namespace Go.Va
section
variable {P:Program} {σ:St} {o:Oper}
def l6:TypeDesc->Bool
 | .int _=>true
 | .bool=>true
 | .string=>true
 | _=>false
theorem Xv{t:TypeId}{d:TypeDesc}(hu:P.underlying t=some d)(hd:l6 d=true){w:World}{cs:Array Value}{i:Nat}{v:Value}(h:cs[i]?=some v):(part t cs i).run P w=.ok v w:=by
 cases d<;>simp[l6] at hd<;>simp[part,isAgg,underlying,hu,h]
theorem oI(d:Nat)(w:World):∀(t:Ty) (p q:List Value) (fs:List Field) (u v:t.V) (n:Nat),p.length=n->q.length=n->Qg P t n fs=true->(Op.eqFields (d+1) (p++Jr t u).toArray (q++Jr t v).toArray fs).run P w=.ok (Mu t u v) w
 | .unit,p,q,[],u,v,n,_,_,_=>by simp[Op.eqFields,Mu]
 | .pair a b,p,q,f::fs,u,v,n,hp,hq,h=>by
  simp only[Qg,Aw3,bne_iff_ne,beq_iff_eq] at h;obtain⟨⟨⟨h1,h2⟩,h3⟩,h4⟩:=h;have key:∀(x y:Value) (r:Bool) (dd:TypeDesc),Jr a u.1=[x]->Jr a v.1=[y]->P.underlying f.type=some dd->l6 dd=true ->
      (Op.equalIn (d+1) f.type x y).run P w=.ok r w->r=Mu a u.1 v.1->(Op.eqFields (d+1) (p++Jr (.pair a b) u).toArray (q++Jr (.pair a b) v).toArray (f::fs)).run P w=.ok (Mu (.pair a b) u v) w:=by
   intro x y r dd hx hy hu hd he hr;have ih:=oI d w b (p++[x]) (q++[y]) fs u.2 v.2 (n+1) (by simp[hp]) (by simp[hq]) h4;have ex:p++Jr (.pair a b) u=p++[x]++Jr b u.2:=by simp[Jr,hx]
   have ey:q++Jr (.pair a b) v=q++[y]++Jr b v.2:=by simp[Jr,hy]
   rw[ex,ey];have px:(part f.type (p++[x]++Jr b u.2).toArray n).run P w=.ok x w:=Xv hu hd (by simp[<-hp]);have py:(part f.type (q++[y]++Jr b v.2).toArray n).run P w=.ok y w:=Xv hu hd (by simp[<-hq]);simp only[Op.eqFields,h1,ne_eq,not_false_eq_true,if_true,Sem.run_bind,h2,px,py,Result.andThen_ok,he];subst hr;cases hq:Mu a u.1 v.1 with
   | false=>simp[Mu,hq]
   | true=>simp only[Bool.not_true,Bool.false_eq_true,if_false];rw[ih];simp[Mu,hq]
  split at h3
  ·rename_i k k' hu;rw[beq_iff_eq] at h3;subst h3;exact key _ _ _ _ rfl rfl hu rfl (VF hu d w _ _) rfl
  ·rename_i hu;exact key _ _ _ _ rfl rfl hu rfl (by simp[Op.equalIn,underlying,hu];rfl) rfl
  ·rename_i hu;exact key _ _ _ _ rfl rfl hu rfl (by simp[Op.equalIn,underlying,hu]) jA.symm
  ·cases h3
 | .unit,_,_,_::_,_,_,_,_,_,h=>by simp[Qg] at h
 | .pair _ _,_,_,[],_,_,_,_,_,h=>by simp[Qg] at h
 | .int _,_,_,_,_,_,_,_,_,h=>by simp[Qg] at h
 | .bool,_,_,_,_,_,_,_,_,h=>by simp[Qg] at h
 | .str,_,_,_,_,_,_,_,_,h=>by simp[Qg] at h
 | .sl _,_,_,_,_,_,_,_,_,h=>by simp[Qg] at h
 | .opq _,_,_,_,_,_,_,_,_,h=>by simp[Qg] at h
theorem YP:∀{t:Ty} {n:Nat} {fs:List Field},Qg P t n fs=true->t.flat=true/\t.isAgg=true
 | .unit,_,[],_=>⟨rfl,rfl⟩
 | .pair a b,n,f::fs,h=>by
  simp only[Qg,Aw3] at h;obtain⟨⟨_,h3⟩,h4⟩:=h;have:=(YP h4).1;refine⟨?_,rfl⟩;split at h3<;>first | (cases h3;done)| simp[Ty.flat,this]
 | .unit,_,_::_,h=>by simp[Qg] at h
 | .pair _ _,_,[],h=>by simp[Qg] at h
 | .int _,_,_,h=>by simp[Qg] at h
 | .bool,_,_,h=>by simp[Qg] at h
 | .str,_,_,h=>by simp[Qg] at h
 | .sl _,_,_,h=>by simp[Qg] at h
 | .opq _,_,_,h=>by simp[Qg] at h
theorem AdI{tab:Tab}(ht:V0 P tab=true){op:BinOp}{t yt:TypeId}{x y:Operand}(ho:o.op=.binOp op t x y yt){z:AV}(h:eqS σ.blks tab op t (σ.Bw x) (σ.Bw y)=some z):Lj P σ o ⟨z,σ.blks,[]⟩ :=
 .He <| JI (s:=λρ=>do eqGuard op t x y (ρ x) (ρ y);binOp op t (ρ x) (ρ y)) (λρ=>by simp[execOp,ho]) λa w g hst=>by
  unfold eqS at h;split at h
  ·rename_i ti hti;split at h
   ·rename_i he;have hT:=Eg.of ht hti;have heq:=hT.eqs he;unfold zo at heq;split at heq
    ·rename_i fs hu;simp only[Aw3,Bool.not_eq_true'] at heq;obtain⟨⟨h1,h2⟩,h3⟩:=heq;have hF:P.fieldsOf t=fs:=by simp[Program.fieldsOf,hu]
     obtain⟨Aqq,hagg⟩:=YP h3;have get:∀(X:Operand) (u:ti.ty.V),rd σ.blks ti.ty (σ.Bw X)=some u->a.eval X=.agg (Jr ti.ty u).toArray:=λX u hr=>by
      obtain⟨q1,q2⟩:=P5 hr;obtain⟨cs,hcs,hv⟩:=Ba q1 q2 (AB hst X);rw[Tt hr,hagg] at hv;have:=(FL.flat Aqq).1 (MI hst.heap _ _ u cs hr hcs).1;subst this;exact hv
     have run:∀u v:ti.ty.V,(Op.equalIn 10000 t (.agg (Jr ti.ty u).toArray) (.agg (Jr ti.ty v).toArray)).run P w=.ok (Mu ti.ty u v) w:=λu v=>by
      rw[show(10000:Nat)=9999+1 from rfl,run_equalIn_struct w 9999 t _ _ (by rw[hF];exact hu) h1,hF];have:=oI (P:=P) 9998 w ti.ty [] [] fs.toList u v 0 rfl rfl h3;simpa using this
     split at h
     ·split at h
      ·rename_i u v hx hy;injection h with h;subst h;refine⟨.bool (Mu ti.ty u v),?_,Ue _⟩;simp only[get x u hx,get y v hy,Sem.run_bind,run_eqGuard_agg w .eql t x y _ _ h2,Result.andThen_ok,run_eql_struct,run]
      ·cases h
     ·split at h
      ·rename_i u v hx hy;injection h with h;subst h;refine⟨.bool (!Mu ti.ty u v),?_,Ue _⟩;simp only[get x u hx,get y v hy,Sem.run_bind,run_eqGuard_agg w .neq t x y _ _ h2,Result.andThen_ok,run_neq_struct,run]
      ·cases h
     ·cases h
    ·cases heq
   ·cases h
  ·cases h
end
end Go.Va
