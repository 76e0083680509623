import Derived.Shelf.SortG.Plain
import Derived.Shelf.SortG.SortNone
import Derived.Shelf.SlicesG.CompactI
import Derived.Shelf.SlicesE.DeleteFunc
import Derived.KernelRfl
import Derived.Test.YtniphlhooggimaaGreatShelf
import Derived.Test.YtniphlhooggimaaGreatChecked
import Derived.Test.YtniphlhooggimaaGreatProg
import Derived.Test.YtniphlhooggimaaGreatK1
set_option linter.unusedVariables false
set_option linter.unusedSimpArgs false
namespace Go.Va
theorem Am.ja{P:Program}{f:FuncId}{fn:Func}(hf:P.funcs[f]?=some fn)(hn:(fn.name=="runtime.NumGoroutine")=false)(hb:fn.body.isNone=false){c:Callee}(hc:gX c)
    (h:∀args E av E',c.run (AV×ATB Blk) args E (λv b=>some (v,b))=some (av,E')->E.length<=E'.length/\∀(w:World) (g:G) (vs:ATB Value),Bi w g E->DU w g E.length args vs ->
     Calls P f vs.toArray w λe w'=>∃v g',e=.returned v/\Bi w' g' E'/\B5 w' g' E'.length av v/\BK E.length w g w' g'):Am P f c where
 aI:=hc
 snd args E av E' hr:=by
  obtain⟨h1,h2⟩:=h args E av E' hr;refine⟨h1,λw g vs H hx o a next Q hn'=>?_⟩
  have:(callFunc f vs.toArray).run P w=.ok (.enter f vs.toArray) w:=by
   have hn1:¬fn.name="runtime.NumGoroutine":=by grind
   have ik:¬fn.body=none:=by
    grind
   simp[callFunc,hf,hn1,ik]
  rw[this];refine(h2 w g vs H hx).mono λe w' ⟨v,g',e1,hH,hv,BO⟩=>?_;subst e1;exact hn' v w' g' hH hv BO
theorem AcK{P:Program}{t:TypeId}{ti:TI}(ht:Fh P t ti)(hs:ti.Ew=true){ad:ATC Addr}{n c:Nat}{x y:Operand}(w:World) :
    (do eqGuard .eql t x y (.slice ad n c) (.slice none 0 0);binOp .eql t (.slice ad n c) (.slice none 0 0):Sem Value).run P w=.ok (.bool ad.isNone) w:=by
 have hu:=BH ht hs;have h1:∀d,(Op.equalIn (d+1) t (.slice ad n c) (.slice none 0 0)).run P w=.ok ad.isNone w:=by
  intro d;unfold Op.equalIn;cases ad<;>simp[underlying,hu]
 have h2:(Op.equal t (.slice ad n c) (.slice none 0 0)).run P w=.ok ad.isNone w:=h1 (Op.maxDepth-1);show(do pure (.bool (<-Op.equal t (.slice ad n c) (.slice none 0 0))):Sem Value).run P w=_
 rw[Sem.run_bind,h2];rfl
section
variable {P:Program} {en:GV}
theorem uy(he:Jy P en){f:FuncId}{fn:Func}(hf:P.funcs[f]?=some fn){R0 R2 T:Code}{id:Nat}{o3 o4:Oper}{t t2 e bytes:Nat}{u:Ty}{ti:TI}
    (hb:fn.body=some (R0.seq (((Code.region id #[o3,o4] false).seq (Code.cond (.tmp 4) (R2.seq .ret) .skip)).seq T))) (hnt:fn.ntmps=8) (df:fn.results=#[.tmp 2])
    (h3:o3.op=.move (.tmp 0)/\o3.dst=some 3/\o3.guard=none) (h4:o4.op=.binOp .eql t (.tmp 3) (.const (.slice none 0 0)) t2/\o4.dst=some 4/\o4.guard=none)
    (ht:en.D7.get t=some ti) (Im:ti.Ew=true) (hu:u.row=true)
    (hR0:∀xs:(Ty.sl u).V,ev en 0 R0 (Ex×St) ⟨[.AA [] (.sl u) xs,.un 0,.un 0,.un 0,.un 0,.un 0,.un 0,.un 0],[]⟩ Sd=some (.normal,⟨[.AA [] (.sl u) xs,.un 0,.zs,.un 0,.un 0,.un 0,.un 0,.un 0],[]⟩))
    (hA:∀xs:(Ty.sl u).V,ev en 0 (R2.seq .ret) (Ex×St) ⟨[.AA [] (.sl u) xs,.un 0,.zs,.AA [] (.sl u) xs,.bool true,.un 0,.un 0,.un 0],[]⟩ Sd=some (.ret,⟨[.AA [] (.sl u) xs,.un 0,.zs,.AA [] (.sl u) xs,.bool true,.un 0,.un 0,.un 0],[]⟩))
    (hT:∀xs:(Ty.sl u).V,xs.length*bytes<=140737488355328->ev en 0 T (Ex×St) ⟨[.AA [] (.sl u) xs,.un 0,.zs,.AA [] (.sl u) xs,.bool false,.un 0,.un 0,.un 0],[]⟩ Sd=some (.ret,⟨[.AA [] (.sl u) xs,.un 0,.AH 0,.AA [] (.sl u) xs,.bool false,.zs,.AA [] (.sl u) xs,.AH 0],[.row e (if u.BS then .Av else .sh []) u xs]⟩))
    {xs:(Ty.sl u).V} (Ag6:xs.length*bytes<=140737488355328) (w:World) (g:G) (vs:ATB Value) (H:Bi w g []) (hx:DU w g 0 [.AA [] (.sl u) xs] vs) :
    Calls P f vs.toArray w λee w'=>∃v g',ee=.returned v/\Bi w' g' [.row e (if u.BS then .Av else .sh []) u xs]/\B5 w' g' 1 (.AH 0) v/\BK 0 w g w' g':=by
 refine calls_of_wp hf hb ?_;have xI:=dT H hx (n:=fn.ntmps) (by rw[hnt];simp);have AJL:LC w g ⟨[.AA [] (.sl u) xs,.un 0,.un 0,.un 0,.un 0,.un 0,.un 0,.un 0],[]⟩ {tmps:=vs.toArray++Array.replicate (fn.ntmps-vs.toArray.size) undef,defers:=[]}:=by
  rw[hnt]at xI;rw[hnt];exact xI
 have WO:∀(a':Act) (w':World) (g':G),a'.defers=[]->BK 0 w g w' g'->(∃g'',Bi w' g'' [.row e (if u.BS then .Av else .sh []) u xs]/\B5 w' g'' 1 (.AH 0) (a'.tmps.getD 2 undef)/\BK 0 w' g' w' g'') ->
     a'.defers=[]/\∃v,(results fn a'.tmps).run P w'=.ok v w'/\∃v' g',Ending.returned v=.returned v'/\Bi w' g' [.row e (if u.BS then .Av else .sh []) u xs]/\B5 w' g' 1 (.AH 0) v'/\BK 0 w g w' g':=by
  intro a' w' g' hd BO ⟨g'',H'',hav,y8⟩;refine⟨hd,a'.tmps.getD 2 undef,?_,_,g'',rfl,H'',hav,BO.trans y8⟩;rw[lC,df,Array.mapM_eq_mapM_toList];simp[Ais]
 refine wp_seq ((QT he R0 _ _ _ (hR0 xs) (AP2 _)).2 _ w g _ AJL λa1 w1 g1 Sb Se mR=>?_);simp only[qV];refine wp_seq (wp_seq (wp_region ?_));have ZP:=Sb.AO 0 _ rfl;obtain⟨cs,S6,hval⟩:=B3 rfl rfl ZP;obtain⟨_,ad,cap,ds,Avu,hlen,Ahk,rz⟩:=S6;subst Avu;have hv0:a1.tmps.getD 0 undef=.slice ad xs.length cap:=by
  have:[Value.slice ad xs.length cap]=[a1.tmps.getD 0 undef]:=hval;injection this with h _;exact h.symm
 have AJy:ad=none->xs=[]:=λh=>by
  rcases rz with h1 |⟨b,off,h1,_⟩
  ·exact h1
  ·rw[h]at h1;cases h1
 let a2:=(a1.put (some 3) (.slice ad xs.length cap)).put (some 4) (.bool ad.isNone)
 have MQ:a1.tmps.size=8:=Sb.len.symm;have YC:LC w1 g1 ⟨[.AA [] (.sl u) xs,.un 0,.zs,.AA [] (.sl u) xs,.bool ad.isNone,.un 0,.un 0,.un 0],[]⟩ a2:=by
  refine⟨Sb.heap,by simp[a2,Xm,MQ],λi x hx=>?_⟩;have h5:∀i,i≠3->i≠4->a2.tmps.getD i undef=a1.tmps.getD i undef:=λi h3 h4=>by
   simp only[a2];rw[Wl (by simpa using λh=>h4 h.symm),Wl (by simpa using λh=>h3 h.symm)]
  match i,hx with
  |0,hx=>rw[h5 0 (by decide) (by decide)];exact Sb.AO 0 x hx
  |1,hx=>rw[h5 1 (by decide) (by decide)];exact Sb.AO 1 x hx
  |2,hx=>rw[h5 2 (by decide) (by decide)];exact Sb.AO 2 x hx
  |3,hx =>
   injection hx with hx;subst hx;have:a2.tmps.getD 3 undef=.slice ad xs.length cap:=by
    simp only[a2];rw[Wl (by decide),TM (by omega)]
   rw[this,<-hv0];exact ZP
  |4,hx =>
   injection hx with hx;subst hx;have:a2.tmps.getD 4 undef=.bool ad.isNone:=by
    simp only[a2];rw[TM (by rw[Xm];omega)]
   rw[this];exact Bs (cs:=[.bool ad.isNone]) rfl ⟨λk hk=>by(cases hk),rfl⟩ rfl
  |5,hx=>injection hx with hx;subst hx;exact RQ
  |6,hx=>injection hx with hx;subst hx;exact RQ
  |7,hx=>injection hx with hx;subst hx;exact RQ
  |i+8,hx=>simp at hx
 have e3:a1.eval (.tmp 0)=.slice ad xs.length cap:=hv0;have AJc:(a1.put (some 3) (.slice ad xs.length cap)).eval (.tmp 3)=.slice ad xs.length cap:=by
  show(a1.put (some 3) (.slice ad xs.length cap)).tmps.getD 3 undef=_;rw[TM (by omega)]
 simp only[List.range,wpOps];show wpOps P #[o3,o4] _ [0,1] a1 w1;simp only[wpOps];have g0:(#[o3,o4]:Array Oper)[0]?=some o3:=rfl;have g1':(#[o3,o4]:Array Oper)[1]?=some o4:=rfl;rw[g0,g1'];simp only[Region.wanted,h3.2.2,h4.2.2,AQJ];refine .inl ?_;unfold Oper.wp;rw[show(execOp a1.eval o3).run P w1=.ok (.value (.slice ad xs.length cap)) w1 by simp[execOp,h3.1,e3],Oper.upon_value,h3.2.1];have AFK:(a1.put (some 3) (.slice ad xs.length cap)).tmps.getD 3 undef=.slice ad xs.length cap:=AJc;have AGf:(execOp (a1.put (some 3) (.slice ad xs.length cap)).eval o4).run P w1=.ok (.value (.bool ad.isNone)) w1:=by
  have:=AcK (P:=P) (t:=t) (he.t ht) Im (ad:=ad) (n:=xs.length) (c:=cap) (x:=.tmp 3) (y:=.const (.slice none 0 0)) w1;simp only[execOp,h4.1,Act.eval,AFK];rw[Sem.run_bind,this];rfl
 refine .inl ?_;rw[AGf,Oper.upon_value,h4.2.1];show(Code.cond (.tmp 4) (R2.seq .ret) .skip).wp P _ a2 w1;have AlZ:a2.eval (.tmp 4)=.bool ad.isNone:=by
  show a2.tmps.getD 4 undef=_;simp only[a2];rw[TM (by rw[Xm];omega)]
 have hd2:a2.defers=[]:=by simp only[a2,Go.Va.put_defers];exact mR
 cases had:ad with
 |none =>
  have hxs:=AJy had;subst hxs;rw[had]at YC AlZ;refine wp_cond_true AlZ ?_;refine(QT he _ _ _ _ (hA []) (AP2 _)).2 a2 w1 g1 _ YC λa3 w3 g3 vx st3 hd3=>?_;have hz:=vx.AO 2 _ rfl;obtain⟨g4,H4,AIZ,st4⟩:=yD vx.heap (c:=.row [] e u false) (a:=.zs) (a':=.AH 0) (nb:=[.row e (if(u.BS||false)=true then .Av else .sh []) u []]) (by simp[coV,AV.Wu,AV.bW,hu]) hz;exact WO a3 w3 g3 (hd3.trans hd2) (Se.trans st3) ⟨g4,by simpa using H4,by simpa using AIZ,st4.zU (AQH _)⟩
 |some ad0 =>
  rw[had]at YC AlZ;refine wp_cond_false AlZ (wp_skip ?_);refine(QT he _ _ _ _ (hT xs Ag6) (AP2 _)).2 a2 w1 g1 _ YC λa3 w3 g3 vx st3 hd3=>?_;exact WO a3 w3 g3 (hd3.trans hd2) (Se.trans st3) ⟨g3,vx.heap,vx.AO 2 _ rfl,BK.refl _ _ _⟩
theorem Acu{e bytes:Nat}{u:Ty}:gX (bg e u bytes):=by
 intro R args E K;simp only[bg]
 grind
theorem eU(he:Jy P en){f:FuncId}{fn:Func}(hf:P.funcs[f]?=some fn)(hn:(fn.name=="runtime.NumGoroutine")=false){R0 R2 T:Code}{id:Nat}{o3 o4:Oper}{t t2 e bytes:Nat}{u:Ty}{ti:TI}
    (hb:fn.body=some (R0.seq (((Code.region id #[o3,o4] false).seq (Code.cond (.tmp 4) (R2.seq .ret) .skip)).seq T))) (hnt:fn.ntmps=8) (df:fn.results=#[.tmp 2])
    (h3:o3.op=.move (.tmp 0)/\o3.dst=some 3/\o3.guard=none) (h4:o4.op=.binOp .eql t (.tmp 3) (.const (.slice none 0 0)) t2/\o4.dst=some 4/\o4.guard=none)
    (ht:en.D7.get t=some ti) (Im:ti.Ew=true) (hu:u.row=true)
    (hR0:∀xs:(Ty.sl u).V,ev en 0 R0 (Ex×St) ⟨[.AA [] (.sl u) xs,.un 0,.un 0,.un 0,.un 0,.un 0,.un 0,.un 0],[]⟩ Sd=some (.normal,⟨[.AA [] (.sl u) xs,.un 0,.zs,.un 0,.un 0,.un 0,.un 0,.un 0],[]⟩))
    (hA:∀xs:(Ty.sl u).V,ev en 0 (R2.seq .ret) (Ex×St) ⟨[.AA [] (.sl u) xs,.un 0,.zs,.AA [] (.sl u) xs,.bool true,.un 0,.un 0,.un 0],[]⟩ Sd=some (.ret,⟨[.AA [] (.sl u) xs,.un 0,.zs,.AA [] (.sl u) xs,.bool true,.un 0,.un 0,.un 0],[]⟩))
    (hT:∀xs:(Ty.sl u).V,xs.length*bytes<=140737488355328->ev en 0 T (Ex×St) ⟨[.AA [] (.sl u) xs,.un 0,.zs,.AA [] (.sl u) xs,.bool false,.un 0,.un 0,.un 0],[]⟩ Sd=some (.ret,⟨[.AA [] (.sl u) xs,.un 0,.AH 0,.AA [] (.sl u) xs,.bool false,.zs,.AA [] (.sl u) xs,.AH 0],[.row e (if u.BS then .Av else .sh []) u xs]⟩)) :
    Am P f (bg e u bytes):=by
 refine Am.ja hf hn (by grind) Acu λargs E av E' h=>?_;simp only[bg]at h;split at h
 ·split at h
  ·rename_i xs hc;obtain⟨e1,q⟩:=BG hc;subst e1;subst q;split at h
   ·rename_i Ag6;obtain⟨rfl,rfl⟩:=h;exact⟨AQH _,λw g vs H hx=>uy he hf hb hnt df h3 h4 ht Im hu hR0 hA hT Ag6 w g vs H hx⟩
   ·grind
  ·grind
 ·grind
end
open Go.Sort Go.Shelf
def leI(x y:Int):Bool:=decide (x<=y)
def Rq(xs:ATB Int):ATB Int:=xs.mergeSort leI
def Ow(xs:ATB Int):ATB Int:=Lib.compact xs
def wJ:Callee:={lf:=[.UY],run:=λ_ avs E K=>match avs,E with
    |[.AH 0],[.row e .Av u xs]=>match I9 (.sl u) (.sl (.int .i64)) xs with
     |some xs=>if xs.length<4611686018427387904 then K .nil [.row e .Av (.int .i64) (Rq xs)]else none
     |none=>none
    |[.zs],[]=>K .nil []
    |_,_=>none}
def xc:Callee:={lf:=[.UY],run:=λ_ avs E K=>match avs,E with
    |[.AH 0],[.row e .Av u xs]=>match I9 (.sl u) (.sl (.int .i64)) xs with
     |some xs=>K (.AH 1) [.Ba,.row e .Av (.int .i64) (Ow xs)]
     |none=>none
    |_,_=>none}
theorem AiZ:gX wJ:=by
 intro R args E K;simp only[wJ]
 grind
theorem Ajk:gX xc:=by
 intro R args E K;simp only[xc];split
 ·grind
 ·rfl
section
variable {w:World} {g:G} {n:Nat}
theorem Xd{own:Nat->S4}{k:Nat}:∀{xs:ATB Int} {j:Nat} {ds:ATB Value},Be (λi=>Ik w own k (.int .i64) [i]) j xs ds↔ds=xs.map (Value.int .i64)
 |[],_,_=>Iff.rfl
 |x::xs,j,ds=>by
  constructor
  ·rintro⟨c,d,e,h1,h2⟩
   rw[e,h1,Xd.1 h2];rfl
  ·intro e;exact⟨[.int .i64 x],xs.map _,by grind,rfl,Xd.2 rfl⟩
theorem kJ{b el:Nat}{Bq:Array Value}{xs:ATB Int}(hc:w.heap[b]?=some (.cells Bq el (0,0)))(hd:Bq.toList.take (xs.length*1)=xs.map (Value.int .i64)):Holds (Value.int .i64) w b 0 xs.toArray:=by
 intro j hj;have hj:j<xs.length:=by grind
 constructor
 ·have h1:(Bq.toList.take (xs.length*1))[j]?=some (.int .i64 xs[j]):=by grind
  simp only[World.cell?,hc];simpa [hj]using h1
 ·simp[World.frozen?,hc]
theorem wq{b el:Nat}{Bq:Array Value}{q:Nat}{d:Array Int}(hc:w.heap[b]?=some (.cells Bq el (0,0))):(putRow (Value.int .i64) (Sort.ahead w q) b 0 d).heap[b]?=some (.cells (putCells (Value.int .i64) 0 d Bq) el (0,0)):=by
 simp[putRow,mapBlock,ARf,hc,onCells]
theorem pB{b c q:Nat}{d:Array Int}(h:c≠b):(putRow (Value.int .i64) (Sort.ahead w q) b 0 d).heap[c]?=w.heap[c]?:=by
 simp[putRow,mapBlock,ARf,h.symm]
theorem fJ(w:World)(b q:Nat)(d:Array Int):(putRow (Value.int .i64) (Sort.ahead w q) b 0 d).heap.size=w.heap.size:=by
 simp
theorem aK{Bq:Array Value}{d:Array Int}{m:Nat}(hm:m<=d.size)(hs:d.size<=Bq.size):(putCells (Value.int .i64) 0 d Bq).toList.take m=(d.toList.take m).map (Value.int .i64):=by
 apply AQ2;intro i;rw[AQT,AQp,AQT];split
 ·have h1:i<Bq.size:=by omega
  have h2:i<d.size:=by omega
  simp[putCells,h1,h2]
 ·rfl
theorem rU{E:ATB Blk}(H:Bi w g E){b k:Nat}{r:ATB Nat}(h:g.own b=.BL k r):b<w.heap.size:=by
 by_cases hb:b<w.heap.size
 ·grind
 ·rw[H.BZ b (by omega)]at h;cases h
end
section
variable {P:Program} {ρ:Shelf.Ren}
theorem Ai0(L:Proofs.SlLaysN.n53 P ρ){f:FuncId}{fn:Func}(e:ρ.f 53=f)(hf:P.funcs[f]?=some fn)(hn:(fn.name=="runtime.NumGoroutine")=false)(hb:fn.body.isNone=false):Am P f wJ:=by
 refine Am.ja hf hn hb AiZ λargs E av E' h=>?_;simp only[wJ]at h;split at h
 ·rename_i el u xs;split at h
  ·rename_i ys hc;obtain⟨e1,q⟩:=BG hc;cases e1;subst q;split at h
   ·rename_i Bp;obtain⟨rfl,rfl⟩:=h;refine⟨AP2 _,λw g vs H hx=>?_⟩
    match vs,hx with
    |[v],⟨hv,_⟩ =>
     obtain⟨_,hv⟩:=EZ hv;subst hv;obtain⟨RV,hl,QN,BU,hr⟩:=H.MG 0 _ rfl;rcases hr with ⟨ZP,Gb⟩|⟨b,Bq,ds,ha,ho,⟨ce,he,Dp⟩,h1,h2,h3,h4,h5⟩
     ·rw[Gb,hl,ZP,<-e];refine(Proofs.AnyG.slices_Sort_int_none L _ 0 w).mono λe w' ⟨e1,e2⟩=>?_;subst e1;subst e2;exact⟨_,g,rfl,by simpa [ZP,Rq]using H,rfl,BK.refl _ _ _⟩
     ·rw[hl,ha,<-e];have h5:ds=_:=Xd.1 h5;rw[h5]at h4;have MQ:Bq.size=(g.AY 0).cap*1:=h3;refine(Proofs.AnyG.slices_Sort_int L b 0 _ xs w (kJ Dp h4) (rU H ho) Bp).mono λe w' ⟨e1,n,os,e2⟩=>?_;subst e1;have oE:=rU H ho;have Xb:∀c,c≠b->c<w.heap.size->w'.heap[c]?=w.heap[c]?:=λc hc Bp=>by
       rw[e2];show((putRow _ _ _ _ _).heap++os)[c]?=_;rw[Array.getElem?_append_left (by rw[fJ];exact Bp),pB hc]
      have Y0:w'.heap[b]?=some (.cells (putCells (Value.int .i64) 0 (List.toArray (Rq xs)) Bq) ce (0,0)):=by
       rw[e2];show((putRow _ _ _ _ _).heap++os)[b]?=_;rw[Array.getElem?_append_left (by rw[fJ];exact oE)];exact wq Dp
      have Ot:w.heap.size<=w'.heap.size:=by
       grind
      refine⟨_,g,rfl,⟨λc hc=>H.BZ c (by omega),λk x hx=>?_⟩,rfl,?_⟩
      ·match k,hx with
       |0,hx =>
        injection hx with hx;subst hx;have hls:(Rq xs).length=List.length (α:=Int) xs:=List.length_mergeSort _;refine⟨λj hj=>by grind,by grind,QN,BU,.inr ⟨b,_,_,ha,ho,⟨ce,he,Y0⟩,?_,h2,?_,rfl,?_⟩⟩
        ·grind
        ·simpa [putCells]using h3
        ·refine Xd.2 ?_;rw[aK (by simp[Ty.size]) (by grind)];simp[Ty.size]
       |k+1,hx=>grind
      ·refine⟨by rw[e2];rfl,by rw[e2];rfl,by rw[e2];rfl,Ot,λc hc h=>⟨h,Xb c (λe=>by grind) hc⟩,λc h=>⟨h,?_⟩,λc k r h hk hm=>(hm (List.mem_range.2 hk)).elim,λk hk=>rfl⟩;by_cases S6:c<w.heap.size
       ·grind
       ·rw[H.BZ c (by omega)]at h;cases h
   ·grind
  ·grind
 ·obtain⟨rfl,rfl⟩:=h;refine⟨AP2 _,λw g vs H hx=>?_⟩
  match vs,hx with
  |[v],⟨hv,_⟩ =>
   obtain⟨cs,⟨ad,S6⟩,hval⟩:=B3 rfl rfl hv;subst S6;have hv:v=.slice ad 0 0:=by
    have:[Value.slice ad 0 0]=[v]:=hval
    grind
   subst hv;rw[<-e];refine(Proofs.AnyG.slices_Sort_int_none L ad 0 w).mono λe w' ⟨e1,e2⟩=>?_;subst e1;subst e2;exact⟨_,g,rfl,H,rfl,BK.refl _ _ _⟩
 ·grind
theorem Ajj(xs:ATB Int):(Ow xs).length<=xs.length:=by
 unfold Ow Lib.compact Lib.compactUpTo
 grind
theorem Ajl(L:Proofs.SlLaysN.n43 P ρ){f:FuncId}{fn:Func}(e:ρ.f 43=f)(hf:P.funcs[f]?=some fn)(hn:(fn.name=="runtime.NumGoroutine")=false)(hb:fn.body.isNone=false):Am P f xc:=by
 refine Am.ja hf hn hb Ajk λargs E av E' h=>?_;simp only[xc]at h;split at h
 ·rename_i el u xs;split at h
  ·rename_i ys hc;obtain⟨e1,q⟩:=BG hc;cases e1;subst q;obtain⟨rfl,rfl⟩:=h;refine⟨by simp,λw g vs H hx=>?_⟩
   match vs,hx with
   |[v],⟨hv,_⟩ =>
    obtain⟨_,hv⟩:=EZ hv;subst hv;obtain⟨RV,hl,QN,BU,hr⟩:=H.MG 0 _ rfl;rcases hr with ⟨ZP,Gb⟩|⟨b,Bq,ds,ha,ho,⟨ce,he,Dp⟩,h1,h2,h3,h4,h5⟩
    ·rw[Gb,hl,ZP,<-e];refine(Proofs.AnyG.slices_Compact_int_empty L _ 0 w).mono λe w' ⟨e1,e2⟩=>?_;subst e1;subst e2;refine⟨_,⟨g.own,λk=>if k=1 then⟨(g.AY 0).a,0,0,1⟩else g.AY k⟩,rfl,⟨H.BZ,λk x hx=>?_⟩,?_,?_⟩
     ·match k,hx with
      |0,hx=>injection hx with hx;subst hx;trivial
      |1,hx =>
       injection hx with hx;subst hx;exact⟨λj hj=>by grind,rfl,rfl,BU,.inl ⟨rfl,rfl⟩⟩
      |k+2,hx=>grind
     ·exact Bs (cs:=[.slice (g.AY 0).a 0 0]) rfl ⟨by simp,rfl⟩ rfl
     ·refine⟨rfl,rfl,rfl,AP2 _,λc hc h=>⟨h,rfl⟩,λc h=>⟨h,rfl⟩,λc k r h hk hm=>(hm (List.mem_range.2 hk)).elim,λk hk=>?_⟩
      grind
    ·rw[hl,ha,<-e];have h5:ds=_:=Xd.1 h5;rw[h5]at h4;have Al3:(g.AY 0).cap<=9223372036854775807:=h2;refine(Proofs.AnyG.slices_Compact_int L b 0 _ xs w (kJ Dp h4) (AQq h1 Al3) h1).mono λe w' ⟨e1,q,e2⟩=>?_;subst e1;have oE:=rU H ho;have Xb:∀c,c≠b->w'.heap[c]?=w.heap[c]?:=λc hc=>by rw[e2,pB hc]
     have Y0:=wq (q:=q) (d:=(Lib.compact (show ATB Int from xs)++List.replicate (List.length (α:=Int) xs-(Lib.compact (show ATB Int from xs)).length) 0).toArray) Dp;rw[<-e2]at Y0;have Ot:w'.heap.size=w.heap.size:=by rw[e2,fJ]
     have fp:(Ow xs).length<=List.length (α:=Int) xs:=Ajj xs;have MQ:(Lib.compact (show ATB Int from xs)++List.replicate (List.length (α:=Int) xs-(Lib.compact (show ATB Int from xs)).length) 0).length=List.length (α:=Int) xs:=by
      rw[AP0,AQt];exact Nat.add_sub_cancel' fp
     refine⟨_,⟨λc=>if c=b then .BL 1 []else g.own c,λk=>if k=1 then⟨(g.AY 0).a,(Ow xs).length,(g.AY 0).cap,1⟩else g.AY k⟩,rfl,⟨λc hc=>?_,λk x hx=>?_⟩,?_,?_⟩
     ·have:c≠b:=λe=>by omega
      simp only[this];exact H.BZ c (by omega)
     ·match k,hx with
      |0,hx=>injection hx with hx;subst hx;trivial
      |1,hx =>
       injection hx with hx;subst hx;refine⟨λj hj=>by grind,rfl,rfl,BU,.inr ⟨b,_,_,ha,by simp,⟨ce,he,Y0⟩,AQq fp h1,h2,?_,rfl,?_⟩⟩
       ·simpa [putCells]using h3
       ·refine Xd.2 ?_;have S6:Bq.size=(g.AY 0).cap*1:=h3;rw[aK (by simp[Ty.size,Ow]) (by grind)];simp[Ty.size,Ow]
      |k+2,hx=>grind
     ·exact Bs (cs:=[.slice (some ⟨b,0,none⟩) (Ow xs).length (g.AY 0).cap]) rfl ⟨by simp,by grind⟩ rfl
     ·refine⟨by rw[e2];rfl,by rw[e2];rfl,by rw[e2];rfl,Nat.le_of_eq Ot.symm,λc hc h=>?_,λc h=>?_,λc k r h hk hm=>(hm (List.mem_range.2 hk)).elim,λk hk=>?_⟩
      ·grind
      ·have Ke:c≠b:=λe=>by grind
       grind
      ·have hk:k<1:=hk;have:k≠1:=by omega
       simp[this]
  ·cases h
 ·grind
end
def V6(x:ATB Int):Bool:=!decide ((x.length:Int)<2)
def dn(xs:ATB (ATB Int)):ATB (ATB Int):=xs.filter V6
def AgA(c:Nat):Callee:={lf:=[.UY,.UY],run:=λ_ avs E K=>match avs,E with
    |[.AH 0,.fn c' .nil],[.row e .Av u xs]=>match I9 (.sl u) (.sl (.sl (.int .i64))) xs with
     |some xs=>bif c'==c then K (.AH 1) [.Ba,.row e .Av (.sl (.int .i64)) (dn xs)]else none
     |none=>none
    |_,_=>none}
theorem AlK(c:Nat):gX (AgA c):=by
 intro R args E K;simp only[AgA];split
 ·grind
 ·rfl
abbrev tF:Type:=Option Addr×Nat×Nat
def oB(h:tF):Value:=.slice h.1 h.2.1 h.2.2
section
variable {w:World} {own MJ:Nat->S4} {k:Nat}
def InH(w:World)(own:Nat->S4)(k i:Nat)(x:ATB Int)(h:tF):Prop:=h.2.1=x.length/\((x=[]/\h.2.2=0)\/∃b e Bq,h.1=some ⟨b,0,none⟩/\own b=.BL k [i]/\w.heap[b]?=some (.cells Bq e (0,0))/\x.length<=h.2.2/\h.2.2<=maxLen/\Bq.size=h.2.2*1/\Bq.toList.take (x.length*1)=x.map (Value.int .i64))
theorem AhI{i:Nat}{x:ATB Int}{cs:ATB Value}(h:Ik w own k (.sl (.int .i64)) [i] x cs):∃q,cs=[oB q]/\InH w own k i x q:=by
 obtain⟨ad,cap,rfl,h⟩:=h;refine⟨(ad,List.length (α:=Int) x,cap),rfl,rfl,?_⟩;rcases h with h |⟨b,e,Bq,ds,h1,h2,h3,h4,h5,h6,h7,h8⟩
 ·exact .inl h
 ·refine .inr ⟨b,e,Bq,h1,h2,h3,h4,h5,h6,?_⟩;have h9:Be (λi_1=>Ik w own k (.int .i64) (i_1::[i])) 0 x ds:=h8;rw[<-Abi.1 h9];exact h7
 where Abi {own:Nat->S4} {k:Nat} {p:ATB Nat}:∀{xs:ATB Int} {j:Nat} {ds:ATB Value},Be (λi=>Ik w own k (.int .i64) (i::p)) j xs ds↔ds=xs.map (Value.int .i64)
 |[],_,_=>Iff.rfl
 |x::xs,j,ds=>by
  constructor
  ·rintro⟨c,d,e,h1,h2⟩
   rw[e,h1,Abi.1 h2];rfl
  ·intro e;exact⟨[.int .i64 x],xs.map _,by grind,rfl,Abi.2 rfl⟩
theorem Av6{i:Nat}{x:ATB Int}{q:tF}(h:InH w own k i x q):Ik w own k (.sl (.int .i64)) [i] x [oB q]:=by
 obtain⟨h1,h⟩:=h;refine⟨q.1,q.2.2,?_,?_⟩
 ·show[Value.slice q.1 q.2.1 q.2.2]=_;rw[h1]
 ·rcases h with h |⟨b,e,Bq,a1,a2,a3,a4,a5,a6,a7⟩
  ·exact .inl h
  ·exact .inr ⟨b,e,Bq,_,a1,a2,a3,a4,a5,a6,a7,AhI.Abi.2 rfl⟩
def HL(w:World)(own:Nat->S4)(k:Nat):Nat->ATB (ATB Int)->ATB tF->Prop
 |_,[],hs=>hs=[]
 |j,x::xs,hs=>∃h r,hs=h::r/\InH w own k j x h/\HL w own k (j+1) xs r
theorem AnO:∀{xs:ATB (ATB Int)} {j:Nat} {ds:ATB Value},Be (λi=>Ik w own k (.sl (.int .i64)) [i]) j xs ds->∃hs,ds=hs.map oB/\HL w own k j xs hs
 |[],_,_,h=>⟨[],h,rfl⟩
 |x::xs,j,_,⟨c,d,e,h1,h2⟩=>by
  obtain⟨q,rfl,hq⟩:=AhI h1;obtain⟨hs,rfl,hr⟩:=AnO h2;exact⟨q::hs,e,q,hs,rfl,hq,hr⟩
theorem AnP:∀{xs:ATB (ATB Int)} {j:Nat} {hs:ATB tF},HL w own k j xs hs->Be (λi=>Ik w own k (.sl (.int .i64)) [i]) j xs (hs.map oB)
 |[],_,_,h=>by cases h;rfl
 |x::xs,j,_,⟨q,r,e,h1,h2⟩=>by
  subst e;exact⟨[oB q],r.map oB,rfl,Av6 h1,AnP h2⟩
theorem yV:∀{xs:ATB (ATB Int)} {j:Nat} {hs:ATB tF},HL w own k j xs hs->hs.length=xs.length
 |[],_,_,h=>by cases h;rfl
 |x::xs,j,_,⟨q,r,e,h1,h2⟩=>by
  subst e;rw[AQL,AQL,yV h2]
def V7(h:tF):Bool:=!decide ((h.2.1:Int)<2)
theorem fl{w':World}{k':Nat}:∀{xs:ATB (ATB Int)} {j r:Nat} {hs:ATB tF},(∀i x q,xs[i]?=some x->V6 x=true->InH w own k (j+i) x q->InH w' MJ k' (r+((xs.take i).filter V6).length) x q)->HL w own k j xs hs->HL w' MJ k' r (xs.filter V6) (hs.filter V7)
 |[],_,_,_,_,h=>by cases h;rfl
 |x::xs,j,r,_,hm,⟨q,hs,e,h1,h2⟩=>by
  subst e;have hk:V7 q=V6 x:=by unfold V7 V6;rw[h1.1]
  rw[ARG,ARG,hk];cases hx:V6 x with
  |true =>
   rw[AQe rfl,AQe rfl];refine⟨q,hs.filter V7,rfl,hm 0 x q rfl hx h1,fl (λi y p hy ky hp=>?_) h2⟩;have:=hm (i+1) y p hy ky (by rw[show j+(i+1)=j+1+i by omega];exact hp);rw[List.take_succ_cons,ARG,hx,AQe rfl,AQL]at this;rw[show r+1+((xs.take i).filter V6).length=r+(((xs.take i).filter V6).length+1) by omega];exact this
  |false =>
   rw[AQf (by simp),AQf (by simp)];refine fl (λi y p hy ky hp=>?_) h2;have:=hm (i+1) y p hy ky (by rw[show j+(i+1)=j+1+i by omega];exact hp);rw[List.take_succ_cons,ARG,hx,AQf (by simp)]at this;exact this
theorem Ahu{b el:Nat}{Bq:Array Value}{hs:ATB tF}(hc:w.heap[b]?=some (.cells Bq el (0,0)))(hd:Bq.toList.take hs.length=hs.map oB):Holds oB w b 0 hs.toArray:=by
 intro j hj;have hj:j<hs.length:=by grind
 constructor
 ·have h1:(Bq.toList.take hs.length)[j]?=some (oB hs[j]):=by grind
  simp only[World.cell?,hc];simpa [hj]using h1
 ·simp[World.frozen?,hc]
theorem Adw{b el:Nat}{Bq:Array Value}{q:Nat}{d:Array tF}(hc:w.heap[b]?=some (.cells Bq el (0,0))):(putRow oB (Sort.ahead w q) b 0 d).heap[b]?=some (.cells (putCells oB 0 d Bq) el (0,0)):=by
 simp[putRow,mapBlock,ARf,hc,onCells]
theorem zy{b c q:Nat}{d:Array tF}(h:c≠b):(putRow oB (Sort.ahead w q) b 0 d).heap[c]?=w.heap[c]?:=by
 simp[putRow,mapBlock,ARf,h.symm]
theorem Adx(w:World)(b q:Nat)(d:Array tF):(putRow oB (Sort.ahead w q) b 0 d).heap.size=w.heap.size:=by
 simp
theorem Ady{Bq:Array Value}{d:Array tF}{m:Nat}(hm:m<=d.size)(hs:d.size<=Bq.size):(putCells oB 0 d Bq).toList.take m=(d.toList.take m).map oB:=by
 apply AQ2;intro i;rw[AQT,AQp,AQT];split
 ·have h1:i<Bq.size:=by omega
  have h2:i<d.size:=by omega
  simp[putCells,h1,h2]
 ·rfl
end
section
variable {P:Program} {ρ:Shelf.Ren}
theorem AcD(L:Proofs.SlLaysH.n10 P ρ)(a:ATC Addr)(c:Nat)(fv:Value)(w:World):Calls P (ρ.f 10) #[.slice a 0 c,fv] w λe w'=>e=.returned (.slice a 0 c)/\w'=w:=by
 have mixed:=L.mixed;have t0:=L.t0;have a0:=L.a0;have z0:=L.z0;have v0:=L.v0;have t3:=L.t3;have a3:=L.a3;have z3:=L.z3;have v3:=L.v3;have t4:=L.t4;have a4:=L.a4;have z4:=L.z4;have v4:=L.v4;have t22:=L.t22;have a22:=L.a22;have z22:=L.z22;have v22:=L.v22;have a23:=L.a23;have z23:=L.z23;have t25:=L.t25;have a25:=L.a25;have z25:=L.z25;have v25:=L.v25;have e6:∀args w,(callFunc (ρ.f 6) args).run P w=.ok (.enter (ρ.f 6) args) w:=L.f6.enters rfl;have hIF:=Proofs.AnyE.slices_IndexFunc_empty (P:=P) (ρ:=ρ) {L with} a c fv w;obtain⟨_,_,FG⟩:=L.f10
 go_enter FG,Proofs.SlBodyH.n10_ntmps ρ
 go_wp2_with (go_at_fn (ρ.f 6);refine hIF.mono ?_;rintro e w' ⟨rfl,rfl⟩)
 go_ret
 exact⟨rfl,rfl⟩
def kg(xs:ATB (ATB Int)):S4->S4
 |.BL 0 [i]=>if V6 (xs.getD i [])=true then .BL 1 [((xs.take i).filter V6).length]else .no
 |.BL 0 _=>.no
 |t=>t
theorem AlL(L:Proofs.SlLaysH.n10 P ρ){c:Nat}(hg:∀(W:World) (x:tF),Proofs.FnGives P c #[] #[oB x] (.bool (decide ((x.2.1:Int)<2))) W)(eg:∀args w,(callFunc c args).run P w=.ok (.enter c args) w)(hz:∀w,(zeroValue (ρ.t 23)).run P w=.ok (oB (none,0,0)) w)
    {f:FuncId} {fn:Func} (e:ρ.f 10=f) (hf:P.funcs[f]?=some fn) (hn:(fn.name=="runtime.NumGoroutine")=false) (hb:fn.body.isNone=false):Am P f (AgA c):=by
 refine Am.ja hf hn hb (AlK c) λargs E av E' h=>?_;simp only[AgA]at h;split at h
 ·rename_i c' el u xs;split at h
  ·rename_i ys hc;obtain⟨e1,q⟩:=BG hc;cases e1;subst q;cases hcc:c'==c with
   |false=>rw[hcc]at h;cases h
   |true =>
   rw[hcc,AQc]at h;have:=eq_of_beq hcc;subst this;obtain⟨rfl,rfl⟩:=h;refine⟨by simp,λw g vs H hx=>?_⟩
   match vs,hx with
   |[v,v2],⟨hv,hv2,_⟩ =>
    obtain⟨_,hv⟩:=EZ hv;subst hv;obtain⟨cs,⟨lb,S6,oE⟩,hval⟩:=B3 rfl rfl hv2;have oE:lb=[]:=oE;subst oE;subst S6;have hv2:v2=.func (.func c') #[] #[]:=by
     have:[Value.func (.func c') #[] #[]]=[v2]:=hval
     grind
    subst hv2;obtain⟨RV,hl,QN,BU,hr⟩:=H.MG 0 _ rfl;rcases hr with ⟨ZP,Gb⟩|⟨b,Bq,ds,ha,ho,⟨ce,he,Dp⟩,h1,h2,h3,h4,h5⟩
    ·rw[Gb,hl,ZP,<-e];refine(AcD L _ 0 _ w).mono λe w' ⟨e1,e2⟩=>?_;subst e1;subst e2;refine⟨_,⟨g.own,λk=>if k=1 then⟨(g.AY 0).a,0,0,1⟩else g.AY k⟩,rfl,⟨H.BZ,λk x hx=>?_⟩,?_,?_⟩
     ·match k,hx with
      |0,hx=>injection hx with hx;subst hx;trivial
      |1,hx =>
       injection hx with hx;subst hx;exact⟨λj hj=>by grind,rfl,rfl,BU,.inl ⟨rfl,rfl⟩⟩
      |k+2,hx=>grind
     ·exact Bs (cs:=[.slice (g.AY 0).a 0 0]) rfl ⟨by simp,rfl⟩ rfl
     ·refine⟨rfl,rfl,rfl,AP2 _,λc hc h=>⟨h,rfl⟩,λc h=>⟨h,rfl⟩,λc k r h hk hm=>(hm (List.mem_range.2 hk)).elim,λk hk=>?_⟩
      grind
    ·rw[hl,ha,<-e];obtain⟨hs,h6,h7⟩:=AnO (show Be (λi=>Ik w g.own 0 (.sl (.int .i64)) [i]) 0 xs ds from h5);have fp:=yV h7;subst h6;have h4:Bq.toList.take (List.length (α:=ATB Int) xs*1)=hs.map oB:=h4;rw[Nat.mul_one,<-fp]at h4;have h1:List.length (α:=ATB Int) xs<=(g.AY 0).cap:=h1;have h3:Bq.size=(g.AY 0).cap*1:=h3;have Al3:(g.AY 0).cap<=9223372036854775807:=h2;have MQ:hs.toArray.size=List.length (α:=ATB Int) xs:=by simp[fp]
     have con:=Proofs.AnyE.slices_DeleteFunc L oB (λ_=>rfl) (λx=>decide ((x.2.1:Int)<2)) c' #[] eg (none,0,0) hz b 0 (g.AY 0).cap hs.toArray w (λW x _=>hg W x) (λ_ _ _ x _=>hg _ x) (Ahu Dp h4) (by omega) (by omega);rw[MQ]at con;refine con.mono λe w' ⟨e1,q,e2⟩=>?_;subst e1;have hfe:(hs.toArray.toList.filter λx=>!decide ((x.2.1:Int)<2))=hs.filter V7:=rfl;rw[hfe]at e2⊢;have oE:=rU H ho;have Xb:∀c,c≠b->w'.heap[c]?=w.heap[c]?:=λc hc=>by rw[e2,zy hc]
     have Y0:=Adw (q:=q) (d:=((hs.filter V7)++List.replicate (List.length (α:=ATB Int) xs-(hs.filter V7).length) ((none,0,0):tF)).toArray) Dp;rw[<-e2]at Y0;have Ot:w'.heap.size=w.heap.size:=by rw[e2,Adx]
     have hfl:(hs.filter V7).length<=hs.length:=ARn _ _;have h8:HL w' (λc=>if c=b then .BL 1 []else kg xs (g.own c)) 1 0 (xs.filter V6) (hs.filter V7):=fl (λi x p hx kx hp=>by
      obtain⟨a1,a2⟩:=hp;refine⟨a1,?_⟩;rcases a2 with a2 |⟨b',e',OX,a2,a3,a4,a5,a6,a7,a8⟩
      ·exact .inl a2
      ·have Ke:b'≠b:=λh=>by subst h;rw[ho]at a3;cases a3
       refine .inr ⟨b',e',OX,a2,?_,by rw[Xb b' Ke];exact a4,a5,a6,a7,a8⟩;show(if b'=b then S4.BL 1 []else kg xs (g.own b'))=_;rw[AQf Ke,a3,AQs];show(if V6 (xs.getD i [])=true then _ else _)=_;rw[show xs.getD i []=x by simp[List.getD,hx],AQe kx,AQs]) h7
     have hl8:=yV h8;have hl9:(dn xs).length=(hs.filter V7).length:=hl8.symm;refine⟨_,⟨λc=>if c=b then .BL 1 []else kg xs (g.own c),λk=>if k=1 then⟨(g.AY 0).a,(dn xs).length,(g.AY 0).cap,1⟩else g.AY k⟩,rfl,⟨λc hc=>?_,λk x hx=>?_⟩,?_,?_⟩
     ·have:c≠b:=λe=>by omega
      simp only[this,ARo];rw[H.BZ c (by omega)];rfl
     ·match k,hx with
      |0,hx=>injection hx with hx;subst hx;trivial
      |1,hx =>
       injection hx with hx;subst hx;refine⟨λj hj=>by grind,rfl,rfl,BU,.inr ⟨b,_,_,ha,by simp,⟨ce,he,Y0⟩,by show(dn xs).length<=(g.AY 0).cap;omega,h2,?_,rfl,?_⟩⟩
       ·show(putCells _ _ _ _).size=(g.AY 0).cap*1;simpa [putCells]using h3
       ·show Be (λi=>Ik w' _ 1 (.sl (.int .i64)) [i]) 0 (dn xs) _;have YC:((hs.filter V7)++List.replicate (List.length (α:=ATB Int) xs-(hs.filter V7).length) ((none,0,0):tF)).length=List.length (α:=ATB Int) xs:=by
         rw[AP0,AQt];omega
        rw[show(dn xs).length*(Ty.sl (.int .i64)).size=(hs.filter V7).length by rw[hl9];exact Nat.mul_one _,Ady (by rw[ARB,YC];omega) (by rw[ARB,YC];omega)];rw[List.take_left']
        ·exact AnP h8
        ·rfl
      |k+2,hx=>grind
     ·exact Bs (cs:=[.slice (some ⟨b,0,none⟩) (hs.filter V7).length (g.AY 0).cap]) rfl ⟨by simp,by simp[hl9,ha]⟩ rfl
     ·refine⟨by rw[e2];rfl,by rw[e2];rfl,by rw[e2];rfl,Nat.le_of_eq Ot.symm,λc hc h=>?_,λc h=>?_,λc k r h hk hm=>(hm (List.mem_range.2 hk)).elim,λk hk=>?_⟩
      ·have Ke:c≠b:=λe=>by subst e;rw[ho]at h;cases h
       refine⟨?_,Xb c Ke⟩;show(if c=b then _ else kg xs (g.own c))=_;rw[AQf Ke,h];rfl
      ·have Ke:c≠b:=λe=>by subst e;rw[ho]at h;cases h
       refine⟨?_,Xb c Ke⟩;show(if c=b then _ else kg xs (g.own c))=_;rw[AQf Ke,h];rfl
      ·have hk:k<1:=hk;have:k≠1:=by omega
       simp[this]
  ·cases h
 ·grind
end
section
variable {A B C D:Type}
theorem bC(k:A->ATC B)(c:Bool)(x y:ATC A):(bif c then x else y).bind k=bif c then x.bind k else y.bind k:=Acm k c x y
theorem bI(k:A->ATC B)(c:Prop)[Decidable c](x y:ATC A):(if c then x else y).bind k=if c then x.bind k else y.bind k:=Afj k c x y
theorem bN(k:A->ATC B)(c:Prop)[Decidable c](x:ATC A):(if c then none else x).bind k=if c then none else x.bind k:=Aco k c x
theorem bE(k:C->ATC D)(g:A->ATC C)(h:B->ATC C)(y:A⊕B):(Sum.elim g h y).bind k=Sum.elim (λa=>(g a).bind k) (λb=>(h b).bind k) y:=Acn k g h y
theorem bA(x:ATC A)(f:A->ATC B)(g:B->ATC C):(x.bind f).bind g=x.bind λy=>(f y).bind g:=AQd x f g
theorem bS(a:A)(f:A->ATC B):(some a).bind f=f a:=rfl
theorem bO(f:A->ATC B):(none:ATC A).bind f=none:=rfl
theorem mC(f:A->B)(c:Bool)(x y:ATC A):(bif c then x else y).map f=bif c then x.map f else y.map f:=AhX f c x y
theorem mI(f:A->B)(c:Prop)[Decidable c](x y:ATC A):(if c then x else y).map f=if c then x.map f else y.map f:=Amw f c x y
theorem mN(f:A->B)(c:Prop)[Decidable c](x:ATC A):(if c then none else x).map f=if c then none else x.map f:=AhZ f c x
theorem mB(f:B->C)(x:ATC A)(k:A->ATC B):(x.bind k).map f=x.bind λy=>(k y).map f:=AhW f x k
theorem mE(f:C->D)(g:A->ATC C)(h:B->ATC C)(y:A⊕B):(Sum.elim g h y).map f=Sum.elim (λa=>(g a).map f) (λb=>(h b).map f) y:=AhY f g h y
theorem mS(f:A->B)(a:A):(some a).map f=some (f a):=rfl
theorem mO(f:A->B):(none:ATC A).map f=none:=rfl
def cc(x y:ATC Unit):ATC Unit:=x.bind λ_=>y
class Sh (Y:Type) where
 T:Type->Type
 sp:{Z:Type}->(Y->Z)->T Z
 ij:∀{Z:Type} {f g:Y->Z},sp f=sp g->f=g
instance (priority:=low) shB:Sh A:=⟨λZ=>A->Z,λf=>f,λh=>h⟩
instance shS [Sh A] [Sh B]:Sh (A⊕B):=⟨λZ=>Sh.T A Z×Sh.T B Z,λf=>(Sh.sp λa=>f (.inl a),Sh.sp λb=>f (.inr b)),λ{Z f g} h=>by
 have h1:=Sh.ij (congrArg Prod.fst h);have h2:=Sh.ij (congrArg Prod.snd h)
 funext y
 cases y with
 |inl a=>exact congrFun h1 a
 |inr b=>exact congrFun h2 b⟩
theorem k3{a a':A}{b b':B}{c c':C}(h:(a,b,c)=(a',b',c')):a=a'/\b=b'/\c=c':=by grind
end
abbrev dI(x:Int):AV:=.AA [] (.int .i64) x
abbrev dB(b:Bool):AV:=.AA [] .bool b
abbrev dD(t:Ty)(x:t.V):AV:=.AA [] t x
def sT(n:Nat)(l:ATB (Nat×AV))(bs:ATB Blk):St:=⟨mkS n 0 l,bs⟩
abbrev xN(n:Nat)(l:List (Nat×AV))(bs:List Blk):Ex×St:=(.normal,sT n l bs)
abbrev xR(n:Nat)(l:List (Nat×AV))(bs:List Blk):Ex×St:=(.ret,sT n l bs)
abbrev xE(k n:Nat)(l:List (Nat×AV))(bs:List Blk):Ex×St:=(.exit k,sT n l bs)
instance:Coe (List Nat) SH:=⟨λl=>{Bc:=l}⟩
def GV.hd(en:GV)(k:Nat):SH:=(Pb en.fi.A4 k).getD {Bc:=[]}
def GV.ot(en:GV)(k:Nat):SH:=(Pb en.fi.BD k).getD {Bc:=[]}
def GV.jn(en:GV)(k:Nat):SH:=(Pb en.fi.BR k).getD {Bc:=[]}
def GV.dr(en:GV)(k:Nat):SH:=(Pb en.fi.ao k).getD {Bc:=[]}
def ptG:Nat->Nat->ATB Nat->ATB Nat
 |0,_,a=>a
 |f+1,n,a=>if n<=1 then a else ptG f (n/2) (n%2::a)
def pt(n:Nat):ATB Nat:=ptG 60 n []
section
variable {X Y R:Type}
def cd(f:Func)(n:Nat):Code:=sub (code f) (pt n)
def sb(c:Code)(n:Nat):Code:=sub c (pt n)
noncomputable def Kk(en:GV)(m k:Nat):=AGI m (en.hd k) (en.ot k)
noncomputable def Ud(en:GV)(m k:Nat):=AGp m (en.jn k)
noncomputable def lpS(en:GV)(m k:Nat)(fc:Code)(p:ATB Nat):St->ATC (St⊕(Ex×St)):=pK en m (en.hd k) (en.ot k) (sub fc (p++[0]))
noncomputable def Za(en:GV)(m k:Nat)(fc:Code)(p:ATB Nat):St->ATC (Ex×St):=AGq en m (en.jn k) (sub fc p)
noncomputable def yI(en:GV)(m k:Nat)(fc:Code)(p:ATB Nat):St->ATC St:=AmF en m (en.dr k) (Awl (sub fc p))
noncomputable def kQ(en:GV)(m:Nat)(R:Type)(fc:Code)(p:ATB Nat)(K:Ex->St->ATC R)(q:Ex×St):ATC R:=Adb en m R fc p K q.1 q.2
noncomputable def lpC(en:GV)(m k:Nat)(fc:Code)(p:ATB Nat)(R:Type)(K:Ex->St->ATC R)(s:St):ATC R:=(fix (lpS en m k fc p) s).bind (kQ en m R fc p K)
noncomputable def jnC(en:GV)(m k:Nat)(fc:Code)(p:ATB Nat)(R:Type)(K:Ex->St->ATC R)(s:St):ATC R:=(Za en m k fc p s).bind (kQ en m R fc p K)
noncomputable def drC(en:GV)(m k:Nat)(fc:Code)(p:ATB Nat)(R:Type)(K:Ex->St->ATC R)(s:St):ATC R:=(yI en m k fc p s).bind λq=>kQ en m R fc p K (.normal,q)
def A3(en:GV)(m k:Nat)(fc:Code)(n:Nat)(s:X->St)(r:X->ATC (X⊕Y))(o:Y->Ex×St):Prop:=∀x,lpS en m k fc (pt n) (s x)=(r x).map (Sum.map s o)
def AP(en:GV)(m k:Nat)(fc:Code)(n:Nat)(s:St)(x:ATC Y)(o:Y->Ex×St):Prop:=Za en m k fc (pt n) s=x.map o
def Sj(en:GV)(m k:Nat)(fc:Code)(n:Nat)(s:St)(x:ATC Y)(o:Y->St):Prop:=yI en m k fc (pt n) s=x.map o
theorem AG{en:GV}{m k:Nat}{fc:Code}{n:Nat}{s:X->St}{r:X->ATC (X⊕Y)}{o:Y->Ex×St}(h:A3 en m k fc n s r o){K:Ex->St->ATC R}{x:X}{F:Y->ATC R}[Sh Y](hF:Sh.sp F=Sh.sp λy=>kQ en m R fc (pt n) K (o y)) :
    (fix r x).bind F=lpC en m k fc (pt n) R K (s x):=by
 unfold lpC;rw[AlR s o _ r h x,jG];exact congrArg _ (Sh.ij hF)
theorem A8{en:GV}{m k:Nat}{fc:Code}{n:Nat}{s:St}{x:ATC Y}{o:Y->Ex×St}(h:AP en m k fc n s x o){K:Ex->St->ATC R}{F:Y->ATC R}[Sh Y](hF:Sh.sp F=Sh.sp λy=>kQ en m R fc (pt n) K (o y)) :
    x.bind F=jnC en m k fc (pt n) R K s:=by
 unfold jnC;rw[h,jG];exact congrArg _ (Sh.ij hF)
theorem W1{en:GV}{m k:Nat}{fc:Code}{n:Nat}{s:St}{x:ATC Y}{o:Y->St}(h:Sj en m k fc n s x o){K:Ex->St->ATC R}{F:Y->ATC R}[Sh Y](hF:Sh.sp F=Sh.sp λy=>kQ en m R fc (pt n) K (.normal,o y)) :
    x.bind F=drC en m k fc (pt n) R K s:=by
 unfold drC;rw[h,jG];exact congrArg _ (Sh.ij hF)
def R3(_:St)(x:ATC R):ATC R:=x
theorem bM(s:St)(x:ATC X)(k:X->ATC Y):(R3 s x).bind k=R3 s (x.bind k):=rfl
theorem mM(s:St)(x:ATC X)(k:X->Y):(R3 s x).map k=R3 s (x.map k):=rfl
theorem GN{en:GV}{m k:Nat}{fc:Code}{p:ATB Nat}{s:St}{e:Ex×St}(h:Za en m k fc p s=some e){K:Ex->St->ATC R}{T:ATC R}(hT:T=kQ en m R fc p K e):R3 s T=jnC en m k fc p R K s:=by
 unfold jnC;rw[h];exact hT
end
noncomputable def Ac7(ms:ATB PM)(en:GV)(fn:Func):Callee:={lf:=ms,run:=λR args E K=>TP en fn R args E K}
theorem Aml{ms:ATB PM}{en:GV}{fn:Func}(he:Z7 en):gX (Ac7 ms en fn):=by
 intro R args E K;show TP en fn R args E K=(TP en fn _ args E _).bind _;unfold TP;split
 ·rfl
 ·split
  ·have WO:∀s ,(match ae E.length en.fi.WO s with
       |none=>none
       |some σ=>match iA en.D7 σ fn.results.toList with
        |some l=>match re E.length en.fi.Sp l σ.Aj with
         |some (l,bs)=>match cF en.fi.jc l bs with
          |some (l',Gp)=>match kW E.length Gp (wy l')with
           |some (v,bs)=>K v bs
           |none=>none
          |none=>none
         |none=>none
        |none=>none)=(match ae E.length en.fi.WO s with
       |none=>none
       |some σ=>match iA en.D7 σ fn.results.toList with
        |some l=>match re E.length en.fi.Sp l σ.Aj with
         |some (l,bs)=>match cF en.fi.jc l bs with
          |some (l',Gp)=>match kW E.length Gp (wy l')with
           |some (v,bs)=>some (v,bs)
           |none=>none
          |none=>none
         |none=>none
        |none=>none).bind λp=>K p.1 p.2:=λs=>by
     cases ae _ _ s with
     |none=>rfl
     |some s =>
      grind
   refine zZ (XE he _) λe s=>?_;cases e with
   |exit n=>rfl
   |normal=>exact WO s
   |ret=>exact WO s
  ·rfl
theorem iW{P:Program}{f:FuncId}{fn:Func}{ms:ATB PM}{en:GV}(he:Jy P en)(q:(P.funcs[f]?,fn.name=="runtime.NumGoroutine",fn.body.isNone)=(some fn,false,false):=by kernel_rfl):Am P f (Ac7 ms en fn) :=
 Am.of he (k3 q).1 (k3 q).2.1 (k3 q).2.2 (Aml he.aI) λ_ _ _ _ h=>h
inductive Pt where
 |k (a:AV)|AA (ks:List Nat) (t:Ty)|Fw (ks:List Nat) (t:Ty)|ptr (k:Nat) (p:List Nat) (o:Nat)|pr (a b:Pt)|cons (a b:Pt)|fn (f:Nat) (c:Pt)
def AV.isK:AV->AV->Bool
 |.zs,.zs=>true
 |.M8,.M8=>true
 |.nil,.nil=>true
 |.un n,.un m=>n==m
 |.AH n,.AH m=>n==m
 |.mp n,.mp m=>n==m
 |.ptr k i p o,.ptr k' i' p' o'=>k==k'&&i==i'&&p==p'&&o==o'
 |.AA [] .unit _,.AA [] .unit _=>true
 |_,_=>false
theorem AV.Av7{a b:AV}(h:a.isK b=true):b=a:=by
 unfold AV.isK at h
 grind
@[reducible] def Pt.T:Pt->Type
 |.k _=>Unit
 |.AA _ t=>t.V
 |.Fw _ t=>t.V
 |.ptr _ _ _=>Int
 |.pr a b=>a.T×b.T
 |.cons a b=>a.T×b.T
 |.fn _ c=>c.T
def Pt.fill:(p:Pt)->p.T->AV
 |.k a,_=>a
 |.AA ks t,x=>.AA ks t x
 |.Fw ks t,x=>.Fw ks t x
 |.ptr j p o,i=>.ptr j i p o
 |.pr a b,x=>.pr (a.fill x.1) (b.fill x.2)
 |.cons a b,x=>.cons (a.fill x.1) (b.fill x.2)
 |.fn f c,x=>.fn f (c.fill x)
def Pt.mt:(p:Pt)->AV->ATC p.T
 |.k a,b=>bif a.isK b then some ()else none
 |.AA ks t,a=>match a with |.AA UD t' x=>if UD=ks then I9 t' t x else none |_=>none
 |.Fw ks t,a=>match a with |.Fw UD t' x=>if UD=ks then I9 t' t x else none |_=>none
 |.ptr j p o,a=>match a with |.ptr j' i p' o'=>if j'=j/\p'=p/\o'=o then some i else none |_=>none
 |.pr a b,c=>match c with |.pr x y=>(match a.mt x,b.mt y with |some u,some v=>some (u,v)|_,_=>none)|_=>none
 |.cons a b,c=>match c with |.cons x y=>(match a.mt x,b.mt y with |some u,some v=>some (u,v)|_,_=>none)|_=>none
 |.fn f c,a=>match a with |.fn f' x=>if f'=f then c.mt x else none |_=>none
theorem Pt.UH:∀{p:Pt} {a:AV} {x:p.T},p.mt a=some x->a=p.fill x
 |.k a,b,x,h=>by
  unfold Pt.mt at h;cases e:a.isK b with
  |false=>grind
  |true=>exact AV.Av7 e
 |.AA ks t,a,x,h=>by
  unfold Pt.mt at h;cases a with
  |AA UD t' y =>
   simp only at h;split at h
   ·rename_i e;subst e;obtain⟨e,q⟩:=BG h;subst e;subst q;rfl
   ·grind
  |_=>grind
 |.Fw ks t,a,x,h=>by
  unfold Pt.mt at h;cases a with
  |Fw UD t' y =>
   simp only at h;split at h
   ·rename_i e;subst e;obtain⟨e,q⟩:=BG h;subst e;subst q;rfl
   ·grind
  |_=>grind
 |.ptr j p o,a,x,h=>by
  unfold Pt.mt at h;cases a with
  |ptr j' i p' o' =>
   simp only at h;split at h
   ·rename_i e;obtain⟨rfl,rfl,rfl⟩:=e;injection h with h;subst h;rfl
   ·grind
  |_=>grind
 |.pr a b,c,x,h=>by
  unfold Pt.mt at h;cases c with
  |pr y z =>
   simp only at h;split at h
   ·rename_i u v hu hv;injection h with h;subst h;rw[Pt.UH hu,Pt.UH hv];rfl
   ·grind
  |_=>grind
 |.cons a b,c,x,h=>by
  unfold Pt.mt at h;cases c with
  |cons y z =>
   simp only at h;split at h
   ·rename_i u v hu hv;injection h with h;subst h;rw[Pt.UH hu,Pt.UH hv];rfl
   ·grind
  |_=>grind
 |.fn f c,a,x,h=>by
  unfold Pt.mt at h;cases a with
  |fn f' y =>
   simp only at h;split at h
   ·rename_i e;subst e;rw[Pt.UH h];rfl
   ·grind
  |_=>grind
@[reducible] def Aip:List Pt->Type
 |[]=>Unit
 |p::r=>p.T×Aip r
def Awj:(l:ATB Pt)->Aip l->ATB AV
 |[],_=>[]
 |p::r,x=>p.fill x.1::Awj r x.2
def AmD:(l:ATB Pt)->ATB AV->ATC (Aip l)
 |[],l=>match l with |[]=>some ()|_=>none
 |p::r,l=>match l with |a::mz=>(match p.mt a,AmD r mz with |some u,some v=>some (u,v)|_,_=>none)|_=>none
theorem pw:∀{l:ATB Pt} {a:ATB AV} {x:Aip l},AmD l a=some x->a=Awj l x
 |[],a,x,h=>by
  cases a with
  |nil=>rfl
  |cons _ _=>cases h
 |p::r,a,x,h=>by
  unfold AmD at h;cases a with
  |nil=>grind
  |cons a mz =>
   simp only at h;split at h
   ·rename_i u v hu hv;injection h with h;subst h;rw[Pt.UH hu,pw hv];rfl
   ·grind
inductive xy where
 |box (p:Pt)|row (e:Nat) (m:RM) (t:Ty)|map (m:RM) (kt vt:Ty)|Ba
def RM.eqb:RM->RM->Bool
 |.Av,.Av=>true
 |.sh a,.sh b=>a==b
 |_,_=>false
theorem RM.AgI{a b:RM}(h:a.eqb b=true):b=a:=by
 cases a<;>cases b<;>simp[RM.eqb]at h
 ·rfl
 ·grind
@[reducible] def xy.T:xy->Type
 |.box p=>p.T
 |.row _ _ t=>List t.V
 |.map _ kt vt=>List (kt.V×vt.V)
 |.Ba=>Unit
def xy.fill:(p:xy)->p.T->Blk
 |.box p,x=>.box (p.fill x)
 |.row e m t,x=>.row e m t x
 |.map m kt vt,x=>.map m kt vt x none
 |.Ba,_=>.Ba
def xy.mt:(p:xy)->Blk->ATC p.T
 |.box p,b=>match b with |.box a=>p.mt a |_=>none
 |.row e m t,b=>match b with |.row e' m' t' xs=>if e'=e then bif m.eqb m' then I9 (.sl t') (.sl t) xs else none else none |_=>none
 |.map m kt vt,b=>match b with |.map m' kt' vt' es none=>bif m.eqb m' then I9 (.sl (.AE kt' vt')) (.sl (.AE kt vt)) es else none |_=>none
 |.Ba,b=>match b with |.Ba=>some ()|_=>none
theorem xy.UH:∀{p:xy} {a:Blk} {x:p.T},p.mt a=some x->a=p.fill x
 |.box p,a,x,h=>by
  cases a with
  |box y=>rw[Pt.UH h];rfl
  |_=>cases h
 |.row e m t,a,x,h=>by
  unfold xy.mt at h;cases a with
  |row e' m' t' y =>
   simp only at h;split at h
   ·rename_i e0;subst e0;cases hm:m.eqb m' with
    |false=>grind
    |true =>
     rw[hm]at h;have:=RM.AgI hm;subst this;obtain⟨e1,q⟩:=BG h;cases Ty.sl.inj e1;subst q;rfl
   ·grind
  |_=>grind
 |.map m kt vt,a,x,h=>by
  unfold xy.mt at h;cases a with
  |map m' kt' vt' es st =>
   cases st with
   |none =>
    simp only at h;cases hm:m.eqb m' with
    |false=>grind
    |true =>
     rw[hm]at h;have:=RM.AgI hm;subst this;obtain⟨e1,q⟩:=BG h;obtain⟨e2,e3⟩:=Ty.AE.inj (Ty.sl.inj e1);subst e2;subst e3;subst q;rfl
   |some z=>grind
  |_=>grind
 |.Ba,a,x,h=>by
  cases a with
  |Ba=>rfl
  |_=>cases h
@[reducible] def ub:List xy->Type
 |[]=>Unit
 |p::r=>p.T×ub r
def Afm:(l:ATB xy)->ub l->ATB Blk
 |[],_=>[]
 |p::r,x=>p.fill x.1::Afm r x.2
def Aat:(l:ATB xy)->ATB Blk->ATC (ub l)
 |[],l=>match l with |[]=>some ()|_=>none
 |p::r,l=>match l with |a::mz=>(match p.mt a,Aat r mz with |some u,some v=>some (u,v)|_,_=>none)|_=>none
theorem jH:∀{l:ATB xy} {a:ATB Blk} {x:ub l},Aat l a=some x->a=Afm l x
 |[],a,x,h=>by
  cases a with
  |nil=>rfl
  |cons _ _=>cases h
 |p::r,a,x,h=>by
  unfold Aat at h;cases a with
  |nil=>grind
  |cons a mz =>
   simp only at h;split at h
   ·rename_i u v hu hv;injection h with h;subst h;rw[xy.UH hu,jH hv];rfl
   ·grind
structure Br where
 pa:List Pt
 pb:List xy
 U:Type
 F:Aip pa×ub pb->Option U
 out:U->AV×List Blk
def cA:ATB Br->(R:Type)->ATB AV->ATB Blk->(AV->ATB Blk->ATC R)->ATC R
 |[],_,_,_,_=>none
 |b::r,R,avs,E,K=>match AmD b.pa avs,Aat b.pb E with
  |some x,some y=>(b.F (x,y)).bind λu=>K (b.out u).1 (b.out u).2
  |_,_=>cA r R avs E K
def Cc(ms:ATB PM)(bs:ATB Br):Callee:={lf:=ms,run:=cA bs}
theorem eM:∀(bs:ATB Br) (R:Type) (args:ATB AV) (E:ATB Blk) (K:AV->ATB Blk->ATC R),cA bs R args E K=(cA bs (AV×ATB Blk) args E λv b=>some (v,b)).bind λp=>K p.1 p.2
 |[],_,_,_,_=>rfl
 |b::r,R,args,E,K=>by
  unfold cA;split
  ·grind
  ·exact eM r R args E K
def AHC(P:Program)(fn:Func)(b:Br):Prop:=∃en,Jy P en/\∀p (R:Type) (K:AV->ATB Blk->ATC R),TP en fn R (Awj b.pa p.1) (Afm b.pb p.2) K=(b.F p).bind λu=>K (b.out u).1 (b.out u).2
def Aek(P:Program)(fn:Func):ATB Br->Prop
 |[]=>True
 |b::r=>AHC P fn b/\Aek P fn r
theorem Afn{P:Program}{fn:Func}:∀{bs:ATB Br},Aek P fn bs->∀args E av E',cA bs (AV×ATB Blk) args E (λv b=>some (v,b))=some (av,E')->∃en,Jy P en/\TP en fn (AV×ATB Blk) args E (λv b=>some (v,b))=some (av,E')
 |[],_,_,_,_,_,h=>by cases h
 |b::r,⟨⟨en,he,hb⟩,hr⟩,args,E,av,E',h=>by
  unfold cA at h;split at h
  ·rename_i x y hx hy;refine⟨en,he,?_⟩;rw[pw hx,jH hy];exact(hb (x,y) _ _).trans h
  ·exact Afn hr args E av E' h
theorem As{P:Program}{f:FuncId}{fn:Func}{ms:ATB PM}{bs:ATB Br}(h:Aek P fn bs)(q:(P.funcs[f]?,fn.name=="runtime.NumGoroutine",fn.body.isNone)=(some fn,false,false):=by kernel_rfl):Am P f (Cc ms bs) :=
 Am.of2 (k3 q).1 (k3 q).2.1 (k3 q).2.2 (eM bs) (Afn h)
def Aej:ATB Br->Prop
 |[]=>True
 |b::r=>(∀p,b.F p=none)/\Aej r
theorem Anx:∀{bs:ATB Br},Aej bs->∀(R:Type) args E K,cA bs R args E K=none
 |[],_,_,_,_,_=>rfl
 |b::r,h,R,args,E,K=>by
  unfold cA;split
  ·rw[h.1];rfl
  ·exact Anx h.2 R args E K
theorem Aku{P:Program}{f:FuncId}{ms:ATB PM}{bs:ATB Br}(h:Aej bs):Am P f (Cc ms bs) where
 aI:=eM bs
 snd args E av E' hr:=by
  rw[show(Cc ms bs).run _ args E _=none from Anx h _ _ _ _]at hr;cases hr
noncomputable abbrev Ja(s:St):Option Unit:=mH s s
theorem Kg{p:Prop}[Decidable p](h:¬p:=by omega):decide p=false:=APZ h
theorem MN{p:Prop}[Decidable p](h:p:=by omega):decide p=true:=AP1 h
theorem P9{c:Prop}[Decidable c](h:¬c:=by omega){A:Sort _}{t e:A}:ite c t e=e:=AQf h
theorem Wv{c:Prop}[Decidable c](h:c:=by omega){A:Sort _}{t e:A}:ite c t e=t:=AQe h
abbrev ASb:=And.intro @mC (And.intro @mI (And.intro @mN (And.intro @mB (And.intro @mE @mM))))
abbrev ASc:=And.intro @bC (And.intro @bI (And.intro @bN (And.intro @bE (And.intro @bA (And.intro @bS (And.intro @bO @bM))))))
abbrev wI(x:Int):Int:=IntKind.i64.wrap x
end Go.Va
namespace Go.Proofs.X
open Go Go.Va Go.Proofs.Tryz
set_option maxRecDepth 100000
abbrev Tlaws_Decl:Ty:=(.AE .str (.AE (.int .i64) .unit))
abbrev jw:Ty:=(.AE (.int .i64) (.AE (.sl (.int .u64)) .unit))
abbrev YJ:Ty:=(.AE (.int .i64) (.AE (.int .i64) (.AE (.int .i64) (.AE (.int .i64) (.AE jw (.AE (.sl (.int .i64)) .unit))))))
abbrev aU:Ty:=(.AE (.sl YJ) .unit)
abbrev Tlaws_Literal:Ty:=(.AE (.int .i64) (.AE .bool (.AE aU (.AE aU .unit))))
abbrev Ab:Ty:=(.AE .str (.AE (.int .i64) .unit))
abbrev Ah:Ty:=(.AE (.int .i64) (.AE (.sl (.int .u64)) .unit))
abbrev Ag:Ty:=(.AE (.int .i64) (.AE (.int .i64) (.AE (.int .i64) (.AE (.int .i64) (.AE Ah (.AE (.sl (.int .i64)) .unit))))))
abbrev Aw:Ty:=(.AE (.sl Ag) .unit)
abbrev Ae:Ty:=(.AE (.int .i64) (.AE .bool (.AE Aw (.AE Aw .unit))))
abbrev Af:Ty:=(.AE (.int .i64) (.AE (.int .i64) (.AE (.int .i64) (.AE Ah .unit))))
abbrev Ak:Ty:=(.AE (.sl (.sl (.int .i64))) .unit)
abbrev An:Ty:=(.AE (.sl (.int .i64)) (.AE .bool (.AE Ah .unit)))
abbrev Bz:Ty:=(.AE Ak (.AE (.sl An) (.AE (.sl (.int .i64)) .unit)))
abbrev Ap:Ty:=(.AE (.int .i64) (.AE (.int .i64) (.AE (.int .u64) .unit)))
abbrev AZ:Ty:=(.AE (.int .i64) (.AE Ah .unit))
abbrev Ao:Ty:=(.AE AZ (.AE AZ (.AE (.int .i64) .unit)))
abbrev Ad:Ty:=(.AE (.int .i64) (.AE (.int .i64) (.AE (.int .i64) .unit)))
abbrev tM:Ty:=(.AE (.sl Ab) (.AE (.sl Ae) (.AE (.sl (.AE (.sl Af) (.AE (.sl Af) .unit))) (.AE Ak (.AE (.sl Ad) (.AE (.R4 1) .unit))))))
abbrev XB:Ty:=(.AE (.int .i64) (.AE (.int .i64) (.AE (.int .i64) .unit)))
abbrev tO:Ty:=(.AE (.sl Ah) (.AE (.sl XB) (.AE (.sl (.int .i64)) .unit)))
abbrev Aa:Ty:=(.AE (.int .i64) (.AE (.int .i64) .unit))
abbrev Aq:Ty:=(.AE (.sl Aa) (.AE (.sl .bool) .unit))
abbrev qp:Ty:=(.AE (.sl (.int .i64)) (.AE (.sl (.int .i64)) (.AE (.R4 1) (.AE (.sl XB) .unit))))
abbrev qo:Ty:=(.AE (.sl Ab) (.AE (.sl (.sl .bool)) (.AE (.R4 1) (.AE (.sl (.AE (.int .i64) (.AE (.int .i64) .unit))) .unit))))
abbrev jv:Ty:=(.AE (.int .i64) (.AE (.int .i64) (.AE (.int .i64) .unit)))
abbrev Lr:Ty:=(.AE Af (.AE (.int .i64) .unit))
abbrev Az:=Blk.row 2 .Av (.int .i64)
abbrev Bl:=Blk.row 78 .Av (.sl (.int .i64))
abbrev Ca:=Blk.row 95 .Av (.sl .bool)
abbrev C1:=Blk.row 204 .Av Ad
abbrev Dm:=Blk.row 4 .Av .bool
abbrev C8:=Blk.row 222 .Av (.AE (.sl Af) (.AE (.sl Af) .unit))
abbrev Fv:=Blk.row 227 .Av Aa
abbrev EY:=Blk.row 209 .Av Aa
abbrev C9:=Blk.row 88 .Av (.int .u64)
abbrev Ey:=Blk.row 152 .Av Ad
abbrev F6:=Blk.row 123 (.sh []) Ah
abbrev Cb:=Blk.row 142 (.sh []) Af
abbrev Cj:=Blk.row 142 .Av Af
abbrev GL:=Blk.row 150 .Av An
abbrev Wr:=Blk.row 176 .Av Aq
abbrev HX:=Blk.row 87 .Av (.sl Ap)
abbrev ME:=Blk.row 61 .Av Ae
abbrev ei:=Blk.row 129 (.sh []) Ao
abbrev RU:=Blk.row 71 .Av (.sl Af)
abbrev Tl:=Blk.row 61 (.sh []) Ae
abbrev UQ:=Blk.row 0 .Av Ag
abbrev Ws:=Blk.row 66 .Av Ab
abbrev X7:=Blk.row 132 .Av Ag
abbrev X8:=Blk.row 254 .Av Ad
abbrev eu:=Blk.row 5 .Av (.int .u8)
abbrev jk:=Blk.row 174 (.sh []) (.sl Aa)
abbrev jl:=Blk.row 71 (.sh []) (.sl Af)
abbrev sZ:=Blk.row 129 .Av Ao
abbrev s7:=Blk.row 0 .Av (.int .u64)
abbrev s8:=Blk.row 0 .Av (.int .i64)
abbrev HE:=Blk.map .Av Aa (.sl Aa)
abbrev Kc:=Blk.map (.sh []) (.int .i64) Ah
abbrev I8:=Blk.map .Av Aa (.int .i64)
abbrev b9:=Blk.map .Av (.int .i64) (.sl Ad)
abbrev Aaa:=Blk.map .Av (.int .i64) Ad
abbrev Aab:=Blk.map .Av (.int .i64) (.int .i64)
abbrev Ar:=dD (.sl Ab)
abbrev Bw:=dD (.sl Ae)
abbrev BV:=dD Ak
abbrev Ga:=dD (.sl Ad)
abbrev Dv:=dD (.sl Af)
abbrev DT:=dD (.sl (.int .i64))
abbrev Dw:=dD (.sl (.sl (.int .i64)))
abbrev WN:=dD Ag
abbrev Qr:=dD Aw
abbrev OT:=dD Af
abbrev EA:=dD Ad
abbrev GK:=dD Ah
abbrev HW:=dD .str
abbrev X5:=dD (.sl (.sl .bool))
abbrev RR:=dD (.sl (.sl Aa))
abbrev dY:=dD (.sl Aa)
abbrev Oo:=dD (.sl (.sl Af))
abbrev UO:=dD (.sl (.int .u64))
abbrev dZ:=dD Ae
abbrev Z4:=dD (.sl .bool)
abbrev Z5:=dD (.sl (.int .u8))
abbrev Z6:=dD (.sl Ao)
abbrev d9:=dD Ab
abbrev eh:=dD Bz
abbrev ji:=dD (.sl Ag)
abbrev jj:=dD Aq
abbrev Au:=AV.ptr 0 0 [] 0
abbrev A9:=AV.ptr 1 0 [] 0
abbrev Lb:=AV.ptr 2 0 [] 0
abbrev Qs:=AV.ptr 5 0 [] 0
abbrev X6:=AV.ptr 6 0 [] 0
abbrev Us:=AV.ptr 4 0 [] 0
abbrev cb:=AV.ptr 3 0 [] 0
abbrev sY:=AV.ptr 8 0 [] 0
abbrev VX:AV:=.pr .zs .u
abbrev AjV:AV:=.pr (.AH 1) (.pr (.pr (.AH 2) .u) (.pr (.AH 3) (.pr (.mp 4) .u)))
abbrev s9:AV:=.pr (.AH 4) (.pr (.pr (.AH 1) .u) (.pr (.AH 5) (.pr (.mp 6) .u)))
abbrev AjW:AV:=.pr (.AH 2) (.pr (.mp 3) (.pr (.AH 4) .u))
abbrev Am1:AV:=.pr (.AH 5) (.pr (.AH 6) .u)
abbrev AGN:AV:=.pr (.mp 3) (.pr (.AH 7) .u)
abbrev xw:AV:=.pr VX (.pr .zs VX)
abbrev Qu:AV:=.AH 2
abbrev xx:AV:=.pr (.AH 3) .u
abbrev ta:AV:=.pr (dI 0) VX
abbrev Ab4:AV:=.pr (.AH 5) (.pr (.AH 6) (.pr (.AH 7) .u))
abbrev Gl:AV:=.AH 1
abbrev Aon:AV:=.pr Gl (.pr (.mp 2) (.pr (.AH 6) .u))
abbrev Aoo:AV:=.pr Qu (.pr (.mp 3) (.pr (.AH 5) .u))
abbrev Zt:AV:=.pr Qu .u
abbrev AGK:AV:=.pr (.AH 8) (.pr (.AH 9) (.pr (.mp 10) (.pr (.AH 11) .u)))
abbrev Si:AV:=.pr (.AH 0) .u
abbrev AGL:AV:=.pr (.AH 5) (.pr (.AH 6) AGN)
abbrev Ox:AV:=.AH 4
abbrev aR:AV:=.pr (dI 0) (.pr ta .u)
abbrev Aop:AV:=.pr (.AH 9) (.pr (.AH 10) (.pr (.mp 11) (.pr (.AH 12) .u)))
abbrev Aoq:AV:=.pr Zt (.pr .zs (.pr (.AH 8) .u))
abbrev pY:AV:=.pr Qu xx
abbrev xt:AV:=.pr .zs VX
abbrev Aor:AV:=.pr Gl (.pr (.mp 2) (.pr (.AH 5) .u))
abbrev AGM:AV:=.pr (.AH 3) (.pr Ox .u)
abbrev eA:AV:=.pr Qu AGN
abbrev Kd:AV:=.AH 0
abbrev xu:AV:=.pr Ox Am1
abbrev eB:AV:=.pr Gl AjW
abbrev Aos:AV:=.pr (.AH 7) .u
abbrev AjX:AV:=.pr Gl pY
abbrev Ab5:AV:=.pr Gl (.pr (.mp 2) xx)
abbrev Aju CG:=([(1,dI CG),(4,dI (-1))]:List (Nat×AV))
abbrev mb:=([(3,.AH 0)]:List (Nat×AV))
abbrev AmZ CG C3:=([(0,DT CG),(3,.AH 0),(4,dI C3)]:List (Nat×AV))
abbrev Am0 CG C3:=([(0,Bw CG),(3,.AH 0),(4,dI C3)]:List (Nat×AV))
abbrev VO CG:=([.box (WN CG)]:List Blk)
abbrev xn:=([(6,.AH 0)]:List (Nat×AV))
abbrev sX CG C3 ED:=([.box (Qr CG),Az C3,Dm ED]:List Blk)
abbrev fW:=([(4,dB false)]:List (Nat×AV))
abbrev nM:=([(7,.AH 0)]:List (Nat×AV))
abbrev AwB CG:=([(2,RR CG),(4,Au),(7,.zs),(11,A9)]:List (Nat×AV))
abbrev xg CG C3:=([.box ta,.box (.pr (dI CG) Zt),C9 C3]:List Blk)
abbrev pT CG C3 ED:=([(0,dY CG),(4,.AH 0),(5,dI C3),(6,dI ED)]:List (Nat×AV))
abbrev AbR CG C3:=([(0,dY CG),(4,.AH 0),(6,dI C3),(7,.AH 1)]:List (Nat×AV))
abbrev AbS CG:=([.box VX,.box Zt,Bl CG]:List Blk)
abbrev AbT CG C3:=([(0,Ar CG),(3,Au),(5,.AH 1),(6,dI C3)]:List (Nat×AV))
abbrev Ajv CG C3 ED:=([(0,Dv CG),(3,.AH 0),(4,dI C3),(5,dI ED)]:List (Nat×AV))
abbrev AbU CG C3:=([.box xt,.box pY,EY CG,Dm C3]:List Blk)
abbrev T2 CG C3:=([Ca CG,Wr C3]:List Blk)
abbrev AbV CG C3 ED JA:=([(2,.AH 0),(9,.AH 1),(13,dB CG),(14,dI C3),(15,dI ED),(16,dI JA)]:List (Nat×AV))
abbrev Ajw CG C3 ED JA Sq ff:=([(2,.AH 0),(9,.AH 1),(13,dB CG),(14,dI C3),(15,dI ED),(16,dI JA),(17,dI Sq),(18,dI ff)]:List (Nat×AV))
abbrev xh CG C3 ED JA Sq:=([(2,.AH 0),(9,.AH 1),(13,dB CG),(14,dI C3),(15,dI ED),(16,dI JA),(17,dI Sq)]:List (Nat×AV))
abbrev Ajx CG C3:=([(2,.AH 0),(7,.AH 1),(9,.AH 2),(10,dI CG),(11,dI C3)]:List (Nat×AV))
abbrev Ajy CG C3 ED:=([(0,X5 CG),(2,Au),(3,A9),(4,dI C3),(5,.AH 2),(6,dI ED)]:List (Nat×AV))
abbrev AbW CG C3:=([.box VX,.box xx,Az CG,Bl C3]:List Blk)
abbrev pU CG C3 ED JA Sq:=([(8,.zs),(15,Au),(16,A9),(17,X5 CG),(18,Dw C3),(19,Ga ED),(20,.AH 2),(21,dI JA),(22,dI Sq)]:List (Nat×AV))
abbrev me CG C3 ED JA Sq:=([.box AGM,.box Am1,ei CG,EY C3,Dm ED,EY JA,Dm Sq]:List Blk)
abbrev Aoi CG C3 ED JA Sq ff uZ h7_ h8_ h9_ Avm:=([.box Am1,.box (.pr (.AH 7) (.pr (.AH 8) .u)),ei CG,.box (.pr (dI C3) (.pr (.pr (dI ED) (.pr (.AH 9) .u)) .u)),.box (.pr (dI JA) (.pr (.pr (dI Sq) (.pr (.AH 10) .u)) .u)),EY ff,Dm uZ,EY h7_,Dm h8_,C9 h9_,C9 Avm]:List Blk)
abbrev xi CG C3:=([.box (dZ CG),.box (BV C3)]:List Blk)
abbrev pV CG C3 ED JA:=([(0,Ga CG),(1,.AH 0),(2,dI C3),(3,dI ED),(10,dI JA)]:List (Nat×AV))
abbrev xj CG C3 ED:=([(0,DT CG),(3,.AH 0),(4,dI C3),(5,dI ED)]:List (Nat×AV))
abbrev Ajz CG C3 ED:=([(0,.AH 0),(6,dI CG),(7,dI C3),(8,dI ED)]:List (Nat×AV))
abbrev xk CG C3 ED:=([.box AjX,F6 CG,C1 C3,Az ED]:List Blk)
abbrev AjA CG C3 ED:=([(6,Au),(10,A9),(11,dI CG),(12,.ptr 2 C3 [] 0),(19,dI ED)]:List (Nat×AV))
abbrev AjB CG C3 ED JA Sq:=([.box xw,.box (.pr (BV CG) (.pr (.AH 3) VX)),.box xu,GL C3,F6 ED,C1 JA,Az Sq]:List Blk)
abbrev xl CG C3 ED JA Sq ff:=([.box xw,.box (.pr (BV CG) (.pr Ox VX)),.box Ab4,.box (.pr (.AH 8) (.pr (dB false) (.pr ta .u))),GL C3,F6 ED,C1 JA,Az Sq,Az ff]:List Blk)
abbrev AjC CG C3 ED JA:=([(6,Au),(10,A9),(11,dI CG),(12,.ptr 2 C3 [] 0),(19,dI ED),(20,cb),(21,dI JA)]:List (Nat×AV))
abbrev AbX CG C3 ED JA Sq:=([(0,Ar CG),(1,Bw C3),(6,Au),(8,A9),(10,Lb),(11,dI ED),(12,.ptr 3 JA [] 0),(13,dI Sq)]:List (Nat×AV))
abbrev xm CG C3 ED JA Sq:=([.box xw,.box (BV CG),.box (.pr (BV C3) xt),.box xu,F6 ED,C1 JA,Az Sq]:List Blk)
abbrev Aoj CG C3 ED JA Sq:=([(0,Ar CG),(1,Bw C3),(6,Au),(7,dB true),(8,A9),(10,Lb),(11,dI ED),(12,.ptr 3 JA [] 0),(13,dI Sq)]:List (Nat×AV))
abbrev Aok CG C3 ED JA Sq ff uZ:=([.box (.pr (BV CG) (.pr .zs (.pr Ox .u))),.box (BV C3),.box (.pr (BV ED) (.pr .zs (.pr Ox .u))),.box Ab4,Az JA,F6 Sq,C1 ff,Az uZ]:List Blk)
abbrev AjD CG C3 ED:=([(0,Ar CG),(6,.AH 0),(8,Bw C3),(9,.AH 1),(10,dI ED)]:List (Nat×AV))
abbrev pW CG C3 ED JA:=([(0,Ar CG),(6,.AH 0),(8,Bw C3),(9,.AH 1),(10,dI ED),(11,.AH 2),(12,dI JA)]:List (Nat×AV))
abbrev AbY CG C3:=([(0,.Fw [] Ag CG),(7,dI C3)]:List (Nat×AV))
abbrev AjE CG C3 ED JA:=([(1,dI CG),(3,A9),(10,UO C3),(11,dI ED),(12,dI JA)]:List (Nat×AV))
abbrev AjF CG C3 ED:=([(0,.AH 1),(8,Dv CG),(9,dI C3),(10,dI ED)]:List (Nat×AV))
abbrev AjG CG C3 ED JA:=([(0,.AH 1),(6,Lb),(7,dI CG),(8,Dv C3),(9,dI ED),(10,dI JA)]:List (Nat×AV))
abbrev AjH CG C3 ED JA:=([(1,dI CG),(2,dI C3),(3,Au),(6,A9),(7,Lb),(15,dI ED),(16,dI JA)]:List (Nat×AV))
abbrev AjI CG C3 ED:=([.box (GK CG),.box ta,.box (.pr (dI C3) xx),C9 ED]:List Blk)
abbrev AjJ CG C3 ED:=([(3,.AH 0),(7,Bw CG),(8,dI C3),(9,dI ED)]:List (Nat×AV))
abbrev AjK CG C3 ED JA:=([(3,.AH 0),(5,A9),(6,dI CG),(8,Dv C3),(9,dI ED),(10,dI JA)]:List (Nat×AV))
abbrev xo CG C3 ED JA:=([(0,.ptr 0 CG [] 0),(8,Ga C3),(9,Ga ED),(10,dI JA)]:List (Nat×AV))
abbrev mf CG C3 ED JA Sq:=([.box (.pr (Ar CG) Aoo),C8 C3,Ca ED,HE JA none,.Ba,Fv Sq]:List Blk)
abbrev AbZ CG C3 ED JA:=([(0,.ptr 0 CG [] 0),(8,Ga C3),(9,Ga ED),(10,dI JA),(13,Qs),(14,X6)]:List (Nat×AV))
abbrev Ab0 CG C3 ED JA Sq ff uZ h7_ h8_:=([.box (.pr (Ar CG) eA),C8 C3,Ca ED,HE JA none,.Ba,.box (.pr (dI Sq) (.pr (dI ff) .u)),.box (.pr (dI uZ) (.pr (dI h7_) .u)),Fv h8_]:List Blk)
abbrev xp CG C3 ED JA:=([(0,.ptr 0 CG [] 0),(8,Ga C3),(9,Ga ED),(10,dI JA),(11,Qs),(12,X6)]:List (Nat×AV))
abbrev AjL CG C3 ED JA Sq:=([(0,.ptr 0 CG [] 0),(1,.AA [1] (.sl Af) C3),(2,.AA [1] (.sl Af) ED),(18,.AH 5),(19,dI JA),(20,dI Sq)]:List (Nat×AV))
abbrev AjM CG C3 ED JA Sq ff:=([.box (.pr (Ar CG) (.pr Qu (.pr (.mp 3) (.pr (.AH 6) .u)))),C8 C3,Ca ED,HE JA none,.Ba,.row 142 (.sh [1]) Af Sq,Fv ff]:List Blk)
abbrev mg CG C3 ED JA Sq:=([.box (.pr (Ar CG) Aon),Ca C3,HE ED none,.Ba,.box VX,.box Aos,Fv JA,Bl Sq]:List Blk)
abbrev Ab1 CG C3 ED JA Sq ff:=([(2,Us),(7,Qs),(8,dI CG),(68,.AH 1),(69,dI C3),(70,dI ED),(75,.AA [1] (.sl .bool) JA),(76,dI Sq),(77,dI ff)]:List (Nat×AV))
abbrev Ab2 CG C3 ED JA:=([.box (.pr (Ar CG) Aor),Ca C3,HE ED none,.Ba,.box VX,Fv JA]:List Blk)
abbrev AjN CG C3 ED JA:=([(3,Au),(5,.AH 1),(6,dI CG),(8,Lb),(12,Dv C3),(13,dI ED),(14,dI JA)]:List (Nat×AV))
abbrev gV CG C3 ED:=([.box (BV CG),Az C3,.box (OT ED)]:List Blk)
abbrev AjO CG C3 ED JA Sq ff uZ:=([(3,Au),(5,.AH 1),(6,dI CG),(8,Lb),(12,Dv C3),(13,dI ED),(14,dI JA),(30,DT Sq),(31,dI ff),(32,dI uZ)]:List (Nat×AV))
abbrev xq CG C3 ED:=([b9 CG none,Aaa C3 none,.tail 2 (.int .i64) ED]:List Blk)
abbrev AjP CG C3 ED JA Sq:=([(1,dI CG),(2,dI C3),(7,.mp 0),(10,.mp 1),(11,.AH 2),(71,.AA [0] (.sl Ad) ED),(72,dI JA),(73,dI Sq)]:List (Nat×AV))
abbrev AjQ CG C3 ED JA Sq:=([(1,dI CG),(2,dI C3),(7,.mp 0),(9,A9),(20,Ga ED),(21,dI JA),(22,dI Sq)]:List (Nat×AV))
abbrev gW CG C3 ED JA:=([.box AGL,.Ba,.Ba,Kc CG none,.Ba,Az C3,Az ED,C1 JA]:List Blk)
abbrev AjR CG C3 ED JA Sq:=([(0,.ptr 0 CG [] 0),(10,dI C3),(11,dI ED),(12,dI JA),(13,dI Sq)]:List (Nat×AV))
abbrev AjS CG C3 ED JA Sq ff:=([.box eB,Az CG,Az C3,Kc ED none,C1 JA,GL Sq,Aab ff none]:List Blk)
abbrev pX CG C3 ED JA Sq:=([(0,.ptr 0 CG [] 0),(2,Qs),(3,X6),(4,.ptr 7 C3 [] 0),(25,Bw ED),(26,dI JA),(27,dI Sq)]:List (Nat×AV))
abbrev xr CG C3 ED JA Sq ff uZ h7_ h8_ h9_:=([.box (.pr (Ar CG) (.pr (Bw C3) AjV)),C8 ED,Bl JA,Ey Sq,I8 ff none,.box xw,.box (.pr Zt xt),.box AGK,Az uZ,Az h7_,Kc h8_ none,C1 h9_]:List Blk)
abbrev AjT CG C3 ED JA Sq ff uZ h7_ h8_ h9_ Avm:=([.box (.pr (Ar CG) (.pr (Bw C3) AjV)),C8 ED,Bl JA,Ey Sq,I8 ff none,.box Aoq,.box Aoq,.box Aop,Az uZ,Az h7_,Az h8_,Kc h9_ none,C1 Avm]:List Blk)
abbrev AjU CG C3 ED JA Sq ff uZ h7_ h8_:=([.box (.pr (Ar CG) (.pr (Bw C3) s9)),Bl ED,GL JA,Az Sq,C8 ff,Ey uZ,I8 h7_ none,HX h8_]:List Blk)
abbrev Aol CG C3 ED JA Sq ff uZ:=([(0,.ptr 0 CG [] 0),(5,.AH 7),(8,dI C3),(9,sY),(39,.AH 2),(40,dI ED),(41,dI JA),(47,.AA [2] (.sl (.int .i64)) Sq),(48,dI ff),(49,dI uZ)]:List (Nat×AV))
abbrev Aom CG C3 ED JA Sq ff uZ h7_ h8_ h9_:=([(0,.ptr 0 CG [] 0),(5,.AH 7),(8,dI C3),(9,sY),(12,.ptr 9 0 [] 0),(13,dI ED),(14,.ptr 10 0 [] 0),(39,.AH 2),(40,dI JA),(41,dI Sq),(47,.AA [2] (.sl (.int .i64)) ff),(48,dI uZ),(49,dI h7_),(61,dI h8_),(62,dI h9_)]:List (Nat×AV))
abbrev Ab3 CG C3:=([(9,Au),(10,.AH 1),(28,dI CG),(29,dI C3)]:List (Nat×AV))
abbrev Sf CG C3:=([(0,.AH 0),(1,dI CG),(5,dI C3)]:List (Nat×AV))
abbrev ATl:Ty:=.int .i64
abbrev ATm:Ty:=.int .u64
abbrev ATn:Ty:=.int .u8
abbrev ATo:Ty:=.sl ATl
abbrev ATp:Ty:=.sl Aa
abbrev ATq:Ty:=.sl Af
abbrev ATr:Ty:=.sl Ab
abbrev ATs:Ty:=.sl .bool
abbrev ATt:Ty:=.sl Ae
abbrev ATu:Ty:=.sl Ad
abbrev ATv:Ty:=.sl ATm
abbrev ATw:Ty:=.sl Ap
abbrev ATx:Ty:=.sl Ag
abbrev ATy:Ty:=.sl ATo
abbrev ATz:Ty:=.sl ATq
abbrev ATA:Ty:=.sl ATs
abbrev ASd:=AZ.V
abbrev ASe:=Aa.V
abbrev ASf:=Ab.V
abbrev ASg:=Ad.V
abbrev ASh:=Ae.V
abbrev ASi:=Af.V
abbrev ASj:=Ag.V
abbrev ASk:=Ah.V
abbrev ASl:=Ak.V
abbrev ASm:=An.V
abbrev ASn:=Ao.V
abbrev ASo:=Ap.V
abbrev ASp:=Aq.V
abbrev ASq:=Aw.V
abbrev ASr:=Bz.V
abbrev ASs:=List Int
abbrev ASt:=List Bool
abbrev ASu:=List Nat
abbrev ASv:=List ASe
abbrev ASw:=List ASf
abbrev ASx:=List ASg
abbrev ASy:=List ASh
abbrev ASz:=List ASi
abbrev ASA:=List ASj
abbrev ASB:=List ASk
abbrev ASC:=List ASm
abbrev ASD:=List ASn
abbrev ASE:=List ASo
abbrev ASF:=List ASp
abbrev ASG:=List ASs
abbrev ASH:=List ASt
abbrev ASI:=List ASv
abbrev ASJ:=List ASz
abbrev ASK:=List ASE
abbrev ASL:=Int×ASk
abbrev ASM:=ASe×ASv
abbrev ASN:=ASz×Unit
abbrev ASO:=ASe×Int
abbrev ASP:=Int×ASs
abbrev ASQ:=Int×ASx
abbrev ASR:=Int×Int
abbrev ASS:=ASw×ASH×ASv
abbrev AST:=ASt×ASs
abbrev ASU:=Int×ASg
abbrev ASV:=Bool×ASz
abbrev ASW:=Bool×ASH
abbrev ASX:=Int×ASG
abbrev ASY:=Int×Int×Bool×ASs
abbrev ASZ:=Nat×Nat
abbrev AS0:=ASs×ASB×ASx×ASs
abbrev AS1:=Int×ASz
abbrev AS2:=Int×ASy
abbrev AS3:=Int×Int×Int×Int×ASs
abbrev AS4:=ASB×ASx×ASs
abbrev AS5:=Int×ASB×ASx×ASs
abbrev AS6:=Int×ASw×ASH×ASv
abbrev AS7:=ASz×ASz×Unit
abbrev AS8:=Int×ASv
abbrev AS9:=List ASM
abbrev ATa:=ASz×ASN
abbrev ATb:=List ASL
abbrev ATc:=List ASO
abbrev ATd:=List ASQ
abbrev ATe:=List ASU
abbrev ATf:=List ASR
abbrev ATg:=List ATa
abbrev ATh:=ASw×ASH×AS9×ASv
abbrev ATi:=ASs×ASs×ATb×ASx×ASC
abbrev ATj:=ASw×ASy×ATg×ASG×ASx×ATc×ASs×ASs×ASs×ATb×ASx
abbrev ATk:=ASw×ASy×ATg×ASG×ASx×ATc×ASs×ASs×ATb×ASx
def D7:Tab:=[
 (2,⟨ATl,[],0,8,0,0,false⟩),
 (3,⟨ATl,[],0,8,0,0,false⟩),
 (4,⟨.bool,[],0,1,0,0,false⟩),
 (5,⟨ATn,[],0,1,0,0,false⟩),
 (9,⟨.str,[],0,16,0,0,false⟩),
 (22,⟨.sl Tlaws_Decl,[],54,24,0,0,false⟩),
 (23,⟨.sl Tlaws_Literal,[],57,24,0,0,false⟩),
 (24,⟨.sl YJ,[],109,24,0,0,false⟩),
 (26,⟨aU,[0],0,24,0,0,false⟩),
 (32,⟨ATr,[],66,24,0,0,false⟩),
 (34,⟨ATt,[],61,24,0,0,false⟩),
 (36,⟨ATx,[],132,24,0,0,false⟩),
 (38,⟨Aw,[0],0,24,0,0,false⟩),
 (44,⟨ATy,[],78,24,0,0,false⟩),
 (54,⟨Tlaws_Decl,[0,1],0,24,0,0,false⟩),
 (57,⟨Tlaws_Literal,[0,1,2,3],0,64,0,0,false⟩),
 (61,⟨Ae,[0,1,2,3],0,64,0,0,false⟩),
 (66,⟨Ab,[0,1],0,24,0,0,false⟩),
 (71,⟨ATq,[],142,24,0,0,false⟩),
 (76,⟨Ak,[0],0,24,0,0,false⟩),
 (77,⟨.sl An,[],150,24,0,0,false⟩),
 (78,⟨ATo,[],2,24,0,0,false⟩),
 (80,⟨Bz,[0,1,2],0,72,0,0,false⟩),
 (84,⟨.sl ATw,[],87,24,0,0,false⟩),
 (87,⟨ATw,[],90,24,0,0,false⟩),
 (88,⟨ATm,[],0,8,0,0,false⟩),
 (90,⟨Ap,[0,1,2],0,24,0,0,true⟩),
 (95,⟨ATs,[],4,24,0,0,false⟩),
 (105,⟨ATv,[],88,24,0,0,false⟩),
 (107,⟨jw,[0,1],0,32,0,0,false⟩),
 (109,⟨YJ,[0,1,2,3,4,6],0,88,0,0,false⟩),
 (111,⟨ATz,[],71,24,0,0,false⟩),
 (120,⟨.sl Ao,[],129,24,0,0,false⟩),
 (123,⟨Ah,[0,1],0,32,0,0,false⟩),
 (127,⟨AZ,[0,1],0,40,0,0,false⟩),
 (129,⟨Ao,[0,3,6],0,88,0,0,false⟩),
 (132,⟨Ag,[0,1,2,3,4,6],0,88,0,0,false⟩),
 (142,⟨Af,[0,1,2,3],0,56,0,0,false⟩),
 (143,⟨.sl (.AE ATq (.AE ATq .unit)),[],222,24,0,0,false⟩),
 (144,⟨ATu,[],152,24,0,0,false⟩),
 (146,⟨.R4 1,[],2,8,0,227,false⟩),
 (148,⟨tM,[0,1,2,3,4,5],0,128,0,0,false⟩),
 (150,⟨An,[0,1,2],0,64,0,0,false⟩),
 (152,⟨Ad,[0,1,2],0,24,0,0,false⟩),
 (155,⟨.sl ATn,[],5,24,0,0,false⟩),
 (163,⟨.sl Ah,[],123,24,0,0,false⟩),
 (164,⟨.sl XB,[],204,24,0,0,false⟩),
 (166,⟨tO,[0,1,2],0,72,0,0,false⟩),
 (170,⟨ATA,[],95,24,0,0,false⟩),
 (174,⟨ATp,[],209,24,0,0,false⟩),
 (176,⟨Aq,[0,1],0,48,0,0,false⟩),
 (199,⟨.sl ATp,[],174,24,0,0,false⟩),
 (204,⟨XB,[0,1,2],0,24,0,0,false⟩),
 (207,⟨.sl Aq,[],176,24,0,0,false⟩),
 (209,⟨Aa,[0,1],0,16,0,0,false⟩),
 (222,⟨.AE ATq (.AE ATq .unit),[],71,48,2,0,false⟩),
 (227,⟨.AE ATl (.AE ATl .unit),[],2,16,2,0,false⟩),
 (228,⟨.R4 1,[],123,8,0,2,false⟩),
 (230,⟨qp,[0,1,2,3],0,80,0,0,false⟩),
 (234,⟨.R4 1,[],3,8,0,2,false⟩),
 (241,⟨ATm,[],0,8,0,0,false⟩),
 (245,⟨.R4 1,[],246,8,0,227,false⟩),
 (246,⟨.sl (.AE ATl (.AE ATl .unit)),[],227,24,0,0,false⟩),
 (248,⟨qo,[0,1,2,3],0,80,0,0,false⟩),
 (251,⟨.sl jv,[],254,24,0,0,false⟩),
 (254,⟨jv,[0,1,2],0,24,0,0,false⟩),
 (259,⟨Lr,[0,5],0,64,0,0,false⟩),
 (262,⟨.R4 1,[],164,8,0,2,false⟩),
 (263,⟨.R4 1,[],204,8,0,2,false⟩)]
theorem AGJ:gP prog D7=true:=by kernel_rfl
theorem mixed:prog.follows .mixedOrders=true:=by kernel_rfl
abbrev eN(l:List (Nat×Va.Callee))(fi:FI):GV:=⟨D7,Pb l,fi⟩
theorem pk{l fi}(h:Aet prog l):Jy prog ⟨D7,Pb l,fi⟩:=⟨⟨AGJ,AgS h⟩,mixed⟩
noncomputable section
abbrev E0:=eN [] {}
def Ki(a:ASf)(b:Int):Int:=(bif decide ((wI (b-(a.1.size:Int)))<0)then(-1)else(wI (b-(a.1.size:Int))))
theorem U0 R a b K:TP E0 f23 R [d9 a,dI b] [] K=K (dI (Ki a b)) []:=by
 refine .trans (b:=
 bif decide ((wI (b-(a.1.size:Int)))<0)then
 K (dI (-1)) []
 else
 K (dI (wI (b-(a.1.size:Int)))) []) (by kernel_rfl) ?_
 unfold Ki;cases (decide ((wI (b-(a.1.size:Int)))<0));rfl;rfl
def c23:=Cc [.d Ab,.d ATl] [⟨[.AA [] Ab,.AA [] ATl],[],Int,λp=>some (Ki p.1.1 p.1.2.1),λr=>(dI r,[])⟩]
theorem AkP:Am prog 23 c23:=As ⟨⟨E0,pk trivial,λ_ _ _=>U0 ..⟩,trivial⟩
abbrev E1:=eN [(23,c23)] {A4:=[(5,[0,1,5])],BD:=[(5,[1,4])]}
def AIc a (z_:Int×Int):=sT 27 [(0,Ar a),(1,dI z_.1),(5,dI z_.2)] []
def AH9(a:ASw):=Sum.elim (λ(b:Int)=>xR 27 (Aju b) []) (λ(c:Int)=>xE 0 27 [(1,dI c)] [])
def Wc(a:ASw)(d e:Int):ATC (ASR⊕(Int⊕Int)):=
 bif decide (e<(a.length:Int))then
 if 0<=e/\e<a.length then
 bif decide ((Ki (a.getD e.toNat Ab.zero) d)<0)then
 some (.inr (.inl (Ki (a.getD e.toNat Ab.zero) d)))
 else
 some (.inl (Ki (a.getD e.toNat Ab.zero) d,wI (e+1)))
 else none
 else
 some (.inr (.inr d))
def L8 a (z_:Int×Int):=Wc a z_.1 z_.2
def Yn a d e:=fix (L8 a) (d,e)
theorem AIf a:A3 E1 0 5 (code f5) 122 (AIc a) (L8 a) (AH9 a):=by
 intro _;simp only[L8,Wc,ASb];kernel_rfl
def UF(a:ASw)(g:Int):ATC Int:=
 bif decide ((wI (g-(a.length:Int)))<0)then
 some (-1)
 else
 (Yn a (wI (g-(a.length:Int))) 0).bind (Sum.elim (λb=>some (-1)) (λc=>some c))
def c5:=Cc [.d ATr,.d ATl] [⟨[.AA [] ATr,.AA [] ATl],[],Int,λp=>UF p.1.1 p.1.2.1,λr=>(dI r,[])⟩]
theorem Au8:Am prog 5 c5:=As (fn:=f5) ⟨⟨E1,pk ⟨AkP,trivial⟩,λ_ R K=>by
 simp(disch:=refine id ?_;kernel_rfl) only[UF,ASc,Yn,AG (AIf _) (K:=A2 E1 f5 0 R K)];kernel_rfl⟩,trivial⟩
abbrev E2:=eN [] {}
def CM(a:ASs)(b:Int):Int:=(bif decide ((wI (b-(a.length:Int)))<0)then(-1)else(wI (b-(a.length:Int))))
theorem U2 R a b K:TP E2 f114 R [UO a,dI b] [] K=K (dI (CM a b)) []:=by
 refine .trans (b:=
 bif decide ((wI (b-(a.length:Int)))<0)then
 K (dI (-1)) []
 else
 K (dI (wI (b-(a.length:Int)))) []) (by kernel_rfl) ?_
 unfold CM;cases (decide ((wI (b-(a.length:Int)))<0));rfl;rfl
def AEl:=Cc [.d ATv,.d ATl] [⟨[.AA [] ATv,.AA [] ATl],[],Int,λp=>some (CM p.1.1 p.1.2.1),λr=>(dI r,[])⟩]
theorem AfE:Am prog 114 AEl:=As ⟨⟨E2,pk trivial,λ_ _ _=>U2 ..⟩,trivial⟩
abbrev E3:=eN [(114,AEl)] {}
def DJ(a:ASk)(b:Int):Int:=(bif decide ((CM a.2.1 b)<0)then(-1)else(CM a.2.1 b))
theorem U3 R a b K:TP E3 f77 R [GK a,dI b] [] K=K (dI (DJ a b)) []:=by
 refine .trans (b:=
 bif decide ((CM a.2.1 b)<0)then
 K (dI (-1)) []
 else
 K (dI (CM a.2.1 b)) []) (by kernel_rfl) ?_
 unfold DJ;cases (decide ((CM a.2.1 b)<0));rfl;rfl
def c77:=Cc [.d Ah,.d ATl] [⟨[.AA [] Ah,.AA [] ATl],[],Int,λp=>some (DJ p.1.1 p.1.2.1),λr=>(dI r,[])⟩]
theorem Alr:Am prog 77 c77:=As ⟨⟨E3,pk ⟨AfE,trivial⟩,λ_ _ _=>U3 ..⟩,trivial⟩
abbrev E4:=eN [] {}
def Dl(a:ASs)(b:Int):Int:=(bif decide ((wI (b-(a.length:Int)))<0)then(-1)else(wI (b-(a.length:Int))))
theorem U4 R a b K:TP E4 f78 R [DT a,dI b] [] K=K (dI (Dl a b)) []:=by
 refine .trans (b:=
 bif decide ((wI (b-(a.length:Int)))<0)then
 K (dI (-1)) []
 else
 K (dI (wI (b-(a.length:Int)))) []) (by kernel_rfl) ?_
 unfold Dl;cases (decide ((wI (b-(a.length:Int)))<0));rfl;rfl
def c78:=Cc [.d ATo,.d ATl] [⟨[.AA [] ATo,.AA [] ATl],[],Int,λp=>some (Dl p.1.1 p.1.2.1),λr=>(dI r,[])⟩]
theorem Als:Am prog 78 c78:=As ⟨⟨E4,pk trivial,λ_ _ _=>U4 ..⟩,trivial⟩
abbrev E5:=eN [(77,c77),(78,c78)] {}
def IE(a:ASj)(b:Int):Int:=(bif decide ((DJ a.2.2.2.2.1 b)<0)then(-1)else(bif decide ((Dl a.2.2.2.2.2.1 (DJ a.2.2.2.2.1 b))<0)then(-1)else(Dl a.2.2.2.2.2.1 (DJ a.2.2.2.2.1 b))))
theorem U5 R a b K:TP E5 f53 R [WN a,dI b] [] K=K (dI (IE a b)) []:=by
 refine .trans (b:=
 bif decide ((DJ a.2.2.2.2.1 b)<0)then
 K (dI (-1)) []
 else
 bif decide ((Dl a.2.2.2.2.2.1 (DJ a.2.2.2.2.1 b))<0)then
 K (dI (-1)) []
 else
 K (dI (Dl a.2.2.2.2.2.1 (DJ a.2.2.2.2.1 b))) []) (by kernel_rfl) ?_
 unfold IE;cases (decide ((DJ a.2.2.2.2.1 b)<0));cases (decide ((Dl a.2.2.2.2.2.1 (DJ a.2.2.2.2.1 b))<0));rfl;rfl;rfl
def c53:=Cc [.d Ag,.d ATl] [⟨[.AA [] Ag,.AA [] ATl],[],Int,λp=>some (IE p.1.1 p.1.2.1),λr=>(dI r,[])⟩]
theorem Alb:Am prog 53 c53:=As ⟨⟨E5,pk ⟨Alr,Als,trivial⟩,λ_ _ _=>U5 ..⟩,trivial⟩
abbrev E6:=eN [(53,c53)] {A4:=[(5,[0,1,5])],BD:=[(5,[1,4])]}
def AId a (z_:Int×Int):=sT 27 [(0,ji a),(1,dI z_.1),(5,dI z_.2)] []
def AIa(a:ASA):=Sum.elim (λ(b:Int)=>xR 27 (Aju b) []) (λ(c:Int)=>xE 0 27 [(1,dI c)] [])
def Vj(a:ASA)(d e:Int):ATC (ASR⊕(Int⊕Int)):=
 bif decide (e<(a.length:Int))then
 if 0<=e/\e<a.length then
 bif decide ((IE (a.getD e.toNat Ag.zero) d)<0)then
 some (.inr (.inl (IE (a.getD e.toNat Ag.zero) d)))
 else
 some (.inl (IE (a.getD e.toNat Ag.zero) d,wI (e+1)))
 else none
 else
 some (.inr (.inr d))
def KJ a (z_:Int×Int):=Vj a z_.1 z_.2
def Xh a d e:=fix (KJ a) (d,e)
theorem AIg a:A3 E6 0 5 (code f25) 122 (AId a) (KJ a) (AIa a):=by
 intro _;simp only[KJ,Vj,ASb];kernel_rfl
def Tf(a:ASA)(g:Int):ATC Int:=
 bif decide ((wI (g-(a.length:Int)))<0)then
 some (-1)
 else
 (Xh a (wI (g-(a.length:Int))) 0).bind (Sum.elim (λb=>some (-1)) (λc=>some c))
def c25:=Cc [.d ATx,.d ATl] [⟨[.AA [] ATx,.AA [] ATl],[],Int,λp=>Tf p.1.1 p.1.2.1,λr=>(dI r,[])⟩]
theorem AkR:Am prog 25 c25:=As (fn:=f25) ⟨⟨E6,pk ⟨Alb,trivial⟩,λ_ R K=>by
 simp(disch:=refine id ?_;kernel_rfl) only[Tf,ASc,Xh,AG (AIg _) (K:=A2 E6 f25 0 R K)];kernel_rfl⟩,trivial⟩
abbrev E7:=eN [(25,c25)] {}
def TH(a:ASq)(b:Int):ATC Int:=
 (Tf a.1 b).bind λc=>bif decide (c<0)then
 some (-1)
 else
 some c
def c7:=Cc [.d Aw,.d ATl] [⟨[.AA [] Aw,.AA [] ATl],[],Int,λp=>TH p.1.1 p.1.2.1,λr=>(dI r,[])⟩]
theorem Avb:Am prog 7 c7:=As (fn:=f7) ⟨⟨E7,pk ⟨AkR,trivial⟩,λ_ R K=>by
 simp only[TH,ASc];kernel_rfl⟩,trivial⟩
end
noncomputable section
abbrev E8:=eN [(7,c7)] {}
def Rb(a:ASh)(b:Int):ATC Int:=
 (TH a.2.2.1 b).bind λc=>bif decide (c<0)then
 some (-1)
 else
 (TH a.2.2.2.1 c).bind λd=>bif decide (d<0)then
 some (-1)
 else
 some d
def c24:=Cc [.d Ae,.d ATl] [⟨[.AA [] Ae,.AA [] ATl],[],Int,λp=>Rb p.1.1 p.1.2.1,λr=>(dI r,[])⟩]
theorem AkQ:Am prog 24 c24:=As (fn:=f24) ⟨⟨E8,pk ⟨Avb,trivial⟩,λ_ R K=>by
 simp only[Rb,ASc];kernel_rfl⟩,trivial⟩
abbrev E9:=eN [(24,c24)] {A4:=[(5,[0,1,5])],BD:=[(5,[1,4])]}
def AIe a (z_:Int×Int):=sT 27 [(0,Bw a),(1,dI z_.1),(5,dI z_.2)] []
def AIb(a:ASy):=Sum.elim (λ(b:Int)=>xR 27 (Aju b) []) (λ(c:Int)=>xE 0 27 [(1,dI c)] [])
def TG(a:ASy)(d e:Int):ATC (ASR⊕(Int⊕Int)):=
 bif decide (e<(a.length:Int))then
 if 0<=e/\e<a.length then
 (Rb (a.getD e.toNat Ae.zero) d).bind λg=>bif decide (g<0)then
 some (.inr (.inl g))
 else
 some (.inl (g,wI (e+1)))
 else none
 else
 some (.inr (.inr d))
def M6 a (z_:Int×Int):=TG a z_.1 z_.2
def Vi a d e:=fix (M6 a) (d,e)
theorem AIh a:A3 E9 0 5 (code f6) 122 (AIe a) (M6 a) (AIb a):=by
 intro _;simp only[M6,TG,ASb];kernel_rfl
def PG(a:ASy)(i:Int):ATC Int:=
 bif decide ((wI (i-(a.length:Int)))<0)then
 some (-1)
 else
 (Vi a (wI (i-(a.length:Int))) 0).bind (Sum.elim (λb=>some (-1)) (λc=>some c))
def c6:=Cc [.d ATt,.d ATl] [⟨[.AA [] ATt,.AA [] ATl],[],Int,λp=>PG p.1.1 p.1.2.1,λr=>(dI r,[])⟩]
theorem Ava:Am prog 6 c6:=As (fn:=f6) ⟨⟨E9,pk ⟨AkQ,trivial⟩,λ_ R K=>by
 simp(disch:=refine id ?_;kernel_rfl) only[PG,ASc,Vi,AG (AIh _) (K:=A2 E9 f6 0 R K)];kernel_rfl⟩,trivial⟩
abbrev E10:=eN [] {}
def Wg(a:ASf):(ByteArray×Int):=(a.1,a.2.1)
def c30:=Cc [.d Ab] [⟨[.AA [] Ab],[],ByteArray×Int,λp=>some (Wg p.1.1),λr=>(.pr (HW r.1) (.pr (dI r.2) .u),[])⟩]
theorem AkV:Am prog 30 c30:=As (fn:=f30) ⟨⟨E10,pk trivial,λ_ _ _=>by kernel_rfl⟩,trivial⟩
abbrev E11:=eN [(30,c30)] {A4:=[(3,[0,3,4])],BD:=[(3,[3])]}
def Azr a (z_:Int×ASw):=sT 23 [(0,Ar a),(3,.AH 0),(4,dI z_.1)] [Ws z_.2]
def Axk(a:ASw):=λ(b:ASw)=>xE 0 23 mb [Ws b]
def Wh(a:ASw)(c:Int)(d:ASw):ATC ((Int×ASw)⊕ASw):=
 bif decide (c<(a.length:Int))then
 if 0<=c/\c<a.length then
 if 0<=c/\c<d.length then
 some (.inl (wI (c+1),d.set c.toNat ((Wg (a.getD c.toNat Ab.zero)).1,(Wg (a.getD c.toNat Ab.zero)).2,())))
 else none
 else none
 else
 some (.inr d)
def L9 a (z_:Int×ASw):=Wh a z_.1 z_.2
def Ue a c d:=fix (L9 a) (c,d)
theorem ABy a:A3 E11 0 3 (code f9) 58 (Azr a) (L9 a) (Axk a):=by
 intro _;simp only[L9,Wh,ASb];kernel_rfl
def IG(a:ASw):ATC ASw:=
 if Ty.row Ab=true/\(0:Int)<=(a.length:Int)/\(a.length:Int)<=(a.length:Int)/\((24:Nat):Int)*(a.length:Int)<=(281474976710656:Int)/\(a.length:Int)<=(9223372036854775807:Int)then
 (Ue a 0 (List.replicate (a.length:Int).toNat ((⟨#[]⟩:ByteArray),0,()))).bind λb=>some b
 else none
def c9:=Cc [.d ATr] [⟨[.AA [] ATr],[],ASw,λp=>IG p.1.1,λr=>(.AH 0,[Ws r])⟩]
theorem Avc:Am prog 9 c9:=As (fn:=f9) ⟨⟨E11,pk ⟨AkV,trivial⟩,λ_ R K=>by
 simp(disch:=refine id ?_;kernel_rfl) only[IG,ASc,Ue,AG (ABy _) (K:=A2 E11 f9 0 R K)];kernel_rfl⟩,trivial⟩
abbrev E12:=eN [] {A4:=[(3,[0,3,4])],BD:=[(3,[3])]}
def Azs a (z_:Int×ASs):=sT 22 [(0,UO a),(3,.AH 0),(4,dI z_.1)] [C9 z_.2]
def Axl(a:ASs):=λ(b:ASs)=>xE 0 22 mb [C9 b]
def Ux(a:ASs)(c:Int)(d:ASs):ATC (ASP⊕ASs):=
 bif decide (c<(a.length:Int))then
 if 0<=c/\c<a.length then
 if 0<=c/\c<d.length then
 some (.inl (wI (c+1),d.set c.toNat (a.getD c.toNat ATm.zero)))
 else none
 else none
 else
 some (.inr d)
def Jt a (z_:Int×ASs):=Ux a z_.1 z_.2
def Re a c d:=fix (Jt a) (c,d)
theorem ABz a:A3 E12 0 3 (code f127) 58 (Azs a) (Jt a) (Axl a):=by
 intro _;simp only[Jt,Ux,ASb];kernel_rfl
def JS(a:ASs):ATC ASs:=
 if Ty.row ATm=true/\(0:Int)<=(a.length:Int)/\(a.length:Int)<=(a.length:Int)/\((8:Nat):Int)*(a.length:Int)<=(281474976710656:Int)/\(a.length:Int)<=(9223372036854775807:Int)then
 (Re a 0 (List.replicate (a.length:Int).toNat 0)).bind λb=>some b
 else none
def AEw:=Cc [.d ATv] [⟨[.AA [] ATv],[],ASs,λp=>JS p.1.1,λr=>(.AH 0,[C9 r])⟩]
theorem AfQ:Am prog 127 AEw:=As (fn:=f127) ⟨⟨E12,pk trivial,λ_ R K=>by
 simp(disch:=refine id ?_;kernel_rfl) only[JS,ASc,Re,AG (ABz _) (K:=A2 E12 f127 0 R K)];kernel_rfl⟩,trivial⟩
abbrev E13:=eN [(127,AEw)] {}
def Wd(a:ASk):ATC ASP:=
 (JS a.2.1).bind λb=>some (a.1,b)
def c97:=Cc [.d Ah] [⟨[.AA [] Ah],[],ASP,λp=>Wd p.1.1,λr=>(.pr (dI r.1) Si,[C9 r.2])⟩]
theorem AlD:Am prog 97 c97:=As (fn:=f97) ⟨⟨E13,pk ⟨AfQ,trivial⟩,λ_ R K=>by
 simp only[Wd,ASc];kernel_rfl⟩,trivial⟩
abbrev E14:=eN [] {A4:=[(3,[0,3,4])],BD:=[(3,[3])]}
def Azt a (z_:Int×ASs):=sT 22 (AmZ a z_.1) [Az z_.2]
def Axm(a:ASs):=λ(b:ASs)=>xE 0 22 mb [Az b]
def Vk(a:ASs)(c:Int)(d:ASs):ATC (ASP⊕ASs):=
 bif decide (c<(a.length:Int))then
 if 0<=c/\c<a.length then
 if 0<=c/\c<d.length then
 some (.inl (wI (c+1),d.set c.toNat (a.getD c.toNat ATl.zero)))
 else none
 else none
 else
 some (.inr d)
def KL a (z_:Int×ASs):=Vk a z_.1 z_.2
def SA a c d:=fix (KL a) (c,d)
theorem ABA a:A3 E14 0 3 (code f98) 58 (Azt a) (KL a) (Axm a):=by
 intro _;simp only[KL,Vk,ASb];kernel_rfl
def Ly(a:ASs):ATC ASs:=
 if Ty.row ATl=true/\(0:Int)<=(a.length:Int)/\(a.length:Int)<=(a.length:Int)/\((8:Nat):Int)*(a.length:Int)<=(281474976710656:Int)/\(a.length:Int)<=(9223372036854775807:Int)then
 (SA a 0 (List.replicate (a.length:Int).toNat 0)).bind λb=>some b
 else none
def c98:=Cc [.d ATo] [⟨[.AA [] ATo],[],ASs,λp=>Ly p.1.1,λr=>(.AH 0,[Az r])⟩]
theorem AlE:Am prog 98 c98:=As (fn:=f98) ⟨⟨E14,pk trivial,λ_ R K=>by
 simp(disch:=refine id ?_;kernel_rfl) only[Ly,ASc,SA,AG (ABA _) (K:=A2 E14 f98 0 R K)];kernel_rfl⟩,trivial⟩
abbrev E15:=eN [(97,c97),(98,c98)] {}
def Rc(a:ASj):ATC (Int×Int×Int×Int×Int×ASs×ASs):=
 (Wd a.2.2.2.2.1).bind λb=>(Ly a.2.2.2.2.2.1).bind λc=>some (a.1,a.2.1,a.2.2.1,a.2.2.2.1,b.1,b.2,c)
def c63:=Cc [.d Ag] [⟨[.AA [] Ag],[],Int×Int×Int×Int×Int×ASs×ASs,λp=>Rc p.1.1,λr=>(.pr (dI r.1) (.pr (dI r.2.1) (.pr (dI r.2.2.1) (.pr (dI r.2.2.2.1) (.pr (.pr (dI r.2.2.2.2.1) Si) (.pr Gl .u))))),[C9 r.2.2.2.2.2.1,Az r.2.2.2.2.2.2])⟩]
theorem Ald:Am prog 63 c63:=As (fn:=f63) ⟨⟨E15,pk ⟨AlD,AlE,trivial⟩,λ_ R K=>by
 simp only[Rc,ASc];kernel_rfl⟩,trivial⟩
abbrev E16:=eN [(63,c63)] {A4:=[(3,[0,3,4])],BD:=[(3,[3])]}
def Azu a (z_:Int×ASA):=sT 23 [(0,ji a),(3,.AH 0),(4,dI z_.1)] [X7 z_.2]
def Axn(a:ASA):=λ(b:ASA)=>xE 0 23 mb [X7 b]
def Vl(a:ASA)(c:Int)(d:ASA):ATC ((Int×ASA)⊕ASA):=
 bif decide (c<(a.length:Int))then
 if 0<=c/\c<a.length then
 (Rc (a.getD c.toNat Ag.zero)).bind λe=>if 0<=c/\c<d.length then
 some (.inl (wI (c+1),d.set c.toNat (e.1,e.2.1,e.2.2.1,e.2.2.2.1,(e.2.2.2.2.1,e.2.2.2.2.2.1,()),e.2.2.2.2.2.2,())))
 else none
 else none
 else
 some (.inr d)
def KM a (z_:Int×ASA):=Vl a z_.1 z_.2
def SB a c d:=fix (KM a) (c,d)
theorem ABB a:A3 E16 0 3 (code f32) 58 (Azu a) (KM a) (Axn a):=by
 intro _;simp only[KM,Vl,ASb];kernel_rfl
def O9(a:ASA):ATC ASA:=
 if Ty.row Ag=true/\(0:Int)<=(a.length:Int)/\(a.length:Int)<=(a.length:Int)/\((88:Nat):Int)*(a.length:Int)<=(281474976710656:Int)/\(a.length:Int)<=(9223372036854775807:Int)then
 (SB a 0 (List.replicate (a.length:Int).toNat (0,0,0,0,(0,([]:ASs),()),([]:ASs),()))).bind λb=>some b
 else none
def c32:=Cc [.d ATx] [⟨[.AA [] ATx],[],ASA,λp=>O9 p.1.1,λr=>(.AH 0,[X7 r])⟩]
theorem AkX:Am prog 32 c32:=As (fn:=f32) ⟨⟨E16,pk ⟨Ald,trivial⟩,λ_ R K=>by
 simp(disch:=refine id ?_;kernel_rfl) only[O9,ASc,SB,AG (ABB _) (K:=A2 E16 f32 0 R K)];kernel_rfl⟩,trivial⟩
abbrev E17:=eN [(32,c32)] {}
def QD(a:ASq):ATC ASA:=
 (O9 a.1).bind λb=>some b
def c11:=Cc [.d Aw] [⟨[.AA [] Aw],[],ASA,λp=>QD p.1.1,λr=>(.pr Kd .u,[X7 r])⟩]
theorem AkA:Am prog 11 c11:=As (fn:=f11) ⟨⟨E17,pk ⟨AkX,trivial⟩,λ_ R K=>by
 simp only[QD,ASc];kernel_rfl⟩,trivial⟩
abbrev E18:=eN [(11,c11)] {}
def M7(a:ASh):ATC (Int×Bool×ASA×ASA):=
 (QD a.2.2.1).bind λb=>(QD a.2.2.2.1).bind λc=>some (a.1,a.2.1,b,c)
def c31:=Cc [.d Ae] [⟨[.AA [] Ae],[],Int×Bool×ASA×ASA,λp=>M7 p.1.1,λr=>(.pr (dI r.1) (.pr (dB r.2.1) (.pr Si (.pr (.pr Gl .u) .u))),[X7 r.2.2.1,X7 r.2.2.2])⟩]
theorem AkW:Am prog 31 c31:=As (fn:=f31) ⟨⟨E18,pk ⟨AkA,trivial⟩,λ_ R K=>by
 simp only[M7,ASc];kernel_rfl⟩,trivial⟩
abbrev E19:=eN [(31,c31)] {A4:=[(3,[0,3,4])],BD:=[(3,[3])]}
def Azv a (z_:Int×ASy):=sT 23 (Am0 a z_.1) [ME z_.2]
def Axo(a:ASy):=λ(b:ASy)=>xE 0 23 mb [ME b]
def TJ(a:ASy)(c:Int)(d:ASy):ATC (AS2⊕ASy):=
 bif decide (c<(a.length:Int))then
 if 0<=c/\c<a.length then
 (M7 (a.getD c.toNat Ae.zero)).bind λe=>if 0<=c/\c<d.length then
 some (.inl (wI (c+1),d.set c.toNat (e.1,e.2.1,(e.2.2.1,()),(e.2.2.2,()),())))
 else none
 else none
 else
 some (.inr d)
def IH a (z_:Int×ASy):=TJ a z_.1 z_.2
def Qj a c d:=fix (IH a) (c,d)
theorem ABC a:A3 E19 0 3 (code f10) 58 (Azv a) (IH a) (Axo a):=by
 intro _;simp only[IH,TJ,ASb];kernel_rfl
def Er(a:ASy):ATC ASy:=
 if Ty.row Ae=true/\(0:Int)<=(a.length:Int)/\(a.length:Int)<=(a.length:Int)/\((64:Nat):Int)*(a.length:Int)<=(281474976710656:Int)/\(a.length:Int)<=(9223372036854775807:Int)then
 (Qj a 0 (List.replicate (a.length:Int).toNat (0,false,(([]:ASA),()),(([]:ASA),()),()))).bind λb=>some b
 else none
def c10:=Cc [.d ATt] [⟨[.AA [] ATt],[],ASy,λp=>Er p.1.1,λr=>(.AH 0,[ME r])⟩]
theorem Akz:Am prog 10 c10:=As (fn:=f10) ⟨⟨E19,pk ⟨AkW,trivial⟩,λ_ R K=>by
 simp(disch:=refine id ?_;kernel_rfl) only[Er,ASc,Qj,AG (ABC _) (K:=A2 E19 f10 0 R K)];kernel_rfl⟩,trivial⟩
abbrev E20:=eN [] {}
def NY(a:Int):Bool:=((decide (a>=48))&&(decide (a<=57)))
theorem U20 R a K:TP E20 f149 R [dD ATn a] [] K=K (dB (NY a)) []:=by
 refine .trans (b:=
 bif decide (a>=48)then
 K (dB (decide (a<=57))) []
 else
 K (dB false) []) (by kernel_rfl) ?_
 unfold NY;cases (decide (a>=48));rfl;rfl
def AEM:=Cc [.d ATn] [⟨[.AA [] ATn],[],Bool,λp=>some (NY p.1.1),λr=>(dB r,[])⟩]
theorem Af6:Am prog 149 AEM:=As ⟨⟨E20,pk trivial,λ_ _ _=>U20 ..⟩,trivial⟩
abbrev E21:=eN [(149,AEM)] {A4:=[(4,[0,3])],BD:=[(4,[2])],BR:=[(2,[0,16]),(7,[0,3,39])],DR:=[(2,[0]),(7,[0,3])]}
def Azy a (z_:Int):=sT 40 [(0,HW a),(3,dI z_)] []
def Axr(a:ByteArray):=Sum.elim (λ(b:Unit)=>xR 40 [(2,dB false)] []) (λ(c:Unit)=>xE 0 40 [] [])
def Azx a d:=sT 40 [(0,HW a),(3,dI d)] []
def Axq a d:=λ(e:Bool)=>xN 40 [(0,HW a),(3,dI d),(39,dB e)] []
def Nh(a:ByteArray)(d:Int):ATC Bool:=
 if(0:Int)<=d/\d<(a.size:Int)then
 bif !(NY (C2 a d))then
 if(0:Int)<=d/\d<(a.size:Int)then
 bif decide ((C2 a d)<97)then
 some true
 else
 if(0:Int)<=d/\d<(a.size:Int)then
 some (decide ((C2 a d)>122))
 else none
 else none
 else
 some false
 else none
theorem ABE a d:AP E21 0 7 (cd f115 116) 24 (Azx a d) (Nh a d) (Axq a d):=by
 unfold AP;simp only[Nh,ASb];kernel_rfl
def N0(a:ByteArray)(d:Int):ATC (Int⊕(Unit⊕Unit)):=
 bif decide (d<(a.size:Int))then
 (Nh a d).bind λe=>bif e then
 some (.inr (.inl ()))
 else
 some (.inl (wI (d+1)))
 else
 some (.inr (.inr ()))
def J6 a (z_:Int):=N0 a z_
def Zn a d:=fix (J6 a) d
theorem ABF a:A3 E21 0 4 (code f115) 58 (Azy a) (J6 a) (Axr a):=by
 intro _;simp(disch:=refine id ?_;kernel_rfl) only[J6,N0,ASb,A8 (ABE ..) (K:=Kk E21 0 4)];kernel_rfl
def Azw a:=sT 40 [(0,HW a)] []
def Axp a:=λ(g:Bool)=>xN 40 [(0,HW a),(16,dB g)] []
def Ry(a:ByteArray):ATC Bool:=
 bif decide ((a.size:Int)<1)then
 some true
 else
 bif decide ((a.size:Int)>12)then
 some true
 else
 if(0:Int)<=(0:Int)/\(0:Int)<(a.size:Int)then
 some (NY (C2 a 0))
 else none
theorem ABD a:AP E21 0 2 (code f115) 12 (Azw a) (Ry a) (Axp a):=by
 unfold AP;simp only[Ry,ASb];kernel_rfl
def QG(a:ByteArray):ATC Bool:=
 (Ry a).bind λg=>bif g then
 some false
 else
 (Zn a 0).bind (Sum.elim (λb=>some false) (λc=>some true))
def AEm:=Cc [.d .str] [⟨[.AA [] .str],[],Bool,λp=>QG p.1.1,λr=>(dB r,[])⟩]
theorem AfF:Am prog 115 AEm:=As (fn:=f115) ⟨⟨E21,pk ⟨Af6,trivial⟩,λ_ R K=>by
 simp(disch:=refine id ?_;kernel_rfl) only[QG,ASc,A8 (ABD _) (K:=A2 E21 f115 0 R K),Zn,AG (ABF _) (K:=A2 E21 f115 0 R K)];kernel_rfl⟩,trivial⟩
abbrev E22:=eN [] {}
def BM(a b c:Int):Bool:=((decide (a>=b))&&(decide (a<=c)))
theorem U22 R a b c K:TP E22 f81 R [dI a,dI b,dI c] [] K=K (dB (BM a b c)) []:=by
 refine .trans (b:=
 bif decide (a>=b)then
 K (dB (decide (a<=c))) []
 else
 K (dB false) []) (by kernel_rfl) ?_
 unfold BM;cases (decide (a>=b));rfl;rfl
def c81:=Cc [.d ATl,.d ATl,.d ATl] [⟨[.AA [] ATl,.AA [] ATl,.AA [] ATl],[],Bool,λp=>some (BM p.1.1 p.1.2.1 p.1.2.2.1),λr=>(dB r,[])⟩]
theorem V1:Am prog 81 c81:=As ⟨⟨E22,pk trivial,λ_ _ _=>U22 ..⟩,trivial⟩
abbrev E23:=eN [(81,c81),(115,AEm)] {A4:=[(5,[0,3,4]),(10,[0,3,4,5])],BD:=[(5,[2,3]),(10,[0,2,3,4])],BR:=[(8,[0,3,4,30])],DR:=[(8,[0,3,4])]}
def AzB a (z_:Int×Int):=sT 56 [(0,Ar a),(3,dI z_.1),(4,dI z_.2)] []
def Axu(a:ASw):=Sum.elim (λ(b:Int)=>xR 56 [(2,dB false),(3,dI b)] []) (λ(c:Int)=>xE 0 56 [(3,dI c)] [])
def AzA a d e (z_:Int):=sT 56 [(0,Ar a),(3,dI d),(4,dI e),(5,dI z_)] []
def Axt a d e:=Sum.elim (λ(g:Unit)=>xR 56 [(0,Ar a),(2,dB false),(3,dI d),(4,dI e)] []) (λ(i:Unit)=>xE 2 56 [(0,Ar a),(3,dI d),(4,dI e)] [])
def Me(a:ASw)(d e j:Int):ATC (Int⊕(Unit⊕Unit)):=
 bif decide (j<e)then
 if 0<=j/\j<a.length then
 if 0<=e/\e<a.length then
 bif Jd (a.getD j.toNat Ab.zero).1 (a.getD e.toNat Ab.zero).1 then
 some (.inr (.inl ()))
 else
 some (.inl (wI (j+1)))
 else none
 else none
 else
 some (.inr (.inr ()))
def IU a d e (z_:Int):=Me a d e z_
def Yq a d e j:=fix (IU a d e) j
theorem ABH a d e:A3 E23 0 10 (cd f79 244) 202 (AzA a d e) (IU a d e) (Axt a d e):=by
 intro _;simp only[IU,Me,ASb];kernel_rfl
def Azz a d e:=sT 56 [(0,Ar a),(3,dI d),(4,dI e)] []
def Axs a d e:=λ(k:Bool)=>xN 56 [(0,Ar a),(3,dI d),(4,dI e),(30,dB k)] []
def PK(a:ASw)(d e:Int):ATC Bool:=
 if 0<=e/\e<a.length then
 (QG (a.getD e.toNat Ab.zero).1).bind λl=>bif !l then
 some true
 else
 if 0<=e/\e<a.length then
 some (!(BM (a.getD e.toNat Ab.zero).2.1 1 4096))
 else none
 else none
theorem ABG a d e:AP E23 0 8 (cd f79 244) 48 (Azz a d e) (PK a d e) (Axs a d e):=by
 unfold AP;simp only[PK,ASb];kernel_rfl
def Mf(a:ASw)(d e:Int):ATC (ASR⊕(Int⊕Int)):=
 bif decide (e<(a.length:Int))then
 (PK a d e).bind λk=>bif k then
 some (.inr (.inl d))
 else
 (Yq a d e 0).bind (Sum.elim (λg=>some (.inr (.inl d))) (λi=>if 0<=e/\e<a.length then
 some (.inl (wI (d+(a.getD e.toNat Ab.zero).2.1),wI (e+1)))
 else none))
 else
 some (.inr (.inr d))
def IV a (z_:Int×Int):=Mf a z_.1 z_.2
def Yr a d e:=fix (IV a) (d,e)
theorem ABI a:A3 E23 0 5 (code f79) 122 (AzB a) (IV a) (Axu a):=by
 intro _;simp(disch:=refine id ?_;kernel_rfl) only[IV,Mf,ASb,A8 (ABG ..) (K:=Kk E23 0 5),Yq,AG (ABH _ _ _) (K:=Kk E23 0 5)];kernel_rfl
def KU(a:ASw):ATC Bool:=
 bif decide ((a.length:Int)>60)then
 some false
 else
 (Yr a 0 0).bind (Sum.elim (λb=>some false) (λc=>some (decide (c<=20000))))
def c79:=Cc [.d ATr] [⟨[.AA [] ATr],[],Bool,λp=>KU p.1.1,λr=>(dB r,[])⟩]
theorem qC:Am prog 79 c79:=As (fn:=f79) ⟨⟨E23,pk ⟨V1,AfF,trivial⟩,λ_ R K=>by
 simp(disch:=refine id ?_;kernel_rfl) only[KU,ASc,Yr,AG (ABI _) (K:=A2 E23 f79 0 R K)];kernel_rfl⟩,trivial⟩
end
end Go.Proofs.X
