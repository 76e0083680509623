import Derived.Shelf.SortG.Plain
import Derived.Shelf.SortG.SortNone
import Derived.Shelf.SlicesG.CompactI
import Derived.KernelRfl
import Derived.Test.YtccjkamgpblklaaGreatShelf
import Derived.Test.YtccjkamgpblklaaGreatProg
import Derived.Test.YtccjkamgpblklaaGreatK1
set_option linter.unusedVariables false
set_option linter.unusedSimpArgs false
namespace Go.Va
theorem Am.dE{P:Program}{f:FuncId}{fn:Func}(hf:P.funcs[f]?=some fn)(hn:(fn.name=="runtime.NumGoroutine")=false)(hb:fn.body.isNone=false){c:Callee}(hc:XW c)
    (h:∀args E av E',c.run (AV×AyZ Blk) args E (λv b=>some (v,b))=some (av,E')->E.length<=E'.length/\∀(w:World) (g:G) (vs:AyZ Value),A1 w g E->CK w g E.length args vs ->
     Calls P f vs.toArray w λe w'=>∃v g',e=.returned v/\A1 w' g' E'/\BF w' g' E'.length av v/\Bi E.length w g w' g'):Am P f c where
 UR:=hc
 snd args E av E' hr:=by
  obtain⟨h1,h2⟩:=h args E av E' hr;refine⟨h1,λw g vs H hx o a next Q yH=>?_⟩
  have:(callFunc f vs.toArray).run P w=.ok (.enter f vs.toArray) w:=by
   have hn1:¬fn.name="runtime.NumGoroutine":=by grind
   have aO:¬fn.body=none:=by
    grind
   simp[callFunc,hf,hn1,aO]
  rw[this];refine(h2 w g vs H hx).mono λe w' ⟨v,g',e1,hH,hv,BG⟩=>?_;subst e1;exact yH v w' g' hH hv BG
theorem ow{P:Program}{t:TypeId}{ti:TI}(ht:Dy P t ti)(hs:ti.Da=true){ad:Ay0 Addr}{n c:Nat}{x y:Operand}(w:World) :
    (do eqGuard .eql t x y (.slice ad n c) (.slice none 0 0);binOp .eql t (.slice ad n c) (.slice none 0 0):Sem Value).run P w=.ok (.bool ad.isNone) w:=by
 have hu:=Bf ht hs;have h1:∀d,(Op.equalIn (d+1) t (.slice ad n c) (.slice none 0 0)).run P w=.ok ad.isNone w:=by
  intro d;unfold Op.equalIn;cases ad<;>simp[underlying,hu]
 have h2:(Op.equal t (.slice ad n c) (.slice none 0 0)).run P w=.ok ad.isNone w:=h1 (Op.maxDepth-1);show(do pure (.bool (<-Op.equal t (.slice ad n c) (.slice none 0 0))):Sem Value).run P w=_
 rw[Sem.run_bind,h2];rfl
section
variable {P:Program} {en:Fe}
theorem fy(he:Hy P en){f:FuncId}{fn:Func}(hf:P.funcs[f]?=some fn){R0 R2 T:Code}{id:Nat}{o3 o4:Oper}{t t2 e bytes:Nat}{u:Ty}{ti:TI}
    (hb:fn.body=some (R0.seq (((Code.region id #[o3,o4] false).seq (Code.cond (.tmp 4) (R2.seq .ret) .skip)).seq T))) (hnt:fn.ntmps=8) (VH:fn.results=#[.tmp 2])
    (h3:o3.op=.move (.tmp 0)/\o3.dst=some 3/\o3.guard=none) (h4:o4.op=.binOp .eql t (.tmp 3) (.const (.slice none 0 0)) t2/\o4.dst=some 4/\o4.guard=none)
    (ht:en.C6.get t=some ti) (H7:ti.Da=true) (hu:u.row=true)
    (hR0:∀xs:(Ty.sl u).V,ev en 0 R0 (Ex×St) ⟨[.Aw [] (.sl u) xs,.un 0,.un 0,.un 0,.un 0,.un 0,.un 0,.un 0],[]⟩ Oe=some (.normal,⟨[.Aw [] (.sl u) xs,.un 0,.zs,.un 0,.un 0,.un 0,.un 0,.un 0],[]⟩))
    (hA:∀xs:(Ty.sl u).V,ev en 0 (R2.seq .ret) (Ex×St) ⟨[.Aw [] (.sl u) xs,.un 0,.zs,.Aw [] (.sl u) xs,.bool true,.un 0,.un 0,.un 0],[]⟩ Oe=some (.ret,⟨[.Aw [] (.sl u) xs,.un 0,.zs,.Aw [] (.sl u) xs,.bool true,.un 0,.un 0,.un 0],[]⟩))
    (hT:∀xs:(Ty.sl u).V,xs.length*bytes<=140737488355328->ev en 0 T (Ex×St) ⟨[.Aw [] (.sl u) xs,.un 0,.zs,.Aw [] (.sl u) xs,.bool false,.un 0,.un 0,.un 0],[]⟩ Oe=some (.ret,⟨[.Aw [] (.sl u) xs,.un 0,.AA 0,.Aw [] (.sl u) xs,.bool false,.zs,.Aw [] (.sl u) xs,.AA 0],[.row e (if u.Bu then .Ao else .sh []) u xs]⟩))
    {xs:(Ty.sl u).V} (yz:xs.length*bytes<=140737488355328) (w:World) (g:G) (vs:AyZ Value) (H:A1 w g []) (hx:CK w g 0 [.Aw [] (.sl u) xs] vs) :
    Calls P f vs.toArray w λee w'=>∃v g',ee=.returned v/\A1 w' g' [.row e (if u.Bu then .Ao else .sh []) u xs]/\BF w' g' 1 (.AA 0) v/\Bi 0 w g w' g':=by
 refine calls_of_wp hf hb ?_;have jj:=iK H hx (n:=fn.ntmps) (by rw[hnt];simp);have Aq0:Ip w g ⟨[.Aw [] (.sl u) xs,.un 0,.un 0,.un 0,.un 0,.un 0,.un 0,.un 0],[]⟩ {tmps:=vs.toArray++Array.replicate (fn.ntmps-vs.toArray.size) undef,defers:=[]}:=by
  rw[hnt]at jj;rw[hnt];exact jj
 have Sl:∀(a':Act) (w':World) (g':G),a'.defers=[]->Bi 0 w g w' g'->(∃oC,A1 w' oC [.row e (if u.Bu then .Ao else .sh []) u xs]/\BF w' oC 1 (.AA 0) (a'.tmps.getD 2 undef)/\Bi 0 w' g' w' oC) ->
     a'.defers=[]/\∃v,(results fn a'.tmps).run P w'=.ok v w'/\∃v' g',Ending.returned v=.returned v'/\A1 w' g' [.row e (if u.Bu then .Ao else .sh []) u xs]/\BF w' g' 1 (.AA 0) v'/\Bi 0 w g w' g':=by
  intro a' w' g' hd BG ⟨oC,H'',l9,j6⟩;refine⟨hd,a'.tmps.getD 2 undef,?_,_,oC,rfl,H'',l9,BG.trans j6⟩;rw[Y8,VH,Array.mapM_eq_mapM_toList];simp[u5]
 refine wp_seq ((Mj he R0 _ _ _ (hR0 xs) (Awf _)).2 _ w g _ Aq0 λa1 w1 g1 Oa Nq XK=>?_);simp only[cB];refine wp_seq (wp_seq (wp_region ?_));have Ug:=Oa.Az 0 _ rfl;obtain⟨cs,Pj,hval⟩:=BD rfl rfl Ug;obtain⟨_,ad,cap,ds,AcV,hlen,tz,Ac9⟩:=Pj;subst AcV;have ql:a1.tmps.getD 0 undef=.slice ad xs.length cap:=by
  have:[Value.slice ad xs.length cap]=[a1.tmps.getD 0 undef]:=hval;injection this with h _;exact h.symm
 have AqP:ad=none->xs=[]:=λh=>by
  rcases Ac9 with h1 |⟨b,off,h1,_⟩
  ·exact h1
  ·rw[h]at h1;cases h1
 let a2:=(a1.put (some 3) (.slice ad xs.length cap)).put (some 4) (.bool ad.isNone)
 have J9:a1.tmps.size=8:=Oa.len.symm;have T7:Ip w1 g1 ⟨[.Aw [] (.sl u) xs,.un 0,.zs,.Aw [] (.sl u) xs,.bool ad.isNone,.un 0,.un 0,.un 0],[]⟩ a2:=by
  refine⟨Oa.heap,by simp[a2,Rc,J9],λi x hx=>?_⟩;have h5:∀i,i≠3->i≠4->a2.tmps.getD i undef=a1.tmps.getD i undef:=λi h3 h4=>by
   simp only[a2];rw[Qq (by simpa using λh=>h4 h.symm),Qq (by simpa using λh=>h3 h.symm)]
  match i,hx with
  |0,hx=>rw[h5 0 (by decide) (by decide)];exact Oa.Az 0 x hx
  |1,hx=>rw[h5 1 (by decide) (by decide)];exact Oa.Az 1 x hx
  |2,hx=>rw[h5 2 (by decide) (by decide)];exact Oa.Az 2 x hx
  |3,hx =>
   injection hx with hx;subst hx;have:a2.tmps.getD 3 undef=.slice ad xs.length cap:=by
    simp only[a2];rw[Qq (by decide),Oh (by omega)]
   rw[this,<-ql];exact Ug
  |4,hx =>
   injection hx with hx;subst hx;have:a2.tmps.getD 4 undef=.bool ad.isNone:=by
    simp only[a2];rw[Oh (by rw[Rc];omega)]
   rw[this];exact A9 (cs:=[.bool ad.isNone]) rfl ⟨λk hk=>by(cases hk),rfl⟩ rfl
  |5,hx=>injection hx with hx;subst hx;exact M4
  |6,hx=>injection hx with hx;subst hx;exact M4
  |7,hx=>injection hx with hx;subst hx;exact M4
  |i+8,hx=>simp at hx
 have e3:a1.eval (.tmp 0)=.slice ad xs.length cap:=ql;have Aqt:(a1.put (some 3) (.slice ad xs.length cap)).eval (.tmp 3)=.slice ad xs.length cap:=by
  show(a1.put (some 3) (.slice ad xs.length cap)).tmps.getD 3 undef=_;rw[Oh (by omega)]
 simp only[List.range,wpOps];show wpOps P #[o3,o4] _ [0,1] a1 w1;simp only[wpOps];have g0:(#[o3,o4]:Array Oper)[0]?=some o3:=rfl;have g1':(#[o3,o4]:Array Oper)[1]?=some o4:=rfl;rw[g0,g1'];simp only[Region.wanted,h3.2.2,h4.2.2,AwS];refine .inl ?_;unfold Oper.wp;rw[show(execOp a1.eval o3).run P w1=.ok (.value (.slice ad xs.length cap)) w1 by simp[execOp,h3.1,e3],Oper.upon_value,h3.2.1];have AnA:(a1.put (some 3) (.slice ad xs.length cap)).tmps.getD 3 undef=.slice ad xs.length cap:=Aqt;have An4:(execOp (a1.put (some 3) (.slice ad xs.length cap)).eval o4).run P w1=.ok (.value (.bool ad.isNone)) w1:=by
  have:=ow (P:=P) (t:=t) (he.t ht) H7 (ad:=ad) (n:=xs.length) (c:=cap) (x:=.tmp 3) (y:=.const (.slice none 0 0)) w1;simp only[execOp,h4.1,Act.eval,AnA];rw[Sem.run_bind,this];rfl
 refine .inl ?_;rw[An4,Oper.upon_value,h4.2.1];show(Code.cond (.tmp 4) (R2.seq .ret) .skip).wp P _ a2 w1;have yC:a2.eval (.tmp 4)=.bool ad.isNone:=by
  show a2.tmps.getD 4 undef=_;simp only[a2];rw[Oh (by rw[Rc];omega)]
 have qj:a2.defers=[]:=by simp only[a2,Go.Va.put_defers];exact XK
 cases l7:ad with
 |none =>
  have hxs:=AqP l7;subst hxs;rw[l7]at T7 yC;refine wp_cond_true yC ?_;refine(Mj he _ _ _ _ (hA []) (Awf _)).2 a2 w1 g1 _ T7 λa3 w3 g3 gA st3 hd3=>?_;have hz:=gA.Az 2 _ rfl;obtain⟨g4,H4,Aqh,st4⟩:=jI gA.heap (c:=.row [] e u false) (a:=.zs) (a':=.AA 0) (nb:=[.row e (if(u.Bu||false)=true then .Ao else .sh []) u []]) (by simp[oh,AV.Qz,AV.U1,hu]) hz;exact Sl a3 w3 g3 (hd3.trans qj) (Nq.trans st3) ⟨g4,by simpa using H4,by simpa using Aqh,st4.kZ (AwW _)⟩
 |some ad0 =>
  rw[l7]at T7 yC;refine wp_cond_false yC (wp_skip ?_);refine(Mj he _ _ _ _ (hT xs yz) (Awf _)).2 a2 w1 g1 _ T7 λa3 w3 g3 gA st3 hd3=>?_;exact Sl a3 w3 g3 (hd3.trans qj) (Nq.trans st3) ⟨g3,gA.heap,gA.Az 2 _ rfl,Bi.refl _ _ _⟩
theorem od{e bytes:Nat}{u:Ty}:XW (Wr e u bytes):=by
 intro R args E K;simp only[Wr]
 grind
theorem aC(he:Hy P en){f:FuncId}{fn:Func}(hf:P.funcs[f]?=some fn)(hn:(fn.name=="runtime.NumGoroutine")=false){R0 R2 T:Code}{id:Nat}{o3 o4:Oper}{t t2 e bytes:Nat}{u:Ty}{ti:TI}
    (hb:fn.body=some (R0.seq (((Code.region id #[o3,o4] false).seq (Code.cond (.tmp 4) (R2.seq .ret) .skip)).seq T))) (hnt:fn.ntmps=8) (VH:fn.results=#[.tmp 2])
    (h3:o3.op=.move (.tmp 0)/\o3.dst=some 3/\o3.guard=none) (h4:o4.op=.binOp .eql t (.tmp 3) (.const (.slice none 0 0)) t2/\o4.dst=some 4/\o4.guard=none)
    (ht:en.C6.get t=some ti) (H7:ti.Da=true) (hu:u.row=true)
    (hR0:∀xs:(Ty.sl u).V,ev en 0 R0 (Ex×St) ⟨[.Aw [] (.sl u) xs,.un 0,.un 0,.un 0,.un 0,.un 0,.un 0,.un 0],[]⟩ Oe=some (.normal,⟨[.Aw [] (.sl u) xs,.un 0,.zs,.un 0,.un 0,.un 0,.un 0,.un 0],[]⟩))
    (hA:∀xs:(Ty.sl u).V,ev en 0 (R2.seq .ret) (Ex×St) ⟨[.Aw [] (.sl u) xs,.un 0,.zs,.Aw [] (.sl u) xs,.bool true,.un 0,.un 0,.un 0],[]⟩ Oe=some (.ret,⟨[.Aw [] (.sl u) xs,.un 0,.zs,.Aw [] (.sl u) xs,.bool true,.un 0,.un 0,.un 0],[]⟩))
    (hT:∀xs:(Ty.sl u).V,xs.length*bytes<=140737488355328->ev en 0 T (Ex×St) ⟨[.Aw [] (.sl u) xs,.un 0,.zs,.Aw [] (.sl u) xs,.bool false,.un 0,.un 0,.un 0],[]⟩ Oe=some (.ret,⟨[.Aw [] (.sl u) xs,.un 0,.AA 0,.Aw [] (.sl u) xs,.bool false,.zs,.Aw [] (.sl u) xs,.AA 0],[.row e (if u.Bu then .Ao else .sh []) u xs]⟩)) :
    Am P f (Wr e u bytes):=by
 refine Am.dE hf hn (by grind) od λargs E av E' h=>?_;simp only[Wr]at h;split at h
 ·split at h
  ·rename_i xs hc;obtain⟨e1,q⟩:=Bn hc;subst e1;subst q;split at h
   ·rename_i yz;obtain⟨rfl,rfl⟩:=h;exact⟨AwW _,λw g vs H hx=>fy he hf hb hnt VH h3 h4 ht H7 hu hR0 hA hT yz w g vs H hx⟩
   ·grind
  ·grind
 ·grind
end
end Go.Va
namespace Go.Va
open Go.Sort Go.Shelf
def leI(x y:Int):Bool:=decide (x<=y)
def Ur(xs:AyZ Int):AyZ Int:=xs.mergeSort leI
def P3(xs:AyZ Int):AyZ Int:=Lib.compact xs
def iA:Callee:={bn:=[.Sm],run:=λ_ avs E K=>match avs,E with
    |[.AA 0],[.row e .Ao u xs]=>match G2 (.sl u) (.sl (.int .i64)) xs with
     |some xs=>if xs.length<4611686018427387904 then K .nil [.row e .Ao (.int .i64) (Ur xs)]else none
     |none=>none
    |[.zs],[]=>K .nil []
    |_,_=>none}
def iR:Callee:={bn:=[.Sm],run:=λ_ avs E K=>match avs,E with
    |[.AA 0],[.row e .Ao u xs]=>match G2 (.sl u) (.sl (.int .i64)) xs with
     |some xs=>K (.AA 1) [.Be,.row e .Ao (.int .i64) (P3 xs)]
     |none=>none
    |_,_=>none}
theorem vG:XW iA:=by
 intro R args E K;simp only[iA]
 grind
theorem vZ:XW iR:=by
 intro R args E K;simp only[iR];split
 ·grind
 ·rfl
section
variable {w:World} {g:G} {n:Nat}
theorem Q5{own:Nat->Pp}{k:Nat}:∀{xs:AyZ Int} {j:Nat} {ds:AyZ Value},A5 (λi=>Ht w own k (.int .i64) [i]) j xs ds↔ds=xs.map (Value.int .i64)
 |[],_,_=>Iff.rfl
 |x::xs,j,ds=>by
  constructor
  ·rintro⟨c,d,e,h1,h2⟩
   rw[e,h1,Q5.1 h2];rfl
  ·intro e;exact⟨[.int .i64 x],xs.map _,by grind,rfl,Q5.2 rfl⟩
theorem YE{b el:Nat}{Bh:Array Value}{xs:AyZ Int}(hc:w.heap[b]?=some (.cells Bh el (0,0)))(hd:Bh.toList.take (xs.length*1)=xs.map (Value.int .i64)):Holds (Value.int .i64) w b 0 xs.toArray:=by
 intro j hj;have hj:j<xs.length:=by grind
 constructor
 ·have h1:(Bh.toList.take (xs.length*1))[j]?=some (.int .i64 xs[j]):=by grind
  simp only[World.cell?,hc];simpa [hj]using h1
 ·simp[World.frozen?,hc]
theorem gZ{b el:Nat}{Bh:Array Value}{q:Nat}{d:Array Int}(hc:w.heap[b]?=some (.cells Bh el (0,0))):(putRow (Value.int .i64) (Sort.ahead w q) b 0 d).heap[b]?=some (.cells (putCells (Value.int .i64) 0 d Bh) el (0,0)):=by
 simp[putRow,mapBlock,Axu,hc,onCells]
theorem bG{b c q:Nat}{d:Array Int}(h:c≠b):(putRow (Value.int .i64) (Sort.ahead w q) b 0 d).heap[c]?=w.heap[c]?:=by
 simp[putRow,mapBlock,Axu,h.symm]
theorem WS(w:World)(b q:Nat)(d:Array Int):(putRow (Value.int .i64) (Sort.ahead w q) b 0 d).heap.size=w.heap.size:=by
 simp
theorem Uo{Bh:Array Value}{d:Array Int}{m:Nat}(hm:m<=d.size)(hs:d.size<=Bh.size):(putCells (Value.int .i64) 0 d Bh).toList.take m=(d.toList.take m).map (Value.int .i64):=by
 apply Axi;intro i;rw[Aw9,AwC,Aw9];split
 ·have h1:i<Bh.size:=by omega
  have h2:i<d.size:=by omega
  simp[putCells,h1,h2]
 ·rfl
theorem ku{E:AyZ Blk}(H:A1 w g E){b k:Nat}{r:AyZ Nat}(h:g.own b=.Bs k r):b<w.heap.size:=by
 by_cases hb:b<w.heap.size
 ·grind
 ·rw[H.Bz b (by omega)]at h;cases h
end
section
variable {P:Program} {ρ:Shelf.Ren}
theorem vH(L:Proofs.SlLaysN.n53 P ρ){f:FuncId}{fn:Func}(e:ρ.f 53=f)(hf:P.funcs[f]?=some fn)(hn:(fn.name=="runtime.NumGoroutine")=false)(hb:fn.body.isNone=false):Am P f iA:=by
 refine Am.dE hf hn hb vG λargs E av E' h=>?_;simp only[iA]at h;split at h
 ·rename_i el u xs;split at h
  ·rename_i ys hc;obtain⟨e1,q⟩:=Bn hc;cases e1;subst q;split at h
   ·rename_i Cw;obtain⟨rfl,rfl⟩:=h;refine⟨Awf _,λw g vs H hx=>?_⟩
    match vs,hx with
    |[v],⟨hv,_⟩ =>
     obtain⟨_,hv⟩:=DV hv;subst hv;obtain⟨Ng,hl,Mg,BB,hr⟩:=H.Js 0 _ rfl;rcases hr with ⟨Ug,DT⟩|⟨b,Bh,ds,ha,ho,⟨ce,he,CO⟩,h1,h2,h3,h4,h5⟩
     ·rw[DT,hl,Ug,<-e];refine(Proofs.AnyG.slices_Sort_int_none L _ 0 w).mono λe w' ⟨e1,e2⟩=>?_;subst e1;subst e2;exact⟨_,g,rfl,by simpa [Ug,Ur]using H,rfl,Bi.refl _ _ _⟩
     ·rw[hl,ha,<-e];have h5:ds=_:=Q5.1 h5;rw[h5]at h4;have J9:Bh.size=(g.AK 0).cap*1:=h3;refine(Proofs.AnyG.slices_Sort_int L b 0 _ xs w (YE CO h4) (ku H ho) Cw).mono λe w' ⟨e1,n,os,e2⟩=>?_;subst e1;have jh:=ku H ho;have hold:∀c,c≠b->c<w.heap.size->w'.heap[c]?=w.heap[c]?:=λc hc Cw=>by
       rw[e2];show((putRow _ _ _ _ _).heap++os)[c]?=_;rw[Array.getElem?_append_left (by rw[WS];exact Cw),bG hc]
      have VF:w'.heap[b]?=some (.cells (putCells (Value.int .i64) 0 (List.toArray (Ur xs)) Bh) ce (0,0)):=by
       rw[e2];show((putRow _ _ _ _ _).heap++os)[b]?=_;rw[Array.getElem?_append_left (by rw[WS];exact jh)];exact gZ CO
      have LX:w.heap.size<=w'.heap.size:=by
       grind
      refine⟨_,g,rfl,⟨λc hc=>H.Bz c (by omega),λk x hx=>?_⟩,rfl,?_⟩
      ·match k,hx with
       |0,hx =>
        injection hx with hx;subst hx;have hls:(Ur xs).length=List.length (α:=Int) xs:=List.length_mergeSort _;refine⟨λj hj=>by grind,by grind,Mg,BB,.inr ⟨b,_,_,ha,ho,⟨ce,he,VF⟩,?_,h2,?_,rfl,?_⟩⟩
        ·grind
        ·simpa [putCells]using h3
        ·refine Q5.2 ?_;rw[Uo (by simp[Ty.size]) (by grind)];simp[Ty.size]
       |k+1,hx=>grind
      ·refine⟨by rw[e2];rfl,by rw[e2];rfl,by rw[e2];rfl,LX,λc hc h=>⟨h,hold c (λe=>by grind) hc⟩,λc h=>⟨h,?_⟩,λc k r h hk hm=>(hm (List.mem_range.2 hk)).elim,λk hk=>rfl⟩;by_cases Pj:c<w.heap.size
       ·grind
       ·rw[H.Bz c (by omega)]at h;cases h
   ·grind
  ·grind
 ·obtain⟨rfl,rfl⟩:=h;refine⟨Awf _,λw g vs H hx=>?_⟩
  match vs,hx with
  |[v],⟨hv,_⟩ =>
   obtain⟨cs,⟨ad,Pj⟩,hval⟩:=BD rfl rfl hv;subst Pj;have hv:v=.slice ad 0 0:=by
    have:[Value.slice ad 0 0]=[v]:=hval
    grind
   subst hv;rw[<-e];refine(Proofs.AnyG.slices_Sort_int_none L ad 0 w).mono λe w' ⟨e1,e2⟩=>?_;subst e1;subst e2;exact⟨_,g,rfl,H,rfl,Bi.refl _ _ _⟩
 ·grind
theorem vY(xs:AyZ Int):(P3 xs).length<=xs.length:=by
 unfold P3 Lib.compact Lib.compactUpTo
 grind
theorem v7(L:Proofs.SlLaysN.n43 P ρ){f:FuncId}{fn:Func}(e:ρ.f 43=f)(hf:P.funcs[f]?=some fn)(hn:(fn.name=="runtime.NumGoroutine")=false)(hb:fn.body.isNone=false):Am P f iR:=by
 refine Am.dE hf hn hb vZ λargs E av E' h=>?_;simp only[iR]at h;split at h
 ·rename_i el u xs;split at h
  ·rename_i ys hc;obtain⟨e1,q⟩:=Bn hc;cases e1;subst q;obtain⟨rfl,rfl⟩:=h;refine⟨by simp,λw g vs H hx=>?_⟩
   match vs,hx with
   |[v],⟨hv,_⟩ =>
    obtain⟨_,hv⟩:=DV hv;subst hv;obtain⟨Ng,hl,Mg,BB,hr⟩:=H.Js 0 _ rfl;rcases hr with ⟨Ug,DT⟩|⟨b,Bh,ds,ha,ho,⟨ce,he,CO⟩,h1,h2,h3,h4,h5⟩
    ·rw[DT,hl,Ug,<-e];refine(Proofs.AnyG.slices_Compact_int_empty L _ 0 w).mono λe w' ⟨e1,e2⟩=>?_;subst e1;subst e2;refine⟨_,⟨g.own,λk=>if k=1 then⟨(g.AK 0).a,0,0,1⟩else g.AK k⟩,rfl,⟨H.Bz,λk x hx=>?_⟩,?_,?_⟩
     ·match k,hx with
      |0,hx=>injection hx with hx;subst hx;trivial
      |1,hx =>
       injection hx with hx;subst hx;exact⟨λj hj=>by grind,rfl,rfl,BB,.inl ⟨rfl,rfl⟩⟩
      |k+2,hx=>grind
     ·exact A9 (cs:=[.slice (g.AK 0).a 0 0]) rfl ⟨by simp,rfl⟩ rfl
     ·refine⟨rfl,rfl,rfl,Awf _,λc hc h=>⟨h,rfl⟩,λc h=>⟨h,rfl⟩,λc k r h hk hm=>(hm (List.mem_range.2 hk)).elim,λk hk=>?_⟩
      grind
    ·rw[hl,ha,<-e];have h5:ds=_:=Q5.1 h5;rw[h5]at h4;have Ac8:(g.AK 0).cap<=9223372036854775807:=h2;refine(Proofs.AnyG.slices_Compact_int L b 0 _ xs w (YE CO h4) (AwD h1 Ac8) h1).mono λe w' ⟨e1,q,e2⟩=>?_;subst e1;have jh:=ku H ho;have hold:∀c,c≠b->w'.heap[c]?=w.heap[c]?:=λc hc=>by rw[e2,bG hc]
     have VF:=gZ (q:=q) (d:=(Lib.compact (show AyZ Int from xs)++List.replicate (List.length (α:=Int) xs-(Lib.compact (show AyZ Int from xs)).length) 0).toArray) CO;rw[<-e2]at VF;have LX:w'.heap.size=w.heap.size:=by rw[e2,WS]
     have ji:(P3 xs).length<=List.length (α:=Int) xs:=vY xs;have J9:(Lib.compact (show AyZ Int from xs)++List.replicate (List.length (α:=Int) xs-(Lib.compact (show AyZ Int from xs)).length) 0).length=List.length (α:=Int) xs:=by
      rw[Awd,AwG];exact Nat.add_sub_cancel' ji
     refine⟨_,⟨λc=>if c=b then .Bs 1 []else g.own c,λk=>if k=1 then⟨(g.AK 0).a,(P3 xs).length,(g.AK 0).cap,1⟩else g.AK k⟩,rfl,⟨λc hc=>?_,λk x hx=>?_⟩,?_,?_⟩
     ·have:c≠b:=λe=>by omega
      simp only[this];exact H.Bz c (by omega)
     ·match k,hx with
      |0,hx=>injection hx with hx;subst hx;trivial
      |1,hx =>
       injection hx with hx;subst hx;refine⟨λj hj=>by grind,rfl,rfl,BB,.inr ⟨b,_,_,ha,by simp,⟨ce,he,VF⟩,AwD ji h1,h2,?_,rfl,?_⟩⟩
       ·simpa [putCells]using h3
       ·refine Q5.2 ?_;have Pj:Bh.size=(g.AK 0).cap*1:=h3;rw[Uo (by simp[Ty.size,P3]) (by grind)];simp[Ty.size,P3]
      |k+2,hx=>grind
     ·exact A9 (cs:=[.slice (some ⟨b,0,none⟩) (P3 xs).length (g.AK 0).cap]) rfl ⟨by simp,by grind⟩ rfl
     ·refine⟨by rw[e2];rfl,by rw[e2];rfl,by rw[e2];rfl,Nat.le_of_eq LX.symm,λc hc h=>?_,λc h=>?_,λc k r h hk hm=>(hm (List.mem_range.2 hk)).elim,λk hk=>?_⟩
      ·grind
      ·have RY:c≠b:=λe=>by grind
       grind
      ·have hk:k<1:=hk;have:k≠1:=by omega
       simp[this]
  ·cases h
 ·grind
end
end Go.Va
namespace Go.Va
section
variable {A B C D:Type}
theorem bC(k:A->Ay0 B)(c:Bool)(x y:Ay0 A):(bif c then x else y).bind k=bif c then x.bind k else y.bind k:=nV k c x y
theorem bI(k:A->Ay0 B)(c:Prop)[Decidable c](x y:Ay0 A):(if c then x else y).bind k=if c then x.bind k else y.bind k:=rD k c x y
theorem bN(k:A->Ay0 B)(c:Prop)[Decidable c](x:Ay0 A):(if c then none else x).bind k=if c then none else x.bind k:=nY k c x
theorem bE(k:C->Ay0 D)(g:A->Ay0 C)(h:B->Ay0 C)(y:A⊕B):(Sum.elim g h y).bind k=Sum.elim (λa=>(g a).bind k) (λb=>(h b).bind k) y:=nX k g h y
theorem bA(x:Ay0 A)(f:A->Ay0 B)(g:B->Ay0 C):(x.bind f).bind g=x.bind λy=>(f y).bind g:=Awq x f g
theorem bS(a:A)(f:A->Ay0 B):(some a).bind f=f a:=rfl
theorem bO(f:A->Ay0 B):(none:Ay0 A).bind f=none:=rfl
theorem mC(f:A->B)(c:Bool)(x y:Ay0 A):(bif c then x else y).map f=bif c then x.map f else y.map f:=uz f c x y
theorem mI(f:A->B)(c:Prop)[Decidable c](x y:Ay0 A):(if c then x else y).map f=if c then x.map f else y.map f:=zc f c x y
theorem mN(f:A->B)(c:Prop)[Decidable c](x:Ay0 A):(if c then none else x).map f=if c then none else x.map f:=uB f c x
theorem mB(f:B->C)(x:Ay0 A)(k:A->Ay0 B):(x.bind k).map f=x.bind λy=>(k y).map f:=uy f x k
theorem mE(f:C->D)(g:A->Ay0 C)(h:B->Ay0 C)(y:A⊕B):(Sum.elim g h y).map f=Sum.elim (λa=>(g a).map f) (λb=>(h b).map f) y:=uA f g h y
theorem mS(f:A->B)(a:A):(some a).map f=some (f a):=rfl
theorem mO(f:A->B):(none:Ay0 A).map f=none:=rfl
def cc(x y:Ay0 Unit):Ay0 Unit:=x.bind λ_=>y
class Sh (Y:Type) where
 T:Type->Type
 sp:{Z:Type}->(Y->Z)->T Z
 ij:∀{Z:Type} {f g:Y->Z},sp f=sp g->f=g
instance (priority:=low) shB:Sh A:=⟨λZ=>A->Z,λf=>f,λh=>h⟩
instance shS [Sh A] [Sh B]:Sh (A⊕B):=⟨λZ=>Sh.T A Z×Sh.T B Z,λf=>(Sh.sp λa=>f (.inl a),Sh.sp λb=>f (.inr b)),λ{Z f g} h=>by
 have h1:=Sh.ij (congrArg Prod.fst h);have h2:=Sh.ij (congrArg Prod.snd h)
 funext y
 cases y with
 |inl a=>exact congrFun h1 a
 |inr b=>exact congrFun h2 b⟩
theorem k3{a a':A}{b b':B}{c c':C}(h:(a,b,c)=(a',b',c')):a=a'/\b=b'/\c=c':=by grind
end
abbrev dI(x:Int):AV:=.Aw [] (.int .i64) x
abbrev dB(b:Bool):AV:=.Aw [] .bool b
abbrev dD(t:Ty)(x:t.V):AV:=.Aw [] t x
def sT(n:Nat)(l:AyZ (Nat×AV))(bs:AyZ Blk):St:=⟨mkS n 0 l,bs⟩
abbrev xN(n:Nat)(l:List (Nat×AV))(bs:List Blk):Ex×St:=(.normal,sT n l bs)
abbrev xR(n:Nat)(l:List (Nat×AV))(bs:List Blk):Ex×St:=(.ret,sT n l bs)
abbrev xE(k n:Nat)(l:List (Nat×AV))(bs:List Blk):Ex×St:=(.exit k,sT n l bs)
instance:Coe (List Nat) SH:=⟨λl=>{Bb:=l}⟩
def Fe.hd(en:Fe)(k:Nat):SH:=(L4 en.fi.Bv k).getD {Bb:=[]}
def Fe.ot(en:Fe)(k:Nat):SH:=(L4 en.fi.CM k).getD {Bb:=[]}
def Fe.jn(en:Fe)(k:Nat):SH:=(L4 en.fi.B5 k).getD {Bb:=[]}
def Fe.dr(en:Fe)(k:Nat):SH:=(L4 en.fi.Vv k).getD {Bb:=[]}
def ptG:Nat->Nat->AyZ Nat->AyZ Nat
 |0,_,a=>a
 |f+1,n,a=>if n<=1 then a else ptG f (n/2) (n%2::a)
def pt(n:Nat):AyZ Nat:=ptG 60 n []
section
variable {X Y R:Type}
def cd(f:Func)(n:Nat):Code:=sub (code f) (pt n)
def sb(c:Code)(n:Nat):Code:=sub c (pt n)
noncomputable def L5(en:Fe)(m k:Nat):=Aou m (en.hd k) (en.ot k)
noncomputable def OZ(en:Fe)(m k:Nat):=Aof m (en.jn k)
noncomputable def lpS(en:Fe)(m k:Nat)(fc:Code)(p:AyZ Nat):St->Ay0 (St⊕(Ex×St)):=bR en m (en.hd k) (en.ot k) (sub fc (p++[0]))
noncomputable def S1(en:Fe)(m k:Nat)(fc:Code)(p:AyZ Nat):St->Ay0 (Ex×St):=Aog en m (en.jn k) (sub fc p)
noncomputable def eL(en:Fe)(m k:Nat)(fc:Code)(p:AyZ Nat):St->Ay0 St:=zm en m (en.dr k) (AdI (sub fc p))
noncomputable def kQ(en:Fe)(m:Nat)(R:Type)(fc:Code)(p:AyZ Nat)(K:Ex->St->Ay0 R)(q:Ex×St):Ay0 R:=oR en m R fc p K q.1 q.2
noncomputable def lpC(en:Fe)(m k:Nat)(fc:Code)(p:AyZ Nat)(R:Type)(K:Ex->St->Ay0 R)(s:St):Ay0 R:=(fix (lpS en m k fc p) s).bind (kQ en m R fc p K)
noncomputable def jnC(en:Fe)(m k:Nat)(fc:Code)(p:AyZ Nat)(R:Type)(K:Ex->St->Ay0 R)(s:St):Ay0 R:=(S1 en m k fc p s).bind (kQ en m R fc p K)
noncomputable def drC(en:Fe)(m k:Nat)(fc:Code)(p:AyZ Nat)(R:Type)(K:Ex->St->Ay0 R)(s:St):Ay0 R:=(eL en m k fc p s).bind λq=>kQ en m R fc p K (.normal,q)
def A8(en:Fe)(m k:Nat)(fc:Code)(n:Nat)(s:X->St)(r:X->Ay0 (X⊕Y))(o:Y->Ex×St):Prop:=∀x,lpS en m k fc (pt n) (s x)=(r x).map (Sum.map s o)
def AX(en:Fe)(m k:Nat)(fc:Code)(n:Nat)(s:St)(x:Ay0 Y)(o:Y->Ex×St):Prop:=S1 en m k fc (pt n) s=x.map o
def KM(en:Fe)(m k:Nat)(fc:Code)(n:Nat)(s:St)(x:Ay0 Y)(o:Y->St):Prop:=eL en m k fc (pt n) s=x.map o
theorem AO{en:Fe}{m k:Nat}{fc:Code}{n:Nat}{s:X->St}{r:X->Ay0 (X⊕Y)}{o:Y->Ex×St}(h:A8 en m k fc n s r o){K:Ex->St->Ay0 R}{x:X}{F:Y->Ay0 R}[Sh Y](hF:Sh.sp F=Sh.sp λy=>kQ en m R fc (pt n) K (o y)) :
    (fix r x).bind F=lpC en m k fc (pt n) R K (s x):=by
 unfold lpC;rw[yo s o _ r h x,X3];exact congrArg _ (Sh.ij hF)
theorem A7{en:Fe}{m k:Nat}{fc:Code}{n:Nat}{s:St}{x:Ay0 Y}{o:Y->Ex×St}(h:AX en m k fc n s x o){K:Ex->St->Ay0 R}{F:Y->Ay0 R}[Sh Y](hF:Sh.sp F=Sh.sp λy=>kQ en m R fc (pt n) K (o y)) :
    x.bind F=jnC en m k fc (pt n) R K s:=by
 unfold jnC;rw[h,X3];exact congrArg _ (Sh.ij hF)
theorem OT{en:Fe}{m k:Nat}{fc:Code}{n:Nat}{s:St}{x:Ay0 Y}{o:Y->St}(h:KM en m k fc n s x o){K:Ex->St->Ay0 R}{F:Y->Ay0 R}[Sh Y](hF:Sh.sp F=Sh.sp λy=>kQ en m R fc (pt n) K (.normal,o y)) :
    x.bind F=drC en m k fc (pt n) R K s:=by
 unfold drC;rw[h,X3];exact congrArg _ (Sh.ij hF)
def Np(_:St)(x:Ay0 R):Ay0 R:=x
theorem bM(s:St)(x:Ay0 X)(k:X->Ay0 Y):(Np s x).bind k=Np s (x.bind k):=rfl
theorem mM(s:St)(x:Ay0 X)(k:X->Y):(Np s x).map k=Np s (x.map k):=rfl
theorem EM{en:Fe}{m k:Nat}{fc:Code}{p:AyZ Nat}{s:St}{e:Ex×St}(h:S1 en m k fc p s=some e){K:Ex->St->Ay0 R}{T:Ay0 R}(hT:T=kQ en m R fc p K e):Np s T=jnC en m k fc p R K s:=by
 unfold jnC;rw[h];exact hT
end
noncomputable def yS(ms:AyZ PM)(en:Fe)(fn:Func):Callee:={bn:=ms,run:=λR args E K=>RA en fn R args E K}
theorem yT{ms:AyZ PM}{en:Fe}{fn:Func}(he:T1 en):XW (yS ms en fn):=by
 intro R args E K;show RA en fn R args E K=(RA en fn _ args E _).bind _;unfold RA;split
 ·rfl
 ·split
  ·have Sl:∀s ,(match T5 E.length en.fi.Sl s with
       |none=>none
       |some σ=>match Xz en.C6 σ fn.results.toList with
        |some l=>match cJ E.length en.fi.Ph l σ.Ag with
         |some (l,bs)=>match Vp en.fi.jo l bs with
          |some (l',FQ)=>match YS E.length FQ (ib l')with
           |some (v,bs)=>K v bs
           |none=>none
          |none=>none
         |none=>none
        |none=>none)=(match T5 E.length en.fi.Sl s with
       |none=>none
       |some σ=>match Xz en.C6 σ fn.results.toList with
        |some l=>match cJ E.length en.fi.Ph l σ.Ag with
         |some (l,bs)=>match Vp en.fi.jo l bs with
          |some (l',FQ)=>match YS E.length FQ (ib l')with
           |some (v,bs)=>some (v,bs)
           |none=>none
          |none=>none
         |none=>none
        |none=>none).bind λp=>K p.1 p.2:=λs=>by
     cases T5 _ _ s with
     |none=>rfl
     |some s =>
      grind
   refine lb (Rp he _) λe s=>?_;cases e with
   |exit n=>rfl
   |normal=>exact Sl s
   |ret=>exact Sl s
  ·rfl
theorem mz{P:Program}{f:FuncId}{fn:Func}{ms:AyZ PM}{en:Fe}(he:Hy P en)(q:(P.funcs[f]?,fn.name=="runtime.NumGoroutine",fn.body.isNone)=(some fn,false,false):=by kernel_rfl):Am P f (yS ms en fn) :=
 Am.of he (k3 q).1 (k3 q).2.1 (k3 q).2.2 (yT he.UR) λ_ _ _ _ h=>h
inductive Pt where
 |k (a:AV)|Aw (ks:List Nat) (t:Ty)|D7 (ks:List Nat) (t:Ty)|ptr (k:Nat) (p:List Nat) (o:Nat)|pr (a b:Pt)|cons (a b:Pt)|fn (f:Nat) (c:Pt)
def AV.isK:AV->AV->Bool
 |.zs,.zs=>true
 |.JH,.JH=>true
 |.nil,.nil=>true
 |.un n,.un m=>n==m
 |.AA n,.AA m=>n==m
 |.mp n,.mp m=>n==m
 |.ptr k i p o,.ptr k' i' p' o'=>k==k'&&i==i'&&p==p'&&o==o'
 |.Aw [] .unit _,.Aw [] .unit _=>true
 |_,_=>false
theorem AV.Adw{a b:AV}(h:a.isK b=true):b=a:=by
 unfold AV.isK at h
 grind
@[reducible] def Pt.T:Pt->Type
 |.k _=>Unit
 |.Aw _ t=>t.V
 |.D7 _ t=>t.V
 |.ptr _ _ _=>Int
 |.pr a b=>a.T×b.T
 |.cons a b=>a.T×b.T
 |.fn _ c=>c.T
def Pt.fill:(p:Pt)->p.T->AV
 |.k a,_=>a
 |.Aw ks t,x=>.Aw ks t x
 |.D7 ks t,x=>.D7 ks t x
 |.ptr j p o,i=>.ptr j i p o
 |.pr a b,x=>.pr (a.fill x.1) (b.fill x.2)
 |.cons a b,x=>.cons (a.fill x.1) (b.fill x.2)
 |.fn f c,x=>.fn f (c.fill x)
def Pt.mt:(p:Pt)->AV->Ay0 p.T
 |.k a,b=>bif a.isK b then some ()else none
 |.Aw ks t,a=>match a with |.Aw Uj t' x=>if Uj=ks then G2 t' t x else none |_=>none
 |.D7 ks t,a=>match a with |.D7 Uj t' x=>if Uj=ks then G2 t' t x else none |_=>none
 |.ptr j p o,a=>match a with |.ptr j' i p' o'=>if j'=j/\p'=p/\o'=o then some i else none |_=>none
 |.pr a b,c=>match c with |.pr x y=>(match a.mt x,b.mt y with |some u,some v=>some (u,v)|_,_=>none)|_=>none
 |.cons a b,c=>match c with |.cons x y=>(match a.mt x,b.mt y with |some u,some v=>some (u,v)|_,_=>none)|_=>none
 |.fn f c,a=>match a with |.fn f' x=>if f'=f then c.mt x else none |_=>none
theorem Pt.O0:∀{p:Pt} {a:AV} {x:p.T},p.mt a=some x->a=p.fill x
 |.k a,b,x,h=>by
  unfold Pt.mt at h;cases e:a.isK b with
  |false=>grind
  |true=>exact AV.Adw e
 |.Aw ks t,a,x,h=>by
  unfold Pt.mt at h;cases a with
  |Aw Uj t' y =>
   simp only at h;split at h
   ·rename_i e;subst e;obtain⟨e,q⟩:=Bn h;subst e;subst q;rfl
   ·grind
  |_=>grind
 |.D7 ks t,a,x,h=>by
  unfold Pt.mt at h;cases a with
  |D7 Uj t' y =>
   simp only at h;split at h
   ·rename_i e;subst e;obtain⟨e,q⟩:=Bn h;subst e;subst q;rfl
   ·grind
  |_=>grind
 |.ptr j p o,a,x,h=>by
  unfold Pt.mt at h;cases a with
  |ptr j' i p' o' =>
   simp only at h;split at h
   ·rename_i e;obtain⟨rfl,rfl,rfl⟩:=e;injection h with h;subst h;rfl
   ·grind
  |_=>grind
 |.pr a b,c,x,h=>by
  unfold Pt.mt at h;cases c with
  |pr y z =>
   simp only at h;split at h
   ·rename_i u v hu hv;injection h with h;subst h;rw[Pt.O0 hu,Pt.O0 hv];rfl
   ·grind
  |_=>grind
 |.cons a b,c,x,h=>by
  unfold Pt.mt at h;cases c with
  |cons y z =>
   simp only at h;split at h
   ·rename_i u v hu hv;injection h with h;subst h;rw[Pt.O0 hu,Pt.O0 hv];rfl
   ·grind
  |_=>grind
 |.fn f c,a,x,h=>by
  unfold Pt.mt at h;cases a with
  |fn f' y =>
   simp only at h;split at h
   ·rename_i e;subst e;rw[Pt.O0 h];rfl
   ·grind
  |_=>grind
@[reducible] def uZ:List Pt->Type
 |[]=>Unit
 |p::r=>p.T×uZ r
def AdG:(l:AyZ Pt)->uZ l->AyZ AV
 |[],_=>[]
 |p::r,x=>p.fill x.1::AdG r x.2
def zj:(l:AyZ Pt)->AyZ AV->Ay0 (uZ l)
 |[],l=>match l with |[]=>some ()|_=>none
 |p::r,l=>match l with |a::ZI=>(match p.mt a,zj r ZI with |some u,some v=>some (u,v)|_,_=>none)|_=>none
theorem bB:∀{l:AyZ Pt} {a:AyZ AV} {x:uZ l},zj l a=some x->a=AdG l x
 |[],a,x,h=>by
  cases a with
  |nil=>rfl
  |cons _ _=>cases h
 |p::r,a,x,h=>by
  unfold zj at h;cases a with
  |nil=>grind
  |cons a ZI =>
   simp only at h;split at h
   ·rename_i u v hu hv;injection h with h;subst h;rw[Pt.O0 hu,bB hv];rfl
   ·grind
inductive jb where
 |box (p:Pt)|row (e:Nat) (m:RM) (t:Ty)|map (m:RM) (kt vt:Ty)|Be
def RM.eqb:RM->RM->Bool
 |.Ao,.Ao=>true
 |.sh a,.sh b=>a==b
 |_,_=>false
theorem RM.sL{a b:RM}(h:a.eqb b=true):b=a:=by
 cases a<;>cases b<;>simp[RM.eqb]at h
 ·rfl
 ·grind
@[reducible] def jb.T:jb->Type
 |.box p=>p.T
 |.row _ _ t=>List t.V
 |.map _ kt vt=>List (kt.V×vt.V)
 |.Be=>Unit
def jb.fill:(p:jb)->p.T->Blk
 |.box p,x=>.box (p.fill x)
 |.row e m t,x=>.row e m t x
 |.map m kt vt,x=>.map m kt vt x none
 |.Be,_=>.Be
def jb.mt:(p:jb)->Blk->Ay0 p.T
 |.box p,b=>match b with |.box a=>p.mt a |_=>none
 |.row e m t,b=>match b with |.row e' m' t' xs=>if e'=e then bif m.eqb m' then G2 (.sl t') (.sl t) xs else none else none |_=>none
 |.map m kt vt,b=>match b with |.map m' kt' vt' es none=>bif m.eqb m' then G2 (.sl (.AH kt' vt')) (.sl (.AH kt vt)) es else none |_=>none
 |.Be,b=>match b with |.Be=>some ()|_=>none
theorem jb.O0:∀{p:jb} {a:Blk} {x:p.T},p.mt a=some x->a=p.fill x
 |.box p,a,x,h=>by
  cases a with
  |box y=>rw[Pt.O0 h];rfl
  |_=>cases h
 |.row e m t,a,x,h=>by
  unfold jb.mt at h;cases a with
  |row e' m' t' y =>
   simp only at h;split at h
   ·rename_i e0;subst e0;cases hm:m.eqb m' with
    |false=>grind
    |true =>
     rw[hm]at h;have:=RM.sL hm;subst this;obtain⟨e1,q⟩:=Bn h;cases Ty.sl.inj e1;subst q;rfl
   ·grind
  |_=>grind
 |.map m kt vt,a,x,h=>by
  unfold jb.mt at h;cases a with
  |map m' kt' vt' es st =>
   cases st with
   |none =>
    simp only at h;cases hm:m.eqb m' with
    |false=>grind
    |true =>
     rw[hm]at h;have:=RM.sL hm;subst this;obtain⟨e1,q⟩:=Bn h;obtain⟨e2,e3⟩:=Ty.AH.inj (Ty.sl.inj e1);subst e2;subst e3;subst q;rfl
   |some z=>grind
  |_=>grind
 |.Be,a,x,h=>by
  cases a with
  |Be=>rfl
  |_=>cases h
@[reducible] def ff:List jb->Type
 |[]=>Unit
 |p::r=>p.T×ff r
def rF:(l:AyZ jb)->ff l->AyZ Blk
 |[],_=>[]
 |p::r,x=>p.fill x.1::rF r x.2
def lJ:(l:AyZ jb)->AyZ Blk->Ay0 (ff l)
 |[],l=>match l with |[]=>some ()|_=>none
 |p::r,l=>match l with |a::ZI=>(match p.mt a,lJ r ZI with |some u,some v=>some (u,v)|_,_=>none)|_=>none
theorem X4:∀{l:AyZ jb} {a:AyZ Blk} {x:ff l},lJ l a=some x->a=rF l x
 |[],a,x,h=>by
  cases a with
  |nil=>rfl
  |cons _ _=>cases h
 |p::r,a,x,h=>by
  unfold lJ at h;cases a with
  |nil=>grind
  |cons a ZI =>
   simp only at h;split at h
   ·rename_i u v hu hv;injection h with h;subst h;rw[jb.O0 hu,X4 hv];rfl
   ·grind
structure Br where
 pa:List Pt
 pb:List jb
 U:Type
 F:uZ pa×ff pb->Option U
 out:U->AV×List Blk
def X5:AyZ Br->(R:Type)->AyZ AV->AyZ Blk->(AV->AyZ Blk->Ay0 R)->Ay0 R
 |[],_,_,_,_=>none
 |b::r,R,avs,E,K=>match zj b.pa avs,lJ b.pb E with
  |some x,some y=>(b.F (x,y)).bind λu=>K (b.out u).1 (b.out u).2
  |_,_=>X5 r R avs E K
def Ff(ms:AyZ PM)(bs:AyZ Br):Callee:={bn:=ms,run:=X5 bs}
theorem aA:∀(bs:AyZ Br) (R:Type) (args:AyZ AV) (E:AyZ Blk) (K:AV->AyZ Blk->Ay0 R),X5 bs R args E K=(X5 bs (AV×AyZ Blk) args E λv b=>some (v,b)).bind λp=>K p.1 p.2
 |[],_,_,_,_=>rfl
 |b::r,R,args,E,K=>by
  unfold X5;split
  ·grind
  ·exact aA r R args E K
def Apk(P:Program)(fn:Func)(b:Br):Prop:=∃en,Hy P en/\∀p (R:Type) (K:AV->AyZ Blk->Ay0 R),RA en fn R (AdG b.pa p.1) (rF b.pb p.2) K=(b.F p).bind λu=>K (b.out u).1 (b.out u).2
def qu(P:Program)(fn:Func):AyZ Br->Prop
 |[]=>True
 |b::r=>Apk P fn b/\qu P fn r
theorem rG{P:Program}{fn:Func}:∀{bs:AyZ Br},qu P fn bs->∀args E av E',X5 bs (AV×AyZ Blk) args E (λv b=>some (v,b))=some (av,E')->∃en,Hy P en/\RA en fn (AV×AyZ Blk) args E (λv b=>some (v,b))=some (av,E')
 |[],_,_,_,_,_,h=>by cases h
 |b::r,⟨⟨en,he,hb⟩,hr⟩,args,E,av,E',h=>by
  unfold X5 at h;split at h
  ·rename_i x y hx hy;refine⟨en,he,?_⟩;rw[bB hx,X4 hy];exact(hb (x,y) _ _).trans h
  ·exact rG hr args E av E' h
theorem Ax{P:Program}{f:FuncId}{fn:Func}{ms:AyZ PM}{bs:AyZ Br}(h:qu P fn bs)(q:(P.funcs[f]?,fn.name=="runtime.NumGoroutine",fn.body.isNone)=(some fn,false,false):=by kernel_rfl):Am P f (Ff ms bs) :=
 Am.of2 (k3 q).1 (k3 q).2.1 (k3 q).2.2 (aA bs) (rG h)
noncomputable abbrev GG(s:St):Option Unit:=N6 s s
theorem GL{p:Prop}[Decidable p](h:¬p:=by omega):decide p=false:=Awc h
theorem Jy{p:Prop}[Decidable p](h:p:=by omega):decide p=true:=Awe h
theorem OB{c:Prop}[Decidable c](h:¬c:=by omega){A:Sort _}{t e:A}:ite c t e=e:=Aws h
theorem Mq{c:Prop}[Decidable c](h:c:=by omega){A:Sort _}{t e:A}:ite c t e=t:=Awr h
abbrev Ax1:=And.intro @mC (And.intro @mI (And.intro @mN (And.intro @mB (And.intro @mE @mM))))
abbrev Ax2:=And.intro @bC (And.intro @bI (And.intro @bN (And.intro @bE (And.intro @bA (And.intro @bS (And.intro @bO @bM))))))
abbrev wI(x:Int):Int:=IntKind.i64.wrap x
end Go.Va
namespace Go.Proofs.X
open Go Go.Va Go.Proofs.Tryz
set_option maxRecDepth 100000
abbrev Ab:Ty:=(.AH .str (.AH (.int .i64) .unit))
abbrev AB:Ty:=(.AH (.int .i64) (.AH (.sl (.int .u64)) .unit))
abbrev Ad:Ty:=(.AH (.int .i64) (.AH (.int .i64) (.AH (.int .i64) (.AH (.int .i64) (.AH AB (.AH (.sl (.int .i64)) .unit))))))
abbrev AJ:Ty:=(.AH (.sl Ad) .unit)
abbrev Af:Ty:=(.AH (.int .i64) (.AH .bool (.AH AJ (.AH AJ .unit))))
abbrev Ai:Ty:=(.AH (.sl (.sl (.int .i64))) .unit)
abbrev Ae:Ty:=(.AH (.int .i64) (.AH (.int .i64) (.AH (.int .i64) (.AH AB .unit))))
abbrev jB:Ty:=(.AH (.sl (.int .u8)) (.AH (.int .i64) .unit))
abbrev Aa:Ty:=(.AH (.int .i64) (.AH (.int .i64) .unit))
abbrev Ak:Ty:=(.AH (.sl Aa) (.AH (.sl .bool) .unit))
abbrev b8:Ty:=(.AH (.sl Ab) (.AH (.sl (.sl .bool)) (.AH (.O3 1) (.AH (.sl (.AH (.int .i64) (.AH (.int .i64) .unit))) .unit))))
abbrev Ah:Ty:=(.AH (.int .i64) (.AH (.int .i64) (.AH (.int .i64) .unit)))
abbrev BM:=Blk.row 86 .Ao (.sl .bool)
abbrev FH:=Blk.row 51 .Ao Ad
abbrev B4:=Blk.row 2 .Ao (.int .i64)
abbrev J1:=Blk.row 33 .Ao (.sl (.int .i64))
abbrev DR:=Blk.row 140 .Ao Aa
abbrev Dt:=Blk.row 101 .Ao (.int .u64)
abbrev Cv:=Blk.row 122 (.sh []) Ae
abbrev CJ:=Blk.row 122 .Ao Ae
abbrev HZ:=Blk.row 72 .Ao (.AH (.sl Ae) (.AH (.sl Ae) .unit))
abbrev FJ:=Blk.row 129 .Ao Aa
abbrev Qx:=Blk.row 125 .Ao Ak
abbrev LK:=Blk.row 4 .Ao .bool
abbrev M9:=Blk.row 71 .Ao (.sl Ae)
abbrev Wa:=Blk.row 5 .Ao (.int .u8)
abbrev RP:=Blk.row 139 .Ao Ah
abbrev Wb:=Blk.row 33 (.sh []) (.sl (.int .i64))
abbrev XU:=Blk.row 123 (.sh []) (.sl Aa)
abbrev XV:=Blk.row 71 (.sh []) (.sl Ae)
abbrev eE:=Blk.row 44 .Ao Ab
abbrev eF:=Blk.row 83 .Ao Af
abbrev eG:=Blk.row 83 (.sh []) Af
abbrev FG:=Blk.map .Ao Aa (.sl Aa)
abbrev Aj:=dD (.sl Ab)
abbrev Bl:=dD (.sl (.int .u8))
abbrev Cc:=dD Ai
abbrev Cu:=dD (.sl Af)
abbrev OS:=dD (.sl Ah)
abbrev RO:=dD Ad
abbrev FF:=dD (.sl Ae)
abbrev NP:=dD AJ
abbrev HY:=dD (.sl (.int .i64))
abbrev K2:=dD Ah
abbrev Jp:=dD .str
abbrev Jq:=dD (.sl (.sl (.int .i64)))
abbrev Jr:=dD Ae
abbrev Qv:=dD (.sl Ad)
abbrev M6:=dD (.sl (.sl Aa))
abbrev V9:=dD (.sl Aa)
abbrev KJ:=dD (.sl (.sl Ae))
abbrev N1:=dD (.sl .bool)
abbrev O8:=dD AB
abbrev N2:=dD (.int .u64)
abbrev T0:=dD (.int .u8)
abbrev eB:=dD (.sl (.sl .bool))
abbrev eC:=dD (.sl (.int .u64))
abbrev Ay:=AV.ptr 1 0 [] 0
abbrev Aq:=AV.ptr 0 0 [] 0
abbrev BQ:=AV.ptr 2 0 [] 0
abbrev QI:=AV.ptr 5 0 [] 0
abbrev M8:=AV.ptr 3 0 [] 0
abbrev QJ:=AV.ptr 4 0 [] 0
abbrev ZB:=AV.ptr 6 0 [] 0
abbrev Iv:AV:=.pr .zs .u
abbrev Wc:AV:=.pr (.AA 3) .u
abbrev ArH:AV:=.pr (dI 0) (.pr (dI 0) (.pr (dI 0) (.pr (.pr (dI 0) Iv) (.pr (.AA 4) .u))))
abbrev eH:AV:=.pr (.AA 2) (.pr (.mp 3) (.pr (.AA 7) .u))
abbrev eI:AV:=.pr (.AA 2) .u
abbrev Aoz:AV:=.pr (.AA 2) (.pr (.mp 3) (.pr (.AA 5) .u))
abbrev AoA:AV:=.pr (.AA 1) (.pr (.mp 2) (.pr (.AA 6) .u))
abbrev ZC:AV:=.pr (dI 0) Iv
abbrev T9:AV:=.pr (.AA 0) .u
abbrev AoB:AV:=.pr (.AA 1) (.pr (.mp 2) (.pr (.AA 5) .u))
abbrev Ux:AV:=.pr (.AA 4) .u
abbrev Abj:AV:=.pr (.AA 7) .u
abbrev nJ:AV:=.pr (.AA 2) (.pr (.mp 3) Ux)
abbrev nK:AV:=.pr (.AA 1) (.pr (.mp 2) Wc)
abbrev Aox:AV:=.pr (.AA 2) (.pr (.mp 3) (.pr (.AA 6) .u))
abbrev Aoy:AV:=.pr Iv (.pr Iv .u)
abbrev qe En EP:=([.box (.pr (Bl En) (.pr (dI EP) .u))]:List Blk)
abbrev wm En EP:=([.box ZC,.box (.pr (dI En) eI),Dt EP]:List Blk)
abbrev wu En EP H6:=([.box (.pr (Bl En) (.pr (dI EP) .u)),.box ZC,Wa H6]:List Blk)
abbrev AdU En EP H6:=([(0,Qv En),(5,N1 EP),(6,.AA 0),(9,.AA 1),(10,dI H6)]:List (Nat×AV))
abbrev zM En EP H6:=([(0,Qv En),(5,.AA 0),(6,.AA 1),(7,dI EP),(8,dI H6)]:List (Nat×AV))
abbrev P4 En:=([.box (RO En)]:List Blk)
abbrev eD En EP H6:=([.box (NP En),B4 EP,LK H6]:List Blk)
abbrev Qb En EP H6:=([.box (.pr (Bl En) (.pr (dI EP) .u)),.box Iv,.box Wc,FH H6]:List Blk)
abbrev zN En EP H6 OY Xu jR:=([(0,.ptr 0 En [] 0),(1,Aj EP),(2,dI H6),(6,Ay),(7,.AA 2),(8,dI OY),(9,dI Xu),(10,dI jR)]:List (Nat×AV))
abbrev zO En EP H6:=([.box (.pr (Bl En) (.pr (dI EP) .u)),.box Iv,FH H6]:List Blk)
abbrev Abh En EP H6 OY Xu jR h6_:=([(0,.ptr 0 En [] 0),(1,Aj EP),(2,dI H6),(6,Ay),(7,.AA 2),(8,dI OY),(9,dI Xu),(10,dI jR),(13,M8),(65,dI h6_)]:List (Nat×AV))
abbrev Xo En EP H6 OY Xu:=([.box (.pr (Bl En) (.pr (dI EP) .u)),.box Iv,FH H6,.box (.pr (dI OY) ArH),B4 Xu]:List Blk)
abbrev wo En EP H6 OY Xu jR h6_:=([(0,.ptr 0 En [] 0),(1,Aj EP),(2,dI H6),(6,Ay),(7,.AA 2),(8,dI OY),(9,dI Xu),(10,dI jR),(12,dI h6_),(13,M8)]:List (Nat×AV))
abbrev Abi En EP H6 OY Xu jR h6_:=([(0,.ptr 0 En [] 0),(1,Aj EP),(2,dI H6),(6,Ay),(7,.AA 2),(8,dI OY),(9,dI Xu),(10,dI jR),(11,M8),(12,dI h6_)]:List (Nat×AV))
abbrev iW En EP H6 OY:=([(0,.ptr 0 En [] 0),(1,Aj EP),(2,dI H6),(6,Ay),(7,BQ),(8,dI OY)]:List (Nat×AV))
abbrev iX En EP H6:=([.box (.pr (Bl En) (.pr (dI EP) .u)),.box (.pr (dI 0) (.pr (dB false) Aoy)),.box Wc,FH H6]:List Blk)
abbrev Xp:=([(6,Ay),(7,BQ)]:List (Nat×AV))
abbrev wq En EP H6 OY:=([(1,Aj En),(6,Ay),(7,BQ),(9,dI EP),(10,dI H6),(11,dI OY)]:List (Nat×AV))
abbrev nq En EP:=([(0,.ptr 0 En [] 0),(6,Ay),(7,BQ),(8,dI EP)]:List (Nat×AV))
abbrev nt En:=([.box Iv,.box eI,J1 En]:List Blk)
abbrev Qw En EP H6:=([.box (.pr (Bl En) (.pr (dI EP) .u)),.box Iv,.box Wc,J1 H6]:List Blk)
abbrev Xq En EP H6 OY:=([(0,.ptr 0 En [] 0),(1,Aj EP),(4,Ay),(5,BQ),(6,dI H6),(7,dI OY)]:List (Nat×AV))
abbrev Uw:=([(7,.AA 0)]:List (Nat×AV))
abbrev wv En:=([(2,M6 En),(4,Aq),(7,.zs),(11,Ay)]:List (Nat×AV))
abbrev bX En EP H6:=([(0,V9 En),(4,.AA 0),(5,dI EP),(6,dI H6)]:List (Nat×AV))
abbrev nu En EP:=([(0,V9 En),(4,.AA 0),(6,dI EP),(7,.AA 1)]:List (Nat×AV))
abbrev wx En EP H6:=([(0,FF En),(3,.AA 0),(4,dI EP),(5,dI H6)]:List (Nat×AV))
abbrev ny En EP:=([.box (.pr .zs Iv),.box (.pr (.AA 2) Wc),FJ En,LK EP]:List Blk)
abbrev Ox En EP:=([BM En,Qx EP]:List Blk)
abbrev nz En EP H6 OY:=([(2,.AA 0),(9,.AA 1),(13,dB En),(14,dI EP),(15,dI H6),(16,dI OY)]:List (Nat×AV))
abbrev wy En EP H6 OY Xu jR:=([(2,.AA 0),(9,.AA 1),(13,dB En),(14,dI EP),(15,dI H6),(16,dI OY),(17,dI Xu),(18,dI jR)]:List (Nat×AV))
abbrev iY En EP H6 OY Xu:=([(2,.AA 0),(9,.AA 1),(13,dB En),(14,dI EP),(15,dI H6),(16,dI OY),(17,dI Xu)]:List (Nat×AV))
abbrev wz En EP:=([(2,.AA 0),(7,.AA 1),(9,.AA 2),(10,dI En),(11,dI EP)]:List (Nat×AV))
abbrev wA En EP H6:=([(0,eB En),(2,Aq),(3,Ay),(4,dI EP),(5,.AA 2),(6,dI H6)]:List (Nat×AV))
abbrev nC En EP:=([.box Iv,.box Wc,B4 En,J1 EP]:List Blk)
abbrev nD En EP:=([(0,.D7 [] Ad En),(7,dI EP)]:List (Nat×AV))
abbrev wB En EP H6 OY:=([(1,dI En),(3,Ay),(10,eC EP),(11,dI H6),(12,dI OY)]:List (Nat×AV))
abbrev wC En EP H6:=([(0,.AA 1),(8,FF En),(9,dI EP),(10,dI H6)]:List (Nat×AV))
abbrev wD En EP H6 OY:=([(0,.AA 1),(6,BQ),(7,dI En),(8,FF EP),(9,dI H6),(10,dI OY)]:List (Nat×AV))
abbrev wE En EP H6 OY:=([(1,dI En),(2,dI EP),(3,Aq),(6,Ay),(7,BQ),(15,dI H6),(16,dI OY)]:List (Nat×AV))
abbrev wF En EP H6:=([.box (O8 En),.box ZC,.box (.pr (dI EP) Wc),Dt H6]:List Blk)
abbrev wG En EP H6 OY:=([(3,.AA 0),(5,Ay),(6,dI En),(8,FF EP),(9,dI H6),(10,dI OY)]:List (Nat×AV))
abbrev iZ En EP H6 OY:=([(0,.ptr 0 En [] 0),(8,OS EP),(9,OS H6),(10,dI OY)]:List (Nat×AV))
abbrev Zz En EP H6 OY Xu:=([.box (.pr (Aj En) Aoz),HZ EP,BM H6,FG OY none,.Be,DR Xu]:List Blk)
abbrev nE En EP H6 OY:=([(0,.ptr 0 En [] 0),(8,OS EP),(9,OS H6),(10,dI OY),(13,QI),(14,ZB)]:List (Nat×AV))
abbrev nF En EP H6 OY Xu jR h6_ h7_ h8_:=([.box (.pr (Aj En) eH),HZ EP,BM H6,FG OY none,.Be,.box (.pr (dI Xu) (.pr (dI jR) .u)),.box (.pr (dI h6_) (.pr (dI h7_) .u)),DR h8_]:List Blk)
abbrev ja En EP H6 OY:=([(0,.ptr 0 En [] 0),(8,OS EP),(9,OS H6),(10,dI OY),(11,QI),(12,ZB)]:List (Nat×AV))
abbrev wH En EP H6 OY Xu:=([(0,.ptr 0 En [] 0),(1,.Aw [1] (.sl Ae) EP),(2,.Aw [1] (.sl Ae) H6),(18,.AA 5),(19,dI OY),(20,dI Xu)]:List (Nat×AV))
abbrev wJ En EP H6 OY Xu jR:=([.box (.pr (Aj En) Aox),HZ EP,BM H6,FG OY none,.Be,.row 122 (.sh [1]) Ae Xu,DR jR]:List Blk)
abbrev ZA En EP H6 OY Xu:=([.box (.pr (Aj En) AoA),BM EP,FG H6 none,.Be,.box Iv,.box Abj,DR OY,J1 Xu]:List Blk)
abbrev nG En EP H6 OY Xu jR:=([(2,QJ),(7,QI),(8,dI En),(68,.AA 1),(69,dI EP),(70,dI H6),(75,.Aw [1] (.sl .bool) OY),(76,dI Xu),(77,dI jR)]:List (Nat×AV))
abbrev nH En EP H6 OY:=([.box (.pr (Aj En) AoB),BM EP,FG H6 none,.Be,.box Iv,DR OY]:List Blk)
abbrev nI En EP H6:=([(3,Aj En),(4,Cu EP),(5,Aq),(8,Ay),(16,dI H6)]:List (Nat×AV))
abbrev Sd En EP:=([.box (Cc En),.box eI,J1 EP]:List Blk)
abbrev AyN:Ty:=.int .i64
abbrev AyO:Ty:=.int .u64
abbrev AyP:Ty:=.int .u8
abbrev AyQ:Ty:=.sl Aa
abbrev AyR:Ty:=.sl AyN
abbrev AyS:Ty:=.sl Ae
abbrev AyT:Ty:=.sl Ab
abbrev AyU:Ty:=.sl .bool
abbrev AyV:Ty:=.sl AyP
abbrev AyW:Ty:=.sl Af
abbrev AyX:Ty:=.sl AyS
abbrev AyY:Ty:=.sl AyU
abbrev Ax3:=AB.V
abbrev Ax4:=AJ.V
abbrev Ax5:=Aa.V
abbrev Ax6:=Ab.V
abbrev Ax7:=Ad.V
abbrev Ax8:=Ae.V
abbrev Ax9:=Af.V
abbrev Aya:=Ah.V
abbrev Ayb:=Ai.V
abbrev Ayc:=Ak.V
abbrev Ayd:=List Int
abbrev Aye:=List Bool
abbrev Ayf:=List Ax5
abbrev Ayg:=List Ax6
abbrev Ayh:=List Ax7
abbrev Ayi:=List Ax8
abbrev Ayj:=List Ax9
abbrev Ayk:=List Aya
abbrev Ayl:=List Ayc
abbrev Aym:=List Ayd
abbrev Ayn:=List Aye
abbrev Ayo:=List Ayf
abbrev Ayp:=List Ayi
abbrev Ayq:=Ax5×Ayf
abbrev Ayr:=Ayi×Unit
abbrev Ays:=Int×Ayd×Int
abbrev Ayt:=Ayd×Int×Ayh
abbrev Ayu:=Ayg×Ayn×Ayf
abbrev Ayv:=Int×Ayd
abbrev Ayw:=Ayd×Int×Aym
abbrev Ayx:=Bool×Ayi
abbrev Ayy:=Bool×Ayn
abbrev Ayz:=Int×Ayi
abbrev AyA:=Ayd×Int×Ayj
abbrev AyB:=Int×Int×Int×Int×Ayd
abbrev AyC:=Int×Int
abbrev AyD:=Int×Ayd×Int×Ayd
abbrev AyE:=Int×Ayd×Int×Ayh
abbrev AyF:=Int×Ayg×Ayn×Ayf
abbrev AyG:=Ayi×Ayi×Unit
abbrev AyH:=Aye×Ayd
abbrev AyI:=Int×Ayf
abbrev AyJ:=List Ayq
abbrev AyK:=Ayi×Ayr
abbrev AyL:=List AyK
abbrev AyM:=Ayg×Ayn×AyJ×Ayf
def C6:lA:=[
 (2,⟨AyN,[],0,8,0,0,false⟩),
 (3,⟨AyN,[],0,8,0,0,false⟩),
 (4,⟨.bool,[],0,1,0,0,false⟩),
 (5,⟨AyP,[],0,1,0,0,false⟩),
 (9,⟨.str,[],0,16,0,0,false⟩),
 (22,⟨AyV,[],5,24,0,0,false⟩),
 (24,⟨AyT,[],44,24,0,0,false⟩),
 (25,⟨AyW,[],83,24,0,0,false⟩),
 (26,⟨.sl AyR,[],33,24,0,0,false⟩),
 (28,⟨Ai,[0],0,24,0,0,false⟩),
 (33,⟨AyR,[],2,24,0,0,false⟩),
 (44,⟨Ab,[0,1],0,24,0,0,false⟩),
 (47,⟨.sl AyO,[],101,24,0,0,false⟩),
 (49,⟨AB,[0,1],0,32,0,0,false⟩),
 (51,⟨Ad,[0,1,2,3,4,6],0,88,0,0,false⟩),
 (52,⟨.sl Ad,[],51,24,0,0,false⟩),
 (54,⟨AJ,[0],0,24,0,0,false⟩),
 (62,⟨AyY,[],86,24,0,0,false⟩),
 (66,⟨.sl (.AH AyS (.AH AyS .unit)),[],72,24,0,0,false⟩),
 (71,⟨AyS,[],122,24,0,0,false⟩),
 (72,⟨.AH AyS (.AH AyS .unit),[],71,48,2,0,false⟩),
 (83,⟨Af,[0,1,2,3],0,64,0,0,false⟩),
 (86,⟨AyU,[],4,24,0,0,false⟩),
 (101,⟨AyO,[],0,8,0,0,false⟩),
 (111,⟨jB,[0,1],0,32,0,0,false⟩),
 (117,⟨AyX,[],71,24,0,0,false⟩),
 (120,⟨.sl Ak,[],125,24,0,0,false⟩),
 (122,⟨Ae,[0,1,2,3],0,56,0,0,false⟩),
 (123,⟨AyQ,[],129,24,0,0,false⟩),
 (125,⟨Ak,[0,1],0,48,0,0,false⟩),
 (129,⟨Aa,[0,1],0,16,0,0,false⟩),
 (130,⟨.O3 1,[],131,8,0,140,false⟩),
 (131,⟨.sl (.AH AyN (.AH AyN .unit)),[],140,24,0,0,false⟩),
 (133,⟨b8,[0,1,2,3],0,80,0,0,false⟩),
 (136,⟨.sl Ah,[],139,24,0,0,false⟩),
 (139,⟨Ah,[0,1,2],0,24,0,0,false⟩),
 (140,⟨.AH AyN (.AH AyN .unit),[],2,16,2,0,false⟩),
 (144,⟨AyO,[],0,8,0,0,false⟩),
 (224,⟨.sl AyQ,[],123,24,0,0,false⟩)]
theorem Aov:Xl prog C6=true:=by kernel_rfl
theorem mixed:prog.follows .mixedOrders=true:=by kernel_rfl
abbrev eN(l:List (Nat×Va.Callee))(fi:FI):Fe:=⟨C6,L4 l,fi⟩
theorem pk{l fi}(h:qw prog l):Hy prog ⟨C6,L4 l,fi⟩:=⟨⟨Aov,sS h⟩,mixed⟩
noncomputable section
abbrev E0:=eN [] {}
def YR(a:Ayd):Bool:=(decide ((a.length:Int)>1048576))
def c5:=Ff [.d AyV] [⟨[.Aw [] AyV],[],Bool,λp=>some (YR p.1.1),λr=>(dB r,[])⟩]
theorem AcD:Am prog 5 c5:=Ax (fn:=f5) ⟨⟨E0,pk trivial,λ_ _ _=>by kernel_rfl⟩,trivial⟩
abbrev E1:=eN [] {}
def Hw(a:Ayd):Ays:=(0,a,0)
def c18:=Ff [.d AyV] [⟨[.Aw [] AyV],[],Ays,λp=>some (Hw p.1.1),λr=>(.ptr 0 r.1 [] 0,[.box (.pr (Bl r.2.1) (.pr (dI r.2.2) .u))])⟩]
theorem xl:Am prog 18 c18:=Ax (fn:=f18) ⟨⟨E1,pk trivial,λ_ _ _=>by kernel_rfl⟩,trivial⟩
abbrev E2:=eN [] {}
def DK(a:Int)(b:Ayd)(c:Int):Ay0 Ays:=
 bif decide (c>=(b.length:Int))then
 some (0,b,c)
 else
 if 0<=(wI ((wI (c+1))-1))/\(wI ((wI (c+1))-1))<b.length then
 some (wI (b.getD (wI ((wI (c+1))-1)).toNat AyP.zero),b,wI (c+1))
 else none
def c78:=Ff [.Sm] [⟨[.ptr 0 [] 0],[.box (.pr (.Aw [] AyV) (.pr (.Aw [] AyN) (.k .u)))],Ays,λp=>DK p.1.1 p.2.1.1 p.2.1.2.1,λr=>(dI r.1,[.box (.pr (Bl r.2.1) (.pr (dI r.2.2) .u))])⟩]
theorem lO:Am prog 78 c78:=Ax (fn:=f78) ⟨⟨E2,pk trivial,λ_ R K=>by
 simp only[DK,Ax2];kernel_rfl⟩,trivial⟩
abbrev E3:=eN [(78,c78)] {}
def An(a b:Int)(c:Ayd)(d:Int):Ay0 Ays:=
 bif decide (b<=1)then
 some (0,c,d)
 else
 bif decide (b<=256)then
 (DK a c d).bind λe=>if b=(0:Int)then none else
 some (Int.tmod e.1 b,e.2.1,e.2.2)
 else
 (DK a c d).bind λg=>(DK a g.2.1 g.2.2).bind λi=>if b=(0:Int)then none else
 some (Int.tmod (wI ((wI (g.1*256))+i.1)) b,i.2.1,i.2.2)
def lM:=Ff [.Sm,.d AyN] [⟨[.ptr 0 [] 0,.Aw [] AyN],[.box (.pr (.Aw [] AyV) (.pr (.Aw [] AyN) (.k .u)))],Ays,λp=>An p.1.1 p.1.2.1 p.2.1.1 p.2.1.2.1,λr=>(dI r.1,[.box (.pr (Bl r.2.1) (.pr (dI r.2.2) .u))])⟩]
theorem J5:Am prog 40 lM:=Ax (fn:=f40) ⟨⟨E3,pk ⟨lO,trivial⟩,λ_ R K=>by
 simp only[An,Ax2];kernel_rfl⟩,trivial⟩
abbrev E4:=eN [(40,lM)] {}
def Bd(a b:Int)(c:Ayd)(d:Int):Ay0 (Bool×Ayd×Int):=
 (An a b c d).bind λe=>some (e.1==(wI (b-1)),e.2.1,e.2.2)
def c21:=Ff [.Sm,.d AyN] [⟨[.ptr 0 [] 0,.Aw [] AyN],[.box (.pr (.Aw [] AyV) (.pr (.Aw [] AyN) (.k .u)))],Bool×Ayd×Int,λp=>Bd p.1.1 p.1.2.1 p.2.1.1 p.2.1.2.1,λr=>(dB r.1,[.box (.pr (Bl r.2.1) (.pr (dI r.2.2) .u))])⟩]
theorem Tv:Am prog 21 c21:=Ax (fn:=f21) ⟨⟨E4,pk ⟨J5,trivial⟩,λ_ R K=>by
 simp only[Bd,Ax2];kernel_rfl⟩,trivial⟩
abbrev E5:=eN [(40,lM)] {}
def JS(a:Int)(b:Ayd)(c:Int):Ay0 Ays:=
 (An a 10 b c).bind λd=>bif d.1==0 then
 (An a 7 d.2.1 d.2.2).bind λe=>if(0:Int)<=e.1/\e.1<(7:Int)then
 some (([63,64,65,127,128,129,200]:Ayd).getD e.1.toNat AyN.zero,e.2.1,e.2.2)
 else none
 else
 bif d.1==1 then
 (An a 40 d.2.1 d.2.2).bind λg=>some (wI (1+g.1),g.2.1,g.2.2)
 else
 (An a 12 d.2.1 d.2.2).bind λi=>some (wI (1+i.1),i.2.1,i.2.2)
def c56:=Ff [.Sm] [⟨[.ptr 0 [] 0],[.box (.pr (.Aw [] AyV) (.pr (.Aw [] AyN) (.k .u)))],Ays,λp=>JS p.1.1 p.2.1.1 p.2.1.2.1,λr=>(dI r.1,[.box (.pr (Bl r.2.1) (.pr (dI r.2.2) .u))])⟩]
theorem xJ:Am prog 56 c56:=Ax (fn:=f56) ⟨⟨E5,pk ⟨J5,trivial⟩,λ_ R K=>by
 simp only[JS,Ax2];kernel_rfl⟩,trivial⟩
abbrev E6:=eN [(21,c21),(40,lM),(56,c56)] {Bv:=[(3,{Bb:=[0,3,4],Cy:=[(3,false,.row [] 44 Ab true)]})],CM:=[(3,{Bb:=[3],Ph:=[(3,false,AyT)]})],B5:=[(8,[0,3,4,5])],EO:=[(8,[0,3,4,5])],Ph:=[(0,AyT)]}
def ApG(a:Int)(z_:Int×Ayd×Int×Ayg):=sT 42 [(0,.ptr 0 a [] 0),(3,.AA 1),(4,dI z_.1)] [.box (.pr (Bl z_.2.1) (.pr (dI z_.2.2.1) .u)),eE z_.2.2.2]
def ApC(a:Int):=λ(b:(Ayg×Ayd×Int))=>xE 0 42 [(3,Aj b.1)] (qe b.2.1 b.2.2)
def ApF(a:Int) c d e g i:=sT 42 [(0,.ptr 0 a [] 0),(3,.AA 1),(4,dI c),(5,dI e)] [.box (.pr (Bl g) (.pr (dI i) .u)),eE d]
def ApB(a:Int) c d (e:Int) (g:Ayd) (i:Int):=λ(j:Ays)=>xN 42 [(0,.ptr 0 a [] 0),(3,.AA 1),(4,dI c),(5,dI j.1)] [.box (.pr (Bl j.2.1) (.pr (dI j.2.2) .u)),eE d]
def Fz(a c:Int)(d:Ayg)(e:Int)(g:Ayd)(i:Int):Ay0 Ays:=
 (Bd a 6 g i).bind λk=>bif k.1 then
 (JS a k.2.1 k.2.2).bind λl=>some (l.1,l.2.1,l.2.2)
 else
 some (e,k.2.1,k.2.2)
theorem ApJ a c d e g i:AX E6 1 8 (cd f19 116) 50 (ApF a c d e g i) (Fz a c d e g i) (ApB a c d e g i):=by
 unfold AX;simp only[Fz,Ax1];kernel_rfl
def JQ(a c:Int)(n:Ayd)(o:Int)(d:Ayg):Ay0 ((Int×Ayd×Int×Ayg)⊕(Ayg×Ayd×Int)):=
 bif decide (c>0)then
 (An a 8 n o).bind λq=>(Fz a c d (wI (1+q.1)) q.2.1 q.2.2).bind λj=>if(d.length+([(bytesOf ([IntKind.u8.wrap (wI (97+(Int.tmod (d.length:Int) 26)))]:Ayd),j.1,())]:Ayg).length)*24<=140737488355328 then
 some (.inl (wI (c-1),j.2.1,j.2.2,d++([(bytesOf ([IntKind.u8.wrap (wI (97+(Int.tmod (d.length:Int) 26)))]:Ayd),j.1,())]:Ayg)))
 else none
 else
 some (.inr (d,n,o))
def Gh a (z_:Int×Ayd×Int×Ayg):=JQ a z_.1 z_.2.1 z_.2.2.1 z_.2.2.2
def HO a c n o d:=fix (Gh a) (c,n,o,d)
theorem ApK a:A8 E6 1 3 (code f19) 58 (ApG a) (Gh a) (ApC a):=by
 intro _;simp(disch:=refine id ?_;kernel_rfl) only[Gh,JQ,Ax1,A7 (ApJ ..) (K:=L5 E6 1 3)];kernel_rfl
def Ie(a:Int)(s:Ayd)(t:Int):Ay0 (Ayg×Ayd×Int):=
 (An a (if(wI (2+(wI (Int.tdiv (s.length:Int) 10))))<6 then(wI (2+(wI (Int.tdiv (s.length:Int) 10))))else 6) s t).bind λu=>(HO a (wI (1+u.1)) u.2.1 u.2.2 ([]:Ayg)).bind λb=>some (b.1,b.2.1,b.2.2)
def c19:=Ff [.Sm] [⟨[.ptr 0 [] 0],[.box (.pr (.Aw [] AyV) (.pr (.Aw [] AyN) (.k .u)))],Ayg×Ayd×Int,λp=>Ie p.1.1 p.2.1.1 p.2.1.2.1,λr=>(Aj r.1,[.box (.pr (Bl r.2.1) (.pr (dI r.2.2) .u))])⟩]
theorem xm:Am prog 19 c19:=Ax (fn:=f19) ⟨⟨E6,pk ⟨Tv,J5,xJ,trivial⟩,λ_ R K=>by
 simp(disch:=refine id ?_;kernel_rfl) only[Ie,Ax2,HO,AO (ApK _) (K:=A6 E6 f19 1 R K)];kernel_rfl⟩,trivial⟩
abbrev E7:=eN [(40,lM)] {B5:=[(4,[0,7])],EO:=[(4,[0,2,7])]}
def AiN(a:Int) b (c:Ayd) d e:=sT 24 [(0,.ptr 0 a [] 0),(2,dI b),(7,dI (wI (1+(wI (Int.tdiv (c.length:Int) d)))))] (qe c e)
def AbK(a:Int)(c:Ayd)(e m0:Int):Ex×St:=xN 24 [(0,.ptr 0 a [] 0),(7,dI m0)] (qe c e)
theorem ApL a b c d e:S1 E7 1 4 (code f90) (pt 14) (AiN a b c d e)=some (AbK a c e (bif decide ((wI (1+(wI (Int.tdiv (c.length:Int) d))))>b)then b else(wI (1+(wI (Int.tdiv (c.length:Int) d)))))):=by
 refine .trans (b:=
 bif decide ((wI (1+(wI (Int.tdiv (c.length:Int) d))))>b)then
 some (AbK a c e b)
 else
 some (AbK a c e (wI (1+(wI (Int.tdiv (c.length:Int) d)))))) (by kernel_rfl) ?_
 cases (decide ((wI (1+(wI (Int.tdiv (c.length:Int) d))))>b));rfl;rfl
def JR(a d b:Int)(c:Ayd)(e:Int):Ay0 Ays:=
 if d=(0:Int)then none else
 Np (AiN a b c d e) (
 (An a (bif decide ((wI (1+(wI (Int.tdiv (c.length:Int) d))))>b)then b else(wI (1+(wI (Int.tdiv (c.length:Int) d))))) c e).bind λg=>some (wI (1+g.1),g.2.1,g.2.2))
def c90:=Ff [.Sm,.d AyN,.d AyN] [⟨[.ptr 0 [] 0,.Aw [] AyN,.Aw [] AyN],[.box (.pr (.Aw [] AyV) (.pr (.Aw [] AyN) (.k .u)))],Ays,λp=>JR p.1.1 p.1.2.1 p.1.2.2.1 p.2.1.1 p.2.1.2.1,λr=>(dI r.1,[.box (.pr (Bl r.2.1) (.pr (dI r.2.2) .u))])⟩]
theorem xZ:Am prog 90 c90:=Ax (fn:=f90) ⟨⟨E7,pk ⟨J5,trivial⟩,λ_ R K=>by
 simp(disch:=refine id ?_;kernel_rfl) only[JR,Ax2,EM (ApL ..) (K:=A6 E7 f90 1 R K)];kernel_rfl⟩,trivial⟩
end
end Go.Proofs.X
namespace Go.Proofs.X
open Go Go.Va Go.Proofs.Tryz
set_option maxRecDepth 100000
noncomputable section
abbrev E8:=eN [(78,c78)] {Bv:=[(3,[0,3,4])],CM:=[(3,[3])]}
def ApH(a:Int)(z_:Int×Int×Ayd×Int):=sT 16 [(0,.ptr 0 a [] 0),(3,N2 z_.1),(4,dI z_.2.1)] (qe z_.2.2.1 z_.2.2.2)
def ApD(a:Int):=λ(b:Ays)=>xE 0 16 [(3,N2 b.1)] (qe b.2.1 b.2.2)
def K0(a c d:Int)(e:Ayd)(g:Int):Ay0 ((Int×Int×Ayd×Int)⊕Ays):=
 bif decide (d<8)then
 (DK a e g).bind λi=>some (.inl (Xe .u64 (KW .u64 c 8) (IntKind.u64.wrap i.1),wI (d+1),i.2.1,i.2.2))
 else
 some (.inr (c,e,g))
def G1 a (z_:Int×Int×Ayd×Int):=K0 a z_.1 z_.2.1 z_.2.2.1 z_.2.2.2
def I6 a c d e g:=fix (G1 a) (c,d,e,g)
theorem ApM a:A8 E8 1 3 (code f131) 58 (ApH a) (G1 a) (ApD a):=by
 intro _;simp only[G1,K0,Ax1];kernel_rfl
def Hk(a:Int)(j:Ayd)(k:Int):Ay0 Ays:=
 (I6 a 0 0 j k).bind λb=>some (b.1,b.2.1,b.2.2)
def Acw:=Ff [.Sm] [⟨[.ptr 0 [] 0],[.box (.pr (.Aw [] AyV) (.pr (.Aw [] AyN) (.k .u)))],Ays,λp=>Hk p.1.1 p.2.1.1 p.2.1.2.1,λr=>(N2 r.1,[.box (.pr (Bl r.2.1) (.pr (dI r.2.2) .u))])⟩]
theorem fl:Am prog 131 Acw:=Ax (fn:=f131) ⟨⟨E8,pk ⟨lO,trivial⟩,λ_ R K=>by
 simp(disch:=refine id ?_;kernel_rfl) only[Hk,Ax2,I6,AO (ApM _) (K:=A6 E8 f131 1 R K)];kernel_rfl⟩,trivial⟩
abbrev E9:=eN [] {Bv:=[(5,[0,2,4,5])],CM:=[(5,[2,4])],B5:=[(2,[0,2,13])],EO:=[(2,[0,2])],jo:=[(0,.row [1] 101 AyO true)]}
def ApI a b (z_:Int×Ayd):=sT 51 [(0,Bl a),(2,Aq),(4,Ay),(5,dI z_.1)] (wm b z_.2)
def ApE(a:Ayd) b:=λ(c:Ayd)=>xE 0 51 [(2,Aq),(4,Ay)] (wm b c)
def Hg(a:Ayd)(b d:Int)(e:Ayd):Ay0 (Ayv⊕Ayd):=
 bif decide (d<(a.length:Int))then
 if 0<=(wI (Int.tdiv d 64))/\(wI (Int.tdiv d 64))<e.length then
 if 0<=d/\d<a.length then
 if(IntKind.u64.wrap (Int.tmod d 64))<(0:Int)then none else
 if 0<=(wI (Int.tdiv d 64))/\(wI (Int.tdiv d 64))<e.length then
 some (.inl (wI (d+1),e.set (wI (Int.tdiv d 64)).toNat (Xe .u64 (e.getD (wI (Int.tdiv d 64)).toNat AyO.zero) (KW .u64 (IntKind.u64.wrap (a.getD d.toNat AyP.zero)) (IntKind.u64.wrap (Int.tmod d 64))))))
 else none
 else none
 else none
 else
 some (.inr e)
def EV a b (z_:Int×Ayd):=Hg a b z_.1 z_.2
def JL a b d e:=fix (EV a b) (d,e)
theorem ApO a b:A8 E9 0 5 (code f159) 122 (ApI a b) (EV a b) (ApE a b):=by
 intro _;simp only[EV,Hg,Ax1];kernel_rfl
def Ajq a:=sT 51 [(0,Bl a),(2,Aq)] [.box ZC]
def AbN(a:Ayd)(m0:Bool):Ex×St:=xN 51 [(0,Bl a),(2,Aq),(13,dB m0)] [.box ZC]
theorem ApN a:S1 E9 0 2 (code f159) (pt 12) (Ajq a)=some (AbN a ((decide ((a.length:Int)<1))||(decide ((a.length:Int)>4096)))):=by
 refine .trans (b:=
 bif decide ((a.length:Int)<1)then
 some (AbN a true)
 else
 some (AbN a (decide ((a.length:Int)>4096)))) (by kernel_rfl) ?_
 cases (decide ((a.length:Int)<1));rfl;rfl
def Hv(a:Ayd):Ay0 (Int×Bool×Ayd):=
 Np (Ajq a) (
 bif (decide ((a.length:Int)<1))||(decide ((a.length:Int)>4096))then
 some (0,false,([]:Ayd))
 else
 if Ty.row AyO=true/\(0:Int)<=(wI (Int.tdiv (wI ((a.length:Int)+63)) 64))/\(wI (Int.tdiv (wI ((a.length:Int)+63)) 64))<=(wI (Int.tdiv (wI ((a.length:Int)+63)) 64))/\((8:Nat):Int)*(wI (Int.tdiv (wI ((a.length:Int)+63)) 64))<=(281474976710656:Int)/\(wI (Int.tdiv (wI ((a.length:Int)+63)) 64))<=(9223372036854775807:Int)then
 (JL a (a.length:Int) 0 (List.replicate (wI (Int.tdiv (wI ((a.length:Int)+63)) 64)).toNat 0)).bind λc=>some ((a.length:Int),true,c)
 else none)
def AcA:=Ff [.d AyV] [⟨[.Aw [] AyV],[],Int×Bool×Ayd,λp=>Hv p.1.1,λr=>(.cons (.pr (dI r.1) T9) (.cons (dB r.2.1) .nil),[Dt r.2.2])⟩]
theorem fu:Am prog 159 AcA:=Ax (fn:=f159) ⟨⟨E9,pk trivial,λ_ R K=>by
 simp(disch:=refine id ?_;kernel_rfl) only[Hv,Ax2,EM (ApN _) (K:=A6 E9 f159 0 R K),JL,AO (ApO _ _) (K:=A6 E9 f159 0 R K)];kernel_rfl⟩,trivial⟩
abbrev E10:=eN [(40,lM),(131,Acw),(159,AcA)] {Bv:=[(5,{Bb:=[1,4,5,6,7,8],Cy:=[(5,false,.row [] 5 AyP true)]})],CM:=[(5,{Bb:=[4,5],Ph:=[(5,false,AyV)]})],B5:=[(10,[1,4,5,6,7,8,9]),(12,[1,4,5,6,7,8,9])],EO:=[(10,[1,4,5,6,7,8,9]),(12,[1,4,5,6,7,8,9])]}
def AgZ a b c d e (z_:Int×Ayd):=sT 44 [(1,dI a),(4,Ay),(5,.AA 2),(6,N2 b),(7,dI c),(8,dI z_.1)] (wu d e z_.2)
def Aey(a b c:Int) d e:=λ(g:Ayd)=>xE 0 44 [(4,Ay),(5,Bl g)] [.box (.pr (Bl d) (.pr (dI e) .u)),.box ZC]
def zT a b c i d e j:=sT 44 [(1,dI a),(4,Ay),(5,.AA 2),(6,N2 b),(7,dI c),(8,dI i),(9,T0 (bif c==0 then 0 else(IntKind.u8.wrap (Se .u64 (Ju .u64 b (IntKind.u64.wrap (Int.tmod (wI (i*7)) 64))) 1))))] (wu d e j)
def qA(a b c i:Int)(d:Ayd)(e:Int)(j:Ayd)(m0:Int):Ex×St:=xN 44 [(1,dI a),(4,Ay),(5,.AA 2),(6,N2 b),(7,dI c),(8,dI i),(9,T0 m0)] (wu d e j)
theorem Ajs a b c i d e j:S1 E10 1 12 (cd f132 500) (pt 102) (zT a b c i d e j)=some (qA a b c i d e j (bif c==1 then 1 else(bif c==0 then 0 else(IntKind.u8.wrap (Se .u64 (Ju .u64 b (IntKind.u64.wrap (Int.tmod (wI (i*7)) 64))) 1))))):=by
 refine .trans (b:=
 bif c==1 then
 some (qA a b c i d e j 1)
 else
 some (qA a b c i d e j (bif c==0 then 0 else(IntKind.u8.wrap (Se .u64 (Ju .u64 b (IntKind.u64.wrap (Int.tmod (wI (i*7)) 64))) 1))))) (by kernel_rfl) ?_
 cases (c==1);rfl;rfl
def zS a b c i d e j:=sT 44 [(1,dI a),(4,Ay),(5,.AA 2),(6,N2 b),(7,dI c),(8,dI i),(9,T0 (IntKind.u8.wrap (Se .u64 (Ju .u64 b (IntKind.u64.wrap (Int.tmod (wI (i*7)) 64))) 1)))] (wu d e j)
def qz(a b c i:Int)(d:Ayd)(e:Int)(j:Ayd)(m0:Int):Ex×St:=xN 44 [(1,dI a),(4,Ay),(5,.AA 2),(6,N2 b),(7,dI c),(8,dI i),(9,T0 m0)] (wu d e j)
theorem Ajr a b c i d e j:S1 E10 1 10 (cd f132 500) (pt 50) (zS a b c i d e j)=some (qz a b c i d e j (bif c==0 then 0 else(IntKind.u8.wrap (Se .u64 (Ju .u64 b (IntKind.u64.wrap (Int.tmod (wI (i*7)) 64))) 1)))):=by
 refine .trans (b:=
 bif c==0 then
 some (qz a b c i d e j 0)
 else
 some (qz a b c i d e j (IntKind.u8.wrap (Se .u64 (Ju .u64 b (IntKind.u64.wrap (Int.tmod (wI (i*7)) 64))) 1)))) (by kernel_rfl) ?_
 cases (c==0);rfl;rfl
def KX(a b c:Int)(d:Ayd)(e i:Int)(j:Ayd):Ay0 (Ayv⊕Ayd):=
 bif decide (i<a)then
 if(IntKind.u64.wrap (Int.tmod (wI (i*7)) 64))<(0:Int)then none else
 Np (zS a b c i d e j) (
 Np (zT a b c i d e j) (
 if(j.length+([(bif c==1 then 1 else(bif c==0 then 0 else(IntKind.u8.wrap (Se .u64 (Ju .u64 b (IntKind.u64.wrap (Int.tmod (wI (i*7)) 64))) 1))))]:Ayd).length)*1<=140737488355328 then
 some (.inl (wI (i+1),j++([(bif c==1 then 1 else(bif c==0 then 0 else(IntKind.u8.wrap (Se .u64 (Ju .u64 b (IntKind.u64.wrap (Int.tmod (wI (i*7)) 64))) 1))))]:Ayd)))
 else none))
 else
 some (.inr j)
def GY a b c d e (z_:Int×Ayd):=KX a b c d e z_.1 z_.2
def IY a b c d e i j:=fix (GY a b c d e) (i,j)
theorem Ajt a b c d e:A8 E10 1 5 (code f132) 250 (AgZ a b c d e) (GY a b c d e) (Aey a b c d e):=by
 intro _;simp(disch:=refine id ?_;kernel_rfl) only[GY,KX,Ax1,EM (Ajr ..) (K:=L5 E10 1 5),EM (Ajs ..) (K:=L5 E10 1 5)];kernel_rfl
def JN(k a:Int)(l:Ayd)(n:Int):Ay0 AyD:=
 (Hk k l n).bind λo=>(An k 4 o.2.1 o.2.2).bind λq=>(IY a o.1 q.1 q.2.1 q.2.2 0 ([]:Ayd)).bind λg=>(Hv g).bind λs=>some (s.1,q.2.1,q.2.2,s.2.2)
def AmJ:=Ff [.Sm,.d AyN] [⟨[.ptr 0 [] 0,.Aw [] AyN],[.box (.pr (.Aw [] AyV) (.pr (.Aw [] AyN) (.k .u)))],AyD,λp=>JN p.1.1 p.1.2.1 p.2.1.1 p.2.1.2.1,λr=>(.pr (dI r.1) (.pr (.AA 1) .u),[.box (.pr (Bl r.2.1) (.pr (dI r.2.2.1) .u)),Dt r.2.2.2])⟩]
theorem rP:Am prog 132 AmJ:=Ax (fn:=f132) ⟨⟨E10,pk ⟨J5,fl,fu,trivial⟩,λ_ R K=>by
 simp(disch:=refine id ?_;kernel_rfl) only[JN,Ax2,IY,AO (Ajt _ _ _ _ _) (K:=A6 E10 f132 1 R K)];kernel_rfl⟩,trivial⟩
abbrev E11:=eN [(40,lM),(131,Acw)] {}
def DJ(a b c:Int)(d:Ayd)(e:Int):Ay0 Ays:=
 (An a 8 d e).bind λg=>bif g.1==0 then
 some (b,g.2.1,g.2.2)
 else
 bif g.1==1 then
 some (c,g.2.1,g.2.2)
 else
 bif decide (c<b)then
 some (b,g.2.1,g.2.2)
 else
 (Hk a g.2.1 g.2.2).bind λi=>if(IntKind.u64.wrap (wI ((wI (c-b))+1)))=(0:Int)then none else
 some (wI (b+(wI (Int.tmod (Ju .u64 i.1 1) (IntKind.u64.wrap (wI ((wI (c-b))+1)))))),i.2.1,i.2.2)
def c92:=Ff [.Sm,.d AyN,.d AyN] [⟨[.ptr 0 [] 0,.Aw [] AyN,.Aw [] AyN],[.box (.pr (.Aw [] AyV) (.pr (.Aw [] AyN) (.k .u)))],Ays,λp=>DJ p.1.1 p.1.2.1 p.1.2.2.1 p.2.1.1 p.2.1.2.1,λr=>(dI r.1,[.box (.pr (Bl r.2.1) (.pr (dI r.2.2) .u))])⟩]
theorem lQ:Am prog 92 c92:=Ax (fn:=f92) ⟨⟨E11,pk ⟨J5,fl,trivial⟩,λ_ R K=>by
 simp only[DJ,Ax2];kernel_rfl⟩,trivial⟩
abbrev E12:=eN [] {}
def Ig(a:Ax7):Ay0 (Int×Int×Int×Int×Int×Ayd×Ayd):=
 if a.2.2.2.2.2.1.length*8<=140737488355328 then
 if a.2.2.2.2.1.2.1.length*8<=140737488355328 then
 some (a.1,a.2.1,a.2.2.1,a.2.2.2.1,a.2.2.2.2.1.1,a.2.2.2.2.1.2.1,a.2.2.2.2.2.1)
 else none
 else none
def AmV:=Ff [.d Ad] [⟨[.Aw [] Ad],[],Int×Int×Int×Int×Int×Ayd×Ayd,λp=>Ig p.1.1,λr=>(.pr (dI r.1) (.pr (dI r.2.1) (.pr (dI r.2.2.1) (.pr (dI r.2.2.2.1) (.pr (.pr (dI r.2.2.2.2.1) T9) (.pr (.AA 1) .u))))),[Dt r.2.2.2.2.2.1,B4 r.2.2.2.2.2.2])⟩]
theorem r7:Am prog 167 AmV:=Ax (fn:=f167) ⟨⟨E12,pk trivial,λ_ R K=>by
 simp only[Ig,Ax2];kernel_rfl⟩,trivial⟩
abbrev nL:=eN [(167,AmV)] {Bv:=[(5,[0,5,6,7]),(8,[0,5,6,7,8]),(13,{Bb:=[0,5,6,9,10],Cy:=[(9,false,.row [] 51 Ad true)]}),(18,[0,5,6,9,10,11,12])],CM:=[(5,{Bb:=[0,5,6],Ph:=[(5,false,AyU)]}),(8,[0,5,6,7]),(13,[9]),(18,[0,5,6,9,10,11])],B5:=[(10,[0,5,6,7,8]),(14,{Bb:=[0,5,6,9,10],Cy:=[(9,false,.row [] 51 Ad true)]})],EO:=[(10,[0,5,6,7,8]),(14,[0,5,6,9,10])]}
def Ag5 a b (z_:Int×Ayd×Ayh):=sT 101 (AdU a b z_.1) [B4 z_.2.1,FH z_.2.2]
def AeE(a:Ayh)(b:Aye):=λ(c:Ayh)=>xE 4 101 [(9,.AA 0)] [FH c]
def Ag4 a b d e g:=sT 101 (AdU a b d) [B4 e,FH g]
def AeD a b d (e:Ayd) (g:Ayh):=λ(i:(Ayd×Ayh))=>xN 101 (AdU a b d) [B4 i.1,FH i.2]
def Ag3 a b d e g j k l n o q (z_:Int×Ayd):=sT 101 [(0,Qv a),(5,N1 b),(6,.AA 0),(9,.AA 1),(10,dI d),(11,BQ),(12,dI z_.1)] [B4 e,FH g,.box (.pr (dI j) (.pr (dI k) (.pr (dI l) (.pr (dI n) (.pr (.pr (dI o) Wc) Ux))))),Dt q,B4 z_.2]
def AeC a b d e g j k l n o q:=λ(s:Ayd)=>xE 6 101 [(0,Qv a),(5,N1 b),(6,.AA 0),(9,.AA 1),(10,dI d),(11,BQ)] [B4 e,FH g,.box (.pr (dI j) (.pr (dI k) (.pr (dI l) (.pr (dI n) (.pr (.pr (dI o) Wc) Ux))))),Dt q,B4 s]
def MQ(a:Ayh)(b:Aye)(d:Int)(e:Ayd)(g:Ayh)(j k l n o:Int)(q:Ayd)(t:Int)(u:Ayd):Ay0 (Ayv⊕Ayd):=
 bif decide (t<(u.length:Int))then
 if 0<=t/\t<u.length then
 if(0:Int)<=(u.getD t.toNat AyN.zero)/\(u.getD t.toNat AyN.zero)<(e.length:Int)then
 if 0<=t/\t<u.length then
 some (.inl (wI (t+1),u.set t.toNat (e.getD (u.getD t.toNat AyN.zero).toNat AyN.zero)))
 else none
 else none
 else none
 else
 some (.inr u)
def I9 a b d e g j k l n o q (z_:Int×Ayd):=MQ a b d e g j k l n o q z_.1 z_.2
def Lx a b d e g j k l n o q t u:=fix (I9 a b d e g j k l n o q) (t,u)
theorem Ajx a b d e g j k l n o q:A8 nL 0 18 (sb (cd f133 2036) 6) 90 (Ag3 a b d e g j k l n o q) (I9 a b d e g j k l n o q) (AeC a b d e g j k l n o q):=by
 intro _;simp only[I9,MQ,Ax1];kernel_rfl
def Ly(a:Ayh)(b:Aye)(d:Int)(e:Ayd)(g:Ayh):Ay0 (Ayd×Ayh):=
 if 0<=d/\d<b.length then
 bif !(b.getD d.toNat (Ty.zero .bool))then
 some (e,g)
 else
 if 0<=d/\d<a.length then
 (Ig (a.getD d.toNat Ad.zero)).bind λv=>(Lx a b d e g v.1 v.2.1 v.2.2.1 v.2.2.2.1 v.2.2.2.2.1 v.2.2.2.2.2.1 0 v.2.2.2.2.2.2).bind λs=>if 0<=d/\d<e.length then
 if(g.length+([(v.1,v.2.1,v.2.2.1,v.2.2.2.1,(v.2.2.2.2.1,v.2.2.2.2.2.1,()),s,())]:Ayh).length)*88<=140737488355328 then
 some (e.set d.toNat (g.length:Int),g++([(v.1,v.2.1,v.2.2.1,v.2.2.2.1,(v.2.2.2.2.1,v.2.2.2.2.2.1,()),s,())]:Ayh))
 else none
 else none
 else none
 else none
theorem Ajy a b d e g:AX nL 0 14 (cd f133 2036) 6 (Ag4 a b d e g) (Ly a b d e g) (AeD a b d e g):=by
 unfold AX;simp(disch:=refine id ?_;kernel_rfl) only[Ly,Ax1,Lx,AO (Ajx _ _ _ _ _ _ _ _ _ _ _) (K:=OZ nL 0 14)];kernel_rfl
def MR(a:Ayh)(b:Aye)(d:Int)(e:Ayd)(g:Ayh):Ay0 ((Int×Ayd×Ayh)⊕Ayh):=
 bif decide (d<(a.length:Int))then
 (Ly a b d e g).bind λi=>some (.inl (wI (d+1),i.1,i.2))
 else
 some (.inr g)
def Ja a b (z_:Int×Ayd×Ayh):=MR a b z_.1 z_.2.1 z_.2.2
def Lz a b d e g:=fix (Ja a b) (d,e,g)
theorem Ajz a b:A8 nL 0 13 (code f133) 1018 (Ag5 a b) (Ja a b) (AeE a b):=by
 intro _;simp(disch:=refine id ?_;kernel_rfl) only[Ja,MR,Ax1,A7 (Ajy ..) (K:=L5 nL 0 13)];kernel_rfl
def Ag2 a w (z_:Int×Aye):=sT 101 [(0,Qv a),(5,.AA 0),(6,.AA 1),(7,dI z_.1)] [LK z_.2,B4 w]
def AeB a w:=λ(b:Aye)=>xE 0 101 [(0,Qv a),(5,N1 b),(6,.AA 0)] [B4 w]
def Ag1 a x w (z_:Int×Aye):=sT 101 (zM a x z_.1) [LK z_.2,B4 w]
def AeA a x w:=λ(y:Aye)=>xE 2 101 [(0,Qv a),(5,.AA 0),(6,.AA 1),(7,dI x)] [LK y,B4 w]
def Ag0 a x a1 b1 w:=sT 101 (zM a x a1) [LK b1,B4 w]
def Aez a x a1 b1 w:=Sum.elim (λ(c1:Unit)=>xN 101 (zM a x a1) [LK b1,B4 w]) (λ(d1:Unit)=>xE 2 101 (zM a x a1) [LK b1,B4 w])
def Lu(a:Ayh)(x a1:Int)(b1:Aye)(w:Ayd):Ay0 (Unit⊕Unit):=
 if 0<=x/\x<b1.length then
 bif b1.getD x.toNat (Ty.zero .bool)then
 if 0<=x/\x<a.length then
 bif decide (a1<((a.getD x.toNat Ad.zero).2.2.2.2.2.1.length:Int))then
 some (.inl ())
 else
 some (.inr ())
 else none
 else
 some (.inr ())
 else none
theorem Aju a x a1 b1 w:AX nL 0 10 (sb (cd f133 500) 100) 2 (Ag0 a x a1 b1 w) (Lu a x a1 b1 w) (Aez a x a1 b1 w):=by
 unfold AX;simp only[Lu,Ax1];kernel_rfl
def MO(a:Ayh)(x:Int)(w:Ayd)(a1:Int)(b1:Aye):Ay0 ((Int×Aye)⊕Aye):=
 (Lu a x a1 b1 w).bind (Sum.elim (λc1=>if 0<=x/\x<a.length then
 if 0<=a1/\a1<(a.getD x.toNat Ad.zero).2.2.2.2.2.1.length then
 if(0:Int)<=((a.getD x.toNat Ad.zero).2.2.2.2.2.1.getD a1.toNat AyN.zero)/\((a.getD x.toNat Ad.zero).2.2.2.2.2.1.getD a1.toNat AyN.zero)<(b1.length:Int)then
 some (.inl (wI (a1+1),b1.set ((a.getD x.toNat Ad.zero).2.2.2.2.2.1.getD a1.toNat AyN.zero).toNat true))
 else none
 else none
 else none) (λd1=>some (.inr b1)))
def I7 a x w (z_:Int×Aye):=MO a x w z_.1 z_.2
def Lv a x w a1 b1:=fix (I7 a x w) (a1,b1)
theorem Ajv a x w:A8 nL 0 8 (cd f133 500) 50 (Ag1 a x w) (I7 a x w) (AeA a x w):=by
 intro _;simp(disch:=refine id ?_;kernel_rfl) only[I7,MO,Ax1,A7 (Aju ..) (K:=L5 nL 0 8)];kernel_rfl
def MP(a:Ayh)(w:Ayd)(x:Int)(e1:Aye):Ay0 ((Int×Aye)⊕Aye):=
 bif decide (x>=0)then
 (Lv a x w 0 e1).bind λy=>some (.inl (wI (x-1),y))
 else
 some (.inr e1)
def I8 a w (z_:Int×Aye):=MP a w z_.1 z_.2
def Lw a w x e1:=fix (I8 a w) (x,e1)
theorem Ajw a w:A8 nL 0 5 (code f133) 250 (Ag2 a w) (I8 a w) (AeB a w):=by
 intro _;simp(disch:=refine id ?_;kernel_rfl) only[I8,MP,Ax1,Lv,AO (Ajv _ _ _) (K:=L5 nL 0 5)];kernel_rfl
def MN(a:Ayh)(g1:Int):Ay0 Ayh:=
 if Ty.row .bool=true/\(0:Int)<=(a.length:Int)/\(a.length:Int)<=(a.length:Int)/\((1:Nat):Int)*(a.length:Int)<=(281474976710656:Int)/\(a.length:Int)<=(9223372036854775807:Int)then
 if(0:Int)<=g1/\g1<((List.replicate (a.length:Int).toNat false).length:Int)then
 if Ty.row AyN=true/\(0:Int)<=(a.length:Int)/\(a.length:Int)<=(a.length:Int)/\((8:Nat):Int)*(a.length:Int)<=(281474976710656:Int)/\(a.length:Int)<=(9223372036854775807:Int)then
 (Lw a (List.replicate (a.length:Int).toNat 0) (wI ((a.length:Int)-1)) ((List.replicate (a.length:Int).toNat false).set g1.toNat true)).bind λb=>(Lz a b 0 (List.replicate (a.length:Int).toNat 0) ([]:Ayh)).bind λc=>some c
 else none
 else none
 else none
def AmK:=Ff [.d (.sl Ad),.d AyN] [⟨[.Aw [] (.sl Ad),.Aw [] AyN],[],Ayh,λp=>MN p.1.1 p.1.2.1,λr=>(.AA 0,[FH r])⟩]
theorem rQ:Am prog 133 AmK:=Ax (fn:=f133) ⟨⟨nL,pk ⟨r7,trivial⟩,λ_ R K=>by
 simp(disch:=refine id ?_;kernel_rfl) only[MN,Ax2,Lw,AO (Ajw _ _) (K:=A6 nL f133 0 R K),Lz,AO (Ajz _ _) (K:=A6 nL f133 0 R K)];kernel_rfl⟩,trivial⟩
abbrev E14:=eN [] {}
def Ku(a:Int):Bool:=((decide (a>=48))&&(decide (a<=57)))
theorem U14 R a K:RA E14 f134 R [T0 a] [] K=K (dB (Ku a)) []:=by
 refine .trans (b:=
 bif decide (a>=48)then
 K (dB (decide (a<=57))) []
 else
 K (dB false) []) (by kernel_rfl) ?_
 unfold Ku;cases (decide (a>=48));rfl;rfl
def AmL:=Ff [.d AyP] [⟨[.Aw [] AyP],[],Bool,λp=>some (Ku p.1.1),λr=>(dB r,[])⟩]
theorem rR:Am prog 134 AmL:=Ax ⟨⟨E14,pk trivial,λ_ _ _=>U14 ..⟩,trivial⟩
abbrev E15:=eN [(134,AmL)] {Bv:=[(4,[0,3])],CM:=[(4,[2])],B5:=[(2,[0,16]),(7,[0,3,39])],EO:=[(2,[0]),(7,[0,3])]}
def Ag8 a (z_:Int):=sT 40 [(0,Jp a),(3,dI z_)] []
def AeH(a:ByteArray):=Sum.elim (λ(b:Unit)=>xR 40 [(2,dB false)] []) (λ(c:Unit)=>xE 0 40 [] [])
def Ag7 a d:=sT 40 [(0,Jp a),(3,dI d)] []
def AeG a d:=λ(e:Bool)=>xN 40 [(0,Jp a),(3,dI d),(39,dB e)] []
def JM(a:ByteArray)(d:Int):Ay0 Bool:=
 if(0:Int)<=d/\d<(a.size:Int)then
 bif !(Ku (Cm a d))then
 if(0:Int)<=d/\d<(a.size:Int)then
 bif decide ((Cm a d)<97)then
 some true
 else
 if(0:Int)<=d/\d<(a.size:Int)then
 some (decide ((Cm a d)>122))
 else none
 else none
 else
 some false
 else none
theorem AjB a d:AX E15 0 7 (cd f94 116) 24 (Ag7 a d) (JM a d) (AeG a d):=by
 unfold AX;simp only[JM,Ax1];kernel_rfl
def Kv(a:ByteArray)(d:Int):Ay0 (Int⊕(Unit⊕Unit)):=
 bif decide (d<(a.size:Int))then
 (JM a d).bind λe=>bif e then
 some (.inr (.inl ()))
 else
 some (.inl (wI (d+1)))
 else
 some (.inr (.inr ()))
def Hh a (z_:Int):=Kv a z_
def Tb a d:=fix (Hh a) d
theorem AjC a:A8 E15 0 4 (code f94) 58 (Ag8 a) (Hh a) (AeH a):=by
 intro _;simp(disch:=refine id ?_;kernel_rfl) only[Hh,Kv,Ax1,A7 (AjB ..) (K:=L5 E15 0 4)];kernel_rfl
def Ag6 a:=sT 40 [(0,Jp a)] []
def AeF a:=λ(g:Bool)=>xN 40 [(0,Jp a),(16,dB g)] []
def MJ(a:ByteArray):Ay0 Bool:=
 bif decide ((a.size:Int)<1)then
 some true
 else
 bif decide ((a.size:Int)>12)then
 some true
 else
 if(0:Int)<=(0:Int)/\(0:Int)<(a.size:Int)then
 some (Ku (Cm a 0))
 else none
theorem AjA a:AX E15 0 2 (code f94) 12 (Ag6 a) (MJ a) (AeF a):=by
 unfold AX;simp only[MJ,Ax1];kernel_rfl
def L8(a:ByteArray):Ay0 Bool:=
 (MJ a).bind λg=>bif g then
 some false
 else
 (Tb a 0).bind (Sum.elim (λb=>some false) (λc=>some true))
def c94:=Ff [.d .str] [⟨[.Aw [] .str],[],Bool,λp=>L8 p.1.1,λr=>(dB r,[])⟩]
theorem x6:Am prog 94 c94:=Ax (fn:=f94) ⟨⟨E15,pk ⟨rR,trivial⟩,λ_ R K=>by
 simp(disch:=refine id ?_;kernel_rfl) only[L8,Ax2,A7 (AjA _) (K:=A6 E15 f94 0 R K),Tb,AO (AjC _) (K:=A6 E15 f94 0 R K)];kernel_rfl⟩,trivial⟩
end
end Go.Proofs.X
namespace Go.Proofs.X
open Go Go.Va Go.Proofs.Tryz
set_option maxRecDepth 100000
noncomputable section
abbrev E16:=eN [] {}
def Bj(a b c:Int):Bool:=((decide (a>=b))&&(decide (a<=c)))
theorem U16 R a b c K:RA E16 f61 R [dI a,dI b,dI c] [] K=K (dB (Bj a b c)) []:=by
 refine .trans (b:=
 bif decide (a>=b)then
 K (dB (decide (a<=c))) []
 else
 K (dB false) []) (by kernel_rfl) ?_
 unfold Bj;cases (decide (a>=b));rfl;rfl
def xM:=Ff [.d AyN,.d AyN,.d AyN] [⟨[.Aw [] AyN,.Aw [] AyN,.Aw [] AyN],[],Bool,λp=>some (Bj p.1.1 p.1.2.1 p.1.2.2.1),λr=>(dB r,[])⟩]
theorem Qg:Am prog 61 xM:=Ax ⟨⟨E16,pk trivial,λ_ _ _=>U16 ..⟩,trivial⟩
abbrev E17:=eN [(61,xM),(94,c94)] {Bv:=[(5,[0,3,4]),(10,[0,3,4,5])],CM:=[(5,[2,3]),(10,[0,2,3,4])],B5:=[(8,[0,3,4,30])],EO:=[(8,[0,3,4])]}
def Ahb a (z_:Int×Int):=sT 56 [(0,Aj a),(3,dI z_.1),(4,dI z_.2)] []
def AeK(a:Ayg):=Sum.elim (λ(b:Int)=>xR 56 [(2,dB false),(3,dI b)] []) (λ(c:Int)=>xE 0 56 [(3,dI c)] [])
def Aha a d e (z_:Int):=sT 56 [(0,Aj a),(3,dI d),(4,dI e),(5,dI z_)] []
def AeJ a d e:=Sum.elim (λ(g:Unit)=>xR 56 [(0,Aj a),(2,dB false),(3,dI d),(4,dI e)] []) (λ(i:Unit)=>xE 2 56 [(0,Aj a),(3,dI d),(4,dI e)] [])
def IU(a:Ayg)(d e j:Int):Ay0 (Int⊕(Unit⊕Unit)):=
 bif decide (j<e)then
 if 0<=j/\j<a.length then
 if 0<=e/\e<a.length then
 bif KL (a.getD j.toNat Ab.zero).1 (a.getD e.toNat Ab.zero).1 then
 some (.inr (.inl ()))
 else
 some (.inl (wI (j+1)))
 else none
 else none
 else
 some (.inr (.inr ()))
def Gd a d e (z_:Int):=IU a d e z_
def R8 a d e j:=fix (Gd a d e) j
theorem AjE a d e:A8 E17 0 10 (cd f60 244) 202 (Aha a d e) (Gd a d e) (AeJ a d e):=by
 intro _;simp only[Gd,IU,Ax1];kernel_rfl
def Ag9 a d e:=sT 56 [(0,Aj a),(3,dI d),(4,dI e)] []
def AeI a d e:=λ(k:Bool)=>xN 56 [(0,Aj a),(3,dI d),(4,dI e),(30,dB k)] []
def Ls(a:Ayg)(d e:Int):Ay0 Bool:=
 if 0<=e/\e<a.length then
 (L8 (a.getD e.toNat Ab.zero).1).bind λl=>bif !l then
 some true
 else
 if 0<=e/\e<a.length then
 some (!(Bj (a.getD e.toNat Ab.zero).2.1 1 4096))
 else none
 else none
theorem AjD a d e:AX E17 0 8 (cd f60 244) 48 (Ag9 a d e) (Ls a d e) (AeI a d e):=by
 unfold AX;simp only[Ls,Ax1];kernel_rfl
def IV(a:Ayg)(d e:Int):Ay0 (AyC⊕(Int⊕Int)):=
 bif decide (e<(a.length:Int))then
 (Ls a d e).bind λk=>bif k then
 some (.inr (.inl d))
 else
 (R8 a d e 0).bind (Sum.elim (λg=>some (.inr (.inl d))) (λi=>if 0<=e/\e<a.length then
 some (.inl (wI (d+(a.getD e.toNat Ab.zero).2.1),wI (e+1)))
 else none))
 else
 some (.inr (.inr d))
def Ge a (z_:Int×Int):=IV a z_.1 z_.2
def R9 a d e:=fix (Ge a) (d,e)
theorem AjF a:A8 E17 0 5 (code f60) 122 (Ahb a) (Ge a) (AeK a):=by
 intro _;simp(disch:=refine id ?_;kernel_rfl) only[Ge,IV,Ax1,A7 (AjD ..) (K:=L5 E17 0 5),R8,AO (AjE _ _ _) (K:=L5 E17 0 5)];kernel_rfl
def HN(a:Ayg):Ay0 Bool:=
 bif decide ((a.length:Int)>60)then
 some false
 else
 (R9 a 0 0).bind (Sum.elim (λb=>some false) (λc=>some (decide (c<=20000))))
def c60:=Ff [.d AyT] [⟨[.Aw [] AyT],[],Bool,λp=>HN p.1.1,λr=>(dB r,[])⟩]
theorem cq:Am prog 60 c60:=Ax (fn:=f60) ⟨⟨E17,pk ⟨Qg,x6,trivial⟩,λ_ R K=>by
 simp(disch:=refine id ?_;kernel_rfl) only[HN,Ax2,R9,AO (AjF _) (K:=A6 E17 f60 0 R K)];kernel_rfl⟩,trivial⟩
abbrev E18:=eN [] {}
def Cd(a:Ax3):Bool:=((a.1==0)&&((a.2.1.length:Int)==0))
theorem U18 R a K:RA E18 f168 R [O8 a] [] K=K (dB (Cd a)) []:=by
 refine .trans (b:=
 bif a.1==0 then
 K (dB ((a.2.1.length:Int)==0)) []
 else
 K (dB false) []) (by kernel_rfl) ?_
 unfold Cd;cases (a.1==0);rfl;rfl
def AmW:=Ff [.d AB] [⟨[.Aw [] AB],[],Bool,λp=>some (Cd p.1.1),λr=>(dB r,[])⟩]
theorem r8:Am prog 168 AmW:=Ax ⟨⟨E18,pk trivial,λ_ _ _=>U18 ..⟩,trivial⟩
abbrev E19:=eN [(61,xM)] {}
def AU(a:Int):Bool:=(Bj a 4 9)
def AmX:=Ff [.d AyN] [⟨[.Aw [] AyN],[],Bool,λp=>some (AU p.1.1),λr=>(dB r,[])⟩]
theorem r9:Am prog 169 AmX:=Ax (fn:=f169) ⟨⟨E19,pk ⟨Qg,trivial⟩,λ_ _ _=>by kernel_rfl⟩,trivial⟩
abbrev E20:=eN [] {}
def GF(a:Ax3)(b:Int):Ay0 Int:=
 if 0<=(wI (Int.tdiv b 64))/\(wI (Int.tdiv b 64))<a.2.1.length then
 if(IntKind.u64.wrap (Int.tmod b 64))<(0:Int)then none else
 some (IntKind.u8.wrap (Se .u64 (Ju .u64 (a.2.1.getD (wI (Int.tdiv b 64)).toNat AyO.zero) (IntKind.u64.wrap (Int.tmod b 64))) 1))
 else none
def xi:=Ff [.d AB,.d AyN] [⟨[.Aw [] AB,.Aw [] AyN],[],Int,λp=>GF p.1.1 p.1.2.1,λr=>(T0 r,[])⟩]
theorem X7:Am prog 139 xi:=Ax (fn:=f139) ⟨⟨E20,pk trivial,λ_ R K=>by
 simp only[GF,Ax2];kernel_rfl⟩,trivial⟩
abbrev E21:=eN [(61,xM),(139,xi)] {Bv:=[(4,[1,3])],CM:=[(4,[2])],B5:=[(2,[1,17])],EO:=[(2,[1])]}
def Ahc a (z_:Int):=sT 32 [(1,Aq),(3,dI z_)] [.box (O8 a)]
def AeL(a:Ax3):=Sum.elim (λ(b:Unit)=>xR 32 [(2,dB false)] []) (λ(c:Unit)=>xE 0 32 [] [])
def Kq(a:Ax3)(d:Int):Ay0 (Int⊕(Unit⊕Unit)):=
 bif decide (d<(wI (64*(a.2.1.length:Int))))then
 (GF a d).bind λe=>bif e !=0 then
 some (.inr (.inl ()))
 else
 some (.inl (wI (d+1)))
 else
 some (.inr (.inr ()))
def Hb a (z_:Int):=Kq a z_
def PT a d:=fix (Hb a) d
theorem AjH a:A8 E21 0 4 (code f170) 58 (Ahc a) (Hb a) (AeL a):=by
 intro _;simp only[Hb,Kq,Ax1];kernel_rfl
def zU a:=sT 32 [(1,Aq)] [.box (O8 a)]
def qB(a:Ax3)(m0:Bool):Ex×St:=xN 32 [(1,Aq),(17,dB m0)] [.box (O8 a)]
theorem AjG a:S1 E21 0 2 (code f170) (pt 12) (zU a)=some (qB a ((!(Bj a.1 1 4096))||((a.2.1.length:Int) !=(wI (Int.tdiv (wI (a.1+63)) 64))))):=by
 refine .trans (b:=
 bif !(Bj a.1 1 4096)then
 some (qB a true)
 else
 some (qB a ((a.2.1.length:Int) !=(wI (Int.tdiv (wI (a.1+63)) 64))))) (by kernel_rfl) ?_
 cases (!(Bj a.1 1 4096));rfl;rfl
def L6(a:Ax3):Ay0 Bool:=
 Np (zU a) (
 bif (!(Bj a.1 1 4096))||((a.2.1.length:Int) !=(wI (Int.tdiv (wI (a.1+63)) 64)))then
 some false
 else
 (PT a a.1).bind (Sum.elim (λb=>some false) (λc=>some true)))
def AmY:=Ff [.d AB] [⟨[.Aw [] AB],[],Bool,λp=>L6 p.1.1,λr=>(dB r,[])⟩]
theorem sa:Am prog 170 AmY:=Ax (fn:=f170) ⟨⟨E21,pk ⟨Qg,X7,trivial⟩,λ_ R K=>by
 simp(disch:=refine id ?_;kernel_rfl) only[L6,Ax2,EM (AjG _) (K:=A6 E21 f170 0 R K),PT,AO (AjH _) (K:=A6 E21 f170 0 R K)];kernel_rfl⟩,trivial⟩
abbrev E22:=eN [(61,xM),(168,AmW),(169,AmX),(170,AmY)] {Bv:=[(2,[0,2,4,7])],CM:=[(2,[0,4,6])],B5:=[(7,[0,4,63]),(8,[0,4,6])],EO:=[(7,[0,4]),(8,[0,4])]}
def Ahe a b:=sT 109 [(0,Aj a),(4,Aq)] (P4 b)
def AeN a b:=Sum.elim (λ(c:Unit)=>xR 109 [(0,Aj a),(4,Aq),(6,dB false)] (P4 b)) (λ(d:Unit)=>xN 109 [(0,Aj a),(4,Aq)] (P4 b))
def zV a b:=sT 109 [(0,Aj a),(4,Aq)] (P4 b)
def Iy(a:Ayg)(b:Ax7)(m0:Bool):Ex×St:=xN 109 [(0,Aj a),(4,Aq),(63,dB m0)] (P4 b)
theorem AjJ a b:S1 E22 0 7 (cd f135 14) (pt 2) (zV a b)=some (Iy a b (bif b.1 !=1 then((b.2.1 !=0)||(bif b.1 !=2 then((!(Cd b.2.2.2.2.1))||(bif b.1 !=4 then((b.2.2.2.1 !=0)||((!(AU b.1))&&(b.2.2.1 !=0)))else((!(AU b.1))&&(b.2.2.1 !=0))))else(bif b.1 !=4 then((b.2.2.2.1 !=0)||((!(AU b.1))&&(b.2.2.1 !=0)))else((!(AU b.1))&&(b.2.2.1 !=0)))))else(bif b.1 !=2 then((!(Cd b.2.2.2.2.1))||(bif b.1 !=4 then((b.2.2.2.1 !=0)||((!(AU b.1))&&(b.2.2.1 !=0)))else((!(AU b.1))&&(b.2.2.1 !=0))))else(bif b.1 !=4 then((b.2.2.2.1 !=0)||((!(AU b.1))&&(b.2.2.1 !=0)))else((!(AU b.1))&&(b.2.2.1 !=0)))))):=by
 refine .trans (b:=
 bif b.1 !=1 then
 bif b.2.1 !=0 then
 some (Iy a b true)
 else
 bif b.1 !=2 then
 bif !(Cd b.2.2.2.2.1)then
 some (Iy a b true)
 else
 bif b.1 !=4 then
 bif b.2.2.2.1 !=0 then
 some (Iy a b true)
 else
 bif !(AU b.1)then
 some (Iy a b (b.2.2.1 !=0))
 else
 some (Iy a b false)
 else
 bif !(AU b.1)then
 some (Iy a b (b.2.2.1 !=0))
 else
 some (Iy a b false)
 else
 bif b.1 !=4 then
 bif b.2.2.2.1 !=0 then
 some (Iy a b true)
 else
 bif !(AU b.1)then
 some (Iy a b (b.2.2.1 !=0))
 else
 some (Iy a b false)
 else
 bif !(AU b.1)then
 some (Iy a b (b.2.2.1 !=0))
 else
 some (Iy a b false)
 else
 bif b.1 !=2 then
 bif !(Cd b.2.2.2.2.1)then
 some (Iy a b true)
 else
 bif b.1 !=4 then
 bif b.2.2.2.1 !=0 then
 some (Iy a b true)
 else
 bif !(AU b.1)then
 some (Iy a b (b.2.2.1 !=0))
 else
 some (Iy a b false)
 else
 bif !(AU b.1)then
 some (Iy a b (b.2.2.1 !=0))
 else
 some (Iy a b false)
 else
 bif b.1 !=4 then
 bif b.2.2.2.1 !=0 then
 some (Iy a b true)
 else
 bif !(AU b.1)then
 some (Iy a b (b.2.2.1 !=0))
 else
 some (Iy a b false)
 else
 bif !(AU b.1)then
 some (Iy a b (b.2.2.1 !=0))
 else
 some (Iy a b false)) (by kernel_rfl) ?_
 cases (b.1 !=1);cases (b.1 !=2);cases (b.1 !=4);cases (!(AU b.1));rfl;rfl;cases (b.2.2.2.1 !=0);cases (!(AU b.1));rfl;rfl;rfl;cases (!(Cd b.2.2.2.2.1));cases (b.1 !=4);cases (!(AU b.1));rfl;rfl;cases (b.2.2.2.1 !=0);cases (!(AU b.1));rfl;rfl;rfl;rfl;cases (b.2.1 !=0);cases (b.1 !=2);cases (b.1 !=4);cases (!(AU b.1));rfl;rfl;cases (b.2.2.2.1 !=0);cases (!(AU b.1));rfl;rfl;rfl;cases (!(Cd b.2.2.2.2.1));cases (b.1 !=4);cases (!(AU b.1));rfl;rfl;cases (b.2.2.2.1 !=0);cases (!(AU b.1));rfl;rfl;rfl;rfl;rfl
def MK(a:Ayg)(b:Ax7):Ay0 (Unit⊕Unit):=
 Np (zV a b) (
 bif bif (b.1 !=1)then((b.2.1 !=0)||(bif (b.1 !=2)then((!(Cd b.2.2.2.2.1))||(bif (b.1 !=4)then((b.2.2.2.1 !=0)||((!(AU b.1))&&(b.2.2.1 !=0)))else((!(AU b.1))&&(b.2.2.1 !=0))))else(bif (b.1 !=4)then((b.2.2.2.1 !=0)||((!(AU b.1))&&(b.2.2.1 !=0)))else((!(AU b.1))&&(b.2.2.1 !=0)))))else(bif (b.1 !=2)then((!(Cd b.2.2.2.2.1))||(bif (b.1 !=4)then((b.2.2.2.1 !=0)||((!(AU b.1))&&(b.2.2.1 !=0)))else((!(AU b.1))&&(b.2.2.1 !=0))))else(bif (b.1 !=4)then((b.2.2.2.1 !=0)||((!(AU b.1))&&(b.2.2.1 !=0)))else((!(AU b.1))&&(b.2.2.1 !=0))))then
 some (.inl ())
 else
 some (.inr ()))
theorem AjK a b:AX E22 0 8 (code f135) 14 (Ahe a b) (MK a b) (AeN a b):=by
 unfold AX;simp(disch:=refine id ?_;kernel_rfl) only[MK,Ax1,EM (AjJ ..) (K:=OZ E22 0 8)];kernel_rfl
def Ahd a e b (z_:Int):=sT 109 [(0,Aj a),(2,dI e),(4,Aq),(7,dI z_)] (P4 b)
def AeM a (e:Int) b:=Sum.elim (λ(g:Unit)=>xR 109 [(0,Aj a),(4,Aq),(6,dB false)] (P4 b)) (λ(i:Unit)=>xE 0 109 [(0,Aj a),(4,Aq)] (P4 b))
def Kw(a:Ayg)(e:Int)(b:Ax7)(j:Int):Ay0 (Int⊕(Unit⊕Unit)):=
 bif decide (j<(b.2.2.2.2.2.1.length:Int))then
 if 0<=j/\j<b.2.2.2.2.2.1.length then
 bif !(Bj (b.2.2.2.2.2.1.getD j.toNat AyN.zero) 0 (wI (e-1)))then
 some (.inr (.inl ()))
 else
 some (.inl (wI (j+1)))
 else none
 else
 some (.inr (.inr ()))
def Hl a e b (z_:Int):=Kw a e b z_
def PU a e b j:=fix (Hl a e b) j
theorem AjI a e b:A8 E22 0 2 (code f135) 26 (Ahd a e b) (Hl a e b) (AeM a e b):=by
 intro _;simp only[Hl,Kw,Ax1];kernel_rfl
def L9(a:Ayg)(b:Ax7)(e:Int):Ay0 Bool:=
 (PU a e b 0).bind (Sum.elim (λg=>some false) (λi=>(MK a b).bind (Sum.elim (λc=>some false) (λd=>bif b.1==1 then
 bif (b.2.2.2.2.2.1.length:Int)==0 then
 some (Bj b.2.1 0 (wI ((a.length:Int)-1)))
 else
 some false
 else
 bif b.1==2 then
 bif (b.2.2.2.2.2.1.length:Int)==0 then
 (L6 b.2.2.2.2.1).bind λk=>some k
 else
 some false
 else
 bif b.1==3 then
 some (decide ((b.2.2.2.2.2.1.length:Int)>=2))
 else
 bif AU b.1 then
 some ((b.2.2.2.2.2.1.length:Int)==1)
 else
 some false))))
def AmM:=Ff [.d AyT,.d Ad,.d AyN] [⟨[.Aw [] AyT,.Aw [] Ad,.Aw [] AyN],[],Bool,λp=>L9 p.1.1 p.1.2.1 p.1.2.2.1,λr=>(dB r,[])⟩]
theorem rS:Am prog 135 AmM:=Ax (fn:=f135) ⟨⟨E22,pk ⟨Qg,r8,r9,sa,trivial⟩,λ_ R K=>by
 simp(disch:=refine id ?_;kernel_rfl) only[L9,Ax2,PU,AO (AjI _ _ _) (K:=A6 E22 f135 0 R K),A7 (AjK ..) (K:=A6 E22 f135 0 R K)];kernel_rfl⟩,trivial⟩
abbrev qv:=eN [(61,xM)] {Bv:=[(3,[0,2,4,7,8])],CM:=[(3,[0,4,7])],B5:=[(13,[4,59]),(17,[4,7,28,66]),(22,[4,7,28,77]),(28,[6,7])],EO:=[(13,[4,7]),(17,[4,7,28]),(22,[4,7,28]),(28,[0,4,7])]}
def Ahg a b c:=sT 95 [(0,Aj a),(4,Aq),(7,dI b)] (P4 c)
def AeP(a:Ayg) b (c:Ax7):=Sum.elim (λ(d:Int)=>xR 95 [(6,dI d),(7,dI b)] []) (Sum.elim (λ(e:Int)=>xR 95 [(6,dI e)] []) (λ(g:Unit)=>xN 95 [(7,dI b)] []))
def zY b (c:Ax7):=sT 95 [(4,Aq),(7,dI b),(28,dI c.1)] (P4 c)
def qD(b:Int)(c:Ax7)(m0:Bool):Ex×St:=xN 95 [(4,Aq),(7,dI b),(28,dI c.1),(77,dB m0)] (P4 c)
theorem AjO b c:S1 qv 0 22 (cd f136 30) (pt 3582) (zY b c)=some (qD b c (bif c.1==7 then(c.1==7)else(c.1==8))):=by
 refine .trans (b:=
 bif c.1==7 then
 some (qD b c (c.1==7))
 else
 some (qD b c (c.1==8))) (by kernel_rfl) ?_
 cases (c.1==7);rfl;rfl
def zX b (c:Ax7):=sT 95 [(4,Aq),(7,dI b),(28,dI c.1)] (P4 c)
def qC(b:Int)(c:Ax7)(m0:Bool):Ex×St:=xN 95 [(4,Aq),(7,dI b),(28,dI c.1),(66,dB m0)] (P4 c)
theorem AjN b c:S1 qv 0 17 (cd f136 30) (pt 894) (zX b c)=some (qC b c (bif c.1==5 then(c.1==5)else(c.1==6))):=by
 refine .trans (b:=
 bif c.1==5 then
 some (qC b c (c.1==5))
 else
 some (qC b c (c.1==6))) (by kernel_rfl) ?_
 cases (c.1==5);rfl;rfl
def zW b c:=sT 95 [(4,Aq),(7,dI b)] (P4 c)
def lj(c:Ax7)(m0:Bool):Ex×St:=xN 95 [(4,Aq),(59,dB m0)] (P4 c)
theorem AjM b c:S1 qv 0 13 (cd f136 30) (pt 1784) (zW b c)=some (lj c ((decide (c.2.2.2.1<0))||((decide (c.2.2.1<c.2.2.2.1))||(decide (c.2.2.1>=b))))):=by
 refine .trans (b:=
 bif decide (c.2.2.2.1<0)then
 some (lj c true)
 else
 bif decide (c.2.2.1<c.2.2.2.1)then
 some (lj c true)
 else
 some (lj c (decide (c.2.2.1>=b)))) (by kernel_rfl) ?_
 cases (decide (c.2.2.2.1<0));cases (decide (c.2.2.1<c.2.2.2.1));rfl;rfl;rfl
def MS(a:Ayg)(b:Int)(c:Ax7):Ay0 (Int⊕(Int⊕Unit)):=
 bif c.1==1 then
 if(0:Int)<=c.2.1/\c.2.1<(a.length:Int)then
 some (.inl (a.getD c.2.1.toNat Ab.zero).2.1)
 else none
 else
 bif c.1==2 then
 some (.inl c.2.2.2.2.1.1)
 else
 bif c.1==4 then
 Np (zW b c) (
 bif (decide (c.2.2.2.1<0))||((decide (c.2.2.1<c.2.2.2.1))||(decide (c.2.2.1>=b)))then
 some (.inr (.inl (-1)))
 else
 some (.inr (.inl (wI ((wI (c.2.2.1-c.2.2.2.1))+1)))))
 else
 Np (zX b c) (
 bif bif (c.1==5)then(c.1==5)else(c.1==6)then
 bif !(Bj c.2.2.1 0 4096)then
 some (.inl (-1))
 else
 some (.inl (wI (b+c.2.2.1)))
 else
 Np (zY b c) (
 bif bif (c.1==7)then(c.1==7)else(c.1==8)then
 bif !(Bj c.2.2.1 0 4096)then
 some (.inl (-1))
 else
 some (.inr (.inr ()))
 else
 bif c.1==9 then
 bif !(Bj c.2.2.1 1 4096)then
 some (.inl (-1))
 else
 some (.inl (wI (b*c.2.2.1)))
 else
 some (.inr (.inr ()))))
theorem AjP a b c:AX qv 0 28 (code f136) 30 (Ahg a b c) (MS a b c) (AeP a b c):=by
 unfold AX;simp(disch:=refine id ?_;kernel_rfl) only[MS,Ax1,EM (AjM ..) (K:=OZ qv 0 28),EM (AjN ..) (K:=OZ qv 0 28),EM (AjO ..) (K:=OZ qv 0 28)];kernel_rfl
def Ahf a i c (z_:Int×Int):=sT 95 [(0,Aj a),(2,HY i),(4,Aq),(7,dI z_.1),(8,dI z_.2)] (P4 c)
def AeO a (i:Ayd) c:=λ(b:Int)=>xE 0 95 [(0,Aj a),(4,Aq),(7,dI b)] (P4 c)
def Rf(a:Ayg)(i:Ayd)(c:Ax7)(j k:Int):Ay0 (AyC⊕Int):=
 bif decide (k<(c.2.2.2.2.2.1.length:Int))then
 if 0<=k/\k<c.2.2.2.2.2.1.length then
 if(0:Int)<=(c.2.2.2.2.2.1.getD k.toNat AyN.zero)/\(c.2.2.2.2.2.1.getD k.toNat AyN.zero)<(i.length:Int)then
 some (.inl ((if(wI (j+(i.getD (c.2.2.2.2.2.1.getD k.toNat AyN.zero).toNat AyN.zero)))<8192 then(wI (j+(i.getD (c.2.2.2.2.2.1.getD k.toNat AyN.zero).toNat AyN.zero)))else 8192),wI (k+1)))
 else none
 else none
 else
 some (.inr j)
def Ky a i c (z_:Int×Int):=Rf a i c z_.1 z_.2
def Tc a i c j k:=fix (Ky a i c) (j,k)
theorem AjL a i c:A8 qv 0 3 (code f136) 58 (Ahf a i c) (Ky a i c) (AeO a i c):=by
 intro _;simp only[Ky,Rf,Ax1];kernel_rfl
def Oq(a:Ayg)(c:Ax7)(i:Ayd):Ay0 Int:=
 (Tc a i c 0 0).bind λb=>(MS a b c).bind (Sum.elim (λd=>some d) (Sum.elim (λe=>some e) (λg=>some b)))
def AmN:=Ff [.d AyT,.d Ad,.d AyR] [⟨[.Aw [] AyT,.Aw [] Ad,.Aw [] AyR],[],Int,λp=>Oq p.1.1 p.1.2.1 p.1.2.2.1,λr=>(dI r,[])⟩]
theorem rT:Am prog 136 AmN:=Ax (fn:=f136) ⟨⟨qv,pk ⟨Qg,trivial⟩,λ_ R K=>by
 simp(disch:=refine id ?_;kernel_rfl) only[Oq,Ax2,Tc,AO (AjL _ _ _) (K:=A6 qv f136 0 R K),A7 (AjP ..) (K:=A6 qv f136 0 R K)];kernel_rfl⟩,trivial⟩
end
end Go.Proofs.X
