import Derived.Shelf.SortG.Plain
import Derived.Shelf.SortG.SortNone
import Derived.Shelf.SlicesG.CompactI
import Derived.KernelRfl
import Derived.Test.YtniphlhooggimaaGreatShelf
import Derived.Test.YtniphlhooggimaaGreatProg
import Derived.Test.YtniphlhooggimaaGreatK1
set_option linter.unusedVariables false
set_option linter.unusedSimpArgs false
namespace Go.Va
theorem Aq.pZ{P:Program}{f:FuncId}{fn:Func}(hf:P.funcs[f]?=some fn)(hn:(fn.name=="runtime.NumGoroutine")=false)(hb:fn.body.isNone=false){c:Callee}(hc:gk c)
    (h:∀args E av E',c.run (AV×APH Blk) args E (λv b=>some (v,b))=some (av,E')->E.length<=E'.length/\∀(w:World) (g:G) (vs:APH Value),Bf w g E->Dz w g E.length args vs ->
     Calls P f vs.toArray w λe w'=>∃v g',e=.returned v/\Bf w' g' E'/\B4 w' g' E'.length av v/\BB E.length w g w' g'):Aq P f c where
 Zj:=hc
 snd args E av E' hr:=by
  obtain⟨h1,h2⟩:=h args E av E' hr;refine⟨h1,λw g vs H hx o a next Q hn'=>?_⟩
  have:(callFunc f vs.toArray).run P w=.ok (.enter f vs.toArray) w:=by
   have zh:¬fn.name="runtime.NumGoroutine":=by grind
   have ki:¬fn.body=none:=by
    grind
   simp[callFunc,hf,zh,ki]
  rw[this];refine(h2 w g vs H hx).mono λe w' ⟨v,g',e1,hH,hv,BH⟩=>?_;subst e1;exact hn' v w' g' hH hv BH
theorem AaP{P:Program}{t:TypeId}{ti:TI}(ht:ES P t ti)(hs:ti.Eh=true){ad:APJ Addr}{n c:Nat}{x y:Operand}(w:World) :
    (do eqGuard .eql t x y (.slice ad n c) (.slice none 0 0);binOp .eql t (.slice ad n c) (.slice none 0 0):Sem Value).run P w=.ok (.bool ad.isNone) w:=by
 have hu:=Bw ht hs;have h1:∀d,(Op.equalIn (d+1) t (.slice ad n c) (.slice none 0 0)).run P w=.ok ad.isNone w:=by
  intro d;unfold Op.equalIn;cases ad<;>simp[underlying,hu]
 have h2:(Op.equal t (.slice ad n c) (.slice none 0 0)).run P w=.ok ad.isNone w:=h1 (Op.maxDepth-1);show(do pure (.bool (<-Op.equal t (.slice ad n c) (.slice none 0 0))):Sem Value).run P w=_
 rw[Sem.run_bind,h2];rfl
section
variable {P:Program} {en:Gx}
theorem rR(he:IR P en){f:FuncId}{fn:Func}(hf:P.funcs[f]?=some fn){R0 R2 T:Code}{id:Nat}{o3 o4:Oper}{t t2 e bytes:Nat}{u:Ty}{ti:TI}
    (hb:fn.body=some (R0.seq (((Code.region id #[o3,o4] false).seq (Code.cond (.tmp 4) (R2.seq .ret) .skip)).seq T))) (hnt:fn.ntmps=8) (bf:fn.results=#[.tmp 2])
    (h3:o3.op=.move (.tmp 0)/\o3.dst=some 3/\o3.guard=none) (h4:o4.op=.binOp .eql t (.tmp 3) (.const (.slice none 0 0)) t2/\o4.dst=some 4/\o4.guard=none)
    (ht:en.DU.get t=some ti) (Iw:ti.Eh=true) (hu:u.row=true)
    (hR0:∀xs:(Ty.sl u).V,ev en 0 R0 (Ex×St) ⟨[.AB [] (.sl u) xs,.un 0,.un 0,.un 0,.un 0,.un 0,.un 0,.un 0],[]⟩ Q3=some (.normal,⟨[.AB [] (.sl u) xs,.un 0,.zs,.un 0,.un 0,.un 0,.un 0,.un 0],[]⟩))
    (hA:∀xs:(Ty.sl u).V,ev en 0 (R2.seq .ret) (Ex×St) ⟨[.AB [] (.sl u) xs,.un 0,.zs,.AB [] (.sl u) xs,.bool true,.un 0,.un 0,.un 0],[]⟩ Q3=some (.ret,⟨[.AB [] (.sl u) xs,.un 0,.zs,.AB [] (.sl u) xs,.bool true,.un 0,.un 0,.un 0],[]⟩))
    (hT:∀xs:(Ty.sl u).V,xs.length*bytes<=140737488355328->ev en 0 T (Ex×St) ⟨[.AB [] (.sl u) xs,.un 0,.zs,.AB [] (.sl u) xs,.bool false,.un 0,.un 0,.un 0],[]⟩ Q3=some (.ret,⟨[.AB [] (.sl u) xs,.un 0,.AG 0,.AB [] (.sl u) xs,.bool false,.zs,.AB [] (.sl u) xs,.AG 0],[.row e (if u.BP then .Aw else .sh []) u xs]⟩))
    {xs:(Ty.sl u).V} (AjB:xs.length*bytes<=140737488355328) (w:World) (g:G) (vs:APH Value) (H:Bf w g []) (hx:Dz w g 0 [.AB [] (.sl u) xs] vs) :
    Calls P f vs.toArray w λee w'=>∃v g',ee=.returned v/\Bf w' g' [.row e (if u.BP then .Aw else .sh []) u xs]/\B4 w' g' 1 (.AG 0) v/\BB 0 w g w' g':=by
 refine calls_of_wp hf hb ?_;have vo:=b5 H hx (n:=fn.ntmps) (by rw[hnt];simp);have AGk:KO w g ⟨[.AB [] (.sl u) xs,.un 0,.un 0,.un 0,.un 0,.un 0,.un 0,.un 0],[]⟩ {tmps:=vs.toArray++Array.replicate (fn.ntmps-vs.toArray.size) undef,defers:=[]}:=by
  rw[hnt]at vo;rw[hnt];exact vo
 have VC:∀(a':Act) (w':World) (g':G),a'.defers=[]->BB 0 w g w' g'->(∃g'',Bf w' g'' [.row e (if u.BP then .Aw else .sh []) u xs]/\B4 w' g'' 1 (.AG 0) (a'.tmps.getD 2 undef)/\BB 0 w' g' w' g'') ->
     a'.defers=[]/\∃v,(results fn a'.tmps).run P w'=.ok v w'/\∃v' g',Ending.returned v=.returned v'/\Bf w' g' [.row e (if u.BP then .Aw else .sh []) u xs]/\B4 w' g' 1 (.AG 0) v'/\BB 0 w g w' g':=by
  intro a' w' g' hd BH ⟨g'',H'',y9,wU⟩;refine⟨hd,a'.tmps.getD 2 undef,?_,_,g'',rfl,H'',y9,BH.trans wU⟩;rw[jy,bf,Array.mapM_eq_mapM_toList];simp[Agp]
 refine wp_seq ((PK he R0 _ _ _ (hR0 xs) (AMc _)).2 _ w g _ AGk λa1 w1 g1 Q1 Q4 kD=>?_);simp only[oM];refine wp_seq (wp_seq (wp_region ?_));have Zd:=Q1.AO 0 _ rfl;obtain⟨cs,SI,hval⟩:=B3 rfl rfl Zd;obtain⟨_,ad,cap,ds,Ar1,hlen,Afi,pd⟩:=SI;subst Ar1;have hv0:a1.tmps.getD 0 undef=.slice ad xs.length cap:=by
  have:[Value.slice ad xs.length cap]=[a1.tmps.getD 0 undef]:=hval;injection this with h _;exact h.symm
 have AF6:ad=none->xs=[]:=λh=>by
  rcases pd with h1 |⟨b,off,h1,_⟩
  ·exact h1
  ·rw[h]at h1;cases h1
 let a2:=(a1.put (some 3) (.slice ad xs.length cap)).put (some 4) (.bool ad.isNone)
 have Mv:a1.tmps.size=8:=Q1.len.symm;have Y1:KO w1 g1 ⟨[.AB [] (.sl u) xs,.un 0,.zs,.AB [] (.sl u) xs,.bool ad.isNone,.un 0,.un 0,.un 0],[]⟩ a2:=by
  refine⟨Q1.heap,by simp[a2,Wa,Mv],λi x hx=>?_⟩;have h5:∀i,i≠3->i≠4->a2.tmps.getD i undef=a1.tmps.getD i undef:=λi h3 h4=>by
   simp only[a2];rw[U8 (by simpa using λh=>h4 h.symm),U8 (by simpa using λh=>h3 h.symm)]
  match i,hx with
  |0,hx=>rw[h5 0 (by decide) (by decide)];exact Q1.AO 0 x hx
  |1,hx=>rw[h5 1 (by decide) (by decide)];exact Q1.AO 1 x hx
  |2,hx=>rw[h5 2 (by decide) (by decide)];exact Q1.AO 2 x hx
  |3,hx =>
   injection hx with hx;subst hx;have:a2.tmps.getD 3 undef=.slice ad xs.length cap:=by
    simp only[a2];rw[U8 (by decide),Sp (by omega)]
   rw[this,<-hv0];exact Zd
  |4,hx =>
   injection hx with hx;subst hx;have:a2.tmps.getD 4 undef=.bool ad.isNone:=by
    simp only[a2];rw[Sp (by rw[Wa];omega)]
   rw[this];exact Bs (cs:=[.bool ad.isNone]) rfl ⟨λk hk=>by(cases hk),rfl⟩ rfl
  |5,hx=>injection hx with hx;subst hx;exact QK
  |6,hx=>injection hx with hx;subst hx;exact QK
  |7,hx=>injection hx with hx;subst hx;exact QK
  |i+8,hx=>simp at hx
 have e3:a1.eval (.tmp 0)=.slice ad xs.length cap:=hv0;have AFI:(a1.put (some 3) (.slice ad xs.length cap)).eval (.tmp 3)=.slice ad xs.length cap:=by
  show(a1.put (some 3) (.slice ad xs.length cap)).tmps.getD 3 undef=_;rw[Sp (by omega)]
 simp only[List.range,wpOps];show wpOps P #[o3,o4] _ [0,1] a1 w1;simp only[wpOps];have g0:(#[o3,o4]:Array Oper)[0]?=some o3:=rfl;have g1':(#[o3,o4]:Array Oper)[1]?=some o4:=rfl;rw[g0,g1'];simp only[Region.wanted,h3.2.2,h4.2.2,AMR];refine .inl ?_;unfold Oper.wp;rw[show(execOp a1.eval o3).run P w1=.ok (.value (.slice ad xs.length cap)) w1 by simp[execOp,h3.1,e3],Oper.upon_value,h3.2.1];have ACb:(a1.put (some 3) (.slice ad xs.length cap)).tmps.getD 3 undef=.slice ad xs.length cap:=AFI;have ACG:(execOp (a1.put (some 3) (.slice ad xs.length cap)).eval o4).run P w1=.ok (.value (.bool ad.isNone)) w1:=by
  have:=AaP (P:=P) (t:=t) (he.t ht) Iw (ad:=ad) (n:=xs.length) (c:=cap) (x:=.tmp 3) (y:=.const (.slice none 0 0)) w1;simp only[execOp,h4.1,Act.eval,ACb];rw[Sem.run_bind,this];rfl
 refine .inl ?_;rw[ACG,Oper.upon_value,h4.2.1];show(Code.cond (.tmp 4) (R2.seq .ret) .skip).wp P _ a2 w1;have AjF:a2.eval (.tmp 4)=.bool ad.isNone:=by
  show a2.tmps.getD 4 undef=_;simp only[a2];rw[Sp (by rw[Wa];omega)]
 have hd2:a2.defers=[]:=by simp only[a2,Go.Va.put_defers];exact kD
 cases y7:ad with
 |none =>
  have hxs:=AF6 y7;subst hxs;rw[y7]at Y1 AjF;refine wp_cond_true AjF ?_;refine(PK he _ _ _ _ (hA []) (AMc _)).2 a2 w1 g1 _ Y1 λa3 w3 g3 s7 st3 hd3=>?_;have hz:=s7.AO 2 _ rfl;obtain⟨g4,H4,AFu,st4⟩:=wv s7.heap (c:=.row [] e u false) (a:=.zs) (a':=.AG 0) (nb:=[.row e (if(u.BP||false)=true then .Aw else .sh []) u []]) (by simp[coV,AV.Vj,AV.ZX,hu]) hz;exact VC a3 w3 g3 (hd3.trans hd2) (Q4.trans st3) ⟨g4,by simpa using H4,by simpa using AFu,st4.xQ (AMS _)⟩
 |some ad0 =>
  rw[y7]at Y1 AjF;refine wp_cond_false AjF (wp_skip ?_);refine(PK he _ _ _ _ (hT xs AjB) (AMc _)).2 a2 w1 g1 _ Y1 λa3 w3 g3 s7 st3 hd3=>?_;exact VC a3 w3 g3 (hd3.trans hd2) (Q4.trans st3) ⟨g3,s7.heap,s7.AO 2 _ rfl,BB.refl _ _ _⟩
theorem AaC{e bytes:Nat}{u:Ty}:gk (Zz e u bytes):=by
 intro R args E K;simp only[Zz]
 grind
theorem cK(he:IR P en){f:FuncId}{fn:Func}(hf:P.funcs[f]?=some fn)(hn:(fn.name=="runtime.NumGoroutine")=false){R0 R2 T:Code}{id:Nat}{o3 o4:Oper}{t t2 e bytes:Nat}{u:Ty}{ti:TI}
    (hb:fn.body=some (R0.seq (((Code.region id #[o3,o4] false).seq (Code.cond (.tmp 4) (R2.seq .ret) .skip)).seq T))) (hnt:fn.ntmps=8) (bf:fn.results=#[.tmp 2])
    (h3:o3.op=.move (.tmp 0)/\o3.dst=some 3/\o3.guard=none) (h4:o4.op=.binOp .eql t (.tmp 3) (.const (.slice none 0 0)) t2/\o4.dst=some 4/\o4.guard=none)
    (ht:en.DU.get t=some ti) (Iw:ti.Eh=true) (hu:u.row=true)
    (hR0:∀xs:(Ty.sl u).V,ev en 0 R0 (Ex×St) ⟨[.AB [] (.sl u) xs,.un 0,.un 0,.un 0,.un 0,.un 0,.un 0,.un 0],[]⟩ Q3=some (.normal,⟨[.AB [] (.sl u) xs,.un 0,.zs,.un 0,.un 0,.un 0,.un 0,.un 0],[]⟩))
    (hA:∀xs:(Ty.sl u).V,ev en 0 (R2.seq .ret) (Ex×St) ⟨[.AB [] (.sl u) xs,.un 0,.zs,.AB [] (.sl u) xs,.bool true,.un 0,.un 0,.un 0],[]⟩ Q3=some (.ret,⟨[.AB [] (.sl u) xs,.un 0,.zs,.AB [] (.sl u) xs,.bool true,.un 0,.un 0,.un 0],[]⟩))
    (hT:∀xs:(Ty.sl u).V,xs.length*bytes<=140737488355328->ev en 0 T (Ex×St) ⟨[.AB [] (.sl u) xs,.un 0,.zs,.AB [] (.sl u) xs,.bool false,.un 0,.un 0,.un 0],[]⟩ Q3=some (.ret,⟨[.AB [] (.sl u) xs,.un 0,.AG 0,.AB [] (.sl u) xs,.bool false,.zs,.AB [] (.sl u) xs,.AG 0],[.row e (if u.BP then .Aw else .sh []) u xs]⟩)) :
    Aq P f (Zz e u bytes):=by
 refine Aq.pZ hf hn (by grind) AaC λargs E av E' h=>?_;simp only[Zz]at h;split at h
 ·split at h
  ·rename_i xs hc;obtain⟨e1,q⟩:=BJ hc;subst e1;subst q;split at h
   ·rename_i AjB;obtain⟨rfl,rfl⟩:=h;exact⟨AMS _,λw g vs H hx=>rR he hf hb hnt bf h3 h4 ht Iw hu hR0 hA hT AjB w g vs H hx⟩
   ·grind
  ·grind
 ·grind
end
open Go.Sort Go.Shelf
def leI(x y:Int):Bool:=decide (x<=y)
def Qm(xs:APH Int):APH Int:=xs.mergeSort leI
def Np(xs:APH Int):APH Int:=Lib.compact xs
def uq:Callee:={mA:=[.WH],run:=λ_ avs E K=>match avs,E with
    |[.AG 0],[.row e .Aw u xs]=>match IU (.sl u) (.sl (.int .i64)) xs with
     |some xs=>if xs.length<4611686018427387904 then K .nil [.row e .Aw (.int .i64) (Qm xs)]else none
     |none=>none
    |[.zs],[]=>K .nil []
    |_,_=>none}
def uO:Callee:={mA:=[.WH],run:=λ_ avs E K=>match avs,E with
    |[.AG 0],[.row e .Aw u xs]=>match IU (.sl u) (.sl (.int .i64)) xs with
     |some xs=>K (.AG 1) [.A9,.row e .Aw (.int .i64) (Np xs)]
     |none=>none
    |_,_=>none}
theorem AgW:gk uq:=by
 intro R args E K;simp only[uq]
 grind
theorem Ahg:gk uO:=by
 intro R args E K;simp only[uO];split
 ·grind
 ·rfl
section
variable {w:World} {g:G} {n:Nat}
theorem V1{own:Nat->TT}{k:Nat}:∀{xs:APH Int} {j:Nat} {ds:APH Value},Bi (λi=>Jo w own k (.int .i64) [i]) j xs ds↔ds=xs.map (Value.int .i64)
 |[],_,_=>Iff.rfl
 |x::xs,j,ds=>by
  constructor
  ·rintro⟨c,d,e,h1,h2⟩
   rw[e,h1,V1.1 h2];rfl
  ·intro e;exact⟨[.int .i64 x],xs.map _,by grind,rfl,V1.2 rfl⟩
theorem iO{b el:Nat}{BA:Array Value}{xs:APH Int}(hc:w.heap[b]?=some (.cells BA el (0,0)))(hd:BA.toList.take (xs.length*1)=xs.map (Value.int .i64)):Holds (Value.int .i64) w b 0 xs.toArray:=by
 intro j hj;have hj:j<xs.length:=by grind
 constructor
 ·have h1:(BA.toList.take (xs.length*1))[j]?=some (.int .i64 xs[j]):=by grind
  simp only[World.cell?,hc];simpa [hj]using h1
 ·simp[World.frozen?,hc]
theorem tY{b el:Nat}{BA:Array Value}{q:Nat}{d:Array Int}(hc:w.heap[b]?=some (.cells BA el (0,0))):(putRow (Value.int .i64) (Sort.ahead w q) b 0 d).heap[b]?=some (.cells (putCells (Value.int .i64) 0 d BA) el (0,0)):=by
 simp[putRow,mapBlock,ANA,hc,onCells]
theorem mW{b c q:Nat}{d:Array Int}(h:c≠b):(putRow (Value.int .i64) (Sort.ahead w q) b 0 d).heap[c]?=w.heap[c]?:=by
 simp[putRow,mapBlock,ANA,h.symm]
theorem du(w:World)(b q:Nat)(d:Array Int):(putRow (Value.int .i64) (Sort.ahead w q) b 0 d).heap.size=w.heap.size:=by
 simp
theorem Zl{BA:Array Value}{d:Array Int}{m:Nat}(hm:m<=d.size)(hs:d.size<=BA.size):(putCells (Value.int .i64) 0 d BA).toList.take m=(d.toList.take m).map (Value.int .i64):=by
 apply ANi;intro i;rw[AM9,AMz,AM9];split
 ·have h1:i<BA.size:=by omega
  have h2:i<d.size:=by omega
  simp[putCells,h1,h2]
 ·rfl
theorem xc{E:APH Blk}(H:Bf w g E){b k:Nat}{r:APH Nat}(h:g.own b=.BO k r):b<w.heap.size:=by
 by_cases hb:b<w.heap.size
 ·grind
 ·rw[H.BZ b (by omega)]at h;cases h
end
section
variable {P:Program} {ρ:Shelf.Ren}
theorem AgX(L:Proofs.SlLaysN.n53 P ρ){f:FuncId}{fn:Func}(e:ρ.f 53=f)(hf:P.funcs[f]?=some fn)(hn:(fn.name=="runtime.NumGoroutine")=false)(hb:fn.body.isNone=false):Aq P f uq:=by
 refine Aq.pZ hf hn hb AgW λargs E av E' h=>?_;simp only[uq]at h;split at h
 ·rename_i el u xs;split at h
  ·rename_i ys hc;obtain⟨e1,q⟩:=BJ hc;cases e1;subst q;split at h
   ·rename_i Bm;obtain⟨rfl,rfl⟩:=h;refine⟨AMc _,λw g vs H hx=>?_⟩
    match vs,hx with
    |[v],⟨hv,_⟩ =>
     obtain⟨_,hv⟩:=Fe hv;subst hv;obtain⟨QT,hl,PE,BU,hr⟩:=H.LP 0 _ rfl;rcases hr with ⟨Zd,Hf⟩|⟨b,BA,ds,ha,ho,⟨ce,he,DF⟩,h1,h2,h3,h4,h5⟩
     ·rw[Hf,hl,Zd,<-e];refine(Proofs.AnyG.slices_Sort_int_none L _ 0 w).mono λe w' ⟨e1,e2⟩=>?_;subst e1;subst e2;exact⟨_,g,rfl,by simpa [Zd,Qm]using H,rfl,BB.refl _ _ _⟩
     ·rw[hl,ha,<-e];have h5:ds=_:=V1.1 h5;rw[h5]at h4;have Mv:BA.size=(g.AZ 0).cap*1:=h3;refine(Proofs.AnyG.slices_Sort_int L b 0 _ xs w (iO DF h4) (xc H ho) Bm).mono λe w' ⟨e1,n,os,e2⟩=>?_;subst e1;have wO:=xc H ho;have Y0:∀c,c≠b->c<w.heap.size->w'.heap[c]?=w.heap[c]?:=λc hc Bm=>by
       rw[e2];show((putRow _ _ _ _ _).heap++os)[c]?=_;rw[Array.getElem?_append_left (by rw[du];exact Bm),mW hc]
      have aZ:w'.heap[b]?=some (.cells (putCells (Value.int .i64) 0 (List.toArray (Qm xs)) BA) ce (0,0)):=by
       rw[e2];show((putRow _ _ _ _ _).heap++os)[b]?=_;rw[Array.getElem?_append_left (by rw[du];exact wO)];exact tY DF
      have Pg:w.heap.size<=w'.heap.size:=by
       grind
      refine⟨_,g,rfl,⟨λc hc=>H.BZ c (by omega),λk x hx=>?_⟩,rfl,?_⟩
      ·match k,hx with
       |0,hx =>
        injection hx with hx;subst hx;have hls:(Qm xs).length=List.length (α:=Int) xs:=List.length_mergeSort _;refine⟨λj hj=>by grind,by grind,PE,BU,.inr ⟨b,_,_,ha,ho,⟨ce,he,aZ⟩,?_,h2,?_,rfl,?_⟩⟩
        ·grind
        ·simpa [putCells]using h3
        ·refine V1.2 ?_;rw[Zl (by simp[Ty.size]) (by grind)];simp[Ty.size]
       |k+1,hx=>grind
      ·refine⟨by rw[e2];rfl,by rw[e2];rfl,by rw[e2];rfl,Pg,λc hc h=>⟨h,Y0 c (λe=>by grind) hc⟩,λc h=>⟨h,?_⟩,λc k r h hk hm=>(hm (List.mem_range.2 hk)).elim,λk hk=>rfl⟩;by_cases SI:c<w.heap.size
       ·grind
       ·rw[H.BZ c (by omega)]at h;cases h
   ·grind
  ·grind
 ·obtain⟨rfl,rfl⟩:=h;refine⟨AMc _,λw g vs H hx=>?_⟩
  match vs,hx with
  |[v],⟨hv,_⟩ =>
   obtain⟨cs,⟨ad,SI⟩,hval⟩:=B3 rfl rfl hv;subst SI;have hv:v=.slice ad 0 0:=by
    have:[Value.slice ad 0 0]=[v]:=hval
    grind
   subst hv;rw[<-e];refine(Proofs.AnyG.slices_Sort_int_none L ad 0 w).mono λe w' ⟨e1,e2⟩=>?_;subst e1;subst e2;exact⟨_,g,rfl,H,rfl,BB.refl _ _ _⟩
 ·grind
theorem Ahf(xs:APH Int):(Np xs).length<=xs.length:=by
 unfold Np Lib.compact Lib.compactUpTo
 grind
theorem Ahh(L:Proofs.SlLaysN.n43 P ρ){f:FuncId}{fn:Func}(e:ρ.f 43=f)(hf:P.funcs[f]?=some fn)(hn:(fn.name=="runtime.NumGoroutine")=false)(hb:fn.body.isNone=false):Aq P f uO:=by
 refine Aq.pZ hf hn hb Ahg λargs E av E' h=>?_;simp only[uO]at h;split at h
 ·rename_i el u xs;split at h
  ·rename_i ys hc;obtain⟨e1,q⟩:=BJ hc;cases e1;subst q;obtain⟨rfl,rfl⟩:=h;refine⟨by simp,λw g vs H hx=>?_⟩
   match vs,hx with
   |[v],⟨hv,_⟩ =>
    obtain⟨_,hv⟩:=Fe hv;subst hv;obtain⟨QT,hl,PE,BU,hr⟩:=H.LP 0 _ rfl;rcases hr with ⟨Zd,Hf⟩|⟨b,BA,ds,ha,ho,⟨ce,he,DF⟩,h1,h2,h3,h4,h5⟩
    ·rw[Hf,hl,Zd,<-e];refine(Proofs.AnyG.slices_Compact_int_empty L _ 0 w).mono λe w' ⟨e1,e2⟩=>?_;subst e1;subst e2;refine⟨_,⟨g.own,λk=>if k=1 then⟨(g.AZ 0).a,0,0,1⟩else g.AZ k⟩,rfl,⟨H.BZ,λk x hx=>?_⟩,?_,?_⟩
     ·match k,hx with
      |0,hx=>injection hx with hx;subst hx;trivial
      |1,hx =>
       injection hx with hx;subst hx;exact⟨λj hj=>by grind,rfl,rfl,BU,.inl ⟨rfl,rfl⟩⟩
      |k+2,hx=>grind
     ·exact Bs (cs:=[.slice (g.AZ 0).a 0 0]) rfl ⟨by simp,rfl⟩ rfl
     ·refine⟨rfl,rfl,rfl,AMc _,λc hc h=>⟨h,rfl⟩,λc h=>⟨h,rfl⟩,λc k r h hk hm=>(hm (List.mem_range.2 hk)).elim,λk hk=>?_⟩
      grind
    ·rw[hl,ha,<-e];have h5:ds=_:=V1.1 h5;rw[h5]at h4;have Asj:(g.AZ 0).cap<=9223372036854775807:=h2;refine(Proofs.AnyG.slices_Compact_int L b 0 _ xs w (iO DF h4) (AMA h1 Asj) h1).mono λe w' ⟨e1,q,e2⟩=>?_;subst e1;have wO:=xc H ho;have Y0:∀c,c≠b->w'.heap[c]?=w.heap[c]?:=λc hc=>by rw[e2,mW hc]
     have aZ:=tY (q:=q) (d:=(Lib.compact (show APH Int from xs)++List.replicate (List.length (α:=Int) xs-(Lib.compact (show APH Int from xs)).length) 0).toArray) DF;rw[<-e2]at aZ;have Pg:w'.heap.size=w.heap.size:=by rw[e2,du]
     have fK:(Np xs).length<=List.length (α:=Int) xs:=Ahf xs;have Mv:(Lib.compact (show APH Int from xs)++List.replicate (List.length (α:=Int) xs-(Lib.compact (show APH Int from xs)).length) 0).length=List.length (α:=Int) xs:=by
      rw[AMa,AMD];exact Nat.add_sub_cancel' fK
     refine⟨_,⟨λc=>if c=b then .BO 1 []else g.own c,λk=>if k=1 then⟨(g.AZ 0).a,(Np xs).length,(g.AZ 0).cap,1⟩else g.AZ k⟩,rfl,⟨λc hc=>?_,λk x hx=>?_⟩,?_,?_⟩
     ·have:c≠b:=λe=>by omega
      simp only[this];exact H.BZ c (by omega)
     ·match k,hx with
      |0,hx=>injection hx with hx;subst hx;trivial
      |1,hx =>
       injection hx with hx;subst hx;refine⟨λj hj=>by grind,rfl,rfl,BU,.inr ⟨b,_,_,ha,by simp,⟨ce,he,aZ⟩,AMA fK h1,h2,?_,rfl,?_⟩⟩
       ·simpa [putCells]using h3
       ·refine V1.2 ?_;have SI:BA.size=(g.AZ 0).cap*1:=h3;rw[Zl (by simp[Ty.size,Np]) (by grind)];simp[Ty.size,Np]
      |k+2,hx=>grind
     ·exact Bs (cs:=[.slice (some ⟨b,0,none⟩) (Np xs).length (g.AZ 0).cap]) rfl ⟨by simp,by grind⟩ rfl
     ·refine⟨by rw[e2];rfl,by rw[e2];rfl,by rw[e2];rfl,Nat.le_of_eq Pg.symm,λc hc h=>?_,λc h=>?_,λc k r h hk hm=>(hm (List.mem_range.2 hk)).elim,λk hk=>?_⟩
      ·grind
      ·have Nk:c≠b:=λe=>by grind
       grind
      ·have hk:k<1:=hk;have:k≠1:=by omega
       simp[this]
  ·cases h
 ·grind
end
section
variable {A B C D:Type}
theorem bC(k:A->APJ B)(c:Bool)(x y:APJ A):(bif c then x else y).bind k=bif c then x.bind k else y.bind k:=Aaw k c x y
theorem bI(k:A->APJ B)(c:Prop)[Decidable c](x y:APJ A):(if c then x else y).bind k=if c then x.bind k else y.bind k:=Adl k c x y
theorem bN(k:A->APJ B)(c:Prop)[Decidable c](x:APJ A):(if c then none else x).bind k=if c then none else x.bind k:=Aay k c x
theorem bE(k:C->APJ D)(g:A->APJ C)(h:B->APJ C)(y:A⊕B):(Sum.elim g h y).bind k=Sum.elim (λa=>(g a).bind k) (λb=>(h b).bind k) y:=Aax k g h y
theorem bA(x:APJ A)(f:A->APJ B)(g:B->APJ C):(x.bind f).bind g=x.bind λy=>(f y).bind g:=AMn x f g
theorem bS(a:A)(f:A->APJ B):(some a).bind f=f a:=rfl
theorem bO(f:A->APJ B):(none:APJ A).bind f=none:=rfl
theorem mC(f:A->B)(c:Bool)(x y:APJ A):(bif c then x else y).map f=bif c then x.map f else y.map f:=AfT f c x y
theorem mI(f:A->B)(c:Prop)[Decidable c](x y:APJ A):(if c then x else y).map f=if c then x.map f else y.map f:=Aka f c x y
theorem mN(f:A->B)(c:Prop)[Decidable c](x:APJ A):(if c then none else x).map f=if c then none else x.map f:=AfV f c x
theorem mB(f:B->C)(x:APJ A)(k:A->APJ B):(x.bind k).map f=x.bind λy=>(k y).map f:=AfS f x k
theorem mE(f:C->D)(g:A->APJ C)(h:B->APJ C)(y:A⊕B):(Sum.elim g h y).map f=Sum.elim (λa=>(g a).map f) (λb=>(h b).map f) y:=AfU f g h y
theorem mS(f:A->B)(a:A):(some a).map f=some (f a):=rfl
theorem mO(f:A->B):(none:APJ A).map f=none:=rfl
def cc(x y:APJ Unit):APJ Unit:=x.bind λ_=>y
class Sh (Y:Type) where
 T:Type->Type
 sp:{Z:Type}->(Y->Z)->T Z
 ij:∀{Z:Type} {f g:Y->Z},sp f=sp g->f=g
instance (priority:=low) shB:Sh A:=⟨λZ=>A->Z,λf=>f,λh=>h⟩
instance shS [Sh A] [Sh B]:Sh (A⊕B):=⟨λZ=>Sh.T A Z×Sh.T B Z,λf=>(Sh.sp λa=>f (.inl a),Sh.sp λb=>f (.inr b)),λ{Z f g} h=>by
 have h1:=Sh.ij (congrArg Prod.fst h);have h2:=Sh.ij (congrArg Prod.snd h)
 funext y
 cases y with
 |inl a=>exact congrFun h1 a
 |inr b=>exact congrFun h2 b⟩
theorem k3{a a':A}{b b':B}{c c':C}(h:(a,b,c)=(a',b',c')):a=a'/\b=b'/\c=c':=by grind
end
abbrev dI(x:Int):AV:=.AB [] (.int .i64) x
abbrev dB(b:Bool):AV:=.AB [] .bool b
abbrev dD(t:Ty)(x:t.V):AV:=.AB [] t x
def sT(n:Nat)(l:APH (Nat×AV))(bs:APH Blk):St:=⟨mkS n 0 l,bs⟩
abbrev xN(n:Nat)(l:List (Nat×AV))(bs:List Blk):Ex×St:=(.normal,sT n l bs)
abbrev xR(n:Nat)(l:List (Nat×AV))(bs:List Blk):Ex×St:=(.ret,sT n l bs)
abbrev xE(k n:Nat)(l:List (Nat×AV))(bs:List Blk):Ex×St:=(.exit k,sT n l bs)
instance:Coe (List Nat) SH:=⟨λl=>{Bb:=l}⟩
def Gx.hd(en:Gx)(k:Nat):SH:=(N3 en.fi.A8 k).getD {Bb:=[]}
def Gx.ot(en:Gx)(k:Nat):SH:=(N3 en.fi.BW k).getD {Bb:=[]}
def Gx.jn(en:Gx)(k:Nat):SH:=(N3 en.fi.BS k).getD {Bb:=[]}
def Gx.dr(en:Gx)(k:Nat):SH:=(N3 en.fi.aJ k).getD {Bb:=[]}
def ptG:Nat->Nat->APH Nat->APH Nat
 |0,_,a=>a
 |f+1,n,a=>if n<=1 then a else ptG f (n/2) (n%2::a)
def pt(n:Nat):APH Nat:=ptG 60 n []
section
variable {X Y R:Type}
def cd(f:Func)(n:Nat):Code:=sub (code f) (pt n)
def sb(c:Code)(n:Nat):Code:=sub c (pt n)
noncomputable def KJ(en:Gx)(m k:Nat):=ADa m (en.hd k) (en.ot k)
noncomputable def UH(en:Gx)(m k:Nat):=ACT m (en.jn k)
noncomputable def lpS(en:Gx)(m k:Nat)(fc:Code)(p:APH Nat):St->APJ (St⊕(Ex×St)):=np en m (en.hd k) (en.ot k) (sub fc (p++[0]))
noncomputable def Xn(en:Gx)(m k:Nat)(fc:Code)(p:APH Nat):St->APJ (Ex×St):=ACU en m (en.jn k) (sub fc p)
noncomputable def yK(en:Gx)(m k:Nat)(fc:Code)(p:APH Nat):St->APJ St:=Akj en m (en.dr k) (AsS (sub fc p))
noncomputable def kQ(en:Gx)(m:Nat)(R:Type)(fc:Code)(p:APH Nat)(K:Ex->St->APJ R)(q:Ex×St):APJ R:=Abd en m R fc p K q.1 q.2
noncomputable def lpC(en:Gx)(m k:Nat)(fc:Code)(p:APH Nat)(R:Type)(K:Ex->St->APJ R)(s:St):APJ R:=(fix (lpS en m k fc p) s).bind (kQ en m R fc p K)
noncomputable def jnC(en:Gx)(m k:Nat)(fc:Code)(p:APH Nat)(R:Type)(K:Ex->St->APJ R)(s:St):APJ R:=(Xn en m k fc p s).bind (kQ en m R fc p K)
noncomputable def drC(en:Gx)(m k:Nat)(fc:Code)(p:APH Nat)(R:Type)(K:Ex->St->APJ R)(s:St):APJ R:=(yK en m k fc p s).bind λq=>kQ en m R fc p K (.normal,q)
def A4(en:Gx)(m k:Nat)(fc:Code)(n:Nat)(s:X->St)(r:X->APJ (X⊕Y))(o:Y->Ex×St):Prop:=∀x,lpS en m k fc (pt n) (s x)=(r x).map (Sum.map s o)
def AY(en:Gx)(m k:Nat)(fc:Code)(n:Nat)(s:St)(x:APJ Y)(o:Y->Ex×St):Prop:=Xn en m k fc (pt n) s=x.map o
def SJ(en:Gx)(m k:Nat)(fc:Code)(n:Nat)(s:St)(x:APJ Y)(o:Y->St):Prop:=yK en m k fc (pt n) s=x.map o
theorem AH{en:Gx}{m k:Nat}{fc:Code}{n:Nat}{s:X->St}{r:X->APJ (X⊕Y)}{o:Y->Ex×St}(h:A4 en m k fc n s r o){K:Ex->St->APJ R}{x:X}{F:Y->APJ R}[Sh Y](hF:Sh.sp F=Sh.sp λy=>kQ en m R fc (pt n) K (o y)) :
    (fix r x).bind F=lpC en m k fc (pt n) R K (s x):=by
 unfold lpC;rw[Ajw s o _ r h x,gJ];exact congrArg _ (Sh.ij hF)
theorem Bc{en:Gx}{m k:Nat}{fc:Code}{n:Nat}{s:St}{x:APJ Y}{o:Y->Ex×St}(h:AY en m k fc n s x o){K:Ex->St->APJ R}{F:Y->APJ R}[Sh Y](hF:Sh.sp F=Sh.sp λy=>kQ en m R fc (pt n) K (o y)) :
    x.bind F=jnC en m k fc (pt n) R K s:=by
 unfold jnC;rw[h,gJ];exact congrArg _ (Sh.ij hF)
theorem W2{en:Gx}{m k:Nat}{fc:Code}{n:Nat}{s:St}{x:APJ Y}{o:Y->St}(h:SJ en m k fc n s x o){K:Ex->St->APJ R}{F:Y->APJ R}[Sh Y](hF:Sh.sp F=Sh.sp λy=>kQ en m R fc (pt n) K (.normal,o y)) :
    x.bind F=drC en m k fc (pt n) R K s:=by
 unfold drC;rw[h,gJ];exact congrArg _ (Sh.ij hF)
def PD(_:St)(x:APJ R):APJ R:=x
theorem bM(s:St)(x:APJ X)(k:X->APJ Y):(PD s x).bind k=PD s (x.bind k):=rfl
theorem mM(s:St)(x:APJ X)(k:X->Y):(PD s x).map k=PD s (x.map k):=rfl
theorem Ft{en:Gx}{m k:Nat}{fc:Code}{p:APH Nat}{s:St}{e:Ex×St}(h:Xn en m k fc p s=some e){K:Ex->St->APJ R}{T:APJ R}(hT:T=kQ en m R fc p K e):PD s T=jnC en m k fc p R K s:=by
 unfold jnC;rw[h];exact hT
end
noncomputable def Aba(ms:APH PM)(en:Gx)(fn:Func):Callee:={mA:=ms,run:=λR args E K=>Sr en fn R args E K}
theorem AjZ{ms:APH PM}{en:Gx}{fn:Func}(he:YW en):gk (Aba ms en fn):=by
 intro R args E K;show Sr en fn R args E K=(Sr en fn _ args E _).bind _;unfold Sr;split
 ·rfl
 ·split
  ·have VC:∀s ,(match YZ E.length en.fi.VC s with
       |none=>none
       |some σ=>match ft en.DU σ fn.results.toList with
        |some l=>match oU E.length en.fi.RF l σ.Aj with
         |some (l,bs)=>match aC en.fi.jw l bs with
          |some (l',Ga)=>match jc E.length Ga (uc l')with
           |some (v,bs)=>K v bs
           |none=>none
          |none=>none
         |none=>none
        |none=>none)=(match YZ E.length en.fi.VC s with
       |none=>none
       |some σ=>match ft en.DU σ fn.results.toList with
        |some l=>match oU E.length en.fi.RF l σ.Aj with
         |some (l,bs)=>match aC en.fi.jw l bs with
          |some (l',Ga)=>match jc E.length Ga (uc l')with
           |some (v,bs)=>some (v,bs)
           |none=>none
          |none=>none
         |none=>none
        |none=>none).bind λp=>K p.1 p.2:=λs=>by
     cases YZ _ _ s with
     |none=>rfl
     |some s =>
      grind
   refine xV (Wr he _) λe s=>?_;cases e with
   |exit n=>rfl
   |normal=>exact VC s
   |ret=>exact VC s
  ·rfl
theorem fR{P:Program}{f:FuncId}{fn:Func}{ms:APH PM}{en:Gx}(he:IR P en)(q:(P.funcs[f]?,fn.name=="runtime.NumGoroutine",fn.body.isNone)=(some fn,false,false):=by kernel_rfl):Aq P f (Aba ms en fn) :=
 Aq.of he (k3 q).1 (k3 q).2.1 (k3 q).2.2 (AjZ he.Zj) λ_ _ _ _ h=>h
inductive Pt where
 |k (a:AV)|AB (ks:List Nat) (t:Ty)|Fv (ks:List Nat) (t:Ty)|ptr (k:Nat) (p:List Nat) (o:Nat)|pr (a b:Pt)|cons (a b:Pt)|fn (f:Nat) (c:Pt)
def AV.isK:AV->AV->Bool
 |.zs,.zs=>true
 |.JU,.JU=>true
 |.nil,.nil=>true
 |.un n,.un m=>n==m
 |.AG n,.AG m=>n==m
 |.mp n,.mp m=>n==m
 |.ptr k i p o,.ptr k' i' p' o'=>k==k'&&i==i'&&p==p'&&o==o'
 |.AB [] .unit _,.AB [] .unit _=>true
 |_,_=>false
theorem AV.AsF{a b:AV}(h:a.isK b=true):b=a:=by
 unfold AV.isK at h
 grind
@[reducible] def Pt.T:Pt->Type
 |.k _=>Unit
 |.AB _ t=>t.V
 |.Fv _ t=>t.V
 |.ptr _ _ _=>Int
 |.pr a b=>a.T×b.T
 |.cons a b=>a.T×b.T
 |.fn _ c=>c.T
def Pt.fill:(p:Pt)->p.T->AV
 |.k a,_=>a
 |.AB ks t,x=>.AB ks t x
 |.Fv ks t,x=>.Fv ks t x
 |.ptr j p o,i=>.ptr j i p o
 |.pr a b,x=>.pr (a.fill x.1) (b.fill x.2)
 |.cons a b,x=>.cons (a.fill x.1) (b.fill x.2)
 |.fn f c,x=>.fn f (c.fill x)
def Pt.mt:(p:Pt)->AV->APJ p.T
 |.k a,b=>bif a.isK b then some ()else none
 |.AB ks t,a=>match a with |.AB Tv t' x=>if Tv=ks then IU t' t x else none |_=>none
 |.Fv ks t,a=>match a with |.Fv Tv t' x=>if Tv=ks then IU t' t x else none |_=>none
 |.ptr j p o,a=>match a with |.ptr j' i p' o'=>if j'=j/\p'=p/\o'=o then some i else none |_=>none
 |.pr a b,c=>match c with |.pr x y=>(match a.mt x,b.mt y with |some u,some v=>some (u,v)|_,_=>none)|_=>none
 |.cons a b,c=>match c with |.cons x y=>(match a.mt x,b.mt y with |some u,some v=>some (u,v)|_,_=>none)|_=>none
 |.fn f c,a=>match a with |.fn f' x=>if f'=f then c.mt x else none |_=>none
theorem Pt.Tz:∀{p:Pt} {a:AV} {x:p.T},p.mt a=some x->a=p.fill x
 |.k a,b,x,h=>by
  unfold Pt.mt at h;cases e:a.isK b with
  |false=>grind
  |true=>exact AV.AsF e
 |.AB ks t,a,x,h=>by
  unfold Pt.mt at h;cases a with
  |AB Tv t' y =>
   simp only at h;split at h
   ·rename_i e;subst e;obtain⟨e,q⟩:=BJ h;subst e;subst q;rfl
   ·grind
  |_=>grind
 |.Fv ks t,a,x,h=>by
  unfold Pt.mt at h;cases a with
  |Fv Tv t' y =>
   simp only at h;split at h
   ·rename_i e;subst e;obtain⟨e,q⟩:=BJ h;subst e;subst q;rfl
   ·grind
  |_=>grind
 |.ptr j p o,a,x,h=>by
  unfold Pt.mt at h;cases a with
  |ptr j' i p' o' =>
   simp only at h;split at h
   ·rename_i e;obtain⟨rfl,rfl,rfl⟩:=e;injection h with h;subst h;rfl
   ·grind
  |_=>grind
 |.pr a b,c,x,h=>by
  unfold Pt.mt at h;cases c with
  |pr y z =>
   simp only at h;split at h
   ·rename_i u v hu hv;injection h with h;subst h;rw[Pt.Tz hu,Pt.Tz hv];rfl
   ·grind
  |_=>grind
 |.cons a b,c,x,h=>by
  unfold Pt.mt at h;cases c with
  |cons y z =>
   simp only at h;split at h
   ·rename_i u v hu hv;injection h with h;subst h;rw[Pt.Tz hu,Pt.Tz hv];rfl
   ·grind
  |_=>grind
 |.fn f c,a,x,h=>by
  unfold Pt.mt at h;cases a with
  |fn f' y =>
   simp only at h;split at h
   ·rename_i e;subst e;rw[Pt.Tz h];rfl
   ·grind
  |_=>grind
@[reducible] def Agm:List Pt->Type
 |[]=>Unit
 |p::r=>p.T×Agm r
def AsQ:(l:APH Pt)->Agm l->APH AV
 |[],_=>[]
 |p::r,x=>p.fill x.1::AsQ r x.2
def Akh:(l:APH Pt)->APH AV->APJ (Agm l)
 |[],l=>match l with |[]=>some ()|_=>none
 |p::r,l=>match l with |a::kp=>(match p.mt a,Akh r kp with |some u,some v=>some (u,v)|_,_=>none)|_=>none
theorem mT:∀{l:APH Pt} {a:APH AV} {x:Agm l},Akh l a=some x->a=AsQ l x
 |[],a,x,h=>by
  cases a with
  |nil=>rfl
  |cons _ _=>cases h
 |p::r,a,x,h=>by
  unfold Akh at h;cases a with
  |nil=>grind
  |cons a kp =>
   simp only at h;split at h
   ·rename_i u v hu hv;injection h with h;subst h;rw[Pt.Tz hu,mT hv];rfl
   ·grind
inductive vd where
 |box (p:Pt)|row (e:Nat) (m:RM) (t:Ty)|map (m:RM) (kt vt:Ty)|A9
def RM.eqb:RM->RM->Bool
 |.Aw,.Aw=>true
 |.sh a,.sh b=>a==b
 |_,_=>false
theorem RM.AeK{a b:RM}(h:a.eqb b=true):b=a:=by
 cases a<;>cases b<;>simp[RM.eqb]at h
 ·rfl
 ·grind
@[reducible] def vd.T:vd->Type
 |.box p=>p.T
 |.row _ _ t=>List t.V
 |.map _ kt vt=>List (kt.V×vt.V)
 |.A9=>Unit
def vd.fill:(p:vd)->p.T->Blk
 |.box p,x=>.box (p.fill x)
 |.row e m t,x=>.row e m t x
 |.map m kt vt,x=>.map m kt vt x none
 |.A9,_=>.A9
def vd.mt:(p:vd)->Blk->APJ p.T
 |.box p,b=>match b with |.box a=>p.mt a |_=>none
 |.row e m t,b=>match b with |.row e' m' t' xs=>if e'=e then bif m.eqb m' then IU (.sl t') (.sl t) xs else none else none |_=>none
 |.map m kt vt,b=>match b with |.map m' kt' vt' es none=>bif m.eqb m' then IU (.sl (.AE kt' vt')) (.sl (.AE kt vt)) es else none |_=>none
 |.A9,b=>match b with |.A9=>some ()|_=>none
theorem vd.Tz:∀{p:vd} {a:Blk} {x:p.T},p.mt a=some x->a=p.fill x
 |.box p,a,x,h=>by
  cases a with
  |box y=>rw[Pt.Tz h];rfl
  |_=>cases h
 |.row e m t,a,x,h=>by
  unfold vd.mt at h;cases a with
  |row e' m' t' y =>
   simp only at h;split at h
   ·rename_i e0;subst e0;cases hm:m.eqb m' with
    |false=>grind
    |true =>
     rw[hm]at h;have:=RM.AeK hm;subst this;obtain⟨e1,q⟩:=BJ h;cases Ty.sl.inj e1;subst q;rfl
   ·grind
  |_=>grind
 |.map m kt vt,a,x,h=>by
  unfold vd.mt at h;cases a with
  |map m' kt' vt' es st =>
   cases st with
   |none =>
    simp only at h;cases hm:m.eqb m' with
    |false=>grind
    |true =>
     rw[hm]at h;have:=RM.AeK hm;subst this;obtain⟨e1,q⟩:=BJ h;obtain⟨e2,e3⟩:=Ty.AE.inj (Ty.sl.inj e1);subst e2;subst e3;subst q;rfl
   |some z=>grind
  |_=>grind
 |.A9,a,x,h=>by
  cases a with
  |A9=>rfl
  |_=>cases h
@[reducible] def rC:List vd->Type
 |[]=>Unit
 |p::r=>p.T×rC r
def Ado:(l:APH vd)->rC l->APH Blk
 |[],_=>[]
 |p::r,x=>p.fill x.1::Ado r x.2
def yp:(l:APH vd)->APH Blk->APJ (rC l)
 |[],l=>match l with |[]=>some ()|_=>none
 |p::r,l=>match l with |a::kp=>(match p.mt a,yp r kp with |some u,some v=>some (u,v)|_,_=>none)|_=>none
theorem gK:∀{l:APH vd} {a:APH Blk} {x:rC l},yp l a=some x->a=Ado l x
 |[],a,x,h=>by
  cases a with
  |nil=>rfl
  |cons _ _=>cases h
 |p::r,a,x,h=>by
  unfold yp at h;cases a with
  |nil=>grind
  |cons a kp =>
   simp only at h;split at h
   ·rename_i u v hu hv;injection h with h;subst h;rw[vd.Tz hu,gK hv];rfl
   ·grind
structure Br where
 pa:List Pt
 pb:List vd
 U:Type
 F:Agm pa×rC pb->Option U
 out:U->AV×List Blk
def ay:APH Br->(R:Type)->APH AV->APH Blk->(AV->APH Blk->APJ R)->APJ R
 |[],_,_,_,_=>none
 |b::r,R,avs,E,K=>match Akh b.pa avs,yp b.pb E with
  |some x,some y=>(b.F (x,y)).bind λu=>K (b.out u).1 (b.out u).2
  |_,_=>ay r R avs E K
def Cx(ms:APH PM)(bs:APH Br):Callee:={mA:=ms,run:=ay bs}
theorem cF:∀(bs:APH Br) (R:Type) (args:APH AV) (E:APH Blk) (K:AV->APH Blk->APJ R),ay bs R args E K=(ay bs (AV×APH Blk) args E λv b=>some (v,b)).bind λp=>K p.1 p.2
 |[],_,_,_,_=>rfl
 |b::r,R,args,E,K=>by
  unfold ay;split
  ·grind
  ·exact cF r R args E K
def AD4(P:Program)(fn:Func)(b:Br):Prop:=∃en,IR P en/\∀p (R:Type) (K:AV->APH Blk->APJ R),Sr en fn R (AsQ b.pa p.1) (Ado b.pb p.2) K=(b.F p).bind λu=>K (b.out u).1 (b.out u).2
def Acj(P:Program)(fn:Func):APH Br->Prop
 |[]=>True
 |b::r=>AD4 P fn b/\Acj P fn r
theorem Adp{P:Program}{fn:Func}:∀{bs:APH Br},Acj P fn bs->∀args E av E',ay bs (AV×APH Blk) args E (λv b=>some (v,b))=some (av,E')->∃en,IR P en/\Sr en fn (AV×APH Blk) args E (λv b=>some (v,b))=some (av,E')
 |[],_,_,_,_,_,h=>by cases h
 |b::r,⟨⟨en,he,hb⟩,hr⟩,args,E,av,E',h=>by
  unfold ay at h;split at h
  ·rename_i x y hx hy;refine⟨en,he,?_⟩;rw[mT hx,gK hy];exact(hb (x,y) _ _).trans h
  ·exact Adp hr args E av E' h
theorem Av{P:Program}{f:FuncId}{fn:Func}{ms:APH PM}{bs:APH Br}(h:Acj P fn bs)(q:(P.funcs[f]?,fn.name=="runtime.NumGoroutine",fn.body.isNone)=(some fn,false,false):=by kernel_rfl):Aq P f (Cx ms bs) :=
 Aq.of2 (k3 q).1 (k3 q).2.1 (k3 q).2.2 (cF bs) (Adp h)
def Aci:APH Br->Prop
 |[]=>True
 |b::r=>(∀p,b.F p=none)/\Aci r
theorem Alb:∀{bs:APH Br},Aci bs->∀(R:Type) args E K,ay bs R args E K=none
 |[],_,_,_,_,_=>rfl
 |b::r,h,R,args,E,K=>by
  unfold ay;split
  ·rw[h.1];rfl
  ·exact Alb h.2 R args E K
theorem Ait{P:Program}{f:FuncId}{ms:APH PM}{bs:APH Br}(h:Aci bs):Aq P f (Cx ms bs) where
 Zj:=cF bs
 snd args E av E' hr:=by
  rw[show(Cx ms bs).run _ args E _=none from Alb h _ _ _ _]at hr;cases hr
noncomputable abbrev Jq(s:St):Option Unit:=kx s s
theorem IV{p:Prop}[Decidable p](h:¬p:=by omega):decide p=false:=AL9 h
theorem LO{p:Prop}[Decidable p](h:p:=by omega):decide p=true:=AMb h
theorem OV{c:Prop}[Decidable c](h:¬c:=by omega){A:Sort _}{t e:A}:ite c t e=e:=AMp h
theorem Vk{c:Prop}[Decidable c](h:c:=by omega){A:Sort _}{t e:A}:ite c t e=t:=AMo h
abbrev AOi:=And.intro @mC (And.intro @mI (And.intro @mN (And.intro @mB (And.intro @mE @mM))))
abbrev AOj:=And.intro @bC (And.intro @bI (And.intro @bN (And.intro @bE (And.intro @bA (And.intro @bS (And.intro @bO @bM))))))
abbrev wI(x:Int):Int:=IntKind.i64.wrap x
end Go.Va
namespace Go.Proofs.X
open Go Go.Va Go.Proofs.Tryz
set_option maxRecDepth 100000
abbrev Tlaws_Decl:Ty:=(.AE .str (.AE (.int .i64) .unit))
abbrev gv:Ty:=(.AE (.int .i64) (.AE (.sl (.int .u64)) .unit))
abbrev Xv:Ty:=(.AE (.int .i64) (.AE (.int .i64) (.AE (.int .i64) (.AE (.int .i64) (.AE gv (.AE (.sl (.int .i64)) .unit))))))
abbrev Tlaws_Term:Ty:=(.AE (.sl Xv) .unit)
abbrev Tlaws_Literal:Ty:=(.AE (.int .i64) (.AE .bool (.AE Tlaws_Term (.AE Tlaws_Term .unit))))
abbrev Ad:Ty:=(.AE .str (.AE (.int .i64) .unit))
abbrev Ah:Ty:=(.AE (.int .i64) (.AE (.sl (.int .u64)) .unit))
abbrev Ag:Ty:=(.AE (.int .i64) (.AE (.int .i64) (.AE (.int .i64) (.AE (.int .i64) (.AE Ah (.AE (.sl (.int .i64)) .unit))))))
abbrev An:Ty:=(.AE (.sl Ag) .unit)
abbrev Af:Ty:=(.AE (.int .i64) (.AE .bool (.AE An (.AE An .unit))))
abbrev Ae:Ty:=(.AE (.int .i64) (.AE (.int .i64) (.AE (.int .i64) (.AE Ah .unit))))
abbrev Am:Ty:=(.AE (.sl (.sl (.int .i64))) .unit)
abbrev Ao:Ty:=(.AE (.sl (.int .i64)) (.AE .bool (.AE Ah .unit)))
abbrev Bp:Ty:=(.AE Am (.AE (.sl Ao) (.AE (.sl (.int .i64)) .unit)))
abbrev Ak:Ty:=(.AE (.int .i64) (.AE (.int .i64) (.AE (.int .u64) .unit)))
abbrev AX:Ty:=(.AE (.int .i64) (.AE Ah .unit))
abbrev Ap:Ty:=(.AE AX (.AE AX (.AE (.int .i64) .unit)))
abbrev Ab:Ty:=(.AE (.int .i64) (.AE (.int .i64) (.AE (.int .i64) .unit)))
abbrev rh:Ty:=(.AE (.sl Ad) (.AE (.sl Af) (.AE (.sl (.AE (.sl Ae) (.AE (.sl Ae) .unit))) (.AE Am (.AE (.sl Ab) (.AE (.QV 1) .unit))))))
abbrev Wo:Ty:=(.AE (.int .i64) (.AE (.int .i64) (.AE (.int .i64) .unit)))
abbrev rj:Ty:=(.AE (.sl Ah) (.AE (.sl Wo) (.AE (.sl (.int .i64)) .unit)))
abbrev Aa:Ty:=(.AE (.int .i64) (.AE (.int .i64) .unit))
abbrev As:Ty:=(.AE (.sl Aa) (.AE (.sl .bool) .unit))
abbrev nV:Ty:=(.AE (.sl (.int .i64)) (.AE (.sl (.int .i64)) (.AE (.QV 1) (.AE (.sl Wo) .unit))))
abbrev nU:Ty:=(.AE (.sl Ad) (.AE (.sl (.sl .bool)) (.AE (.QV 1) (.AE (.sl (.AE (.int .i64) (.AE (.int .i64) .unit))) .unit))))
abbrev gu:Ty:=(.AE (.int .i64) (.AE (.int .i64) (.AE (.int .i64) .unit)))
abbrev KC:Ty:=(.AE Ae (.AE (.int .i64) .unit))
abbrev AA:=Blk.row 2 .Aw (.int .i64)
abbrev Ca:=Blk.row 95 .Aw (.sl .bool)
abbrev C4:=Blk.row 204 .Aw Ab
abbrev CP:=Blk.row 222 .Aw (.AE (.sl Ae) (.AE (.sl Ae) .unit))
abbrev Dh:=Blk.row 78 .Aw (.sl (.int .i64))
abbrev HD:=Blk.row 4 .Aw .bool
abbrev Fa:=Blk.row 227 .Aw Aa
abbrev EF:=Blk.row 209 .Aw Aa
abbrev Da:=Blk.row 88 .Aw (.int .u64)
abbrev Cf:=Blk.row 142 .Aw Ae
abbrev Ck:=Blk.row 152 .Aw Ab
abbrev FQ:=Blk.row 123 (.sh []) Ah
abbrev Cb:=Blk.row 142 (.sh []) Ae
abbrev ER:=Blk.row 150 .Aw Ao
abbrev Vh:=Blk.row 176 .Aw As
abbrev ck:=Blk.row 129 (.sh []) Ap
abbrev QN:=Blk.row 71 .Aw (.sl Ae)
abbrev TH:=Blk.row 87 .Aw (.sl Ak)
abbrev RY:=Blk.row 132 .Aw Ag
abbrev RZ:=Blk.row 61 (.sh []) Af
abbrev WW:=Blk.row 254 .Aw Ab
abbrev WX:=Blk.row 90 .Aw Ak
abbrev cm:=Blk.row 5 .Aw (.int .u8)
abbrev gd:=Blk.row 66 .Aw Ad
abbrev gg:=Blk.row 61 .Aw Af
abbrev gi:=Blk.row 174 (.sh []) (.sl Aa)
abbrev gj:=Blk.row 71 (.sh []) (.sl Ae)
abbrev qL:=Blk.row 129 .Aw Ap
abbrev Hb:=Blk.map .Aw Aa (.sl Aa)
abbrev Jn:=Blk.map (.sh []) (.int .i64) Ah
abbrev Hd:=Blk.map .Aw Aa (.int .i64)
abbrev Z5:=Blk.map .Aw (.int .i64) (.sl Ab)
abbrev xY:=Blk.map .Aw (.int .i64) Ab
abbrev xZ:=Blk.map .Aw (.int .i64) (.int .i64)
abbrev Au:=dD (.sl Ad)
abbrev Bo:=dD (.sl Af)
abbrev BQ:=dD Am
abbrev FX:=dD (.sl Ab)
abbrev Cc:=dD (.sl Ae)
abbrev DW:=dD (.sl (.int .i64))
abbrev FY:=dD An
abbrev VA:=dD Ag
abbrev HB:=dD (.sl (.sl (.int .i64)))
abbrev Kn:=dD Ae
abbrev Ei:=dD Ab
abbrev Gr:=dD Ah
abbrev Km:=dD .str
abbrev WT:=dD (.sl (.sl .bool))
abbrev QL:=dD (.sl (.sl Aa))
abbrev cb:=dD (.sl Aa)
abbrev Ni:=dD (.sl (.sl Ae))
abbrev TG:=dD (.sl (.int .u64))
abbrev cf:=dD Af
abbrev YT:=dD (.sl .bool)
abbrev YU:=dD (.sl (.int .u8))
abbrev YV:=dD (.sl Ap)
abbrev cg:=dD Ad
abbrev cj:=dD Bp
abbrev qI:=dD (.sl (.sl Ak))
abbrev ga:=dD (.sl Ag)
abbrev gb:=dD As
abbrev Ar:=AV.ptr 0 0 [] 0
abbrev A6:=AV.ptr 1 0 [] 0
abbrev HC:=AV.ptr 2 0 [] 0
abbrev NH:=AV.ptr 5 0 [] 0
abbrev WU:=AV.ptr 6 0 [] 0
abbrev RD:=AV.ptr 4 0 [] 0
abbrev WV:=AV.ptr 3 0 [] 0
abbrev qK:=AV.ptr 8 0 [] 0
abbrev UK:AV:=.pr .zs .u
abbrev AhT:AV:=.pr (.AG 1) (.pr (.pr (.AG 2) .u) (.pr (.AG 3) (.pr (.mp 4) .u)))
abbrev qM:AV:=.pr (.AG 4) (.pr (.pr (.AG 1) .u) (.pr (.AG 5) (.pr (.mp 6) .u)))
abbrev AhU:AV:=.pr (.AG 2) (.pr (.mp 3) (.pr (.AG 4) .u))
abbrev cu:AV:=.pr UK (.pr .zs UK)
abbrev AkE:AV:=.pr (.AG 5) (.pr (.AG 6) .u)
abbrev x7:AV:=.pr (.AG 7) .u
abbrev lg:AV:=.pr (.AG 3) .u
abbrev UC:AV:=.AG 2
abbrev qN:AV:=.pr (dI 0) UK
abbrev ADc:AV:=.pr (.AG 5) (.pr (.AG 6) (.pr (.mp 3) x7))
abbrev F8:AV:=.AG 1
abbrev cq:AV:=.pr UC (.pr (.mp 3) x7)
abbrev Al2:AV:=.pr F8 (.pr (.mp 2) (.pr (.AG 6) .u))
abbrev Al3:AV:=.pr UC (.pr (.mp 3) (.pr (.AG 5) .u))
abbrev Yf:AV:=.pr UC .u
abbrev Aah:AV:=.pr (.AG 5) (.pr (.AG 6) x7)
abbrev ADd:AV:=.pr (.AG 8) (.pr (.AG 9) (.pr (.mp 10) (.pr (.AG 11) .u)))
abbrev Q5:AV:=.pr (.AG 0) .u
abbrev KB:AV:=.AG 4
abbrev Zr:AV:=.pr (dI 0) (.pr qN .u)
abbrev Al4:AV:=.pr (.AG 9) (.pr (.AG 10) (.pr (.mp 11) (.pr (.AG 12) .u)))
abbrev Al5:AV:=.pr Yf (.pr .zs (.pr (.AG 8) .u))
abbrev nF:AV:=.pr UC lg
abbrev u9:AV:=.pr .zs UK
abbrev Al6:AV:=.pr F8 (.pr (.mp 2) (.pr (.AG 5) .u))
abbrev ADe:AV:=.pr (.AG 3) (.pr KB .u)
abbrev vb:AV:=.pr KB AkE
abbrev cr:AV:=.pr F8 AhU
abbrev QO:AV:=.AG 0
abbrev j8:AV:=.pr (.AG 5) .u
abbrev AhV:AV:=.pr F8 nF
abbrev Aai:AV:=.pr F8 (.pr (.mp 2) lg)
abbrev jY:=([(3,.AG 0)]:List (Nat×AV))
abbrev AkC CR C6:=([(0,DW CR),(3,.AG 0),(4,dI C6)]:List (Nat×AV))
abbrev AkD CR C6:=([(0,Bo CR),(3,.AG 0),(4,dI C6)]:List (Nat×AV))
abbrev UB CR:=([.box (VA CR)]:List Blk)
abbrev qJ CR C6 EG:=([.box (FY CR),AA C6,HD EG]:List Blk)
abbrev fz:=([(4,dB false)]:List (Nat×AV))
abbrev lf:=([(7,.AG 0)]:List (Nat×AV))
abbrev As8 CR:=([(2,QL CR),(4,Ar),(7,.zs),(11,A6)]:List (Nat×AV))
abbrev AhS CR C6:=([.box qN,.box (.pr (dI CR) Yf),Da C6]:List Blk)
abbrev Ab5 CR C6 EG:=([(0,cb CR),(4,.AG 0),(5,dI C6),(6,dI EG)]:List (Nat×AV))
abbrev zY CR C6:=([(0,cb CR),(4,.AG 0),(6,dI C6),(7,.AG 1)]:List (Nat×AV))
abbrev zZ CR:=([.box UK,.box Yf,Dh CR]:List Blk)
abbrev z6 CR C6:=([(0,Au CR),(3,Ar),(5,.AG 1),(6,dI C6)]:List (Nat×AV))
abbrev Ahs CR C6 EG:=([(0,Cc CR),(3,.AG 0),(4,dI C6),(5,dI EG)]:List (Nat×AV))
abbrev z7 CR C6:=([.box u9,.box nF,EF CR,HD C6]:List Blk)
abbrev SF CR C6:=([Ca CR,Vh C6]:List Blk)
abbrev z8 CR C6 EG IW:=([(2,.AG 0),(9,.AG 1),(13,dB CR),(14,dI C6),(15,dI EG),(16,dI IW)]:List (Nat×AV))
abbrev Aht CR C6 EG IW QQ aY:=([(2,.AG 0),(9,.AG 1),(13,dB CR),(14,dI C6),(15,dI EG),(16,dI IW),(17,dI QQ),(18,dI aY)]:List (Nat×AV))
abbrev uS CR C6 EG IW QQ:=([(2,.AG 0),(9,.AG 1),(13,dB CR),(14,dI C6),(15,dI EG),(16,dI IW),(17,dI QQ)]:List (Nat×AV))
abbrev Ahu CR C6:=([(2,.AG 0),(7,.AG 1),(9,.AG 2),(10,dI CR),(11,dI C6)]:List (Nat×AV))
abbrev Ahv CR C6 EG:=([(0,WT CR),(2,Ar),(3,A6),(4,dI C6),(5,.AG 2),(6,dI EG)]:List (Nat×AV))
abbrev Aaa CR C6:=([.box UK,.box lg,AA CR,Dh C6]:List Blk)
abbrev nC CR C6 EG IW QQ:=([(8,.zs),(15,Ar),(16,A6),(17,WT CR),(18,HB C6),(19,FX EG),(20,.AG 2),(21,dI IW),(22,dI QQ)]:List (Nat×AV))
abbrev jZ CR C6 EG IW QQ:=([.box ADe,.box AkE,ck CR,EF C6,HD EG,EF IW,HD QQ]:List Blk)
abbrev AlV CR C6 EG IW QQ aY sC h7_ h8_ h9_ ArU:=([.box AkE,.box (.pr (.AG 7) (.pr (.AG 8) .u)),ck CR,.box (.pr (dI C6) (.pr (.pr (dI EG) (.pr (.AG 9) .u)) .u)),.box (.pr (dI IW) (.pr (.pr (dI QQ) (.pr (.AG 10) .u)) .u)),EF aY,HD sC,EF h7_,HD h8_,Da h9_,Da ArU]:List Blk)
abbrev uT CR C6:=([.box (cf CR),.box (BQ C6)]:List Blk)
abbrev nD CR C6 EG IW:=([(0,FX CR),(1,.AG 0),(2,dI C6),(3,dI EG),(10,dI IW)]:List (Nat×AV))
abbrev uU CR C6 EG:=([(0,DW CR),(3,.AG 0),(4,dI C6),(5,dI EG)]:List (Nat×AV))
abbrev Ahw CR C6 EG:=([(0,.AG 0),(6,dI CR),(7,dI C6),(8,dI EG)]:List (Nat×AV))
abbrev uV CR C6 EG:=([.box AhV,FQ CR,C4 C6,AA EG]:List Blk)
abbrev Ahx CR C6 EG:=([(6,Ar),(10,A6),(11,dI CR),(12,.ptr 2 C6 [] 0),(19,dI EG)]:List (Nat×AV))
abbrev Ahy CR C6 EG IW QQ:=([.box cu,.box (.pr (BQ CR) (.pr (.AG 3) UK)),.box vb,ER C6,FQ EG,C4 IW,AA QQ]:List Blk)
abbrev uW CR C6 EG IW QQ aY:=([.box cu,.box (.pr (BQ CR) (.pr KB UK)),.box Aah,.box (.pr (.AG 8) (.pr (dB false) (.pr qN .u))),ER C6,FQ EG,C4 IW,AA QQ,AA aY]:List Blk)
abbrev Ahz CR C6 EG IW:=([(6,Ar),(10,A6),(11,dI CR),(12,.ptr 2 C6 [] 0),(19,dI EG),(20,WV),(21,dI IW)]:List (Nat×AV))
abbrev Aab CR C6 EG IW QQ:=([(0,Au CR),(1,Bo C6),(6,Ar),(8,A6),(10,HC),(11,dI EG),(12,.ptr 3 IW [] 0),(13,dI QQ)]:List (Nat×AV))
abbrev uX CR C6 EG IW QQ:=([.box cu,.box (BQ CR),.box (.pr (BQ C6) u9),.box vb,FQ EG,C4 IW,AA QQ]:List Blk)
abbrev AlW CR C6 EG IW QQ:=([(0,Au CR),(1,Bo C6),(6,Ar),(7,dB true),(8,A6),(10,HC),(11,dI EG),(12,.ptr 3 IW [] 0),(13,dI QQ)]:List (Nat×AV))
abbrev AlX CR C6 EG IW QQ aY sC:=([.box (.pr (BQ CR) (.pr .zs (.pr KB .u))),.box (BQ C6),.box (.pr (BQ EG) (.pr .zs (.pr KB .u))),.box Aah,AA IW,FQ QQ,C4 aY,AA sC]:List Blk)
abbrev Aac CR C6:=([(0,.Fv [] Ag CR),(7,dI C6)]:List (Nat×AV))
abbrev AhA CR C6 EG IW:=([(1,dI CR),(3,A6),(10,TG C6),(11,dI EG),(12,dI IW)]:List (Nat×AV))
abbrev AhB CR C6 EG:=([(0,.AG 1),(8,Cc CR),(9,dI C6),(10,dI EG)]:List (Nat×AV))
abbrev AhC CR C6 EG IW:=([(0,.AG 1),(6,HC),(7,dI CR),(8,Cc C6),(9,dI EG),(10,dI IW)]:List (Nat×AV))
abbrev AhD CR C6 EG IW:=([(1,dI CR),(2,dI C6),(3,Ar),(6,A6),(7,HC),(15,dI EG),(16,dI IW)]:List (Nat×AV))
abbrev AhE CR C6 EG:=([.box (Gr CR),.box qN,.box (.pr (dI C6) lg),Da EG]:List Blk)
abbrev AhF CR C6 EG:=([(3,.AG 0),(7,Bo CR),(8,dI C6),(9,dI EG)]:List (Nat×AV))
abbrev AhG CR C6 EG IW:=([(3,.AG 0),(5,A6),(6,dI CR),(8,Cc C6),(9,dI EG),(10,dI IW)]:List (Nat×AV))
abbrev uY CR C6 EG IW:=([(0,.ptr 0 CR [] 0),(8,FX C6),(9,FX EG),(10,dI IW)]:List (Nat×AV))
abbrev j6 CR C6 EG IW QQ:=([.box (.pr (Au CR) Al3),CP C6,Ca EG,Hb IW none,.A9,Fa QQ]:List Blk)
abbrev Aad CR C6 EG IW:=([(0,.ptr 0 CR [] 0),(8,FX C6),(9,FX EG),(10,dI IW),(13,NH),(14,WU)]:List (Nat×AV))
abbrev Aae CR C6 EG IW QQ aY sC h7_ h8_:=([.box (.pr (Au CR) cq),CP C6,Ca EG,Hb IW none,.A9,.box (.pr (dI QQ) (.pr (dI aY) .u)),.box (.pr (dI sC) (.pr (dI h7_) .u)),Fa h8_]:List Blk)
abbrev uZ CR C6 EG IW:=([(0,.ptr 0 CR [] 0),(8,FX C6),(9,FX EG),(10,dI IW),(11,NH),(12,WU)]:List (Nat×AV))
abbrev AhH CR C6 EG IW QQ:=([(0,.ptr 0 CR [] 0),(1,.AB [1] (.sl Ae) C6),(2,.AB [1] (.sl Ae) EG),(18,.AG 5),(19,dI IW),(20,dI QQ)]:List (Nat×AV))
abbrev AhI CR C6 EG IW QQ aY:=([.box (.pr (Au CR) (.pr UC (.pr (.mp 3) (.pr (.AG 6) .u)))),CP C6,Ca EG,Hb IW none,.A9,.row 142 (.sh [1]) Ae QQ,Fa aY]:List Blk)
abbrev j7 CR C6 EG IW QQ:=([.box (.pr (Au CR) Al2),Ca C6,Hb EG none,.A9,.box UK,.box x7,Fa IW,Dh QQ]:List Blk)
abbrev Aaf CR C6 EG IW QQ aY:=([(2,RD),(7,NH),(8,dI CR),(68,.AG 1),(69,dI C6),(70,dI EG),(75,.AB [1] (.sl .bool) IW),(76,dI QQ),(77,dI aY)]:List (Nat×AV))
abbrev Aag CR C6 EG IW:=([.box (.pr (Au CR) Al6),Ca C6,Hb EG none,.A9,.box UK,Fa IW]:List Blk)
abbrev AhJ CR C6 EG IW:=([(3,Ar),(5,.AG 1),(6,dI CR),(8,HC),(12,Cc C6),(13,dI EG),(14,dI IW)]:List (Nat×AV))
abbrev eQ CR C6 EG:=([.box (BQ CR),AA C6,.box (Kn EG)]:List Blk)
abbrev AhK CR C6 EG IW QQ aY sC:=([(3,Ar),(5,.AG 1),(6,dI CR),(8,HC),(12,Cc C6),(13,dI EG),(14,dI IW),(30,DW QQ),(31,dI aY),(32,dI sC)]:List (Nat×AV))
abbrev u0 CR C6 EG:=([Z5 CR none,xY C6 none,.tail 2 (.int .i64) EG]:List Blk)
abbrev AhL CR C6 EG IW QQ:=([(1,dI CR),(2,dI C6),(7,.mp 0),(10,.mp 1),(11,.AG 2),(71,.AB [0] (.sl Ab) EG),(72,dI IW),(73,dI QQ)]:List (Nat×AV))
abbrev AhM CR C6 EG IW QQ:=([(1,dI CR),(2,dI C6),(7,.mp 0),(9,A6),(20,FX EG),(21,dI IW),(22,dI QQ)]:List (Nat×AV))
abbrev eR CR C6 EG IW:=([.box ADc,.A9,.A9,Jn CR none,.A9,AA C6,AA EG,C4 IW]:List Blk)
abbrev AhN CR C6 EG IW QQ:=([(0,.ptr 0 CR [] 0),(10,dI C6),(11,dI EG),(12,dI IW),(13,dI QQ)]:List (Nat×AV))
abbrev AhO CR C6 EG IW QQ aY:=([.box cr,AA CR,AA C6,Jn EG none,C4 IW,ER QQ,xZ aY none]:List Blk)
abbrev nE CR C6 EG IW QQ:=([(0,.ptr 0 CR [] 0),(2,NH),(3,WU),(4,.ptr 7 C6 [] 0),(25,Bo EG),(26,dI IW),(27,dI QQ)]:List (Nat×AV))
abbrev u7 CR C6 EG IW QQ aY sC h7_ h8_ h9_:=([.box (.pr (Au CR) (.pr (Bo C6) AhT)),CP EG,Dh IW,Ck QQ,Hd aY none,.box cu,.box (.pr Yf u9),.box ADd,AA sC,AA h7_,Jn h8_ none,C4 h9_]:List Blk)
abbrev AhP CR C6 EG IW QQ aY sC h7_ h8_ h9_ ArU:=([.box (.pr (Au CR) (.pr (Bo C6) AhT)),CP EG,Dh IW,Ck QQ,Hd aY none,.box Al5,.box Al5,.box Al4,AA sC,AA h7_,AA h8_,Jn h9_ none,C4 ArU]:List Blk)
abbrev AhQ CR C6 EG IW QQ aY sC h7_ h8_:=([.box (.pr (Au CR) (.pr (Bo C6) qM)),Dh EG,ER IW,AA QQ,CP aY,Ck sC,Hd h7_ none,TH h8_]:List Blk)
abbrev AlY CR C6 EG IW QQ aY sC:=([(0,.ptr 0 CR [] 0),(5,.AG 7),(8,dI C6),(9,qK),(39,.AG 2),(40,dI EG),(41,dI IW),(47,.AB [2] (.sl (.int .i64)) QQ),(48,dI aY),(49,dI sC)]:List (Nat×AV))
abbrev AlZ CR C6 EG IW QQ aY sC h7_ h8_ h9_:=([(0,.ptr 0 CR [] 0),(5,.AG 7),(8,dI C6),(9,qK),(12,.ptr 9 0 [] 0),(13,dI EG),(14,.ptr 10 0 [] 0),(39,.AG 2),(40,dI IW),(41,dI QQ),(47,.AB [2] (.sl (.int .i64)) aY),(48,dI sC),(49,dI h7_),(61,dI h8_),(62,dI h9_)]:List (Nat×AV))
abbrev AhR CR C6 EG IW QQ aY:=([(1,qI CR),(5,.AG 0),(7,A6),(10,Cc C6),(11,dI EG),(12,dI IW),(17,dI QQ),(18,dI aY)]:List (Nat×AV))
abbrev Al0 CR C6:=([(10,.AG 0),(11,dB CR),(12,.AG 1),(13,dB C6),(14,.JU),(15,HC),(16,dI 1)]:List (Nat×AV))
abbrev Al1 CR C6:=([(10,Cc CR),(12,Cc C6),(14,.JU),(15,Ar),(16,dI 1),(56,dB true)]:List (Nat×AV))
abbrev APr:Ty:=.int .i64
abbrev APs:Ty:=.int .u64
abbrev APt:Ty:=.int .u8
abbrev APu:Ty:=.sl Ae
abbrev APv:Ty:=.sl Aa
abbrev APw:Ty:=.sl APr
abbrev APx:Ty:=.sl Ad
abbrev APy:Ty:=.sl .bool
abbrev APz:Ty:=.sl Af
abbrev APA:Ty:=.sl Ab
abbrev APB:Ty:=.sl APs
abbrev APC:Ty:=.sl Ak
abbrev APD:Ty:=.sl Ag
abbrev APE:Ty:=.sl APu
abbrev APF:Ty:=.sl APy
abbrev APG:Ty:=.sl APw
abbrev AOk:=AX.V
abbrev AOl:=Aa.V
abbrev AOm:=Ab.V
abbrev AOn:=Ad.V
abbrev AOo:=Ae.V
abbrev AOp:=Af.V
abbrev AOq:=Ag.V
abbrev AOr:=Ah.V
abbrev AOs:=Ak.V
abbrev AOt:=Am.V
abbrev AOu:=An.V
abbrev AOv:=Ao.V
abbrev AOw:=Ap.V
abbrev AOx:=As.V
abbrev AOy:=Bp.V
abbrev AOz:=List Int
abbrev AOA:=List Bool
abbrev AOB:=List Nat
abbrev AOC:=List AOl
abbrev AOD:=List AOm
abbrev AOE:=List AOn
abbrev AOF:=List AOo
abbrev AOG:=List AOp
abbrev AOH:=List AOq
abbrev AOI:=List AOr
abbrev AOJ:=List AOs
abbrev AOK:=List AOv
abbrev AOL:=List AOw
abbrev AOM:=List AOx
abbrev AON:=List AOz
abbrev AOO:=List AOA
abbrev AOP:=List AOC
abbrev AOQ:=List AOF
abbrev AOR:=List AOJ
abbrev AOS:=Int×AOr
abbrev AOT:=AOl×AOC
abbrev AOU:=AOF×Unit
abbrev AOV:=AOl×Int
abbrev AOW:=Int×AOz
abbrev AOX:=Int×AOD
abbrev AOY:=Int×Int
abbrev AOZ:=AOE×AOO×AOC
abbrev AO0:=Int×AOm
abbrev AO1:=AOA×AOz
abbrev AO2:=Bool×AOF
abbrev AO3:=Bool×AOO
abbrev AO4:=Int×Int×Bool×AOz
abbrev AO5:=Nat×Nat
abbrev AO6:=AOz×AOI×AOD×AOz
abbrev AO7:=Int×AOF
abbrev AO8:=Int×Bool×AOu×AOu×Bool
abbrev AO9:=Int×Int×Int×Int×AOz
abbrev APa:=AOI×AOD×AOz
abbrev APb:=Int×AOI×AOD×AOz
abbrev APc:=Int×AOE×AOO×AOC
abbrev APd:=AOF×AOF×Unit
abbrev APe:=Int×AOC
abbrev APf:=List AOT
abbrev APg:=AOF×AOU
abbrev APh:=List AOS
abbrev APi:=List AOV
abbrev APj:=List AOX
abbrev APk:=List AO0
abbrev APl:=List AOY
abbrev APm:=List APg
abbrev APn:=AOE×AOO×APf×AOC
abbrev APo:=AOz×AOz×APh×AOD×AOK
abbrev APp:=AOE×AOG×APm×AON×AOD×APi×AOz×AOz×AOz×APh×AOD
abbrev APq:=AOE×AOG×APm×AON×AOD×APi×AOz×AOz×APh×AOD
def DU:yg:=[
 (2,⟨APr,[],0,8,0,0,false⟩),
 (3,⟨APr,[],0,8,0,0,false⟩),
 (4,⟨.bool,[],0,1,0,0,false⟩),
 (5,⟨APt,[],0,1,0,0,false⟩),
 (9,⟨.str,[],0,16,0,0,false⟩),
 (22,⟨.sl Tlaws_Decl,[],54,24,0,0,false⟩),
 (23,⟨.sl Tlaws_Literal,[],57,24,0,0,false⟩),
 (24,⟨.sl Xv,[],109,24,0,0,false⟩),
 (26,⟨Tlaws_Term,[0],0,24,0,0,false⟩),
 (32,⟨APx,[],66,24,0,0,false⟩),
 (34,⟨APz,[],61,24,0,0,false⟩),
 (36,⟨APD,[],132,24,0,0,false⟩),
 (38,⟨An,[0],0,24,0,0,false⟩),
 (44,⟨APG,[],78,24,0,0,false⟩),
 (54,⟨Tlaws_Decl,[0,1],0,24,0,0,false⟩),
 (57,⟨Tlaws_Literal,[0,1,2,3],0,64,0,0,false⟩),
 (61,⟨Af,[0,1,2,3],0,64,0,0,false⟩),
 (66,⟨Ad,[0,1],0,24,0,0,false⟩),
 (71,⟨APu,[],142,24,0,0,false⟩),
 (76,⟨Am,[0],0,24,0,0,false⟩),
 (77,⟨.sl Ao,[],150,24,0,0,false⟩),
 (78,⟨APw,[],2,24,0,0,false⟩),
 (80,⟨Bp,[0,1,2],0,72,0,0,false⟩),
 (84,⟨.sl APC,[],87,24,0,0,false⟩),
 (87,⟨APC,[],90,24,0,0,false⟩),
 (88,⟨APs,[],0,8,0,0,false⟩),
 (90,⟨Ak,[0,1,2],0,24,0,0,true⟩),
 (95,⟨APy,[],4,24,0,0,false⟩),
 (105,⟨APB,[],88,24,0,0,false⟩),
 (107,⟨gv,[0,1],0,32,0,0,false⟩),
 (109,⟨Xv,[0,1,2,3,4,6],0,88,0,0,false⟩),
 (111,⟨APE,[],71,24,0,0,false⟩),
 (120,⟨.sl Ap,[],129,24,0,0,false⟩),
 (123,⟨Ah,[0,1],0,32,0,0,false⟩),
 (127,⟨AX,[0,1],0,40,0,0,false⟩),
 (129,⟨Ap,[0,3,6],0,88,0,0,false⟩),
 (132,⟨Ag,[0,1,2,3,4,6],0,88,0,0,false⟩),
 (142,⟨Ae,[0,1,2,3],0,56,0,0,false⟩),
 (143,⟨.sl (.AE APu (.AE APu .unit)),[],222,24,0,0,false⟩),
 (144,⟨APA,[],152,24,0,0,false⟩),
 (146,⟨.QV 1,[],2,8,0,227,false⟩),
 (148,⟨rh,[0,1,2,3,4,5],0,128,0,0,false⟩),
 (150,⟨Ao,[0,1,2],0,64,0,0,false⟩),
 (152,⟨Ab,[0,1,2],0,24,0,0,false⟩),
 (155,⟨.sl APt,[],5,24,0,0,false⟩),
 (163,⟨.sl Ah,[],123,24,0,0,false⟩),
 (164,⟨.sl Wo,[],204,24,0,0,false⟩),
 (166,⟨rj,[0,1,2],0,72,0,0,false⟩),
 (170,⟨APF,[],95,24,0,0,false⟩),
 (174,⟨APv,[],209,24,0,0,false⟩),
 (176,⟨As,[0,1],0,48,0,0,false⟩),
 (199,⟨.sl APv,[],174,24,0,0,false⟩),
 (204,⟨Wo,[0,1,2],0,24,0,0,false⟩),
 (207,⟨.sl As,[],176,24,0,0,false⟩),
 (209,⟨Aa,[0,1],0,16,0,0,false⟩),
 (222,⟨.AE APu (.AE APu .unit),[],71,48,2,0,false⟩),
 (227,⟨.AE APr (.AE APr .unit),[],2,16,2,0,false⟩),
 (228,⟨.QV 1,[],123,8,0,2,false⟩),
 (230,⟨nV,[0,1,2,3],0,80,0,0,false⟩),
 (234,⟨.QV 1,[],3,8,0,2,false⟩),
 (241,⟨APs,[],0,8,0,0,false⟩),
 (245,⟨.QV 1,[],246,8,0,227,false⟩),
 (246,⟨.sl (.AE APr (.AE APr .unit)),[],227,24,0,0,false⟩),
 (248,⟨nU,[0,1,2,3],0,80,0,0,false⟩),
 (251,⟨.sl gu,[],254,24,0,0,false⟩),
 (254,⟨gu,[0,1,2],0,24,0,0,false⟩),
 (259,⟨KC,[0,5],0,64,0,0,false⟩),
 (262,⟨.QV 1,[],164,8,0,2,false⟩),
 (263,⟨.QV 1,[],204,8,0,2,false⟩)]
theorem ADb:eH prog DU=true:=by kernel_rfl
theorem mixed:prog.follows .mixedOrders=true:=by kernel_rfl
abbrev eN(l:List (Nat×Va.Callee))(fi:FI):Gx:=⟨DU,N3 l,fi⟩
theorem pk{l fi}(h:Acs prog l):IR prog ⟨DU,N3 l,fi⟩:=⟨⟨ADb,AeS h⟩,mixed⟩
noncomputable section
abbrev E0:=eN [] {}
def Jr(a:AOn)(b:Int):Int:=(bif decide ((wI (b-(a.1.size:Int)))<0)then(-1)else(wI (b-(a.1.size:Int))))
theorem U0 R a b K:Sr E0 f23 R [cg a,dI b] [] K=K (dI (Jr a b)) []:=by
 refine .trans (b:=
 bif decide ((wI (b-(a.1.size:Int)))<0)then
 K (dI (-1)) []
 else
 K (dI (wI (b-(a.1.size:Int)))) []) (by kernel_rfl) ?_
 unfold Jr;cases (decide ((wI (b-(a.1.size:Int)))<0));rfl;rfl
def c23:=Cx [.d Ad,.d APr] [⟨[.AB [] Ad,.AB [] APr],[],Int,λp=>some (Jr p.1.1 p.1.2.1),λr=>(dI r,[])⟩]
theorem AiG:Aq prog 23 c23:=Av ⟨⟨E0,pk trivial,λ_ _ _=>U0 ..⟩,trivial⟩
abbrev E1:=eN [(23,c23)] {A8:=[(5,[0,1,5])],BW:=[(5,[1,4])]}
def AEG a (z_:Int×Int):=sT 27 [(0,Au a),(1,dI z_.1),(5,dI z_.2)] []
def AED(a:AOE):=Sum.elim (λ(b:Int)=>xR 27 [(1,dI b),(4,dI (-1))] []) (λ(c:Int)=>xE 0 27 [(1,dI c)] [])
def UW(a:AOE)(d e:Int):APJ (AOY⊕(Int⊕Int)):=
 bif decide (e<(a.length:Int))then
 if 0<=e/\e<a.length then
 bif decide ((Jr (a.getD e.toNat Ad.zero) d)<0)then
 some (.inr (.inl (Jr (a.getD e.toNat Ad.zero) d)))
 else
 some (.inl (Jr (a.getD e.toNat Ad.zero) d,wI (e+1)))
 else none
 else
 some (.inr (.inr d))
def Le a (z_:Int×Int):=UW a z_.1 z_.2
def Xb a d e:=fix (Le a) (d,e)
theorem AEJ a:A4 E1 0 5 (code f5) 122 (AEG a) (Le a) (AED a):=by
 intro _;simp only[Le,UW,AOi];kernel_rfl
def Tx(a:AOE)(g:Int):APJ Int:=
 bif decide ((wI (g-(a.length:Int)))<0)then
 some (-1)
 else
 (Xb a (wI (g-(a.length:Int))) 0).bind (Sum.elim (λb=>some (-1)) (λc=>some c))
def c5:=Cx [.d APx,.d APr] [⟨[.AB [] APx,.AB [] APr],[],Int,λp=>Tx p.1.1 p.1.2.1,λr=>(dI r,[])⟩]
theorem ArG:Aq prog 5 c5:=Av (fn:=f5) ⟨⟨E1,pk ⟨AiG,trivial⟩,λ_ R K=>by
 simp(disch:=refine id ?_;kernel_rfl) only[Tx,AOj,Xb,AH (AEJ _) (K:=A2 E1 f5 0 R K)];kernel_rfl⟩,trivial⟩
abbrev E2:=eN [] {}
def CL(a:AOz)(b:Int):Int:=(bif decide ((wI (b-(a.length:Int)))<0)then(-1)else(wI (b-(a.length:Int))))
theorem U2 R a b K:Sr E2 f114 R [TG a,dI b] [] K=K (dI (CL a b)) []:=by
 refine .trans (b:=
 bif decide ((wI (b-(a.length:Int)))<0)then
 K (dI (-1)) []
 else
 K (dI (wI (b-(a.length:Int)))) []) (by kernel_rfl) ?_
 unfold CL;cases (decide ((wI (b-(a.length:Int)))<0));rfl;rfl
def AAO:=Cx [.d APB,.d APr] [⟨[.AB [] APB,.AB [] APr],[],Int,λp=>some (CL p.1.1 p.1.2.1),λr=>(dI r,[])⟩]
theorem AdG:Aq prog 114 AAO:=Av ⟨⟨E2,pk trivial,λ_ _ _=>U2 ..⟩,trivial⟩
abbrev E3:=eN [(114,AAO)] {}
def Dv(a:AOr)(b:Int):Int:=(bif decide ((CL a.2.1 b)<0)then(-1)else(CL a.2.1 b))
theorem U3 R a b K:Sr E3 f77 R [Gr a,dI b] [] K=K (dI (Dv a b)) []:=by
 refine .trans (b:=
 bif decide ((CL a.2.1 b)<0)then
 K (dI (-1)) []
 else
 K (dI (CL a.2.1 b)) []) (by kernel_rfl) ?_
 unfold Dv;cases (decide ((CL a.2.1 b)<0));rfl;rfl
def c77:=Cx [.d Ah,.d APr] [⟨[.AB [] Ah,.AB [] APr],[],Int,λp=>some (Dv p.1.1 p.1.2.1),λr=>(dI r,[])⟩]
theorem Ai9:Aq prog 77 c77:=Av ⟨⟨E3,pk ⟨AdG,trivial⟩,λ_ _ _=>U3 ..⟩,trivial⟩
abbrev E4:=eN [] {}
def Df(a:AOz)(b:Int):Int:=(bif decide ((wI (b-(a.length:Int)))<0)then(-1)else(wI (b-(a.length:Int))))
theorem U4 R a b K:Sr E4 f78 R [DW a,dI b] [] K=K (dI (Df a b)) []:=by
 refine .trans (b:=
 bif decide ((wI (b-(a.length:Int)))<0)then
 K (dI (-1)) []
 else
 K (dI (wI (b-(a.length:Int)))) []) (by kernel_rfl) ?_
 unfold Df;cases (decide ((wI (b-(a.length:Int)))<0));rfl;rfl
def c78:=Cx [.d APw,.d APr] [⟨[.AB [] APw,.AB [] APr],[],Int,λp=>some (Df p.1.1 p.1.2.1),λr=>(dI r,[])⟩]
theorem Aja:Aq prog 78 c78:=Av ⟨⟨E4,pk trivial,λ_ _ _=>U4 ..⟩,trivial⟩
abbrev E5:=eN [(77,c77),(78,c78)] {}
def HX(a:AOq)(b:Int):Int:=(bif decide ((Dv a.2.2.2.2.1 b)<0)then(-1)else(bif decide ((Df a.2.2.2.2.2.1 (Dv a.2.2.2.2.1 b))<0)then(-1)else(Df a.2.2.2.2.2.1 (Dv a.2.2.2.2.1 b))))
theorem U5 R a b K:Sr E5 f53 R [VA a,dI b] [] K=K (dI (HX a b)) []:=by
 refine .trans (b:=
 bif decide ((Dv a.2.2.2.2.1 b)<0)then
 K (dI (-1)) []
 else
 bif decide ((Df a.2.2.2.2.2.1 (Dv a.2.2.2.2.1 b))<0)then
 K (dI (-1)) []
 else
 K (dI (Df a.2.2.2.2.2.1 (Dv a.2.2.2.2.1 b))) []) (by kernel_rfl) ?_
 unfold HX;cases (decide ((Dv a.2.2.2.2.1 b)<0));cases (decide ((Df a.2.2.2.2.2.1 (Dv a.2.2.2.2.1 b))<0));rfl;rfl;rfl
def c53:=Cx [.d Ag,.d APr] [⟨[.AB [] Ag,.AB [] APr],[],Int,λp=>some (HX p.1.1 p.1.2.1),λr=>(dI r,[])⟩]
theorem AiY:Aq prog 53 c53:=Av ⟨⟨E5,pk ⟨Ai9,Aja,trivial⟩,λ_ _ _=>U5 ..⟩,trivial⟩
abbrev E6:=eN [(53,c53)] {A8:=[(5,[0,1,5])],BW:=[(5,[1,4])]}
def AEH a (z_:Int×Int):=sT 27 [(0,ga a),(1,dI z_.1),(5,dI z_.2)] []
def AEE(a:AOH):=Sum.elim (λ(b:Int)=>xR 27 [(1,dI b),(4,dI (-1))] []) (λ(c:Int)=>xE 0 27 [(1,dI c)] [])
def T7(a:AOH)(d e:Int):APJ (AOY⊕(Int⊕Int)):=
 bif decide (e<(a.length:Int))then
 if 0<=e/\e<a.length then
 bif decide ((HX (a.getD e.toNat Ag.zero) d)<0)then
 some (.inr (.inl (HX (a.getD e.toNat Ag.zero) d)))
 else
 some (.inl (HX (a.getD e.toNat Ag.zero) d,wI (e+1)))
 else none
 else
 some (.inr (.inr d))
def JO a (z_:Int×Int):=T7 a z_.1 z_.2
def V5 a d e:=fix (JO a) (d,e)
theorem AEK a:A4 E6 0 5 (code f25) 122 (AEH a) (JO a) (AEE a):=by
 intro _;simp only[JO,T7,AOi];kernel_rfl
def RR(a:AOH)(g:Int):APJ Int:=
 bif decide ((wI (g-(a.length:Int)))<0)then
 some (-1)
 else
 (V5 a (wI (g-(a.length:Int))) 0).bind (Sum.elim (λb=>some (-1)) (λc=>some c))
def c25:=Cx [.d APD,.d APr] [⟨[.AB [] APD,.AB [] APr],[],Int,λp=>RR p.1.1 p.1.2.1,λr=>(dI r,[])⟩]
theorem AiI:Aq prog 25 c25:=Av (fn:=f25) ⟨⟨E6,pk ⟨AiY,trivial⟩,λ_ R K=>by
 simp(disch:=refine id ?_;kernel_rfl) only[RR,AOj,V5,AH (AEK _) (K:=A2 E6 f25 0 R K)];kernel_rfl⟩,trivial⟩
abbrev E7:=eN [(25,c25)] {}
def Mc(a:AOu)(b:Int):APJ Int:=
 (RR a.1 b).bind λc=>bif decide (c<0)then
 some (-1)
 else
 some c
def c7:=Cx [.d An,.d APr] [⟨[.AB [] An,.AB [] APr],[],Int,λp=>Mc p.1.1 p.1.2.1,λr=>(dI r,[])⟩]
theorem Aev:Aq prog 7 c7:=Av (fn:=f7) ⟨⟨E7,pk ⟨AiI,trivial⟩,λ_ R K=>by
 simp only[Mc,AOj];kernel_rfl⟩,trivial⟩
end
noncomputable section
abbrev E8:=eN [(7,c7)] {}
def Qa(a:AOp)(b:Int):APJ Int:=
 (Mc a.2.2.1 b).bind λc=>bif decide (c<0)then
 some (-1)
 else
 (Mc a.2.2.2.1 c).bind λd=>bif decide (d<0)then
 some (-1)
 else
 some d
def c24:=Cx [.d Af,.d APr] [⟨[.AB [] Af,.AB [] APr],[],Int,λp=>Qa p.1.1 p.1.2.1,λr=>(dI r,[])⟩]
theorem AiH:Aq prog 24 c24:=Av (fn:=f24) ⟨⟨E8,pk ⟨Aev,trivial⟩,λ_ R K=>by
 simp only[Qa,AOj];kernel_rfl⟩,trivial⟩
abbrev E9:=eN [(24,c24)] {A8:=[(5,[0,1,5])],BW:=[(5,[1,4])]}
def AEI a (z_:Int×Int):=sT 27 [(0,Bo a),(1,dI z_.1),(5,dI z_.2)] []
def AEF(a:AOG):=Sum.elim (λ(b:Int)=>xR 27 [(1,dI b),(4,dI (-1))] []) (λ(c:Int)=>xE 0 27 [(1,dI c)] [])
def Sk(a:AOG)(d e:Int):APJ (AOY⊕(Int⊕Int)):=
 bif decide (e<(a.length:Int))then
 if 0<=e/\e<a.length then
 (Qa (a.getD e.toNat Af.zero) d).bind λg=>bif decide (g<0)then
 some (.inr (.inl g))
 else
 some (.inl (g,wI (e+1)))
 else none
 else
 some (.inr (.inr d))
def Mb a (z_:Int×Int):=Sk a z_.1 z_.2
def T6 a d e:=fix (Mb a) (d,e)
theorem AEL a:A4 E9 0 5 (code f6) 122 (AEI a) (Mb a) (AEF a):=by
 intro _;simp only[Mb,Sk,AOi];kernel_rfl
def Ot(a:AOG)(i:Int):APJ Int:=
 bif decide ((wI (i-(a.length:Int)))<0)then
 some (-1)
 else
 (T6 a (wI (i-(a.length:Int))) 0).bind (Sum.elim (λb=>some (-1)) (λc=>some c))
def c6:=Cx [.d APz,.d APr] [⟨[.AB [] APz,.AB [] APr],[],Int,λp=>Ot p.1.1 p.1.2.1,λr=>(dI r,[])⟩]
theorem ArI:Aq prog 6 c6:=Av (fn:=f6) ⟨⟨E9,pk ⟨AiH,trivial⟩,λ_ R K=>by
 simp(disch:=refine id ?_;kernel_rfl) only[Ot,AOj,T6,AH (AEL _) (K:=A2 E9 f6 0 R K)];kernel_rfl⟩,trivial⟩
abbrev E10:=eN [] {}
def UY(a:AOn):(ByteArray×Int):=(a.1,a.2.1)
def c30:=Cx [.d Ad] [⟨[.AB [] Ad],[],ByteArray×Int,λp=>some (UY p.1.1),λr=>(.pr (Km r.1) (.pr (dI r.2) .u),[])⟩]
theorem AiM:Aq prog 30 c30:=Av (fn:=f30) ⟨⟨E10,pk trivial,λ_ _ _=>by kernel_rfl⟩,trivial⟩
abbrev E11:=eN [(30,c30)] {A8:=[(3,[0,3,4])],BW:=[(3,[3])]}
def AvZ a (z_:Int×AOE):=sT 23 [(0,Au a),(3,.AG 0),(4,dI z_.1)] [gd z_.2]
def AtU(a:AOE):=λ(b:AOE)=>xE 0 23 jY [gd b]
def UZ(a:AOE)(c:Int)(d:AOE):APJ ((Int×AOE)⊕AOE):=
 bif decide (c<(a.length:Int))then
 if 0<=c/\c<a.length then
 if 0<=c/\c<d.length then
 some (.inl (wI (c+1),d.set c.toNat ((UY (a.getD c.toNat Ad.zero)).1,(UY (a.getD c.toNat Ad.zero)).2,())))
 else none
 else none
 else
 some (.inr d)
def Lf a (z_:Int×AOE):=UZ a z_.1 z_.2
def S4 a c d:=fix (Lf a) (c,d)
theorem Ax4 a:A4 E11 0 3 (code f9) 58 (AvZ a) (Lf a) (AtU a):=by
 intro _;simp only[Lf,UZ,AOi];kernel_rfl
def JQ(a:AOE):APJ AOE:=
 if Ty.row Ad=true/\(0:Int)<=(a.length:Int)/\(a.length:Int)<=(a.length:Int)/\((24:Nat):Int)*(a.length:Int)<=(281474976710656:Int)/\(a.length:Int)<=(9223372036854775807:Int)then
 (S4 a 0 (List.replicate (a.length:Int).toNat ((⟨#[]⟩:ByteArray),0,()))).bind λb=>some b
 else none
def c9:=Cx [.d APx] [⟨[.AB [] APx],[],AOE,λp=>JQ p.1.1,λr=>(.AG 0,[gd r])⟩]
theorem ArK:Aq prog 9 c9:=Av (fn:=f9) ⟨⟨E11,pk ⟨AiM,trivial⟩,λ_ R K=>by
 simp(disch:=refine id ?_;kernel_rfl) only[JQ,AOj,S4,AH (Ax4 _) (K:=A2 E11 f9 0 R K)];kernel_rfl⟩,trivial⟩
abbrev E12:=eN [] {A8:=[(3,[0,3,4])],BW:=[(3,[3])]}
def Av0 a (z_:Int×AOz):=sT 22 [(0,TG a),(3,.AG 0),(4,dI z_.1)] [Da z_.2]
def AtV(a:AOz):=λ(b:AOz)=>xE 0 22 jY [Da b]
def Tm(a:AOz)(c:Int)(d:AOz):APJ (AOW⊕AOz):=
 bif decide (c<(a.length:Int))then
 if 0<=c/\c<a.length then
 if 0<=c/\c<d.length then
 some (.inl (wI (c+1),d.set c.toNat (a.getD c.toNat APs.zero)))
 else none
 else none
 else
 some (.inr d)
def IK a (z_:Int×AOz):=Tm a z_.1 z_.2
def Qc a c d:=fix (IK a) (c,d)
theorem Ax5 a:A4 E12 0 3 (code f127) 58 (Av0 a) (IK a) (AtV a):=by
 intro _;simp only[IK,Tm,AOi];kernel_rfl
def I8(a:AOz):APJ AOz:=
 if Ty.row APs=true/\(0:Int)<=(a.length:Int)/\(a.length:Int)<=(a.length:Int)/\((8:Nat):Int)*(a.length:Int)<=(281474976710656:Int)/\(a.length:Int)<=(9223372036854775807:Int)then
 (Qc a 0 (List.replicate (a.length:Int).toNat 0)).bind λb=>some b
 else none
def AAZ:=Cx [.d APB] [⟨[.AB [] APB],[],AOz,λp=>I8 p.1.1,λr=>(.AG 0,[Da r])⟩]
theorem AdS:Aq prog 127 AAZ:=Av (fn:=f127) ⟨⟨E12,pk trivial,λ_ R K=>by
 simp(disch:=refine id ?_;kernel_rfl) only[I8,AOj,Qc,AH (Ax5 _) (K:=A2 E12 f127 0 R K)];kernel_rfl⟩,trivial⟩
abbrev E13:=eN [(127,AAZ)] {}
def UX(a:AOr):APJ AOW:=
 (I8 a.2.1).bind λb=>some (a.1,b)
def c97:=Cx [.d Ah] [⟨[.AB [] Ah],[],AOW,λp=>UX p.1.1,λr=>(.pr (dI r.1) Q5,[Da r.2])⟩]
theorem Ajk:Aq prog 97 c97:=Av (fn:=f97) ⟨⟨E13,pk ⟨AdS,trivial⟩,λ_ R K=>by
 simp only[UX,AOj];kernel_rfl⟩,trivial⟩
abbrev E14:=eN [] {A8:=[(3,[0,3,4])],BW:=[(3,[3])]}
def Av1 a (z_:Int×AOz):=sT 22 (AkC a z_.1) [AA z_.2]
def AtW(a:AOz):=λ(b:AOz)=>xE 0 22 jY [AA b]
def T8(a:AOz)(c:Int)(d:AOz):APJ (AOW⊕AOz):=
 bif decide (c<(a.length:Int))then
 if 0<=c/\c<a.length then
 if 0<=c/\c<d.length then
 some (.inl (wI (c+1),d.set c.toNat (a.getD c.toNat APr.zero)))
 else none
 else none
 else
 some (.inr d)
def JR a (z_:Int×AOz):=T8 a z_.1 z_.2
def Ri a c d:=fix (JR a) (c,d)
theorem Ax6 a:A4 E14 0 3 (code f98) 58 (Av1 a) (JR a) (AtW a):=by
 intro _;simp only[JR,T8,AOi];kernel_rfl
def KI(a:AOz):APJ AOz:=
 if Ty.row APr=true/\(0:Int)<=(a.length:Int)/\(a.length:Int)<=(a.length:Int)/\((8:Nat):Int)*(a.length:Int)<=(281474976710656:Int)/\(a.length:Int)<=(9223372036854775807:Int)then
 (Ri a 0 (List.replicate (a.length:Int).toNat 0)).bind λb=>some b
 else none
def c98:=Cx [.d APw] [⟨[.AB [] APw],[],AOz,λp=>KI p.1.1,λr=>(.AG 0,[AA r])⟩]
theorem Ajl:Aq prog 98 c98:=Av (fn:=f98) ⟨⟨E14,pk trivial,λ_ R K=>by
 simp(disch:=refine id ?_;kernel_rfl) only[KI,AOj,Ri,AH (Ax6 _) (K:=A2 E14 f98 0 R K)];kernel_rfl⟩,trivial⟩
abbrev E15:=eN [(97,c97),(98,c98)] {}
def Qb(a:AOq):APJ (Int×Int×Int×Int×Int×AOz×AOz):=
 (UX a.2.2.2.2.1).bind λb=>(KI a.2.2.2.2.2.1).bind λc=>some (a.1,a.2.1,a.2.2.1,a.2.2.2.1,b.1,b.2,c)
def c63:=Cx [.d Ag] [⟨[.AB [] Ag],[],Int×Int×Int×Int×Int×AOz×AOz,λp=>Qb p.1.1,λr=>(.pr (dI r.1) (.pr (dI r.2.1) (.pr (dI r.2.2.1) (.pr (dI r.2.2.2.1) (.pr (.pr (dI r.2.2.2.2.1) Q5) (.pr F8 .u))))),[Da r.2.2.2.2.2.1,AA r.2.2.2.2.2.2])⟩]
theorem Ai0:Aq prog 63 c63:=Av (fn:=f63) ⟨⟨E15,pk ⟨Ajk,Ajl,trivial⟩,λ_ R K=>by
 simp only[Qb,AOj];kernel_rfl⟩,trivial⟩
abbrev E16:=eN [(63,c63)] {A8:=[(3,[0,3,4])],BW:=[(3,[3])]}
def Av2 a (z_:Int×AOH):=sT 23 [(0,ga a),(3,.AG 0),(4,dI z_.1)] [RY z_.2]
def AtX(a:AOH):=λ(b:AOH)=>xE 0 23 jY [RY b]
def T9(a:AOH)(c:Int)(d:AOH):APJ ((Int×AOH)⊕AOH):=
 bif decide (c<(a.length:Int))then
 if 0<=c/\c<a.length then
 (Qb (a.getD c.toNat Ag.zero)).bind λe=>if 0<=c/\c<d.length then
 some (.inl (wI (c+1),d.set c.toNat (e.1,e.2.1,e.2.2.1,e.2.2.2.1,(e.2.2.2.2.1,e.2.2.2.2.2.1,()),e.2.2.2.2.2.2,())))
 else none
 else none
 else
 some (.inr d)
def JS a (z_:Int×AOH):=T9 a z_.1 z_.2
def Rj a c d:=fix (JS a) (c,d)
theorem Ax7 a:A4 E16 0 3 (code f32) 58 (Av2 a) (JS a) (AtX a):=by
 intro _;simp only[JS,T9,AOi];kernel_rfl
def N0(a:AOH):APJ AOH:=
 if Ty.row Ag=true/\(0:Int)<=(a.length:Int)/\(a.length:Int)<=(a.length:Int)/\((88:Nat):Int)*(a.length:Int)<=(281474976710656:Int)/\(a.length:Int)<=(9223372036854775807:Int)then
 (Rj a 0 (List.replicate (a.length:Int).toNat (0,0,0,0,(0,([]:AOz),()),([]:AOz),()))).bind λb=>some b
 else none
def c32:=Cx [.d APD] [⟨[.AB [] APD],[],AOH,λp=>N0 p.1.1,λr=>(.AG 0,[RY r])⟩]
theorem AiO:Aq prog 32 c32:=Av (fn:=f32) ⟨⟨E16,pk ⟨Ai0,trivial⟩,λ_ R K=>by
 simp(disch:=refine id ?_;kernel_rfl) only[N0,AOj,Rj,AH (Ax7 _) (K:=A2 E16 f32 0 R K)];kernel_rfl⟩,trivial⟩
abbrev E17:=eN [(32,c32)] {}
def Ed(a:AOu):APJ AOH:=
 (N0 a.1).bind λb=>some b
def c11:=Cx [.d An] [⟨[.AB [] An],[],AOH,λp=>Ed p.1.1,λr=>(.pr QO .u,[RY r])⟩]
theorem yq:Aq prog 11 c11:=Av (fn:=f11) ⟨⟨E17,pk ⟨AiO,trivial⟩,λ_ R K=>by
 simp only[Ed,AOj];kernel_rfl⟩,trivial⟩
abbrev E18:=eN [(11,c11)] {}
def Md(a:AOp):APJ (Int×Bool×AOH×AOH):=
 (Ed a.2.2.1).bind λb=>(Ed a.2.2.2.1).bind λc=>some (a.1,a.2.1,b,c)
def c31:=Cx [.d Af] [⟨[.AB [] Af],[],Int×Bool×AOH×AOH,λp=>Md p.1.1,λr=>(.pr (dI r.1) (.pr (dB r.2.1) (.pr Q5 (.pr (.pr F8 .u) .u))),[RY r.2.2.1,RY r.2.2.2])⟩]
theorem AiN:Aq prog 31 c31:=Av (fn:=f31) ⟨⟨E18,pk ⟨yq,trivial⟩,λ_ R K=>by
 simp only[Md,AOj];kernel_rfl⟩,trivial⟩
abbrev E19:=eN [(31,c31)] {A8:=[(3,[0,3,4])],BW:=[(3,[3])]}
def Av3 a (z_:Int×AOG):=sT 23 (AkD a z_.1) [gg z_.2]
def AtY(a:AOG):=λ(b:AOG)=>xE 0 23 jY [gg b]
def Sl(a:AOG)(c:Int)(d:AOG):APJ ((Int×AOG)⊕AOG):=
 bif decide (c<(a.length:Int))then
 if 0<=c/\c<a.length then
 (Md (a.getD c.toNat Af.zero)).bind λe=>if 0<=c/\c<d.length then
 some (.inl (wI (c+1),d.set c.toNat (e.1,e.2.1,(e.2.2.1,()),(e.2.2.2,()),())))
 else none
 else none
 else
 some (.inr d)
def HY a (z_:Int×AOG):=Sl a z_.1 z_.2
def O1 a c d:=fix (HY a) (c,d)
theorem Ax8 a:A4 E19 0 3 (code f10) 58 (Av3 a) (HY a) (AtY a):=by
 intro _;simp only[HY,Sl,AOi];kernel_rfl
def FV(a:AOG):APJ AOG:=
 if Ty.row Af=true/\(0:Int)<=(a.length:Int)/\(a.length:Int)<=(a.length:Int)/\((64:Nat):Int)*(a.length:Int)<=(281474976710656:Int)/\(a.length:Int)<=(9223372036854775807:Int)then
 (O1 a 0 (List.replicate (a.length:Int).toNat (0,false,(([]:AOH),()),(([]:AOH),()),()))).bind λb=>some b
 else none
def c10:=Cx [.d APz] [⟨[.AB [] APz],[],AOG,λp=>FV p.1.1,λr=>(.AG 0,[gg r])⟩]
theorem Aiy:Aq prog 10 c10:=Av (fn:=f10) ⟨⟨E19,pk ⟨AiN,trivial⟩,λ_ R K=>by
 simp(disch:=refine id ?_;kernel_rfl) only[FV,AOj,O1,AH (Ax8 _) (K:=A2 E19 f10 0 R K)];kernel_rfl⟩,trivial⟩
abbrev E20:=eN [] {}
def MS(a:Int):Bool:=((decide (a>=48))&&(decide (a<=57)))
theorem U20 R a K:Sr E20 f149 R [dD APt a] [] K=K (dB (MS a)) []:=by
 refine .trans (b:=
 bif decide (a>=48)then
 K (dB (decide (a<=57))) []
 else
 K (dB false) []) (by kernel_rfl) ?_
 unfold MS;cases (decide (a>=48));rfl;rfl
def ABf:=Cx [.d APt] [⟨[.AB [] APt],[],Bool,λp=>some (MS p.1.1),λr=>(dB r,[])⟩]
theorem Ad8:Aq prog 149 ABf:=Av ⟨⟨E20,pk trivial,λ_ _ _=>U20 ..⟩,trivial⟩
abbrev E21:=eN [(149,ABf)] {A8:=[(4,[0,3])],BW:=[(4,[2])],BS:=[(2,[0,16]),(7,[0,3,39])],DD:=[(2,[0]),(7,[0,3])]}
def Av6 a (z_:Int):=sT 40 [(0,Km a),(3,dI z_)] []
def At1(a:ByteArray):=Sum.elim (λ(b:Unit)=>xR 40 [(2,dB false)] []) (λ(c:Unit)=>xE 0 40 [] [])
def Av5 a d:=sT 40 [(0,Km a),(3,dI d)] []
def At0 a d:=λ(e:Bool)=>xN 40 [(0,Km a),(3,dI d),(39,dB e)] []
def Mk(a:ByteArray)(d:Int):APJ Bool:=
 if(0:Int)<=d/\d<(a.size:Int)then
 bif !(MS (C5 a d))then
 if(0:Int)<=d/\d<(a.size:Int)then
 bif decide ((C5 a d)<97)then
 some true
 else
 if(0:Int)<=d/\d<(a.size:Int)then
 some (decide ((C5 a d)>122))
 else none
 else none
 else
 some false
 else none
theorem Aya a d:AY E21 0 7 (cd f115 116) 24 (Av5 a d) (Mk a d) (At0 a d):=by
 unfold AY;simp only[Mk,AOi];kernel_rfl
def MV(a:ByteArray)(d:Int):APJ (Int⊕(Unit⊕Unit)):=
 bif decide (d<(a.size:Int))then
 (Mk a d).bind λe=>bif e then
 some (.inr (.inl ()))
 else
 some (.inl (wI (d+1)))
 else
 some (.inr (.inr ()))
def Jg a (z_:Int):=MV a z_
def X9 a d:=fix (Jg a) d
theorem Ayb a:A4 E21 0 4 (code f115) 58 (Av6 a) (Jg a) (At1 a):=by
 intro _;simp(disch:=refine id ?_;kernel_rfl) only[Jg,MV,AOi,Bc (Aya ..) (K:=KJ E21 0 4)];kernel_rfl
def Av4 a:=sT 40 [(0,Km a)] []
def AtZ a:=λ(g:Bool)=>xN 40 [(0,Km a),(16,dB g)] []
def Qv(a:ByteArray):APJ Bool:=
 bif decide ((a.size:Int)<1)then
 some true
 else
 bif decide ((a.size:Int)>12)then
 some true
 else
 if(0:Int)<=(0:Int)/\(0:Int)<(a.size:Int)then
 some (MS (C5 a 0))
 else none
theorem Ax9 a:AY E21 0 2 (code f115) 12 (Av4 a) (Qv a) (AtZ a):=by
 unfold AY;simp only[Qv,AOi];kernel_rfl
def Pp(a:ByteArray):APJ Bool:=
 (Qv a).bind λg=>bif g then
 some false
 else
 (X9 a 0).bind (Sum.elim (λb=>some false) (λc=>some true))
def AAP:=Cx [.d .str] [⟨[.AB [] .str],[],Bool,λp=>Pp p.1.1,λr=>(dB r,[])⟩]
theorem AdH:Aq prog 115 AAP:=Av (fn:=f115) ⟨⟨E21,pk ⟨Ad8,trivial⟩,λ_ R K=>by
 simp(disch:=refine id ?_;kernel_rfl) only[Pp,AOj,Bc (Ax9 _) (K:=A2 E21 f115 0 R K),X9,AH (Ayb _) (K:=A2 E21 f115 0 R K)];kernel_rfl⟩,trivial⟩
abbrev E22:=eN [] {}
def BF(a b c:Int):Bool:=((decide (a>=b))&&(decide (a<=c)))
theorem U22 R a b c K:Sr E22 f81 R [dI a,dI b,dI c] [] K=K (dB (BF a b c)) []:=by
 refine .trans (b:=
 bif decide (a>=b)then
 K (dB (decide (a<=c))) []
 else
 K (dB false) []) (by kernel_rfl) ?_
 unfold BF;cases (decide (a>=b));rfl;rfl
def c81:=Cx [.d APr,.d APr,.d APr] [⟨[.AB [] APr,.AB [] APr,.AB [] APr],[],Bool,λp=>some (BF p.1.1 p.1.2.1 p.1.2.2.1),λr=>(dB r,[])⟩]
theorem UO:Aq prog 81 c81:=Av ⟨⟨E22,pk trivial,λ_ _ _=>U22 ..⟩,trivial⟩
abbrev E23:=eN [(81,c81),(115,AAP)] {A8:=[(5,[0,3,4]),(10,[0,3,4,5])],BW:=[(5,[2,3]),(10,[0,2,3,4])],BS:=[(8,[0,3,4,30])],DD:=[(8,[0,3,4])]}
def Av9 a (z_:Int×Int):=sT 56 [(0,Au a),(3,dI z_.1),(4,dI z_.2)] []
def At4(a:AOE):=Sum.elim (λ(b:Int)=>xR 56 [(2,dB false),(3,dI b)] []) (λ(c:Int)=>xE 0 56 [(3,dI c)] [])
def Av8 a d e (z_:Int):=sT 56 [(0,Au a),(3,dI d),(4,dI e),(5,dI z_)] []
def At3 a d e:=Sum.elim (λ(g:Unit)=>xR 56 [(0,Au a),(2,dB false),(3,dI d),(4,dI e)] []) (λ(i:Unit)=>xE 2 56 [(0,Au a),(3,dI d),(4,dI e)] [])
def Ll(a:AOE)(d e j:Int):APJ (Int⊕(Unit⊕Unit)):=
 bif decide (j<e)then
 if 0<=j/\j<a.length then
 if 0<=e/\e<a.length then
 bif Iu (a.getD j.toNat Ad.zero).1 (a.getD e.toNat Ad.zero).1 then
 some (.inr (.inl ()))
 else
 some (.inl (wI (j+1)))
 else none
 else none
 else
 some (.inr (.inr ()))
def Ia a d e (z_:Int):=Ll a d e z_
def Xd a d e j:=fix (Ia a d e) j
theorem Ayd a d e:A4 E23 0 10 (cd f79 244) 202 (Av8 a d e) (Ia a d e) (At3 a d e):=by
 intro _;simp only[Ia,Ll,AOi];kernel_rfl
def Av7 a d e:=sT 56 [(0,Au a),(3,dI d),(4,dI e)] []
def At2 a d e:=λ(k:Bool)=>xN 56 [(0,Au a),(3,dI d),(4,dI e),(30,dB k)] []
def Ow(a:AOE)(d e:Int):APJ Bool:=
 if 0<=e/\e<a.length then
 (Pp (a.getD e.toNat Ad.zero).1).bind λl=>bif !l then
 some true
 else
 if 0<=e/\e<a.length then
 some (!(BF (a.getD e.toNat Ad.zero).2.1 1 4096))
 else none
 else none
theorem Ayc a d e:AY E23 0 8 (cd f79 244) 48 (Av7 a d e) (Ow a d e) (At2 a d e):=by
 unfold AY;simp only[Ow,AOi];kernel_rfl
def Lm(a:AOE)(d e:Int):APJ (AOY⊕(Int⊕Int)):=
 bif decide (e<(a.length:Int))then
 (Ow a d e).bind λk=>bif k then
 some (.inr (.inl d))
 else
 (Xd a d e 0).bind (Sum.elim (λg=>some (.inr (.inl d))) (λi=>if 0<=e/\e<a.length then
 some (.inl (wI (d+(a.getD e.toNat Ad.zero).2.1),wI (e+1)))
 else none))
 else
 some (.inr (.inr d))
def Ib a (z_:Int×Int):=Lm a z_.1 z_.2
def Xe a d e:=fix (Ib a) (d,e)
theorem Aye a:A4 E23 0 5 (code f79) 122 (Av9 a) (Ib a) (At4 a):=by
 intro _;simp(disch:=refine id ?_;kernel_rfl) only[Ib,Lm,AOi,Bc (Ayc ..) (K:=KJ E23 0 5),Xd,AH (Ayd _ _ _) (K:=KJ E23 0 5)];kernel_rfl
def J5(a:AOE):APJ Bool:=
 bif decide ((a.length:Int)>60)then
 some false
 else
 (Xe a 0 0).bind (Sum.elim (λb=>some false) (λc=>some (decide (c<=20000))))
def c79:=Cx [.d APx] [⟨[.AB [] APx],[],Bool,λp=>J5 p.1.1,λr=>(dB r,[])⟩]
theorem oo:Aq prog 79 c79:=Av (fn:=f79) ⟨⟨E23,pk ⟨UO,AdH,trivial⟩,λ_ R K=>by
 simp(disch:=refine id ?_;kernel_rfl) only[J5,AOj,Xe,AH (Aye _) (K:=A2 E23 f79 0 R K)];kernel_rfl⟩,trivial⟩
end
end Go.Proofs.X
