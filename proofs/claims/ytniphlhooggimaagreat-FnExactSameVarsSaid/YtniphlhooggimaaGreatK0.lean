import GoSem.Step
import Derived.Calls
import Derived.Orders
import Derived.Below
import Derived.Laws.AppendOwn
import Derived.Laws.MakeOwn
import Derived.Laws.CopyRow
import Derived.Laws.Tables
import Derived.Deep.MidRow
import Derived.Laws.Small
import Derived.Laws.Cells
import Derived.Laws.BytesArg
import Derived.Great.FillDense
import Derived.Great.BuildSlice
import Derived.Deep.AppendSrc
set_option linter.unusedVariables false
set_option linter.unusedSimpArgs false
namespace Go.Va
abbrev ATB:=List
abbrev ATC:=Option
abbrev APW:=@Option.bind_some
abbrev APX:=@Int.toNat_natCast
abbrev APY:=@Option.some.injEq
abbrev APZ:=@decide_eq_false
abbrev AP0:=@List.length_append
abbrev AP1:=@decide_eq_true
abbrev AP2:=@Nat.le_refl
abbrev AP3:=@Bool.and_eq_true
abbrev AP4:=@List.append_assoc
abbrev AP5:=@List.length_set
abbrev AP6:=@List.take_of_length_le
abbrev AP7:=@Nat.lt_or_ge
abbrev AP8:=@List.length_map
abbrev AP9:=@Prod.mk.injEq
abbrev AQa:=@Array.getElem?_toList
abbrev AQb:=@cond_false
abbrev AQc:=@cond_true
abbrev AQd:=@Option.bind_assoc
abbrev AQe:=@if_pos
abbrev AQf:=@if_neg
abbrev AQg:=@List.length_singleton
abbrev AQh:=@List.length_take
abbrev AQi:=@List.getElem?_append_right
abbrev AQj:=@List.getElem?_append_left
abbrev AQk:=@Nat.eq_zero_or_pos
abbrev AQl:=@List.getElem?_set
abbrev AQm:=@List.getElem?_append
abbrev AQn:=@List.mem_singleton
abbrev AQo:=@List.mem_cons_of_mem
abbrev AQp:=@List.getElem?_map
abbrev AQq:=@Nat.le_trans
abbrev AQr:=@List.mem_cons_self
abbrev AQs:=@Nat.zero_add
abbrev AQt:=@List.length_replicate
abbrev AQu:=@List.mem_append_left
abbrev AQv:=@List.mem_append_right
abbrev AQw:=@List.length_drop
abbrev AQx:=@Nat.le_succ
abbrev AQy:=@Nat.lt_of_lt_of_le
abbrev AQz:=@Nat.add_sub_cancel
abbrev AQA:=@List.getElem?_eq_none
abbrev AQB:=@List.append_nil
abbrev AQC:=@Nat.lt_succ_self
abbrev AQD:=@List.length_range
abbrev AQE:=@List.getElem_mem
abbrev AQF:=@Bool.not_true
abbrev AQG:=@List.map_append
abbrev AQH:=@Nat.zero_le
abbrev AQI:=@List.map_cons
abbrev AQJ:=@if_true
abbrev AQK:=@List.map_congr_left
abbrev AQL:=@List.length_cons
abbrev AQM:=@Bool.false_eq_true
abbrev AQN:=@decide_eq_false_iff_not
abbrev AQO:=@List.take_succ_eq_append_getElem
abbrev AQP:=@Option.bind_eq_some_iff
abbrev AQQ:=@Array.getElem?_eq_getElem
abbrev AQR:=@List.eq_nil_of_length_eq_zero
abbrev AQS:=@Nat.mul_le_mul_right
abbrev AQT:=@List.getElem?_take
abbrev AQU:=@Array.getD_eq_getD_getElem?
abbrev AQV:=@List.ext_getElem
abbrev AQW:=@Sum.elim_inr
abbrev AQX:=@Bool.decide_and
abbrev AQY:=@Array.length_toList
abbrev AQZ:=@List.getElem_of_mem
abbrev AQ0:=@Bool.or_eq_false_iff
abbrev AQ1:=@Nat.add_assoc
abbrev AQ2:=@List.ext_getElem?
abbrev AQ3:=@decide_eq_true_eq
abbrev AQ4:=@List.take_append_of_le_length
abbrev AQ5:=@List.nil_append
abbrev AQ6:=@List.range_succ
abbrev AQ7:=@List.getElem?_eq_getElem
abbrev AQ8:=@beq_iff_eq
abbrev AQ9:=@List.getD_cons_zero
abbrev ARa:=@List.take_append_drop
abbrev ARb:=@List.eq_nil_or_concat
abbrev ARc:=@List.concat_eq_append
abbrev ARd:=@Sum.elim_inl
abbrev ARe:=@bne_self_eq_false
abbrev ARf:=@Array.getElem?_modify
abbrev ARg:=@Bool.not_false
abbrev ARh:=@Bool.or_eq_true
abbrev ARi:=@List.mem_of_mem_take
abbrev ARj:=@Int.le_refl
abbrev ARk:=@Bool.not_eq_true'
abbrev ARl:=@List.mem_append
abbrev ARm:=@List.set_append_right
abbrev ARn:=@List.length_filter_le
abbrev ARo:=@if_false
abbrev ARp:=@List.mem_of_getElem?
abbrev ARq:=@List.sum_append
abbrev ARr:=@bne_eq_false_iff_eq
abbrev ARs:=@List.length_flatten
abbrev ARt:=@bne_iff_ne
abbrev ARu:=@List.sum_cons
abbrev ARv:=@Bool.and_eq_false_iff
abbrev ARw:=@decide_eq_true_iff
abbrev ARx:=@List.drop_eq_getElem_cons
abbrev ARy:=@Array.getElem?_setIfInBounds_ne
abbrev ARz:=@Nat.add_mul
abbrev ARA:=@Bool.eq_iff_iff
abbrev ARB:=@List.size_toArray
abbrev ARC:=@List.mem_cons
abbrev ARD:=@List.flatMap_append
abbrev ARF:=@beq_eq_false_iff_ne
abbrev ARG:=@List.filter_cons
abbrev ARH:=@decide_eq_decide
abbrev ARI:=@List.take_length
abbrev ARJ:=@List.sum_replicate_nat
abbrev ARK:=@List.map_nil
abbrev ARL:=@Nat.pos_of_ne_zero
abbrev ARM:=@List.filter_append
abbrev ARN:=@List.map_replicate
abbrev ARO:=@List.cons.injEq
abbrev ARP:=@List.length_nil
abbrev ARQ:=@List.countP_mono_left
abbrev ARR:=@List.foldl_append
abbrev ARS:=@List.take_left
abbrev ART:=@List.cons_append
abbrev ARU:=@beq_self_eq_true
abbrev ARV:=@List.map_map
abbrev ARW:=@List.getElem?_range
abbrev ARX:=@Nat.le_mul_of_pos_right
abbrev ARY:=@Bool.true_and
abbrev ARZ:=@List.getElem?_drop
abbrev AR0:=@List.nodup_append
abbrev AR1:=@of_decide_eq_true
abbrev AR2:=@Nat.add_zero
abbrev AR3:=@List.set_set
abbrev AR4:=@List.drop_zero
abbrev AR5:=@List.take_zero
abbrev AR6:=@List.getElem?_set_ne
abbrev AR7:=@List.not_mem_nil
abbrev AR8:=@List.mem_of_mem_drop
abbrev AR9:=@List.replicate_succ'
abbrev ASa:=@Bool.false_or
inductive Ty where
 |int (k:IntKind)|bool |str |unit |AE (a b:Ty)|sl (t:Ty)|R4 (z:Nat)
 deriving DecidableEq
@[reducible] def Ty.V:Ty->Type
 |.int _=>Int
 |.bool=>Bool
 |.str=>ByteArray
 |.unit=>Unit
 |.AE a b=>a.V×b.V
 |.sl t=>List t.V
 |.R4 _=>Unit
def Ty.zero:(t:Ty)->t.V
 |.int _=>0
 |.bool=>false
 |.str=>⟨#[]⟩
 |.unit=>()
 |.AE a b=>(a.zero,b.zero)
 |.sl _=>[]
 |.R4 _=>()
def Ty.size:Ty->Nat
 |.unit=>0
 |.AE a b=>a.size+b.size
 |_=>1
def Ty.BS:Ty->Bool
 |.sl _=>false
 |.R4 _=>false
 |.AE a b=>a.BS&&b.BS
 |_=>true
def Ty.data:Ty->Bool
 |.R4 _=>false
 |.AE a b=>a.data&&b.data
 |.sl t=>t.data
 |_=>true
def Ty.isAgg:Ty->Bool
 |.unit=>true
 |.AE _ _=>true
 |_=>false
def I9(t u:Ty)(x:t.V):ATC u.V:=if h:t=u then some (h▸x)else none
inductive AV where
 |AA (ks:List Nat) (t:Ty) (x:t.V)
 |zs
 |AH (k:Nat)
 |ptr (k:Nat) (i:Int) (p:List Nat) (o:Nat)
 |Fw (ks:List Nat) (t:Ty) (x:t.V)
 |M8
 |pr (a b:AV)
 |fn (f:Nat) (bf:AV)
 |cons (a b:AV)
 |nil
 |UI (k:Nat) (i:Int) (p:List Nat) (o e:Nat)
 |WE (k:Nat) (i:Int) (p:List Nat) (o:Nat) (j:Int) (u:Ty)
 |mp (k:Nat)
 |un (n:Nat)
inductive RM where
 |Av |sh (ks:List Nat)
inductive Blk where
 |box (a:AV)
 |row (e:Nat) (m:RM) (t:Ty) (xs:List t.V)
 |map (m:RM) (kt vt:Ty) (es:List (kt.V×vt.V)) (st:Option kt.V)
 |R1 (e:Nat) (t:Ty) (xs:List t.V) (i:Int) (p:List Nat)
 |tail (e:Nat) (t:Ty) (xs:List t.V)
 |Ba
def AV.size:AV->Nat
 |.AA _ t _=>t.size
 |.pr a b=>a.size+b.size
 |.un n=>n
 |_=>1
def AV.isAgg:AV->Bool
 |.AA _ t _=>t.isAgg
 |.pr _ _=>true
 |_=>false
@[reducible] def AV.int (k:IntKind) (n:Int):AV:=.AA [] (.int k) n
@[reducible] def AV.bool (b:Bool):AV:=.AA [] .bool b
@[reducible] def AV.str (s:ByteArray):AV:=.AA [] .str s
@[reducible] def AV.u:AV:=.AA [] .unit ()
def Ty.aQ:Ty->AV
 |.AE a b=>.pr a.aQ b.aQ
 |.sl _=>.zs
 |.R4 0=>.M8
 |.R4 _=>.un 1
 |.int k=>.AA [] (.int k) (0:Int)
 |.bool=>.AA [] .bool false
 |.str=>.AA [] .str ⟨#[]⟩
 |.unit=>.AA [] .unit ()
def bH(ks:ATB Nat)(t:Ty):ATB Nat:=if t.BS then[]else ks
def Yx(ks:ATB Nat):(t:Ty)->t.V->Nat->ATC AV
 |.AE a _,x,0=>some (.AA (bH ks a) a x.1)
 |.AE _ b,x,n+1=>Yx ks b x.2 n
 |_,_,_=>none
def AV.cf:AV->Nat->ATC AV
 |.AA ks t x,n=>Yx ks t x n
 |.pr a _,0=>some a
 |.pr _ b,n+1=>b.cf n
 |_,_=>none
def Vt:Ty->Nat->ATC Nat
 |.AE _ _,0=>some 0
 |.AE a b,n+1=>match Vt b n with |some o=>some (a.size+o)|none=>none
 |_,_=>none
def AV.off:AV->Nat->ATC Nat
 |.AA _ t _,n=>Vt t n
 |.pr _ _,0=>some 0
 |.pr a b,n+1=>match b.off n with |some o=>some (a.size+o)|none=>none
 |_,_=>none
def nL:Ty->Nat->ATC Ty
 |.AE a _,0=>some a
 |.AE _ b,n+1=>nL b n
 |_,_=>none
def tyP:Ty->ATB Nat->ATC Ty
 |t,[]=>some t
 |t,f::p=>match nL t f with |some u=>tyP u p |none=>none
def Ma:Ty->ATB Nat->ATC Nat
 |_,[]=>some 0
 |t,f::p=>match nL t f,Vt t f with
  |some u,some o=>match Ma u p with |some o'=>some (o+o')|none=>none
  |_,_=>none
def wA(ks:ATB Nat):(t:Ty)->t.V->Nat->AV->ATC AV
 |.AE _ b,x,0,v=>some (.pr v (.AA (bH ks b) b x.2))
 |.AE a b,x,n+1,v=>match wA ks b x.2 n v with |some r=>some (.pr (.AA (bH ks a) a x.1) r)|none=>none
 |_,_,_,_=>none
def AV.Uh:AV->Nat->AV->ATC AV
 |.AA ks t x,n,v=>wA ks t x n v
 |.pr _ b,0,v=>some (.pr v b)
 |.pr a b,n+1,v=>match b.Uh n v with |some r=>some (.pr a r)|none=>none
 |_,_,_=>none
def AV.Wu:AV->ATB Nat->ATC AV
 |a,[]=>some a
 |a,f::p=>match a.cf f with |some b=>b.Wu p |none=>none
def AV.Ads:AV->ATB Nat->ATC Nat
 |_,[]=>some 0
 |a,f::p=>match a.cf f,a.off f with
  |some b,some o=>match b.Ads p with |some o'=>some (o+o')|none=>none
  |_,_=>none
def AV.bW:AV->ATB Nat->AV->ATC AV
 |_,[],v=>some v
 |a,f::p,v=>match a.cf f with
  |some b=>match b.bW p v with |some r=>a.Uh f r |none=>none
  |none=>none
def SF:(t:Ty)->t.V->Nat->(∀u:Ty,u.V->ATC u.V)->ATC t.V
 |.AE a _,x,0,f=>match f a x.1 with |some y=>some (y,x.2)|none=>none
 |.AE _ b,x,n+1,f=>match SF b x.2 n f with |some y=>some (x.1,y)|none=>none
 |_,_,_,_=>none
def TQ(u:Ty)(y:u.V):(p:ATB Nat)->(t:Ty)->t.V->ATC t.V
 |[],t,_=>I9 u t y
 |f::p,t,x=>SF t x f (λt' x'=>TQ u y p t' x')
def AV.Cs:AV->ATB Nat
 |.AA ks _ _=>ks
 |.Fw ks _ _=>ks
 |.AH k=>[k]
 |.ptr k _ _ _=>[k]
 |.UI k _ _ _ _=>[k]
 |.WE k _ _ _ _ _=>[k]
 |.mp k=>[k]
 |.pr a b=>a.Cs++b.Cs
 |.fn _ c=>c.Cs
 |.cons a b=>a.Cs++b.Cs
 |_=>[]
def AV.Tv:AV->ATB Nat
 |.AA ks _ _=>ks
 |.Fw ks _ _=>ks
 |.UI k _ _ _ _=>[k]
 |.WE k _ _ _ _ _=>[k]
 |.pr a b=>a.Tv++b.Tv
 |.fn _ c=>c.Tv
 |.cons a b=>a.Tv++b.Tv
 |_=>[]
def RM.Cs:RM->ATB Nat
 |.Av=>[]
 |.sh ks=>ks
def Blk.Cs:Blk->ATB Nat
 |.box a=>a.Cs
 |.row _ m _ _=>m.Cs
 |.map m _ _ _ _=>m.Cs
 |.R1 _ _ _ _ _=>[]
 |.tail _ _ _=>[]
 |.Ba=>[]
def Blk.Tv:Blk->ATB Nat
 |.box a=>a.Tv
 |.row _ m _ _=>m.Cs
 |.map m _ _ _ _=>m.Cs
 |.R1 _ _ _ _ _=>[]
 |.tail _ _ _=>[]
 |.Ba=>[]
def AV.OU(f:Nat->Nat):AV->AV
 |.AA ks t x=>.AA (ks.map f) t x
 |.Fw ks t x=>.Fw (ks.map f) t x
 |.AH k=>.AH (f k)
 |.ptr k i p o=>.ptr (f k) i p o
 |.UI k i p o e=>.UI (f k) i p o e
 |.WE k i p o j u=>.WE (f k) i p o j u
 |.mp k=>.mp (f k)
 |.pr a b=>.pr (a.OU f) (b.OU f)
 |.fn g c=>.fn g (c.OU f)
 |.cons a b=>.cons (a.OU f) (b.OU f)
 |.zs=>.zs
 |.M8=>.M8
 |.nil=>.nil
 |.un n=>.un n
def RM.OU(f:Nat->Nat):RM->RM
 |.Av=>.Av
 |.sh ks=>.sh (ks.map f)
def Blk.OU(f:Nat->Nat):Blk->Blk
 |.box a=>.box (a.OU f)
 |.row e m t xs=>.row e (m.OU f) t xs
 |.map m kt vt es st=>.map (m.OU f) kt vt es st
 |.R1 e t xs i p=>.R1 e t xs i p
 |.tail e t xs=>.tail e t xs
 |.Ba=>.Ba
def aZ(n:Nat)(ks:ATB Nat):ATB Nat:=(List.range n).filter λk=>ks.contains k
def AV.Eo(n:Nat):AV->AV
 |.AA ks t x=>.AA (aZ n ks) t x
 |.Fw ks t x=>.Fw (aZ n ks) t x
 |.pr a b=>.pr (a.Eo n) (b.Eo n)
 |.fn f c=>.fn f (c.Eo n)
 |.cons a b=>.cons (a.Eo n) (b.Eo n)
 |a=>a
def Blk.Eo(n:Nat):Blk->Blk
 |.box a=>.box (a.Eo n)
 |.row e (.sh ks) t xs=>.row e (.sh (aZ n ks)) t xs
 |.map (.sh ks) kt vt es st=>.map (.sh (aZ n ks)) kt vt es st
 |b=>b
def AV.drop(Yc:Nat->Bool):AV->AV
 |.AA ks t x=>if ks.any Yc then .un t.size else .AA ks t x
 |.Fw ks t x=>if ks.any Yc then .un 1 else .Fw ks t x
 |.UI k i p o e=>if Yc k then .un 1 else .UI k i p o e
 |.WE k i p o j u=>if Yc k then .un 1 else .WE k i p o j u
 |.pr a b=>.pr (a.drop Yc) (b.drop Yc)
 |.fn g c=>.fn g (c.drop Yc)
 |.cons a b=>.cons (a.drop Yc) (b.drop Yc)
 |a=>a
def Blk.drop(Yc:Nat->Bool):Blk->Blk
 |.box a=>.box (a.drop Yc)
 |.row e m t xs=>if m.Cs.any Yc then .Ba else .row e m t xs
 |.map m kt vt es st=>if m.Cs.any Yc then .Ba else .map m kt vt es st
 |.R1 e t xs i p=>.R1 e t xs i p
 |.tail e t xs=>.tail e t xs
 |.Ba=>.Ba
structure St where
 AO:List AV
 Aj:List Blk
structure Ij where
 val:AV
 Aj:List Blk
 BJ:List Nat
structure TI where
 ty:Ty
 Xk:List Nat
 elem:Nat
 bytes:Nat
 HF:Nat:=0
 Pg:Nat:=0
 eqs:Bool:=false
def TI.Ew(ti:TI):Bool:=match ti.ty with |.sl _=>true |_=>false
abbrev Tab:=List (Nat×TI)
def Tab.get:Tab->Nat->ATC TI
 |[],_=>none
 |(k,i)::r,t=>if k==t then some i else Tab.get r t
inductive PM where
 |d (t:Ty)|p (t:Ty)|UY
structure Callee where
 lf:List PM
 run:(R:Type)->List AV->List Blk->(AV->List Blk->Option R)->Option R
 Ac9:List Nat:=[]
inductive Co where
 |row (p:List Nat) (e:Nat) (t:Ty) (Av:Bool)
 |AA (t:Ty)
 |ic (ks:List Nat)
structure SH where
 Bc:List Nat
 mv:List Nat:=[]
 Sp:List (Nat×Bool×Ty):=[]
 Ce:List (Nat×Bool×Co):=[]
 wid:List (Nat×List Nat):=[]
 post:List (Nat×Bool×Co):=[]
 mvp:List (Nat×List Nat):=[]
 Yp:Bool:=false
inductive Fi where
 |co (k:Nat) (c:Co)|mv (k:Nat) (p:List Nat)|Ba (j:Nat)|mvs (s:Nat) (p:List Nat)
structure FI where
 Av:Bool:=true
 take:List Nat:=[]
 vV:List (Nat×Nat):=[]
 A4:List (Nat×SH):=[]
 BD:List (Nat×SH):=[]
 BR:List (Nat×SH):=[]
 ao:List (Nat×SH):=[]
 DR:List (Nat×List Nat):=[]
 AIC:List (Nat×List (Nat×List (List Nat)×Co)):=[]
 WO:List Fi:=[]
 cO:List (Nat×List Nat):=[]
 ig:List (Nat×Ty):=[]
 AGE:List Nat:=[]
 Sp:List (Nat×Ty):=[]
 jc:List (Nat×Co):=[]
 stl:List Nat:=[]
structure GV where
 D7:Tab
 fns:Nat->Option Callee
 fi:FI
def qN:Value->AV
 |.int k n=>.int k n
 |.bool b=>.bool b
 |.string s=>.str s
 |.slice none 0 0=>.zs
 |.pointer none=>.M8
 |_=>.un 0
def St.Cg(σ:St):Operand->AV
 |.tmp t=>(σ.AO[t]?).getD (.un 0)
 |.const v=>qN v
 |.func f=>.fn f .nil
 |_=>.un 0
def AV.ck:AV->AV
 |.UI _ _ _ _ _=>.un 1
 |.WE _ _ _ _ _ _=>.un 1
 |.pr a b=>.pr a.ck b.ck
 |.fn f c=>.fn f c.ck
 |.cons a b=>.cons a.ck b.ck
 |a=>a
def Blk.ck:Blk->Blk
 |.box a=>.box a.ck
 |b=>b
def AV.fh:AV->Bool
 |.UI _ _ _ _ _=>true
 |.WE _ _ _ _ _ _=>true
 |.pr a b=>a.fh||b.fh
 |.fn _ c=>c.fh
 |.cons a b=>a.fh||b.fh
 |_=>false
def Blk.fh:Blk->Bool
 |.box a=>a.fh
 |_=>false
def Blk.G3(bs:ATB Blk):ATB Nat->ATB Blk
 |[]=>bs
 |k::r=>Blk.G3 (bs.set k .Ba) r
def U7(BJ:ATB Nat)(sl:ATB AV):ATB AV:=match BJ with |[]=>sl |m::ms=>sl.map (·.drop λk=>(m::ms).contains k)
def Bd(BJ:ATB Nat)(bs:ATB Blk):ATB Blk:=match BJ with |[]=>bs |m::ms=>bs.map (·.drop λk=>(m::ms).contains k)
def nj(BJ:ATB Nat)(m:RM):Bool:=m.Cs.all λk=>!BJ.contains k
def ah(d:ATC Nat)(v:AV)(sl:ATB AV):ATB AV:=match d with |some d=>sl.set d v |none=>sl
def St.after(σ:St)(d:ATC Nat)(e:Ij):St:={AO:=ah d e.val (U7 e.BJ σ.AO),Aj:=e.Aj}
def AV.Dq:AV->Bool
 |.cons _ _=>true
 |.nil=>true
 |_=>false
def AV.Yt:AV->Bool
 |.un _=>false
 |.cons _ _=>false
 |.nil=>false
 |_=>true
def rd(bs:ATB Blk):(t:Ty)->AV->ATC t.V
 |.AE a b,av=>match av with
  |.AA _ t x=>I9 t (.AE a b) x
  |.pr u v=>match rd bs a u,rd bs b v with |some x,some y=>some (x,y)|_,_=>none
  |_=>none
 |.sl t,av=>match av with
  |.AA _ u x=>I9 u (.sl t) x
  |.zs=>some []
  |.AH k=>match bs[k]? with |some (.row _ _ u xs)=>I9 (.sl u) (.sl t) xs |_=>none
  |_=>none
 |t,av=>match av with |.AA _ u x=>I9 u t x |_=>none
def atB(bs:ATB Blk)(k:Nat)(i:Int):ATC AV:=match bs[k]? with
 |some (.box a)=>some a
 |some (.row _ m t xs)=>some (.AA (bH (match m with |.Av=>[k]|.sh ks=>ks) t) t (xs.getD i.toNat t.zero))
 |_=>none
def atP(bs:ATB Blk)(k:Nat)(i:Int)(p:ATB Nat)(o:Nat):ATC AV:=match atB bs k i with
 |some a=>if a.Ads p=some o then a.Wu p else none
 |none=>none
def AV.R5:AV->ATB Nat
 |.AH k=>[k]
 |.pr a b=>a.R5++b.R5
 |_=>[]
def AV.ic:AV->ATB Nat
 |.AA ks _ _=>ks
 |.pr a b=>a.ic++b.ic
 |_=>[]
def AV.YV:AV->Bool
 |.AA _ t _=>t.BS
 |.zs=>true
 |.AH _=>true
 |.pr a b=>a.YV&&b.YV
 |_=>false
def Ty.row(t:Ty):Bool:=t.data&&t.size !=0
def dM(bs:ATB Blk)(k:Nat):ATC RM:=match bs[k]? with |some (.row _ m _ _)=>some m |_=>none
def AV.Vm(bs:ATB Blk):AV->ATB Nat
 |.AA ks _ _=>ks
 |.AH k=>k::(match dM bs k with |some m=>m.Cs |none=>[])
 |.pr a b=>a.Vm bs++b.Vm bs
 |_=>[]
def nodup:ATB Nat->Bool
 |[]=>true
 |k::r=>!r.contains k&&nodup r
def take(bs:ATB Blk)(m:RM)(t:Ty)(v:AV):ATC (t.V×RM×ATB Nat) :=
 match rd bs t v with
 |none=>none
 |some y =>
  let rs:=v.R5
  match m with
  |.Av=>if v.YV&&nodup rs&&rs.all (λk=>match dM bs k with |some .Av=>true |_=>false)then some (y,.Av,rs)else none
  |.sh ks=>if nodup rs&&rs.all (λk=>(dM bs k).isSome)then
      some (y,.sh (ks++v.ic++rs.flatMap (λk=>match dM bs k with |some (.sh l)=>l |_=>[])),rs)else none
def Avk{A:Type}:(t:Ty)->t.V->Nat->(∀u:Ty,u.V->ATC A)->ATC A
 |.AE a _,x,0,f=>f a x.1
 |.AE _ b,x,n+1,f=>Avk b x.2 n f
 |_,_,_,_=>none
def kA(u:Ty):(p:ATB Nat)->(t:Ty)->t.V->ATC u.V
 |[],t,x=>I9 t u x
 |f::p,t,x=>Avk t x f (λt' x'=>kA u p t' x')
def Ty.EC:Ty->Bool
 |.int _=>true
 |.str=>true
 |.AE (.int _) (.AE (.int _) .unit)=>true
 |_=>false
def Jd(s t:ByteArray):Bool:=s.toList==t.toList
def Bf:(t:Ty)->t.V->t.V->Bool
 |.int _,x,y=>x==y
 |.str,x,y=>Jd x y
 |.AE a b,x,y=>Bf a x.1 y.1&&Bf b x.2 y.2
 |.unit,_,_=>true
 |_,_,_=>false
def OA:(t:Ty)->t.V->t.V->Bool
 |.int _,x,y=>x==y
 |.bool,x,y=>x==y
 |.str,x,y=>Jd x y
 |.AE a b,x,y=>OA a x.1 y.1&&OA b x.2 y.2
 |.unit,_,_=>true
 |_,_,_=>false
def Pf(kt vt:Ty):ATB (kt.V×vt.V)->kt.V->ATC vt.V
 |[],_=>none
 |x::r,k=>bif Bf kt k x.1 then some x.2 else Pf kt vt r k
def Bv(kt vt:Ty)(es:ATB (kt.V×vt.V))(k:kt.V):vt.V:=(Pf kt vt es k).getD vt.zero
def Uf(kt vt:Ty)(es:ATB (kt.V×vt.V))(k:kt.V):Bool:=(Pf kt vt es k).isSome
def Yz(kt vt:Ty):ATB (kt.V×vt.V)->kt.V->Nat
 |[],_=>0
 |x::r,k=>bif Bf kt k x.1 then 0 else Yz kt vt r k+1
def Yo(kt vt:Ty)(es:ATB (kt.V×vt.V))(k:kt.V):Int:=Int.ofNat (Yz kt vt es k)
def W2(kt vt:Ty)(es:ATB (kt.V×vt.V))(k:kt.V)(n:Int):Bool:=n==Yo kt vt es k&&Uf kt vt es k
def Cf(kt vt:Ty):ATB (kt.V×vt.V)->kt.V->vt.V->ATB (kt.V×vt.V)
 |[],k,v=>[(k,v)]
 |x::r,k,v=>bif Bf kt k x.1 then(k,v)::r else x::Cf kt vt r k v
def FI.mode(fi:FI)(t:Ty):RM:=if t.BS||fi.Av then .Av else .sh []
def SG(k:IntKind)(x y:Int):Int:=x.fdiv (2^(min y.toNat k.bits))
def Ph(k:IntKind)(x y:Int):Int:=k.wrap (x*2^(min y.toNat k.bits))
def ib(k:IntKind)(x y:Int):Int:=k.wrap (BitVec.ofInt k.bits x &&& BitVec.ofInt k.bits y).toNat
def iz(k:IntKind)(x y:Int):Int:=k.wrap (BitVec.ofInt k.bits x ||| BitVec.ofInt k.bits y).toNat
def AwA(k:IntKind)(x y:Int):Int:=k.wrap (BitVec.ofInt k.bits x ^^^ BitVec.ofInt k.bits y).toNat
def Aan(k:IntKind)(x y:Int):Int:=k.wrap (BitVec.ofInt k.bits x &&& ~~~ BitVec.ofInt k.bits y).toNat
def strLt(s t:ByteArray):Bool:=Op.bytesLess s.toList t.toList
def C2(s:ByteArray)(i:Int):Int:=((s[i.toNat]?).getD 0).toNat
section
variable {R:Type}
def qx(op:BinOp)(tb:Bool):AV->AV->(AV->ATC R)->ATC R
 |.AA _ (.int k) x,.AA _ (.int k') y,K =>
  match op with
  |.shl=>if y<0 then none else K (.int k (Ph k x y))
  |.shr=>if y<0 then none else K (.int k (SG k x y))
  |op=>if k=k' then match op with
   |.add=>K (.int k (k.wrap (x+y)))
   |.sub=>K (.int k (k.wrap (x-y)))
   |.mul=>K (.int k (k.wrap (x*y)))
   |.quo=>if y=0 then none else K (.int k (k.wrap (x.tdiv y)))
   |.rem=>if y=0 then none else K (.int k (x.tmod y))
   |.and=>K (.int k (ib k x y))
   |.or=>K (.int k (iz k x y))
   |.xor=>K (.int k (AwA k x y))
   |.andNot=>K (.int k (Aan k x y))
   |.eql=>K (.bool (x==y))
   |.neq=>K (.bool (x !=y))
   |.lss=>K (.bool (decide (x<y)))
   |.leq=>K (.bool (decide (x<=y)))
   |.gtr=>K (.bool (decide (x>y)))
   |.geq=>K (.bool (decide (x>=y)))
   |_=>none
   else none
 |.AA _ .str x,.AA _ .str y,K =>
  match op with
  |.add=>if x.size+y.size<=9223372036854775807 then K (.str (x++y))else none
  |.eql=>K (.bool (Jd x y))
  |.neq=>K (.bool (!Jd x y))
  |.lss=>K (.bool (strLt x y))
  |.leq=>K (.bool (strLt x y||Jd x y))
  |.gtr=>K (.bool (!(strLt x y||Jd x y)))
  |.geq=>K (.bool (!strLt x y))
  |_=>none
 |.AA _ .bool x,.AA _ .bool y,K=>if tb then
  match op with
  |.eql=>K (.bool (x==y))
  |.neq=>K (.bool (!(x==y)))
  |_=>none
  else none
 |_,_,_=>none
def unA(op:UnOp):AV->(AV->ATC R)->ATC R
 |.AA _ .bool b,K=>match op with |.not=>K (.bool (!b))|_=>none
 |.AA _ (.int k) n,K=>match op with
  |.neg=>K (.int k (k.wrap (0-n)))
  |.xor=>K (.int k (AwA k (if k.signed then -1 else k.max) n))
  |_=>none
 |_,_=>none
def rS(bs:ATB Blk)(ti:TI):AV->(AV->ATC R)->ATC R
 |.AA _ (.sl _) xs,K=>if ti.Ew then K (.int .i64 (xs.length:Int))else none
 |.AA _ .str s,K=>if ti.ty=.str then K (.int .i64 (s.size:Int))else none
 |.zs,K=>if ti.Ew then K (.int .i64 0)else none
 |.AH k,K=>match bs[k]? with
  |some (.row _ _ _ xs)=>if ti.Ew then K (.int .i64 (xs.length:Int))else none
  |some (.R1 _ _ xs _ _)=>if ti.Ew then K (.int .i64 (xs.length:Int))else none
  |_=>none
 |_,_=>none
def mmA(mx:Bool):AV->AV->(AV->ATC R)->ATC R
 |.AA _ (.int k) x,.AA _ (.int k') y,K=>if k=k' then K (.int k (if mx then(if y>x then y else x)else(if y<x then y else x)))else none
 |_,_,_=>none
def za(bs:ATB Blk)(te:Ty):AV->AV->(AV->ATC R)->ATC R
 |.AA ks (.sl t) xs,.AA _ (.int _) i,K=>if t=te then if 0<=i/\i<(xs.length:Int)then K (.Fw ks t (xs.getD i.toNat t.zero))else none else none
 |.AH k,.AA _ (.int _) i,K=>match bs[k]? with
  |some (.row _ _ t xs)=>if t=te then if 0<=i/\i<(xs.length:Int)then K (.ptr k i [] 0)else none else none
  |some (.R1 _ t xs _ _)=>if t=te then if 0<=i/\i<(xs.length:Int)then K (.ptr k i [] 0)else none else none
  |_=>none
 |_,_,_=>none
def vD(bs:ATB Blk)(te:Ty):AV->AV->(AV->ATC R)->ATC R
 |.UI k i0 p f _,.AA _ (.int _) j,K=>match bs[k]? with
  |some (.row _ .Av tr xs)=>match kA (.sl te) p tr (xs.getD i0.toNat tr.zero),TQ (.sl te) [] p tr (xs.getD i0.toNat tr.zero)with
   |some ys,some _=>if te.size≠0/\Ma tr p=some f then if 0<=j/\j<(ys.length:Int)then K (.WE k i0 p f j te)else none else none
   |_,_=>none
  |_=>none
 |x,y,K=>za bs te x y K
def qF:AV->AV->(AV->ATC R)->ATC R
 |.AA _ .str s,.AA _ (.int _) i,K=>if 0<=i/\i<(s.size:Int)then K (.int .u8 (C2 s i))else none
 |_,_,_=>none
def mJ(ti:TI)(f:Nat):AV->(AV->ATC R)->ATC R
 |.ptr k i p o,K=>match ti.Xk[f]? with |some fo=>K (.ptr k i (p++[f]) (o+fo))|none=>none
 |.Fw ks t x,K=>if t=ti.ty/\Vt t f=ti.Xk[f]? then match Yx ks t x f with |some (.AA _ u y)=>K (.Fw ks u y)|_=>none else none
 |_,_=>none
def aF(bs:ATB Blk)(ti:TI):AV->(AV->ATC R)->ATC R
 |.Fw ks t x,K=>if t=ti.ty then K (.AA (bH ks t) t x)else none
 |.ptr k i p o,K=>match atP bs k i p o with
  |some v=>if v.size=ti.ty.size/\v.isAgg=ti.ty.isAgg then K v else none
  |none=>none
 |_,_=>none
def fQ(bs:ATB Blk)(ti:TI):AV->AV->(Ij->ATC R)->ATC R
 |.ptr k i p o,v,K=>match bs[k]? with
  |some (.box a)=>match a.Wu p,a.bW p v with
   |some pe,some a'=>if v.Yt/\a.Ads p=some o/\pe.size=v.size/\v.size=ti.ty.size/\v.isAgg=ti.ty.isAgg/\a'.Cs.contains k=false then K ⟨.un 0,(Bd [k] bs).set k (.box a'),[k]⟩else none
   |_,_=>none
  |some (.row e m t xs)=>match take bs m ti.ty v with
   |some (y,m',rs) =>
    if Ma t p=some o/\tyP t p=some ti.ty/\nj (k::rs) m'/\rs.contains k=false then match TQ ti.ty y p t (xs.getD i.toNat t.zero)with
     |some x'=>K ⟨.un 0,(Blk.G3 (Bd (k::rs) bs) rs).set k (.row e m' t (xs.set i.toNat x')),k::rs⟩
     |none=>none
    else none
   |none=>none
  |some (.R1 e t xs i' p')=>match v with
   |.AH j=>match bs[j]? with
    |some (.row _ .Av u ys)=>match TQ (.sl u) [] p t (xs.getD i.toNat t.zero),TQ (.sl u) ys p t (xs.getD i.toNat t.zero)with
     |some x0,some x'=>if ti.ty=.sl u/\Ma t p=some o/\tyP t p=some (.sl u)/\p'=p/\j≠k then
         if i'=i then K ⟨.un 0,(Blk.G3 (Bd [k,j] ((Bd [k] bs).set k (.row e .Av t (xs.set i.toNat x0)))) [j]).set k (.row e .Av t (xs.set i.toNat x')),[k,j]⟩else none
      else none
     |_,_=>none
    |_=>none
   |_=>none
  |_=>none
 |_,_,_=>none
def bZ(bs:ATB Blk)(ti:TI):AV->(Ij->ATC R)->ATC R
 |.ptr k i p o,K=>match bs[k]? with
  |some (.row e .Av t xs)=>match tyP t p with
   |some (.sl u)=>match kA (.sl u) p t (xs.getD i.toNat t.zero),TQ (.sl u) [] p t (xs.getD i.toNat t.zero)with
    |some ys,some _=>if ti.ty=.sl u/\Ma t p=some o/\u.size≠0 then
        K ⟨.AH bs.length,(Bd [k] bs).set k (.R1 e t xs i p)++[.row 0 .Av u ys],[k]⟩else none
    |_,_=>none
   |_=>none
  |_=>none
 |_,_=>none
def YP(ti:TI):AV->ATB (Nat×AV)->ATC AV
 |a,[]=>some a
 |a,(f,v)::r=>match a.cf f with
  |some pe=>if pe.size=v.size/\v.Yt=true/\a.off f=ti.Xk[f]?/\(nL ti.ty f).map Ty.size=some v.size then match a.Uh f v with |some a'=>YP ti a' r |none=>none else none
  |none=>none
def WG(bs:ATB Blk)(t:Ty):RM->ATB t.V->ATB Nat->ATB (Nat×AV)->ATC (RM×ATB t.V×ATB Nat)
 |m,xs,rs,[]=>some (m,xs,rs)
 |m,xs,rs,(i,v)::r=>match take bs m t v with
  |some (y,m',l)=>if i<xs.length then WG bs t m' (xs.set i y) (rs++l) r else none
  |none=>none
def sG(bs:ATB Blk)(t:Ty):AV->ATC (ATB t.V×RM×ATB Nat)
 |.zs=>some ([],.Av,[])
 |.AA ks (.sl u) ys=>match I9 (.sl u) (.sl t) ys with |some l=>some (l,if t.BS then .Av else .sh ks,[])|none=>none
 |.AA _ .str s=>match I9 (.sl (.int .u8)) (.sl t) (s.data.toList.map λb=>(b.toNat:Int))with |some l=>some (l,.Av,[])|none=>none
 |.AH j=>match bs[j]? with
  |some (.row _ m u ys)=>match I9 (.sl u) (.sl t) ys with |some l=>some (l,if t.BS then .Av else m,if t.BS then[]else[j])|none=>none
  |_=>none
 |_=>none
def Abj:RM->RM->ATC RM
 |.Av,.Av=>some .Av
 |.sh a,.sh b=>some (.sh (a++b))
 |.sh a,.Av=>some (.sh a)
 |.Av,.sh _=>none
def Zv(fi:FI)(bs:ATB Blk)(e:Nat)(ti:TI):AV->AV->(Ij->ATC R)->ATC R
 |.zs,y,K=>if(ti.ty.row&&ti.bytes !=0)=false then none else match sG bs ti.ty y with
  |some (ys,m,rs)=>match Abj (match m with |.Av=>fi.mode ti.ty |m=>m) m with
   |some m'=>if nj rs m' then if ys.length*ti.bytes<=140737488355328 then K ⟨.AH bs.length,Blk.G3 (Bd rs bs) rs++[.row e m' ti.ty ys],rs⟩else none else none
   |none=>none
  |none=>none
 |.AH k,y,K=>if(ti.ty.row&&ti.bytes !=0)=false then none else match bs[k]?,sG bs ti.ty y with
  |some (.row e' m t xs),some (ys,m2,rs)=>match I9 (.sl t) (.sl ti.ty) xs,Abj m m2 with
   |some xs,some m'=>if(e=e'/\e≠0\/e'=0)/\rs.contains k=false/\nj (k::rs) m' then
       if(xs.length+ys.length)*ti.bytes<=140737488355328 then K ⟨.AH bs.length,Blk.G3 (Bd (k::rs) bs) (k::rs)++[.row e' m' ti.ty (xs++ys)],k::rs⟩else none
    else none
   |_,_=>none
  |_,_=>none
 |_,_,_=>none
def Ty.isInt:Ty->Bool
 |.int _=>true
 |_=>false
def Zw(fi:FI)(bs:ATB Blk)(e:Nat)(ti:TI):AV->AV->(Ij->ATC R)->ATC R
 |.zs,.AA _ (.int _) l,K=>if ti.ty.row=true/\ti.bytes≠0 then if 0<=l/\l*(ti.bytes:Int)<=140737488355328 then K ⟨.AH bs.length,bs++[.row e (fi.mode ti.ty) ti.ty (List.replicate l.toNat ti.ty.zero)],[]⟩else none else none
 |_,_,_=>none
def oW(fi:FI)(bs:ATB Blk)(e:Nat)(ti:TI):AV->AV->(Ij->ATC R)->ATC R
 |.AA _ (.int _) l,.AA _ (.int _) c,K=>if ti.ty.row/\0<=l/\l<=c/\(ti.bytes:Int)*c<=281474976710656/\c<=9223372036854775807 then
     K ⟨.AH bs.length,bs++[.row e (fi.mode ti.ty) ti.ty (List.replicate l.toNat ti.ty.zero)],[]⟩else none
 |_,_,_=>none
def bnd:ATC AV->Int->ATC Int
 |none,d=>some d
 |some (.AA _ (.int _) i),_=>some i
 |_,_=>none
def XS(bs:ATB Blk)(ti:TI)(te:ATC Ty)(x:AV)(lo hi mx:ATC AV)(K:AV->ATC R):ATC R :=
 match mx with
 |some (.AA _ (.int _) m)=>match lo,hi with
  |none,some (.AA _ (.int _) h)=>if h=0/\m=0/\te.isSome then match x with
   |.AA _ (.sl _) _=>K .zs
   |.zs=>K .zs
   |.AH k=>match bs[k]? with |some (.row _ _ _ _)=>K .zs |_=>none
   |_=>none
   else none
  |_,_=>none
 |some _=>none
 |none=>match x with
  |.AA _ .str s=>match bnd lo 0,bnd hi (s.size:Int)with
   |some l,some h=>if ti.ty=.str/\0<=l/\l<=h/\h<=(s.size:Int)then K (.str (s.extract l.toNat h.toNat))else none
   |_,_=>none
  |.AA ks (.sl t) xs=>match bnd lo 0,bnd hi (xs.length:Int)with
   |some l,some h=>if te=some t then if 0<=l/\l<=h/\h<=(xs.length:Int)then K (.AA ks (.sl t) ((xs.take h.toNat).drop l.toNat))else none else none
   |_,_=>none
  |.AH k=>match bs[k]? with
   |some (.row _ m t xs)=>match bnd lo 0,bnd hi (xs.length:Int)with
    |some l,some h=>if te=some t then if 0<=l/\l<=h/\h<=(xs.length:Int)then K (.AA (k::m.Cs) (.sl t) ((xs.take h.toNat).drop l.toNat))else none else none
    |_,_=>none
   |_=>none
  |.zs=>match bnd lo 0,bnd hi 0 with
   |some l,some h=>if te.isSome/\l=0/\h=0 then K .zs else none
   |_,_=>none
  |_=>none
def AcA(te:Ty)(bs:ATB Blk)(x:AV)(hi:ATC AV)(K:Ij->ATC R):ATC R :=
 match x,hi with
 |.AH k,some (.AA _ (.int _) h)=>match bs[k]? with
  |some (.row e m t xs)=>if nj [k] m/\t=te then if 0<=h/\h<=(xs.length:Int)then K ⟨.AH bs.length,Blk.G3 (Bd [k] bs) [k]++[.row e m t (xs.take h.toNat)],[k]⟩else none else none
  |_=>none
 |_,_=>none
def bytesOf(xs:ATB Int):ByteArray:=⟨(xs.map λn=>UInt8.ofNat n.toNat).toArray⟩
def cH(bs:ATB Blk)(te:ATC Ty)(td:Ty)(a:AV)(K:AV->ATC R):ATC R :=
 match td with
 |.int k=>match a with |.AA _ (.int _) n=>K (.int k (k.wrap n))|_=>none
 |.str=>match a with
  |.AA _ .str s=>K (.str s)
  |a=>if te=some (.int .u8)then match rd bs (.sl (.int .u8)) a with |some xs=>K (.str (bytesOf xs))|none=>none else none
 |_=>none
def RM.own(k:Nat):RM->ATB Nat
 |.Av=>[k]
 |.sh ks=>ks
def gE(bs:ATB Blk)(tk te:TI)(ok:Bool)(m x:AV)(K:AV->ATC R):ATC R :=
 match m with
 |.mp k=>match bs[k]? with
  |some (.map md kt vt es none)=>match rd bs kt x with
   |some key=>if kt=tk.ty/\vt=te.ty/\kt.EC=true then
       (bif ok then K (.cons (.AA (bH (md.own k) vt) vt (Bv kt vt es key)) (.cons (.bool (Uf kt vt es key)) .nil))
        else K (.AA (bH (md.own k) vt) vt (Bv kt vt es key)))else none
   |none=>none
  |_=>none
 |_=>none
def oU(bs:ATB Blk)(tk te:TI)(m x:AV)(K:Ij->ATC R):ATC R :=
 match m with
 |.mp k=>match bs[k]? with
  |some (.map .Av kt (.sl u) es none)=>match rd bs kt x with
   |some key=>if kt=tk.ty/\.sl u=te.ty/\kt.EC=true/\u.size≠0 then
       K ⟨.AH bs.length,(Bd [k] bs).set k (.map .Av kt (.sl u) es (some key))++[.row 0 .Av u (Bv kt (.sl u) es key)],[k]⟩else none
   |none=>none
  |_=>none
 |_=>none
def dV(bs:ATB Blk)(tk te:TI)(m x v:AV)(K:Ij->ATC R):ATC R :=
 match m with
 |.mp k=>match bs[k]? with
  |some (.map md kt vt es st)=>match rd bs kt x,take bs md vt v with
   |some key,some (y,m',rs)=>if kt=tk.ty/\vt=te.ty/\kt.EC=true/\nj (k::rs) m'/\rs.contains k=false then
       match st with
       |none=>K ⟨.un 0,(Blk.G3 (Bd (k::rs) bs) rs).set k (.map m' kt vt (Cf kt vt es key y) none),k::rs⟩
       |some k0=>bif Bf kt k0 key then K ⟨.un 0,(Blk.G3 (Bd (k::rs) bs) rs).set k (.map m' kt vt (Cf kt vt es key y) none),k::rs⟩else none
    else none
   |_,_=>none
  |_=>none
 |_=>none
def AcG(bs:ATB Blk)(tk te:TI)(m x:AV)(K:Ij->ATC R):ATC R :=
 match m with
 |.mp k=>match bs[k]? with
  |some (.map .Av kt (.sl u) es none)=>match rd bs kt x with
   |some key=>if kt=tk.ty/\Ty.sl u=te.ty/\kt.EC=true/\u.size≠0 then
       K ⟨.cons (.AH bs.length) (.cons (.int .i64 (Yo kt (.sl u) es key)) .nil),(Bd [k] bs).set k (.map .Av kt (.sl u) (Cf kt (.sl u) es key (Bv kt (.sl u) es key)) (some key))++[.row 0 .Av u (Bv kt (.sl u) es key)],[k]⟩else none
   |none=>none
  |_=>none
 |_=>none
def AcH(bs:ATB Blk)(tk te:TI)(m j v:AV)(K:Ij->ATC R):ATC R :=
 match m with
 |.mp k=>match bs[k]? with
  |some (.map _ kt vt es (some key))=>match rd bs (.int .i64) j with
   |some n=>if kt=tk.ty/\kt.EC=true then(bif W2 kt vt es key n then dV bs tk te m (.AA [] kt key) v K else none)else none
   |none=>none
  |_=>none
 |_=>none
def Qv:AV->Nat->ATC AV
 |.cons a _,0=>some a
 |.cons _ b,n+1=>Qv b n
 |_,_=>none
end
def iu(l:ATB Nat):ATB Nat->ATB Nat
 |[]=>l
 |k::r=>if l.contains k then iu l r else iu (l++[k]) r
def pC(bs:ATB Blk):Nat->ATB Nat->ATB Nat
 |0,l=>l
 |f+1,l=>pC bs f (iu l (l.flatMap λk=>match bs[k]? with |some b=>b.Cs |none=>[]))
def idxOf(l:ATB Nat)(k:Nat):Nat:=match l with
 |[]=>0
 |x::r=>if x==k then 0 else idxOf r k+1
def AV.Wt(LD:ATB Nat):AV->AV
 |.AA ks t x=>.AA (if t.BS then ks else ks++LD) t x
 |.Fw ks t x=>.Fw (ks++LD) t x
 |.pr a b=>.pr (a.Wt LD) (b.Wt LD)
 |.fn g c=>.fn g (c.Wt LD)
 |.cons a b=>.cons (a.Wt LD) (b.Wt LD)
 |a=>a
def RM.Wt(LD:ATB Nat):RM->RM
 |.Av=>.Av
 |.sh ks=>.sh (ks++LD)
def Blk.Wt(LD:ATB Nat):Blk->Blk
 |.box a=>.box (a.Wt LD)
 |.row e m t xs=>.row e (m.Wt LD) t xs
 |.map m kt vt es st=>.map (m.Wt LD) kt vt es st
 |.R1 e t xs i p=>.R1 e t xs i p
 |.tail e t xs=>.tail e t xs
 |.Ba=>.Ba
def Aci(bs:ATB Blk):PM->AV->ATC (AV×ATB Nat)
 |.d t,v=>match rd bs t v with |some x=>some (.AA [] t x,v.Vm bs)|none=>none
 |.p t,.Fw ks u x=>match I9 u t x with |some y=>some (.Fw [] t y,ks)|none=>none
 |.p t,.ptr k i p o=>match atP bs k i p o with
  |some a=>match rd bs t a with |some x=>some (.Fw [] t x,k::a.Vm bs)|none=>none
  |none=>none
 |.p _,_=>none
 |.UY,v=>some (v,[])
def Afc:PM->AV->ATB Nat
 |.UY,v=>v.Cs
 |_,_=>[]
def nS(bs:ATB Blk):ATB PM->ATB AV->ATC (ATB AV×ATB Nat×ATB Nat)
 |[],[]=>some ([],[],[])
 |m::ms,v::vs=>match Aci bs m v,nS bs ms vs with
  |some (a,l),some (mz,ls,rs)=>some (a::mz,l++ls,Afc m v++rs)
  |_,_=>none
 |_,_=>none
def YN(n:Nat)(π:ATB Nat)(j:Nat):Nat:=match π[j]? with |some k=>k |none=>n+(j-π.length)
def Rj(bs:ATB Blk):ATB Nat->ATB Blk->ATB Blk
 |k::ks,b::r=>Rj (bs.set k b) ks r
 |_,_=>bs
section
variable {R:Type}
def YQ(c:Callee)(bs:ATB Blk)(args:ATB AV)(K:Ij->ATC R):ATC R :=
 match nS bs c.lf args with
 |none=>none
 |some (mz,LD,aL) =>
  let π:=pC bs bs.length (iu [] aL)
  let n:=bs.length
  let YA:=π.filter λk=>c.Ac9.contains (idxOf π k)
  let π1:=π.filter λk=>!YA.contains k
  if LD.all (λk=>!π.contains k&&decide (k<n))&&nodup π&&aL.all (λk=>π.contains k)&&π.all (λk=>match bs[k]? with |some b=>b.Cs.all (λj=>π.contains j)&&(YA.contains k||b.Tv.all (λj=>!YA.contains j))|none=>false)&&(mz.all λa=>a.Tv.all λj=>!YA.contains j)&&(π.isEmpty||!π1.isEmpty)then
   c.run R (mz.map (·.OU (idxOf π))) (π.map λk=>bif YA.contains k then .Ba else((bs[k]?).getD .Ba).OU (idxOf π)) λav E =>
    let f:=YN n π
    if π.length<=E.length then
     K ⟨(av.OU f).Wt LD,Rj (Bd π1 bs) π (List.zipWith (λk b=>bif YA.contains k then((Bd π1 bs)[k]?).getD .Ba else(b.OU f).Wt LD) π E)++(E.drop π.length).map (λb=>(b.OU f).Wt LD),π1⟩
    else none
  else none
def AV.Rf:AV->ATC (Nat×Int×ATB Nat×Nat)
 |.UI k i p o _=>some (k,i,p,o)
 |.pr a b=>match a.Rf with |some z=>some z |none=>b.Rf
 |_=>none
def AV.bK(n:Nat):AV->AV
 |.UI _ _ _ _ _=>.AH n
 |.pr a b=>match a.Rf with |some _=>.pr (a.bK n) b |none=>.pr a (b.bK n)
 |a=>a
def wh:Nat->ATB AV->ATC (Nat×AV×Nat×Int×ATB Nat×Nat)
 |_,[]=>none
 |j,a::r=>match a.Rf with |some (k,i,p,o)=>some (j,a,k,i,p,o)|none=>wh (j+1) r
def Ty.AGo:Ty->Bool
 |.sl _=>true
 |_=>false
def lp(k:Nat)(i:Int)(p:ATB Nat)(e:Nat):(t:Ty)->t.V->Nat->Nat->ATC AV
 |.unit,_,_,_=>some .u
 |.AE a b,x,f,o=>match lp k i p e b x.2 (f+1) (o+a.size)with
  |some r=>if a.AGo then some (.pr (.UI k i (p++[f]) o e) r)else if a.BS then some (.pr (.AA [] a x.1) r)else none
  |none=>none
 |_,_,_,_=>none
def jP(c:Callee)(bs:ATB Blk)(args:ATB AV)(K:Ij->ATC R):ATC R :=
 match wh 0 args with
 |none=>YQ c bs args K
 |some (j,a0,k,i,p,o)=>match bs[k]? with
  |some (.row ek .Av t xs)=>match tyP t p with
   |some (.sl u)=>match kA (.sl u) p t (xs.getD i.toNat t.zero)with
    |some ys =>
     if Ma t p=some o/\u.size≠0/\((args.set j (a0.bK bs.length)).all λa=>!a.Cs.contains k)=true then
      YQ c ((Bd [k] bs).set k .Ba++[.row 0 .Av u ys]) (args.set j (a0.bK bs.length)) λe =>
       if e.BJ.contains k then none else
       match e.Aj[bs.length]? with
       |some (.row _ .Av u' zs)=>match I9 (.sl u') (.sl u) zs with
        |some zs=>match TQ (.sl u) zs p t (xs.getD i.toNat t.zero)with
         |some x'=>K ⟨e.val.drop (λq=>[k,bs.length].contains q),((Bd [k,bs.length] e.Aj).set bs.length .Ba).set k (.row ek .Av t (xs.set i.toNat x')),e.BJ++[k]⟩
         |none=>none
        |none=>none
       |_=>none
     else none
    |none=>none
   |_=>none
  |_=>none
def AaJ:AV->ATB AV
 |.cons a b=>a::AaJ b
 |_=>[]
def Qk(σ:St)(xs:Array Operand):ATB AV:=xs.toList.map σ.Cg
def ZB:ATB AV->AV
 |[]=>.nil
 |a::r=>.cons (if a.Dq then .un 0 else a) (ZB r)
def W5(en:GV)(σ:St)(c:Call)(K:Ij->ATC R):ATC R :=
 match c.callee with
 |.builtin .len=>match Qk σ c.args,c.argTypes.toList with
  |[x],t::_=>match en.D7.get t with |some ti=>rS σ.Aj ti x λv=>K ⟨v,σ.Aj,[]⟩|none=>none
  |_,_=>none
 |.builtin .min=>match Qk σ c.args with |[x,y]=>mmA false x y λv=>K ⟨v,σ.Aj,[]⟩|_=>none
 |.builtin .max=>match Qk σ c.args with |[x,y]=>mmA true x y λv=>K ⟨v,σ.Aj,[]⟩|_=>none
 |.builtin .append=>match Qk σ c.args,c.argTypes.toList with
  |[x,y],[t,tx]=>match en.D7.get t,en.D7.get tx with
   |some ti,some fT=>match en.D7.get ti.elem with
    |some te=>if ti.Ew&&(fT.Ew||fT.ty==.str)then Zv en.fi σ.Aj ti.elem te x y K else if ti.Ew&&fT.ty.isInt then Zw en.fi σ.Aj ti.elem te x y K else none
    |none=>none
   |_,_=>none
  |_,_=>none
 |.builtin _=>none
 |.value f=>match σ.Cg f with
  |.fn g bf=>match en.fns g with
   |some ca=>jP ca σ.Aj (Qk σ c.args++AaJ bf) K
   |none=>none
  |_=>none
 |.invoke _ _=>none
def eqS(bs:ATB Blk)(D7:Tab)(op:BinOp)(t:Nat)(x y:AV):ATC AV:=match D7.get t with
 |some ti=>if ti.eqs=true then(match op with
  |.eql=>match rd bs ti.ty x,rd bs ti.ty y with |some u,some v=>some (.bool (OA ti.ty u v))|_,_=>none
  |.neq=>match rd bs ti.ty x,rd bs ti.ty y with |some u,some v=>some (.bool (!OA ti.ty u v))|_,_=>none
  |_=>none)else none
 |none=>none
def AgD(en:GV)(o:Oper):Bool:=match o.dst with |some d=>en.fi.stl.contains d |none=>false
def bF(D7:Tab)(tk:TI):Bool:=match tk.ty with
 |.AE (.int q) _=>tk.HF==2&&(match D7.get tk.elem with |some te=>te.ty==.int q&&tk.ty==.AE (.int q) (.AE (.int q) .unit)|none=>false)
 |_=>true
def R7(en:GV)(σ:St)(o:Oper)(K:Ij->ATC R):ATC R :=
 let ρ:=σ.Cg
 let bs:=σ.Aj
 let pure:=λv=>K ⟨v,bs,[]⟩
 match o.op with
 |.move x=>pure (ρ x)
 |.assign x=>pure (ρ x)
 |.pick c a b=>match ρ c with |.AA _ .bool t=>bif t then pure (ρ a)else pure (ρ b)|_=>none
 |.alloc e=>match en.D7.get e with
  |some ti=>K ⟨.ptr bs.length 0 [] 0,bs++[.box ti.ty.aQ],[]⟩
  |none=>none
 |.box _ x=>if(ρ x).Yt then K ⟨.ptr bs.length 0 [] 0,bs++[.box (ρ x)],[]⟩else none
 |.build t Ht=>match en.D7.get t with
  |some ti=>if ti.Xk.isEmpty then none else match YP ti ti.ty.aQ (Ht.toList.map λp=>(p.1,ρ p.2))with |some v=>pure v |none=>none
  |none=>none
 |.buildSlice t len Ht=>match en.D7.get t with
  |some ti=>match en.D7.get ti.elem with
   |some te=>match WG bs te.ty (en.fi.mode te.ty) (List.replicate len te.ty.zero) [] (Ht.toList.map λp=>(p.1,ρ p.2))with
    |some (m,xs,rs)=>if ti.Ew&&te.ty.row&&nj rs m&&nodup rs&&len*te.ty.size<=16777216 then(if len=0 then K ⟨.zs,bs,[]⟩else K ⟨.AH bs.length,Blk.G3 (Bd rs bs) rs++[.row ti.elem m te.ty xs],rs⟩)else none
    |none=>none
   |none=>none
  |none=>none
 |.load t x=>match en.D7.get t with
  |some ti=>if AgD en o=true then(if ti.Ew then bZ bs ti (ρ x) K else none)else aF bs ti (ρ x) pure
  |none=>none
 |.makeMap t r=>match en.D7.get t with
  |some ti=>if r.isSome then none else match en.D7.get ti.Pg,en.D7.get ti.elem with
   |some tk,some te=>if ti.Pg≠0/\tk.ty.EC=true/\te.ty.data=true then K ⟨.mp bs.length,bs++[.map (en.fi.mode te.ty) tk.ty te.ty [] none],[]⟩else none
   |_,_=>none
  |none=>none
 |.lookup t m x ok=>match en.D7.get t with
  |some ti=>match en.D7.get ti.Pg,en.D7.get ti.elem with
   |some tk,some te=>if ti.Pg≠0/\te.ty.data=true/\bF en.D7 tk=true then
       (if AgD en o=true then(if ok then none else oU bs tk te (ρ m) (ρ x) K)else gE bs tk te ok (ρ m) (ρ x) pure)else none
   |_,_=>none
  |none=>none
 |.mapUpdate t m x v=>match en.D7.get t with
  |some ti=>match en.D7.get ti.Pg,en.D7.get ti.elem with
   |some tk,some te=>if ti.Pg≠0/\te.ty.data=true/\bF en.D7 tk=true then dV bs tk te (ρ m) (ρ x) (ρ v) K else none
   |_,_=>none
  |none=>none
 |.insert t m x v=>match en.D7.get t with
  |some ti=>match en.D7.get ti.Pg,en.D7.get ti.elem with
   |some tk,some te=>if ti.Pg≠0/\te.ty.data=true/\bF en.D7 tk=true then dV bs tk te (ρ m) (ρ x) (ρ v) K else none
   |_,_=>none
  |none=>none
 |.mapEntry t m x=>match en.D7.get t with
  |some ti=>match en.D7.get ti.Pg,en.D7.get ti.elem with
   |some tk,some te=>if ti.Pg≠0/\bF en.D7 tk=true then AcG bs tk te (ρ m) (ρ x) K else none
   |_,_=>none
  |none=>none
 |.entryStore t m j v=>match en.D7.get t with
  |some ti=>match en.D7.get ti.Pg,en.D7.get ti.elem with
   |some tk,some te=>if ti.Pg≠0/\bF en.D7 tk=true then AcH bs tk te (ρ m) (ρ j) (ρ v) K else none
   |_,_=>none
  |none=>none
 |.store t x v=>match en.D7.get t with |some ti=>fQ bs ti (ρ x) (ρ v) K |none=>none
 |.nilCheck x=>match ρ x with
  |.ptr k i p q=>pure (.ptr k i p q)
  |.Fw ks t y=>pure (.Fw ks t y)
  |_=>none
 |.binOp op t x y _=>match eqS bs en.D7 op t (ρ x) (ρ y)with |some z=>pure z |none=>qx op (match en.D7.get t with |some ti=>ti.ty==.bool |none=>false) (ρ x) (ρ y) pure
 |.unOp op _ x=>unA op (ρ x) pure
 |.convert s t x=>match en.D7.get s,en.D7.get t with
  |some ts,some ti=>cH bs (match en.D7.get ts.elem with |some te=>if ts.Ew then some te.ty else none |none=>none) ti.ty (ρ x) pure
  |_,_=>none
 |.makeFunc fn first bf=>match fn with |.func f=>if first.size=0 then pure (.fn f (ZB (bf.toList.map ρ)))else none |_=>none
 |.makeSlice t l c=>match en.D7.get t with
  |some ti=>match en.D7.get ti.elem with
   |some te=>if ti.Ew then oW en.fi bs ti.elem te (ρ l) (ρ c) K else none
   |none=>none
  |none=>none
 |.slice t x lo hi mx=>match o.dst,en.D7.get t with
  |some d,some ti =>
   if en.fi.take.contains d then(match lo,mx with
    |none,none=>if ti.Ew then(match en.D7.get ti.elem with |some te=>AcA te.ty bs (ρ x) (hi.map ρ) K |none=>none)else none
    |_,_=>none)
   else XS bs ti (match en.D7.get ti.elem with |some te=>if ti.Ew then some te.ty else none |none=>none) (ρ x) (lo.map ρ) (hi.map ρ) (mx.map ρ) pure
  |_,_=>none
 |.fieldAddr t x f=>match en.D7.get t with |some ti=>mJ ti f (ρ x) pure |none=>none
 |.indexAddr t x i=>match en.D7.get t with
  |some ti=>match en.D7.get ti.elem with
   |some te=>if ti.Ew then vD bs te.ty (ρ x) (ρ i) pure else none
   |none=>none
  |none=>none
 |.index t x i=>match en.D7.get t with |some ti=>if ti.ty=.str then qF (ρ x) (ρ i) pure else none |none=>none
 |.extract x i=>match Qv (ρ x) i with |some v=>if v.Dq then none else pure v |none=>none
 |.call c=>W5 en σ c K
 |_=>none
def Pb.{u}{A:Type u}:ATB (Nat×A)->Nat->ATC A
 |[],_=>none
 |(k,l)::r,n=>if k==n then some l else Pb r n
def Avj(n:Nat)(t:Ty)(e:Ij):ATC Ij:=match rd e.Aj t e.val with
 |some x=>if e.Aj.all (λb=>!b.fh)then some ⟨.AA ((e.val.Vm e.Aj).filter λk=>decide (k<n)) t x,Blk.G3 e.Aj ((e.val.Vm e.Aj).filter λk=>!decide (k<n)),e.BJ⟩else none
 |none=>none
def AiA(n:Nat)(e:Ij):ATC Ij:=match e.val with
 |.AH k=>if n<=k then match e.Aj[k]? with
  |some (.row el .Av t xs)=>some ⟨.AH k,e.Aj.set k (bif t.BS then .tail el t xs else .row el (.sh []) t xs),e.BJ⟩
  |_=>none
  else none
 |_=>none
def kl(en:GV)(o:Oper):Bool:=match o.dst with |some d=>en.fi.AGE.contains d |none=>false
def AIE(en:GV)(o:Oper):ATC Ty:=match o.dst with |some d=>Pb en.fi.ig d |none=>none
def tY(u:Ty):Nat->Ty
 |0=>.unit
 |n+1=>.AE u (tY u n)
def TI.plc(ti te:TI):TI:=⟨ti.ty,(List.range ti.HF).map (·*te.ty.size),ti.elem,ti.bytes,ti.HF,ti.Pg,ti.eqs⟩
def jC(en:GV)(σ:St)(o:Oper):ATC AV:=match o.op with
 |.load t x=>match o.dst with
  |none=>none
  |some d=>match Pb en.fi.vV d,en.D7.get t,σ.Cg x with
   |some e,some ti,.ptr k i p f=>match σ.Aj[k]?,atP σ.Aj k i p f with
    |some (.row _ .Av _ _),some v=>if ti.Ew=true/\v.size=1 then some (.UI k i p f e)else(match v with
     |.AA _ t x=>if t=ti.ty then lp k i p e t x 0 f else none
     |_=>none)
    |_,_=>none
   |_,_,_=>none
 |.build t Ht=>match en.D7.get t with
  |some ti=>if ti.HF=0 then none else match en.D7.get ti.elem with
   |some te=>if ti.ty=tY te.ty ti.HF then YP (ti.plc te) ti.ty.aQ (Ht.toList.map λp=>(p.1,σ.Cg p.2))else none
   |none=>none
  |none=>none
 |.index t x i=>match en.D7.get t with
  |some ti=>if ti.HF=0 then none else match en.D7.get ti.elem with
   |some te=>match σ.Cg i,σ.Cg x with
    |.AA _ (.int _) j,a=>if 0<=j/\j<(ti.HF:Int)/\a.off j.toNat=some (j.toNat*te.ty.size)/\a.isAgg=true/\a.Dq=false then match a.cf j.toNat with
     |some v=>if v.size=te.ty.size/\v.isAgg=te.ty.isAgg then some v else none
     |none=>none
     else none
    |_,_=>none
   |none=>none
  |none=>none
 |.field t x f=>match en.D7.get t with
  |some ti=>match ti.Xk[f]?,nL ti.ty f,(σ.Cg x).cf f with
   |some fo,some u,some v=>if(σ.Cg x).off f=some fo/\(σ.Cg x).isAgg=true/\(σ.Cg x).Dq=false/\v.size=u.size/\v.isAgg=u.isAgg then some v else none
   |_,_,_=>none
  |none=>none
 |.call c=>match c.callee,Qk σ c.args,c.argTypes.toList with
  |.builtin .cap,[.zs],t::_=>match en.D7.get t with |some ti=>if ti.Ew=true then some (.int .i64 0)else none |none=>none
  |_,_,_=>none
 |.indexAddr t x i=>match en.D7.get t with
  |some ti=>if ti.HF=0 then none else match en.D7.get ti.elem with
   |some te=>match σ.Cg i with
    |.AA _ (.int _) j=>if 0<=j/\j<(ti.HF:Int)then match σ.Cg x with
     |.ptr k q p f=>some (.ptr k q (p++[j.toNat]) (f+j.toNat*te.ty.size))
     |.Fw ks t' y=>if Vt t' j.toNat=some (j.toNat*te.ty.size)then match Yx ks t' y j.toNat with |some (.AA _ u z)=>some (.Fw ks u z)|_=>none else none
     |_=>none
     else none
    |_=>none
   |none=>none
  |none=>none
 |_=>none
def coV(bs:ATB Blk):Co->AV->ATC (AV×ATB Blk)
 |.row p e t Av,a=>match a.Wu p with
  |some .zs=>if t.row then match a.bW p (.AH bs.length)with |some a'=>some (a',[.row e (if t.BS||Av then .Av else .sh []) t []])|none=>none else none
  |_=>some (a,[])
 |.AA t,a=>match rd bs t a with |some x=>some (.AA (a.Vm bs) t x,[])|none=>none
 |.ic ks,a=>match a with
  |.AA l t x=>if(t.BS||l.all λk=>ks.contains k)&&ks.all (λk=>decide (k<bs.length))then some (.AA ks t x,[])else none
  |_=>none
def coB(k:Nat)(c:Co)(bs:ATB Blk):ATC (ATB Blk):=match bs[k]? with
 |some (.box a)=>match coV bs c a with |some (a',nb)=>some (bs.set k (.box a')++nb)|none=>none
 |_=>none
def qX:ATB (Nat×Co)->ATB Blk->ATC (ATB Blk)
 |[],bs=>some bs
 |(k,c)::r,bs=>match coB k c bs with |some Gp=>qX r Gp |none=>none
def AnB(bs:ATB Blk):Nat->ATB (ATB Nat)->ATC Nat
 |k,[]=>some k
 |k,q::r=>match bs[k]? with
  |some (.box a)=>match a.Wu q with |some (.ptr k' _ _ _)=>AnB bs k' r |_=>none
  |_=>none
def preB:ATB (Nat×ATB (ATB Nat)×Co)->ATB AV->ATB Blk->ATC (ATB Blk)
 |[],_,bs=>some bs
 |(j,q,c)::r,args,bs=>match args[j]? with
  |some (.ptr k _ _ _)=>match AnB bs k q with
   |some k'=>match coB k' c bs with |some Gp=>preB r args Gp |none=>none
   |none=>none
  |_=>none
def zO(bs:ATB Blk)(ti:TI)(k:Nat)(i:Int)(p:ATB Nat)(o:Nat)(j:Int)(u:Ty)(v:AV):ATC Ij:=match bs[k]? with
 |some (.row ek .Av t xs)=>match kA (.sl u) p t (xs.getD i.toNat t.zero)with
  |some ys=>match take ((Bd [k] bs).set k .Ba++[.row 0 .Av u ys]) .Av ti.ty v with
   |some (y,.Av,[])=>match TQ ti.ty y [] u (ys.getD j.toNat u.zero)with
    |some y'=>match TQ (.sl u) (ys.set j.toNat y') p t (xs.getD i.toNat t.zero)with
     |some x'=>if tyP t p=some (.sl u)/\Ma t p=some o/\u.size≠0/\tyP u []=some ti.ty/\Ma u []=some 0/\v.Cs.contains k=false then
         some ⟨.un 0,((Bd [k,bs.length] ((Blk.G3 (Bd [bs.length] ((Bd [k] bs).set k .Ba++[.row 0 .Av u ys])) []).set bs.length (.row 0 .Av u (ys.set j.toNat y')))).set bs.length .Ba).set k (.row ek .Av t (xs.set i.toNat x')),[bs.length]++[k]⟩
      else none
     |none=>none
    |none=>none
   |_=>none
  |none=>none
 |_=>none
def Adr(en:GV)(σ:St)(o:Oper):ATC Ij:=match o.op with
 |.store t x v=>match en.D7.get t,σ.Cg x with
  |some ti,.WE k i p f j u=>zO σ.Aj ti k i p f j u (σ.Cg v)
  |_,_=>none
 |_=>none
def wB(en:GV)(σ:St)(o:Oper):ATC Ij:=Adr en σ o
def tlE(en:GV)(σ:St)(o:Oper):ATC (Bool×Ij):=match o.op with
 |.slice t x (some lo) none none=>match en.D7.get t,σ.Cg x,σ.Cg lo with
  |some ti,.AH k,.AA _ (.int _) l=>match σ.Aj[k]?,en.D7.get ti.elem with
   |some (.tail e u xs),some te=>if ti.Ew=true/\u=te.ty then some (decide (0<=l)&&decide (l<=(xs.length:Int)),⟨.AH σ.Aj.length,Blk.G3 (Bd [k] σ.Aj) [k]++[.tail e u (xs.drop l.toNat)],[k]⟩)else none
   |_,_=>none
  |_,_,_=>none
 |.indexAddr t x i=>match en.D7.get t,σ.Cg x,σ.Cg i with
  |some ti,.AH k,.AA _ (.int _) l=>match σ.Aj[k]?,en.D7.get ti.elem with
   |some (.tail _ u xs),some te=>if ti.Ew=true/\u=te.ty then some (decide (0<=l)&&decide (l<(xs.length:Int)),⟨.Fw [k] u (xs.getD l.toNat u.zero),σ.Aj,[]⟩)else none
   |_,_=>none
  |_,_,_=>none
 |.call c=>match c.callee,Qk σ c.args,c.argTypes.toList with
  |.builtin .len,[.AH k],[t]=>match σ.Aj[k]?,en.D7.get t with
   |some (.tail _ _ xs),some ti=>if ti.Ew=true then some (true,⟨.int .i64 (xs.length:Int),σ.Aj,[]⟩)else none
   |_,_=>none
  |.builtin .append,[.AH k,y],[t,tx]=>match σ.Aj[k]?,en.D7.get t,en.D7.get tx with
   |some (.tail e u xs),some ti,some fT=>match en.D7.get ti.elem with
    |some te=>match I9 (.sl u) (.sl te.ty) xs,sG σ.Aj te.ty y with
     |some xs,some (ys,_,rs)=>if ti.Ew=true/\fT.Ew=true/\te.ty.row=true/\te.bytes≠0/\(e=ti.elem\/e=0)/\rs.contains k=false then
         some (decide ((xs.length+ys.length)*te.bytes<=140737488355328),⟨.AH σ.Aj.length,Blk.G3 (Bd (k::rs) σ.Aj) (k::rs)++[.tail e te.ty (xs++ys)],k::rs⟩)else none
     |_,_=>none
    |none=>none
   |_,_,_=>none
  |_,_,_=>none
 |_=>none
def V2(en:GV)(σ:St)(o:Oper)(K:Ij->ATC R):ATC R:=match jC en σ o with
 |some v=>K ⟨v,σ.Aj,[]⟩
 |none=>match wB en σ o with
 |some e=>K e
 |none=>match tlE en σ o with
 |some (c,e)=>bif c then K e else none
 |none=>match AIE en o with
 |none=>bif kl en o then R7 en σ o λe=>match AiA σ.Aj.length e with |some e'=>K e' |none=>none else R7 en σ o K
 |some t=>R7 en σ o λe=>match Avj σ.Aj.length t e with |some e'=>K e' |none=>none
def exec(en:GV)(σ:St)(o:Oper)(K:Ij->ATC R):ATC R:=match o.op,o.dst with
 |.call c,some d=>match Pb en.fi.AIC d with
  |some l=>match preB l (Qk σ c.args) σ.Aj with
   |some bs=>V2 en ⟨σ.AO,bs⟩ o λe=>if e.BJ.isEmpty then none else K e
   |none=>none
  |none=>V2 en σ o K
 |_,_=>V2 en σ o K
def XG(all:ATB Oper)(σ:St)(o:Oper)(Kt Kf:St->ATC R):ATC R :=
 match o.guard with
 |none=>Kt σ
 |some (g,iE) =>
  match (all[g]?).bind (·.dst)with
  |none=>none
  |some d=>match σ.AO[d]? with
   |some (.AA [] .bool b) =>
    bif b then
     (if iE then Kt {σ with AO:=σ.AO.set d (.bool true)}else Kf {σ with AO:=σ.AO.set d (.bool true)})
    else
     (if iE then Kf {σ with AO:=σ.AO.set d (.bool false)}else Kt {σ with AO:=σ.AO.set d (.bool false)})
   |some .nil=>Kf σ
   |_=>none
def St.skip(σ:St)(d:ATC Nat):St:={σ with AO:=ah d .nil σ.AO}
def R6(en:GV)(all:ATB Oper):ATB Nat->St->(St->ATC R)->ATC R
 |[],σ,K=>K σ
 |i::is,σ,K =>
  match all[i]? with
  |none=>none
  |some o=>XG all σ o (λσ=>exec en σ o λe=>R6 en all is (σ.after o.dst e) K) (λσ=>R6 en all is (σ.skip o.dst) K)
def En:ATB (Nat×ATB Nat)->Nat->ATB Nat
 |[],_=>[]
 |(k,l)::r,i=>if k==i then l else En r i
def U6(all:ATB Oper)(i:Nat):ATB Nat:=match all[i]? with
 |some o=>o.after.toList.filterMap λe=>if Region.binds .any e then some e.on else none
 |none=>[]
def YL(all:ATB Oper):ATB Nat->ATB (Nat×ATB Nat)->ATB (Nat×ATB Nat)
 |[],A=>A
 |i::is,A=>YL all is ((i,iu [] (U6 all i++(U6 all i).flatMap (En A)))::A)
def dC(all:ATB Oper)(A:ATB (Nat×ATB Nat)):ATB Nat->Bool
 |[]=>true
 |i::is=>is.all (λj=>(En A j).contains i||match all[i]?,all[j]? with |some x,some y=>x.apart all.toArray y |_,_=>false)&&dC all A is
def U8(en:GV)(all:ATB Oper)(A:ATB (Nat×ATB Nat)):ATB Nat->ATB Nat->ATB Nat->St->(St->ATC R)->ATC R
 |[],_,_,σ,K=>K σ
 |i::is,done,OV,σ,K =>
  match all[i]? with
  |none=>none
  |some o=>if OV.all (λx=>(En A i).contains x)then
      XG all σ o (λσ=>exec en σ o λe =>
       if e.BJ.isEmpty then U8 en all A is (i::done) (if e.Aj.length=σ.Aj.length then OV else i::OV) (σ.after o.dst e) K
       else if done.all (λx=>(En A i).contains x)then U8 en all A is (i::done) (i::OV) (σ.after o.dst e) K else none)
      (λσ=>U8 en all A is (i::done) OV (σ.skip o.dst) K)
   else none
inductive Ex where
 |normal |exit (n:Nat)|ret
inductive To {S T:Type} (f:S->Option (S⊕T)):S->T->Prop
 |done {s:S} {t:T} (h:f s=some (.inr t)):To f s t
 |fE {s s':S} {t:T} (h:f s=some (.inl s')) (k:To f s' t):To f s t
open Classical in
noncomputable def fix{S T:Type}(f:S->ATC (S⊕T))(s:S):ATC T:=if h:∃t,To f s t then some h.choose else none
def key:Code->Nat
 |.region i _ _=>i
 |.seq a _=>key a
 |.block _ a=>key a
 |.loop a=>key a
 |.cond _ a _=>key a
 |_=>0
def Sc(Bc:ATB Nat):Nat->ATB AV->ATB AV
 |_,[]=>[]
 |i,a::r=>(if Bc.contains i then a else .un 0)::Sc Bc (i+1) r
def coS(σ:St)(s:Nat)(box:Bool)(c:Co):ATC St :=
 match σ.AO[s]? with
 |none=>none
 |some v=>bif box then
     (match v with
      |.ptr k _ _ _=>match σ.Aj[k]? with
       |some (.box a)=>match coV σ.Aj c a with |some (a',nb)=>some ⟨σ.AO,σ.Aj.set k (.box a')++nb⟩|none=>none
       |_=>none
      |_=>none)
  else match coV σ.Aj c v with |some (v',nb)=>some ⟨σ.AO.set s v',σ.Aj++nb⟩|none=>none
def cE:ATB (Nat×Bool×Co)->St->ATC St
 |[],σ=>some σ
 |(s,b,c)::r,σ=>match coS σ s b c with |some σ'=>cE r σ' |none=>none
def AgV(m:Nat)(t:Ty)(v:AV)(bs:ATB Blk):ATC (AV×ATB Blk):=match rd bs t v with
 |some x=>some (.AA ((v.Vm bs).filter λk=>decide (k<m)) t x,(Blk.G3 bs ((v.Vm bs).filter λk=>!decide (k<m))).map Blk.ck)
 |none=>none
def rf(m:Nat):ATB (Nat×Bool×Ty)->St->ATC St
 |[],σ=>some σ
 |(s,false,t)::r,σ=>match σ.AO[s]? with
  |some (.un _)=>rf m r σ
  |some v=>match AgV m t v σ.Aj with
   |some (v',bs)=>rf m r ⟨(σ.AO.map AV.ck).set s v',bs⟩
   |none=>none
  |none=>none
 |(s,true,t)::r,σ=>match σ.AO[s]? with
  |some (.ptr k _ _ _)=>match σ.Aj[k]? with
   |some (.box a)=>match AgV m t a σ.Aj with
    |some (a',bs)=>match bs[k]? with
     |some (.box _)=>rf m r ⟨σ.AO.map AV.ck,bs.set k (.box a')⟩
     |_=>none
    |none=>none
   |_=>none
  |_=>rf m r σ
def mvS(m:Nat):ATB Nat->St->ATC St
 |[],σ=>some σ
 |s::r,σ=>match σ.AO[s]? with
  |some (.AH k)=>if k<m then match σ.Aj[k]? with
      |some (.row e md t xs)=>if md.Cs.contains k then none else mvS m r ⟨(U7 [k] σ.AO).set s (.AH σ.Aj.length),Blk.G3 (Bd [k] σ.Aj) [k]++[.row e md t xs]⟩
      |_=>none
   else mvS m r σ
  |_=>mvS m r σ
def mvB(m k:Nat)(p:ATB Nat)(σ:St):ATC St:=match σ.Aj[k]? with
 |some (.box a)=>match a.Wu p with
  |some (.AH j)=>if j<m then match σ.Aj[j]? with
      |some (.row e md t xs)=>if md.Cs.contains j then none else match (a.drop λq=>[j].contains q).Wu p,(a.drop λq=>[j].contains q).bW p (.AH σ.Aj.length)with
       |some (.AH j'),some a2=>if j'=j/\k≠j then some ⟨U7 [j] σ.AO,(Blk.G3 (Bd [j] σ.Aj) [j]++[Blk.row e md t xs]).set k (Blk.box a2)⟩else none
       |_,_=>none
      |_=>none
   else some σ
  |_=>none
 |_=>none
def mvV(m s:Nat)(p:ATB Nat)(a:AV)(σ:St):ATC St:=match a.Wu p with
 |some (.AH j)=>if j<m then match σ.Aj[j]? with
     |some (.row e md t xs)=>if md.Cs.contains j then none else match (a.drop λq=>[j].contains q).Wu p,(a.drop λq=>[j].contains q).bW p (.AH σ.Aj.length)with
      |some (.AH j'),some a2=>if j'=j then some ⟨(U7 [j] σ.AO).set s a2,Blk.G3 (Bd [j] σ.Aj) [j]++[Blk.row e md t xs]⟩else none
      |_,_=>none
     |_=>none
  else some σ
 |_=>none
def mvP(m s:Nat)(p:ATB Nat)(σ:St):ATC St:=match σ.AO[s]? with
 |some (.ptr k _ _ _)=>mvB m k p σ
 |some a=>mvV m s p a σ
 |none=>none
def Ah6(m:Nat):ATB (Nat×ATB Nat)->St->ATC St
 |[],σ=>some σ
 |(s,p)::r,σ=>match mvP m s p σ with |some σ'=>Ah6 m r σ' |none=>none
def AV.wid(ks:ATB Nat):AV->AV
 |.AA l t x=>if t.BS=false/\l.all (λj=>ks.contains j)=true then .AA ks t x else .AA l t x
 |.pr a b=>.pr (a.wid ks) (b.wid ks)
 |a=>a
def sR:ATB (Nat×ATB Nat)->ATB Blk->ATC (ATB Blk)
 |[],bs=>some bs
 |(k,ks)::r,bs=>match bs[k]? with
  |some (.row e (.sh l) t xs)=>if l.all (λj=>ks.contains j)&&ks.all (λj=>decide (j<bs.length))then sR r (bs.set k (.row e (.sh ks) t xs))else none
  |some (.box a)=>if ks.all (λj=>decide (j<bs.length))then sR r (bs.set k (.box (a.wid ks)))else none
  |_=>none
def Adu(bs:ATB Blk)(m:Nat)(π Cs:ATB Nat):Bool :=
 π.take m==List.range m&&nodup π&&Cs.all (λj=>π.contains j)&&π.all λk=>match bs[k]? with |some b=>b.Cs.all λj=>π.contains j |none=>false
def St.Ay(m:Nat)(Bc:ATB Nat)(σ:St):ATC St :=
 let sl:=Sc Bc 0 σ.AO
 let π:=pC σ.Aj σ.Aj.length (iu (List.range m) (sl.flatMap (·.Cs)))
 if Adu σ.Aj m π (sl.flatMap (·.Cs))then
  some {AO:=sl.map (λa=>(a.OU (idxOf π)).Eo π.length),Aj:=π.map λk=>(((σ.Aj[k]?).getD .Ba).OU (idxOf π)).Eo π.length}
 else none
def turns(en:GV)(o:Oper):Bool:=match o.op with
 |.alloc _=>true
 |.box _ _=>true
 |.buildSlice _ _ _=>true
 |.store _ _ _=>true
 |.makeSlice _ _ _=>true
 |.makeMap _ _=>true
 |.mapUpdate _ _ _ _=>true
 |.insert _ _ _ _=>true
 |.mapEntry _ _ _=>true
 |.entryStore _ _ _ _=>true
 |.load _ _=>match o.dst with |some d=>en.fi.stl.contains d |none=>false
 |.lookup _ _ _ _=>match o.dst with |some d=>en.fi.stl.contains d |none=>false
 |.slice _ _ _ _ _=>match o.dst with |some d=>en.fi.take.contains d |none=>false
 |.call c=>match c.callee with |.builtin .append=>true |.builtin _=>false |_=>true
 |_=>false
def AlP(all:ATB Oper)(done:ATB Nat)(i:Nat):Bool:=(U6 all i).all λx=>done.contains x
def XP(en:GV)(all:ATB Oper):Nat->ATB Nat->ATB Nat
 |0,done=>done.reverse
 |f+1,done =>
  let rdy:=(List.range all.length).filter λi=>!done.contains i&&AlP all done i
  match rdy.find? (λi=>match all[i]? with |some o=>!turns en o |none=>false)with
  |some i=>XP en all f (i::done)
  |none=>match rdy with
   |i::_=>XP en all f (i::done)
   |[]=>done.reverse
def lY(all:ATB Oper):ATB Nat->ATB Nat->Bool
 |[],_=>true
 |i::is,done=>(U6 all i).all (λd=>done.contains d)&&lY all is (i::done)
def Afa(all:ATB Oper)(L:ATB Nat):Bool:=nodup L&&(List.range all.length).all (λi=>L.contains i)&&L.all (λi=>decide (i<all.length))&&dC all (YL all L []) L&&lY all L []
end
def St.head(h:SH)(m:Nat)(σ:St):ATC St :=
 match ((mvS m h.mv σ).bind (Ah6 m h.mvp)).bind (rf m h.Sp)with
 |none=>none
 |some σ=>match cE h.Ce σ with
  |none=>none
  |some σ=>match σ.Ay m h.Bc with
   |none=>none
   |some σ=>match sR h.wid σ.Aj with
    |none=>none
    |some bs=>cE h.post ⟨σ.AO,bs⟩
def AlQ(m:Nat)(σ:St):ATC (ATB Nat)->ATC St
 |none=>some σ
 |some l=>σ.head {Bc:=l} m
open Classical in
noncomputable def mH(s t:St):ATC Unit:=if s=t then some ()else none
def Abv(o:Oper):Bool:=match o.op with
 |.move _=>true
 |.assign _=>true
 |.extract _ _=>true
 |.fieldAddr _ _ _=>true
 |.indexAddr _ _ _=>true
 |.build _ _=>true
 |_=>false
def AGA(B9:Array Oper)(listed:Array Bool):ATC Nat:=(Region.ready .any B9 listed).find? λi=>(match B9[i]? with |some o=>Abv o |none=>false)&&Region.free .any B9 listed i
def uT:ATB (ATC Unit)->ATC Unit
 |[]=>some ()
 |[x]=>x
 |x::y::r=>x.bind λ_=>uT (y::r)
noncomputable def Ach(en:GV)(h:SH)(m:Nat)(B9:Array Oper)(σ':St):Nat->Array Bool->St->ATC Unit
 |0,listed,σ=>if(Region.ready .any B9 listed).isEmpty then match σ.head h m with |some s=>mH s σ' |none=>none else none
 |k+1,listed,σ=>match AGA B9 listed with
  |some i=>R6 en B9.toList [i] σ λσ1=>Ach en h m B9 σ' k (listed.setIfInBounds i true) σ1
  |none=>if(Region.ready .any B9 listed).isEmpty then none else
  uT ((Region.ready .any B9 listed).map λi=>R6 en B9.toList [i] σ λσ1=>Ach en h m B9 σ' k (listed.setIfInBounds i true) σ1)
def zu(S5:ATB Blk)(σ:St)(o:Oper):Bool:=Abv o||match o.op with
 |.load _ x=>(match σ.Cg x with |.ptr k _ _ _=>(match S5[k]?,σ.Aj[k]? with |some (.box _),some (.box _)=>true |_,_=>false)|_=>false)
 |.call c=>(match c.callee,Qk σ c.args with |.builtin .len,[.AA _ (.sl _) _]=>true |.builtin .len,[.zs]=>true |_,_=>false)
 |.binOp op _ x y _=>(match op with |.add=>true |.sub=>true |_=>false)&&(match σ.Cg x,σ.Cg y with |.AA _ (.int k) _,.AA _ (.int k') _=>decide (k=k')|_,_=>false)
 |_=>false
def AGz(S5:ATB Blk)(σ:St)(B9:Array Oper)(listed:Array Bool):ATC Nat:=(Region.ready .any B9 listed).find? λi=>(match B9[i]? with |some o=>zu S5 σ o |none=>false)&&Region.free .any B9 listed i
def nbx(S5:ATB Blk)(k:Nat):Bool:=match S5[k]? with |some (.box _)=>false |_=>true
def evQ{R:Type}(en:GV)(all:ATB Oper)(S5:ATB Blk)(i:Nat)(σ:St)(K:St->ATC R):ATC R:=match all[i]? with
 |none=>none
 |some o=>XG all σ o (λσ=>exec en σ o λe=>if e.BJ.all (nbx S5)then K (σ.after o.dst e)else none) (λσ=>K (σ.skip o.dst))
noncomputable def yw(en:GV)(h:SH)(m:Nat)(S5:ATB Blk)(B9:Array Oper)(σ':St):Nat->Array Bool->St->ATC Unit
 |0,listed,σ=>if(Region.ready .any B9 listed).isEmpty then match σ.head h m with |some s=>mH s σ' |none=>none else none
 |k+1,listed,σ=>match AGz S5 σ B9 listed with
  |some i=>evQ en B9.toList S5 i σ λσ1=>yw en h m S5 B9 σ' k (listed.setIfInBounds i true) σ1
  |none=>if(Region.ready .any B9 listed).isEmpty then none else
  uT ((Region.ready .any B9 listed).map λi=>evQ en B9.toList S5 i σ λσ1=>yw en h m S5 B9 σ' k (listed.setIfInBounds i true) σ1)
noncomputable def AmF(en:GV)(m:Nat)(h:SH)(B9:Array Oper)(σ:St):ATC St :=
 if Region.noSelect B9=false then none else R6 en B9.toList (List.range B9.size) σ λs=>(s.head h m).bind λσ'=>(bif h.Yp then yw en h m σ.Aj B9 σ' B9.size (Array.replicate B9.size false) σ else Ach en h m B9 σ' B9.size (Array.replicate B9.size false) σ).bind λ_=>some σ'
noncomputable def ev(en:GV)(m:Nat):Code->(R:Type)->St->(Ex->St->ATC R)->ATC R
 |.skip,_,σ,K=>K .normal σ
 |.ret,_,σ,K=>K .ret σ
 |.exit n,_,σ,K=>K (.exit n) σ
 |.seq a b,R,σ,K=>match Pb en.fi.BR (key b)with
  |none=>ev en m a R σ λe σ=>match e with
   |.normal=>ev en m b R σ K
   |.exit n=>K (.exit n) σ
   |.ret=>K .ret σ
  |some h=>(AlQ m σ (Pb en.fi.DR (key b))).bind λσ=>(ev en m a (Ex×St) σ λe σ=>(σ.head h m).bind λσ'=>some (e,σ')).bind λp=>match p.1 with
   |.normal=>ev en m b R p.2 K
   |.exit n=>K (.exit n) p.2
   |.ret=>K .ret p.2
 |.cond c a b,R,σ,K=>match σ.Cg c with |.AA _ .bool t=>bif t then ev en m a R σ K else ev en m b R σ K |_=>none
 |.block n a,R,σ,K=>ev en m a R σ λe σ=>match e with
  |.normal=>K .normal σ
  |.exit k=>bif k==n then K .normal σ else K (.exit k) σ
  |.ret=>K .ret σ
 |.region _ B9 false,_,σ,K=>R6 en B9.toList (List.range B9.size) σ (K .normal)
 |.region id B9 true,_,σ,K=>match Pb en.fi.ao id with
  |some h=>(AlQ m σ (Pb en.fi.cO id)).bind λσ=>(AmF en m h B9 σ).bind (K .normal)
  |none=>if Afa B9.toList (XP en B9.toList B9.toList.length [])then U8 en B9.toList (YL B9.toList (XP en B9.toList B9.toList.length []) []) (XP en B9.toList B9.toList.length []) [] [] σ (K .normal)else none
 |.loop body,R,σ,K=>match Pb en.fi.A4 (key body),Pb en.fi.BD (key body)with
  |some h,some ho=>match σ.head h m with
   |none=>none
   |some σ0=>(fix (λs=>ev en m body (St⊕(Ex×St)) s λe s'=>match e with
       |.normal=>(s'.head h m).bind λZV=>some (.inl ZV)
       |.exit n=>(s'.head ho m).bind λZV=>some (.inr (.exit n,ZV))
       |.ret=>(s'.head ho m).bind λZV=>some (.inr (.ret,ZV))) σ0).bind λp=>K p.1 p.2
  |_,_=>none
 |_,_,_,_=>none
def iA(D7:Tab)(σ:St):ATB ResultVar->ATC (ATB AV)
 |[]=>some []
 |.tmp t::r=>match σ.AO[t]?,iA D7 σ r with |some v,some l=>some (v::l)|_,_=>none
 |.cell a t::r=>match D7.get t,σ.AO[a]? with
  |some ti,some (.ptr k i p o)=>match atP σ.Aj k i p o,iA D7 σ r with
   |some v,some l=>if v.size=ti.ty.size/\v.isAgg=ti.ty.isAgg then some (v::l)else none
   |_,_=>none
  |_,_=>none
def wy:ATB AV->AV
 |[a]=>a
 |l=>ZB l
def cF:ATB (Nat×Co)->ATB AV->ATB Blk->ATC (ATB AV×ATB Blk)
 |[],l,bs=>some (l,bs)
 |(i,c)::r,l,bs=>match l[i]? with
  |none=>none
  |some v=>match coV bs c v with |some (v',nb)=>cF r (l.set i v') (bs++nb)|none=>none
def re(m:Nat):ATB (Nat×Ty)->ATB AV->ATB Blk->ATC (ATB AV×ATB Blk)
 |[],l,bs=>some (l,bs)
 |(i,t)::r,l,bs=>match l[i]? with
  |none=>none
  |some v=>match AgV m t v bs with |some (v',Gp)=>re m r ((l.map AV.ck).set i v') Gp |none=>none
def kW(m:Nat)(bs:ATB Blk)(v:AV):ATC (AV×ATB Blk) :=
 let π:=pC bs bs.length (iu (List.range m) v.Cs)
 if Adu bs m π v.Cs then some ((v.OU (idxOf π)).Eo π.length,π.map λk=>(((bs[k]?).getD .Ba).OU (idxOf π)).Eo π.length)else none
def ae(m:Nat):ATB Fi->St->ATC St
 |[],σ=>some σ
 |.co k c::r,σ=>match coB k c σ.Aj with |some bs=>ae m r ⟨σ.AO,bs⟩|none=>none
 |.Ba j::r,σ=>ae m r ⟨σ.AO,σ.Aj.set j .Ba⟩
 |.mvs s p::r,σ=>match mvP m s p σ with |some σ'=>ae m r σ' |none=>none
 |.mv k p::r,σ=>match mvB m k p σ with |some σ'=>ae m r σ' |none=>none
noncomputable def TP(en:GV)(fn:Func)(R:Type)(args:ATB AV)(E:ATB Blk)(K:AV->ATB Blk->ATC R):ATC R :=
 match fn.body with
 |none=>none
 |some c =>
  if args.length<=fn.ntmps then
   ev en E.length c R ⟨args++List.replicate (fn.ntmps-args.length) (.un 0),E⟩ λe σ=>match e with
    |.exit _=>none
    |_=>match ae E.length en.fi.WO σ with
     |none=>none
     |some σ=>match iA en.D7 σ fn.results.toList with
     |some l=>match re E.length en.fi.Sp l σ.Aj with
      |some (l,bs)=>match cF en.fi.jc l bs with
       |some (l',Gp)=>match kW E.length Gp (wy l')with
        |some (v,bs)=>K v bs
        |none=>none
       |none=>none
      |none=>none
     |none=>none
  else none
section
variable {S T X Y:Type}
theorem To.kh{f:S->ATC (S⊕T)}{s:S}{t u:T}(h:To f s t)(k:To f s u):t=u:=by
 induction h with
 |done h=>cases k with
  |done k=>rw[h]at k;injection k with k;injection k
  |fE k _=>rw[h]at k;injection k with k;cases k
 |fE h _ ih=>cases k with
  |done k=>rw[h]at k;injection k with k;cases k
  |fE k k'=>rw[h]at k;injection k with k;injection k with k;subst k;exact ih k'
theorem W6{f:S->ATC (S⊕T)}{s:S}{t:T}:fix f s=some t↔To f s t:=by
 unfold fix;constructor
 ·intro h;split at h
  ·rename_i hx;injection h with h;subst h;exact hx.choose_spec
  ·cases h
 ·intro h;rw[dif_pos ⟨t,h⟩];exact congrArg some (To.kh (Exists.choose_spec ⟨t,h⟩) h)
theorem AgP(f:S->ATC (S⊕T))(s:S):fix f s=match f s with |none=>none |some (.inl s')=>fix f s' |some (.inr t)=>some t:=by
 apply Option.ext;intro t;rw[W6];constructor
 ·intro h;cases h with
  |done h=>rw[h]
  |fE h k=>rw[h];exact W6.2 k
 ·intro h;split at h
  ·cases h
  ·rename_i s' hs;exact .fE hs (W6.1 h)
  ·rename_i u hs;injection h with h;subst h;exact .done hs
theorem Jz{f:S->ATC (S⊕T)}{s:S}{t:T}(h:f s=some (.inr t)):fix f s=some t:=by rw[AgP,h]
theorem OZ{f:S->ATC (S⊕T)}{s s':S}(h:f s=some (.inl s')):fix f s=fix f s':=by rw[AgP,h]
theorem AlR(σ:X->S)(τ:Y->T)(f:S->ATC (S⊕T))(g:X->ATC (X⊕Y))(h:∀x,f (σ x)=(g x).map (Sum.map σ τ))(x:X) :
    fix f (σ x)=(fix g x).map τ:=by
 apply Option.ext;intro t;rw[W6];constructor
 ·intro ht;generalize hs:σ x=s at ht;induction ht generalizing x with
  |@done s t hd =>
   subst hs;rw[h]at hd;cases hg:g x with
   |none=>rw[hg]at hd;cases hd
   |some r=>rw[hg]at hd;cases r with
    |inl x'=>cases hd
    |inr y=>injection hd with hd;injection hd with hd;subst hd;rw[Jz hg];rfl
  |@fE s s' t hd _ ih =>
   subst hs;rw[h]at hd;cases hg:g x with
   |none=>rw[hg]at hd;cases hd
   |some r=>rw[hg]at hd;cases r with
    |inl x'=>injection hd with hd;injection hd with hd;rw[OZ hg];exact ih x' hd
    |inr y=>injection hd with hd;cases hd
 ·intro ht;cases hf:fix g x with
  |none=>rw[hf]at ht;cases ht
  |some y =>
   rw[hf]at ht;injection ht with ht;subst ht;have vA:=W6.1 hf;clear hf;induction vA with
   |done hd=>exact .done (by rw[h,hd];rfl)
   |fE hd _ ih=>exact .fE (by rw[h,hd];rfl) ih
end
theorem AhX{A B:Type}(f:A->B)(c:Bool)(x y:ATC A):(bif c then x else y).map f=bif c then x.map f else y.map f:=by cases c<;>rfl
theorem Amw{A B:Type}(f:A->B)(c:Prop)[Decidable c](x y:ATC A):(if c then x else y).map f=if c then x.map f else y.map f:=by split<;>rfl
theorem AhW{A B C:Type}(f:B->C)(x:ATC A)(k:A->ATC B):(x.bind k).map f=x.bind λy=>(k y).map f:=by cases x<;>rfl
theorem jG{A B C:Type}(f:A->B)(x:ATC A)(k:B->ATC C):(x.map f).bind k=x.bind λy=>k (f y):=by cases x<;>rfl
def sub:Code->ATB Nat->Code
 |c,[]=>c
 |.seq a b,n::p=>match n with |0=>sub a p |_=>sub b p
 |.cond _ a b,n::p=>match n with |0=>sub a p |_=>sub b p
 |.block _ a,_::p=>sub a p
 |.loop a,_::p=>sub a p
 |_,_=>.skip
noncomputable def Adb(en:GV)(m:Nat)(R:Type):Code->ATB Nat->(Ex->St->ATC R)->Ex->St->ATC R
 |_,[],K=>K
 |.seq a b,n::p,K=>match n with
  |0=>Adb en m R a p λe σ=>match e with
   |.normal=>ev en m b R σ K
   |.exit n=>K (.exit n) σ
   |.ret=>K .ret σ
  |_=>Adb en m R b p K
 |.cond _ a b,n::p,K=>match n with |0=>Adb en m R a p K |_=>Adb en m R b p K
 |.block n a,_::p,K=>Adb en m R a p λe σ=>match e with
  |.normal=>K .normal σ
  |.exit k=>bif k==n then K .normal σ else K (.exit k) σ
  |.ret=>K .ret σ
 |_,_,_=>λ_ _=>none
noncomputable def AGI(m:Nat)(h ho:SH)(e:Ex)(s':St):ATC (St⊕(Ex×St)):=match e with
    |.normal=>(s'.head h m).bind λZV=>some (.inl ZV)
    |.exit n=>(s'.head ho m).bind λZV=>some (.inr (.exit n,ZV))
    |.ret=>(s'.head ho m).bind λZV=>some (.inr (.ret,ZV))
noncomputable def AGp(m:Nat)(h:SH)(e:Ex)(σ:St):ATC (Ex×St):=(σ.head h m).bind λσ'=>some (e,σ')
noncomputable def pK(en:GV)(m:Nat)(h ho:SH)(body:Code)(s:St):ATC (St⊕(Ex×St)) :=
 ev en m body (St⊕(Ex×St)) s λe s'=>match e with
  |.normal=>(s'.head h m).bind λZV=>some (.inl ZV)
  |.exit n=>(s'.head ho m).bind λZV=>some (.inr (.exit n,ZV))
  |.ret=>(s'.head ho m).bind λZV=>some (.inr (.ret,ZV))
noncomputable def AGq(en:GV)(m:Nat)(h:SH)(a:Code)(s:St):ATC (Ex×St):=ev en m a (Ex×St) s λe σ=>(σ.head h m).bind λσ'=>some (e,σ')
noncomputable def A2(en:GV)(fn:Func)(m:Nat)(R:Type)(K:AV->ATB Blk->ATC R)(e:Ex)(σ:St):ATC R :=
 match e with
 |.exit _=>none
 |_=>match ae m en.fi.WO σ with
  |none=>none
  |some σ=>match iA en.D7 σ fn.results.toList with
  |some l=>match re m en.fi.Sp l σ.Aj with
   |some (l,bs)=>match cF en.fi.jc l bs with
    |some (l',Gp)=>match kW m Gp (wy l')with
     |some (v,bs)=>K v bs
     |none=>none
    |none=>none
   |none=>none
  |none=>none
def mkS:Nat->Nat->ATB (Nat×AV)->ATB AV
 |0,_,_=>[]
 |n+1,i,[]=>.un 0::mkS n (i+1) []
 |n+1,i,(j,v)::r=>if i==j then v::mkS n (i+1) r else .un 0::mkS n (i+1) ((j,v)::r)
inductive S4 where
 |no |Jb |BL (k:Nat) (p:List Nat)
structure BI where
 a:Option Addr
 len:Nat
 cap:Nat
 ov:Nat
structure G where
 own:Nat->S4
 AY:Nat->BI
def CH{α:Type}(R:α->ATB Value->Prop):ATB α->ATB Value->Prop
 |[],cs=>cs=[]
 |x::xs,cs=>∃c d,cs=c++d/\R x c/\CH R xs d
def Be{α:Type}(R:Nat->α->ATB Value->Prop):Nat->ATB α->ATB Value->Prop
 |_,[],cs=>cs=[]
 |i,x::xs,cs=>∃c d,cs=c++d/\R i x c/\Be R (i+1) xs d
def H7(w:World)(A:Nat->Prop):(t:Ty)->t.V->ATB Value->Prop
 |.int k,x,cs=>cs=[.int k x]
 |.bool,b,cs=>cs=[.bool b]
 |.str,s,cs=>cs=[.string s]
 |.unit,_,cs=>cs=[]
 |.AE a b,x,cs=>∃c d,cs=c++d/\H7 w A a x.1 c/\H7 w A b x.2 d
 |.sl t,xs,cs=>∃ad cap ds,cs=[.slice ad xs.length cap]/\xs.length<=cap/\CH (H7 w A t) xs ds /\
     (xs=[]\/∃b off,ad=some ⟨b,off,none⟩/\A b/\∀j u,ds[j]?=some u->w.cell? ⟨b,off+j,none⟩=some u)
 |.R4 _,_,_=>False
def Ik(w:World)(own:Nat->S4)(k:Nat):(t:Ty)->ATB Nat->t.V->ATB Value->Prop
 |.int k',_,x,cs=>cs=[.int k' x]
 |.bool,_,b,cs=>cs=[.bool b]
 |.str,_,s,cs=>cs=[.string s]
 |.unit,_,_,cs=>cs=[]
 |.AE a b,p,x,cs=>∃c d,cs=c++d/\Ik w own k a (0::p) x.1 c/\Ik w own k b (1::p) x.2 d
 |.sl t,p,xs,cs=>∃ad cap,cs=[.slice ad xs.length cap]/\((xs=[]/\cap=0)\/∃b e Bq ds,ad=some ⟨b,0,none⟩/\own b=.BL k p /\
     w.heap[b]?=some (.cells Bq e (0,0))/\xs.length<=cap/\cap<=maxLen/\Bq.size=cap*t.size/\Bq.toList.take (xs.length*t.size)=ds/\Be (λi=>Ik w own k t (i::p)) 0 xs ds)
 |.R4 _,_,_,_=>False
def Al(own:Nat->S4)(ks:ATB Nat)(b:Nat):Prop:=own b=.Jb\/∃k∈ks,∃p,own b=.BL k p
def AV.OL:AV->Bool
 |.un _=>true
 |_=>false
def Cq(agg:Bool)(cs:ATB Value)(v:Value):Prop:=bif agg then v=.agg cs.toArray else cs=[v]
def CF(w:World)(g:G)(n:Nat):Bool->AV->ATB Value->Prop
 |false,.AA ks t x,cs=>(∀k∈ks,k<n)/\H7 w (Al g.own ks) t x cs
 |false,.zs,cs=>∃ad,cs=[.slice ad 0 0]
 |false,.AH k,cs=>k<n/\cs=[.slice (g.AY k).a (g.AY k).len (g.AY k).cap]
 |false,.ptr k i _ o,cs=>k<n/\0<=i/\i.toNat<(g.AY k).len/\∃b,(g.AY k).a=some ⟨b,0,none⟩/\cs=[.pointer (some ⟨b,i.toNat*(g.AY k).ov+o,none⟩)]
 |false,.Fw ks t x,cs=>(∀k∈ks,k<n)/\∃b off ds,cs=[.pointer (some ⟨b,off,none⟩)]/\Al g.own ks b/\H7 w (Al g.own ks) t x ds/\∀j u,ds[j]?=some u->w.cell? ⟨b,off+j,none⟩=some u
 |false,.M8,cs=>cs=[.pointer none]
 |false,.UI k i _ o _,cs=>k<n/\0<=i/\i.toNat<(g.AY k).len/\∃b v,(g.AY k).a=some ⟨b,0,none⟩/\g.own b=.BL k []/\cs=[v]/\v.oneCell'=true/\w.cell? ⟨b,i.toNat*(g.AY k).ov+o,none⟩=some v
 |false,.WE k i _ o j u,cs=>k<n/\0<=i/\i.toNat<(g.AY k).len/\∃b b' l c,(g.AY k).a=some ⟨b,0,none⟩/\g.own b=.BL k []/\cs=[.pointer (some ⟨b',j.toNat*u.size,none⟩)]/\(0<=j/\j.toNat<l)/\w.cell? ⟨b,i.toNat*(g.AY k).ov+o,none⟩=some (.slice (some ⟨b',0,none⟩) l c)
 |false,.mp k,cs=>k<n/\∃b,(g.AY k).a=some ⟨b,0,none⟩/\cs=[.map (some b)]
 |false,.pr a b,cs=>∃c d,cs=c++d/\CF w g n false a c/\CF w g n false b d
 |false,.fn f c,cs=>∃vs,cs=[.func (.func f) #[] vs.toArray]/\CF w g n true c vs
 |false,.un k,cs=>cs.length=k/\∀v∈cs,v.oneCell'=true
 |true,.cons a b,vs=>∃v r,vs=v::r/\(a.OL=true\/∃cs,CF w g n false a cs/\Cq a.isAgg cs v)/\CF w g n true b r
 |true,.nil,vs=>vs=[]
 |_,_,_=>False
def B5(w:World)(g:G)(n:Nat):AV->Value->Prop
 |.cons a b,v=>∃vs,v=.tuple vs.toArray/\CF w g n true (.cons a b) vs
 |.nil,v=>v=.tuple #[]
 |a,v=>a.OL=true\/∃cs,CF w g n false a cs/\Cq a.isAgg cs v
def Uy(w:World)(own:Nat->S4)(k:Nat):RM->(t:Ty)->Nat->t.V->ATB Value->Prop
 |.Av,t,i,x,cs=>Ik w own k t [i] x cs
 |.sh ks,t,_,x,cs=>H7 w (Al own ks) t x cs
def Acb(w:World)(own:Nat->S4)(k:Nat):RM->(t:Ty)->ATB t.V->ATB Value->Prop
 |.Av,t,xs,ds=>Be (λi=>Ik w own k t [i]) 0 xs ds
 |.sh ks,t,xs,ds=>CH (H7 w (Al own ks) t) xs ds
def VY(w:World)(b e:Nat)(Bq:Array Value):Prop:=∃el,(e=0\/el=e)/\w.heap[b]?=some (.cells Bq el (0,0))
def Fx:(t:Ty)->t.V->Value
 |.int k,x=>.int k x
 |.str,s=>.string s
 |.AE (.int q) (.AE (.int q') .unit),x=>.agg #[.int q x.1,.int q' x.2.1]
 |_,_=>.nilIface
def WT(w:World)(own:Nat->S4)(k:Nat)(md:RM)(kt vt:Ty)(st:ATC kt.V):Nat->ATB (kt.V×vt.V)->ATB MapEntry->Prop
 |_,[],ms=>ms=[]
 |i,x::xs,ms=>∃m r,ms=m::r/\(m.key=Fx kt x.1/\m.born=i)/\(st=some x.1\/∃cs,Uy w own k md vt i x.2 cs/\Cq vt.isAgg cs m.val)/\WT w own k md kt vt st (i+1) xs r
def Nl(w:World)(g:G)(n k:Nat):Blk->Prop
 |.box a=>(g.AY k).len=1/\∃b cs e,(g.AY k).a=some ⟨b,0,none⟩/\g.own b=.BL k []/\w.heap[b]?=some (.cells cs e (0,0))/\CF w g n false a cs.toList
 |.row e m t xs=>(∀j∈m.Cs,j<n)/\(g.AY k).len=xs.length/\(g.AY k).ov=t.size/\0<t.size/\((xs=[]/\(g.AY k).cap=0)\/∃b Bq ds,(g.AY k).a=some ⟨b,0,none⟩/\g.own b=.BL k [] /\
     VY w b e Bq/\xs.length<=(g.AY k).cap/\(g.AY k).cap<=maxLen/\Bq.size=(g.AY k).cap*t.size/\Bq.toList.take (xs.length*t.size)=ds/\Acb w g.own k m t xs ds)
 |.map md kt vt es st=>(∀j∈md.Cs,j<n)/\∃b HF DW,(g.AY k).a=some ⟨b,0,none⟩/\g.own b=.BL k []/\w.heap[b]?=some (.map HF DW)/\((es.map (·.1)).Nodup/\DW=HF.size)/\WT w g.own k md kt vt st 0 es HF.toList
 |.R1 e t xs i p=>(g.AY k).len=xs.length/\(g.AY k).ov=t.size/\0<t.size/\0<=i/\i.toNat<xs.length/\∃u o x0 b Bq ds,Ma t p=some o/\tyP t p=some (.sl u)/\TQ (.sl u) [] p t (xs.getD i.toNat t.zero)=some x0 /\
     (g.AY k).a=some ⟨b,0,none⟩/\g.own b=.BL k []/\VY w b e Bq/\xs.length<=(g.AY k).cap/\(g.AY k).cap<=maxLen/\Bq.size=(g.AY k).cap*t.size /\
     (Bq.setIfInBounds (i.toNat*t.size+o) (.slice none 0 0)).toList.take (xs.length*t.size)=ds/\Be (λj=>Ik w g.own k t [j]) 0 (xs.set i.toNat x0) ds
 |.tail e t xs=>t.BS=true/\(g.AY k).len=xs.length/\(g.AY k).ov=t.size/\0<t.size/\((xs=[]/\(g.AY k).cap=0)\/∃b o Bq ds,(g.AY k).a=some ⟨b,o,none⟩/\g.own b=.BL k [] /\
     VY w b e Bq/\xs.length<=(g.AY k).cap/\(g.AY k).cap<=maxLen/\Bq.size=o+(g.AY k).cap*t.size/\(Bq.toList.drop o).take (xs.length*t.size)=ds/\Acb w g.own k .Av t xs ds)
 |.Ba=>True
structure Bi (w:World) (g:G) (bs:List Blk):Prop where
 BZ:∀b,w.heap.size<=b->g.own b=.no
 MG:∀k x,bs[k]?=some x->Nl w g bs.length k x
structure Step (BJ:List Nat) (n:Nat) (w:World) (g:G) (w':World) (g':G):Prop where
 os:w'.os=w.os
 tape:w'.tape=w.tape
 output:w'.output=w.output
 size:w.heap.size<=w'.heap.size
 no:∀b,b<w.heap.size->g.own b=.no->g'.own b=.no/\w'.heap[b]?=w.heap[b]?
 Jb:∀b,g.own b=.Jb->g'.own b=.Jb/\w'.heap[b]?=w.heap[b]?
 BL:∀b k p,g.own b=.BL k p->k<n->k∉BJ->g'.own b=.BL k p/\w'.heap[b]?=w.heap[b]?
 AY:∀k,k<n->g'.AY k=g.AY k
section
variable {α:Type} {R S:α->ATB Value->Prop} {I J:Nat->α->ATB Value->Prop}
theorem CH.mono(h:∀x c,R x c->S x c):∀{xs cs},CH R xs cs->CH S xs cs
 |[],_,hc=>hc
 |_::_,_,⟨c,d,e,r,l⟩=>⟨c,d,e,h _ _ r,l.mono h⟩
theorem Be.mono(h:∀i x c,I i x c->J i x c):∀{i xs cs},Be I i xs cs->Be J i xs cs
 |_,[],_,hc=>hc
 |_,_::_,_,⟨c,d,e,r,l⟩=>⟨c,d,e,h _ _ _ r,l.mono h⟩
theorem Be.toR(h:∀i x c,I i x c->S x c):∀{i xs cs},Be I i xs cs->CH S xs cs
 |_,[],_,hc=>hc
 |_,_::_,_,⟨c,d,e,r,l⟩=>⟨c,d,e,h _ _ _ r,l.toR h⟩
theorem CH.toI(h:∀i x c,R x c->J i x c):∀{i xs cs},CH R xs cs->Be J i xs cs
 |_,[],_,hc=>hc
 |_,_::_,_,⟨c,d,e,r,l⟩=>⟨c,d,e,h _ _ _ r,CH.toI h l⟩
theorem CH.append:∀{xs ys cs ds},CH R xs cs->CH R ys ds->CH R (xs++ys) (cs++ds)
 |[],_,_,_,h,k=>by cases h;exact k
 |_::_,_,_,_,⟨c,d,e,r,l⟩,k=>⟨c,d++_,by grind,r,l.append k⟩
theorem Be.append:∀{i xs ys cs ds},Be I i xs cs->Be I (i+xs.length) ys ds->Be I i (xs++ys) (cs++ds)
 |_,[],_,_,_,h,k=>by cases h;exact k
 |i,_::xs,_,_,ds,⟨c,d,e,r,l⟩,k=>by
  subst e;exact⟨c,d++ds,AP4 ..,r,l.append (by grind)⟩
theorem CH.len{s:Nat}(h:∀x c,R x c->c.length=s):∀{xs cs},CH R xs cs->cs.length=xs.length*s
 |[],_,hc=>by cases hc;simp
 |_::xs,_,⟨c,d,e,r,l⟩=>by
  have h1:=h _ _ r;have h2:=l.len h
  grind
theorem Be.len{s:Nat}(h:∀i x c,I i x c->c.length=s){i xs cs}(l:Be I i xs cs):cs.length=xs.length*s :=
 CH.len (R:=λx c=>∃i,I i x c) (λx c ⟨i,r⟩=>h i x c r) (l.toR λi _ _ r=>⟨i,r⟩)
theorem Be.AY{s:Nat}(hs:∀i x c,I i x c->c.length=s):∀{j i xs cs},Be I j xs cs->(hi:i<xs.length) ->
    ∃c0 c d,cs=c0++c++d/\c0.length=i*s/\I (j+i) xs[i] c/\Be I j (xs.take i) c0/\Be I (j+i+1) (xs.drop (i+1)) d
 |j,0,x::xs,_,⟨c,d,e,r,l⟩,_=>⟨[],c,d,e,by simp,r,rfl,l⟩
 |j,i+1,x::xs,_,⟨c,d,e,r,l⟩,hi=>by
  obtain⟨c0,c1,d1,e1,hl,hr,ht,hd⟩:=l.AY hs (i:=i) (by grind);refine⟨c++c0,c1,d1,by grind,?_,?_,⟨c,c0,rfl,r,?_⟩,?_⟩
  ·grind
  ·grind
  ·grind
  grind
theorem Be.join:∀{j i:Nat} {xs:ATB α} {c0 c d:ATB Value} {x:α},i<xs.length->Be I j (xs.take i) c0->I (j+i) x c->Be I (j+i+1) (xs.drop (i+1)) d->Be I j (xs.set i x) (c0++c++d)
 |j,0,_::xs,c0,c,d,x,_,ht,hr,hd=>by cases ht;exact⟨c,d,rfl,hr,hd⟩
 |j,i+1,y::xs,_,c,d,x,hi,⟨c1,c2,e,r,l⟩,hr,hd=>by
  subst e;refine⟨c1,c2++c++d,by grind,r,?_⟩;exact Be.join (by grind) l (by grind) (by grind)
theorem II:∀{j xs cs},CH R xs cs↔Be (λ_=>R) j xs cs
 |_,[],_=>Iff.rfl
 |_,_::_,_=>⟨λ⟨c,d,e,r,l⟩=>⟨c,d,e,r,II.1 l⟩,λ⟨c,d,e,r,l⟩=>⟨c,d,e,r,II.2 l⟩⟩
theorem CH.AY{s:Nat}(hs:∀x c,R x c->c.length=s){i xs cs}(l:CH R xs cs)(hi:i<xs.length) :
    ∃c0 c d,cs=c0++c++d/\c0.length=i*s/\R xs[i] c/\CH R (xs.take i) c0/\CH R (xs.drop (i+1)) d:=by
 obtain⟨c0,c,d,e,hl,hr,ht,hd⟩:=Be.AY  (λ_ x c=>hs x c) (II (j:=0).1 l) hi;exact⟨c0,c,d,e,hl,hr,II.2 ht,II.2 hd⟩
theorem CH.join{i:Nat}{xs:ATB α}{c0 c d:ATB Value}{x:α}(hi:i<xs.length)(ht:CH R (xs.take i) c0)(hr:R x c)(hd:CH R (xs.drop (i+1)) d):CH R (xs.set i x) (c0++c++d) :=
 II (j:=0).2 (Be.join hi (II.1 ht) hr (II.1 hd))
theorem Be.takeN{s:Nat}(hs:∀i x c,I i x c->c.length=s):∀{j xs cs} (n:Nat),Be I j xs cs->Be I j (xs.take n) (cs.take (n*s))
 |_,[],_,n,h=>by cases h;simp[Be]
 |_,_::_,_,0,_=>by simp[Be]
 |j,x::xs,_,n+1,⟨c,d,e,r,l⟩=>by
  subst e;have hc:=hs _ _ _ r;refine⟨c,d.take _,?_,r,l.takeN hs n⟩;rw[List.take_append,hc,AP6 (by grind),show(n+1)*s-s=n*s by grind]
theorem CH.takeN{s:Nat}(hs:∀x c,R x c->c.length=s){xs cs}(n:Nat)(l:CH R xs cs):CH R (xs.take n) (cs.take (n*s)) :=
 II (j:=0).2 (Be.takeN (λ_ x c=>hs x c) n (II.1 l))
theorem CH.AgB{s:Nat}(hs:∀x c,R x c->c.length=s):∀{xs cs} (n:Nat),CH R xs cs->CH R (xs.drop n) (cs.drop (n*s))
 |[],_,n,h=>by cases h;simp[CH]
 |_::_,_,0,h=>by grind
 |x::xs,_,n+1,⟨c,d,e,r,l⟩=>by
  subst e;have hc:=hs _ _ r;have h1:List.drop ((n+1)*s) c=[]:=List.drop_of_length_le (by grind);rw[List.drop_append,hc,h1,show(n+1)*s-s=n*s by grind];exact l.AgB hs n
end
theorem W0{w w':World}{b o:Nat}(h:w'.heap[b]?=w.heap[b]?):w'.cell? ⟨b,o,none⟩=w.cell? ⟨b,o,none⟩:=by simp[World.cell?,h]
theorem QS{w:World}{b o:Nat}{cs:Array Value}{e:TypeId}{fr:Nat×Nat}(h:w.heap[b]?=some (.cells cs e fr)):w.cell? ⟨b,o,none⟩=cs[o]?:=by simp[World.cell?,h]
theorem H7.len{w:World}{A:Nat->Prop}:∀{t:Ty} {x:t.V} {cs:ATB Value},H7 w A t x cs->cs.length=t.size
 |.int _,_,_,h=>by cases h;rfl
 |.bool,_,_,h=>by cases h;rfl
 |.str,_,_,h=>by cases h;rfl
 |.unit,_,_,h=>by cases h;rfl
 |.AE _ _,_,_,⟨_,_,e,h1,h2⟩=>by subst e;rw[AP0,h1.len,h2.len];rfl
 |.sl _,_,_,⟨_,_,_,e,_⟩=>by subst e;rfl
 |.R4 _,_,_,h=>h.elim
theorem Ik.len{w:World}{own:Nat->S4}{k:Nat}:∀{t:Ty} {p:ATB Nat} {x:t.V} {cs:ATB Value},Ik w own k t p x cs->cs.length=t.size
 |.int _,_,_,_,h=>by cases h;rfl
 |.bool,_,_,_,h=>by cases h;rfl
 |.str,_,_,_,h=>by cases h;rfl
 |.unit,_,_,_,h=>by cases h;rfl
 |.AE _ _,_,_,_,⟨_,_,e,h1,h2⟩=>by subst e;rw[AP0,h1.len,h2.len];rfl
 |.sl _,_,_,_,⟨_,_,e,_⟩=>by subst e;rfl
 |.R4 _,_,_,_,h=>h.elim
theorem H7.one{w:World}{A:Nat->Prop}:∀{t:Ty} {x:t.V} {cs:ATB Value},H7 w A t x cs->∀v∈cs,v.oneCell'=true
 |.int _,_,_,h,v,hv=>by cases h;simp at hv;subst hv;rfl
 |.bool,_,_,h,v,hv=>by cases h;simp at hv;subst hv;rfl
 |.str,_,_,h,v,hv=>by cases h;simp at hv;subst hv;rfl
 |.unit,_,_,h,v,hv=>by cases h;simp at hv
 |.AE _ _,_,_,⟨_,_,e,h1,h2⟩,v,hv=>by
  subst e;rcases List.mem_append.1 hv with hv |hv
  ·exact h1.one v hv
  ·exact h2.one v hv
 |.sl _,_,_,⟨_,_,_,e,_⟩,v,hv=>by subst e;simp at hv;subst hv;rfl
 |.R4 _,_,_,h,_,_=>h.elim
theorem Ik.one{w:World}{own:Nat->S4}{k:Nat}:∀{t:Ty} {p:ATB Nat} {x:t.V} {cs:ATB Value},Ik w own k t p x cs->∀v∈cs,v.oneCell'=true
 |.int _,_,_,_,h,v,hv=>by cases h;simp at hv;subst hv;rfl
 |.bool,_,_,_,h,v,hv=>by cases h;simp at hv;subst hv;rfl
 |.str,_,_,_,h,v,hv=>by cases h;simp at hv;subst hv;rfl
 |.unit,_,_,_,h,v,hv=>by cases h;simp at hv
 |.AE _ _,_,_,_,⟨_,_,e,h1,h2⟩,v,hv=>by
  subst e;rcases List.mem_append.1 hv with hv |hv
  ·exact h1.one v hv
  ·exact h2.one v hv
 |.sl _,_,_,_,⟨_,_,e,_⟩,v,hv=>by subst e;simp at hv;subst hv;rfl
 |.R4 _,_,_,_,h,_,_=>h.elim
theorem CH.all{α:Type}{R:α->ATB Value->Prop}{P:Value->Prop}(h:∀x c,R x c->∀v∈c,P v):∀{xs cs},CH R xs cs->∀v∈cs,P v
 |[],_,hc,v,hv=>by cases hc;simp at hv
 |_::_,_,⟨c,d,e,r,l⟩,v,hv=>by
  subst e;rcases List.mem_append.1 hv with hv |hv
  ·grind
  ·exact l.all h v hv
theorem Be.all{α:Type}{I:Nat->α->ATB Value->Prop}{P:Value->Prop}(h:∀i x c,I i x c->∀v∈c,P v){i xs cs}(l:Be I i xs cs):∀v∈cs,P v :=
 CH.all (R:=λx c=>∃i,I i x c) (λx c ⟨i,r⟩=>h i x c r) (l.toR λi _ _ r=>⟨i,r⟩)
theorem H7.mono{w w':World}{A A':Nat->Prop}(h:∀b,A b->A' b/\w'.heap[b]?=w.heap[b]?):∀{t:Ty} {x:t.V} {cs:ATB Value},H7 w A t x cs->H7 w' A' t x cs
 |.int _,_,_,r=>r
 |.bool,_,_,r=>r
 |.str,_,_,r=>r
 |.unit,_,_,r=>r
 |.AE _ _,_,_,⟨c,d,e,h1,h2⟩=>⟨c,d,e,h1.mono h,h2.mono h⟩
 |.sl _,_,_,⟨ad,cap,ds,e,hl,l,hm⟩=>⟨ad,cap,ds,e,hl,l.mono λ_ _ r=>r.mono h,hm.imp id λ⟨b,off,ha,hA,hc⟩ =>
     ⟨b,off,ha,(h b hA).1,λj u hu=>(W0 (h b hA).2).trans (hc j u hu)⟩⟩
 |.R4 _,_,_,r=>r
theorem Ik.mono{w w':World}{own MJ:Nat->S4}{k k':Nat}:∀{t:Ty} {p p':ATB Nat} {x:t.V} {cs:ATB Value},
    (∀b q,own b=.BL k (q++p)->MJ b=.BL k' (q++p')/\w'.heap[b]?=w.heap[b]?)->Ik w own k t p x cs->Ik w' MJ k' t p' x cs
 |.int _,_,_,_,_,_,r=>r
 |.bool,_,_,_,_,_,r=>r
 |.str,_,_,_,_,_,r=>r
 |.unit,_,_,_,_,_,r=>r
 |.AE _ _,p,p',_,_,h,⟨c,d,e,h1,h2⟩=>⟨c,d,e,
     h1.mono (λb q hb=>by have:=h b (q++[0]) (by grind);simpa using this),
     h2.mono (λb q hb=>by have:=h b (q++[1]) (by grind);simpa using this)⟩
 |.sl _,p,p',_,_,h,⟨ad,cap,e,hm⟩=>⟨ad,cap,e,hm.imp id λ⟨b,el,Bq,ds,ha,hb,hh,h1,h2,h3,h4,l⟩ =>
     ⟨b,el,Bq,ds,ha,(h b [] hb).1,(h b [] hb).2.trans hh,h1,h2,h3,h4,l.mono λi x c r=>r.mono (λb q hb=>by have:=h b (q++[i]) (by grind);simpa using this)⟩⟩
 |.R4 _,_,_,_,_,_,r=>r
theorem WT.on{w w':World}{own MJ:Nat->S4}{k k':Nat}{md md':RM}{kt vt:Ty}{st:ATC kt.V}(h:∀(i:Nat) (x:vt.V) (cs:ATB Value),Uy w own k md vt i x cs->Uy w' MJ k' md' vt i x cs):∀{i:Nat} {es:ATB (kt.V×vt.V)} {ms:ATB MapEntry},WT w own k md kt vt st i es ms->WT w' MJ k' md' kt vt st i es ms
 |_,[],_,r=>r
 |i,x::xs,_,⟨m,r,e,hk,hv,hr⟩=>⟨m,r,e,hk,hv.imp id λ⟨cs,ho,ha⟩=>⟨cs,h i x.2 cs ho,ha⟩,hr.on h⟩
theorem Ik.rd{w:World}{own:Nat->S4}{k:Nat}{A:Nat->Prop}(h:∀b q,own b=.BL k q->A b):∀{t:Ty} {p:ATB Nat} {x:t.V} {cs:ATB Value},Ik w own k t p x cs->H7 w A t x cs
 |.int _,_,_,_,r=>r
 |.bool,_,_,_,r=>r
 |.str,_,_,_,r=>r
 |.unit,_,_,_,r=>r
 |.AE _ _,_,_,_,⟨c,d,e,h1,h2⟩=>⟨c,d,e,h1.rd h,h2.rd h⟩
 |.sl t,_,xs,_,⟨ad,cap,e,hm⟩=>by
  rcases hm with ⟨hx,hc⟩|⟨b,el,Bq,ds,ha,hb,hh,h1,h2,h3,h4,l⟩
  ·subst hx;exact⟨ad,cap,[],e,AQH _,rfl,.inl rfl⟩
  ·refine⟨ad,cap,ds,e,h1,l.toR λi x c r=>r.rd h,.inr ⟨b,0,ha,h b _ hb,λj u hu=>?_⟩⟩;rw[QS hh,AQs,<-AQa]
   grind
 |.R4 _,_,_,_,r=>r
def Lc:(t:Ty)->t.V->ATB Value
 |.int k,x=>[.int k x]
 |.bool,b=>[.bool b]
 |.str,s=>[.string s]
 |.unit,_=>[]
 |.AE a b,x=>Lc a x.1++Lc b x.2
 |.sl _,_=>[]
 |.R4 _,_=>[]
theorem H7.BS{w:World}{A:Nat->Prop}:∀{t:Ty} {x:t.V} {cs:ATB Value},t.BS=true->(H7 w A t x cs↔cs=Lc t x)
 |.int _,_,_,_=>Iff.rfl
 |.bool,_,_,_=>Iff.rfl
 |.str,_,_,_=>Iff.rfl
 |.unit,_,_,_=>Iff.rfl
 |.AE a b,x,cs,h=>by
  simp only[Ty.BS,AP3]at h;constructor
  ·rintro⟨c,d,e,h1,h2⟩
   rw[e,(H7.BS h.1).1 h1,(H7.BS h.2).1 h2];rfl
  ·intro e;exact⟨_,_,e,(H7.BS h.1).2 rfl,(H7.BS h.2).2 rfl⟩
 |.sl _,_,_,h=>by simp[Ty.BS]at h
 |.R4 _,_,_,h=>by simp[Ty.BS]at h
theorem Ik.BS{w:World}{own:Nat->S4}{k:Nat}:∀{t:Ty} {p:ATB Nat} {x:t.V} {cs:ATB Value},t.BS=true->(Ik w own k t p x cs↔cs=Lc t x)
 |.int _,_,_,_,_=>Iff.rfl
 |.bool,_,_,_,_=>Iff.rfl
 |.str,_,_,_,_=>Iff.rfl
 |.unit,_,_,_,_=>Iff.rfl
 |.AE a b,p,x,cs,h=>by
  simp only[Ty.BS,AP3]at h;constructor
  ·rintro⟨c,d,e,h1,h2⟩
   rw[e,(Ik.BS h.1).1 h1,(Ik.BS h.2).1 h2];rfl
  ·intro e;exact⟨_,_,e,(Ik.BS h.1).2 rfl,(Ik.BS h.2).2 rfl⟩
 |.sl _,_,_,_,h=>by simp[Ty.BS]at h
 |.R4 _,_,_,_,h=>by simp[Ty.BS]at h
def RS:Ty->ATB Value
 |.int k=>[.int k 0]
 |.bool=>[.bool false]
 |.str=>[.string ⟨#[]⟩]
 |.unit=>[]
 |.AE a b=>RS a++RS b
 |.sl _=>[.slice none 0 0]
 |.R4 0=>[.pointer none]
 |.R4 1=>[.map none]
 |.R4 _=>[.nilFunc]
theorem S3:∀t:Ty,(RS t).length=t.size
 |.int _=>rfl
 |.bool=>rfl
 |.str=>rfl
 |.unit=>rfl
 |.AE a b=>by simp[RS,S3 a,S3 b,Ty.size]
 |.sl _=>rfl
 |.R4 0=>rfl
 |.R4 1=>rfl
 |.R4 (_+2)=>rfl
theorem Ik.zero{w:World}{own:Nat->S4}{k:Nat}:∀{t:Ty} {p:ATB Nat},t.data=true->Ik w own k t p t.zero (RS t)
 |.int _,_,_=>rfl
 |.bool,_,_=>rfl
 |.str,_,_=>rfl
 |.unit,_,_=>rfl
 |.AE a b,p,h=>by
  simp only[Ty.data,AP3]at h;exact⟨_,_,rfl,Ik.zero h.1,Ik.zero h.2⟩
 |.sl t,p,_=>⟨none,0,rfl,.inl ⟨rfl,rfl⟩⟩
 |.R4 _,_,h=>by simp[Ty.data]at h
theorem H7.zero{w:World}{A:Nat->Prop}:∀{t:Ty},t.data=true->H7 w A t t.zero (RS t)
 |.int _,_=>rfl
 |.bool,_=>rfl
 |.str,_=>rfl
 |.unit,_=>rfl
 |.AE a b,h=>by
  simp only[Ty.data,AP3]at h;exact⟨_,_,rfl,H7.zero h.1,H7.zero h.2⟩
 |.sl t,_=>⟨none,0,[],rfl,AP2 _,rfl,.inl rfl⟩
 |.R4 _,h=>by simp[Ty.data]at h
theorem Al.mono{own:Nat->S4}{ks UD:ATB Nat}(h:∀k∈ks,k∈UD){b:Nat}(a:Al own ks b):Al own UD b:=a.imp id λ⟨k,hk,p,hp⟩=>⟨k,h k hk,p,hp⟩
theorem Al.step{BJ:ATB Nat}{n:Nat}{w w':World}{g g':G}(s:Step BJ n w g w' g'){ks:ATB Nat}(hn:∀k∈ks,k<n)(hm:∀k∈ks,k∉BJ){b:Nat}(a:Al g.own ks b) :
    Al g'.own ks b/\w'.heap[b]?=w.heap[b]?:=by
 rcases a with a |⟨k,hk,p,hp⟩
 ·exact⟨.inl (s.Jb b a).1,(s.Jb b a).2⟩
 ·have:=s.BL b k p hp (hn k hk) (hm k hk);exact⟨.inr ⟨k,hk,p,this.1⟩,this.2⟩
theorem Step.refl(BJ:ATB Nat)(n:Nat)(w:World)(g:G):Step BJ n w g w g :=
 ⟨rfl,rfl,rfl,AP2 _,λ_ _ h=>⟨h,rfl⟩,λ_ h=>⟨h,rfl⟩,λ_ _ _ h _ _=>⟨h,rfl⟩,λ_ _=>rfl⟩
theorem Step.trans{m1 m2:ATB Nat}{n n':Nat}{w w1 w2:World}{g g1 g2:G}(s:Step m1 n w g w1 g1)(t:Step m2 n' w1 g1 w2 g2)(hn:n<=n'):Step (m1++m2) n w g w2 g2 where
 os:=t.os.trans s.os
 tape:=t.tape.trans s.tape
 output:=t.output.trans s.output
 size:=AQq s.size t.size
 no b hb h:=by
  have h1:=s.no b hb h;have h2:=t.no b (AQy hb s.size) h1.1;exact⟨h2.1,h2.2.trans h1.2⟩
 Jb b h:=by
  have h1:=s.Jb b h;have h2:=t.Jb b h1.1;exact⟨h2.1,h2.2.trans h1.2⟩
 BL b k p h hk hm:=by
  have h1:=s.BL b k p h hk (λe=>hm (AQu _ e));have h2:=t.BL b k p h1.1 (AQy hk hn) (λe=>hm (AQv _ e));exact⟨h2.1,h2.2.trans h1.2⟩
 AY k hk:=(t.AY k (AQy hk hn)).trans (s.AY k hk)
theorem Step.weaken{m1 m2:ATB Nat}{n n':Nat}{w w':World}{g g':G}(s:Step m1 n w g w' g')(hm:∀k∈m1,k∈m2)(hn:n'<=n):Step m2 n' w g w' g' :=
 ⟨s.os,s.tape,s.output,s.size,s.no,s.Jb,λb k p h hk YB=>s.BL b k p h (AQy hk hn) (λe=>YB (hm k e)),λk hk=>s.AY k (AQy hk hn)⟩
theorem Step.drew(BJ:ATB Nat)(n:Nat)(w:World)(g:G):Step BJ n w g w.drew g :=
 ⟨rfl,rfl,rfl,AP2 _,λ_ _ h=>⟨h,rfl⟩,λ_ h=>⟨h,rfl⟩,λ_ _ _ h _ _=>⟨h,rfl⟩,λ_ _=>rfl⟩
theorem kj(Yc:Nat->Bool)(a:AV):(a.drop Yc).OL=true\/(a.drop Yc).isAgg=a.isAgg:=by
 cases a with
 |AA ks t x=>simp only[AV.drop];split;exact .inl rfl;exact .inr rfl
 |Fw ks t x=>simp only[AV.drop];split;exact .inl rfl;exact .inr rfl
 |UI k i p o e=>simp only[AV.drop];split;exact .inl rfl;exact .inr rfl
 |WE k i p o j u=>simp only[AV.drop];split;exact .inl rfl;exact .inr rfl
 |_=>exact .inr rfl
theorem AaM(Yc:Nat->Bool)(a:AV)(h:a.OL=true):(a.drop Yc).OL=true:=by
 cases a<;>simp_all [AV.OL,AV.drop]
theorem CF.step{BJ:ATB Nat}{n n':Nat}{w w':World}{g g':G}(s:Step BJ n w g w' g')(hn:n<=n'):∀(a:AV) (m:Bool) {cs:ATB Value},CF w g n m a cs->CF w' g' n' m (a.drop λk=>BJ.contains k) cs
 |.AA ks t x,false,cs,⟨hk,r⟩=>by
  simp only[AV.drop];split
  ·exact⟨r.len,r.one⟩
  ·rename_i hb;have hm:∀k∈ks,k∉BJ:=λk hk hc=>hb (List.any_eq_true.2 ⟨k,hk,by grind⟩);exact⟨λk h=>AQy (hk k h) hn,r.mono λb a=>a.step s hk hm⟩
 |.zs,false,_,h=>h
 |.AH k,false,_,⟨hk,e⟩=>⟨AQy hk hn,by rw[s.AY k hk];exact e⟩
 |.mp k,false,_,⟨hk,b,hb,e⟩=>⟨AQy hk hn,b,by rw[s.AY k hk];exact hb,e⟩
 |.ptr k i p o,false,_,⟨hk,h0,h1,b,hb,e⟩=>⟨AQy hk hn,h0,by rw[s.AY k hk];exact h1,b,by rw[s.AY k hk];exact hb,by rw[s.AY k hk];exact e⟩
 |.Fw ks t x,false,cs,⟨hk,b,off,ds,e,ha,r,hc⟩=>by
  simp only[AV.drop];split
  ·subst e;exact⟨rfl,by intro v hv;simp at hv;subst hv;rfl⟩
  ·rename_i hb;have hm:∀k∈ks,k∉BJ:=λk hk hc=>hb (List.any_eq_true.2 ⟨k,hk,by grind⟩);exact⟨λk h=>AQy (hk k h) hn,b,off,ds,e,(ha.step s hk hm).1,r.mono λb a=>a.step s hk hm,λj u hu=>(W0 (ha.step s hk hm).2).trans (hc j u hu)⟩
 |.M8,false,_,h=>h
 |.pr a b,false,_,⟨c,d,e,h1,h2⟩=>⟨c,d,e,CF.step s hn a _ h1,CF.step s hn b _ h2⟩
 |.fn f c,false,_,⟨vs,e,h⟩=>⟨vs,e,CF.step s hn c true h⟩
 |.un k,false,_,h=>h
 |.cons a b,true,_,⟨v,r,e,h1,h2⟩=>by
  refine⟨v,r,e,?_,CF.step s hn b true h2⟩;rcases kj (λk=>BJ.contains k) a with hd |hd
  ·grind
  ·exact h1.imp (AaM _ a) λ⟨cs,h,hv⟩=>⟨cs,CF.step s hn a _ h,by grind⟩
 |.nil,true,_,h=>h
 |.cons _ _,false,_,h=>h.elim
 |.nil,false,_,h=>h.elim
 |.UI k i p o e,false,_,⟨hk,h0,h1,b,v,ha,ho,e1,e2,hc⟩=>by
  simp only[AV.drop];split
  ·subst e1;exact⟨rfl,by grind⟩
  ·rename_i hb;have hl:=s.BL b k [] ho hk (by grind);exact⟨AQy hk hn,h0,by rw[s.AY k hk];exact h1,b,v,by rw[s.AY k hk];exact ha,hl.1,e1,e2,by rw[s.AY k hk];exact(W0 hl.2).trans hc⟩
 |.UI _ _ _ _ _,true,_,h=>h.elim
 |.WE k i p o j u,false,_,⟨hk,h0,h1,b,b',l,c,ha,ho,e1,e2,hc⟩=>by
  simp only[AV.drop];split
  ·subst e1;exact⟨rfl,by intro u hu;simp at hu;subst hu;rfl⟩
  ·rename_i hb;have hl:=s.BL b k [] ho hk (by grind);exact⟨AQy hk hn,h0,by rw[s.AY k hk];exact h1,b,b',l,c,by rw[s.AY k hk];exact ha,hl.1,e1,e2,by rw[s.AY k hk];exact(W0 hl.2).trans hc⟩
 |.WE _ _ _ _ _ _,true,_,h=>h.elim
 |.AA _ _ _,true,_,h=>h.elim
 |.zs,true,_,h=>h.elim
 |.AH _,true,_,h=>h.elim
 |.mp _,true,_,h=>h.elim
 |.ptr _ _ _ _,true,_,h=>h.elim
 |.Fw _ _ _,true,_,h=>h.elim
 |.M8,true,_,h=>h.elim
 |.pr _ _,true,_,h=>h.elim
 |.fn _ _,true,_,h=>h.elim
 |.un _,true,_,h=>h.elim
theorem B5.iff{w:World}{g:G}{n:Nat}{a:AV}{v:Value}(h:a.Dq=false):B5 w g n a v↔(a.OL=true\/∃cs,CF w g n false a cs/\Cq a.isAgg cs v):=by
 cases a<;>first |exact Iff.rfl |cases h
theorem AgC(Yc:Nat->Bool)(a:AV):(a.drop Yc).Dq=a.Dq:=by
 cases a with
 |AA ks t x=>simp only[AV.drop];split<;>rfl
 |Fw ks t x=>simp only[AV.drop];split<;>rfl
 |UI k i p o e=>simp only[AV.drop];split<;>rfl
 |WE k i p o j u=>simp only[AV.drop];split<;>rfl
 |_=>rfl
theorem B5.step{BJ:ATB Nat}{n n':Nat}{w w':World}{g g':G}(s:Step BJ n w g w' g')(hn:n<=n'){a:AV}{v:Value}(h:B5 w g n a v):B5 w' g' n' (a.drop λk=>BJ.contains k) v:=by
 cases ht:a.Dq with
 |false =>
  rw[B5.iff ht]at h;rw[B5.iff (by rw[AgC];exact ht)];rcases kj (λk=>BJ.contains k) a with hd |hd
  ·grind
  ·exact h.imp (AaM _ a) λ⟨cs,h,hv⟩=>⟨cs,CF.step s hn a _ h,by grind⟩
 |true =>
  cases a with
  |cons a b=>obtain⟨vs,e,h⟩:=h;exact⟨vs,e,CF.step s hn _ true h⟩
  |nil=>exact h
  |_=>cases ht
theorem cP(a:AV):(a.drop λ_=>false)=a:=by
 induction a with
 |AA ks t x=>simp[AV.drop]
 |Fw ks t x=>simp[AV.drop]
 |UI k i p o e=>simp[AV.drop]
 |WE k i p o j u=>simp[AV.drop]
 |pr a b ha hb=>simp[AV.drop,ha,hb]
 |fn f c h=>simp[AV.drop,h]
 |cons a b ha hb=>simp[AV.drop,ha,hb]
 |_=>rfl
theorem B5.RP{n n':Nat}{w w':World}{g g':G}(s:Step [] n w g w' g')(hn:n<=n'){a:AV}{v:Value}(h:B5 w g n a v):B5 w' g' n' a v:=by
 have:=h.step s hn;rwa [show(λk=>[].contains k)=λ_=>false from funext λ_=>rfl,cP]at this
theorem CF.RP{n n':Nat}{w w':World}{g g':G}(s:Step [] n w g w' g')(hn:n<=n'){a:AV}{m:Bool}{cs:ATB Value}(h:CF w g n m a cs):CF w' g' n' m a cs:=by
 have:=CF.step s hn a m h;rwa [show(λk=>[].contains k)=λ_=>false from funext λ_=>rfl,cP]at this
theorem CF.len{w:World}{g:G}{n:Nat}:∀{a:AV} {cs:ATB Value},CF w g n false a cs->cs.length=a.size
 |.AA _ _ _,_,h=>h.2.len
 |.zs,_,⟨_,e⟩=>by subst e;rfl
 |.AH _,_,⟨_,e⟩=>by subst e;rfl
 |.mp _,_,⟨_,_,_,e⟩=>by subst e;rfl
 |.ptr _ _ _ _,_,⟨_,_,_,_,_,e⟩=>by subst e;rfl
 |.Fw _ _ _,_,⟨_,_,_,_,e,_⟩=>by subst e;rfl
 |.M8,_,h=>by cases h;rfl
 |.pr a b,_,⟨_,_,e,h1,h2⟩=>by subst e;rw[AP0,CF.len h1,CF.len h2];rfl
 |.fn _ _,_,⟨_,e,_⟩=>by subst e;rfl
 |.un _,_,h=>h.1
 |.cons _ _,_,h=>h.elim
 |.nil,_,h=>h.elim
 |.UI _ _ _ _ _,_,⟨_,_,_,_,_,_,_,e,_⟩=>by subst e;rfl
 |.WE _ _ _ _ _ _,_,⟨_,_,_,_,_,_,_,_,_,e,_⟩=>by subst e;rfl
theorem CF.one{w:World}{g:G}{n:Nat}:∀{a:AV} {cs:ATB Value},CF w g n false a cs->∀v∈cs,v.oneCell'=true
 |.AA _ _ _,_,h=>h.2.one
 |.zs,_,⟨_,e⟩=>by subst e;intro v hv;simp at hv;subst hv;rfl
 |.AH _,_,⟨_,e⟩=>by subst e;intro v hv;simp at hv;subst hv;rfl
 |.mp _,_,⟨_,_,_,e⟩=>by subst e;intro v hv;simp at hv;subst hv;rfl
 |.ptr _ _ _ _,_,⟨_,_,_,_,_,e⟩=>by subst e;intro v hv;simp at hv;subst hv;rfl
 |.Fw _ _ _,_,⟨_,_,_,_,e,_⟩=>by subst e;intro v hv;simp at hv;subst hv;rfl
 |.M8,_,h=>by cases h;intro v hv;simp at hv;subst hv;rfl
 |.pr a b,_,⟨_,_,e,h1,h2⟩=>by
  subst e;intro v hv;rcases List.mem_append.1 hv with hv |hv
  ·exact CF.one h1 v hv
  ·exact CF.one h2 v hv
 |.fn _ _,_,⟨_,e,_⟩=>by subst e;intro v hv;simp at hv;subst hv;rfl
 |.un _,_,h=>h.2
 |.cons _ _,_,h=>h.elim
 |.nil,_,h=>h.elim
 |.UI _ _ _ _ _,_,⟨_,_,_,_,_,_,_,e,h1,_⟩=>by grind
 |.WE _ _ _ _ _ _,_,⟨_,_,_,_,_,_,_,_,_,e,_⟩=>by subst e;intro u hu;simp at hu;subst hu;rfl
theorem CF.scope{w:World}{g:G}{n:Nat}:∀{a:AV} {m:Bool} {cs:ATB Value},CF w g n m a cs->∀k∈a.ic,k<n
 |.AA _ _ _,false,_,h,k,hk=>h.1 k hk
 |.pr a b,false,_,⟨_,_,_,h1,h2⟩,k,hk=>by
  rcases List.mem_append.1 hk with hk |hk
  ·exact CF.scope h1 k hk
  ·exact CF.scope h2 k hk
 |.zs,_,_,_,_,hk=>by cases hk
 |.AH _,_,_,_,_,hk=>by cases hk
 |.mp _,_,_,_,_,hk=>by cases hk
 |.ptr _ _ _ _,_,_,_,_,hk=>by cases hk
 |.Fw _ _ _,_,_,_,_,hk=>by cases hk
 |.M8,_,_,_,_,hk=>by cases hk
 |.fn _ _,_,_,_,_,hk=>by cases hk
 |.un _,_,_,_,_,hk=>by cases hk
 |.cons _ _,_,_,_,_,hk=>by cases hk
 |.nil,_,_,_,_,hk=>by cases hk
 |.UI _ _ _ _ _,_,_,_,_,hk=>by cases hk
 |.WE _ _ _ _ _ _,_,_,_,_,hk=>by cases hk
 |.AA _ _ _,true,_,h,_,_=>h.elim
 |.pr _ _,true,_,h,_,_=>h.elim
section
variable {w:World} {g:G} {n:Nat}
theorem Aod{A A':Nat->Prop}{w:World}{t:Ty}{x:t.V}{cs:ATB Value}(h:H7 w A t x cs)(ha:t.BS=false->∀b,A b->A' b):H7 w A' t x cs:=by
 cases hf:t.BS with
 |true=>exact(H7.BS hf).2 ((H7.BS hf).1 h)
 |false=>exact h.mono λb a=>⟨ha hf b a,rfl⟩
theorem ZR{ks:ATB Nat}{t:Ty}(h:∀k∈ks,k<n):∀k∈bH ks t,k<n:=by
 unfold bH;grind
theorem ZT{own:Nat->S4}{ks:ATB Nat}{w:World}{t:Ty}{x:t.V}{cs:ATB Value}(h:H7 w (Al own ks) t x cs):H7 w (Al own (bH ks t)) t x cs :=
 Aod h λhf b a=>by unfold bH;rw[AQf (by grind)];exact a
theorem ZL{ks:ATB Nat}(hk:∀k∈ks,k<n):∀(f:Nat) (t:Ty) (x:t.V) (cs:ATB Value) (v:AV),H7 w (Al g.own ks) t x cs->Yx ks t x f=some v ->
    ∃c0 c1 c2,cs=c0++c1++c2/\Vt t f=some c0.length/\CF w g n false v c1/\(∃u y,v=.AA (bH ks u) u y/\H7 w (Al g.own ks) u y c1) /\
     ∀v' a' T4,wA ks t x f v'=some a'->CF w g n false v' T4->CF w g n false a' (c0++T4++c2)
 |0,.AE a b,x,cs,v,⟨c,d,e,h1,h2⟩,hv=>by
  simp only[Yx,APY]at hv;subst hv;refine⟨[],c,d,by grind,rfl,⟨ZR hk,ZT h1⟩,⟨a,x.1,rfl,h1⟩,?_⟩;intro v' a' T4 hs vB;simp only[wA,APY]at hs;subst hs;exact⟨T4,d,rfl,vB,ZR hk,ZT h2⟩
 |f+1,.AE a b,x,cs,v,⟨c,d,e,h1,h2⟩,hv=>by
  obtain⟨c0,c1,c2,e2,ho,hx,hu,hs⟩:=ZL hk f b x.2 d v h2 hv;refine⟨c++c0,c1,c2,by grind,?_,hx,hu,?_⟩
  ·simp only[Vt,ho,AP0,h1.len]
  ·intro v' a' T4 iQ vB;simp only[wA]at iQ;split at iQ
   ·rename_i r hr;simp only[APY]at iQ;subst iQ;exact⟨c,c0++T4++c2,by grind,⟨ZR hk,ZT h1⟩,hs _ _ _ hr vB⟩
   ·grind
 |f,.int _,_,_,_,_,hv=>by simp[Yx]at hv
 |f,.bool,_,_,_,_,hv=>by simp[Yx]at hv
 |f,.str,_,_,_,_,hv=>by simp[Yx]at hv
 |f,.unit,_,_,_,_,hv=>by simp[Yx]at hv
 |f,.sl _,_,_,_,_,hv=>by simp[Yx]at hv
 |f,.R4 _,_,_,_,_,hv=>by simp[Yx]at hv
theorem YW:∀(a:AV) (f:Nat) (cs:ATB Value) (v:AV),CF w g n false a cs->a.cf f=some v ->
    ∃c0 c1 c2,cs=c0++c1++c2/\a.off f=some c0.length/\CF w g n false v c1 /\
     ∀v' a' T4,a.Uh f v'=some a'->CF w g n false v' T4->CF w g n false a' (c0++T4++c2)
 |.AA ks t x,f,cs,v,⟨hk,h⟩,hv=>by
  obtain⟨c0,c1,c2,e,ho,hx,_,hs⟩:=ZL  hk f t x cs v h (by simpa [AV.cf]using hv);exact⟨c0,c1,c2,e,by simpa [AV.off]using ho,hx,λv' a' T4 h1 h2=>hs v' a' T4 (by simpa [AV.Uh]using h1) h2⟩
 |.pr a b,0,cs,v,⟨c,d,e,h1,h2⟩,hv=>by
  simp only[AV.cf,APY]at hv;subst hv;refine⟨[],c,d,by grind,rfl,h1,?_⟩;intro v' a' T4 hs vB;simp only[AV.Uh,APY]at hs;subst hs;exact⟨T4,d,rfl,vB,h2⟩
 |.pr a b,f+1,cs,v,⟨c,d,e,h1,h2⟩,hv=>by
  obtain⟨c0,c1,c2,e2,ho,hx,hs⟩:=YW b f d v h2 hv;refine⟨c++c0,c1,c2,by grind,?_,hx,?_⟩
  ·simp only[AV.off,ho,AP0,h1.len]
  ·intro v' a' T4 iQ vB;simp only[AV.Uh]at iQ;split at iQ
   ·rename_i r hr;simp only[APY]at iQ;subst iQ;exact⟨c,c0++T4++c2,by grind,h1,hs _ _ _ hr vB⟩
   ·grind
 |.zs,_,_,_,_,hv=>by simp[AV.cf]at hv
 |.AH _,_,_,_,_,hv=>by simp[AV.cf]at hv
 |.mp _,_,_,_,_,hv=>by simp[AV.cf]at hv
 |.ptr _ _ _ _,_,_,_,_,hv=>by simp[AV.cf]at hv
 |.Fw _ _ _,_,_,_,_,hv=>by simp[AV.cf]at hv
 |.M8,_,_,_,_,hv=>by simp[AV.cf]at hv
 |.fn _ _,_,_,_,_,hv=>by simp[AV.cf]at hv
 |.un _,_,_,_,_,hv=>by simp[AV.cf]at hv
 |.cons _ _,_,_,_,h,_=>h.elim
 |.nil,_,_,_,h,_=>h.elim
 |.UI _ _ _ _ _,_,_,_,_,hv=>by simp[AV.cf]at hv
 |.WE _ _ _ _ _ _,_,_,_,_,hv=>by simp[AV.cf]at hv
theorem SE:∀(p:ATB Nat) (a:AV) (cs:ATB Value) (v:AV),CF w g n false a cs->a.Wu p=some v ->
    ∃c0 c1 c2,cs=c0++c1++c2/\a.Ads p=some c0.length/\CF w g n false v c1 /\
     ∀v' a' T4,a.bW p v'=some a'->CF w g n false v' T4->CF w g n false a' (c0++T4++c2)
 |[],a,cs,v,h,hv=>by
  simp only[AV.Wu,APY]at hv;subst hv;refine⟨[],cs,[],by simp,rfl,h,?_⟩;intro v' a' T4 hs vB;simp only[AV.bW,APY]at hs;subst hs;simpa using vB
 |f::p,a,cs,v,h,hv=>by
  simp only[AV.Wu]at hv;split at hv
  ·rename_i b hb;obtain⟨c0,c1,c2,e,ho,hx,hs⟩:=YW a f cs b h hb;obtain⟨d0,d1,d2,e2,ho2,xK,YC⟩:=SE p b c1 v hx hv;refine⟨c0++d0,d1,d2++c2,by grind,?_,xK,?_⟩
   ·simp only[AV.Ads,hb,ho,ho2,AP0]
   ·intro v' a' T4 iQ vB;simp only[AV.bW,hb]at iQ;split at iQ
    ·grind
    ·grind
  ·grind
end
theorem BG{t u:Ty}{x:t.V}{y:u.V}(h:I9 t u x=some y):∃e:t=u,e▸x=y:=by
 unfold I9 at h
 grind
def rQ:Nat->ATB Nat->ATB Nat
 |0,L=>0::L
 |n+1,L=>rQ n (1::L)
def VU:ATB Nat->ATB Nat->ATB Nat
 |[],L=>L
 |f::p,L=>VU p (rQ f L)
structure Rel where
 E:(t:Ty)->List Nat->t.V->List Value->Prop
 AE:∀{a b:Ty} {L:List Nat} {x:(Ty.AE a b).V} {cs:List Value},E (.AE a b) L x cs↔∃c d,cs=c++d/\E a (0::L) x.1 c/\E b (1::L) x.2 d
 len:∀{t:Ty} {L:List Nat} {x:t.V} {cs:List Value},E t L x cs->cs.length=t.size
def AGD(w:World)(A:Nat->Prop):Rel:=⟨λt _ x cs=>H7 w A t x cs,Iff.rfl,H7.len⟩
def Aoc(w:World)(own:Nat->S4)(k:Nat):Rel:=⟨λt L x cs=>Ik w own k t L x cs,Iff.rfl,Ik.len⟩
section
variable (Q:Rel)
theorem pG(F:∀u:Ty,u.V->ATC u.V)(ml:Ty->Nat->Prop)(D:ATB Nat->ATB Value->Prop)(sz:Nat)
    (hF:∀(u:Ty) (L:ATB Nat) (x y:u.V) (cs:ATB Value) (o:Nat),F u x=some y->ml u o->Q.E u L x cs ->
     ∃c0 c1 c2,cs=c0++c1++c2/\c0.length=o/\c1.length=sz/\∀T4,D L T4->Q.E u L y (c0++T4++c2)) :
    ∀(f:Nat) (t:Ty) (L:ATB Nat) (x x':t.V) (cs:ATB Value) (u:Ty) (o o':Nat),SF t x f F=some x'->nL t f=some u->Vt t f=some o->ml u o'->Q.E t L x cs ->
     ∃c0 c1 c2,cs=c0++c1++c2/\c0.length=o+o'/\c1.length=sz/\∀T4,D (rQ f L) T4->Q.E t L x' (c0++T4++c2)
 |0,.AE a b,L,x,x',cs,u,o,o',hs,hu,ho,hc,h=>by
  obtain⟨c,d,e,h1,h2⟩:=Q.AE.1 h;simp only[nL,APY]at hu;subst hu;simp only[Vt,APY]at ho;simp only[SF]at hs;split at hs
  ·rename_i y hy;injection hs with hs;subst hs;obtain⟨c0,c1,c2,e2,hl,hz,hr⟩:=hF a _ x.1 y c o' hy hc h1;refine⟨c0,c1,c2++d,by grind,by omega,hz,λT4 h=>Q.AE.2 ⟨c0++T4++c2,d,by grind,hr T4 h,h2⟩⟩
  ·grind
 |f+1,.AE a b,L,x,x',cs,u,o,o',hs,hu,ho,hc,h=>by
  obtain⟨c,d,e,h1,h2⟩:=Q.AE.1 h;simp only[Vt]at ho;split at ho
  ·rename_i o2 ho2;injection ho with ho;simp only[SF]at hs;split at hs
   ·rename_i y hy;injection hs with hs;subst hs;obtain⟨c0,c1,c2,e2,hl,hz,hr⟩:=pG F ml D sz hF f b _ x.2 y d u o2 o' hy hu ho2 hc h2;refine⟨c++c0,c1,c2,by grind,by rw[AP0,Q.len h1];omega,hz,λT4 h=>Q.AE.2 ⟨c,c0++T4++c2,by grind,h1,hr T4 h⟩⟩
   ·grind
  ·grind
 |f,.int _,_,_,_,_,_,_,_,hs,_,_,_,_=>by simp[SF]at hs
 |f,.bool,_,_,_,_,_,_,_,hs,_,_,_,_=>by simp[SF]at hs
 |f,.str,_,_,_,_,_,_,_,hs,_,_,_,_=>by simp[SF]at hs
 |f,.unit,_,_,_,_,_,_,_,hs,_,_,_,_=>by simp[SF]at hs
 |f,.sl _,_,_,_,_,_,_,_,hs,_,_,_,_=>by simp[SF]at hs
 |f,.R4 _,_,_,_,_,_,_,_,hs,_,_,_,_=>by simp[SF]at hs
theorem ZX(u:Ty)(y:u.V):∀(p:ATB Nat) (t:Ty) (L:ATB Nat) (x x':t.V) (cs:ATB Value) (o:Nat),TQ u y p t x=some x'->Ma t p=some o->Q.E t L x cs ->
    ∃c0 c1 c2,cs=c0++c1++c2/\c0.length=o/\c1.length=u.size/\∀T4,Q.E u (VU p L) y T4->Q.E t L x' (c0++T4++c2)
 |[],t,L,x,x',cs,o,hs,ho,h=>by
  simp only[Ma,APY]at ho;subst ho;obtain⟨e,he⟩:=BG hs;subst e;subst he;exact⟨[],cs,[],by simp,rfl,Q.len h,λT4 h'=>by simpa [VU]using h'⟩
 |f::p,t,L,x,x',cs,o,hs,ho,h=>by
  simp only[Ma]at ho;split at ho
  ·rename_i t1 o1 h1 h2;split at ho
   ·rename_i o2 h3;injection ho with ho;subst ho;exact pG Q (λt' x'=>TQ u y p t' x') (λv o=>Ma v p=some o) (λL T4=>Q.E u _ y T4) _
     (λv L x1 y1 cs1 o' Sb Pp gp=>ZX u y p v L x1 y1 cs1 o' Sb Pp gp) f t L x x' cs t1 o1 o2 hs h1 h2 h3 h
   ·grind
  ·grind
end
theorem Al.mem{own:Nat->S4}{ks:ATB Nat}{k b:Nat}{p:ATB Nat}(hk:k∈ks)(h:own b=.BL k p):Al own ks b:=.inr ⟨k,hk,p,h⟩
theorem Rh{w:World}{g:G}{bs:ATB Blk}(H:Bi w g bs):∀(t:Ty) (a:AV) (x:t.V) (cs:ATB Value),rd bs t a=some x->CF w g bs.length false a cs ->
    H7 w (Al g.own (a.Vm bs)) t x cs/\∀k∈a.Vm bs,k<bs.length:=by
 have plain:∀(t:Ty) (ks:ATB Nat) (u:Ty) (y:u.V) (x:t.V) (cs:ATB Value),I9 u t y=some x->CF w g bs.length false (.AA ks u y) cs->H7 w (Al g.own ks) t x cs/\∀k∈ks,k<bs.length:=by
  intro t ks u y x cs h hx;obtain⟨e,he⟩:=BG h;subst e;simp only at he;subst he;exact⟨hx.2,hx.1⟩
 intro t;induction t with
 |AE a b iha ihb =>
  intro av x cs h hx;simp only[rd]at h;split at h
  ·exact plain _ _ _ _ _ _ h hx
  ·rename_i u v;split at h
   ·rename_i y z hy hz;injection h with h;subst h;obtain⟨c,d,e,h1,h2⟩:=hx;have r1:=iha u y c hy h1;have r2:=ihb v z d hz h2;refine⟨⟨c,d,e,r1.1.mono λq hq=>⟨hq.mono λk hk=>AQu _ hk,rfl⟩,r2.1.mono λq hq=>⟨hq.mono λk hk=>AQv _ hk,rfl⟩⟩,?_⟩;intro k hk;rcases List.mem_append.1 hk with hk |hk
    ·exact r1.2 k hk
    ·exact r2.2 k hk
   ·cases h
  ·cases h
 |sl t _ =>
  intro av x cs h hx;simp only[rd]at h;split at h
  ·exact plain _ _ _ _ _ _ h hx
  ·injection h with h;subst h;obtain⟨ad,e⟩:=hx;exact⟨⟨ad,0,[],e,AP2 _,rfl,.inl rfl⟩,λk hk=>by cases hk⟩
  ·rename_i k;split at h
   ·rename_i e m u ys hb;obtain⟨e',he⟩:=BG h;injection e' with e';subst e';simp only at he;subst he;obtain⟨hk,hc⟩:=hx;obtain⟨hm,hlen,QN,BU,hr⟩:=H.MG k _ hb;have Abb:(AV.AH k).Vm bs=k::m.Cs:=by simp[AV.Vm,dM,hb]
    rw[Abb];refine⟨?_,λj hj=>?_⟩
    ·rcases hr with ⟨hy,fj⟩|⟨b,Bq,ds,ha,Cr,⟨el,_,hh⟩,h1,h2,h3,h4,Ns⟩
     ·subst hy;rw[hlen]at hc;exact⟨(g.AY k).a,(g.AY k).cap,[],hc,by simp,rfl,.inl rfl⟩
     ·rw[hlen]at hc;refine⟨(g.AY k).a,(g.AY k).cap,ds,hc,h1,?_,.inr ⟨b,0,ha,.mem (AQr) Cr,λj q hq=>?_⟩⟩
      ·cases m with
       |Av=>exact Ns.toR λi y c r=>r.rd λb q hb=>.mem (AQr) hb
       |sh ks=>exact Ns.mono λy c r=>r.mono λb a=>⟨a.mono λj hj=>AQo _ hj,rfl⟩
      ·rw[QS hh,AQs,<-AQa];subst h4;rw[AQT]at hq;split at hq
       ·exact hq
       ·cases hq
    ·rcases List.mem_cons.1 hj with rfl |hj
     ·exact hk
     ·exact hm j hj
   ·cases h
  ·cases h
 |_ =>
  intro av x cs h hx;simp only[rd]at h;split at h
  ·exact plain _ _ _ _ _ _ h hx
  ·cases h
theorem Nl.step{BJ:ATB Nat}{n n':Nat}{w w':World}{g g':G}(s:Step BJ n w g w' g')(hn:n<=n'){k:Nat}(hk:k<n)(hm:k∉BJ){b:Blk}(h:Nl w g n k b) :
    Nl w' g' n' k (b.drop λj=>BJ.contains j):=by
 cases b with
 |Ba=>trivial
 |map m kt vt es st =>
  obtain⟨RV,b,HF,DW,ha,ho,hh,S8,kH⟩:=h;simp only[Blk.drop];split
  ·trivial
  ·rename_i hb;have hd:∀j∈m.Cs,j∉BJ:=λj hj hc=>hb (List.any_eq_true.2 ⟨j,hj,by grind⟩);have hl:=s.BL b k [] ho hk hm;refine⟨λj hj=>AQy (RV j hj) hn,b,HF,DW,by rw[s.AY k hk];exact ha,hl.1,hl.2.trans hh,S8,kH.on λi x cs r=>?_⟩;cases m with
   |Av=>exact Ik.mono (λb q hb=>s.BL b k _ hb hk hm) r
   |sh ks=>exact H7.mono (λb a=>a.step s RV hd) r
 |R1 e t xs i p =>
  obtain⟨h1,h2,h3,h4,h5,u,o,x0,b,Bq,ds,q1,q2,q3,ha,ho,⟨el,VR,hh⟩,c1,c2,c3,c4,hc⟩:=h;have hl:=s.BL b k [] ho hk hm;refine⟨by rw[s.AY k hk];exact h1,by rw[s.AY k hk];exact h2,h3,h4,h5,u,o,x0,b,Bq,ds,q1,q2,q3,?_⟩;rw[s.AY k hk];exact⟨ha,hl.1,⟨el,VR,hl.2.trans hh⟩,c1,c2,c3,c4,hc.mono λi x c r=>r.mono λb q hb=>s.BL b k _ hb hk hm⟩
 |tail e t xs =>
  obtain⟨hf,hlen,QN,BU,hr⟩:=h;refine⟨hf,by rw[s.AY k hk];exact hlen,by rw[s.AY k hk];exact QN,BU,?_⟩;rw[s.AY k hk];refine hr.imp id λ⟨b,o,Bq,ds,ha,ho,⟨el,VR,hh⟩,h1,h2,h3,h4,hc⟩=>?_;have hl:=s.BL b k [] ho hk hm;exact⟨b,o,Bq,ds,ha,hl.1,⟨el,VR,hl.2.trans hh⟩,h1,h2,h3,h4,hc.mono λi x c r=>r.mono λb q hb=>s.BL b k _ hb hk hm⟩
 |box a =>
  obtain⟨h1,b,cs,e,ha,ho,hh,hx⟩:=h;have hl:=s.BL b k [] ho hk hm;refine⟨by rw[s.AY k hk];exact h1,b,cs,e,by rw[s.AY k hk];exact ha,hl.1,hl.2.trans hh,CF.step s hn a _ hx⟩
 |row e m t xs =>
  obtain⟨RV,hlen,QN,BU,hr⟩:=h;simp only[Blk.drop];split
  ·trivial
  ·rename_i hb;have hd:∀j∈m.Cs,j∉BJ:=λj hj hc=>hb (List.any_eq_true.2 ⟨j,hj,by grind⟩);refine⟨λj hj=>AQy (RV j hj) hn,by rw[s.AY k hk];exact hlen,by rw[s.AY k hk];exact QN,BU,?_⟩;rw[s.AY k hk];refine hr.imp id λ⟨b,Bq,ds,ha,ho,⟨el,VR,hh⟩,h1,h2,h3,h4,hc⟩=>?_;have hl:=s.BL b k [] ho hk hm;refine⟨b,Bq,ds,ha,hl.1,⟨el,VR,hl.2.trans hh⟩,h1,h2,h3,h4,?_⟩;cases m with
   |Av=>exact hc.mono λi x c r=>r.mono λb q hb=>s.BL b k _ hb hk hm
   |sh ks=>exact hc.mono λx c r=>r.mono λb a=>a.step s RV hd
theorem cz(b:Blk):(b.drop λ_=>false)=b:=by
 cases b with
 |box a=>simp[Blk.drop,cP]
 |row e m t xs=>simp[Blk.drop]
 |map m kt vt es st=>simp[Blk.drop]
 |R1 e t xs i p=>rfl
 |tail e t xs=>rfl
 |Ba=>rfl
theorem Nl.RP{n n':Nat}{w w':World}{g g':G}(s:Step [] n w g w' g')(hn:n<=n'){k:Nat}(hk:k<n){b:Blk}(h:Nl w g n k b):Nl w' g' n' k b:=by
 have:=h.step s hn hk (by simp);rwa [show(λk=>[].contains k)=λ_=>false from funext λ_=>rfl,cz]at this
theorem A5{α:Type}{l:ATB α}{k:Nat}{x:α}(h:l[k]?=some x):k<l.length:=by
 grind
theorem Bi.RP{w w':World}{g g':G}{bs:ATB Blk}(H:Bi w g bs)(s:Step [] bs.length w g w' g')(hf:∀b,w'.heap.size<=b->g'.own b=.no):Bi w' g' bs :=
 ⟨hf,λk x hx=>(H.MG k x hx).RP s (AP2 _) (A5 hx)⟩
theorem Bi.drew{w:World}{g:G}{bs:ATB Blk}(H:Bi w g bs):Bi w.drew g bs:=H.RP (Step.drew _ _ _ _) H.BZ
theorem Bi.push{w w':World}{g g':G}{bs:ATB Blk}(H:Bi w g bs)(s:Step [] bs.length w g w' g')(hf:∀b,w'.heap.size<=b->g'.own b=.no){b:Blk}(hb:Nl w' g' (bs.length+1) bs.length b) :
    Bi w' g' (bs++[b]) :=
 ⟨hf,λk x hx=>by
  rw[AP0];rw[AQm]at hx;split at hx
  ·exact(H.MG k x hx).RP s (AQx _) (A5 hx)
  grind⟩
def zeroV:Value->Value->Bool
 |.int k n,.int k' m=>k==k'&&n==m
 |.bool a,.bool b=>a==b
 |.string s,.string t=>s.data.toList==t.data.toList
 |.slice none 0 0,.slice none 0 0=>true
 |.pointer none,.pointer none=>true
 |.map none,.map none=>true
 |.nilFunc,.nilFunc=>true
 |_,_=>false
theorem Ajt{a b:Value}(h:zeroV a b=true):a=b:=by
 unfold zeroV at h;split at h
 ·grind
 ·grind
 ·rename_i s t;have :=by simpa using h
  cases s;simp at this;rw[this]
 ·rfl
 ·rfl
 ·rfl
 ·rfl
 ·grind
def AbQ:ATB Value->ATB Value->Bool
 |[],[]=>true
 |a::r,b::s=>zeroV a b&&AbQ r s
 |_,_=>false
theorem xe:∀{a b:ATB Value},AbQ a b=true->a=b
 |[],[],_=>rfl
 |a::r,b::s,h=>by
  simp only[AbQ,AP3]at h;rw[Ajt h.1,xe h.2]
 |[],_::_,h=>by cases h
 |_::_,[],h=>by cases h
def Akp:TypeDesc->Bool
 |.struct _=>true
 |.array _ _=>true
 |_=>false
def AD5(P:Program)(t:Nat)(u:Ty):Bool:=match P.underlying t with |some d=>Akp d==u.isAgg |none=>false
def P8(P:Program)(ty:Ty):Nat->ATB Field->ATB Nat->Bool
 |_,[],[]=>true
 |i,f::fs,o::os=>f.offset==o&&Vt ty i==some o&&(match nL ty i with |some u=>(P.info? f.type).map (·.size)==some u.size&&u.size !=0&&AD5 P f.type u |none=>false)&&P8 P ty (i+1) fs os
 |_,_,_=>false
def kindOk(P:Program)(ti:TI):TypeDesc->Bool
 |.int k=>ti.ty==.int k
 |.bool=>ti.ty==.bool
 |.string=>ti.ty==.str
 |.slice e=>ti.elem==e&&(match ti.ty with |.sl _=>true |_=>false)
 |.struct fs=>ti.ty.isAgg&&P8 P ti.ty 0 fs.toList ti.Xk
 |.array _ _=>ti.ty.isAgg
 |.pointer _=>(match ti.ty with |.R4 _=>true |_=>false)
 |.map _ _=>(match ti.ty with |.R4 _=>true |_=>false)
 |.func _ _ _=>(match ti.ty with |.R4 _=>true |_=>false)
 |_=>false
def W3(P:Program):Ty->Nat->ATB Field->Bool
 |.unit,_,[]=>true
 |.AE a b,o,f::fs=>f.name !="_"&&f.offset==o&&(match a,P.underlying f.type with |.int k,some (.int k')=>k==k' |.bool,some .bool=>true |.str,some .string=>true |_,_=>false)&&W3 P b (o+1) fs
 |_,_,_=>false
def AgJ(P:Program)(t:Nat)(ty:Ty):Bool:=match P.underlying t with
 |some (.struct fs)=>!P.stoodInHeld t&&!P.eqGuardType P.depth t&&W3 P ty 0 fs.toList
 |_=>false
def Awt(P:Program)(t:Nat)(ti:TI):Bool :=
 (match P.info? t with
  |some i=>i.size==ti.ty.size&&i.bytes==ti.bytes&&(match i.zero with |some z=>AbQ z.cells.toList (RS ti.ty)&&(match z with |.agg _=>ti.ty.isAgg |_=>!ti.ty.isAgg)|none=>false)
  |none=>false) &&
 (match P.underlying t with |some d=>kindOk P ti d&&(match d with |.struct _=>true |_=>ti.Xk.isEmpty)&&(match d with |.array n e=>ti.HF==n&&ti.elem==e |_=>ti.HF==0)&&(match d with |.map k e=>ti.Pg==k&&ti.elem==e |_=>ti.Pg==0)&&(!ti.eqs||AgJ P t ti.ty)|none=>false)
def gP(P:Program):Tab->Bool
 |[]=>true
 |(t,ti)::r=>Awt P t ti&&gP P r
theorem AbE{P:Program}:∀{D7:Tab} {t:Nat} {ti:TI},gP P D7=true->D7.get t=some ti->Awt P t ti=true
 |[],_,_,_,h=>by cases h
 |(k,i)::r,t,ti,ho,h=>by
  simp only[gP,AP3]at ho;simp only[Tab.get]at h;split at h
  ·grind
  ·exact AbE ho.2 h
structure Fh (P:Program) (t:Nat) (ti:TI):Prop where
 info:∃i z,P.info? t=some i/\i.size=ti.ty.size/\i.bytes=ti.bytes/\i.zero=some z/\z.cells.toList=RS ti.ty/\((∃c,z=.agg c)↔ti.ty.isAgg=true)
 gT:∃d,P.underlying t=some d/\kindOk P ti d=true
 Xk:(∃fs,P.underlying t=some (.struct fs))\/ti.Xk=[]
 HF:ti.HF≠0->P.underlying t=some (.array ti.HF ti.elem)
 eqs:ti.eqs=true->AgJ P t ti.ty=true
 mp:ti.Pg≠0->P.underlying t=some (.map ti.Pg ti.elem)
theorem Fh.of{P:Program}{D7:Tab}{t:Nat}{ti:TI}(ho:gP P D7=true)(h:D7.get t=some ti):Fh P t ti:=by
 have h1:=AbE ho h;unfold Awt at h1;rw[AP3]at h1;obtain⟨h1,h2⟩:=h1;constructor
 ·split at h1
  ·rename_i i hi;simp only[AP3,AQ8]at h1;obtain⟨⟨h3,h4⟩,h5⟩:=h1;split at h5
   ·rename_i z hz;rw[AP3]at h5;refine⟨i,z,hi,h3,h4,hz,xe h5.1,?_⟩
    grind
   ·grind
  ·grind
 ·grind
 ·grind
 ·grind
 ·grind
 grind
section
variable {w:World} {g:G} {n:Nat} {v:Value}
theorem B3{a:AV}(ht:a.Dq=false)(hu:a.OL=false)(h:B5 w g n a v):∃cs,CF w g n false a cs/\Cq a.isAgg cs v:=by
 rw[B5.iff ht]at h
 grind
theorem Bs{a:AV}(ht:a.Dq=false){cs:ATB Value}(h:CF w g n false a cs)(hv:Cq a.isAgg cs v):B5 w g n a v:=(B5.iff ht).2 (.inr ⟨cs,h,hv⟩)
theorem DL{ks:ATB Nat}{k:IntKind}{x:Int}(h:B5 w g n (.AA ks (.int k) x) v):v=.int k x:=by
 obtain⟨cs,h,hv⟩:=B3 rfl rfl h;have e :=h.2;subst e;simpa [Ty.isAgg]using hv.symm
theorem Tn{ks:ATB Nat}{x:Bool}(h:B5 w g n (.AA ks .bool x) v):v=.bool x:=by
 obtain⟨cs,h,hv⟩:=B3 rfl rfl h;have e :=h.2;subst e;simpa [Ty.isAgg]using hv.symm
theorem XC{ks:ATB Nat}{x:ByteArray}(h:B5 w g n (.AA ks .str x) v):v=.string x:=by
 obtain⟨cs,h,hv⟩:=B3 rfl rfl h;have e :=h.2;subst e;simpa [Ty.isAgg]using hv.symm
theorem aW{ks:ATB Nat}{t:Ty}{xs:ATB t.V}(h:B5 w g n (.AA ks (.sl t) xs) v):(∀k∈ks,k<n)/\∃ad cap ds,v=.slice ad xs.length cap/\xs.length<=cap/\CH (H7 w (Al g.own ks) t) xs ds /\
    (xs=[]\/∃b off,ad=some ⟨b,off,none⟩/\Al g.own ks b/\∀j u,ds[j]?=some u->w.cell? ⟨b,off+j,none⟩=some u):=by
 obtain⟨cs,⟨hk,ad,cap,ds,e,h1,h2,h3⟩,hv⟩:=B3 rfl rfl h;subst e;exact⟨hk,ad,cap,ds,by simpa [Ty.isAgg]using hv.symm,h1,h2,h3⟩
theorem YM(h:B5 w g n .zs v):∃ad,v=.slice ad 0 0:=by
 obtain⟨cs,⟨ad,e⟩,hv⟩:=B3 rfl rfl h;subst e;exact⟨ad,by simpa [AV.isAgg]using hv.symm⟩
theorem EZ{k:Nat}(h:B5 w g n (.AH k) v):k<n/\v=.slice (g.AY k).a (g.AY k).len (g.AY k).cap:=by
 obtain⟨cs,⟨hk,e⟩,hv⟩:=B3 rfl rfl h;subst e;exact⟨hk,by simpa [AV.isAgg]using hv.symm⟩
theorem LU{k:Nat}{i:Int}{p:ATB Nat}{o:Nat}(h:B5 w g n (.ptr k i p o) v):k<n/\0<=i/\i.toNat<(g.AY k).len/\∃b,(g.AY k).a=some ⟨b,0,none⟩/\v=.pointer (some ⟨b,i.toNat*(g.AY k).ov+o,none⟩):=by
 obtain⟨cs,⟨hk,h0,h1,b,hb,e⟩,hv⟩:=B3 rfl rfl h;subst e;exact⟨hk,h0,h1,b,hb,by simpa [AV.isAgg]using hv.symm⟩
theorem Zy{ks:ATB Nat}{t:Ty}{x:t.V}(h:B5 w g n (.Fw ks t x) v):(∀k∈ks,k<n)/\∃b off ds,v=.pointer (some ⟨b,off,none⟩)/\Al g.own ks b/\H7 w (Al g.own ks) t x ds/\∀j u,ds[j]?=some u->w.cell? ⟨b,off+j,none⟩=some u:=by
 obtain⟨cs,⟨hk,b,off,ds,e,h1,h2,h3⟩,hv⟩:=B3 rfl rfl h;subst e;exact⟨hk,b,off,ds,by simpa [AV.isAgg]using hv.symm,h1,h2,h3⟩
theorem Ah4(k:IntKind)(x:Int):B5 w g n (.int k x) (.int k x):=Bs rfl  ⟨λ_ h=>by grind,rfl⟩ (by simp[Cq,AV.isAgg,Ty.isAgg])
theorem dy(x:Bool):B5 w g n (.bool x) (.bool x):=Bs rfl  ⟨λ_ h=>by grind,rfl⟩ (by simp[Cq,AV.isAgg,Ty.isAgg])
theorem Ah5(x:ByteArray):B5 w g n (.str x) (.string x):=Bs rfl  ⟨λ_ h=>by grind,rfl⟩ (by simp[Cq,AV.isAgg,Ty.isAgg])
theorem o6(ad:ATC Addr):B5 w g n .zs (.slice ad 0 0):=Bs rfl  ⟨ad,rfl⟩ (by simp[Cq,AV.isAgg])
theorem RQ{k:Nat}:B5 w g n (.un k) v:=(B5.iff rfl).2 (.inl rfl)
theorem fD{ks:ATB Nat}{t:Ty}{x:t.V}{b off:Nat}{ds:ATB Value}(hk:∀k∈ks,k<n)(h1:Al g.own ks b)(h2:H7 w (Al g.own ks) t x ds)(h3:∀j u,ds[j]?=some u->w.cell? ⟨b,off+j,none⟩=some u) :
    B5 w g n (.Fw ks t x) (.pointer (some ⟨b,off,none⟩)):=Bs rfl  ⟨hk,b,off,ds,rfl,h1,h2,h3⟩ (by simp[Cq,AV.isAgg])
theorem fC{k:Nat}{i:Int}{p:ATB Nat}{o b:Nat}(hk:k<n)(h0:0<=i)(h1:i.toNat<(g.AY k).len)(hb:(g.AY k).a=some ⟨b,0,none⟩) :
    B5 w g n (.ptr k i p o) (.pointer (some ⟨b,i.toNat*(g.AY k).ov+o,none⟩)):=Bs rfl  ⟨hk,h0,h1,b,hb,rfl⟩ (by simp[Cq,AV.isAgg])
end
section
variable {P:Program} {w:World} {g:G} {n:Nat} {R:Type}
def VZ(P:Program)(w:World)(g:G)(n:Nat)(s:Sem Value)(z:AV):Prop:=∃c,s.run P w=.ok c w/\B5 w g n z c
theorem B7{s:Sem Value}{k:IntKind}{x:Int}(h:s.run P w=.ok (.int k x) w):VZ P w g n s (.int k x):=⟨_,h,Ah4 k x⟩
theorem Dt{s:Sem Value}{x:Bool}(h:s.run P w=.ok (.bool x) w):VZ P w g n s (.bool x):=⟨_,h,dy x⟩
theorem ZM{s:Sem Value}{x:ByteArray}(h:s.run P w=.ok (.string x) w):VZ P w g n s (.str x):=⟨_,h,Ah5 x⟩
theorem Akt{op:BinOp}{x y:AV}{u v:Value}{K:AV->ATC R}{r:R}{tb:Bool}(t:TypeId)(ox oy:Operand)(htb:tb=true->P.underlying t=some .bool)(h:qx op tb x y K=some r)(hx:B5 w g n x u)(hy:B5 w g n y v) :
    ∃z,K z=some r/\VZ P w g n (do eqGuard op t ox oy u v;binOp op t u v) z:=by
 unfold qx at h;split at h
 ·rename_i ks k a UD k' b;obtain rfl:=DL hx;obtain rfl:=DL hy;split at h
  ·split at h
   ·cases h
   ·rename_i hb;exact⟨_,h,B7 (by simp[eqGuard,binOp,Op.shift,hb,Ph])⟩
  ·split at h
   ·cases h
   ·rename_i hb;exact⟨_,h,B7 (by simp[eqGuard,binOp,Op.shift,hb,SG])⟩
  ·split at h
   ·rename_i hk;subst hk;cases op<;>simp only[reduceCtorEq]at h
    case add=>exact⟨_,h,B7 (by simp[eqGuard,binOp,Op.intArith])⟩
    case sub=>exact⟨_,h,B7 (by simp[eqGuard,binOp,Op.intArith])⟩
    case mul=>exact⟨_,h,B7 (by simp[eqGuard,binOp,Op.intArith])⟩
    case quo =>
     split at h
     ·cases h
     ·rename_i hb;exact⟨_,h,B7 (by simp[eqGuard,binOp,Op.intDiv,hb])⟩
    case rem =>
     split at h
     ·cases h
     ·rename_i hb;exact⟨_,h,B7 (by simp[eqGuard,binOp,Op.intDiv,hb])⟩
    case and=>exact⟨_,h,B7 (by simp[eqGuard,binOp,Op.intBits,ib])⟩
    case or=>exact⟨_,h,B7 (by simp[eqGuard,binOp,Op.intBits,iz])⟩
    case xor=>exact⟨_,h,B7 (by simp[eqGuard,binOp,Op.intBits,AwA])⟩
    case andNot=>exact⟨_,h,B7 (by simp[eqGuard,binOp,Op.intBits,Aan])⟩
    case eql=>exact⟨_,h,Dt (by simp[eqGuard,binOp,Op.intCmp])⟩
    case neq=>exact⟨_,h,Dt (by simp[eqGuard,binOp,Op.intCmp])⟩
    case lss=>exact⟨_,h,Dt (by simp[eqGuard,binOp,Op.intCmp])⟩
    case leq=>exact⟨_,h,Dt (by simp[eqGuard,binOp,Op.intCmp])⟩
    case gtr=>exact⟨_,h,Dt (by simp[eqGuard,binOp,Op.intCmp])⟩
    case geq=>exact⟨_,h,Dt (by simp[eqGuard,binOp,Op.intCmp])⟩
   ·cases h
 ·rename_i ks a UD b;obtain rfl:=XC hx;obtain rfl:=XC hy;cases op<;>simp only[reduceCtorEq]at h
  case add =>
   split at h
   ·rename_i hb;refine⟨_,h,ZM ?_⟩;have:¬(((a.size+b.size:Nat):Int)>IntKind.i64.max):=by simp[IntKind.max,IntKind.signed,IntKind.bits];omega
    simp[eqGuard,binOp,Op.stringOp];omega
   ·cases h
  case eql=>exact⟨_,h,Dt (by simp[eqGuard,binOp,Op.stringOp,Jd])⟩
  case neq=>exact⟨_,h,Dt (by simp[eqGuard,binOp,Op.stringOp,Jd])⟩
  case lss=>exact⟨_,h,Dt (by simp[eqGuard,binOp,Op.stringOp,strLt])⟩
  case leq=>exact⟨_,h,Dt (by simp[eqGuard,binOp,Op.stringOp,strLt,Jd])⟩
  case gtr=>exact⟨_,h,Dt (by simp[eqGuard,binOp,Op.stringOp,strLt,Jd])⟩
  case geq=>exact⟨_,h,Dt (by simp[eqGuard,binOp,Op.stringOp,strLt])⟩
 ·rename_i ks a UD b;obtain rfl:=Tn hx;obtain rfl:=Tn hy;split at h
  ·rename_i hb;have hu:=htb hb;have he:(Op.equal t (.bool a) (.bool b)).run P w=.ok (a==b) w:=run_equal_bool w t a b hu;cases op<;>simp only[reduceCtorEq]at h
   case eql=>exact⟨_,h,Dt (by simp[eqGuard,binOp,he])⟩
   case neq=>exact⟨_,h,Dt (by simp[eqGuard,binOp,he])⟩
  ·cases h
 ·cases h
theorem Awv{op:UnOp}{x:AV}{u:Value}{K:AV->ATC R}{r:R}(h:unA op x K=some r)(hx:B5 w g n x u) :
    ∃z,K z=some r/\VZ P w g n (Op.unary op u) z:=by
 unfold unA at h;split at h
 ·obtain rfl:=Tn hx;split at h
  ·exact⟨_,h,Dt (by simp[Op.unary])⟩
  ·grind
 ·obtain rfl:=DL hx;split at h
  ·exact⟨_,h,B7 (by simp[Op.unary,Op.intArith])⟩
  ·exact⟨_,h,B7 (by rfl)⟩
  ·grind
 ·grind
variable {bs:ATB Blk}
theorem BH{t:Nat}{ti:TI}(h:Fh P t ti)(hs:ti.Ew=true):P.underlying t=some (.slice ti.elem):=by
 obtain⟨d,hd,hk⟩:=h.gT;unfold TI.Ew at hs;split at hs
 ·rename_i u hu;rw[hd];cases d<;>simp[kindOk,hu,Ty.isAgg]at hk;rw[hk]
 ·grind
theorem S0{t:Nat}{ti:TI}(h:Fh P t ti)(hs:ti.ty=.str):P.underlying t=some .string:=by
 obtain⟨d,hd,hk⟩:=h.gT;rw[hd];cases d<;>simp[kindOk,hs,Ty.isAgg]at hk;rfl
theorem yA{t:Nat}{ti:TI}(h:Fh P t ti)(hs:ti.ty=.bool):P.underlying t=some .bool:=by
 obtain⟨d,hd,hk⟩:=h.gT;rw[hd];cases d<;>simp[kindOk,hs,Ty.isAgg]at hk;rfl
theorem D2{t:Nat}{ti:TI}(h:Fh P t ti):(sizeOf t).run P w=.ok ti.ty.size w:=by
 obtain⟨i,z,hi,hs,_⟩:=h.info;simp[sizeOf,typeInfo,hi,hs]
theorem cu{t:Nat}{ti:TI}(h:Fh P t ti):(isAgg t).run P w=.ok ti.ty.isAgg w:=by
 obtain⟨d,hd,hk⟩:=h.gT;cases d<;>simp[isAgg,underlying,hd,kindOk]at hk⊢
 case int=>rw[hk];rfl
 case bool=>rw[hk];rfl
 case string=>rw[hk];rfl
 case slice =>
  obtain⟨_,hk⟩:=hk;split at hk
  ·rename_i u hu;rw[hu];rfl
  ·grind
 case array=>grind
 case struct=>grind
 case pointer =>
  split at hk
  ·rename_i u hu;rw[hu];rfl
  ·grind
 case map =>
  split at hk
  ·rename_i u hu;rw[hu];rfl
  ·grind
 case func =>
  split at hk
  ·rename_i u hu;rw[hu];rfl
  ·grind
theorem Amt(H:Bi w g bs){t:Nat}{ti:TI}(ht:Fh P t ti){x:AV}{u:Value}{K:AV->ATC R}{r:R}(h:rS bs ti x K=some r)(hx:B5 w g bs.length x u)(ty:TypeId)(ts:Array TypeId)(aB:ts[0]?=some t) :
    ∃z,K z=some r/\VZ P w g n (Builtin.len_ ts ty #[u]) z:=by
 unfold rS at h;split at h
 ·split at h
  ·rename_i hs;obtain⟨_,ad,cap,ds,rfl,_⟩:=aW hx;exact⟨_,h,B7 (by simp[Builtin.len_,aB,underlying,BH ht hs,goInt])⟩
  ·cases h
 ·split at h
  ·rename_i hs;obtain rfl:=XC hx;exact⟨_,h,B7 (by simp[Builtin.len_,aB,underlying,S0 ht hs,goInt])⟩
  ·cases h
 ·split at h
  ·rename_i hs;obtain⟨ad,rfl⟩:=YM hx;exact⟨_,h,B7 (by simp[Builtin.len_,aB,underlying,BH ht hs,goInt])⟩
  ·cases h
 ·rename_i k;split at h
  ·rename_i e m t' xs hb;split at h
   ·rename_i hs;obtain⟨hk,rfl⟩:=EZ hx;have hl:=(H.MG k _ hb).2.1;exact⟨_,h,B7 (by simp[Builtin.len_,aB,underlying,BH ht hs,goInt,hl])⟩
   ·cases h
  ·rename_i e t' xs i p hb;split at h
   ·rename_i hs;obtain⟨hk,rfl⟩:=EZ hx;have hl:=(H.MG k _ hb).1;exact⟨_,h,B7 (by simp[Builtin.len_,aB,underlying,BH ht hs,goInt,hl])⟩
   ·cases h
  ·cases h
 ·cases h
theorem Awc{mx:Bool}{x y:AV}{u v:Value}{K:AV->ATC R}{r:R}(h:mmA mx x y K=some r)(hx:B5 w g n x u)(hy:B5 w g n y v)(ty:TypeId)(ts:Array TypeId) :
    ∃z,K z=some r/\VZ P w g n (if mx then Builtin.max_ ts ty #[u,v]else Builtin.min_ ts ty #[u,v]) z:=by
 unfold mmA at h;split at h
 ·obtain rfl:=DL hx;obtain rfl:=DL hy;split at h
  ·rename_i hk;refine⟨_,h,B7 ?_⟩;cases mx
   ·simp[Builtin.min_,Builtin.min2]
   ·simp[Builtin.max_,Builtin.max2]
  ·grind
 ·grind
theorem Xu{i:Int}{n:Nat}(h:0<=i/\i<(n:Int)):i.toNat<n:=by omega
theorem Z9(b o i:Nat):(⟨b,o,none⟩:Addr).add i=⟨b,o+i,none⟩:=by unfold Addr.add;split<;>simp_all
theorem TK{t:Nat}{ti:TI}(h:Fh P t ti){b off:Nat}{cs:ATB Value}(hl:cs.length=ti.ty.size)(hc:∀j u,cs[j]?=some u->w.cell? ⟨b,off+j,none⟩=some u)(hs:ti.ty.isAgg=false->cs.length=1) :
    ∃v,(loadVar t ⟨b,off,none⟩).run P w=.ok v w/\Cq ti.ty.isAgg cs v:=by
 unfold loadVar;cases ha:ti.ty.isAgg with
 |true =>
  have hr:=run_loadCells_list (P:=P) w _ cs (λj u hu=>by rw[Z9];exact hc j u hu);rw[hl]at hr;exact⟨.agg cs.toArray,by simp[cu h,ha,D2 h,hr],by simp[Cq]⟩
 |false =>
  have h1:=hs ha;obtain⟨c,rfl⟩:∃c,cs=[c]:=by
   cases cs with
   |nil=>grind
   |cons c r=>grind
  have Gb:=hc 0 c rfl;rw[AR2]at Gb;exact⟨c,by simp[cu h,ha,Gb],by simp[Cq]⟩
theorem TS{t:Ty}(h:t.isAgg=false):t.size=1:=by cases t<;>simp_all [Ty.isAgg,Ty.size]
theorem AL{t:Ty}(xs:ATB t.V)(i:Nat)(z:t.V)(h:i<xs.length):xs.getD i z=xs[i]:=by grind
theorem Afg(H:Bi w g bs){k:Nat}{i:Int}{a:AV}(h:atB bs k i=some a)(hi:i.toNat<(g.AY k).len){b:Nat}(hb:(g.AY k).a=some ⟨b,0,none⟩) :
    ∃cs,CF w g bs.length false a cs/\∀j u,cs[j]?=some u->w.cell? ⟨b,i.toNat*(g.AY k).ov+j,none⟩=some u:=by
 unfold atB at h;split at h
 ·rename_i a' hx;injection h with h;subst h;obtain⟨h1,b',cs,e,ha,ho,hh,hr⟩:=H.MG k _ hx;rw[hb]at ha;injection ha with ha;injection ha with ha;subst ha;refine⟨cs.toList,hr,λj u hu=>?_⟩;have:i.toNat=0:=by omega
  rw[this,Nat.zero_mul,AQs,QS hh,<-AQa];exact hu
 ·rename_i e m t xs hx;injection h with h;subst h;obtain⟨RV,hlen,QN,BU,hr⟩:=H.MG k _ hx;have Bp:=A5 hx;rw[hlen]at hi;rcases hr with ⟨ZP,_⟩|⟨b',Bq,ds,ha,ho,⟨el,VR,hh⟩,h1,h2,h3,h4,hc⟩
  ·grind
  ·rw[hb]at ha;injection ha with ha;injection ha with ha;subst ha;rw[AL _ _ _ hi,QN];have Dp:∀j u,ds[j]?=some u->w.cell? ⟨b,j,none⟩=some u:=by
    intro j u hu;rw[QS hh,<-AQa]
    grind
   cases m with
   |Av =>
    obtain⟨c0,c,d,e1,hl,hr,_,_⟩:=Be.AY (λi x c h=>Ik.len h) hc hi;refine⟨c,⟨ZR (λj hj=>by grind),ZT (hr.rd λb q hq=>.mem (List.mem_singleton.2 rfl) hq)⟩,λj u hu=>?_⟩;refine Dp _ u ?_;rw[e1,<-hl,AP4,AQi (by omega),show c0.length+j-c0.length=j by omega,AQj (A5 hu)];exact hu
   |sh ks =>
    obtain⟨c0,c,d,e1,hl,hr,_,_⟩:=CH.AY (λx c h=>H7.len h) hc hi;refine⟨c,⟨ZR RV,ZT hr⟩,λj u hu=>?_⟩;refine Dp _ u ?_;rw[e1,<-hl,AP4,AQi (by omega),show c0.length+j-c0.length=j by omega,AQj (A5 hu)];exact hu
 ·grind
theorem WV(H:Bi w g bs){k:Nat}{i:Int}{p:ATB Nat}{o:Nat}{a:AV}(h:atP bs k i p o=some a)(hi:i.toNat<(g.AY k).len){b:Nat}(hb:(g.AY k).a=some ⟨b,0,none⟩) :
    ∃cs,CF w g bs.length false a cs/\∀j u,cs[j]?=some u->w.cell? ⟨b,i.toNat*(g.AY k).ov+o+j,none⟩=some u:=by
 unfold atP at h;split at h
 ·rename_i c hc;split at h
  ·rename_i ho;obtain⟨cs,hx,Dp⟩:=Afg H hc hi hb;obtain⟨c0,c1,c2,e,ho2,kM,_⟩:=SE p c cs a hx h
   grind
  ·grind
 ·grind
theorem WC{a:AV}{cs:ATB Value}(h:CF w g n false a cs):a.Dq=false:=by cases a<;>first |rfl |exact h.elim
theorem AhV(H:Bi w g bs){t:Nat}{ti:TI}(ht:Fh P t ti){x:AV}{u:Value}{K:AV->ATC R}{r:R}(h:aF bs ti x K=some r)(hx:B5 w g bs.length x u) :
    ∃z,K z=some r/\VZ P w g bs.length (Instr.loadAt t u) z:=by
 unfold aF at h;split at h
 ·split at h
  ·rename_i he;subst he;obtain⟨hk,b,off,ds,rfl,ha,hr,hc⟩:=Zy hx;obtain⟨v,hv,hs⟩:=TK  ht hr.len hc (λhg=>by rw[hr.len];exact TS hg);exact⟨_,h,v,by simp[Instr.loadAt,Instr.sureAddr,hv],Bs rfl  ⟨ZR hk,ZT hr⟩ hs⟩
  ·grind
 ·split at h
  ·rename_i a ha;split at h
   ·rename_i hs;obtain⟨hk,h0,h1,b,hb,rfl⟩:=LU hx;obtain⟨cs,mQ,Dp⟩:=WV H ha h1 hb;obtain⟨v,hv,tu⟩:=TK  ht (by rw[mQ.len,hs.1]) Dp (λhg=>by rw[mQ.len,hs.1];exact TS hg);rw[<-hs.2]at tu;exact⟨_,h,v,by simp[Instr.loadAt,Instr.sureAddr,hv],Bs (WC mQ) mQ tu⟩
   ·grind
  ·grind
 ·grind
theorem Ami(H:Bi w g bs){t:Nat}{ti te:TI}(ht:Fh P t ti)(Ev:Fh P ti.elem te)(hs:ti.Ew=true){x y:AV}{u v:Value}{K:AV->ATC R}{r:R}(h:za bs te.ty x y K=some r)(hx:B5 w g bs.length x u)(hy:B5 w g bs.length y v) :
    ∃z,K z=some r/\VZ P w g bs.length (Instr.indexAt t u v) z:=by
 have hu:=BH ht hs;unfold za at h;split at h
 ·rename_i ks t' xs UD k i;split at h
  ·rename_i he;subst he;split at h
   ·rename_i hi;obtain rfl:=DL hy;obtain⟨hk,ad,cap,ds,rfl,hl,hr,hm⟩:=aW hx;have Bp:i.toNat<xs.length:=Xu hi;rcases hm with hm |⟨b,off,rfl,ha,hc⟩
    ·subst hm;simp at Bp
    ·obtain⟨c0,c,d,e1,kG,gp,_,_⟩:=CH.AY (λx c h=>H7.len h) hr Bp;refine⟨_,h,.pointer (some ⟨b,off+i.toNat*te.ty.size,none⟩),?_,?_⟩
     ·simp[Instr.indexAt,asIntOf,underlying,hu,hi.1,hi.2,D2 Ev,Z9]
     ·rw[AL _ _ _ Bp];refine fD hk ha gp λj q hq=>?_;rw[<-kG,AQ1];refine hc _ q ?_;rw[e1,AP4,AQi (by omega),show c0.length+j-c0.length=j by omega,AQj (A5 hq)];exact hq
   ·cases h
  ·cases h
 ·rename_i k UD kk i;split at h
  ·rename_i e m t' xs hb;split at h
   ·rename_i he;subst he;split at h
    ·rename_i hi;obtain rfl:=DL hy;obtain⟨hk,rfl⟩:=EZ hx;obtain⟨RV,hlen,QN,BU,hr⟩:=H.MG k _ hb;have Bp:i.toNat<xs.length:=Xu hi;rcases hr with ⟨ZP,_⟩|⟨b,Bq,ds,ha,ho,⟨el,VR,hh⟩,h1,h2,h3,h4,hc⟩
     ·subst ZP;simp at Bp
     ·refine⟨_,h,.pointer (some ⟨b,i.toNat*(g.AY k).ov+0,none⟩),?_,fC hk hi.1 (by rw[hlen];exact Bp) ha⟩;simp[Instr.indexAt,asIntOf,underlying,hu,hi.1,hi.2,D2 Ev,ha,hlen,QN,Z9]
    ·cases h
   ·cases h
  ·rename_i e t' xs i' p' hb;split at h
   ·rename_i he;subst he;split at h
    ·rename_i hi;obtain rfl:=DL hy;obtain⟨hk,rfl⟩:=EZ hx;obtain⟨hlen,QN,BU,_,_,_,_,_,b,_,_,_,_,_,ha,_⟩:=H.MG k _ hb;have Bp:i.toNat<xs.length:=Xu hi;refine⟨_,h,.pointer (some ⟨b,i.toNat*(g.AY k).ov+0,none⟩),?_,fC hk hi.1 (by rw[hlen];exact Bp) ha⟩;simp[Instr.indexAt,asIntOf,underlying,hu,hi.1,hi.2,D2 Ev,ha,hlen,QN,Z9]
    ·cases h
   ·cases h
  ·cases h
 ·cases h
theorem AlG{t:Nat}{ti:TI}(ht:Fh P t ti)(hs:ti.ty=.str){x y:AV}{u v:Value}{K:AV->ATC R}{r:R}(h:qF x y K=some r)(hx:B5 w g n x u)(hy:B5 w g n y v) :
    ∃z,K z=some r/\VZ P w g n (Instr.index t u v) z:=by
 unfold qF at h;split at h
 ·rename_i ks s UD k i;split at h
  ·rename_i hi;obtain rfl:=DL hy;obtain rfl:=XC hx;refine⟨_,h,B7 ?_⟩;have Bp :=Xu hi;simp[Instr.index,asIntOf,underlying,S0 ht hs,hi.1,C2,Bp]
  ·grind
 ·grind
end
section
variable {P:Program} {w:World} {g:G} {n:Nat} {R:Type} {bs:ATB Blk}
theorem q0{ty:Ty}:∀{fs:ATB Field} {os:ATB Nat} {i j o:Nat},P8 P ty i fs os=true->os[j]?=some o ->
    ∃fd u inf,fs[j]?=some fd/\fd.offset=o/\Vt ty (i+j)=some o/\nL ty (i+j)=some u/\P.info? fd.type=some inf/\inf.size=u.size/\u.size≠0
 |[],[],_,_,_,_,h=>by grind
 |f::fs,o'::os,i,0,o,h,ho=>by
  simp only[List.getElem?_cons_zero,APY]at ho;subst ho;simp only[P8,AP3,AQ8]at h;obtain⟨⟨⟨h1,h2⟩,h3⟩,_⟩:=h;split at h3
  ·rename_i u hu;cases hi:P.info? f.type with
   |none=>grind
   |some inf=>grind
  ·grind
 |f::fs,o'::os,i,j+1,o,h,ho=>by
  simp only[P8,AP3]at h;obtain⟨fd,u,inf,h1,h2,h3,h4,h5⟩:=q0 (i:=i+1) h.2 (by simpa using ho)
  grind
 |[],_::_,_,_,_,h,_=>by simp[P8]at h
 |_::_,[],_,_,_,h,_=>by grind
theorem XV{t:Nat}{ti:TI}(h:Fh P t ti){f o:Nat}(ho:ti.Xk[f]?=some o) :
    ∃fs,P.underlying t=some (.struct fs)/\P8 P ti.ty 0 fs.toList ti.Xk=true:=by
 rcases h.Xk with ⟨fs,hfs⟩|he
 ·obtain⟨d,hd,hk⟩:=h.gT;rw[hfs]at hd;injection hd with hd;subst hd;simp only[kindOk,AP3]at hk;exact⟨fs,hfs,hk.2⟩
 ·grind
theorem V3{t:Nat}{ti:TI}(h:Fh P t ti){f fo:Nat}(ho:ti.Xk[f]?=some fo)(b o:Nat) :
    (Instr.fieldAt t (.pointer (some ⟨b,o,none⟩)) f).run P w=.ok (.pointer (some ⟨b,o+fo,none⟩)) w/\Vt ti.ty f=some fo/\∃u,nL ti.ty f=some u:=by
 obtain⟨fs,hu,hf⟩:=XV h ho;obtain⟨fd,u,inf,h1,h2,h3,h4,h5,h6,h7⟩:=q0 hf ho;rw[AQs]at h3 h4;refine⟨?_,h3,u,h4⟩;have hfd:fs[f]?=some fd:=by grind
 have MQ:(sizeOf fd.type).run P w=.ok u.size w:=by simp[sizeOf,typeInfo,h5,h6]
 simp[Instr.fieldAt,underlying,hu,hfd,Instr.sureAddr,fieldPlace,MQ,h7,Z9,h2]
theorem AlS{t:Nat}{ti:TI}(ht:Fh P t ti){f:Nat}{x:AV}{u:Value}{K:AV->ATC R}{r:R}(h:mJ ti f x K=some r)(hx:B5 w g n x u) :
    ∃z,K z=some r/\VZ P w g n (Instr.fieldAt t u f) z:=by
 unfold mJ at h;split at h
 ·split at h
  ·rename_i fo hfo;obtain⟨hk,h0,h1,b,hb,rfl⟩:=LU hx;refine⟨_,h,_,(V3 ht hfo b _).1,?_⟩;rw[AQ1];exact fC hk h0 h1 hb
  ·grind
 ·rename_i ks t' y;split at h
  ·rename_i he;obtain⟨rfl,he⟩:=he;split at h
   ·rename_i UD v z hz;obtain⟨hk,b,off,ds,rfl,ha,hr,hc⟩:=Zy hx;obtain⟨c0,c1,c2,e,ho,_,⟨u',y',heq,gp⟩,_⟩:=ZL (g:=g) hk f _ y ds _ hr hz;injection heq with _ h2 h3;subst h2;obtain rfl:=eq_of_heq h3;rw[ho]at he;refine⟨_,h,_,(V3 ht he.symm b off).1,fD hk ha gp λj q hq=>?_⟩;rw[AQ1];refine hc _ q ?_
    grind
   ·grind
  ·grind
 ·grind
theorem AaQ:∀{x:AV} {i:Nat} {z:AV} {vs:ATB Value},Qv x i=some z->CF w g n true x vs->∃v,vs[i]?=some v/\(z.Dq=false->B5 w g n z v)
 |.cons a b,0,z,vs,h,hx=>by
  simp only[Qv,APY]at h;subst h;obtain⟨v,r,e,h1,_⟩:=hx;subst e;exact⟨v,rfl,λht=>(B5.iff ht).2 h1⟩
 |.cons a b,i+1,z,vs,h,hx=>by
  simp only[Qv]at h;obtain⟨v,r,e,_,h2⟩:=hx;subst e;obtain⟨u,hu,hz⟩:=AaQ h h2
  grind
 |.nil,_,_,_,h,_=>by simp[Qv]at h
 |.AA _ _ _,_,_,_,h,_=>by simp[Qv]at h
 |.zs,_,_,_,h,_=>by simp[Qv]at h
 |.AH _,_,_,_,h,_=>by simp[Qv]at h
 |.mp _,_,_,_,h,_=>by simp[Qv]at h
 |.ptr _ _ _ _,_,_,_,h,_=>by simp[Qv]at h
 |.Fw _ _ _,_,_,_,h,_=>by simp[Qv]at h
 |.M8,_,_,_,h,_=>by simp[Qv]at h
 |.pr _ _,_,_,_,h,_=>by simp[Qv]at h
 |.fn _ _,_,_,_,h,_=>by simp[Qv]at h
 |.UI _ _ _ _ _,_,_,_,h,_=>by simp[Qv]at h
 |.WE _ _ _ _ _ _,_,_,_,h,_=>by simp[Qv]at h
 |.un _,_,_,_,h,_=>by simp[Qv]at h
def AeN(w:World)(g:G)(n:Nat):ATC AV->ATC Value->Prop
 |none,none=>True
 |some a,some v=>B5 w g n a v
 |_,_=>False
theorem YO{x:ATC AV}{v:ATC Value}{d i:Int}(h:bnd x d=some i)(hx:AeN w g n x v):(v=none/\i=d)\/∃k,v=some (.int k i):=by
 unfold bnd at h;split at h
 ·cases v with
  |none=>grind
  |some _=>exact hx.elim
 ·cases v with
  |none=>exact hx.elim
  |some u=>simp at h;subst h;exact .inr ⟨_,congrArg some (DL hx)⟩
 ·grind
theorem Sm{isS:Bool}{len cap:Nat}{lo hi:ATC Value}{l h:Int}(hl:(lo=none/\l=0)\/∃k,lo=some (.int k l))(hh:(hi=none/\h=(len:Int))\/∃k,hi=some (.int k h))
    (h0:0<=l) (h1:l<=h) (h2:h<=(len:Int)) (hc:len<=cap):(Instr.sliceBounds isS len cap lo hi none).run P w=.ok (l.toNat,h.toNat,cap) w:=by
 have e1:(h.toNat)=h:=by omega
 have e2:h<=cap:=by omega
 have e3:0<=h:=by omega
 rcases hl with ⟨rfl,rfl⟩|⟨k,rfl⟩<;>rcases hh with ⟨rfl,rfl⟩|⟨k',rfl⟩
 ·simp[Instr.sliceBounds]
 ·simp[Instr.sliceBounds,Instr.sliceBound,asIntOf,e2,e3]
 ·simp[Instr.sliceBounds,Instr.sliceBound,asIntOf,h0,h1]
 ·simp[Instr.sliceBounds,Instr.sliceBound,asIntOf,e2,e3,h0,h1,e1]
theorem Lz{t:Nat}{ti:TI}(h:Fh P t ti)(hs:ti.Ew=true)(a:ATC Addr)(len cap:Nat)(lo hi mx:ATC Value)(w:World) :
    (Instr.sliceAt t (.slice a len cap) lo hi mx).run P w=(Instr.slice t (.slice a len cap) lo hi mx).run P w:=by
 simp[Instr.sliceAt,underlying,BH h hs]
theorem wC{t:Nat}{ti:TI}(h:Fh P t ti)(hs:ti.ty=.str)(s:ByteArray)(lo hi mx:ATC Value)(w:World) :
    (Instr.sliceAt t (.string s) lo hi mx).run P w=(Instr.slice t (.string s) lo hi mx).run P w:=by
 simp[Instr.sliceAt,underlying,S0 h hs]
theorem Abs{A:Nat->Prop}{t:Ty}{xs:ATB t.V}{ad:ATC Addr}{cap:Nat}{ds:ATB Value}{l h:Nat}(h1:l<=h)(h2:h<=xs.length)(hc:xs.length<=cap)
    (hr:CH (H7 w A t) xs ds) (hm:xs=[]\/∃b off,ad=some ⟨b,off,none⟩/\A b/\∀j u,ds[j]?=some u->w.cell? ⟨b,off+j,none⟩=some u) :
    H7 w A (.sl t) ((xs.take h).drop l) [.slice (if cap=l then ad else ad.map (·.add (l*t.size))) (h-l) (cap-l)]:=by
 have hlen:((xs.take h).drop l).length=h-l:=by grind
 refine⟨_,cap-l,((ds.take (h*t.size)).drop (l*t.size)),by rw[hlen],by omega,?_,?_⟩
 ·exact CH.AgB (λx c r=>H7.len r) l (CH.takeN (λx c r=>H7.len r) h hr)
 ·rcases Nat.eq_or_lt_of_le h1 with e |Bp
  ·grind
  ·rcases hm with hx |⟨b,off,rfl,ha,Dp⟩
   ·grind
   ·refine .inr ⟨b,off+l*t.size,?_,ha,λj u hu=>?_⟩
    ·rw[AQf (by omega)];simp[Z9]
    grind
theorem AdJ(H:Bi w g bs){t:Nat}{ti:TI}(ht:Fh P t ti){te:ATC Ty}(Ev:∀u,te=some u->ti.Ew=true/\∃mr,mr.ty=u/\Fh P ti.elem mr){x:AV}{lo hi mx:ATC AV}{u:Value}{vlo vhi vmx:ATC Value}
    {K:AV->ATC R} {r:R} (h:XS bs ti te x lo hi mx K=some r) (hx:B5 w g bs.length x u) (hlo:AeN w g bs.length lo vlo) (hhi:AeN w g bs.length hi vhi) (vo:AeN w g bs.length mx vmx) :
    ∃z,K z=some r/\VZ P w g bs.length (Instr.sliceAt t u vlo vhi vmx) z:=by
 unfold XS at h;split at h
 ·rename_i ks k m;split at h
  ·rename_i UD k' hh;split at h
   ·rename_i hz;obtain⟨rfl,rfl,hs⟩:=hz;obtain⟨u',hu'⟩:=Option.isSome_iff_exists.1 hs;obtain⟨hs,mr,rfl,vA⟩:=Ev _ hu';obtain rfl:vlo=none:=by cases vlo with |none=>rfl |some _=>exact hlo.elim
    obtain⟨vh,rfl,e1⟩:∃v,vhi=some v/\v=.int k' 0:=by cases vhi with |none=>exact hhi.elim |some v=>exact⟨v,rfl,DL hhi⟩
    obtain⟨vm,rfl,e2⟩:∃v,vmx=some v/\v=.int k 0:=by cases vmx with |none=>exact vo.elim |some v=>exact⟨v,rfl,DL vo⟩
    subst e1;subst e2;have key:∀(a:ATC Addr) (len cap:Nat),(Instr.sliceAt t (.slice a len cap) none (some (.int k' 0)) (some (.int k 0))).run P w=.ok (.slice a 0 0) w:=λa len cap=>by
     rw[Lz ht hs];simp[Instr.slice,underlying,BH ht hs,Instr.sliceBounds,Instr.sliceBound,asIntOf,D2 vA]
    split at h
    ·obtain⟨_,ad,cap,ds,rfl,_⟩:=aW hx;exact⟨_,h,_,key _ _ _,o6 _⟩
    ·obtain⟨ad,rfl⟩:=YM hx;exact⟨_,h,_,key _ _ _,o6 _⟩
    ·split at h
     ·obtain⟨_,rfl⟩:=EZ hx;exact⟨_,h,_,key _ _ _,o6 _⟩
     ·cases h
    ·cases h
   ·cases h
  ·cases h
 ·cases h
 ·split at h
  ·rename_i ks s;split at h
   ·rename_i l hh hl hhh;split at h
    ·rename_i hc;obtain⟨hs,h0,h1,h2⟩:=hc;obtain rfl:=XC hx;obtain rfl:vmx=none:=by cases vmx with |none=>rfl |some _=>exact vo.elim
     refine⟨_,h,ZM ?_⟩;rw[wC ht hs];have hb:=Sm (P:=P) (w:=w) (isS:=false) (cap:=s.size) (YO hl hlo) (YO hhh hhi) h0 h1 h2 (AP2 _);simp[Instr.slice,underlying,S0 ht hs,hb]
    ·cases h
   ·cases h
  ·rename_i ks t' xs;split at h
   ·rename_i l hh hl hhh;split at h
    ·rename_i he;obtain⟨hs,mr,rfl,vA⟩:=Ev _ he;split at h
     ·rename_i hc;obtain⟨h0,h1,h2⟩:=hc;obtain⟨hk,ad,cap,ds,rfl,fj,hr,hm⟩:=aW hx;obtain rfl:vmx=none:=by cases vmx with |none=>rfl |some _=>exact vo.elim
      refine⟨_,h,?_⟩;have hb:=Sm (P:=P) (w:=w) (isS:=true) (cap:=cap) (YO hl hlo) (YO hhh hhi) h0 h1 h2 fj;refine⟨.slice (if cap=l.toNat then ad else ad.map (·.add (l.toNat*mr.ty.size))) (hh.toNat-l.toNat) (cap-l.toNat),?_,?_⟩
      ·rw[Lz ht hs];simp[Instr.slice,underlying,BH ht hs,hb,D2 vA]
      ·exact Bs rfl (cs:=[_]) ⟨hk,Abs (by omega) (by omega) fj hr hm⟩ (by simp[Cq,AV.isAgg,Ty.isAgg])
     ·cases h
    ·cases h
   ·cases h
  ·rename_i k;split at h
   ·rename_i e m t' xs hb;split at h
    ·rename_i l hh hl hhh;split at h
     ·rename_i he;obtain⟨hs,mr,rfl,vA⟩:=Ev _ he;split at h
      ·rename_i hc;obtain⟨h0,h1,h2⟩:=hc;obtain⟨cs,mQ,hv⟩:=B3 rfl rfl hx;have mV:=Rh H (.sl mr.ty) (.AH k) xs cs (by simp[rd,hb,I9]) mQ;obtain⟨⟨ad,cap,ds,e1,fj,hr,hm⟩,Abb⟩:=mV;subst e1;have AvJ:(AV.AH k).Vm bs=k::m.Cs:=by simp[AV.Vm,dM,hb]
       rw[AvJ]at Abb hr hm;obtain rfl:u=.slice ad xs.length cap:=by simpa [Cq,AV.isAgg]using hv.symm
       obtain rfl:vmx=none:=by cases vmx with |none=>rfl |some _=>exact vo.elim
       refine⟨_,h,?_⟩;have hb:=Sm (P:=P) (w:=w) (isS:=true) (cap:=cap) (YO hl hlo) (YO hhh hhi) h0 h1 h2 fj;refine⟨.slice (if cap=l.toNat then ad else ad.map (·.add (l.toNat*mr.ty.size))) (hh.toNat-l.toNat) (cap-l.toNat),?_,?_⟩
       ·rw[Lz ht hs];simp[Instr.slice,underlying,BH ht hs,hb,D2 vA]
       ·exact Bs rfl (cs:=[_]) ⟨Abb,Abs (by omega) (by omega) fj hr hm⟩ (by simp[Cq,AV.isAgg,Ty.isAgg])
      ·cases h
     ·cases h
    ·cases h
   ·cases h
  ·split at h
   ·rename_i l hh hl hhh;split at h
    ·rename_i hc;obtain⟨hs,rfl,rfl⟩:=hc;obtain⟨u',hu'⟩:=Option.isSome_iff_exists.1 hs;obtain⟨hs,mr,rfl,vA⟩:=Ev _ hu';obtain⟨ad,rfl⟩:=YM hx;obtain rfl:vmx=none:=by cases vmx with |none=>rfl |some _=>exact vo.elim
     have hb:=Sm (P:=P) (w:=w) (isS:=true) (len:=0) (cap:=0) (YO hl hlo) (YO hhh hhi) (ARj _) (ARj _) (ARj _) (AP2 _);refine⟨_,h,.slice ad 0 0,?_,o6 _⟩;rw[Lz ht hs];simp[Instr.slice,underlying,BH ht hs,hb,D2 vA]
    ·cases h
   ·cases h
  ·cases h
theorem UU{t:Nat}{ti:TI}{k:IntKind}(h:Fh P t ti)(hs:ti.ty=.int k):P.underlying t=some (.int k):=by
 obtain⟨d,hd,hk⟩:=h.gT;rw[hd];cases d<;>simp[kindOk,hs,Ty.isAgg]at hk;rw[hk]
theorem fZ{A:Nat->Prop}:∀{xs:ATB Int} {ds:ATB Value},CH (H7 w A (.int .u8)) xs ds->ds=xs.map (Value.int .u8)
 |[],_,h=>h
 |x::xs,_,⟨c,d,e,h1,h2⟩=>by
  have uX :=h1;rw[e,uX,fZ h2];rfl
theorem Agw(H:Bi w g bs){s t:Nat}{ts ti:TI}(hs:Fh P s ts)(ht:Fh P t ti){te:ATC Ty}(Ev:∀u,te=some u->ts.Ew=true/\∃mr,mr.ty=u/\Fh P ts.elem mr){x:AV}{u:Value}
    {K:AV->ATC R} {r:R} (h:cH bs te ti.ty x K=some r) (hx:B5 w g bs.length x u) :
    ∃z,K z=some r/\VZ P w g bs.length (convert s t u) z:=by
 obtain⟨ds,hds,_⟩:=hs.gT;unfold cH at h;split at h
 ·rename_i k hk;split at h
  ·obtain rfl:=DL hx;refine⟨_,h,B7 ?_⟩;simp[convert,underlying,hds,UU ht hk,Conv.intToInt]
  ·cases h
 ·rename_i hk;have hut:=S0 ht hk;split at h
  ·obtain rfl:=XC hx;refine⟨_,h,ZM ?_⟩;simp[convert,underlying,hds,hut]
  ·split at h
   ·rename_i he;obtain⟨Im,mr,iR,vA⟩:=Ev _ he;split at h
    ·rename_i xs hxs;have hu:=UU vA iR;have hsu:=BH hs Im;have hnt:x.Dq=false:=by cases x<;>first |rfl |simp[rd]at hxs
     have Ss:x.OL=false:=by cases x<;>first |rfl |simp[rd]at hxs
     have hag:x.isAgg=false:=by
      cases x with
      |AA ks t' y =>
       simp only[rd]at hxs;obtain⟨e,_⟩:=BG hxs;subst e;rfl
      |pr a b=>simp[rd]at hxs
      |_=>rfl
     obtain⟨cs,mQ,hv⟩:=B3 hnt Ss hx;obtain⟨⟨ad,cap,dd,e1,fj,hr,hm⟩,_⟩:=Rh H _ _ _ _ hxs mQ;subst e1;obtain rfl:u=.slice ad xs.length cap:=by
      rw[hag]at hv;have vB:[_]=[u]:=hv;simpa using vB.symm
     refine⟨_,h,ZM ?_⟩;have hdd:=fZ hr;have El:∀b off,ad=some ⟨b,off,none⟩->(∀i,i<xs.length->w.cell? ⟨b,off+i,none⟩=some (.int .u8 (xs.getD i 0)))->(convert s t (.slice ad xs.length cap)).run P w=.ok (.string (bytesOf xs)) w:=by
      intro b off e hc;subst e;exact run_convert_bytes_arg w s ts.elem hsu hu b off xs.length cap xs rfl hc t hut
     rcases hm with ZP |⟨b,off,rfl,_,hc⟩
     ·subst ZP;cases ad with
      |none=>exact run_convert_bytes_nil w s ts.elem hsu hu 0 cap t hut
      |some a0=>simp[convert,underlying,hsu,hut,hu,Conv.bytesToString,loadCells,loadCellsFrom,bytesOf,ByteArray.empty,ByteArray.emptyWithCapacity];rfl
     ·refine El b off rfl λi hi=>hc i _ ?_;rw[hdd];simp[List.getD,hi]
    ·cases h
   ·cases h
 ·cases h
end
section
variable {R:Type}
theorem tZ(op:BinOp)(tb:Bool)(x y:AV)(K:AV->ATC R):qx op tb x y K=(qx op tb x y some).bind K:=by
 unfold qx
 repeat' split
 all_goals rfl
theorem AbJ(op:UnOp)(x:AV)(K:AV->ATC R):unA op x K=(unA op x some).bind K:=by
 unfold unA
 repeat' split
 all_goals rfl
theorem vP(bs:ATB Blk)(ti:TI)(x:AV)(K:AV->ATC R):rS bs ti x K=(rS bs ti x some).bind K:=by
 unfold rS
 repeat' split
 all_goals rfl
theorem iZ(mx:Bool)(x y:AV)(K:AV->ATC R):mmA mx x y K=(mmA mx x y some).bind K:=by
 unfold mmA
 repeat' split
 all_goals rfl
theorem AhG(bs:ATB Blk)(te:Ty)(x y:AV)(K:AV->ATC R):za bs te x y K=(za bs te x y some).bind K:=by
 unfold za
 repeat' split
 all_goals rfl
theorem vE(bs:ATB Blk)(te:Ty)(x y:AV)(K:AV->ATC R):vD bs te x y K=(vD bs te x y some).bind K:=by
 unfold vD;split
 ·grind
 ·exact AhG ..
theorem ux(x y:AV)(K:AV->ATC R):qF x y K=(qF x y some).bind K:=by
 unfold qF
 repeat' split
 all_goals rfl
theorem uR(ti:TI)(f:Nat)(x:AV)(K:AV->ATC R):mJ ti f x K=(mJ ti f x some).bind K:=by
 unfold mJ
 repeat' split
 all_goals rfl
theorem oS(bs:ATB Blk)(ti:TI)(x:AV)(K:AV->ATC R):aF bs ti x K=(aF bs ti x some).bind K:=by
 unfold aF
 repeat' split
 all_goals rfl
theorem lN(bs:ATB Blk)(ti:TI)(te:ATC Ty)(x:AV)(lo hi mx:ATC AV)(K:AV->ATC R):XS bs ti te x lo hi mx K=(XS bs ti te x lo hi mx some).bind K:=by
 unfold XS
 repeat' split
 all_goals rfl
theorem oc(bs:ATB Blk)(te:ATC Ty)(td:Ty)(a:AV)(K:AV->ATC R):cH bs te td a K=(cH bs te td a some).bind K:=by
 unfold cH
 repeat' split
 all_goals rfl
theorem zN(bs:ATB Blk)(ti:TI)(x v:AV)(K:Ij->ATC R):fQ bs ti x v K=(fQ bs ti x v some).bind K:=by
 unfold fQ
 repeat' split
 all_goals rfl
theorem zL(bs:ATB Blk)(ti:TI)(x:AV)(K:Ij->ATC R):bZ bs ti x K=(bZ bs ti x some).bind K:=by
 unfold bZ
 repeat' split
 all_goals rfl
theorem oT(bs:ATB Blk)(tk te:TI)(ok:Bool)(m x:AV)(K:AV->ATC R):gE bs tk te ok m x K=(gE bs tk te ok m x some).bind K:=by
 unfold gE
 grind
theorem Adj(bs:ATB Blk)(tk te:TI)(m x:AV)(K:Ij->ATC R):oU bs tk te m x K=(oU bs tk te m x some).bind K:=by
 unfold oU
 repeat' split
 all_goals rfl
theorem l6(bs:ATB Blk)(tk te:TI)(m x v:AV)(K:Ij->ATC R):dV bs tk te m x v K=(dV bs tk te m x v some).bind K:=by
 unfold dV
 repeat' split
 all_goals grind
theorem AgF(bs:ATB Blk)(tk te:TI)(m x:AV)(K:Ij->ATC R):AcG bs tk te m x K=(AcG bs tk te m x some).bind K:=by
 unfold AcG
 repeat' split
 all_goals rfl
theorem AIm{c:Bool}{A:ATC R}{B:ATC Ij}{K:Ij->ATC R}(h:A=B.bind K):(bif c then A else none)=(bif c then B else none).bind K:=by
 grind
theorem AgG(bs:ATB Blk)(tk te:TI)(m j v:AV)(K:Ij->ATC R):AcH bs tk te m j v K=(AcH bs tk te m j v some).bind K:=by
 unfold AcH
 repeat' split
 all_goals first
  |rfl
  |exact AIm (l6 ..)
theorem tQ(fi:FI)(bs:ATB Blk)(e:Nat)(ti:TI)(x y:AV)(K:Ij->ATC R):Zv fi bs e ti x y K=(Zv fi bs e ti x y some).bind K:=by
 unfold Zv
 repeat' split
 all_goals rfl
theorem tT(fi:FI)(bs:ATB Blk)(e:Nat)(ti:TI)(x y:AV)(K:Ij->ATC R):Zw fi bs e ti x y K=(Zw fi bs e ti x y some).bind K:=by
 unfold Zw
 repeat' split
 all_goals rfl
theorem Adk(fi:FI)(bs:ATB Blk)(e:Nat)(ti:TI)(x y:AV)(K:Ij->ATC R):oW fi bs e ti x y K=(oW fi bs e ti x y some).bind K:=by
 unfold oW
 repeat' split
 all_goals rfl
theorem Agx(te:Ty)(bs:ATB Blk)(x:AV)(hi:ATC AV)(K:Ij->ATC R):AcA te bs x hi K=(AcA te bs x hi some).bind K:=by
 unfold AcA
 repeat' split
 all_goals rfl
def gX(c:Callee):Prop:=∀(R:Type) args E (K:AV->ATB Blk->ATC R),c.run R args E K=(c.run (AV×ATB Blk) args E λv b=>some (v,b)).bind λp=>K p.1 p.2
theorem eO(c:Callee)(hc:gX c)(bs:ATB Blk)(args:ATB AV)(K:Ij->ATC R):YQ c bs args K=(YQ c bs args some).bind K:=by
 unfold YQ;split
 ·rfl
 ·dsimp only
  split
  ·rw[hc R,hc Ij]
   grind
  ·rfl
theorem Acp(c:Callee)(hc:gX c)(bs:ATB Blk)(args:ATB AV)(K:Ij->ATC R):jP c bs args K=(jP c bs args some).bind K:=by
 have via:∀(bs:ATB Blk) (args:ATB AV) (F:Ij->ATC R) (F':Ij->ATC Ij),(∀e,F e=(F' e).bind K)->YQ c bs args F=(YQ c bs args F').bind K:=λbs args F F' h=>by
  rw[eO c hc bs args F,eO c hc bs args F'];cases YQ c bs args some with
  |none=>rfl
  |some e=>grind
 unfold jP;split
 ·grind
 ·split
  ·split
   ·split
    ·grind
    ·rfl
   ·rfl
  ·rfl
theorem iD(f:(R:Type)->(AV->ATC R)->ATC R)(hf:∀(R:Type) (K:AV->ATC R),f R K=(f AV some).bind K)(g:AV->Ij)(K:Ij->ATC R) :
    f R (λv=>K (g v))=(f Ij λv=>some (g v)).bind K:=by
 rw[hf R,hf Ij];cases f AV some<;>rfl
def Z7(en:GV):Prop:=∀g c,en.fns g=some c->gX c
theorem qW(en:GV)(he:Z7 en)(σ:St)(c:Call)(K:Ij->ATC R):W5 en σ c K=(W5 en σ c some).bind K:=by
 unfold W5;split
 ·split
  ·split
   ·exact iD (λR K=>rS _ _ _ K) (λR K=>vP ..) (λv=>⟨v,_,_⟩) K
   ·rfl
  ·rfl
 ·split
  ·exact iD (λR K=>mmA _ _ _ K) (λR K=>iZ ..) (λv=>⟨v,_,_⟩) K
  ·rfl
 ·split
  ·exact iD (λR K=>mmA _ _ _ K) (λR K=>iZ ..) (λv=>⟨v,_,_⟩) K
  ·rfl
 ·split
  ·split
   ·split
    ·split
     ·exact tQ ..
     ·split
      ·exact tT ..
      ·rfl
    ·rfl
   ·rfl
  ·rfl
 ·rfl
 ·split
  ·split
   ·rename_i hg;exact Acp _ (he _ _ hg) ..
   ·rfl
  ·rfl
 ·rfl
theorem Nq(en:GV)(he:Z7 en)(σ:St)(o:Oper)(K:Ij->ATC R):R7 en σ o K=(R7 en σ o some).bind K:=by
 unfold R7
 dsimp only
 split
 ·rfl
 ·rfl
 ·split
  ·rename_i t _;cases t<;>rfl
  ·rfl
 ·split<;>rfl
 ·split<;>rfl
 ·split
  ·split
   ·rfl
   ·split<;>rfl
  ·rfl
 ·split
  ·split
   ·split
    ·split
     ·split<;>rfl
     ·rfl
    ·rfl
   ·rfl
  ·rfl
 ·split
  ·split
   ·split
    ·exact zL ..
    ·rfl
   ·exact iD (λR K=>aF _ _ _ K) (λR K=>oS ..) (λv=>⟨v,_,_⟩) K
  ·rfl
 ·split
  ·split
   ·rfl
   ·split
    ·split<;>rfl
    ·rfl
  ·rfl
 ·split
  ·split
   ·split
    ·split
     ·split
      ·rfl
      ·exact Adj ..
     ·exact iD (λR K=>gE _ _ _ _ _ _ K) (λR K=>oT ..) (λv=>⟨v,_,_⟩) K
    ·rfl
   ·rfl
  ·rfl
 ·split
  ·split
   ·split
    ·exact l6 ..
    ·rfl
   ·rfl
  ·rfl
 ·split
  ·split
   ·split
    ·exact l6 ..
    ·rfl
   ·rfl
  ·rfl
 ·split
  ·split
   ·split
    ·exact AgF ..
    ·rfl
   ·rfl
  ·rfl
 ·split
  ·split
   ·split
    ·exact AgG ..
    ·rfl
   ·rfl
  ·rfl
 ·split
  ·exact zN ..
  ·rfl
 ·split<;>rfl
 ·split
  ·rfl
  ·exact iD (λR K=>qx _ _ _ _ K) (λR K=>tZ ..) (λv=>⟨v,_,_⟩) K
 ·exact iD (λR K=>unA _ _ K) (λR K=>AbJ ..) (λv=>⟨v,_,_⟩) K
 ·split
  ·exact iD (λR K=>cH _ _ _ _ K) (λR K=>oc ..) (λv=>⟨v,_,_⟩) K
  ·rfl
 ·split
  ·split<;>rfl
  ·rfl
 ·split
  ·split
   ·split
    ·exact Adk ..
    ·rfl
   ·rfl
  ·rfl
 ·split
  ·split
   ·split
    ·split
     ·split
      ·exact Agx ..
      ·rfl
     ·rfl
    ·rfl
   ·exact iD (λR K=>XS _ _ _ _ _ _ _ K) (λR K=>lN ..) (λv=>⟨v,_,_⟩) K
  ·rfl
 ·split
  ·exact iD (λR K=>mJ _ _ _ K) (λR K=>uR ..) (λv=>⟨v,_,_⟩) K
  ·rfl
 ·split
  ·split
   ·split
    ·exact iD (λR K=>vD _ _ _ _ K) (λR K=>vE ..) (λv=>⟨v,_,_⟩) K
    ·rfl
   ·rfl
  ·rfl
 ·split
  ·split
   ·exact iD (λR K=>qF _ _ K) (λR K=>ux ..) (λv=>⟨v,_,_⟩) K
   ·rfl
  ·rfl
 ·split
  ·split<;>rfl
  ·rfl
 ·exact qW en he ..
 ·rfl
theorem W4(en:GV)(he:Z7 en)(σ:St)(o:Oper)(K:Ij->ATC R):V2 en σ o K=(V2 en σ o some).bind K:=by
 unfold V2;split
 ·rfl
 split
 ·rfl
 split
 ·grind
 split
 ·cases kl en o with
  |false=>exact Nq en he σ o K
  |true =>
   simp;refine(Nq en he σ o _).trans (Eq.symm ?_);refine(congrArg (λx=>Option.bind x K) (Nq en he σ o _)).trans ?_
   grind
 ·rename_i t _;refine(Nq en he σ o _).trans (Eq.symm ?_);refine(congrArg (λx=>Option.bind x K) (Nq en he σ o _)).trans ?_
  grind
theorem Tq(en:GV)(he:Z7 en)(σ:St)(o:Oper)(K:Ij->ATC R):exec en σ o K=(exec en σ o some).bind K:=by
 unfold exec;split
 ·split
  ·split
   ·rename_i bs _;rw[W4 en he _ o,W4 en he _ o (λe=>if e.BJ.isEmpty=true then none else some e),AQd]
    grind
   ·rfl
  ·exact W4 en he σ o K
 ·exact W4 en he σ o K
end
structure LC (w:World) (g:G) (σ:St) (a:Act):Prop where
 heap:Bi w g σ.Aj
 len:σ.AO.length=a.tmps.size
 AO:∀(i:Nat) (x:AV),σ.AO[i]?=some x->B5 w g σ.Aj.length x (a.tmps.getD i undef)
structure Oz (P:Program) (σ:St) (o:Oper) (e:Ij):Prop where
 grow:σ.Aj.length<=e.Aj.length
 ext:e.BJ=[]->∃l,e.Aj=σ.Aj++l
 wp:∀(a:Act) (w:World) (g:G),LC w g σ a->∀(next:Act->World->Prop) (Q:Exit->Act->World->Prop),
  (∀v w' g',Bi w' g' e.Aj->B5 w' g' e.Aj.length e.val v->Step e.BJ σ.Aj.length w g w' g'->next (a.put o.dst v) w')->o.wp P a w next Q
def Qt(P:Program)(σ:St)(o:Oper)(z:AV):Prop :=
 ∀(a:Act) (w:World) (g:G),LC w g σ a->∃c,(execOp a.eval o).run P w=.ok (.value c) w/\B5 w g σ.Aj.length z c
theorem ZH{BJ:ATB Nat}{sl:ATB AV}{i:Nat}{x:AV}(h:(U7 BJ sl)[i]?=some x):∃y,sl[i]?=some y/\x=y.drop λk=>BJ.contains k:=by
 unfold U7 at h;split at h
 ·exact⟨x,h,by rw[show(λk=>[].contains k)=λ_=>false from funext λ_=>rfl,cP]⟩
 grind
theorem og(BJ:ATB Nat)(sl:ATB AV):(U7 BJ sl).length=sl.length:=by unfold U7;split<;>simp
theorem dJ(d:ATC Nat)(v:AV)(sl:ATB AV):(ah d v sl).length=sl.length:=by unfold ah;split<;>simp
theorem Xm(a:Act)(d:ATC Tmp)(v:Value):(a.put d v).tmps.size=a.tmps.size:=by cases d<;>simp[Act.put]
theorem pJ{w:World}{g:G}{n:Nat}{sl:ATB AV}{a:Act}(hlen:sl.length=a.tmps.size)(h:∀(i:Nat) (x:AV),sl[i]?=some x->B5 w g n x (a.tmps.getD i undef)){d:ATC Nat}{x:AV}{v:Value}(hv:B5 w g n x v) :
    ∀(i:Nat) (y:AV),(ah d x sl)[i]?=some y->B5 w g n y ((a.put d v).tmps.getD i undef):=by
 intro i y hy;cases d with
 |none=>exact h i y hy
 |some d =>
  simp only[ah]at hy;rw[AQl]at hy;simp only[Act.put];split at hy
  ·rename_i he;subst he;split at hy
   ·rename_i hd;injection hy with hy;subst hy;rw[hlen]at hd;simpa [hd]using hv
   ·grind
  ·rename_i Ke;have:=h i y hy;simpa [ARy Ke]using this
theorem LC.after{w w':World}{g g':G}{σ:St}{a:Act}{e:Ij}{d:ATC Nat}{v:Value}(h:LC w g σ a)(hg:σ.Aj.length<=e.Aj.length)(hh:Bi w' g' e.Aj)(hv:B5 w' g' e.Aj.length e.val v)
    (hs:Step e.BJ σ.Aj.length w g w' g'):LC w' g' (σ.after d e) (a.put d v) where
 heap:=hh
 len:=by simp only[St.after,dJ,og,Xm];exact h.len
 AO:=pJ (by rw[og];exact h.len) (λi x hx=>by
  obtain⟨y,hy,rfl⟩:=ZH hx;exact(h.AO i y hy).step hs hg) hv
section
variable {P:Program} {σ:St} {o:Oper} {en:GV}
theorem Oz.Jc{z:AV}(h:Qt P σ o z):Oz P σ o ⟨z,σ.Aj,[]⟩ where
 grow:=AP2 _
 ext _:=⟨[],(AQB _).symm⟩
 wp a w g hs next Q hn:=by
  obtain⟨c,hc,hz⟩:=h a w g hs;unfold Oper.wp;rw[hc];exact hn c w g hs.heap hz (Step.refl _ _ _ _)
theorem Yu{f:(R:Type)->(AV->ATC R)->ATC R}(hf:∀(R:Type) (K:AV->ATC R),f R K=(f AV some).bind K){g:AV->Ij}{e:Ij}(h:f Ij (λv=>some (g v))=some e) :
    ∃z,f AV some=some z/\e=g z:=by
 rw[hf Ij]at h;cases hz:f AV some with
 |none=>grind
 |some z=>grind
theorem Agv{w:World}{g:G}{n:Nat}(v:Value):B5 w g n (qN v) v:=by
 unfold qN;split
 ·exact Ah4 _ _
 ·exact dy _
 ·exact Ah5 _
 ·exact o6 _
 ·exact Bs rfl  rfl (by simp[Cq,AV.isAgg])
 ·exact RQ
theorem AU{w:World}{g:G}{a:Act}(h:LC w g σ a)(x:Operand):B5 w g σ.Aj.length (σ.Cg x) (a.eval x):=by
 cases x with
 |tmp t =>
  simp only[St.Cg];cases hx:σ.AO[t]? with
  |none=>exact RQ
  |some y=>exact h.AO t y hx
 |const v=>exact Agv v
 |func f=>exact Bs (a:=.fn f .nil) rfl  ⟨[],rfl,rfl⟩ (by simp[Cq,AV.isAgg,Act.eval])
 |global g=>exact RQ
theorem ZS{w:World}{g:G}{a:Act}(h:LC w g σ a)(x:ATC Operand):AeN w g σ.Aj.length (x.map σ.Cg) (x.map a.eval):=by
 cases x with
 |none=>trivial
 |some x=>exact AU h x
theorem Mb{z:AV}{s:(Operand->Value)->Sem Value}(he:∀ρ,execOp ρ o=(do pure (.value (<-s ρ))))(h:∀(a:Act) (w:World) (g:G),LC w g σ a->VZ P w g σ.Aj.length (s a.eval) z):Qt P σ o z:=by
 intro a w g hs;obtain⟨c,hc,hz⟩:=h a w g hs;exact⟨c,by rw[he];simp[hc],hz⟩
theorem cw{v:Value}{cs:ATB Value}{b:Bool}(h:Cq b cs v)(h1:∀c∈cs,c.oneCell'=true):v.cells=cs.toArray:=by
 cases b with
 |true=>subst h;rfl
 |false =>
  subst h;have:=h1 v (by simp);cases v<;>first |rfl |cases this
theorem bU:∀{a:AV} {f:Nat} {v a':AV},a.Uh f v=some a'->a'.isAgg=true:=by
 intro a f v a' h;cases a with
 |AA ks t x =>
  simp only[AV.Uh]at h;cases t with
  |AE b c =>
   cases f with
   |zero=>simp only[wA,APY]at h;subst h;rfl
   |succ f =>
    simp only[wA]at h;split at h
    ·injection h with h;subst h;rfl
    ·grind
  |_=>cases f<;>simp[wA]at h
 |pr b c =>
  cases f with
  |zero=>simp only[AV.Uh,APY]at h;subst h;rfl
  |succ f =>
   simp only[AV.Uh]at h;split at h
   ·injection h with h;subst h;rfl
   ·grind
 |_=>cases f<;>simp[AV.Uh]at h
theorem Aby{c0 c1 c2 vs:ATB Value}(h:vs.length=c1.length):(vs.toArray.zipIdx.foldl (λcs (x:Value×Nat)=>cs.setIfInBounds (c0.length+x.2) x.1) (c0++c1++c2).toArray)=(c0++vs++c2).toArray:=by
 have e:vs.toArray.zipIdx.foldl (λcs (x:Value×Nat)=>cs.setIfInBounds (c0.length+x.2) x.1) (c0++c1++c2).toArray=(vs.zipIdx 0).foldl (λcs (x:Value×Nat)=>cs.setIfInBounds (c0.length+x.2) x.1) (c0++c1++c2).toArray:=by
  grind
 rw[e];obtain⟨h1,h2⟩:=Great.foldl_set c0.length vs 0 (c0++c1++c2).toArray
 grind
theorem pq{ty:Ty}:∀{fs:ATB Field} {os:ATB Nat} {i:Nat},P8 P ty i fs os=true ->
    ∃pl,fs.mapM (λf=>(P.info? f.type).map λi=>(f.offset,i.size))=some pl/\∀j o,os[j]?=some o->∃u,nL ty (i+j)=some u/\pl[j]?=some (o,u.size)
 |[],[],_,_=>⟨[],rfl,λj o h=>by grind⟩
 |f::fs,o::os,i,h=>by
  simp only[P8,AP3,AQ8]at h;obtain⟨⟨⟨h1,_⟩,h3⟩,h4⟩:=h;obtain⟨pl,hp,hq⟩:=pq h4;split at h3
  ·rename_i u hu;cases hi:P.info? f.type with
   |none=>grind
   |some inf =>
    simp[hi]at h3;refine⟨(f.offset,inf.size)::pl,by simp[hi,hp],λj o' ho=>?_⟩
    grind
  ·grind
 |[],_::_,_,h=>by simp[P8]at h
 |_::_,[],_,h=>by simp[P8]at h
theorem zW{v:AV}(h:v.Yt=true):v.OL=false/\v.Dq=false:=by cases v<;>simp_all [AV.Yt,AV.OL,AV.Dq]
theorem jJ{w:World}{g:G}{n:Nat}{ti:TI}{pl:ATB (Nat×Nat)}(vu:∀j o,ti.Xk[j]?=some o->∃u,nL ti.ty j=some u/\pl[j]?=some (o,u.size)){ρ:Operand->AV}{ε:Operand->Value}(hρ:∀x,B5 w g n (ρ x) (ε x)) :
    ∀{ps:ATB (Nat×Operand)} {a z:AV} {cs:ATB Value},YP ti a (ps.map λp=>(p.1,ρ p.2))=some z->CF w g n false a cs->a.isAgg=true ->
     ∃tg,Instr.fill (pl.toArray[·]?) cs.toArray (ps.map λp=>(p.1,ε p.2))=some tg.toArray/\CF w g n false z tg/\z.isAgg=true
 |[],a,z,cs,h,hx,hg=>by
  simp only[ARK,YP,APY]at h;subst h;exact⟨cs,rfl,hx,hg⟩
 |(f,x)::ps,a,z,cs,h,hx,hg=>by
  simp only[AQI,YP]at h;split at h
  ·rename_i pe Xb;split at h
   ·rename_i hc;obtain⟨MQ,Av1,QW,iR⟩:=hc;split at h
    ·rename_i a' ha';obtain⟨c0,c1,c2,e,ho,kM,hs⟩:=YW a f cs pe hx Xb;obtain⟨Ss,Y5⟩:=zW Av1;obtain⟨cv,YZ,hv⟩:=B3 Y5 Ss (hρ x);have hvc:=cw hv YZ.one;obtain⟨u,hu,hp⟩:=vu f c0.length (by grind);rw[hu]at iR;simp only[Option.map_some,APY]at iR;have VS:cv.length=c1.length:=by rw[YZ.len,kM.len,MQ]
     obtain⟨tg,hf,hz,hza⟩:=jJ vu hρ h (hs _ _ _ ha' YZ) (bU ha');refine⟨tg,?_,hz,hza⟩;simp only[AQI];unfold Instr.fill;have hp':pl.toArray[f]?=some (c0.length,u.size):=by grind
     simp only[hp'];have S6:(ε x).cells.size=u.size:=by rw[hvc];simp;rw[YZ.len];omega
     have RY:¬c0.length+(ε x).cells.size>cs.toArray.size:=by
      grind
     simp only[S6,ne_eq,not_true_eq_false,decide_false,ASa];rw[S6]at RY;simp only[RY,decide_false,AQM,ARo];rw[<-hf];congr 1;rw[hvc,e];exact Aby VS
    ·grind
   ·grind
  ·grind
end
section
variable {P:Program} {σ:St} {o:Oper} {en:GV} {e:Ij}
theorem wH{x:Operand}(ho:o.op=.move x\/o.op=.assign x):Oz P σ o ⟨σ.Cg x,σ.Aj,[]⟩ :=
 .Jc λa w g hs=>⟨a.eval x,by rcases ho with ho |ho<;>simp[execOp,ho],AU hs x⟩
theorem AiX{c x y:Operand}(ho:o.op=.pick c x y){ks:ATB Nat}{t:Bool}(hc:σ.Cg c=.AA ks .bool t):Oz P σ o ⟨bif t then σ.Cg x else σ.Cg y,σ.Aj,[]⟩ :=
 .Jc λa w g hs=>by
  have h:=AU hs c;rw[hc]at h;have h:=Tn h;refine⟨if t then a.eval x else a.eval y,by simp[execOp,ho,h,asBool],?_⟩;cases t
  ·exact AU hs y
  ·exact AU hs x
theorem dQ{x:Operand}(ho:o.op=.nilCheck x)(hp:∀(w:World) (g:G) n v,B5 w g n (σ.Cg x) v->∃a,v=.pointer (some a)):Oz P σ o ⟨σ.Cg x,σ.Aj,[]⟩ :=
 .Jc λa w g hs=>by
  obtain⟨ad,h⟩:=hp w g _ _ (AU hs x);exact⟨a.eval x,by simp[execOp,ho,h],AU hs x⟩
theorem AdM{op:BinOp}{t:TypeId}{x y:Operand}{yt:TypeId}(ho:o.op=.binOp op t x y yt){tb:Bool}(htb:tb=true->P.underlying t=some .bool){z:AV}(h:qx op tb (σ.Cg x) (σ.Cg y) some=some z):Oz P σ o ⟨z,σ.Aj,[]⟩ :=
 .Jc <| Mb (s:=λρ=>do eqGuard op t x y (ρ x) (ρ y);binOp op t (ρ x) (ρ y)) (λρ=>by simp[execOp,ho]) λa w g hs=>by
  obtain⟨z',e,hG⟩:=Akt t x y htb h (AU hs x) (AU hs y)
  grind
theorem AiY{op:UnOp}{t:TypeId}{x:Operand}(ho:o.op=.unOp op t x){z:AV}(h:unA op (σ.Cg x) some=some z):Oz P σ o ⟨z,σ.Aj,[]⟩ :=
 .Jc <| Mb (s:=λρ=>Op.unary op (ρ x)) (λρ=>by simp[execOp,ho]) λa w g hs=>by
  obtain⟨z',e,hG⟩:=Awv h (AU hs x);injection e with e;subst e;exact hG
theorem wE{s t:TypeId}{x:Operand}(ho:o.op=.convert s t x){ts ti:TI}(hs:Fh P s ts)(ht:Fh P t ti){te:ATC Ty}(Ev:∀u,te=some u->ts.Ew=true/\∃mr,mr.ty=u/\Fh P ts.elem mr){z:AV}
    (h:cH σ.Aj te ti.ty (σ.Cg x) some=some z):Oz P σ o ⟨z,σ.Aj,[]⟩ :=
 .Jc <| Mb (s:=λρ=>convert s t (ρ x)) (λρ=>by simp[execOp,ho]) λa w g BO=>by
  obtain⟨z',e,hG⟩:=Agw BO.heap hs ht Ev h (AU BO x)
  grind
theorem AiR{t:TypeId}{x:Operand}(ho:o.op=.load t x){ti:TI}(ht:Fh P t ti){z:AV}(h:aF σ.Aj ti (σ.Cg x) some=some z):Oz P σ o ⟨z,σ.Aj,[]⟩ :=
 .Jc <| Mb (s:=λρ=>Instr.loadAt t (ρ x)) (λρ=>by simp[execOp,ho]) λa w g BO=>by
  obtain⟨z',e,hG⟩:=AhV BO.heap ht h (AU BO x)
  grind
theorem nC{t:TypeId}{x:Operand}{f:Nat}(ho:o.op=.fieldAddr t x f){ti:TI}(ht:Fh P t ti){z:AV}(h:mJ ti f (σ.Cg x) some=some z):Oz P σ o ⟨z,σ.Aj,[]⟩ :=
 .Jc <| Mb (s:=λρ=>Instr.fieldAt t (ρ x) f) (λρ=>by simp[execOp,ho]) λa w g BO=>by
  obtain⟨z',e,hG⟩:=AlS  ht h (AU BO x)
  grind
theorem nD{t:TypeId}{x i:Operand}(ho:o.op=.indexAddr t x i){ti te:TI}(ht:Fh P t ti)(Ev:Fh P ti.elem te)(Im:ti.Ew=true){z:AV}(h:za σ.Aj te.ty (σ.Cg x) (σ.Cg i) some=some z):Oz P σ o ⟨z,σ.Aj,[]⟩ :=
 .Jc <| Mb (s:=λρ=>Instr.indexAt t (ρ x) (ρ i)) (λρ=>by simp[execOp,ho]) λa w g BO=>by
  obtain⟨z',e,hG⟩:=Ami BO.heap ht Ev Im h (AU BO x) (AU BO i)
  grind
theorem AdR{t:TypeId}{x i:Operand}(ho:o.op=.index t x i){ti:TI}(ht:Fh P t ti)(hs:ti.ty=.str){z:AV}(h:qF (σ.Cg x) (σ.Cg i) some=some z):Oz P σ o ⟨z,σ.Aj,[]⟩ :=
 .Jc <| Mb (s:=λρ=>Instr.index t (ρ x) (ρ i)) (λρ=>by simp[execOp,ho]) λa w g BO=>by
  obtain⟨z',e,hG⟩:=AlG  ht hs h (AU BO x) (AU BO i)
  grind
theorem AdT{t:TypeId}{x:Operand}{lo hi mx:ATC Operand}(ho:o.op=.slice t x lo hi mx){ti:TI}(ht:Fh P t ti){te:ATC Ty}(Ev:∀u,te=some u->ti.Ew=true/\∃mr,mr.ty=u/\Fh P ti.elem mr){z:AV}
    (h:XS σ.Aj ti te (σ.Cg x) (lo.map σ.Cg) (hi.map σ.Cg) (mx.map σ.Cg) some=some z):Oz P σ o ⟨z,σ.Aj,[]⟩ :=
 .Jc <| Mb (s:=λρ=>Instr.sliceAt t (ρ x) (lo.map ρ) (hi.map ρ) (mx.map ρ)) (λρ=>by simp[execOp,ho]) λa w g BO=>by
  obtain⟨z',e,hG⟩:=AdJ BO.heap ht Ev h (AU BO x) (ZS BO lo) (ZS BO hi) (ZS BO mx)
  grind
theorem wF{x:Operand}{i:Nat}(ho:o.op=.extract x i){z:AV}(h:Qv (σ.Cg x) i=some z)(hz:z.Dq=false):Oz P σ o ⟨z,σ.Aj,[]⟩ :=
 .Jc <| Mb (s:=λρ=>Instr.extract (ρ x) i) (λρ=>by simp[execOp,ho]) λa w g BO=>by
  have hx:=AU BO x;cases hq:σ.Cg x with
  |cons b c =>
   rw[hq]at hx h;obtain⟨vs,e,hx⟩:=hx;obtain⟨v,hv,hr⟩:=AaQ h hx;exact⟨v,by simp[Instr.extract,e,hv],hr hz⟩
  |_=>rw[hq]at h;simp[Qv]at h
theorem Zs{w:World}{g:G}{n:Nat}:∀{t:Ty},CF w g n false t.aQ (RS t)
 |.int k=>⟨λ_ h=>by grind,rfl⟩
 |.bool=>⟨λ_ h=>by grind,rfl⟩
 |.str=>⟨λ_ h=>by grind,rfl⟩
 |.unit=>⟨λ_ h=>by grind,rfl⟩
 |.AE a b=>⟨_,_,rfl,Zs,Zs⟩
 |.sl _=>⟨none,rfl⟩
 |.R4 0=>rfl
 |.R4 1=>⟨rfl,by simp[RS,Value.oneCell']⟩
 |.R4 (_+2)=>⟨rfl,by simp[RS,Value.oneCell']⟩
theorem pQ:∀{t:Ty},t.aQ.isAgg=t.isAgg
 |.int _=>rfl
 |.bool=>rfl
 |.str=>rfl
 |.unit=>rfl
 |.AE _ _=>rfl
 |.sl _=>rfl
 |.R4 0=>rfl
 |.R4 (_+1)=>rfl
theorem AdN{t:TypeId}{Ht:Array (Nat×Operand)}(ho:o.op=.build t Ht){ti:TI}(ht:Fh P t ti)(rB:ti.Xk≠[]){z:AV}(h:YP ti ti.ty.aQ (Ht.toList.map λp=>(p.1,σ.Cg p.2))=some z):Oz P σ o ⟨z,σ.Aj,[]⟩ :=
 .Jc <| Mb (s:=λρ=>Instr.build t (Ht.map λ(i,x)=>(i,ρ x))) (λρ=>by simp[execOp,ho]) λa w g BO=>by
  obtain⟨o0,ho0⟩:∃o0,ti.Xk[0]?=some o0:=by
   cases hq:ti.Xk with
   |nil=>grind
   |cons o0 r=>exact⟨o0,rfl⟩
  obtain⟨fs,hu,hf⟩:=XV ht ho0;obtain⟨pl,vu,hp⟩:=pq hf;obtain⟨i,zv,hi,MQ,xF,hz,Avs,u7⟩:=ht.info;have ha:ti.ty.isAgg=true:=by
   obtain⟨d,hd,hk⟩:=ht.gT;rw[hu]at hd;injection hd with hd;subst hd;simp only[kindOk,AP3]at hk;exact hk.1
  obtain⟨tg,ve,hx,hxa⟩:=jJ  (λj o hj=>by simpa using hp j o hj) (AU BO) h Zs (by rw[pQ];exact ha);refine⟨.agg _,run_build w t _ _ ?_,Bs (WC hx) hx (by rw[hxa];rfl)⟩;unfold Program.built;have oH:zv.cells=(RS ti.ty).toArray:=by grind
  simp only[hi,hu,hz,vu,oH];simpa using ve
theorem AnA{w:World}{g:G}{n:Nat}{ρ:Operand->AV}{ε:Operand->Value}(hρ:∀x,B5 w g n (ρ x) (ε x)):∀(l:ATB Operand),CF w g n true (ZB (l.map ρ)) (l.map ε)
 |[]=>rfl
 |x::l=>by
  refine⟨ε x,l.map ε,rfl,?_,AnA hρ l⟩;have h:=hρ x;split
  ·exact .inl rfl
  ·rename_i ht;exact(B5.iff (by grind)).1 h
theorem sB{f:FuncId}{first bf:Array Operand}(ho:o.op=.makeFunc (.func f) first bf)(h0:first.size=0):Oz P σ o ⟨.fn f (ZB (bf.toList.map σ.Cg)),σ.Aj,[]⟩ :=
 .Jc λa w g hs=>by
  have hf:first.map a.eval=#[]:=by
   grind
  have hr:(execOp a.eval o).run P w=.ok (.value (.func (.func f) #[] (bf.map a.eval))) w:=by simp[execOp,ho,Instr.makeFunc,hf]
  have hv:CF w g _ false (.fn f _) [.func _ #[] (bf.map _)]:=⟨bf.toList.map _,by rw[<-Array.toList_map],AnA (AU hs) _⟩;exact⟨_,hr,Bs rfl hv (by simp[Cq,AV.isAgg])⟩
theorem r5{k:Nat}{i:Int}{p:ATB Nat}{q:Nat}{w:World}{g:G}{n:Nat}{v:Value}(h:B5 w g n (.ptr k i p q) v):∃a,v=.pointer (some a):=by
 obtain⟨_,_,_,b,_,e⟩:=LU h;exact⟨_,e⟩
theorem r6{ks:ATB Nat}{t:Ty}{y:t.V}{w:World}{g:G}{n:Nat}{v:Value}(h:B5 w g n (.Fw ks t y) v):∃a,v=.pointer (some a):=by
 obtain⟨_,b,off,_,e,_⟩:=Zy h;exact⟨_,e⟩
end
theorem Aar{u:Ty}:∀{n i:Nat},i<n->nL (tY u n) i=some u/\Vt (tY u n) i=some (i*u.size)
 |n+1,0,_=>by simp[tY,nL,Vt]
 |n+1,i+1,h=>by
  obtain⟨h1,h2⟩:=Aar  (n:=n) (i:=i) (by omega);refine⟨by simpa [tY,nL]using h1,?_⟩;simp only[tY,Vt,h2]
  grind
theorem ow{place Ain:Nat->ATC (Nat×Nat)}(h:∀i p,place i=some p->Ain i=some p):∀{Ht:ATB (Nat×Value)} {cs r:Array Value},Instr.fill place cs Ht=some r->Instr.fill Ain cs Ht=some r
 |[],_,_,hf=>hf
 |(i,v)::iB,cs,r,hf=>by
  unfold Instr.fill at hf⊢;split at hf
  ·grind
  ·rename_i off size hp;rw[h i _ hp];simp only;split at hf
   ·grind
   ·rename_i hc;rw[AQf hc];exact ow h hf
section
variable {P:Program} {σ:St} {o:Oper} {en:GV}
theorem sy{t:TypeId}{Ht:Array (Nat×Operand)}(ho:o.op=.build t Ht){ti te:TI}(ht:Fh P t ti)(Ev:Fh P ti.elem te)(hn:ti.HF≠0)(iR:ti.ty=tY te.ty ti.HF){z:AV}
    (h:YP (ti.plc te) ti.ty.aQ (Ht.toList.map λp=>(p.1,σ.Cg p.2))=some z):Oz P σ o ⟨z,σ.Aj,[]⟩ :=
 .Jc <| Mb (s:=λρ=>Instr.build t (Ht.map λ(i,x)=>(i,ρ x))) (λρ=>by simp[execOp,ho]) λa w g BO=>by
  have hu:=ht.HF hn;have ha:ti.ty.isAgg=true:=by
   rw[iR];cases hq:ti.HF with
   |zero=>grind
   |succ n=>rfl
  obtain⟨i,zv,hi,MQ,xF,hz,Avs,u7⟩:=ht.info;obtain⟨tg,ve,hx,hxa⟩:=jJ  (pl:=(List.range ti.HF).map λi=>(i*te.ty.size,te.ty.size))    (λj o hj=>by
   simp only[TI.plc,AQp,Option.map_eq_some_iff]at hj;obtain⟨q,hq,rfl⟩:=hj;have eC:j<ti.HF:=by
    grind
   rw[ARW eC]at hq;injection hq with hq;subst hq;refine⟨te.ty,by show nL ti.ty j=_;rw[iR];exact(Aar eC).1,?_⟩;simp[ARW eC]) (AU BO) h Zs (by rw[pQ];exact ha)
  refine⟨.agg _,?_,Bs (WC hx) hx (by rw[hxa];rfl)⟩;have oH:zv.cells=(RS ti.ty).toArray:=by grind
  have Avz:Instr.fill (λi=>some (i*te.ty.size,te.ty.size)) zv.cells (Ht.map λ(i,x)=>(i,a.eval x)).toList=some tg.toArray:=by
   rw[oH];refine ow (λi p hp=>?_) (by simpa using ve)
   grind
  have AvA :=by simpa using Avz
  simp[Instr.build,run_underlying hu,zeroValue,typeInfo,hi,hz,D2 Ev,AvA]
theorem sA{t:TypeId}{x i:Operand}(ho:o.op=.index t x i){ti te:TI}(ht:Fh P t ti)(Ev:Fh P ti.elem te)(hn:ti.HF≠0){ks:ATB Nat}{kk:IntKind}{j:Int}(hi:σ.Cg i=.AA ks (.int kk) j)
    (hj:0<=j/\j<(ti.HF:Int)/\(σ.Cg x).off j.toNat=some (j.toNat*te.ty.size)/\(σ.Cg x).isAgg=true/\(σ.Cg x).Dq=false) {v:AV} (hv:(σ.Cg x).cf j.toNat=some v) (MQ:v.size=te.ty.size/\v.isAgg=te.ty.isAgg):Oz P σ o ⟨v,σ.Aj,[]⟩ :=
 .Jc <| Mb (s:=λρ=>Instr.index t (ρ x) (ρ i)) (λρ=>by simp[execOp,ho]) λa w g BO=>by
  have hu:=ht.HF hn;obtain⟨h0,h1,QW,u7,Y5⟩:=hj;have hix:=AU BO i;rw[hi]at hix;have hie:=DL hix;have Yh:=AU BO x;have Ss:(σ.Cg x).OL=false:=by
   cases hq:σ.Cg x<;>rw[hq]at hv<;>first |rfl |simp[AV.cf]at hv
  obtain⟨cs,S6,y9⟩:=B3 Y5 Ss Yh;rw[u7]at y9;have y9:a.eval x=.agg cs.toArray:=y9;obtain⟨c0,c1,c2,e,ho1,kM,_⟩:=YW _ _ cs v S6 hv;rw[QW]at ho1;injection ho1 with ho1;have VS:c1.length=te.ty.size:=by rw[kM.len,MQ.1]
  rw[hie,y9];cases hg:te.ty.isAgg with
  |true =>
   refine⟨.agg c1.toArray,?_,Bs (WC kM) kM (by rw[MQ.2,hg];rfl)⟩;have hex:cs.toArray.extract (j.toNat*te.ty.size) (j.toNat*te.ty.size+te.ty.size)=c1.toArray:=by
    apply Array.ext';rw[Array.toList_extract,ho1,e];simp only[List.extract];rw[show c0.length+te.ty.size-c0.length=c1.length by omega,AP4,List.drop_left,ARS]
   have Avy:List.take te.ty.size (List.drop (j.toNat*te.ty.size) cs)=c1:=by
    rw[ho1,e,AP4,List.drop_left,<-VS,ARS]
   simp[Instr.index,asIntOf,run_underlying hu,h0,h1,part,cu Ev,hg,D2 Ev,Avy]
  |false =>
   have bz:te.ty.size=1:=TS hg;obtain⟨u,hu1⟩:∃u,c1=[u]:=by
    cases c1 with
    |nil=>rw[bz]at VS;cases VS
    |cons u r=>cases r with
     |nil=>exact⟨u,rfl⟩
     |cons _ _=>rw[bz]at VS;simp at VS
   subst hu1;refine⟨u,?_,Bs (WC kM) kM (by rw[MQ.2,hg];rfl)⟩;have Xa:cs[j.toNat*te.ty.size]?=some u:=by
    rw[ho1,e,AP4,AQi (AP2 _),Nat.sub_self];rfl
   simp[Instr.index,asIntOf,run_underlying hu,h0,h1,part,cu Ev,hg,D2 Ev,Xa]
theorem uS{ty:Ty}:∀{fs:ATB Field} {os:ATB Nat} {i j:Nat} {fd:Field} {u:Ty},P8 P ty i fs os=true->fs[j]?=some fd->nL ty (i+j)=some u->∃d,P.underlying fd.type=some d/\Akp d=u.isAgg
 |[],_,_,_,_,_,_,h,_=>by grind
 |_::_,[],_,_,_,_,h,_,_=>by simp[P8]at h
 |f::fs,o'::os,i,0,fd,u,h,hf,hu=>by
  simp only[List.getElem?_cons_zero,APY]at hf;subst hf;simp only[P8,AP3]at h;obtain⟨⟨_,h3⟩,_⟩:=h;rw[show nL ty i=some u from hu]at h3;simp only[AP3]at h3;have h4:=h3.2;unfold AD5 at h4
  grind
 |f::fs,o'::os,i,j+1,fd,u,h,hf,hu=>by
  simp only[P8,AP3]at h;exact uS  h.2 (by simpa using hf) (by grind)
theorem Ae9{w:World}{t:Nat}{d:TypeDesc}(h:P.underlying t=some d):(isAgg t).run P w=.ok (Akp d) w:=by
 cases d<;>simp[isAgg,underlying,h,Akp]
theorem AdP{t:TypeId}{x:Operand}{f:Nat}(ho:o.op=.field t x f){ti:TI}(ht:Fh P t ti){fo:Nat}(hfo:ti.Xk[f]?=some fo){u:Ty}(hu:nL ti.ty f=some u){v:AV}(hv:(σ.Cg x).cf f=some v)
    (hc:(σ.Cg x).off f=some fo/\(σ.Cg x).isAgg=true/\(σ.Cg x).Dq=false/\v.size=u.size/\v.isAgg=u.isAgg):Oz P σ o ⟨v,σ.Aj,[]⟩ :=
 .Jc <| Mb (s:=λρ=>Instr.field t (ρ x) f) (λρ=>by simp[execOp,ho]) λa w g BO=>by
  obtain⟨QW,u7,Y5,AJP,AGi⟩:=hc;obtain⟨fs,AGl,hfl⟩:=XV ht hfo;obtain⟨fd,u',inf,h1,h2,h3,h4,h5,h6,h7⟩:=q0 hfl hfo;rw[AQs]at h3 h4;have:u'=u:=by grind
  subst this;obtain⟨d,hd,hda⟩:=uS (i:=0) hfl h1 (by rw[AQs];exact hu);have hfd:fs[f]?=some fd:=by grind
  have hsr:(sizeOf fd.type).run P w=.ok u'.size w:=by simp[sizeOf,typeInfo,h5,h6]
  have har:=Ae9 (w:=w) hd;rw[hda]at har;have Yh:=AU BO x;have Ss:(σ.Cg x).OL=false:=by
   cases hq:σ.Cg x<;>rw[hq]at hv<;>first |rfl |simp[AV.cf]at hv
  obtain⟨cs,S6,y9⟩:=B3 Y5 Ss Yh;rw[u7]at y9;obtain⟨c0,c1,c2,e,ho1,kM,_⟩:=YW _ _ cs v S6 hv;rw[QW]at ho1;injection ho1 with ho1;have VS:c1.length=u'.size:=by rw[kM.len,AJP]
  rw[y9];cases hg:u'.isAgg with
  |true =>
   rw[hg]at har;refine⟨.agg c1.toArray,?_,Bs (WC kM) kM (by rw[AGi,hg];rfl)⟩;have Avy:List.take u'.size (List.drop fo cs)=c1:=by
    grind
   simp[Instr.field,underlying,AGl,hfd,asAgg,part,har,hsr,h2,Avy]
  |false =>
   rw[hg]at har;have bz:u'.size=1:=TS hg;obtain⟨y,hy⟩:∃y,c1=[y]:=by
    cases c1 with
    |nil=>grind
    |cons y r=>grind
   subst hy;refine⟨y,?_,Bs (WC kM) kM (by rw[AGi,hg];rfl)⟩;have Xa:cs[fo]?=some y:=by
    grind
   simp[Instr.field,underlying,AGl,hfd,asAgg,part,har,h2,Xa]
theorem gw{t:TypeId}{w:World}{ti te:TI}(ht:Fh P t ti)(Ev:Fh P ti.elem te)(hn:ti.HF≠0){kk:IntKind}{j:Int}(h0:0<=j)(h1:j<(ti.HF:Int))(b f:Nat) :
    (Instr.indexAt t (.pointer (some ⟨b,f,none⟩)) (.int kk j)).run P w=.ok (.pointer (some ⟨b,f+j.toNat*te.ty.size,none⟩)) w:=by
 have hu:=ht.HF hn;simp[Instr.indexAt,asIntOf,run_underlying hu,Instr.sureAddr,h0,h1,D2 Ev,Z9]
theorem fP{t:TypeId}{x i:Operand}(ho:o.op=.indexAddr t x i){ti te:TI}(ht:Fh P t ti)(Ev:Fh P ti.elem te)(hn:ti.HF≠0){ks:ATB Nat}{kk:IntKind}{j:Int}(hi:σ.Cg i=.AA ks (.int kk) j)
    (h0:0<=j) (h1:j<(ti.HF:Int)) {v:AV}
    (hv : (match σ.Cg x with
          |.ptr k q p f=>some (.ptr k q (p++[j.toNat]) (f+j.toNat*te.ty.size))
          |.Fw ks t' y=>if Vt t' j.toNat=some (j.toNat*te.ty.size)then match Yx ks t' y j.toNat with |some (.AA _ u z)=>some (.Fw ks u z)|_=>none else none
          |_=>none)=some v):Oz P σ o ⟨v,σ.Aj,[]⟩ :=
 .Jc <| Mb (s:=λρ=>Instr.indexAt t (ρ x) (ρ i)) (λρ=>by simp[execOp,ho]) λa w g BO=>by
  have hix:=AU BO i;rw[hi]at hix;have hie:=DL hix;have Yh:=AU BO x;rw[hie];split at hv
  ·rename_i k q p f hq;injection hv with hv;subst hv;rw[hq]at Yh;obtain⟨hk,g0,g1,b,hb,e⟩:=LU Yh;rw[e];refine⟨_,gw ht Ev hn h0 h1 b _,?_⟩;rw[AQ1];exact fC hk g0 g1 hb
  ·rename_i ks t' y hq;rw[hq]at Yh;split at hv
   ·rename_i QW;split at hv
    ·rename_i UD u z hz;injection hv with hv;subst hv;obtain⟨hk,b,off,ds,e0,ha,hr,hc⟩:=Zy Yh;obtain⟨c0,c1,c2,e,ho1,_,⟨u',y',heq,gp⟩,_⟩:=ZL (g:=g) hk _ _ y ds _ hr hz;injection heq with _ h2 h3;subst h2;obtain rfl:=eq_of_heq h3;rw[QW]at ho1;injection ho1 with ho1;rw[e0];refine⟨_,gw ht Ev hn h0 h1 b off,fD hk ha gp λq' u vw=>?_⟩;rw[AQ1];refine hc _ u ?_
     grind
    ·grind
   ·cases hv
  ·grind
end
def G.add(g:G)(n b:Nat)(i:BI):G:=⟨λq=>if q=b then .BL n []else g.own q,λk=>if k=n then i else g.AY k⟩
def G.Sp(g:G)(rs:ATB Nat):G:=⟨λq=>match g.own q with |.BL j r=>if j∈rs then .Jb else .BL j r |t=>t,g.AY⟩
section
variable {w:World} {g:G} {bs:ATB Blk}
theorem Ve(H:Bi w g bs){b:Nat}(h:g.own b≠.no):b<w.heap.size:=by
 rcases AP7 b w.heap.size with h' |h'
 ·grind
 ·exact(h (H.BZ b h')).elim
theorem Step.add(H:Bi w g bs)(o:Obj)(i:BI):Step [] bs.length w g (w.alloc o) (g.add bs.length w.heap.size i) where
 os:=rfl
 tape:=rfl
 output:=rfl
 size:=by simp
 no b hb h:=by
  refine⟨by simp[G.add,h,Nat.ne_of_lt hb],heap_alloc_old w o b hb⟩
 Jb b h:=by
  have hb:=Ve H (b:=b) (by grind);exact⟨by simp[G.add,h,Nat.ne_of_lt hb],heap_alloc_old w o b hb⟩
 BL b k p h hk _:=by
  have hb:=Ve H (b:=b) (by grind);exact⟨by simp[G.add,h,Nat.ne_of_lt hb],heap_alloc_old w o b hb⟩
 AY k hk:=by simp[G.add,Nat.ne_of_lt hk]
theorem AcN(H:Bi w g bs)(o:Obj)(i:BI):∀b,(w.alloc o).heap.size<=b->(g.add bs.length w.heap.size i).own b=.no:=by
 intro b hb;have MQ:(w.alloc o).heap.size=w.heap.size+1:=by simp
 have:b≠w.heap.size:=by omega
 simp[G.add,this,H.BZ b (by omega)]
theorem Bi.new(H:Bi w g bs){o:Obj}{i:BI}{b:Blk}(hb:Nl (w.alloc o) (g.add bs.length w.heap.size i) (bs.length+1) bs.length b):Bi (w.alloc o) (g.add bs.length w.heap.size i) (bs++[b]) :=
 H.push (Step.add H o i) (AcN H o i) hb
theorem Step.Sp(rs:ATB Nat)(n:Nat)(w:World)(g:G):Step rs n w g w (g.Sp rs) where
 os:=rfl
 tape:=rfl
 output:=rfl
 size:=AP2 _
 no b _ h:=⟨by simp[G.Sp,h],rfl⟩
 Jb b h:=⟨by simp[G.Sp,h],rfl⟩
 BL b k p h _ hm:=⟨by simp[G.Sp,h,hm],rfl⟩
 AY _ _:=rfl
theorem Bi.b8{w':World}{g':G}{BJ:ATB Nat}{Gp:ATB Blk}(H:Bi w g bs)(s:Step BJ bs.length w g w' g')(hf:∀b,w'.heap.size<=b->g'.own b=.no)(hl:bs.length<=Gp.length)
    (hb:∀(j:Nat) (x:Blk),Gp[j]?=some x->x=.Ba\/(j∉BJ/\∃y,bs[j]?=some y/\x=y.drop λk=>BJ.contains k)\/Nl w' g' Gp.length j x):Bi w' g' Gp :=
 ⟨hf,λj x hx=>by
  rcases hb j x hx with h |⟨hm,y,hy,rfl⟩|h
  ·subst h;trivial
  ·exact(H.MG j y hy).step s hl (A5 hy) hm
  ·grind⟩
theorem Dy{BJ:ATB Nat}{bs:ATB Blk}{i:Nat}{x:Blk}(h:(Bd BJ bs)[i]?=some x):∃y,bs[i]?=some y/\x=y.drop λk=>BJ.contains k:=by
 unfold Bd at h;split at h
 ·exact⟨x,h,by rw[show(λk=>[].contains k)=λ_=>false from funext λ_=>rfl,cz]⟩
 grind
theorem AF(BJ:ATB Nat)(bs:ATB Blk):(Bd BJ bs).length=bs.length:=by unfold Bd;split<;>simp
theorem A7:∀(rs:ATB Nat) (bs:ATB Blk),(Blk.G3 bs rs).length=bs.length
 |[],_=>rfl
 |k::r,bs=>by rw[Blk.G3,A7 r,AP5]
theorem Lh:∀{rs:ATB Nat} {bs:ATB Blk} {j:Nat} {x:Blk},(Blk.G3 bs rs)[j]?=some x->x=.Ba\/(j∉rs/\bs[j]?=some x)
 |[],_,_,_,h=>.inr ⟨by simp,h⟩
 |k::r,bs,j,x,h=>by
  rcases Lh (rs:=r) h with h' |⟨h1,h2⟩
  ·grind
  grind
end
section
variable {P:Program} {σ:St} {o:Oper} {en:GV} {e:Ij}
theorem lU{x:AV}{el:TypeId}{f:Act->Value}(ho:∀a:Act,∀w:World,∀g:G,LC w g σ a->(execOp a.eval o).run P w=.ok (.value (.pointer (some ⟨w.heap.size,0,none⟩))) (w.alloc (.cells (f a).cells el))/\∃cs,CF w g σ.Aj.length false x cs/\(f a).cells=cs.toArray) :
    Oz P σ o ⟨.ptr σ.Aj.length 0 [] 0,σ.Aj++[.box x],[]⟩ where
 grow:=by simp
 ext _:=⟨_,rfl⟩
 wp a w g hs next Q hn:=by
  obtain⟨hr,cs,S6,hc⟩:=ho a w g hs;unfold Oper.wp;rw[hr];have st:=Step.add hs.heap (.cells (f a).cells el) ⟨some ⟨w.heap.size,0,none⟩,1,1,0⟩;refine hn _ _ _ (hs.heap.new ?_) ?_ st
  ·refine⟨by simp[G.add],w.heap.size,(f a).cells,el,by simp[G.add],by simp[G.add],heap_alloc_new w _,?_⟩;have e1:(f a).cells.toList=cs:=by grind
   rw[e1];exact S6.RP st (AQx _)
  ·have:=fC (w:=w.alloc (.cells (f a).cells el)) (g:=g.add σ.Aj.length w.heap.size ⟨some ⟨w.heap.size,0,none⟩,1,1,0⟩) (n:=(σ.Aj++[Blk.box x]).length) (k:=σ.Aj.length)  (p:=[]) (o:=0) (b:=w.heap.size)
     (by simp) (ARj _) (by simp[G.add]) (by simp[G.add])
   simpa using this
theorem AmI{el:TypeId}{x:Operand}(ho:o.op=.box el x)(ht:(σ.Cg x).Yt=true):Oz P σ o ⟨.ptr σ.Aj.length 0 [] 0,σ.Aj++[.box (σ.Cg x)],[]⟩ :=
 lU (el:=el)  λa w g hs=>by
  obtain⟨h1,h2⟩:=zW ht;obtain⟨cs,S6,hv⟩:=B3 h2 h1 (AU hs x);exact⟨by simp[execOp,ho,Instr.box,newVar,newRow],cs,S6,cw hv S6.one⟩
theorem AdL{el:TypeId}(ho:o.op=.alloc el){ti:TI}(ht:Fh P el ti):Oz P σ o ⟨.ptr σ.Aj.length 0 [] 0,σ.Aj++[.box ti.ty.aQ],[]⟩:=by
 obtain⟨i,z,hi,_,_,hz,hc,_⟩:=ht.info;refine lU (el:=el) (f:=λ_=>z) λa w g hs=>⟨?_,RS _,Zs,by grind⟩;simp[execOp,ho,Instr.alloc,zeroValue,typeInfo,hi,hz,newVar,newRow]
theorem fz(z:Array Value){s l c:Nat}(hs:z.size=s)(h0:0<s)(hl:l<=c):(madeCells z (c*s)).toList.take (l*s)=(List.replicate l (Value.agg z)).flatMap λv=>v.cells.toList:=by
 apply AQ2;intro k;rw[Great.flat_get h0 _ (λv hv=>by rw[List.eq_of_mem_replicate hv];exact hs),AQT];have hm :=AQS s hl;by_cases hk:k<l*s
 ·have hd :=(Nat.div_lt_iff_lt_mul h0).2 hk;have hr:k%s<s:=Nat.mod_lt _ h0;rw[AQe hk,List.getElem?_replicate,AQe hd];have YB:k<(madeCells z (c*s)).toList.length:=by simp[madeCells];omega
  rw[AQ7 YB];have hr' :=by omega
  simp only[madeCells,Value.cells,hs]
  grind
 ·have hd :=λh=>hk ((Nat.div_lt_iff_lt_mul h0).1 h)
  grind
theorem ZU{α:Type}{I:Nat->α->ATB Value->Prop}{x:α}{v:Value}(h:∀i,I i x v.cells.toList):∀(l i:Nat),Be I i (List.replicate l x) ((List.replicate l v).flatMap λv=>v.cells.toList)
 |0,_=>rfl
 |l+1,i=>by
  exact⟨_,_,rfl,h i,ZU h l _⟩
theorem lH{t:Ty}(h:t.row=true):t.data=true/\0<t.size:=by
 simp only[Ty.row,AP3,ARt]at h
 grind
theorem pS{w:World}{own:Nat->S4}{k:Nat}{t:Ty}(h:t.data=true){v:Value}(hv:v.cells.toList=RS t)(l:Nat)(fi:FI) :
    Acb w own k (fi.mode t) t (List.replicate l t.zero) ((List.replicate l v).flatMap λv=>v.cells.toList):=by
 unfold FI.mode;split
 ·exact ZU (λi=>by rw[hv];exact Ik.zero h) l 0
 ·exact II.2 (ZU  (λi=>by rw[hv];exact H7.zero h) l 0)
theorem Vr(fi:FI)(t:Ty):(fi.mode t).Cs=[]:=by unfold FI.mode;split<;>rfl
theorem AGw{l c:Int}(h0:0<=l)(h:l<=c)(hm:c<=9223372036854775807):l.toNat<=c.toNat/\c.toNat<=maxLen:=by
 simp only[maxLen];omega
theorem AiT{t:TypeId}{l c:Operand}(ho:o.op=.makeSlice t l c){fi:FI}{ti te:TI}(ht:Fh P t ti)(Ev:Fh P ti.elem te)(Im:ti.Ew=true)
    (h:oW fi σ.Aj ti.elem te (σ.Cg l) (σ.Cg c) some=some e):Oz P σ o e:=by
 unfold oW at h;split at h
 ·rename_i x1 x2 ks1 k1 lv ks2 k2 cv hl hc;split at h
  ·rename_i hg;obtain⟨MP,h0,hlc,xF,vo⟩:=hg;injection h with h;subst h;obtain⟨kD,BU⟩:=lH MP;obtain⟨i,z,hi,MQ,hbs,hz,oH,_⟩:=Ev.info;refine⟨by simp,λ_=>⟨_,rfl⟩,λa w g hs next Q hn=>?_⟩
   have e1:=AU hs l;rw[hl]at e1;have e1:=DL e1;have e2:=AU hs c;rw[hc]at e2;have e2:=DL e2;have hr:=run_make  w t _ i z (BH ht Im) hi hz k1 k2 lv cv h0 hlc (by grind) vo;unfold Oper.wp;simp only[execOp,ho,e1,e2,Sem.run_bind,hr];obtain⟨Il,hcm⟩:=AGw h0 hlc vo;have st:=Step.add hs.heap (.cells (madeCells z.cells (cv.toNat*i.size)) ti.elem) ⟨some ⟨w.heap.size,0,none⟩,lv.toNat,cv.toNat,te.ty.size⟩;refine hn _ _ _ (hs.heap.new ?_) ?_ st
   ·refine⟨(by rw[Vr];intro j hj;cases hj),by simp[G.add],by simp[G.add],BU,.inr ⟨w.heap.size,_,_,by simp[G.add],by simp[G.add],⟨_,.inr rfl,heap_alloc_new w _⟩,by simpa [G.add]using Il,by simpa [G.add]using hcm,by simp[G.add,size_madeCells,MQ],rfl,?_⟩⟩;rw[AQt,MQ];rw[fz _ (by rw[<-AQY,oH,S3]) BU Il];exact pS kD (by exact oH) _ fi
   ·refine Bs  rfl ⟨by simp,rfl⟩ ?_;simp[Cq,AV.isAgg,G.add]
  ·grind
 ·grind
end
def G.VQ(g:G)(f:Nat->ATB Nat->S4)(ob:ATC Nat)(n:Nat)(i:BI):G :=
 ⟨λq=>if ob=some q then .BL n []else match g.own q with |.BL j r=>f j r |t=>t,λk=>if k=n then i else g.AY k⟩
section
variable {w w':World} {g:G} {bs:ATB Blk} {f:Nat->ATB Nat->S4} {ob:ATC Nat} {n N:Nat} {i:BI} {BJ:ATB Nat}
theorem Step.VQ(fr:∀b,w.heap.size<=b->g.own b=.no)(hos:w'.os=w.os)(hta:w'.tape=w.tape)(hou:w'.output=w.output)(MQ:w.heap.size<=w'.heap.size)
    (V4:∀q,q<w.heap.size->(∀k p,g.own q=.BL k p->k∉BJ)->w'.heap[q]?=w.heap[q]?) (yY:∀q,ob=some q->w.heap.size<=q) (hN:n<=N) (hf:∀j r,j<n->j∉BJ->f j r=.BL j r) :
    Step BJ n w g w' (g.VQ f ob N i):=by
 have lt:∀b,g.own b≠.no->b<w.heap.size:=λb h=>by
  rcases AP7 b w.heap.size with h' |h'
  ·exact h'
  ·exact(h (fr b h')).elim
 have nob:∀b,b<w.heap.size->¬(ob=some b):=λb hb e=>by have:=yY b e;omega
 refine⟨hos,hta,hou,MQ,λb hb h=>⟨?_,V4 b hb λk p e=>?_⟩,λb h=>⟨?_,V4 b (lt b (by rw[h];simp)) λk p e=>?_⟩,λb k p h hk hm=>⟨?_,V4 b (lt b (by rw[h];simp)) λk' p' e=>?_⟩,λk hk=>?_⟩
 ·simp[G.VQ,nob b hb,h]
 ·rw[h]at e;cases e
 ·simp[G.VQ,nob b (lt b (by rw[h];simp)),h]
 ·rw[h]at e;cases e
 ·simp[G.VQ,nob b (lt b (by rw[h];simp)),h,hf k p hk hm]
 ·rw[h]at e;injection e with e;subst e;exact hm
 ·have:k≠N:=by omega
  simp[G.VQ,this]
theorem Nr(fr:∀b,w.heap.size<=b->g.own b=.no)(MQ:w.heap.size<=w'.heap.size)(yY:∀q,ob=some q->q<w'.heap.size):∀b,w'.heap.size<=b->(g.VQ f ob N i).own b=.no:=by
 intro b hb;have h1:¬(ob=some b):=λe=>by have:=yY b e;omega
 simp[G.VQ,h1,fr b (AQq MQ hb)]
end
def Lj:AV->ATB Nat->ATB (Nat×ATB Nat)
 |.AH k,p=>[(k,p)]
 |.pr a b,p=>Lj a (0::p)++Lj b (1::p)
 |_,_=>[]
theorem GR:∀(a:AV) (p:ATB Nat),(Lj a p).map (·.1)=a.R5
 |.AH k,_=>rfl
 |.mp _,_=>rfl
 |.pr a b,p=>by simp[Lj,AV.R5,GR a,GR b]
 |.AA _ _ _,_=>rfl
 |.zs,_=>rfl
 |.ptr _ _ _ _,_=>rfl
 |.Fw _ _ _,_=>rfl
 |.M8,_=>rfl
 |.fn _ _,_=>rfl
 |.cons _ _,_=>rfl
 |.nil,_=>rfl
 |.UI _ _ _ _ _,_=>rfl
 |.WE _ _ _ _ _ _,_=>rfl
 |.un _,_=>rfl
def kX:ATB (Nat×ATB Nat)->Nat->ATC (ATB Nat)
 |[],_=>none
 |(k,p)::r,j=>if k=j then some p else kX r j
theorem dq:∀{M:ATB (Nat×ATB Nat)},nodup (M.map (·.1))=true->∀{j p},(j,p)∈M->kX M j=some p
 |(k,q)::r,hn,j,p,h=>by
  simp only[AQI,nodup,AP3,ARk]at hn;simp only[kX];rcases List.mem_cons.1 h with h |h
  ·injection h with h1 h2;subst h1;subst h2;simp
  ·split
   ·rename_i e;subst e;have:k∈r.map (·.1):=List.mem_map.2 ⟨_,h,rfl⟩;simp at hn this;obtain⟨x,hx⟩:=this;exact(hn.1 x hx).elim
   ·exact dq hn.2 h
theorem UV:∀{M:ATB (Nat×ATB Nat)} {j:Nat},j∉M.map (·.1)->kX M j=none
 |[],_,_=>rfl
 |(k,q)::r,j,h=>by
  simp only[AQI,ARC,not_or]at h;simp only[kX,AQf (Ne.symm h.1)];exact UV h.2
section
variable {w:World} {g:G} {bs:ATB Blk}
theorem Ad3(H:Bi w g bs){MJ:Nat->S4}{k:Nat}:∀(t:Ty) (v:AV) (y:t.V) (cs:ATB Value) (p:ATB Nat),rd bs t v=some y->v.YV=true->(∀j∈v.R5,dM bs j=some .Av) ->
    (∀jq∈Lj v p,∀b q,g.own b=.BL jq.1 q->MJ b=.BL k (q++jq.2))->CF w g bs.length false v cs->Ik w MJ k t p y cs:=by
 have plain:∀(t:Ty) (ks:ATB Nat) (u:Ty) (y:u.V) (x:t.V) (cs:ATB Value) (p:ATB Nat),I9 u t y=some x->u.BS=true->CF w g bs.length false (.AA ks u y) cs->Ik w MJ k t p x cs:=by
  intro t ks u y x cs p h hf hx;obtain⟨e,he⟩:=BG h;subst e;simp only at he;subst he;exact(Ik.BS hf).2 ((H7.BS hf).1 hx.2)
 intro t;induction t with
 |AE a b iha ihb =>
  intro v y cs p h hf hd hm hx;simp only[rd]at h;split at h
  ·exact plain _ _ _ _ _ _ _ h (by simpa [AV.YV]using hf) hx
  ·rename_i u z;split at h
   ·rename_i y1 y2 h1 h2;injection h with h;subst h;obtain⟨c,d,e,kM,xK⟩:=hx;simp only[AV.YV,AP3]at hf;exact⟨c,d,e,iha u y1 c _ h1 hf.1 (λj hj=>hd j (by simp[AV.R5,hj])) (λjq hj=>hm jq (by simp[Lj,hj])) kM,
     ihb z y2 d _ h2 hf.2 (λj hj=>hd j (by simp[AV.R5,hj])) (λjq hj=>hm jq (by simp[Lj,hj])) xK⟩
   ·cases h
  ·cases h
 |sl t _ =>
  intro v y cs p h hf hd hm hx;simp only[rd]at h;split at h
  ·exact plain _ _ _ _ _ _ _ h (by simpa [AV.YV]using hf) hx
  ·injection h with h;subst h;obtain⟨ad,e⟩:=hx;exact⟨ad,0,e,.inl ⟨rfl,rfl⟩⟩
  ·rename_i j;split at h
   ·rename_i el m u ys hb;obtain⟨e',he⟩:=BG h;injection e' with e';subst e';simp only at he;subst he;obtain⟨hk,hc⟩:=hx;have AnJ:=hd j (by simp[AV.R5]);simp only[dM,hb,APY]at AnJ;subst AnJ;obtain⟨_,hlen,QN,BU,hr⟩:=H.MG j _ hb;have hmj:=hm (j,p) (by simp[Lj]);rw[hlen]at hc;refine⟨_,_,hc,hr.imp id λ⟨b,Bq,ds,ha,Cr,⟨el,_,hh⟩,h1,h2,h3,h4,Ns⟩=>⟨b,el,Bq,ds,ha,by simpa using hmj b [] Cr,hh,h1,h2,h3,h4,?_⟩⟩;exact Be.mono (λi x c r=>r.mono λb q hb=>⟨by simpa using hmj b _ hb,rfl⟩) Ns
   ·cases h
  ·cases h
 |_ =>
  intro v y cs p h hf hd hm hx;simp only[rd]at h;split at h
  ·exact plain _ _ _ _ _ _ _ h (by simpa [AV.YV]using hf) hx
  ·cases h
theorem bJ:∀(v:AV) (j:Nat),j∈v.Vm bs->j∈v.R5\/j∈v.ic\/∃r∈v.R5,∃l,dM bs r=some (.sh l)/\j∈l
 |.AA ks _ _,j,h=>.inr (.inl h)
 |.AH k,j,h=>by
  simp only[AV.Vm]at h;rcases List.mem_cons.1 h with h |h
  ·exact .inl (by simp[AV.R5,h])
  ·cases hm:dM bs k with
   |none=>rw[hm]at h;cases h
   |some m =>
    rw[hm]at h;cases m with
    |Av=>cases h
    |sh l=>exact .inr (.inr ⟨k,by simp[AV.R5],l,hm,h⟩)
 |.pr a b,j,h=>by
  simp only[AV.Vm]at h;rcases List.mem_append.1 h with h |h
  ·rcases bJ a j h with h |h |⟨r,h,l,hl⟩
   ·exact .inl (by simp[AV.R5,h])
   ·exact .inr (.inl (by simp[AV.ic,h]))
   ·exact .inr (.inr ⟨r,by simp[AV.R5,h],l,hl⟩)
  ·rcases bJ b j h with h |h |⟨r,h,l,hl⟩
   ·exact .inl (by simp[AV.R5,h])
   ·exact .inr (.inl (by simp[AV.ic,h]))
   ·exact .inr (.inr ⟨r,by simp[AV.R5,h],l,hl⟩)
 |.zs,_,h=>by cases h
 |.ptr _ _ _ _,_,h=>by cases h
 |.Fw _ _ _,_,h=>by cases h
 |.M8,_,h=>by cases h
 |.fn _ _,_,h=>by cases h
 |.cons _ _,_,h=>by cases h
 |.nil,_,h=>by cases h
 |.UI _ _ _ _ _,_,h=>by cases h
 |.WE _ _ _ _ _ _,_,h=>by cases h
 |.mp _,_,h=>by cases h
 |.un _,_,h=>by cases h
end
theorem OY{Yc:Nat->Bool}:∀{a:AV},(∀k∈a.Cs,Yc k=false)->a.drop Yc=a
 |.AA ks t x,h=>by
  simp only[AV.drop];rw[AQf];intro hc;obtain⟨k,hk,hb⟩:=List.any_eq_true.1 hc;rw[h k hk]at hb;cases hb
 |.Fw ks t x,h=>by
  simp only[AV.drop];rw[AQf];intro hc;obtain⟨k,hk,hb⟩:=List.any_eq_true.1 hc;rw[h k hk]at hb;cases hb
 |.pr a b,h=>by
  simp only[AV.drop];rw[OY λk hk=>h k (by simp[AV.Cs,hk]),OY λk hk=>h k (by simp[AV.Cs,hk])]
 |.fn g c,h=>by
  simp only[AV.drop];rw[OY λk hk=>h k (by simpa [AV.Cs]using hk)]
 |.cons a b,h=>by
  simp only[AV.drop];rw[OY λk hk=>h k (by simp[AV.Cs,hk]),OY λk hk=>h k (by simp[AV.Cs,hk])]
 |.zs,_=>rfl
 |.AH _,_=>rfl
 |.mp _,_=>rfl
 |.ptr _ _ _ _,_=>rfl
 |.M8,_=>rfl
 |.nil,_=>rfl
 |.UI k i p o e,h=>by simp[AV.drop,h k (by simp[AV.Cs])]
 |.WE k i p o j u,h=>by simp[AV.drop,h k (by simp[AV.Cs])]
 |.un _,_=>rfl
theorem D1{w:World}{own:Nat->S4}{k:Nat}{m:RM}{t:Ty}{xs:ATB t.V}{ds:ATB Value}:Acb w own k m t xs ds↔Be (Uy w own k m t) 0 xs ds:=by
 cases m with
 |Av=>exact Iff.rfl
 |sh ks=>exact II
theorem Uy.len{w:World}{own:Nat->S4}{k:Nat}{m:RM}{t:Ty}{i:Nat}{x:t.V}{cs:ATB Value}(h:Uy w own k m t i x cs):cs.length=t.size:=by
 cases m with
 |Av=>exact Ik.len h
 |sh ks=>exact H7.len h
open Classical in
theorem Uy.on{w w':World}{own MJ:Nat->S4}{k k':Nat}{m m':RM}{t:Ty}{i i':Nat}{x:t.V}{cs:ATB Value}(h:Uy w own k m t i x cs)
    (hm:match m,m' with
     |.Av,.Av=>∀b q,own b=.BL k (q++[i])->MJ b=.BL k' (q++[i'])/\w'.heap[b]?=w.heap[b]?
     |.sh ks,.sh UD=>∀b,Al own ks b->Al MJ UD b/\w'.heap[b]?=w.heap[b]?
     |.Av,.sh UD=>∀b q,own b=.BL k (q++[i])->Al MJ UD b/\w'.heap[b]?=w.heap[b]?
     |.sh _,.Av=>False):Uy w' MJ k' m' t i' x cs:=by
 cases m with
 |Av=>cases m' with
  |Av=>exact Ik.mono (p:=[i]) (p':=[i']) hm h
  |sh UD =>
   have h1:Ik w' (λb=>if(∃q,own b=.BL k (q++[i]))then own b else .no) k t [i] x cs :=
    Ik.mono (p:=[i]) (p':=[i]) (λb q hb=>⟨by rw[AQe ⟨q,hb⟩];exact hb,(hm b q hb).2⟩) h
   exact Ik.rd (λb q hb=>by
    split at hb
    ·rename_i hq;obtain⟨q',hq⟩:=hq;exact(hm b q' hq).1
    ·cases hb) h1
 |sh ks=>cases m' with
  |Av=>exact hm.elim
  |sh UD=>exact H7.mono hm h
def Aoe(bs:ATB Blk)(v:AV):ATB Nat:=v.R5.flatMap (λk=>match dM bs k with |some (.sh l)=>l |_=>[])
theorem QK{bs:ATB Blk}{m m':RM}{t:Ty}{v:AV}{y:t.V}{rs:ATB Nat}(h:take bs m t v=some (y,m',rs)):rd bs t v=some y/\rs=v.R5/\nodup v.R5=true /\
    ((m=.Av/\m'=.Av/\v.YV=true/\∀j∈v.R5,dM bs j=some .Av)\/∃ks,m=.sh ks/\m'=.sh (ks++v.ic++Aoe bs v)):=by
 unfold take at h;split at h
 ·grind
 ·rename_i y' hy
  dsimp only at h
  split at h
  ·grind
  ·split at h
   ·rename_i hc;simp only[AP3]at hc;obtain⟨rfl,rfl,rfl⟩:=h;exact⟨hy,rfl,hc.1,.inr ⟨_,rfl,rfl⟩⟩
   ·grind
theorem Aiz{w:World}{g:G}{bs:ATB Blk}(H:Bi w g bs){v:AV}:∀j∈Aoe bs v,j<bs.length:=by
 intro j hj;obtain⟨r,_,hr⟩:=List.mem_flatMap.1 hj;split at hr
 ·rename_i l hl;unfold dM at hl;split at hl
  ·rename_i e m t xs hb;injection hl with hl;subst hl;exact(H.MG r _ hb).1 j hr
  ·grind
 ·grind
theorem sL{w:World}{g:G}{bs:ATB Blk}(H:Bi w g bs){m m':RM}{t:Ty}{v:AV}{y:t.V}{rs:ATB Nat}{cs:ATB Value}(h:take bs m t v=some (y,m',rs))(hx:CF w g bs.length false v cs)(hm:∀j∈m.Cs,j<bs.length):∀j∈m'.Cs,j<bs.length:=by
 obtain⟨_,_,_,hc⟩:=QK h;rcases hc with ⟨rfl,rfl,_⟩|⟨ks,rfl,rfl⟩
 ·grind
 ·intro j hj;rcases List.mem_append.1 hj with hj |hj
  ·rcases List.mem_append.1 hj with hj |hj
   ·exact hm j hj
   ·exact hx.scope j hj
  ·exact Aiz H j hj
theorem dU{bs:ATB Blk}{m m':RM}{t:Ty}{v:AV}{y:t.V}{rs:ATB Nat}(h:take bs m t v=some (y,m',rs)):(∀j∈m.Cs,j∈m'.Cs)/\(m=.Av↔m'=.Av):=by
 obtain⟨_,_,_,hc⟩:=QK h;rcases hc with ⟨rfl,rfl,_⟩|⟨ks,rfl,rfl⟩
 ·grind
 ·exact⟨λj hj=>AQu _ (AQu _ hj),by simp⟩
theorem Xj{ks:ATB Nat}{m:RM}(h:nj ks m=true):∀j∈m.Cs,j∉ks:=λj hj=>by
 have:=List.all_eq_true.1 h j hj;simpa using this
def Xv(m:RM)(k:Nat)(M:ATB (Nat×ATB Nat))(j:Nat)(r:ATB Nat):S4 :=
 match kX M j with
 |none=>.BL j r
 |some path=>match m with |.Av=>.BL k (r++path)|.sh _=>.Jb
theorem Qq{m:RM}{k:Nat}{M:ATB (Nat×ATB Nat)}{j:Nat}{r:ATB Nat}(h:j∉M.map (·.1)):Xv m k M j r=.BL j r:=by simp[Xv,UV h]
def InR(w:World)(own:Nat->S4)(k:Nat):RM->(t:Ty)->ATB Nat->t.V->ATB Value->Prop
 |.Av,t,L,x,cs=>Ik w own k t L x cs
 |.sh ks,t,_,x,cs=>H7 w (Al own ks) t x cs
theorem AmH{w:World}{own:Nat->S4}{k:Nat}{m:RM}{u:Ty}{y:u.V}{p:ATB Nat}{t:Ty}{i:Nat}{x x':t.V}{cs:ATB Value}{o:Nat}(hs:TQ u y p t x=some x')(ho:Ma t p=some o)(h:Uy w own k m t i x cs) :
    ∃c0 c1 c2,cs=c0++c1++c2/\c0.length=o/\c1.length=u.size/\∀T4,InR w own k m u (VU p [i]) y T4->Uy w own k m t i x' (c0++T4++c2):=by
 cases m with
 |Av=>exact ZX (Aoc w own k) u y p t [i] x x' cs o hs ho h
 |sh ks=>exact ZX (AGD w _) u y p t [i] x x' cs o hs ho h
theorem sK{w w':World}{g:G}{bs:ATB Blk}(H:Bi w g bs){m m':RM}{t:Ty}{v:AV}{y:t.V}{rs:ATB Nat}{cs:ATB Value}(h:take bs m t v=some (y,m',rs))(hx:CF w g bs.length false v cs){k:Nat}{M:ATB (Nat×ATB Nat)}{L:ATB Nat}{MJ:Nat->S4}{m'':RM}
    (hM:∀jq∈Lj v L,kX M jq.1=some jq.2) (RZ:∀j∈m'.Cs,j∈m''.Cs) (QW:∀j∈m''.Cs,kX M j=none) (iO:m=.Av↔m''=.Av)
    (Cr:∀b j r,g.own b=.BL j r->(j∈M.map (·.1)\/j∈m''.Cs)->MJ b=Xv m k M j r) (kE:∀b,g.own b=.Jb->MJ b=.Jb)
    (Ahg:∀b,g.own b=.Jb\/(∃j r,g.own b=.BL j r/\(j∈M.map (·.1)\/j∈m''.Cs))->w'.heap[b]?=w.heap[b]?):InR w' MJ k m'' t L y cs:=by
 obtain⟨hy,rfl,hn,hc⟩:=QK h;have An9:∀j p,kX M j=some p->j∈M.map (·.1):=λj p hj=>Classical.byContradiction λhn=>by rw[UV hn]at hj;cases hj
 have AKg:∀j∈v.R5,∃p,kX M j=some p:=λj hj=>by
  rw[<-GR v L]at hj
  grind
 rcases hc with ⟨rfl,rfl,hf,hd⟩|⟨ks,rfl,rfl⟩
 ·obtain rfl:=iO.1 rfl;have h1:Ik w (λb=>match g.own b with |.BL j r=>(match kX M j with |some p=>.BL k (r++p)|none=>.no)|_=>.no) k t L y cs :=
   Ad3 H t v y cs L hy hf hd (λjq hj b q hb=>by grind) hx
  refine Ik.mono (p:=L) (p':=L) (λb q hb=>?_) h1;split at hb
  ·rename_i j r hj;split at hb
   ·rename_i p hp;have hm:=An9 j p hp;refine⟨?_,Ahg b (.inr ⟨j,r,hj,.inl hm⟩)⟩;rw[Cr b j r hj (.inl hm)];simp only[Xv,hp];exact hb
   ·grind
  ·grind
 ·obtain ⟨AhN,rfl⟩:∃l,m''=.sh l:=by
    cases m'' with
    |Av=>grind
    |sh l=>grind
  have key:∀b j q,g.own b=.BL j q->(j∈v.R5\/j∈AhN)->Al MJ AhN b:=by
   intro b j q hb hj;rcases hj with hj |hj
   ·obtain⟨p,hp⟩:=AKg j hj;exact .inl (by rw[Cr b j q hb (.inl (An9 j p hp))];simp[Xv,hp])
   ·exact .inr ⟨j,hj,q,by rw[Cr b j q hb (.inr hj)];simp[Xv,QW j hj]⟩
  obtain⟨hr,hl⟩:=Rh H t v y cs hy hx;refine hr.mono λb hb=>?_;rcases hb with hb |⟨j,hj,q,hq⟩
  ·exact⟨.inl (kE b hb),Ahg b (.inl hb)⟩
  ·have R8:j∈v.R5\/j∈AhN:=by
     rcases bJ v j hj with h |h |⟨r,h,l,hm,eC⟩
     ·grind
     ·exact .inr (RZ j (AQu _ (AQv _ h)))
     ·exact .inr (RZ j (AQv _ (List.mem_flatMap.2 ⟨r,h,by grind⟩)))
   refine⟨key b j q hq R8,Ahg b (.inr ⟨j,q,hq,?_⟩)⟩;rcases R8 with h |h
   ·grind
   ·exact .inr h
section
variable {P:Program} {σ:St} {o:Oper} {en:GV} {e:Ij} {w:World} {g:G}
theorem UM{t:Nat}{ti:TI}(ht:Fh P t ti){b off:Nat}{Bq:Array Value}{el:TypeId}(hh:w.heap[b]?=some (.cells Bq el (0,0))){v:Value}{cs:ATB Value}(hv:v.cells=cs.toArray)(hl:cs.length=ti.ty.size)
    (RY:off+cs.length<=Bq.size) (h1:∀c∈cs,c.oneCell'=true) :
    (storeVar t ⟨b,off,none⟩ v).run P w=.ok () (w.setRow b (Bq.toList.take off++cs++Bq.toList.drop (off+cs.length)).toArray):=by
 have hs:=run_storeCells_at P b off el cs 0 Bq w hh (by grind) h1;simp[storeVar,D2 ht,hv,hl,hs]
theorem kP{BJ:ATB Nat}{b k:Nat}{cs:Array Value}(ho:g.own b=.BL k [])(hk:k∈BJ):∀q,q<w.heap.size->(∀k p,g.own q=.BL k p->k∉BJ)->(w.setRow b cs).heap[q]?=w.heap[q]?:=by
 intro q _ hq;refine setRow_other w b q cs λe=>?_;subst e;exact hq k [] ho hk
theorem I0{f:Nat->ATB Nat->S4}{ob:ATC Nat}{n:Nat}{i:BI}{b j:Nat}{r:ATB Nat}(yY:ob≠some b)(h:g.own b=.BL j r):(g.VQ f ob n i).own b=f j r:=by simp[G.VQ,yY,h]
theorem Wq{f:Nat->ATB Nat->S4}{ob:ATC Nat}{n:Nat}{i:BI}{b:Nat}(yY:ob≠some b)(h:g.own b=.Jb):(g.VQ f ob n i).own b=.Jb:=by simp[G.VQ,yY,h]
theorem wU(H:Bi w g σ.Aj){t:Nat}{ti:TI}(ht:Fh P t ti){k:Nat}{i:Int}{p:ATB Nat}{of:Nat}{a pe a' v:AV}(hb:σ.Aj[k]?=some (.box a))(hg:a.Wu p=some pe)(hs:a.bW p v=some a')
    (hc:v.Yt/\a.Ads p=some of/\pe.size=v.size/\v.size=ti.ty.size/\v.isAgg=ti.ty.isAgg/\a'.Cs.contains k=false) {u vv:Value} (hu:B5 w g σ.Aj.length (.ptr k i p of) u) (hv:B5 w g σ.Aj.length v vv) :
    ∃w' g',(Instr.storeAt t u vv).run P w=.ok () w'/\Bi w' g' ((Bd [k] σ.Aj).set k (.box a'))/\Step [k] σ.Aj.length w g w' g':=by
 obtain⟨Av1,rB,MQ,BO,u7,YA⟩:=hc;obtain⟨hk,h0,h1,b,OB,rfl⟩:=LU hu;obtain⟨hlen,b',cs,el,ha,ho,hh,hx⟩:=H.MG k _ hb;rw[OB]at ha;injection ha with ha;injection ha with ha;subst ha;obtain⟨Ss,Y5⟩:=zW Av1;obtain⟨cv,YZ,hvv⟩:=B3 Y5 Ss hv;have hvc:=cw hvv YZ.one;obtain⟨c0,c1,c2,e1,ho2,kM,HY⟩:=SE p a cs.toList pe hx hg;rw[rB]at ho2;injection ho2 with ho2;have VS:c1.length=cv.length:=by rw[kM.len,YZ.len,MQ]
 have hi0:i.toNat=0:=by omega
 have AI7:cs.size=c0.length+c1.length+c2.length:=by rw[<-AQY,e1];simp only[AP0]
 have El:=UM (P:=P) ht (off:=of) hh hvc (by rw[YZ.len,BO]) (by omega) YZ.one;have Y0:(cs.toList.take of++cv++cs.toList.drop (of+cv.length))=c0++cv++c2:=by
  grind
 rw[Y0]at El;have st:Step [k] σ.Aj.length w g (w.setRow b (c0++cv++c2).toArray) g :=
  ⟨rfl,rfl,rfl,by simp,λq hq h=>⟨h,setRow_other w b q _ (λe=>by grind)⟩,λq h=>⟨h,setRow_other w b q _ (λe=>by grind)⟩,
   λq j r h _ hm=>⟨h,setRow_other w b q _ (λe=>by grind)⟩,λ_ _=>rfl⟩
 refine⟨_,g,?_,?_,st⟩
 ·simp only[hi0,Nat.zero_mul,AQs];exact El
 ·refine H.b8 st (λq hq=>H.BZ q (by simpa using hq)) (by simp[AF]) λj x hj=>?_;rw[AQl]at hj;split at hj
  ·rename_i hkj;subst hkj;split at hj
   ·injection hj with hj;subst hj;refine .inr (.inr ⟨hlen,b,_,el,OB,ho,setRow_heap w b cs _ el (0,0) hh,?_⟩);have:=CF.step st (AP2 _) a' false (HY v a' cv hs YZ);rw[OY (λj hj=>by
     grind)]at this
    simpa [AF]using this
   ·grind
  ·rename_i Ke;obtain⟨y,hy,rfl⟩:=Dy hj
   grind
theorem WH{bs:ATB Blk}{t:Ty}{v:AV}{y:t.V}(h:rd bs t v=some y):v.Dq=false/\v.OL=false:=by
 cases v with
 |cons a b=>cases t<;>simp[rd]at h
 |nil=>cases t<;>simp[rd]at h
 |un n=>cases t<;>simp[rd]at h
 |_=>exact⟨rfl,rfl⟩
theorem yO{α:Type}{l:ATB α}{i:Nat}(h:i<l.length)(d:α):l.getD i d=l[i]:=by grind
theorem Zp(H:Bi w g σ.Aj){t:Nat}{ti:TI}(ht:Fh P t ti){k:Nat}{i:Int}{p:ATB Nat}{of e:Nat}{m m':RM}{tr:Ty}{xs:ATB tr.V}{v:AV}{y:ti.ty.V}{x':tr.V}{rs:ATB Nat}(hb:σ.Aj[k]?=some (.row e m tr xs))
    (aA:take σ.Aj m ti.ty v=some (y,m',rs)) (hc:Ma tr p=some of/\tyP tr p=some ti.ty/\nj (k::rs) m'=true/\rs.contains k=false) (HY:TQ ti.ty y p tr (xs.getD i.toNat tr.zero)=some x')
    {u vv:Value} (hu:B5 w g σ.Aj.length (.ptr k i p of) u) (hv:B5 w g σ.Aj.length v vv) :
    ∃w' g',(Instr.storeAt t u vv).run P w=.ok () w'/\Bi w' g' ((Blk.G3 (Bd (k::rs) σ.Aj) rs).set k (.row e m' tr (xs.set i.toNat x')))/\Step (k::rs) σ.Aj.length w g w' g':=by
 obtain⟨rB,iR,QW,hrk⟩:=hc;obtain⟨hk,h0,h1,b,OB,rfl⟩:=LU hu;obtain⟨RV,hlen,QN,BU,hr⟩:=H.MG k _ hb;have Bp:i.toNat<xs.length:=by rw[<-hlen];exact h1
 rcases hr with ⟨ZP,_⟩|⟨b',Bq,ds,ha,Cr,⟨el,VR,hh⟩,Pp,xG,hc3,hc4,Ns⟩
 ·rw[ZP]at Bp;simp at Bp
 rw[OB]at ha;injection ha with ha;injection ha with ha;subst ha;obtain⟨hy,hrs,S8,hmm⟩:=QK aA;obtain⟨Y5,Ss⟩:=WH hy;obtain⟨cv,YZ,hvv⟩:=B3 Y5 Ss hv;have hvc:=cw hvv YZ.one;have Il:cv.length=ti.ty.size:=(Rh H _ _ _ _ hy YZ).1.len;obtain⟨c0,c,d,e1,kG,hrc,hr0,mV⟩:=Be.AY (λi x c h=>Uy.len h) (D1.1 Ns) Bp;have AI7:=Uy.len hrc;obtain⟨bD,iO⟩:=dU aA;have Yf:=Xj QW;have yT:k∉rs:=by simpa using hrk
 let M:=Lj v (VU p [i.toNat])
 have yP:M.map (·.1)=rs:=by rw[hrs];exact GR v _
 let f:=Xv m k M
 let g':=g.VQ f none σ.Aj.length ⟨none,0,0,0⟩
 let off:=i.toNat*tr.size+of
 let new:=Bq.toList.take off++cv++Bq.toList.drop (off+cv.length)
 let w':=w.setRow b new.toArray
 have vr:∀b' r,g.own b'=.BL k r->g'.own b'=.BL k r:=λb' r h=>by
  have:=I0 (f:=f) (ob:=none) (n:=σ.Aj.length) (i:=⟨none,0,0,0⟩) (by simp) h;rw[this];exact Qq (by rw[yP];exact yT)
 have st:Step (k::rs) σ.Aj.length w g w' g':=Step.VQ H.BZ rfl rfl rfl (by simp[w']) (kP Cr (by simp)) (λq h=>by cases h) (AP2 _) λj r _ hm =>
  Qq (by rw[yP];exact λh=>hm (AQo _ h))
 have Ahm:∀b' j r,g.own b'=.BL j r->j≠k->w'.heap[b']?=w.heap[b']?:=λb' j r h hj=>setRow_other w b b' _ λe=>by subst e;rw[Cr]at h;injection h with h;exact hj h.symm
 have Ahn:∀b' q,g.own b'=.BL k q->q≠[]->w'.heap[b']?=w.heap[b']?:=λb' q h hq=>setRow_other w b b' _ λe=>by subst e;rw[Cr]at h;injection h with _ h;exact hq h.symm
 have vp:∀b',g.own b'=.Jb->w'.heap[b']?=w.heap[b']?:=λb' h=>setRow_other w b b' _ λe=>by subst e;rw[Cr]at h;cases h
 have hon:∀(i':Nat) (x:tr.V) (c:ATB Value),Uy w g.own k m tr i' x c->Uy w' g'.own k m' tr i' x c:=by
  intro i' x c VR;refine VR.on ?_;rcases hmm with ⟨rfl,rfl,_⟩|⟨ks,rfl,rfl⟩
  ·exact λb' q h=>⟨vr b' _ h,Ahn b' _ h (by simp)⟩
  ·intro b' h;rcases h with h |⟨j,hj,r,h⟩
   ·exact⟨.inl (Wq (by simp) h),vp b' h⟩
   ·have vi:=bD j hj;have mq:=Yf j vi;exact⟨.inr ⟨j,vi,r,by
     have:=I0 (f:=f) (ob:=none) (n:=σ.Aj.length) (i:=⟨none,0,0,0⟩) (by simp) h;rw[this];exact Qq (by rw[yP];exact λh=>mq (AQo _ h))⟩,Ahm b' j r h λe=>mq (by simp[e])⟩
 rw[AQs]at hrc;rw[yO Bp]at HY;obtain⟨d0,d1,d2,e2,hd0,mR,Ge⟩:=AmH HY rB (hon _ _ _ hrc);have bB:InR w' g'.own k m' ti.ty (VU p [i.toNat]) y cv:=by
  refine sK H aA YZ (M:=M) (λjq hj=>dq (by rw[GR];exact S8) hj) (λ_ h=>h) (λj hj=>UV (by rw[yP];exact λh=>Yf j hj (AQo _ h))) iO
   (λb' j r h _=>I0 (by simp) h) (λb' h=>Wq (by simp) h) λb' h=>?_
  rcases h with h |⟨j,r,h,hj⟩
  ·exact vp b' h
  ·refine Ahm b' j r h λe=>?_;subst e;rcases hj with hj |hj
   ·rw[yP]at hj;exact yT hj
   ·exact Yf j hj (by simp)
 have vj:=Be.join Bp (hr0.mono λi' x c h=>hon i' x c h) (by rw[AQs];exact Ge cv bB) (mV.mono λi' x c h=>hon i' x c h);have AFD:Bq.toList=ds++Bq.toList.drop (xs.length*tr.size):=by rw[<-hc4,ARa]
 have hds:ds.length=xs.length*tr.size:=by
  have fp:Bq.toList.length=Bq.size:=AQY;rw[<-hc4,AQh,fp,hc3];exact Nat.min_eq_left (AQS _ Pp)
 have Ahw:(Bq.toList.drop (xs.length*tr.size)).length=Bq.size-xs.length*tr.size:=by simp
 have QP:xs.length*tr.size<=Bq.size:=by rw[hc3];exact AQS _ Pp
 have ANU:c0.length+c.length+d.length=xs.length*tr.size:=by rw[<-hds,e1];simp only[AP0]
 have ANN:d0.length+d1.length+d2.length=c.length:=by rw[e2];simp only[AP0]
 have AnU:off=(c0++d0).length:=by simp only[off,AP0,kG,hd0]
 have AI9:cv.length=d1.length:=by rw[Il,mR]
 have Y0:new=(c0++(d0++cv++d2)++d)++Bq.toList.drop (xs.length*tr.size):=by
  simp only[new];have rF:Bq.toList=(c0++d0)++(d1++(d2++d++Bq.toList.drop (xs.length*tr.size))):=by
   conv=>lhs;rw[AFD,e1,e2]
   simp only[AP4]
  generalize Bq.toList.drop (xs.length*tr.size)=iB at rF⊢;rw[rF,AnU,AI9,ARS,<-AP0,<-AP4 (c0++d0) d1,List.drop_left];simp only[AP4]
 have El:(storeVar t ⟨b,off,none⟩ vv).run P w=.ok () w':=UM (P:=P) ht hh hvc Il (by
  have:off=c0.length+d0.length:=by rw[AnU,AP0]
  omega) YZ.one
 refine⟨w',g',?_,?_,by exact st⟩
 ·simp only[Instr.storeAt,Instr.sureAddr,Sem.run_bind,Sem.run_pure,Result.andThen_ok,QN];exact El
 ·refine H.b8 st (Nr H.BZ (by simp[w']) (λq h=>by cases h)) (by simp[A7,AF]) λj x hj=>?_;rw[AQl]at hj;split at hj
  ·rename_i hkj;subst hkj;split at hj
   ·injection hj with hj;subst hj;have Sr:g'.AY k=g.AY k:=st.AY k hk;have AFU:((Blk.G3 (Bd (k::rs) σ.Aj) rs).set k (.row e m' tr (xs.set i.toNat x'))).length=σ.Aj.length:=by simp[A7,AF]
    refine .inr (.inr ⟨by rw[AFU];exact sL H aA YZ RV,by rw[Sr,AP5];exact hlen,by rw[Sr];exact QN,BU,.inr ⟨b,new.toArray,_,by rw[Sr];exact OB,vr b [] Cr,⟨el,VR,setRow_heap w b Bq _ el (0,0) hh⟩,by rw[Sr,AP5];exact Pp,by rw[Sr];exact xG,?_,rfl,?_⟩⟩)
    ·rw[Sr,<-hc3,Y0];simp only[ARB,AP0];omega
    ·rw[D1,AP5];have:(new.toArray).toList.take (xs.length*tr.size)=c0++(d0++cv++d2)++d:=by
      rw[List.toList_toArray,Y0];have fp:(c0++(d0++cv++d2)++d).length=xs.length*tr.size:=by simp only[AP0];omega
      rw[<-fp,ARS]
     rw[this];exact vj
   ·cases hj
  ·rename_i Ke;rcases Lh hj with h |⟨rr,h⟩
   ·exact .inl h
   ·obtain⟨y',iV,rfl⟩:=Dy h;exact .inr (.inl ⟨by simp only[ARC,not_or];exact⟨λe=>Ke e.symm,rr⟩,y',iV,rfl⟩)
theorem zF{f:Nat}{F G:∀u:Ty,u.V->ATC u.V}(h:∀(u:Ty) (x x0:u.V),F u x=some x0->G u x0=G u x):∀{t:Ty} {x x0:t.V},SF t x f F=some x0->SF t x0 f G=SF t x f G:=by
 induction f with
 |zero =>
  intro t x x0 hs;cases t with
  |AE a b =>
   simp only[SF]at hs⊢
   grind
  |_=>simp[SF]at hs
 |succ f ih =>
  intro t x x0 hs;cases t with
  |AE a b =>
   simp only[SF]at hs⊢
   grind
  |_=>simp[SF]at hs
theorem lJ{u:Ty}{y z:u.V}:∀(p:ATB Nat) (t:Ty) (x x0:t.V),TQ u z p t x=some x0->TQ u y p t x0=TQ u y p t x
 |[],_,_,_,_=>rfl
 |f::p,_,_,_,h=>zF  (λu' x x0 hx=>lJ p u' x x0 hx) h
theorem Aix{A:Type}{l:ATB A}{i:Nat}(h:i<l.length)(x d:A):(l.set i x).getD i d=x:=by grind
theorem sH{bs:ATB Blk}(H:Bi w g bs){t:Nat}{ti:TI}(ht:Fh P t ti){k j e ej of:Nat}{i:Int}{p:ATB Nat}{tr u:Ty}{xs:ATB tr.V}{ys:ATB u.V}{x0 x':tr.V}(hb:bs[k]?=some (.R1 e tr xs i p))(hj:bs[j]?=some (.row ej .Av u ys))
    (ZP:TQ (.sl u) [] p tr (xs.getD i.toNat tr.zero)=some x0) (vC:TQ (.sl u) ys p tr (xs.getD i.toNat tr.zero)=some x') (hc:ti.ty=.sl u/\Ma tr p=some of/\tyP tr p=some (.sl u)/\j≠k)
    {uu vv:Value} (hu:B5 w g bs.length (.ptr k i p of) uu) (hv:B5 w g bs.length (.AH j) vv) :
    ∃w' g',(Instr.storeAt t uu vv).run P w=.ok () w'/\Bi w' g' ((Blk.G3 (Bd [k,j] ((Bd [k] bs).set k (.row e .Av tr (xs.set i.toNat x0)))) [j]).set k (.row e .Av tr (xs.set i.toNat x')))/\Step [k,j] bs.length w g w' g':=by
 obtain⟨iR,rB,htp,mq⟩:=hc;have ru:=A5 hb;obtain⟨hlen,QN,BU,h0,Bp,u1,o1,x1,b,Bq,ds,q1,q2,q3,OB,Cr,⟨el,VR,hh⟩,Pp,xG,hc3,hc4,Ns⟩:=H.MG k _ hb;rw[rB]at q1;injection q1 with q1;subst q1;rw[htp]at q2;injection q2 with q2;injection q2 with q2;subst q2;rw[ZP]at q3;injection q3 with q3;subst q3
 let q:=i.toNat*tr.size+of
 let uD:=Bq.setIfInBounds q (.slice none 0 0)
 let w0:=w.setRow b uD
 let bs1:=(Bd [k] bs).set k (Blk.row e .Av tr (xs.set i.toNat x0))
 have VS:bs1.length=bs.length:=by simp[bs1,AF]
 have st:Step [k] bs.length w g w0 g :=
  ⟨rfl,rfl,rfl,by simp[w0],λq hq h=>⟨h,setRow_other w b q _ (λe=>by subst e;rw[Cr]at h;cases h)⟩,λq h=>⟨h,setRow_other w b q _ (λe=>by subst e;rw[Cr]at h;cases h)⟩,
   λq j r h _ hm=>⟨h,setRow_other w b q _ (λe=>by subst e;rw[Cr]at h;injection h with h;exact hm (by simp[h]))⟩,λ_ _=>rfl⟩
 have H1:Bi w0 g bs1:=by
  refine H.b8 st (λq hq=>H.BZ q (by simpa [w0]using hq)) (by rw[VS];exact AP2 _) λm x hm=>?_;rw[AQl]at hm;split at hm
  ·rename_i hkm;subst hkm;split at hm
   ·injection hm with hm;subst hm;exact .inr (.inr ⟨λj hj=>(by cases hj),by rw[AP5];exact hlen,QN,BU,.inr ⟨b,uD,ds,OB,Cr,⟨el,VR,setRow_heap w b Bq _ el (0,0) hh⟩,by rw[AP5];exact Pp,xG,by rw[<-hc3];simp[uD],by rw[AP5];exact hc4,Ns.mono λi x c r=>r.mono λb' q hb=>⟨hb,setRow_other w b b' _ λe=>by subst e;rw[Cr]at hb;injection hb with _ hb;simp at hb⟩⟩⟩)
   ·cases hm
  ·rename_i Ke;obtain⟨y,hy,rfl⟩:=Dy hm;exact .inr (.inl ⟨by simpa using λe:m=k=>Ke e.symm,y,hy,rfl⟩)
 have hj1:bs1[j]?=some (.row ej .Av u ys):=by
  simp only[bs1];rw[AR6 (Ne.symm mq)];simp[Bd,hj,Blk.drop,RM.Cs]
 have hk1:bs1[k]?=some (.row e .Av tr (xs.set i.toNat x0)):=by
  simp only[bs1];rw[List.getElem?_set_self (by rw[AF];exact ru)]
 obtain⟨ty,Xk,elem,bytes,HF,Pg⟩:=ti
 dsimp only at iR
 subst iR;have aA:take bs1 .Av (.sl u) (.AH j)=some (ys,.Av,[j]):=by
  simp[take,rd,hj1,I9,AV.R5,AV.YV,nodup,dM]
 have AnY:TQ (.sl u) ys p tr ((xs.set i.toNat x0).getD i.toNat tr.zero)=some x':=by
  rw[Aix Bp,lJ p tr _ _ ZP,vC]
 have hu1:B5 w0 g bs1.length (.ptr k i p of) uu:=by
  have:=hu.step st (AP2 _);rw[VS];exact this
 have iT:B5 w0 g bs1.length (.AH j) vv:=by
  have:=hv.step st (AP2 _);rw[VS];exact this
 obtain⟨w',g',El,hH,BO⟩:=Zp (σ:=⟨[],bs1⟩) H1 ht hk1 aA ⟨rB,htp,by simp[nj,RM.Cs],by simpa using Ne.symm mq⟩ AnY hu1 iT;obtain⟨_,_,_,b',hb',he⟩:=LU hu;rw[OB]at hb';injection hb' with hb';injection hb' with hb';subst hb';obtain⟨_,hvv⟩:=EZ hv;have RY:q+1<=Bq.size:=by
  obtain⟨c0,c,d,e1,kG,hrc,hr0,mV⟩:=Be.AY (λi x c h=>Ik.len h) Ns (by rw[AP5];exact Bp);obtain⟨a0,a1,a2,e2,ha0,ha1,_⟩:=ZX (Aoc w g.own k) (.sl u) ys p tr _ _ _ _ of (by rw[<-AnY];simp[List.getD,Bp]) rB hrc;have Il:=Ik.len hrc;have h1:c.length=a0.length+a1.length+a2.length:=by rw[e2];simp only[AP0]
  have h2:a1.length=1:=ha1;have h3:(i.toNat+1)*tr.size<=Bq.size:=by rw[hc3];exact AQS _ (AQq Bp Pp)
  rw[ARz,Nat.one_mul]at h3;simp only[q];omega
 have one:∀c∈[vv],c.oneCell'=true:=λc hc=>by simp at hc;subst hc;rw[hvv];rfl
 have hvc:vv.cells=[vv].toArray:=by rw[hvv];rfl
 have r1:=UM (P:=P) ht (off:=q) (setRow_heap w b Bq uD el (0,0) hh) hvc rfl (by simp[uD];exact RY) one;have r2:=UM (P:=P) ht (off:=q) hh hvc rfl (by simpa using RY) one;have hX:(uD.toList.take q++[vv]++uD.toList.drop (q+[vv].length))=(Bq.toList.take q++[vv]++Bq.toList.drop (q+[vv].length)):=by
  simp only[uD,Array.toList_setIfInBounds];rw[List.take_set_of_le (AP2 _),List.drop_set_of_lt (by simp)]
 rw[hX,setRow_setRow]at r1;have AnX:(Instr.storeAt t uu vv).run P w0=.ok () (w.setRow b (Bq.toList.take q++[vv]++Bq.toList.drop (q+[vv].length)).toArray):=by
  rw[he];simp only[Instr.storeAt,Instr.sureAddr,Sem.run_bind,Sem.run_pure,Result.andThen_ok,QN];exact r1
 have mX:w'=w.setRow b (Bq.toList.take q++[vv]++Bq.toList.drop (q+[vv].length)).toArray:=by
  rw[El]at AnX;injection AnX
 refine⟨w',g',?_,?_,(st.trans BO (by rw[VS];exact AP2 _)).weaken (by simp) (AP2 _)⟩
 ·rw[he,mX];simp only[Instr.storeAt,Instr.sureAddr,Sem.run_bind,Sem.run_pure,Result.andThen_ok,QN];exact r2
 ·rw[AR3]at hH;exact hH
theorem AdV{t:TypeId}{x v:Operand}(ho:o.op=.store t x v){ti:TI}(ht:Fh P t ti)(h:fQ σ.Aj ti (σ.Cg x) (σ.Cg v) some=some e):Oz P σ o e:=by
 have WO:∀(Gp:ATB Blk) (BJ:ATB Nat),BJ≠[]->Gp.length=σ.Aj.length ->
     (∀(a:Act) (w:World) (g:G),LC w g σ a->∃w' g',(Instr.storeAt t (a.eval x) (a.eval v)).run P w=.ok () w'/\Bi w' g' Gp/\Step BJ σ.Aj.length w g w' g')->Oz P σ o ⟨.un 0,Gp,BJ⟩:=by
  intro Gp BJ hm hl hh;refine⟨by grind,λh=>(hm h).elim,λa w g hs next Q hn=>?_⟩
  obtain⟨w',g',hr,hH,BO⟩:=hh a w g hs;unfold Oper.wp;simp only[execOp,ho,Sem.run_bind,hr];exact hn undef w' g' hH RQ BO
 unfold fQ at h;split at h
 ·rename_i k i p of vv hx;split at h
  ·rename_i a hb;split at h
   ·rename_i pe a' hg HY;split at h
    ·rename_i hc;injection h with h;subst h;refine WO _ _ (by simp) (by simp[AF]) λac w g hs=>?_;have hu:=AU hs x;rw[hx]at hu;exact wU hs.heap ht hb hg HY hc hu (AU hs v)
    ·grind
   ·grind
  ·rename_i el m tr xs hb;split at h
   ·rename_i y m' rs aA;split at h
    ·rename_i hc;split at h
     ·rename_i x' HY;injection h with h;subst h;refine WO _ _ (by simp) (by simp[AF,A7]) λac w g hs=>?_;have hu:=AU hs x;rw[hx]at hu;exact Zp hs.heap ht hb aA hc HY hu (AU hs v)
     ·grind
    ·grind
   ·grind
  ·rename_i el tr xs i' p' hb;split at h
   ·rename_i j hj;split at h
    ·rename_i ej u ys hbj;split at h
     ·rename_i x0 x' ZP vC;split at h
      ·rename_i hc;split at h
       ·rename_i hi;injection h with h;subst h;subst hi;obtain⟨c1,c2,c3,c4,c5⟩:=hc;subst c4;refine WO _ _ (by simp) (by simp[AF,A7]) λac w g hs=>?_;have hu:=AU hs x;rw[hx]at hu;have hv:=AU hs v;rw[hj]at hv;exact sH hs.heap ht hb hbj ZP vC ⟨c1,c2,c3,c5⟩ hu hv
       ·grind
      ·grind
     ·grind
    ·grind
   ·grind
  ·grind
 ·grind
end
section
variable {P:Program} {σ:St} {o:Oper} {en:GV} {e:Ij}
theorem Ze{bs:ATB Blk}{t:Ty}:∀{ps:ATB (Nat×AV)} {m m':RM} {xs xs':ATB t.V} {rs rs':ATB Nat},WG bs t m xs rs ps=some (m',xs',rs') ->
    (∀j∈m.Cs,j∈m'.Cs)/\(m=.Av↔m'=.Av)/\rs'=rs++ps.flatMap (λp=>p.2.R5)/\xs'.length=xs.length
 |[],m,m',xs,xs',rs,rs',h=>by
  obtain⟨rfl,rfl,rfl⟩:=h
  grind
 |(i,v)::ps,m,m',xs,xs',rs,rs',h=>by
  simp only[WG]at h;split at h
  ·rename_i y m1 l ht;split at h
   ·obtain⟨h1,h2,h3,h4⟩:=Ze h;obtain⟨hs,hd⟩:=dU ht;obtain⟨_,hl,_⟩:=QK ht
    grind
   ·grind
  ·grind
theorem ly{t:Ty}{E:Nat->t.V->ATB Value->Prop}(hE:∀i x c,E i x c->c.length=t.size){bs:ATB Blk}{ρ:Operand->AV}{ε:Operand->Value}{m':RM}:∀{ps:ATB (Nat×Operand)} {m:RM} {xs xs':ATB t.V} {rs rs':ATB Nat} {cs:ATB Value},
    WG bs t m xs rs (ps.map λp=>(p.1,ρ p.2))=some (m',xs',rs')->Be E 0 xs cs ->
    (∀p∈ps,∀m m1 y rs,take bs m t (ρ p.2)=some (y,m1,rs)->(m=.Av↔m'=.Av)->(∀j∈m1.Cs,j∈m'.Cs)->∃cv,(ε p.2).cells=cv.toArray/\E p.1 y cv) ->
    ∃tg,Instr.fill (λi=>some (i*t.size,t.size)) cs.toArray (ps.map λp=>(p.1,ε p.2))=some tg.toArray/\Be E 0 xs' tg
 |[],m,xs,xs',rs,rs',cs,h,hl,_=>by
  obtain⟨rfl,rfl,rfl⟩:=h;exact⟨cs,rfl,hl⟩
 |(i,x)::ps,m,xs,xs',rs,rs',cs,h,hl,hp=>by
  simp only[AQI,WG]at h;split at h
  ·rename_i y m1 l ht;split at h
   ·rename_i hi;obtain⟨h1,h2,_⟩:=Ze h;obtain⟨hs,hd⟩:=dU ht;obtain⟨cv,YZ,hey⟩:=hp (i,x) (by simp) m m1 y l ht (hd.trans h2) h1;obtain⟨c0,c,d,e1,kG,hrc,hr0,mV⟩:=Be.AY hE hl hi;have Y0:=Be.join hi hr0 (by rw[AQs];exact hey) mV;obtain⟨tg,hf,yU⟩:=ly hE h Y0 λp hp'=>hp p (by grind);refine⟨tg,?_,yU⟩;simp only[AQI];unfold Instr.fill;have S6:(ε x).cells.size=t.size:=by
     grind
    have hc:=hE _ _ _ hrc;have RY:¬i*t.size+t.size>cs.toArray.size:=by
     grind
    simp only[S6,ne_eq,not_true_eq_false,decide_false,ASa,RY,AQM,ARo];rw[<-hf];congr 1;have AI8:(ε x).cells=cv.toArray:=YZ;rw[AI8,e1,<-kG];exact Aby (by grind)
   ·grind
  ·grind
theorem w9{m m':RM}(h:m=.Av↔m'=.Av)(k:Nat)(M:ATB (Nat×ATB Nat))(j:Nat)(r:ATB Nat):Xv m k M j r=Xv m' k M j r:=by
 unfold Xv
 grind
def zt(ps:ATB (Nat×AV)):ATB (Nat×ATB Nat):=ps.flatMap λp=>Lj p.2 [p.1]
theorem wj(ps:ATB (Nat×AV)):(zt ps).map (·.1)=ps.flatMap λp=>p.2.R5:=by
 induction ps with
 |nil=>rfl
 |cons p ps ih =>
  simp only[zt,List.flatMap_cons,AQG]at ih⊢;rw[GR,ih]
theorem fH{w:World}{g:G}{bs:ATB Blk}(H:Bi w g bs){t:Ty}{ρ:Operand->AV}{ε:Operand->Value}(hρ:∀x,B5 w g bs.length (ρ x) (ε x)):∀{ps:ATB (Nat×Operand)} {m m':RM} {xs xs':ATB t.V} {rs rs':ATB Nat},
    WG bs t m xs rs (ps.map λp=>(p.1,ρ p.2))=some (m',xs',rs')->(∀j∈m.Cs,j<bs.length)->∀j∈m'.Cs,j<bs.length
 |[],m,m',xs,xs',rs,rs',h,hm=>by
  obtain⟨rfl,rfl,rfl⟩:=h;exact hm
 |(i,x)::ps,m,m',xs,xs',rs,rs',h,hm=>by
  simp only[AQI,WG]at h;split at h
  ·rename_i y m1 l ht;split at h
   ·obtain⟨hy,_⟩:=QK ht;obtain⟨Y5,Ss⟩:=WH hy;obtain⟨cv,YZ,_⟩:=B3 Y5 Ss (hρ x);exact fH H hρ h (sL H ht YZ hm)
   ·grind
  ·grind
theorem lQ{t:TypeId}{len:Nat}{Ht:Array (Nat×Operand)}(ho:o.op=.buildSlice t len Ht){fi:FI}{ti te:TI}(ht:Fh P t ti)(Ev:Fh P ti.elem te){m:RM}{xs:ATB te.ty.V}{rs:ATB Nat}
    (hp:WG σ.Aj te.ty (fi.mode te.ty) (List.replicate len te.ty.zero) [] (Ht.toList.map λp=>(p.1,σ.Cg p.2))=some (m,xs,rs))
    (hc:(ti.Ew&&te.ty.row&&nj rs m&&nodup rs&&decide (len*te.ty.size<=16777216))=true) :
    (len=0->Oz P σ o ⟨.zs,σ.Aj,[]⟩)/\(len≠0->Oz P σ o ⟨.AH σ.Aj.length,Blk.G3 (Bd rs σ.Aj) rs++[.row ti.elem m te.ty xs],rs⟩):=by
 simp only[AP3,AQ3]at hc;obtain⟨⟨⟨⟨Im,MP⟩,QW⟩,S8⟩,Ag6⟩:=hc;have hu:=BH ht Im;obtain⟨kD,BU⟩:=lH MP;obtain⟨ie,z,hi,MQ,xF,hz,oH,_⟩:=Ev.info;obtain⟨_,iO,hrs,hxl⟩:=Ze hp;rw[AQt]at hxl;rw[AQ5]at hrs;refine⟨λh0=>?_,λh0=>?_⟩
 ·subst h0;have hps:Ht.toList=[]:=by
   cases hq:Ht.toList with
   |nil=>rfl
   |cons p r =>
    rw[hq]at hp;simp only[AQI,WG]at hp;split at hp
    ·split at hp
     ·rename_i h;simp at h
     ·cases hp
    ·cases hp
  have AJH:Ht=#[]:=by apply Array.toList_inj.1;rw[hps]
  refine⟨AP2 _,λ_=>⟨[],(AQB _).symm⟩,λa w g hs next Q hn=>?_⟩
  have hr:(execOp a.eval o).run P w=.ok (.value (.slice (some ⟨w.heap.size,0,none⟩) 0 0)) (w.alloc (.cells #[] ti.elem)):=by
   simp[execOp,ho,Instr.buildSlice,run_underlying hu,sizeOf,typeInfo,hi,AJH,Instr.fill,newRow];congr 2;apply Array.eq_empty_of_size_eq_zero;simp
  unfold Oper.wp;rw[hr];have st:Step [] σ.Aj.length w g (w.alloc (.cells #[] ti.elem)) g:=⟨rfl,rfl,rfl,by show w.heap.size<=(w.heap.push _).size;simp,λb hb h=>⟨h,heap_alloc_old w _ b hb⟩,λb h=>⟨h,heap_alloc_old w _ b (Ve hs.heap (by rw[h];simp))⟩,
   λb k p h _ _=>⟨h,heap_alloc_old w _ b (Ve hs.heap (by rw[h];simp))⟩,λ_ _=>rfl⟩
  refine hn _ _ g (hs.heap.RP st λb hb=>hs.heap.BZ b (AQq st.size hb)) (o6 _) st
 ·refine⟨by simp[A7,AF],λh=>⟨[.row ti.elem m te.ty xs],?_⟩,λa w g hs next Q hn=>?_⟩
  ·have h:rs=[]:=h;rw[h];rfl
  have H:=hs.heap
  let n:=σ.Aj.length
  let M:=zt (Ht.toList.map λp=>(p.1,σ.Cg p.2))
  have yP:M.map (·.1)=rs:=by rw[hrs];exact wj _
  let i:BI:=⟨some ⟨w.heap.size,0,none⟩,len,len,te.ty.size⟩
  let g':=g.VQ (Xv m n M) (some w.heap.size) n i
  have Al2:∀b,g.own b≠.no->b≠w.heap.size:=λb h e=>by have:=Ve H h;omega
  have key:∀cells:Array Value,∃w':World,w'=w.alloc (.cells cells ti.elem)/\Step rs n w g w' g':=λcells=>⟨_,rfl,Step.VQ H.BZ rfl rfl rfl (by show w.heap.size<=(w.heap.push _).size;simp) (λq hq _=>heap_alloc_old w _ q hq)
   (λq h=>by injection h with h;omega) (AP2 _) λj r _ hm=>Qq (by rw[yP];exact hm)⟩
  have Wk:∀b j r,g.own b=.BL j r->g'.own b=Xv m n M j r:=λb j r h=>I0 (by
   intro e;injection e with e;exact Al2 b (by rw[h];simp) e.symm) h
  have dA:∀b,g.own b=.Jb->g'.own b=.Jb:=λb h=>Wq (by
   intro e;injection e with e;exact Al2 b (by rw[h];simp) e.symm) h
  have hzero:Be (Uy w g'.own n m te.ty) 0 (List.replicate len te.ty.zero) ((List.replicate len (Value.agg z.cells)).flatMap λv=>v.cells.toList):=by
   refine ZU (λi=>?_) len 0;have AJ7:(Value.agg z.cells).cells.toList=RS te.ty:=oH;rw[AJ7];cases m with
   |Av=>exact Ik.zero kD
   |sh ks=>exact H7.zero kD
  obtain⟨tg,ve,Ahk⟩:=ly (E:=Uy w g'.own n m te.ty) (ε:=a.eval) (λi x c h=>h.len) hp hzero (by
   intro p hpm m0 m1 y rs0 aA hd0 bD;obtain⟨hy,hr0,hn0,_⟩:=QK aA;obtain⟨Y5,Ss⟩:=WH hy;obtain⟨cv,YZ,hvv⟩:=B3 Y5 Ss (AU hs p.2);refine⟨cv,cw hvv YZ.one,?_⟩;have Ge:InR w g'.own n m te.ty [p.1] y cv:=by
    refine sK H aA YZ (M:=M) (λjq hj=>dq (by rw[yP];exact S8) ?_) bD (λj hj=>UV (by rw[yP];exact Xj QW j hj)) hd0
     (λb j r h _=>by rw[Wk b j r h,w9 hd0]) dA λ_ _=>rfl
    exact List.mem_flatMap.2 ⟨(p.1,σ.Cg p.2),List.mem_map.2 ⟨p,hpm,rfl⟩,hj⟩
   cases m with
   |Av=>exact Ge
   |sh ks=>exact Ge)
  have Il:=Be.len (λi x c h=>Uy.len h) Ahk;rw[hxl]at Il;have hpc:¬len*te.ty.size=0:=by
   have:0<len*te.ty.size:=Nat.mul_pos (ARL h0) BU;omega
  have AFX:(Array.range (len*ie.size)).map (z.cells[·%z.cells.size]!)=((List.replicate len (Value.agg z.cells)).flatMap λv=>v.cells.toList).toArray:=by
   have h1:=fz z.cells (s:=te.ty.size) (l:=len) (c:=len) (by rw[<-AQY,oH,S3]) BU (AP2 _);rw[AP6 (by rw[AQY,size_madeCells];exact AP2 _)]at h1;rw[<-h1,MQ];simp only[madeCells,Array.toArray_toList]
  have hr:(execOp a.eval o).run P w=.ok (.value (.slice (some ⟨w.heap.size,0,none⟩) len len)) (w.alloc (.cells tg.toArray ti.elem)):=by
   have:=run_buildSlice (P:=P) w t ti.elem len (Ht.map λ(i,x)=>(i,a.eval x)) tg.toArray ie z hu hi hz (by rw[MQ];omega) (by rw[MQ];exact hpc) (by
    rw[AFX,MQ];simpa using ve)
   simp[execOp,ho,this]
  unfold Oper.wp;rw[hr];obtain⟨w',mX,st⟩:=key tg.toArray;subst mX;have QM:g'.AY n=i:=by simp[g',G.VQ]
  refine hn _ _ g' (H.b8 st (Nr H.BZ st.size (λq h=>by injection h with h;subst h;show w.heap.size<(w.heap.push _).size;simp)) (by simp[A7,AF]) λj x hj=>?_) ?_ st
  ·rw[AQm]at hj;split at hj
   ·rcases Lh hj with h |⟨rr,h⟩
    ·exact .inl h
    ·obtain⟨y',iV,rfl⟩:=Dy h;exact .inr (.inl ⟨rr,y',iV,rfl⟩)
   ·rename_i hlen;rw[A7,AF]at hj hlen;have oD:j-σ.Aj.length=0:=by
     rcases AQk (j-σ.Aj.length)with h |h
     ·exact h
     ·rw[AQA (by simp;omega)]at hj;cases hj
    rw[oD]at hj;obtain rfl:j=n:=by simp only[n];omega
    simp only[List.getElem?_cons_zero,APY]at hj;subst hj;refine .inr (.inr ⟨λj hj=>?_,by rw[QM,hxl],by rw[QM],BU,.inr ⟨w.heap.size,tg.toArray,_,by rw[QM],by simp[g',G.VQ],⟨_,.inr rfl,heap_alloc_new w _⟩,by rw[QM,hxl];exact AP2 _,?_,by rw[QM,ARB,Il],rfl,?_⟩⟩)
    ·have:=fH H (AU hs) hp (by rw[Vr];intro j hj;cases hj) j hj;simp[A7,AF];omega
    ·rw[QM];have:len<=len*te.ty.size:=ARX _ BU;simp only[maxLen,i];omega
    ·rw[D1,List.toList_toArray,AP6 (by rw[Il,hxl];exact AP2 _)];refine Ahk.mono λi' x c h=>h.on ?_;have hap:∀b,g.own b≠.no\/g'.own b≠.no/\b≠w.heap.size->(w.alloc (.cells tg.toArray ti.elem)).heap[b]?=w.heap[b]?:=λb hb=>by
      refine heap_alloc_old w _ b ?_;rcases hb with hb |⟨hb,Ke⟩
      ·exact Ve H hb
      ·rcases AP7 b w.heap.size with h' |h'
       ·exact h'
       ·refine(hb ?_).elim;have:=H.BZ b h';simp[g',G.VQ,this,Ne.symm Ke]
     cases m with
     |Av =>
      intro b q hb;refine⟨hb,hap b (.inr ⟨by rw[hb];simp,λe=>?_⟩)⟩;subst e;simp[g',G.VQ]at hb
     |sh ks =>
      intro b hb;refine⟨hb,hap b (.inr ⟨?_,λe=>?_⟩)⟩
      ·rcases hb with hb |⟨j,_,p,hb⟩<;>rw[hb]<;>simp
      ·subst e;rcases hb with hb |⟨j,hj,p,hb⟩
       ·simp[g',G.VQ]at hb
       ·simp[g',G.VQ]at hb;have:=fH H (AU hs) hp (by rw[Vr];intro j hj;cases hj) j hj;omega
  ·refine Bs (cs:=[_]) rfl ⟨by simp[A7,AF],rfl⟩ ?_;have:g'.AY σ.Aj.length=i:=QM;simp[Cq,AV.isAgg,this,i]
end
section
variable {P:Program} {w:World} {g:G} {bs:ATB Blk}
theorem Ait(w:World)(t tx ty e:TypeId)(i:TypeInfo)(ht:P.underlying t=some (.slice e))(hi:P.info? e=some i)
    (b bR zD:Nat) (Bq:Array Value) {e0:TypeId} (hg:w.heap[b]?=some (.cells Bq e0 (0,0))) (x:Value) (n:Nat) (Gy:ATB Value) (hs:Src P i.size tx x n Gy w) (Y2:bR+n<=zD) (RY:bR*i.size+Gy.length<=Bq.size) :
    (Builtin.append_ #[t,tx] ty #[.slice (some ⟨b,0,none⟩) bR zD,x]).run P w =
     .ok (.slice (some ⟨b,0,none⟩) (bR+n) zD) (w.setRow b (Bq.toList.take (bR*i.size)++Gy++Bq.toList.drop (bR*i.size+Gy.length)).toArray):=by
 have BO:=run_storeCells_at P b (bR*i.size) e0 Gy 0 Bq w hg (by simpa using RY) hs.one;simp only[AR2]at BO;rcases hs.kind with ⟨e',hk⟩|hk<;>simp[Builtin.append_,run_underlying ht,run_underlying hk,sizeOf,typeInfo,hi,hs.len,Y2,hs.cells,Addr.add_lit,BO]
theorem vY(w:World)(t tx ty e:TypeId)(i:TypeInfo)(ht:P.underlying t=some (.slice e))(hi:P.info? e=some i)(ad:ATC Addr)(x:Value)(Gy:ATB Value)(hs:Src P i.size tx x 0 Gy w) :
    (Builtin.append_ #[t,tx] ty #[.slice ad 0 0,x]).run P w=.ok (.slice ad 0 0) w:=by
 have hn:Gy=[]:=by
  have:=hs.newsLen;simpa using this
 subst hn;cases ad<;>rcases hs.kind with ⟨e',hk⟩|hk<;>simp[Builtin.append_,run_underlying ht,run_underlying hk,sizeOf,typeInfo,hi,hs.len,hs.cells,storeCells]
theorem yy(w:World)(t tx ty e:TypeId)(i:TypeInfo)(z:Value)(ht:P.underlying t=some (.slice e))(hi:P.info? e=some i)(hz:i.zero=some z)(hzs:z.cells.size=i.size)(BU:0<i.size)
    {Pw:Nat->Prop} {Ek:Prop} {ad:ATC Addr} {len cap:Nat} {ds:ATB Value} (Xb:(len=0/\cap=0/\ds=[])\/∃b Bq e0,ad=some ⟨b,0,none⟩/\Pw b/\(w.heap[b]?=some (.cells Bq e0 (0,0))/\(Ek\/e0=e))/\len<=cap/\cap<=maxLen/\Bq.size=cap*i.size/\Bq.toList.take (len*i.size)=ds)
    {x:Value} {n:Nat} {Gy:ATB Value} (hs:Src P i.size tx x n Gy w) (xF:i.bytes≠0) (RY:(len+n)*i.bytes<=140737488355328) :
    ∃xB Tp w',(Builtin.append_ #[t,tx] ty #[.slice ad len cap,x]).run P w=.ok (.slice xB (len+n) Tp) w'/\w'.os=w.os/\w'.tape=w.tape/\w'.output=w.output/\w.heap.size<=w'.heap.size /\
     ((len+n=0/\Tp=0/\w'=w)\/∃b' OX e1,xB=some ⟨b',0,none⟩/\(w'.heap[b']?=some (.cells OX e1 (0,0))/\(Ek\/e1=e))/\len+n<=Tp/\Tp<=maxLen/\OX.size=Tp*i.size/\OX.toList.take ((len+n)*i.size)=ds++Gy /\
      ((∃Bq e0,ad=some ⟨b',0,none⟩/\Pw b'/\w.heap[b']?=some (.cells Bq e0 (0,0))/\w'=w.setRow b' OX)\/(b'=w.heap.size/\b'<w'.heap.size/\∀q,q<w.heap.size->w'.heap[q]?=w.heap[q]?))):=by
 have Al3:len+n<=140737488355328:=AQq (ARX _ (ARL xF)) RY;have h63:((len+n:Nat):Int)<=9223372036854775807:=by omega
 have tq:len+n<=maxLen:=by simp only[maxLen];omega
 have de:ds.length=len*i.size:=by
  rcases Xb with ⟨h1,h2,h3⟩|⟨b,Bq,e0,h1,_,h2,h3,h4,h5,h6⟩
  ·subst h1;subst h3;simp
  ·rw[<-h6,AQh,AQY,h5];exact Nat.min_eq_left (AQS _ h3)
 by_cases Y2:len+n<=cap
 ·rcases Xb with ⟨rfl,rfl,rfl⟩|⟨b,Bq,e0,rfl,hpw,⟨hb,hek⟩,h3,h4,h5,h6⟩
  ·obtain rfl:n=0:=by omega
   exact⟨ad,0,w,vY w t tx ty e i ht hi ad x Gy hs,rfl,rfl,rfl,AP2 _,.inl ⟨rfl,rfl,rfl⟩⟩
  ·have QP:len*i.size+Gy.length<=Bq.size:=by
     rw[hs.newsLen,h5,<-ARz];exact AQS _ Y2
   refine⟨_,cap,_,Ait w t tx ty e i ht hi b len cap Bq hb x n Gy hs Y2 QP,rfl,rfl,rfl,by simp,.inr ⟨b,_,e0,rfl,⟨setRow_heap w b Bq _ e0 (0,0) hb,hek⟩,Y2,h4,?_,?_,.inl ⟨Bq,e0,rfl,hpw,hb,rfl⟩⟩⟩
   ·simp only[ARB,AP0,AQh,AQw,AQY];omega
   ·rw[List.toList_toArray,h6];have:(len+n)*i.size=(ds++Gy).length:=by rw[AP0,de,hs.newsLen,ARz]
    rw[this,ARS]
 ·have hgt:cap<len+n:=by omega
  have holds:(Builtin.firstCells i.size len (.slice ad len cap)).run P w.drew=.ok ds.toArray w.drew:=by
   rcases Xb with ⟨rfl,rfl,rfl⟩|⟨b,Bq,e0,rfl,hpw,⟨hb,hek⟩,h3,h4,h5,h6⟩
   ·cases ad with
    |none=>exact run_firstCells_none w.drew i.size 0 0 0
    |some a=>exact run_firstCells_some w.drew i.size 0 a 0 0 [] (by simp) (by simp)
   ·refine run_firstCells_some w.drew i.size len _ len cap ds de λj u hu=>?_;rw[Z9,AQs];show w.cell? ⟨b,j,none⟩=some u;rw[QS hb,<-AQa];rw[<-h6,AQT]at hu;split at hu
    ·exact hu
    ·cases hu
  have hr:=run_append_grow_src (P:=P) w t tx ty e i z ht hi hz ad len cap ds holds x n Gy hs hgt h63 (growslice_fits hgt RY);refine⟨_,_,_,hr,rfl,rfl,rfl,by simp,.inr ⟨w.heap.size,_,e,rfl,⟨heap_alloc_new w.drew _,.inr rfl⟩,grownCap_ge w _ cap e,grownCap_le_maxLen w _ cap e tq,?_,?_,.inr ⟨rfl,by simp,λq hq=>heap_alloc_old w.drew _ q hq⟩⟩⟩
  ·have ZO:=grownCap_ge w (len+n) cap e;simp only[Array.size_append,ARB,AP0,size_zeroCells,hzs,de,hs.newsLen,<-ARz];congr 1;omega
  ·have:(len+n)*i.size=(ds++Gy).length:=by rw[AP0,de,hs.newsLen,ARz]
   rw[this,Array.toList_append,List.toList_toArray,ARS]
end
def al(w:World)(g:G)(t:Ty)(m:RM)(rs:ATB Nat)(i:Nat)(x:t.V)(c:ATB Value):Prop :=
 (t.BS=true/\c=Lc t x)\/(∃ks,m=.sh ks/\H7 w (Al g.own ks) t x c)\/∃j,rs=[j]/\Uy w g.own j m t i x c
theorem al.len{w:World}{g:G}{t:Ty}{m:RM}{rs:ATB Nat}{i:Nat}{x:t.V}{c:ATB Value}(h:al w g t m rs i x c):c.length=t.size:=by
 rcases h with ⟨hf,rfl⟩|⟨ks,_,h⟩|⟨j,_,h⟩
 ·exact H7.len (w:=default) (A:=λ_=>True) ((H7.BS hf).2 rfl)
 ·exact h.len
 ·exact h.len
theorem al.one{w:World}{g:G}{t:Ty}{m:RM}{rs:ATB Nat}{i:Nat}{x:t.V}{c:ATB Value}(h:al w g t m rs i x c):∀v∈c,v.oneCell'=true:=by
 rcases h with ⟨hf,rfl⟩|⟨ks,_,h⟩|⟨j,_,h⟩
 ·exact H7.one (w:=default) (A:=λ_=>True) ((H7.BS hf).2 rfl)
 ·exact h.one
 ·cases m with
  |Av=>exact Ik.one h
  |sh ks=>exact H7.one h
theorem Uy.BS{w:World}{own:Nat->S4}{k:Nat}{m:RM}{t:Ty}{i:Nat}{x:t.V}{c:ATB Value}(hf:t.BS=true):Uy w own k m t i x c↔c=Lc t x:=by
 cases m with
 |Av=>exact Ik.BS hf
 |sh ks=>exact H7.BS hf
section
variable {P:Program} {w:World} {g:G} {bs:ATB Blk}
theorem Agt{ds:ATB Value}{b:Nat}{Bq:Array Value}{el:TypeId}{fr:Nat×Nat}{n:Nat}(hh:w.heap[b]?=some (.cells Bq el fr))(h4:Bq.toList.take n=ds):∀j u,ds[j]?=some u->w.cell? ((⟨b,0,none⟩:Addr).add j)=some u:=by
 intro j u hu;rw[Z9,AQs,QS hh,<-AQa]
 grind
theorem Ai9(H:Bi w g bs){t:Ty}{y:AV}{ys:ATB t.V}{m:RM}{rs:ATB Nat}(h:sG bs t y=some (ys,m,rs)){v:Value}(hv:B5 w g bs.length y v){tx:TypeId}{fT:TI}(xJ:Fh P tx fT)(hk:(fT.Ew||fT.ty==.str)=true) :
    ∃Gy,Src P t.size tx v ys.length Gy w/\Be (al w g t m rs) 0 ys Gy/\(∀j∈m.Cs,j<bs.length)/\(∀j∈rs,j<bs.length)/\(rs=[]\/∃j,rs=[j]):=by
 have Ahh:(∃e',P.underlying tx=some (.slice e'))\/P.underlying tx=some .string:=by
  rw[ARh]at hk;rcases hk with hk |hk
  ·exact .inl ⟨_,BH xJ hk⟩
  ·exact .inr (S0 xJ (by grind))
 have Awf:∀(ad:ATC Addr) (c:Nat),Src P t.size tx (.slice ad 0 c) 0 [] w:=λad c =>
  ⟨Ahh,λ_=>rfl,by
   cases ad with
   |none=>exact run_firstCells_none w t.size 0 0 c
   |some a=>exact run_firstCells_some w t.size 0 a 0 c [] (by simp) (by simp),by
   cases ad with
   |none=>exact run_firstCells_none w.drew t.size 0 0 c
   |some a=>exact run_firstCells_some w.drew t.size 0 a 0 c [] (by simp) (by simp),by simp,λ_ h=>by grind⟩
 have AiG:∀(a:Addr) (n c:Nat) (Gy:ATB Value),Gy.length=n*t.size->(∀j u,Gy[j]?=some u->w.cell? (a.add j)=some u)->(∀u∈Gy,u.oneCell'=true)->Src P t.size tx (.slice (some a) n c) n Gy w:=λa n c Gy hl hn h1 =>
  ⟨Ahh,λ_=>rfl,run_firstCells_some w t.size n a n c Gy hl hn,run_firstCells_some w.drew t.size n a n c Gy hl (by simpa using hn),hl,h1⟩
 unfold sG at h;split at h
 ·obtain⟨rfl,rfl,rfl⟩:=h;obtain⟨ad,rfl⟩:=YM hv;exact⟨[],Awf ad 0,rfl,λj hj=>by(cases hj),λj hj=>by grind,.inl rfl⟩
 ·rename_i ks u xs;split at h
  ·rename_i l hl;obtain⟨e',he⟩:=BG hl;injection e' with e';subst e';subst he;obtain⟨rfl,rfl,rfl⟩:=h;obtain⟨hks,ad,cap,ds,rfl,fj,hr,hm⟩:=aW hv;have hEl:Be (al w g u (if u.BS=true then RM.Av else RM.sh ks) []) 0 xs ds:=by
    refine hr.toI λi x c h=>?_;cases hf:u.BS with
    |true=>exact .inl ⟨hf,(H7.BS hf).1 h⟩
    |false=>exact .inr (.inl ⟨ks,by simp,h⟩)
   refine⟨ds,?_,hEl,λj hj=>?_,λj hj=>by grind,.inl rfl⟩
   ·rcases hm with rfl |⟨b,off,rfl,_,hc⟩
    ·cases hr;exact Awf ad cap
    ·exact AiG _ _ _ _ (CH.len (λx c h=>H7.len h) hr) (λj u hu=>by rw[Z9];exact hc j u hu) (CH.all (λx c h=>H7.one h) hr)
   ·cases hf:u.BS with
    |true=>rw[hf]at hj;cases hj
    |false=>rw[hf]at hj;exact hks j hj
  ·grind
 ·rename_i ks s;split at h
  ·rename_i l hl;obtain⟨e',he⟩:=BG hl;injection e' with e';subst e';subst he;obtain⟨rfl,rfl,rfl⟩:=h;obtain rfl:=XC hv;refine⟨byteCells s,?_,?_,λj hj=>by(cases hj),λj hj=>by grind,.inl rfl⟩
   ·have e1:(s.data.toList.map λb=>(b.toNat:Int)).length=s.size:=by rw[AP8];rfl
    rw[e1];exact⟨Ahh,λ_=>rfl,firstCells_string s w,firstCells_string s w.drew,by rw[byteCells_length];exact(Nat.mul_one _).symm,λu hu=>by
     obtain⟨_,_,rfl⟩:=List.mem_map.1 hu;rfl⟩
   ·have:∀(l:ATB UInt8) (i:Nat),Be (al w g (.int .u8) .Av []) i (l.map λb=>(b.toNat:Int)) (l.map λb=>Value.int .u8 b.toNat):=by
      intro l;induction l with
      |nil=>exact λ_=>rfl
      |cons b l ih=>exact λi=>⟨[_],_,rfl,.inl ⟨rfl,rfl⟩,ih (i+1)⟩
    exact this _ 0
  ·grind
 ·rename_i j;split at h
  ·rename_i el m1 u xs hb;split at h
   ·rename_i l hl;obtain⟨e',he⟩:=BG hl;injection e' with e';subst e';subst he;obtain⟨rfl,rfl,rfl⟩:=h;obtain⟨hj,rfl⟩:=EZ hv;obtain⟨RV,hlen,QN,BU,hr⟩:=H.MG j _ hb;rw[hlen];have RZ:∀j'∈(if u.BS=true then RM.Av else m1).Cs,j'<bs.length:=λj' R8=>by
     split at R8
     ·cases R8
     ·grind
    have hrs:∀j'∈(if u.BS=true then[]else[j]),j'<bs.length:=λj' R8=>by
     grind
    have hsh:(if u.BS=true then[]else[j])=[]\/∃j',(if u.BS=true then[]else[j])=[j']:=by
     grind
    rcases hr with ⟨rfl,Gb⟩|⟨b,Bq,ds,ha,Cr,⟨elq,_,hh⟩,h1,h2,h3,h4,Ns⟩
    ·rw[Gb];exact⟨[],Awf _ 0,rfl,RZ,hrs,hsh⟩
    ·rw[ha];have hEl:Be (al w g u (if u.BS=true then RM.Av else m1) (if u.BS=true then[]else[j])) 0 xs ds:=by
      refine(D1.1 Ns).mono λi x c h=>?_;cases hf:u.BS with
      |true=>exact .inl ⟨hf,(Uy.BS hf).1 h⟩
      |false=>exact .inr (.inr ⟨j,by simp,by grind⟩)
     exact⟨ds,AiG _ _ _ _ (Be.len (λi x c h=>h.len) hEl) (Agt hh h4) (Be.all (λi x c h=>h.one) hEl),hEl,RZ,hrs,hsh⟩
   ·grind
  ·grind
 ·grind
def sw(off:Nat):ATB Nat->ATB Nat
 |[]=>[]
 |[i]=>[off+i]
 |a::b::r=>a::sw off (b::r)
theorem gL(off i:Nat):∀(q:ATB Nat),sw off (q++[i])=q++[off+i]
 |[]=>rfl
 |[a]=>rfl
 |a::b::q=>by
  have:=gL off i (b::q);simp only[ART]at this⊢;simp only[sw,this]
def yx(kk:ATC Nat)(n off:Nat)(m:RM)(rs:ATB Nat)(j:Nat)(r:ATB Nat):S4 :=
 if kk=some j then .BL n r else if j∈rs then(match m with |.Av=>.BL n (sw off r)|.sh _=>.Jb)else .BL j r
theorem kO{m m2 m':RM}(h:Abj m m2=some m'):(∀j,j∈m'.Cs↔j∈m.Cs\/j∈m2.Cs)/\(m=.Av↔m'=.Av)/\(m'=.Av->m2=.Av):=by
 cases m<;>cases m2<;>simp only[Abj,APY,reduceCtorEq]at h<;>subst h<;>simp[RM.Cs]
end
section
variable {P:Program} {σ:St} {o:Oper} {en:GV} {e:Ij}
theorem cy{w:World}{g:G}{bs:ATB Blk}(H:Bi w g bs){t tx ty:TypeId}{ti te fT:TI}(ht:Fh P t ti)(Ev:Fh P ti.elem te)(Im:ti.Ew=true)(xJ:Fh P tx fT)(hkx:(fT.Ew||fT.ty==.str)=true)(MP:te.ty.row=true)(xF:te.bytes≠0)
    {er:Nat} (her:er=0\/er=ti.elem) {kk:ATC Nat} {m m2 m':RM} {xs ys:ATB te.ty.V} {rs:ATB Nat} {y:AV} (kK:sG bs te.ty y=some (ys,m2,rs)) {ad:ATC Addr} {cap:Nat}
    (Xb:(xs=[]/\cap=0)\/∃k b Bq ds,kk=some k/\ad=some ⟨b,0,none⟩/\g.own b=.BL k []/\VY w b er Bq/\xs.length<=cap/\cap<=maxLen/\Bq.size=cap*te.ty.size/\Bq.toList.take (xs.length*te.ty.size)=ds/\Acb w g.own k m te.ty xs ds)
    (WR:∀k,kk=some k->k∉rs/\k∉m'.Cs/\k<bs.length) (RZ:∀j∈m.Cs,j∈m'.Cs/\j<bs.length) (iO:xs≠[]->(m=.Av↔m'=.Av)) (hj:(∀j∈m2.Cs,j∈m'.Cs)/\(m'=.Av->m2=.Av)) (AJq:∀j∈m'.Cs,j<bs.length) (QW:∀j∈m'.Cs,j∉rs)
    (RY:(xs.length+ys.length)*te.bytes<=140737488355328) {v:Value} (hv:B5 w g bs.length y v) {S5:ATB Blk} (Avr:S5.length=bs.length) (Xa:∀(j:Nat) (x:Blk),S5[j]?=some x->x=.Ba\/(j∉kk.toList++rs/\∃y,bs[j]?=some y/\x=y.drop λi=>(kk.toList++rs).contains i)) :
    ∃r w' g',(Builtin.append_ #[t,tx] ty #[.slice ad xs.length cap,v]).run P w=.ok r w'/\Bi w' g' (S5++[.row er m' te.ty (xs++ys)])/\B5 w' g' (bs.length+1) (.AH bs.length) r/\Step (kk.toList++rs) bs.length w g w' g':=by
 obtain⟨kD,BU⟩:=lH MP;obtain⟨i,z,hi,MQ,hbi,hz,oH,_⟩:=Ev.info;obtain⟨Gy,hs,VR,S7,AJK,AOt⟩:=Ai9 H kK hv xJ hkx;have hu:=BH ht Im;have hzs:z.cells.size=i.size:=by rw[<-AQY,oH,S3,MQ]
 let n:=bs.length
 let f:=yx kk n xs.length m' rs
 obtain ⟨ds,Ahs,Aht⟩:∃ds,((xs.length=0/\cap=0/\ds=[])\/∃b Bq e0,ad=some ⟨b,0,none⟩/\(∃k,kk=some k/\g.own b=.BL k [])/\(w.heap[b]?=some (.cells Bq e0 (0,0))/\(er=0\/e0=ti.elem))/\xs.length<=cap/\cap<=maxLen/\Bq.size=cap*i.size/\Bq.toList.take (xs.length*i.size)=ds) /\
     ((xs=[]/\ds=[])\/∃k,kk=some k/\Acb w g.own k m te.ty xs ds):=by
  rcases Xb with ⟨rfl,rfl⟩|⟨k,b,Bq,ds,h1,h2,h3,⟨e0,he0,h4⟩,h5,h6,h7,h8,h9⟩
  ·exact⟨[],.inl ⟨rfl,rfl,rfl⟩,.inl ⟨rfl,rfl⟩⟩
  ·exact⟨ds,.inr ⟨b,Bq,e0,h2,⟨k,h1,h3⟩,⟨h4,by rcases he0 with h |h;exact .inl h;exact her.imp id λh'=>h.trans h'⟩,h5,h6,by rw[MQ];exact h7,by rw[MQ];exact h8⟩,.inr ⟨k,h1,h9⟩⟩
 obtain⟨xB,Tp,w',El,hos,hta,hou,Ot,df⟩:=yy (P:=P) w t tx ty ti.elem i z hu hi hz hzs (by rw[MQ];exact BU) Ahs (by rw[MQ];exact hs) (by rw[hbi];exact xF) (by rw[hbi];exact RY)
 let i':BI:=⟨xB,xs.length+ys.length,Tp,te.ty.size⟩
 have lt:∀b,g.own b≠.no->b<w.heap.size:=λb h=>Ve H h;obtain ⟨ob,yY,V4,hh,R9⟩:∃ob:ATC Nat,(∀q,ob=some q->w.heap.size<=q/\q<w'.heap.size) /\
     (∀q,q<w.heap.size->(∀k p,g.own q=.BL k p->k∉kk.toList++rs)->w'.heap[q]?=w.heap[q]?) /\
     (∀b,(g.own b=.Jb\/∃j r,g.own b=.BL j r/\(kk≠some j\/r≠[]))->w'.heap[b]?=w.heap[b]?) /\
     ((xs++ys=[]/\Tp=0)\/∃b' OX,xB=some ⟨b',0,none⟩/\VY w' b' er OX/\xs.length+ys.length<=Tp/\Tp<=maxLen/\OX.size=Tp*te.ty.size/\OX.toList.take ((xs.length+ys.length)*te.ty.size)=ds++Gy/\(g.VQ f ob n i').own b'=.BL n []):=by
  rcases df with ⟨h0,Gb,rfl⟩|⟨b',OX,e1,h1,⟨h2,he1⟩,h3,h4,h5,h6,h7⟩
  ·refine⟨none,λq h=>by(cases h),λq _ _=>rfl,λb _=>rfl,.inl ⟨?_,Gb⟩⟩;apply AQR;rw[AP0];omega
  ·rw[MQ]at h5 h6;have h2:VY w' b' er OX:=⟨e1,by rcases her with h |h;exact .inl h;exact he1.imp id λh'=>h'.trans h.symm,h2⟩;rcases h7 with ⟨Bq,e0,_,⟨k,hk,Cr⟩,hb,rfl⟩|⟨rfl,Bp,hkp⟩
   ·have Ke:∀b,(g.own b=.Jb\/∃j r,g.own b=.BL j r/\(kk≠some j\/r≠[]))->b≠b':=λb hq e=>by
      subst e;rcases hq with hq |⟨j,r,hq,hj⟩
      ·rw[Cr]at hq;cases hq
      ·rw[Cr]at hq;injection hq with e1 e2;subst e1;subst e2;rcases hj with hj |hj
       ·exact hj hk
       ·exact hj rfl
    refine⟨none,λq h=>by(cases h),kP Cr (by simp[hk]),λb hb=>setRow_other w b' b OX (Ke b hb),.inr ⟨b',OX,h1,h2,h3,h4,h5,h6,?_⟩⟩;rw[I0 (by simp) Cr];simp[f,yx,hk]
   ·refine⟨some w.heap.size,λq h=>by injection h with h;subst h;exact⟨AP2 _,Bp⟩,λq hq _=>hkp q hq,λb hb=>hkp b (lt b ?_),.inr ⟨_,OX,h1,h2,h3,h4,h5,h6,by simp[G.VQ]⟩⟩;rcases hb with hb |⟨j,r,hb,_⟩<;>rw[hb]<;>simp
 let g':=g.VQ f ob n i'
 have Wk:∀b j r,g.own b=.BL j r->g'.own b=f j r:=λb j r h=>I0 (λe=>by
  have h1:=(yY b e).1;have h2:=lt b (by rw[h];simp);omega) h
 have dA:∀b,g.own b=.Jb->g'.own b=.Jb:=λb h=>Wq (λe=>by
  have h1:=(yY b e).1;have h2:=lt b (by rw[h];simp);omega) h
 have st:Step (kk.toList++rs) n w g w' g':=Step.VQ H.BZ hos hta hou Ot V4 (λq h=>(yY q h).1) (AP2 _) λj r _ hm=>by
  have h1:kk≠some j:=λe=>hm (by simp[e]);have h2:j∉rs:=λe=>hm (by simp[e]);simp[f,yx,h1,h2]
 have AgQ:∀j r,j∈m'.Cs->f j r=.BL j r:=λj r hj=>by
  have h1:kk≠some j:=λe=>(WR j e).2.1 hj;simp[f,yx,h1,QW j hj]
 have AnV:∀(k i:Nat) (x:te.ty.V) (c:ATB Value),kk=some k->xs≠[]->Uy w g.own k m te.ty i x c->Uy w' g'.own n m' te.ty i x c:=by
  intro k i x c hk Ke VR;refine VR.on ?_;have hd:=iO Ke;cases m with
  |Av =>
   have:m'=.Av:=hd.1 rfl;subst this;intro b q hb;exact⟨by rw[Wk b k _ hb];simp[f,yx,hk],hh b (.inr ⟨k,_,hb,.inr (by simp)⟩)⟩
  |sh ks =>
   cases m' with
   |Av=>have:=hd.2 rfl;cases this
   |sh UD =>
    intro b hb;rcases hb with hb |⟨j,hj,r,hb⟩
    ·exact⟨.inl (dA b hb),hh b (.inl hb)⟩
    ·have vi:j∈UD:=(RZ j hj).1;exact⟨.inr ⟨j,vi,r,by rw[Wk b j r hb];exact AgQ j r vi⟩,hh b (.inr ⟨j,r,hb,.inl λe=>(WR j e).2.1 vi⟩)⟩
 have AF3:∀(i:Nat) (x:te.ty.V) (c:ATB Value),al w g te.ty m2 rs i x c->Uy w' g'.own n m' te.ty (xs.length+i) x c:=by
  intro i x c VR;rcases VR with ⟨hf,rfl⟩|⟨ks,rfl,hr⟩|⟨j,hrj,hr⟩
  ·exact(Uy.BS hf).2 rfl
  ·cases m' with
   |Av=>have:=hj.2 rfl;cases this
   |sh UD =>
    refine H7.mono (λb hb=>?_) hr;rcases hb with hb |⟨j,mq,r,hb⟩
    ·exact⟨.inl (dA b hb),hh b (.inl hb)⟩
    ·have vi:j∈UD:=hj.1 j mq;exact⟨.inr ⟨j,vi,r,by rw[Wk b j r hb];exact AgQ j r vi⟩,hh b (.inr ⟨j,r,hb,.inl λe=>(WR j e).2.1 vi⟩)⟩
  ·have mq:kk≠some j:=λe=>(WR j e).1 (by simp[hrj]);have rr:j∈rs:=by simp[hrj]
   refine hr.on ?_;cases m2 with
   |Av =>
    cases m' with
    |Av =>
     intro b q hb;refine⟨?_,hh b (.inr ⟨j,_,hb,.inl mq⟩)⟩;rw[Wk b j _ hb];simp only[f,yx,AQf mq,AQe rr,gL]
    |sh UD =>
     intro b q hb;exact⟨.inl (by rw[Wk b j _ hb];simp only[f,yx,AQf mq,AQe rr]),hh b (.inr ⟨j,_,hb,.inl mq⟩)⟩
   |sh ks =>
    cases m' with
    |Av=>have:=hj.2 rfl;cases this
    |sh UD =>
     intro b hb;rcases hb with hb |⟨j',AJk,r,hb⟩
     ·exact⟨.inl (dA b hb),hh b (.inl hb)⟩
     ·have vi:j'∈UD:=hj.1 j' AJk;exact⟨.inr ⟨j',vi,r,by rw[Wk b j' r hb];exact AgQ j' r vi⟩,hh b (.inr ⟨j',r,hb,.inl λe=>(WR j' e).2.1 vi⟩)⟩
 have QM:g'.AY n=i':=by simp[g',G.VQ]
 refine⟨_,w',g',El,H.b8 st (Nr H.BZ Ot λq h=>(yY q h).2) (by simp[Avr]) λj x R8=>?_,?_,st⟩
 ·rw[AQm]at R8;split at R8
  ·rcases Xa j x R8 with h |h
   ·exact .inl h
   ·exact .inr (.inl h)
  ·rename_i hlen;rw[Avr]at R8 hlen;have oD:j-bs.length=0:=by
    rcases AQk (j-bs.length)with h |h
    ·exact h
    ·rw[AQA (by simp;omega)]at R8;cases R8
   rw[oD]at R8;obtain rfl:j=n:=by simp only[n];omega
   simp only[List.getElem?_cons_zero,APY]at R8;subst R8;refine .inr (.inr ⟨λj hj=>by have:=AJq j hj;simp[Avr];omega,by rw[QM,AP0],by rw[QM],BU,?_⟩);rw[QM,AP0];refine R9.imp id λ⟨b',OX,h1,h2,h3,h4,h5,h6,h7⟩=>⟨b',OX,_,h1,h7,h2,h3,h4,h5,h6,?_⟩;rw[D1];refine Be.append ?_ ?_
   ·rcases Aht with ⟨rfl,rfl⟩|⟨k,hk,Ns⟩
    ·rfl
    ·rcases Classical.em (xs=[])with hx |hx
     ·subst hx;have:ds=[]:=by cases m<;>exact Ns
      subst this;rfl
     ·exact(D1.1 Ns).mono λi x c h=>AnV k i x c hk hx h
   ·rw[AQs];have shift:∀(ys:ATB te.ty.V) (cs:ATB Value) (a b:Nat),Be (al w g te.ty m2 rs) a ys cs->Be (Uy w' g'.own n m' te.ty) (xs.length+a) ys cs:=by
     intro ys;induction ys with
     |nil=>exact λcs a _ h=>h
     |cons y ys ih =>
      intro cs a b ⟨c,d,e,h1,h2⟩;exact⟨c,d,e,AF3 a y c h1,ih d (a+1) b h2⟩
    exact shift ys Gy 0 0 VR
 ·refine Bs (cs:=[_]) rfl ⟨AQC _,rfl⟩ ?_;have:g'.AY bs.length=i':=QM;simp[Cq,AV.isAgg,this,i']
end
section
variable {P:Program} {σ:St} {o:Oper} {en:GV} {e:Ij} {fi:FI}
theorem Aap{c:Call}{x y:AV}(h:Qk σ c.args=[x,y]):∃a b,c.args=#[a,b]/\σ.Cg a=x/\σ.Cg b=y:=by
 unfold Qk at h;cases hc:c.args with
 |mk l =>
  rw[hc]at h
  match l,h with
  |[a,b],h =>
   grind
  |[],h=>grind
  |[_],h=>grind
  |_::_::_::_,h=>grind
theorem Afd{c:Call}{x:AV}(h:Qk σ c.args=[x]):∃a,c.args=#[a]/\σ.Cg a=x:=by
 unfold Qk at h;cases hc:c.args with
 |mk l =>
  rw[hc]at h
  match l,h with
  |[a],h =>
   grind
  |[],h=>grind
  |_::_::_,h=>grind
theorem zX{ts:Array TypeId}{t u:TypeId}(h:ts.toList=[t,u]):ts=#[t,u]:=by grind
theorem Ko{c:Call}(ho:o.op=.call c){b:Builtin}(hc:c.callee=.builtin b)(ρ:Operand->Value) :
    execOp ρ o=builtin b c.argTypes o.type (c.args.map λ|.const _=>true |_=>false) (c.args.map ρ):=by
 simp only[execOp,ho,resolve,hc];rfl
theorem AmM{c:Call}(ho:o.op=.call c)(hc:c.callee=.builtin .len){x:AV}(hx:Qk σ c.args=[x]){t:TypeId}{r:ATB TypeId}(aB:c.argTypes.toList=t::r){ti:TI}(ht:Fh P t ti){z:AV}(h:rS σ.Aj ti x some=some z):Oz P σ o ⟨z,σ.Aj,[]⟩:=by
 obtain⟨a0,ha,rfl⟩:=Afd hx;refine .Jc <| Mb (s:=λρ=>Builtin.len_ c.argTypes o.type #[ρ a0]) (λρ=>?_) λa w g hs=>?_
 ·rw[Ko ho hc,ha];simp[builtin]
 ·obtain⟨z',e,hG⟩:=Amt (n:=σ.Aj.length) hs.heap ht h (AU hs a0) o.type _ (by rw[<-AQa,aB];rfl)
  grind
theorem AiU{c:Call}(ho:o.op=.call c){mx:Bool}(hc:c.callee=.builtin (if mx then .max else .min)){x y:AV}(hx:Qk σ c.args=[x,y]){z:AV}(h:mmA mx x y some=some z):Oz P σ o ⟨z,σ.Aj,[]⟩:=by
 obtain⟨a0,a1,ha,rfl,rfl⟩:=Aap hx;refine .Jc <| Mb (s:=λρ=>if mx then Builtin.max_ c.argTypes o.type #[ρ a0,ρ a1]else Builtin.min_ c.argTypes o.type #[ρ a0,ρ a1]) (λρ=>?_) λa w g hs=>?_
 ·rw[Ko ho hc,ha];cases mx<;>simp[builtin]
 ·obtain⟨z',e,hG⟩:=Awc  h (AU hs a0) (AU hs a1) _ _;injection e with e;subst e;exact hG
theorem Ai8{w:World}{g:G}{bs:ATB Blk}(H:Bi w g bs){t:Ty}{y:AV}{ys:ATB t.V}{m:RM}{rs:ATB Nat}(h:sG bs t y=some (ys,m,rs)){v:Value}(hv:B5 w g bs.length y v):(∀j∈m.Cs,j<bs.length):=by
 unfold sG at h;split at h
 ·obtain⟨rfl,rfl,rfl⟩:=h;intro j hj;cases hj
 ·split at h
  ·obtain⟨rfl,rfl,rfl⟩:=h;intro j hj;split at hj
   ·cases hj
   ·exact(aW hv).1 j hj
  ·grind
 ·split at h
  ·obtain⟨rfl,rfl,rfl⟩:=h;intro j hj;cases hj
  ·grind
 ·rename_i k;split at h
  ·rename_i el m1 u xs hb;split at h
   ·obtain⟨rfl,rfl,rfl⟩:=h;intro j hj;split at hj
    ·cases hj
    ·exact(H.MG k _ hb).1 j hj
   ·grind
  ·grind
 ·grind
theorem zG{c:Call}(ho:o.op=.call c)(hc:c.callee=.builtin .append){x y:AV}(hx:Qk σ c.args=[x,y]){t tx:TypeId}(aB:c.argTypes.toList=[t,tx]){ti te fT:TI}(ht:Fh P t ti)(Ev:Fh P ti.elem te)(Im:ti.Ew=true)(xJ:Fh P tx fT)(hkx:(fT.Ew||fT.ty==.str)=true)
    (h:Zv fi σ.Aj ti.elem te x y some=some e):Oz P σ o e:=by
 obtain⟨a0,a1,ha,rfl,rfl⟩:=Aap hx;have El:∀(a:Act) (w:World) (r:Value) (w':World),(Builtin.append_ #[t,tx] o.type #[a.eval a0,a.eval a1]).run P w=.ok r w'->(execOp a.eval o).run P w=.ok (.value r) w':=by
  intro a w r w' hr;rw[Ko ho hc,ha,zX aB];simp[builtin,hr]
 have WO:∀(Gp:ATB Blk) (BJ:ATB Nat),σ.Aj.length+1=Gp.length->(BJ=[]->∃l,Gp=σ.Aj++l) ->
     (∀(a:Act) (w:World) (g:G),LC w g σ a->∃r w' g',(Builtin.append_ #[t,tx] o.type #[a.eval a0,a.eval a1]).run P w=.ok r w'/\Bi w' g' Gp/\B5 w' g' (σ.Aj.length+1) (.AH σ.Aj.length) r/\Step BJ σ.Aj.length w g w' g')->Oz P σ o ⟨.AH σ.Aj.length,Gp,BJ⟩:=by
  intro Gp BJ hl hm hh;refine⟨by show σ.Aj.length<=Gp.length;omega,hm,λa w g hs next Q hn=>?_⟩
  obtain⟨r,w',g',hr,hH,hv,BO⟩:=hh a w g hs;unfold Oper.wp;rw[El a w r w' hr];exact hn r w' g' hH (by show B5 w' g' Gp.length _ _;rw[<-hl];exact hv) BO
 have hlen:∀(BJ l:ATB Nat),(Blk.G3 (Bd BJ σ.Aj) l).length=σ.Aj.length:=λBJ l=>by rw[A7,AF]
 unfold Zv at h;split at h
 ·rename_i hzs;split at h
  ·cases h
  ·rename_i hr0;have gp:(te.ty.row&&te.bytes !=0)=true:=by simpa using hr0
   rw[AP3]at gp;have xF:te.bytes≠0:=by simpa using gp.2
   split at h
   ·rename_i ys m2 rs kK;split at h
    ·rename_i m' hj;split at h
     ·rename_i QW;split at h
      ·rename_i RY;injection h with h;subst h;refine WO _ _ (by rw[AP0,hlen];rfl) (λh=>⟨[.row ti.elem m' te.ty ys],by have h:rs=[]:=h;rw[h];rfl⟩) λa w g hs=>?_;have hv0:=AU hs a0;rw[hzs]at hv0;obtain⟨ad,hv0⟩:=YM hv0;rw[hv0];have Y4:(∀j∈m'.Cs,j∈m2.Cs)/\(∀j∈m2.Cs,j∈m'.Cs)/\(m'=.Av->m2=.Av):=by
        obtain⟨h1,h2,h3⟩:=kO hj;refine⟨λj hj=>?_,λj hj=>(h1 j).2 (.inr hj),h3⟩;rcases(h1 j).1 hj with h |h
        ·cases m2 with
         |Av=>rw[Vr]at h;cases h
         |sh ks=>exact h
        ·exact h
       have:=cy (er:=ti.elem) (her:=.inr rfl) (kk:=none) (m:=.Av) (xs:=([]:ATB te.ty.V)) (cap:=0) (ad:=ad) (m':=m') (S5:=Blk.G3 (Bd rs σ.Aj) rs) (ty:=o.type) hs.heap ht Ev Im xJ hkx gp.1 xF kK (.inl ⟨rfl,rfl⟩) (λk hk=>by cases hk) (λj hj=>by cases hj) (λh=>(h rfl).elim) Y4.2
        (λj hj=>Ai8 hs.heap kK (AU hs a1) j (Y4.1 j hj)) (Xj QW) (by simpa using RY) (AU hs a1) (hlen rs rs) (λj x hx=>by
         rcases Lh hx with h |⟨rr,h⟩
         ·exact .inl h
         ·obtain⟨y',iV,rfl⟩:=Dy h;exact .inr ⟨by simpa using rr,y',iV,rfl⟩)
       simpa using this
      ·cases h
     ·cases h
    ·cases h
   ·cases h
 ·rename_i k hk;split at h
  ·cases h
  ·rename_i hr0;have gp:(te.ty.row&&te.bytes !=0)=true:=by simpa using hr0
   rw[AP3]at gp;have xF:te.bytes≠0:=by simpa using gp.2
   split at h
   ·rename_i e' m t' xs0 ys m2 rs hb kK;split at h
    ·rename_i xs m' vb hj;split at h
     ·rename_i vd;split at h
      ·rename_i RY;injection h with h;subst h;obtain⟨he,hrk,QW⟩:=vd;obtain⟨ec,hec⟩:=BG vb;injection ec with ec;subst ec;simp only at hec;subst hec;have yT:k∉rs:=by simpa using hrk
       have Yf:=Xj QW;refine WO _ _ (by rw[AP0,hlen];rfl) (λh=>by cases h) λa w g hs=>?_;have hv0:=AU hs a0;rw[hk]at hv0;obtain⟨mU,hv0⟩:=EZ hv0;obtain⟨RV,hl,QN,BU,hrr⟩:=hs.heap.MG k _ hb;rw[hv0,hl];obtain⟨h1,h2,h3⟩:=kO hj;have S7:=Ai8 hs.heap kK (AU hs a1);have:=cy (er:=e') (her:=he.symm.imp id λh=>h.1.symm) (kk:=some k) (m:=m) (xs:=xs0) (ad:=(g.AY k).a) (cap:=(g.AY k).cap) (m':=m') (S5:=Blk.G3 (Bd (k::rs) σ.Aj) (k::rs)) (ty:=o.type) hs.heap ht Ev Im xJ hkx gp.1 xF kK
        (hrr.imp id λ⟨b,Bq,ds,p1,p2,p3,p4,p5,p6,p7,p8⟩=>⟨k,b,Bq,ds,rfl,p1,p2,p3,p4,p5,p6,p7,p8⟩)
        (λk' YB=>by injection YB with YB;subst YB;exact⟨yT,λh=>Yf k h (by simp),mU⟩) (λj hj=>⟨(h1 j).2 (.inl hj),RV j hj⟩) (λ_=>h2) ⟨λj hj=>(h1 j).2 (.inr hj),h3⟩
        (λj hj=>by rcases(h1 j).1 hj with h |h;exact RV j h;exact S7 j h) (λj hj h=>Yf j hj (AQo _ h)) RY (AU hs a1) (hlen (k::rs) (k::rs)) (λj x hx=>by
         rcases Lh hx with h |⟨rr,h⟩
         ·exact .inl h
         ·obtain⟨y',iV,rfl⟩:=Dy h;exact .inr ⟨by simpa using rr,y',iV,rfl⟩)
       simpa using this
      ·cases h
     ·cases h
    ·cases h
   ·cases h
 ·cases h
theorem AmJ{t:TypeId}{x:Operand}{hi:ATC Operand}(ho:o.op=.slice t x none hi none){ti:TI}(ht:Fh P t ti)(Im:ti.Ew=true){te:TI}(Ev:Fh P ti.elem te)
    (h:AcA te.ty σ.Aj (σ.Cg x) (hi.map σ.Cg) some=some e):Oz P σ o e:=by
 unfold AcA at h;split at h
 ·rename_i k ks kk hv hx hh;split at h
  ·rename_i el m tr xs hb;split at h
   ·rename_i QW;obtain⟨QW,htt⟩:=QW;subst htt;split at h
    ·rename_i hc;injection h with h;subst h;obtain⟨h0,h1⟩:=hc;refine⟨by simp[A7,AF],λh=>by(cases h),λa w g hs next Q hn=>?_⟩
     have H:=hs.heap;have hxo:=AU hs x;rw[hx]at hxo;obtain⟨hk,y9⟩:=EZ hxo;obtain⟨RV,hlen,QN,BU,hr⟩:=H.MG k _ hb;have hhi:=ZS hs hi;rw[hh]at hhi;obtain⟨vB,hve⟩:∃v,hi.map a.eval=some v/\v=.int kk hv:=by
      cases hq:hi.map a.eval with
      |none=>rw[hq]at hhi;exact hhi.elim
      |some v=>rw[hq]at hhi;exact⟨v,rfl,DL hhi⟩
     obtain⟨AJ1,AGm⟩:=hve;subst AGm;have fj:(g.AY k).len<=(g.AY k).cap:=by
      rw[hlen];rcases hr with ⟨rfl,Gb⟩|⟨b,Bq,ds,_,_,_,h1,_⟩
      ·simp
      ·exact h1
     have had:(if(g.AY k).cap=0 then(g.AY k).a else(g.AY k).a.map (·.add (0*te.ty.size)))=(g.AY k).a:=by
      split
      ·rfl
      ·rename_i Gb;rcases hr with ⟨_,Pp⟩|⟨b,Bq,ds,ha,_⟩
       ·exact(Gb Pp).elim
       ·rw[ha];simp[Z9]
     have El:(execOp a.eval o).run P w=.ok (.value (.slice (g.AY k).a hv.toNat (g.AY k).cap)) w:=by
      have oA:=Sm (P:=P) (w:=w) (isS:=true) (len:=(g.AY k).len) (cap:=(g.AY k).cap) (lo:=none) (hi:=some (.int kk hv)) (l:=0) (h:=hv) (.inl ⟨rfl,rfl⟩) (.inr ⟨kk,rfl⟩) (ARj _) h0 (by rw[hlen];exact h1) fj;have:(Instr.sliceAt t (.slice (g.AY k).a (g.AY k).len (g.AY k).cap) none (some (.int kk hv)) none).run P w=.ok (.slice (g.AY k).a hv.toNat (g.AY k).cap) w:=by
       rw[Lz ht Im];simp[Instr.slice,underlying,BH ht Im,oA,D2 Ev];simpa using had
      simp[execOp,ho,y9,AJ1,this]
     unfold Oper.wp;rw[El]
     let n:=σ.Aj.length
     let i':BI:=⟨(g.AY k).a,hv.toNat,(g.AY k).cap,te.ty.size⟩
     let f:Nat->ATB Nat->S4:=λj r=>if j=k then .BL n r else .BL j r
     let g':=g.VQ f none n i'
     have st:Step [k] n w g w g':=Step.VQ H.BZ rfl rfl rfl (AP2 _) (λ_ _ _=>rfl) (λq h=>by cases h) (AP2 _) λj r _ hm=>by
      simp only[AQn]at hm;simp[f,hm]
     have QM:g'.AY n=i':=by simp[g',G.VQ]
     have hvl:hv.toNat<=xs.length:=by have uX:(hv:Int)<=(xs.length:Int):=h1;exact Int.toNat_le.2 uX
     have Yf:=Xj QW;refine hn _ w g' (H.b8 st (Nr H.BZ (AP2 _) λq h=>by cases h) (by simp[A7,AF]) λj y hj=>?_) ?_ st
     ·rw[AQm]at hj;split at hj
      ·rcases Lh hj with h |⟨rr,h⟩
       ·exact .inl h
       ·obtain⟨y',iV,rfl⟩:=Dy h;exact .inr (.inl ⟨rr,y',iV,rfl⟩)
      ·rename_i Bp;rw[A7,AF]at hj Bp;have oD:j-σ.Aj.length=0:=by
        rcases AQk (j-σ.Aj.length)with h |h
        ·exact h
        ·rw[AQA (by simp;omega)]at hj;cases hj
       rw[oD]at hj;obtain rfl:j=n:=by simp only[n];omega
       simp only[List.getElem?_cons_zero,APY]at hj;subst hj;refine .inr (.inr ⟨λj hj=>by have:=RV j hj;simp[A7,AF];omega,by rw[QM,AQh];simp only[i'];omega,by rw[QM],BU,?_⟩);rw[QM];rcases hr with ⟨rfl,Gb⟩|⟨b,Bq,ds,ha,Cr,Aha,p1,p2,p3,p4,Ns⟩
       ·exact .inl ⟨by simp,Gb⟩
       ·refine .inr ⟨b,Bq,ds.take (hv.toNat*te.ty.size),ha,by rw[I0 (by simp) Cr];simp[f],Aha,by rw[AQh];simp only[i'];omega,p2,p3,?_,?_⟩
        ·rw[AQh,Nat.min_eq_left hvl,<-p4,List.take_take,Nat.min_eq_left (AQS _ hvl)]
        ·rw[D1];refine(Be.takeN (λi x c h=>Uy.len h) hv.toNat (D1.1 Ns)).mono λi x c VR=>VR.on ?_;cases m with
         |Av=>exact λb q hb=>⟨by rw[I0 (by simp) hb];simp[f],rfl⟩
         |sh ks =>
          intro b hb;rcases hb with hb |⟨j,hj,r,hb⟩
          ·exact⟨.inl (Wq (by simp) hb),rfl⟩
          ·refine⟨.inr ⟨j,hj,r,?_⟩,rfl⟩;have:j≠k:=λe=>Yf j hj (by simp[e]);rw[I0 (by simp) hb];simp[f,this]
     ·refine Bs (cs:=[_]) rfl ⟨by simp[A7,AF],rfl⟩ ?_;have:g'.AY σ.Aj.length=i':=QM;simp[Cq,AV.isAgg,this,i']
    ·cases h
   ·cases h
  ·cases h
 ·cases h
theorem Ad8(w:World)(t tx ty e:TypeId)(i:TypeInfo)(z:Value)(ht:P.underlying t=some (.slice e)){k':IntKind}(hk:P.underlying tx=some (.int k'))(hi:P.info? e=some i)(hz:i.zero=some z)(ad:ATC Addr)(k:IntKind)(l:Int)(h0:0<=l)(RY:l*(i.bytes:Int)<=140737488355328)(hb:i.bytes≠0)(hs:i.size≠0) :
    (l=0/\(Builtin.append_ #[t,tx] ty #[.slice ad 0 0,.int k l]).run P w=.ok (.slice ad 0 0) w)\/(0<l /\
     (Builtin.append_ #[t,tx] ty #[.slice ad 0 0,.int k l]).run P w=.ok (.slice (some ⟨w.heap.size,0,none⟩) l.toNat (grownCap w l.toNat 0 e)) (w.drew.alloc (.cells (Builtin.zeroCells z.cells l.toNat++Builtin.zeroCells z.cells (grownCap w l.toNat 0 e-l.toNat)) e))):=by
 have QP:l<=140737488355328:=by
  have h1:(1:Int)<=(i.bytes:Int):=by omega
  have:=Int.mul_le_mul_of_nonneg_left h1 h0;omega
 have hw:IntKind.i64.wrap l=l:=by rw[IntKind.wrap_i64];omega
 have n1:¬l<0:=by omega
 have n2:¬(281474976710656<l*(i.bytes:Int)):=by omega
 rcases Int.le_iff_lt_or_eq.1 h0 with hp |hp
 ·refine .inr ⟨hp,?_⟩;have hn:¬(l.toNat=0):=by omega
  have hn':¬(l<=0):=by omega
  have hns:¬(l.toNat*i.size=0):=λh=>by rcases Nat.mul_eq_zero.1 h with h |h;exact hn h;exact hs h
  have h48:¬(281474976710656<Builtin.nextslicecap l.toNat 0*i.bytes):=by
   unfold Builtin.nextslicecap;rw[AQe (by omega)];have:((l.toNat*i.bytes:Nat):Int)=l*(i.bytes:Int):=by rw[Int.natCast_mul,Int.toNat_of_nonneg h0]
   omega
  have h63:¬(9223372036854775807<max l 0):=by omega
  have hf:(Builtin.firstCells i.size 0 (.slice ad 0 0)).run P w.drew=.ok #[] w.drew:=by
   cases ad with
   |none=>exact run_firstCells_none w.drew i.size 0 0 0
   |some a=>exact run_firstCells_some w.drew i.size 0 a 0 0 [] (by simp) (by simp)
  simp[Builtin.append_,run_underlying ht,run_underlying hk,sizeOf,typeInfo,zeroValue,asInt,asIntOf,hi,hz,hw,n1,n2,hn',h63,h48,hns,Question.forced,hf,newRow,grownCap]
 ·subst hp;refine .inl ⟨rfl,?_⟩;cases ad<;>simp[Builtin.append_,run_underlying ht,run_underlying hk,sizeOf,typeInfo,asInt,asIntOf,hi,IntKind.wrap_i64,storeCells]
theorem Ad7(l:Int)(b:Nat)(h0:0<=l)(h:l*(b:Int)<=140737488355328)(hb:b≠0):l.toNat<=maxLen:=by
 have h1:1<=(b:Int):=by omega
 have:=Int.mul_le_mul_of_nonneg_left h1 h0;simp only[maxLen];omega
theorem pR(z:Array Value)(n:Nat):Builtin.zeroCells z n=madeCells z (n*z.size):=rfl
theorem wD{c:Call}(ho:o.op=.call c)(hc:c.callee=.builtin .append){x y:AV}(hx:Qk σ c.args=[x,y]){t tx:TypeId}(aB:c.argTypes.toList=[t,tx]){ti te fT:TI}(ht:Fh P t ti)(Ev:Fh P ti.elem te)(Im:ti.Ew=true)(xJ:Fh P tx fT)(hkx:fT.ty.isInt=true)
    (h:Zw fi σ.Aj ti.elem te x y some=some e):Oz P σ o e:=by
 obtain⟨a0,a1,ha,ZP,kM⟩:=Aap hx;obtain⟨k',YB⟩:∃k',fT.ty=.int k':=by
  cases hq:fT.ty with
  |int k=>grind
  |_=>rw[hq]at hkx;cases hkx
 unfold Zw at h;split at h
 ·rename_i ks k l;split at h
  ·rename_i MP;split at h
   ·rename_i hl;injection h with h;subst h;obtain⟨kD,BU⟩:=lH MP.1;obtain⟨i,z,hi,MQ,hbs,hz,oH,_⟩:=Ev.info;refine⟨by simp,λ_=>⟨_,rfl⟩,λa w g hs next Q hn=>?_⟩
    have e1:=AU hs a0;rw[ZP]at e1;obtain⟨ad,e1⟩:=YM e1;have e2:=AU hs a1;rw[kM]at e2;have e2:=DL e2;have hzz:z.cells.size=i.size:=by rw[MQ,<-AQY,oH,S3]
    have ay:∀(r:Value) (w':World),(Builtin.append_ #[t,tx] o.type #[.slice ad 0 0,.int k l]).run P w=.ok r w'->(execOp a.eval o).run P w=.ok (.value r) w':=λr w' hr=>by
     rw[Ko ho hc,ha,zX aB];simp[builtin,e1,e2,hr]
    unfold Oper.wp;rcases Ad8 (P:=P) w t tx o.type ti.elem i z (BH ht Im) (UU xJ YB) hi hz ad k l hl.1 (by grind) (by grind) (by omega)with ⟨h0,hr⟩|⟨hp,hr⟩
    ·subst h0;rw[ay _ _ hr]
     let g':G:=⟨g.own,λk=>if k=σ.Aj.length then⟨ad,0,0,te.ty.size⟩else g.AY k⟩
     have st:Step [] σ.Aj.length w g w g':=⟨rfl,rfl,rfl,AP2 _,λ_ _ h=>⟨h,rfl⟩,λ_ h=>⟨h,rfl⟩,λ_ _ _ h _ _=>⟨h,rfl⟩,λk hk=>by grind⟩;have ha0:g'.AY σ.Aj.length=⟨ad,0,0,te.ty.size⟩:=by grind
     refine hn _ w g' (hs.heap.push st hs.heap.BZ ?_) ?_ st
     ·refine⟨(by rw[Vr];intro j hj;cases hj),by grind,by grind,BU,.inl ⟨rfl,by grind⟩⟩
     ·refine Bs (cs:=[_]) rfl ⟨by simp,rfl⟩ ?_;simp[Cq,AV.isAgg,ha0]
    ·rw[ay _ _ hr];have tq:l.toNat<=maxLen:=Ad7 l te.bytes hl.1 hl.2 MP.2;have ZO:=grownCap_ge w l.toNat 0 ti.elem;have QP:=grownCap_le_maxLen w l.toNat 0 ti.elem tq;have st:=(Step.drew [] σ.Aj.length w g).trans (Step.add hs.heap.drew (.cells (Builtin.zeroCells z.cells l.toNat++Builtin.zeroCells z.cells (grownCap w l.toNat 0 ti.elem-l.toNat)) ti.elem) ⟨some ⟨w.heap.size,0,none⟩,l.toNat,grownCap w l.toNat 0 ti.elem,te.ty.size⟩) (AP2 _);refine hn _ _ _ (hs.heap.drew.new ?_) ?_ st
     ·refine⟨(by rw[Vr];intro j hj;cases hj),by simp[G.add],by simp[G.add],BU,.inr ⟨w.heap.size,_,_,by simp[G.add],by simp[G.add],⟨_,.inr rfl,heap_alloc_new w.drew _⟩,by simpa [G.add]using ZO,by simpa [G.add]using QP,?_,rfl,?_⟩⟩
      ·simp only[G.add,AQJ,Array.size_append,pR,size_madeCells,hzz,<-ARz];congr 1;omega
      ·rw[AQt,Array.toList_append,pR,hzz,MQ];have hk:(madeCells z.cells (l.toNat*te.ty.size)).toList.length=l.toNat*te.ty.size:=by rw[AQY,size_madeCells]
       rw[AQ4 (by grind),fz z.cells (by grind) BU (AP2 _)];exact pS kD (by exact oH) _ fi
     ·refine Bs (cs:=[_]) rfl ⟨by simp,rfl⟩ ?_;simp[Cq,AV.isAgg,G.add]
   ·grind
  ·grind
 ·grind
end
section
variable {P:Program} {σ:St} {o:Oper}
theorem AiM{t:TypeId}{x lo:Operand}(ho:o.op=.slice t x (some lo) none none){ti te:TI}(ht:Fh P t ti)(Im:ti.Ew=true)(Ev:Fh P ti.elem te){k:Nat}{ks:ATB Nat}{kk:IntKind}{l:Int}(hx:σ.Cg x=.AH k)(hlo:σ.Cg lo=.AA ks (.int kk) l)
    {el:Nat} {xs:ATB te.ty.V} (hb:σ.Aj[k]?=some (.tail el te.ty xs)) (h0:0<=l) (h1:l<=(xs.length:Int)) :
    Oz P σ o ⟨.AH σ.Aj.length,Blk.G3 (Bd [k] σ.Aj) [k]++[.tail el te.ty (xs.drop l.toNat)],[k]⟩:=by
 refine⟨by simp[A7,AF],λh=>by(cases h),λa w g hs next Q hn=>?_⟩
 have H:=hs.heap;have hxo:=AU hs x;rw[hx]at hxo;obtain⟨hk,y9⟩:=EZ hxo;obtain⟨hf,hlen,QN,BU,hr⟩:=H.MG k _ hb;have hlv:=AU hs lo;rw[hlo]at hlv;have hlv:a.eval lo=.int kk l:=DL hlv;have fj:(g.AY k).len<=(g.AY k).cap:=by
  rw[hlen];rcases hr with ⟨rfl,Gb⟩|⟨b,o',Bq,ds,_,_,_,h1,_⟩
  ·simp
  ·exact h1
 have hvl:l.toNat<=xs.length:=Int.toNat_le.2 h1;obtain⟨ad,had⟩:∃ad,ad=(if(g.AY k).cap=l.toNat then(g.AY k).a else(g.AY k).a.map (·.add (l.toNat*te.ty.size))):=⟨_,rfl⟩;have El:(execOp a.eval o).run P w=.ok (.value (.slice ad ((g.AY k).len-l.toNat) ((g.AY k).cap-l.toNat))) w:=by
  have oA:=Sm (P:=P) (w:=w) (isS:=true) (len:=(g.AY k).len) (cap:=(g.AY k).cap) (lo:=some (.int kk l)) (hi:=none) (l:=l) (h:=((g.AY k).len:Int)) (.inr ⟨kk,rfl⟩) (.inl ⟨rfl,rfl⟩) h0 (by rw[hlen];exact h1) (ARj _) fj;have:(Instr.sliceAt t (.slice (g.AY k).a (g.AY k).len (g.AY k).cap) (some (.int kk l)) none none).run P w=.ok (.slice ad ((g.AY k).len-l.toNat) ((g.AY k).cap-l.toNat)) w:=by
   rw[Lz ht Im];simp[Instr.slice,underlying,BH ht Im,oA,D2 Ev,had]
  simp[execOp,ho,y9,hlv,this]
 unfold Oper.wp;rw[El]
 let n:=σ.Aj.length
 let i':BI:=⟨ad,(g.AY k).len-l.toNat,(g.AY k).cap-l.toNat,te.ty.size⟩
 let f:Nat->ATB Nat->S4:=λj r=>if j=k then .BL n r else .BL j r
 let g':=g.VQ f none n i'
 have st:Step [k] n w g w g':=Step.VQ H.BZ rfl rfl rfl (AP2 _) (λ_ _ _=>rfl) (λq h=>by cases h) (AP2 _) λj r _ hm=>by
  simp only[AQn]at hm;simp[f,hm]
 have QM:g'.AY n=i':=by simp[g',G.VQ]
 refine hn _ w g' (H.b8 st (Nr H.BZ (AP2 _) λq h=>by cases h) (by simp[A7,AF]) λj y hj=>?_) ?_ st
 ·rw[AQm]at hj;split at hj
  ·rcases Lh hj with h |⟨rr,h⟩
   ·exact .inl h
   ·obtain⟨y',iV,rfl⟩:=Dy h;exact .inr (.inl ⟨rr,y',iV,rfl⟩)
  ·rename_i Bp;rw[A7,AF]at hj Bp;have oD:j-σ.Aj.length=0:=by
    rcases AQk (j-σ.Aj.length)with h |h
    ·exact h
    ·rw[AQA (by simp;omega)]at hj;cases hj
   rw[oD]at hj;obtain rfl:j=n:=by simp only[n];omega
   simp only[List.getElem?_cons_zero,APY]at hj;subst hj;refine .inr (.inr ⟨hf,by rw[QM,AQw];simp only[i'];omega,by rw[QM],BU,?_⟩);rw[QM];rcases hr with ⟨rfl,Gb⟩|⟨b,off,Bq,ds,ha,Cr,Aha,p1,p2,p3,p4,Ns⟩
   ·exact .inl ⟨by simp,by simp only[i'];omega⟩
   ·rcases AQk ((g.AY k).cap-l.toNat)with hz |hz
    ·exact .inl ⟨by apply AQR;rw[AQw];omega,hz⟩
    ·have Il:=congrArg List.length p4;refine .inr ⟨b,off+l.toNat*te.ty.size,Bq,ds.drop (l.toNat*te.ty.size),?_,by rw[I0 (by simp) Cr];simp[f],Aha,by rw[AQw];simp only[i'];omega,by simp only[i'];omega,?_,?_,?_⟩
     ·show ad=_;rw[had,AQf (by omega),ha];simp[Z9]
     ·simp only[i'];rw[p3,AQ1,<-ARz];congr 2;omega
     ·rw[AQw,<-p4,<-List.drop_drop,List.drop_take,<-Nat.sub_mul]
     ·rw[D1];have vC:=II (j:=0).2 ((D1.1 Ns).mono λi x c h=>(Uy.BS hf).1 h);exact(II (j:=0).1 (vC.AgB (s:=te.ty.size) (λx c h=>Uy.len (w:=w) (own:=g.own) (k:=k) (m:=.Av) (i:=0) ((Uy.BS hf).2 h)) l.toNat)).mono λi x c h=>(Uy.BS hf).2 h
 ·refine Bs (cs:=[_]) rfl ⟨by simp[A7,AF],rfl⟩ ?_;have:g'.AY σ.Aj.length=i':=QM;simp[Cq,AV.isAgg,this,i']
theorem AiP{t:TypeId}{x y:Operand}(ho:o.op=.indexAddr t x y){ti te:TI}(ht:Fh P t ti)(Im:ti.Ew=true)(Ev:Fh P ti.elem te){k:Nat}{ks:ATB Nat}{kk:IntKind}{i:Int}(hx:σ.Cg x=.AH k)(hy:σ.Cg y=.AA ks (.int kk) i)
    {el:Nat} {xs:ATB te.ty.V} (hb:σ.Aj[k]?=some (.tail el te.ty xs)) (h0:0<=i) (h1:i<(xs.length:Int)) :
    Oz P σ o ⟨.Fw [k] te.ty (xs.getD i.toNat te.ty.zero),σ.Aj,[]⟩ :=
 .Jc <| Mb (s:=λρ=>Instr.indexAt t (ρ x) (ρ y)) (λρ=>by simp[execOp,ho]) λa w g BO=>by
  have H:=BO.heap;have hxo:=AU BO x;rw[hx]at hxo;obtain⟨hk,y9⟩:=EZ hxo;obtain⟨hf,hlen,QN,BU,hr⟩:=H.MG k _ hb;have hyv:=AU BO y;rw[hy]at hyv;have hyv :=DL hyv;have Bp :=Xu ⟨h0,h1⟩;have hu:=BH ht Im;rcases hr with ⟨ZP,_⟩|⟨b,off,Bq,ds,ha,Cr,⟨el',VR,hh⟩,p1,p2,p3,p4,Ns⟩
  ·grind
  ·have vC:=II (j:=0).2 ((D1.1 Ns).mono λi x c h=>(Uy.BS hf).1 h);obtain⟨c0,c,d,e1,kG,gp,_,_⟩:=CH.AY  (λx c h=>Uy.len (w:=w) (own:=g.own) (k:=k) (m:=.Av) (i:=0) ((Uy.BS hf).2 h)) vC Bp;refine⟨.pointer (some ⟨b,off+i.toNat*te.ty.size,none⟩),?_,?_⟩
   ·rw[y9,hyv];simp[Instr.indexAt,asIntOf,underlying,hu,h0,h1,D2 Ev,ha,hlen,Z9]
   ·rw[AL _ _ _ Bp];refine fD  (by grind) (.inr ⟨k,by simp,[],Cr⟩) ((H7.BS hf).2 gp) λj q hq=>?_;have vw:ds[i.toNat*te.ty.size+j]?=some q:=by
     rw[e1,AP4,AQi (by omega),show i.toNat*te.ty.size+j-c0.length=j by omega,AQj (A5 hq)];exact hq
    rw[<-p4,AQT]at vw;split at vw
    ·rw[ARZ]at vw;rw[AQ1,QS hh,<-AQa];exact vw
    ·grind
theorem AiQ{c:Call}(ho:o.op=.call c)(hc:c.callee=.builtin .len){k:Nat}(hx:Qk σ c.args=[.AH k]){t:TypeId}(aB:c.argTypes.toList=[t]){ti:TI}(ht:Fh P t ti)(Im:ti.Ew=true)
    {el:Nat} {u:Ty} {xs:ATB u.V} (hb:σ.Aj[k]?=some (.tail el u xs)):Oz P σ o ⟨.int .i64 (xs.length:Int),σ.Aj,[]⟩:=by
 obtain⟨a0,ha,hz⟩:=Afd hx;refine .Jc <| Mb (s:=λρ=>Builtin.len_ c.argTypes o.type #[ρ a0]) (λρ=>?_) λa w g hs=>?_
 ·rw[Ko ho hc,ha];simp[builtin]
 ·have hxo:=AU hs a0;rw[hz]at hxo;obtain⟨hk,he⟩:=EZ hxo;have hl:=(hs.heap.MG k _ hb).2.1;have AJT:c.argTypes[0]?=some t:=by rw[<-AQa,aB];rfl
  rw[he];exact B7 (by simp[Builtin.len_,AJT,underlying,BH ht Im,goInt,hl])
theorem AdB(w:World)(t tx ty e:TypeId)(i:TypeInfo)(ht:P.underlying t=some (.slice e))(hi:P.info? e=some i)
    (b off bR zD:Nat) (Bq:Array Value) {e0:TypeId} (hg:w.heap[b]?=some (.cells Bq e0 (0,0))) (x:Value) (n:Nat) (Gy:ATB Value) (hs:Src P i.size tx x n Gy w) (Y2:bR+n<=zD) (RY:off+bR*i.size+Gy.length<=Bq.size) :
    (Builtin.append_ #[t,tx] ty #[.slice (some ⟨b,off,none⟩) bR zD,x]).run P w =
     .ok (.slice (some ⟨b,off,none⟩) (bR+n) zD) (w.setRow b (Bq.toList.take (off+bR*i.size)++Gy++Bq.toList.drop (off+bR*i.size+Gy.length)).toArray):=by
 have BO:=run_storeCells_at P b (off+bR*i.size) e0 Gy 0 Bq w hg (by simpa using RY) hs.one;simp only[AR2]at BO;rcases hs.kind with ⟨e',hk⟩|hk<;>simp[Builtin.append_,run_underlying ht,run_underlying hk,sizeOf,typeInfo,hi,hs.len,Y2,hs.cells,Z9,BO]
theorem tV(w:World)(t tx ty e:TypeId)(i:TypeInfo)(z:Value)(ht:P.underlying t=some (.slice e))(hi:P.info? e=some i)(hz:i.zero=some z)(hzs:z.cells.size=i.size)(BU:0<i.size)
    {Pw:Nat->Prop} {Ek:Prop} {ad:ATC Addr} {len cap:Nat} {ds:ATB Value} (Xb:(len=0/\cap=0/\ds=[])\/∃b off Bq e0,ad=some ⟨b,off,none⟩/\Pw b/\(w.heap[b]?=some (.cells Bq e0 (0,0))/\(Ek\/e0=e))/\len<=cap/\cap<=maxLen/\Bq.size=off+cap*i.size/\(Bq.toList.drop off).take (len*i.size)=ds)
    {x:Value} {n:Nat} {Gy:ATB Value} (hs:Src P i.size tx x n Gy w) (xF:i.bytes≠0) (RY:(len+n)*i.bytes<=140737488355328) :
    ∃xB Tp w',(Builtin.append_ #[t,tx] ty #[.slice ad len cap,x]).run P w=.ok (.slice xB (len+n) Tp) w'/\w'.os=w.os/\w'.tape=w.tape/\w'.output=w.output/\w.heap.size<=w'.heap.size /\
     ((len+n=0/\Tp=0/\w'=w)\/∃b' off OX e1,xB=some ⟨b',off,none⟩/\(w'.heap[b']?=some (.cells OX e1 (0,0))/\(Ek\/e1=e))/\len+n<=Tp/\Tp<=maxLen/\OX.size=off+Tp*i.size/\(OX.toList.drop off).take ((len+n)*i.size)=ds++Gy /\
      ((Pw b'/\w'=w.setRow b' OX)\/(b'=w.heap.size/\b'<w'.heap.size/\∀q,q<w.heap.size->w'.heap[q]?=w.heap[q]?))):=by
 have Al3:len+n<=140737488355328:=AQq (ARX _ (ARL xF)) RY;have h63:((len+n:Nat):Int)<=9223372036854775807:=by omega
 have tq:len+n<=maxLen:=by simp only[maxLen];omega
 have de:ds.length=len*i.size:=by
  rcases Xb with ⟨h1,h2,h3⟩|⟨b,off,Bq,e0,h1,_,h2,h3,h4,h5,h6⟩
  ·grind
  ·rw[<-h6,AQh,AQw,AQY,h5,Nat.add_sub_cancel_left];exact Nat.min_eq_left (AQS _ h3)
 by_cases Y2:len+n<=cap
 ·rcases Xb with ⟨rfl,rfl,rfl⟩|⟨b,off,Bq,e0,rfl,hpw,⟨hb,hek⟩,h3,h4,h5,h6⟩
  ·obtain rfl:n=0:=by omega
   exact⟨ad,0,w,vY w t tx ty e i ht hi ad x Gy hs,rfl,rfl,rfl,AP2 _,.inl ⟨rfl,rfl,rfl⟩⟩
  ·have QP:off+len*i.size+Gy.length<=Bq.size:=by
     rw[hs.newsLen,h5,AQ1,<-ARz];exact Nat.add_le_add_left (AQS _ Y2) _
   refine⟨_,cap,_,AdB w t tx ty e i ht hi b off len cap Bq hb x n Gy hs Y2 QP,rfl,rfl,rfl,by simp,.inr ⟨b,off,_,e0,rfl,⟨setRow_heap w b Bq _ e0 (0,0) hb,hek⟩,Y2,h4,?_,?_,.inl ⟨hpw,rfl⟩⟩⟩
   ·grind
   ·have e1:Bq.toList.take (off+len*i.size)=Bq.toList.take off++ds:=by grind
    have:(len+n)*i.size=(ds++Gy).length:=by rw[AP0,de,hs.newsLen,ARz]
    grind
 ·have hgt:cap<len+n:=by omega
  have holds:(Builtin.firstCells i.size len (.slice ad len cap)).run P w.drew=.ok ds.toArray w.drew:=by
   rcases Xb with ⟨rfl,rfl,rfl⟩|⟨b,off,Bq,e0,rfl,hpw,⟨hb,hek⟩,h3,h4,h5,h6⟩
   ·cases ad with
    |none=>exact run_firstCells_none w.drew i.size 0 0 0
    |some a=>exact run_firstCells_some w.drew i.size 0 a 0 0 [] (by simp) (by simp)
   ·refine run_firstCells_some w.drew i.size len _ len cap ds de λj u hu=>?_;rw[Z9];show w.cell? ⟨b,off+j,none⟩=some u;rw[QS hb,<-AQa];rw[<-h6,AQT]at hu
    grind
  have hr:=run_append_grow_src (P:=P) w t tx ty e i z ht hi hz ad len cap ds holds x n Gy hs hgt h63 (growslice_fits hgt RY);refine⟨_,_,_,hr,rfl,rfl,rfl,by simp,.inr ⟨w.heap.size,0,_,e,rfl,⟨heap_alloc_new w.drew _,.inr rfl⟩,grownCap_ge w _ cap e,grownCap_le_maxLen w _ cap e tq,?_,?_,.inr ⟨rfl,by simp,λq hq=>heap_alloc_old w.drew _ q hq⟩⟩⟩
  ·have ZO:=grownCap_ge w (len+n) cap e;simp only[Array.size_append,ARB,AP0,size_zeroCells,hzs,de,hs.newsLen,<-ARz,AQs];congr 1;omega
  ·have:(len+n)*i.size=(ds++Gy).length:=by rw[AP0,de,hs.newsLen,ARz]
   rw[this,AR4,Array.toList_append,ARS]
theorem AiK{c:Call}(ho:o.op=.call c)(hc:c.callee=.builtin .append){k:Nat}{y:AV}(hx:Qk σ c.args=[.AH k,y]){t tx:TypeId}(aB:c.argTypes.toList=[t,tx]){ti te fT:TI}(ht:Fh P t ti)(Ev:Fh P ti.elem te)(Im:ti.Ew=true)(xJ:Fh P tx fT)(hkx:fT.Ew=true)
    (xF:te.bytes≠0) {el:Nat} {xs ys:ATB te.ty.V} (hb:σ.Aj[k]?=some (.tail el te.ty xs)) (VR:el=ti.elem\/el=0) {m2:RM} {rs:ATB Nat} (kK:sG σ.Aj te.ty y=some (ys,m2,rs)) (RY:(xs.length+ys.length)*te.bytes<=140737488355328) :
    Oz P σ o ⟨.AH σ.Aj.length,Blk.G3 (Bd (k::rs) σ.Aj) (k::rs)++[.tail el te.ty (xs++ys)],k::rs⟩:=by
 obtain⟨a0,a1,ha,hz0,rfl⟩:=Aap hx;refine⟨by simp[A7,AF],λh=>by grind,λa w g hs next Q hn=>?_⟩
 have H:=hs.heap;have hxo:=AU hs a0;rw[hz0]at hxo;obtain⟨hk,y9⟩:=EZ hxo;obtain⟨hf,hlen,QN,BU,hr⟩:=H.MG k _ hb;obtain⟨i,z,hi,MQ,hbi,hz,oH,_⟩:=Ev.info;obtain⟨Gy,hS,hEl,_,AJK,_⟩:=Ai9 H kK (AU hs a1) xJ (by grind);have hu:=BH ht Im;have hzs:z.cells.size=i.size:=by rw[<-AQY,oH,S3,MQ]
 have AIS:Be (λ_ x c=>c=Lc te.ty x) 0 ys Gy:=hEl.mono λi x c h=>by
  rcases h with ⟨_,h⟩|⟨ks,_,h⟩|⟨j,_,h⟩
  ·grind
  ·exact(H7.BS hf).1 h
  ·exact(Uy.BS hf).1 h
 obtain ⟨ds,Ahs,Aht⟩:∃ds,((xs.length=0/\(g.AY k).cap=0/\ds=[])\/∃b off Bq e0,(g.AY k).a=some ⟨b,off,none⟩/\g.own b=.BL k []/\(w.heap[b]?=some (.cells Bq e0 (0,0))/\(el=0\/e0=ti.elem))/\xs.length<=(g.AY k).cap/\(g.AY k).cap<=maxLen/\Bq.size=off+(g.AY k).cap*i.size/\(Bq.toList.drop off).take (xs.length*i.size)=ds) /\
     Be (λ_ x c=>c=Lc te.ty x) 0 xs ds:=by
  rcases hr with ⟨rfl,h2⟩|⟨b,off,Bq,ds,h2,h3,⟨e0,he0,h4⟩,h5,h6,h7,h8,h9⟩
  ·exact⟨[],.inl ⟨rfl,h2,rfl⟩,rfl⟩
  ·exact⟨ds,.inr ⟨b,off,Bq,e0,h2,h3,⟨h4,by grind⟩,h5,h6,by grind,by grind⟩,(D1.1 h9).mono λi x c h=>(Uy.BS hf).1 h⟩
 obtain⟨xB,Tp,w',El,hos,hta,hou,Ot,df⟩:=tV (P:=P) w t tx o.type ti.elem i z hu hi hz hzs (by grind) (Pw:=λb=>g.own b=.BL k []) (Ek:=el=0) Ahs (by rw[MQ];exact hS) (by grind) (by grind);have ay:(execOp a.eval o).run P w=.ok (.value (.slice xB (xs.length+ys.length) Tp)) w':=by
  rw[Ko ho hc,ha,zX aB];simp[builtin,y9,hlen,El]
 unfold Oper.wp;rw[ay]
 let n:=σ.Aj.length
 let i':BI:=⟨xB,xs.length+ys.length,Tp,te.ty.size⟩
 let f:Nat->ATB Nat->S4:=λj r=>if j=k then .BL n r else .BL j r
 obtain ⟨ob,yY,V4,R9⟩:∃ob:ATC Nat,(∀q,ob=some q->w.heap.size<=q/\q<w'.heap.size) /\
     (∀q,q<w.heap.size->(∀k' p,g.own q=.BL k' p->k'∉k::rs)->w'.heap[q]?=w.heap[q]?) /\
     ((xs++ys=[]/\Tp=0)\/∃b' off OX,xB=some ⟨b',off,none⟩/\VY w' b' el OX/\xs.length+ys.length<=Tp/\Tp<=maxLen/\OX.size=off+Tp*te.ty.size/\(OX.toList.drop off).take ((xs.length+ys.length)*te.ty.size)=ds++Gy/\(g.VQ f ob n i').own b'=.BL n []):=by
  rcases df with ⟨h0,Gb,rfl⟩|⟨b',off,OX,e1,h1,⟨h2,he1⟩,h3,h4,h5,h6,h7⟩
  ·refine⟨none,λq h=>by grind,λq _ _=>rfl,.inl ⟨?_,Gb⟩⟩;apply AQR;rw[AP0];omega
  ·rw[MQ]at h5 h6;have h2:VY w' b' el OX:=⟨e1,by grind,h2⟩;rcases h7 with ⟨Cr,rfl⟩|⟨rfl,Bp,hkp⟩
   ·refine⟨none,λq h=>by grind,kP Cr (by simp),.inr ⟨b',off,OX,h1,h2,h3,h4,h5,h6,?_⟩⟩;rw[I0 (by simp) Cr];simp[f]
   ·exact⟨some w.heap.size,λq h=>by injection h with h;subst h;exact⟨AP2 _,Bp⟩,λq hq _=>hkp q hq,.inr ⟨_,off,OX,h1,h2,h3,h4,h5,h6,by simp[G.VQ]⟩⟩
 let g':=g.VQ f ob n i'
 have st:Step (k::rs) n w g w' g':=Step.VQ H.BZ hos hta hou Ot V4 (λq h=>(yY q h).1) (AP2 _) λj r _ hm=>by
  have h1:j≠k:=λe=>hm (by simp[e]);simp[f,h1]
 have QM:g'.AY n=i':=by simp[g',G.VQ]
 refine hn _ w' g' (H.b8 st (Nr H.BZ Ot λq h=>(yY q h).2) (by simp[A7,AF]) λj x R8=>?_) ?_ st
 ·rw[AQm]at R8;split at R8
  ·rcases Lh R8 with h |⟨rr,h⟩
   ·exact .inl h
   ·obtain⟨y',iV,rfl⟩:=Dy h;exact .inr (.inl ⟨rr,y',iV,rfl⟩)
  ·rename_i Bp;rw[A7,AF]at R8 Bp;have oD:j-σ.Aj.length=0:=by
    rcases AQk (j-σ.Aj.length)with h |h
    ·exact h
    ·rw[AQA (by simp;omega)]at R8;cases R8
   rw[oD]at R8;obtain rfl:j=n:=by omega
   simp only[List.getElem?_cons_zero,APY]at R8;subst R8;refine .inr (.inr ⟨hf,by rw[QM,AP0],by rw[QM],BU,?_⟩);rw[QM,AP0];refine R9.imp id λ⟨b',off,OX,h1,h2,h3,h4,h5,h6,h7⟩=>⟨b',off,OX,_,h1,h7,h2,h3,h4,h5,h6,?_⟩;rw[D1];exact(Be.append Aht (II.1 (II (j:=0).2 AIS))).mono λi x c h=>(Uy.BS hf).2 h
 ·refine Bs (cs:=[_]) rfl ⟨by simp[A7,AF],rfl⟩ ?_;have:g'.AY σ.Aj.length=i':=QM;simp[Cq,AV.isAgg,this,i']
end
theorem wx(φ:Nat->Nat)(a:AV):(a.OU φ).OL=a.OL:=by cases a<;>rfl
theorem pE(φ:Nat->Nat)(a:AV):(a.OU φ).isAgg=a.isAgg:=by cases a<;>rfl
theorem Adz(φ:Nat->Nat)(a:AV):(a.OU φ).Dq=a.Dq:=by cases a<;>rfl
theorem uG(LD:ATB Nat)(a:AV):(a.Wt LD).OL=a.OL:=by cases a<;>rfl
theorem oe(LD:ATB Nat)(a:AV):(a.Wt LD).isAgg=a.isAgg:=by cases a<;>rfl
theorem AcE(LD:ATB Nat)(a:AV):(a.Wt LD).Dq=a.Dq:=by cases a<;>rfl
structure Ren (φ:Nat->Nat) (g g':G) (n' k:Nat):Prop where
 lt:φ k<n'
 AY:g'.AY (φ k)=g.AY k
 own:∀b r,g.own b=.BL k r->g'.own b=.BL (φ k) r
theorem Al.Air{φ:Nat->Nat}{g g':G}(hi:∀b,g.own b=.Jb->g'.own b=.Jb){ks:ATB Nat}(hk:∀k∈ks,∀b r,g.own b=.BL k r->g'.own b=.BL (φ k) r){b:Nat}(h:Al g.own ks b):Al g'.own (ks.map φ) b:=by
 rcases h with h |⟨k,hks,r,h⟩
 ·exact .inl (hi b h)
 ·exact .inr ⟨φ k,List.mem_map.2 ⟨k,hks,rfl⟩,r,hk k hks b r h⟩
theorem O0:∀(a:AV) {k:Nat},k∈a.Tv->k∈a.Cs
 |.AA _ _ _,_,h=>h
 |.Fw _ _ _,_,h=>h
 |.UI _ _ _ _ _,_,h=>h
 |.WE _ _ _ _ _ _,_,h=>h
 |.pr a b,_,h=>(List.mem_append.1 h).elim (λh=>AQu _ (O0 a h)) λh=>AQv _ (O0 b h)
 |.cons a b,_,h=>(List.mem_append.1 h).elim (λh=>AQu _ (O0 a h)) λh=>AQv _ (O0 b h)
 |.fn _ c,_,h=>O0 c h
 |.zs,_,h=>by cases h
 |.AH _,_,h=>by cases h
 |.ptr _ _ _ _,_,h=>by cases h
 |.M8,_,h=>by cases h
 |.nil,_,h=>by cases h
 |.mp _,_,h=>by cases h
 |.un _,_,h=>by cases h
theorem eJ:∀(b:Blk) {k:Nat},k∈b.Tv->k∈b.Cs
 |.box a,_,h=>O0 a h
 |.row _ _ _ _,_,h=>h
 |.map _ _ _ _ _,_,h=>h
 |.R1 _ _ _ _ _,_,h=>h
 |.tail _ _ _,_,h=>h
 |.Ba,_,h=>h
section
variable {w:World} {g g':G} {n n':Nat} {φ:Nat->Nat}
def Aca(φ:Nat->Nat)(g g':G)(n' k:Nat):Prop:=φ k<n'/\g'.AY (φ k)=g.AY k
def AqU(φ:Nat->Nat)(g g':G)(k:Nat):Prop:=∀b r,g.own b=.BL k r->g'.own b=.BL (φ k) r
theorem Abm{ks:ATB Nat}(hk:∀k∈ks,Aca φ g g' n' k):∀k∈ks.map φ,k<n':=λk h=>by
 obtain⟨j,hj,rfl⟩:=List.mem_map.1 h;exact(hk j hj).1
theorem CF.bP(hi:∀b,g.own b=.Jb->g'.own b=.Jb):∀(a:AV) (m:Bool) {cs:ATB Value},CF w g n m a cs->(∀k∈a.Cs,Aca φ g g' n' k)->(∀k∈a.Tv,AqU φ g g' k)->CF w g' n' m (a.OU φ) cs
 |.AA ks t x,false,cs,⟨hk,r⟩,h,ho=>⟨Abm h,r.mono λb a=>⟨a.Air hi ho,rfl⟩⟩
 |.zs,false,_,h,_,_=>h
 |.AH k,false,_,⟨hk,e⟩,h,_=>by
  have:=h k (by simp[AV.Cs]);exact⟨this.1,by rw[this.2];exact e⟩
 |.ptr k i p o,false,_,⟨hk,h0,h1,b,hb,e⟩,h,_=>by
  have:=h k (by simp[AV.Cs]);exact⟨this.1,h0,by rw[this.2];exact h1,b,by rw[this.2];exact hb,by rw[this.2];exact e⟩
 |.Fw ks t x,false,cs,⟨hk,b,off,ds,e,ha,r,hc⟩,h,ho=>⟨Abm h,b,off,ds,e,ha.Air hi ho,r.mono λb a=>⟨a.Air hi ho,rfl⟩,hc⟩
 |.M8,false,_,h,_,_=>h
 |.pr a b,false,_,⟨c,d,e,h1,h2⟩,h,ho=>⟨c,d,e,CF.bP hi a false h1 (λk hk=>h k (by simp[AV.Cs,hk])) λk hk=>ho k (by simp[AV.Tv,hk]),CF.bP hi b false h2 (λk hk=>h k (by simp[AV.Cs,hk])) λk hk=>ho k (by simp[AV.Tv,hk])⟩
 |.fn f c,false,_,⟨vs,e,hx⟩,h,ho=>⟨vs,e,CF.bP hi c true hx (λk hk=>h k (by simpa [AV.Cs]using hk)) λk hk=>ho k (by simpa [AV.Tv]using hk)⟩
 |.un k,false,_,h,_,_=>h
 |.cons a b,true,_,⟨v,r,e,h1,h2⟩,h,ho=>by
  refine⟨v,r,e,?_,CF.bP hi b true h2 (λk hk=>h k (by simp[AV.Cs,hk])) λk hk=>ho k (by simp[AV.Tv,hk])⟩;rw[wx,pE];exact h1.imp id λ⟨cs,hx,hv⟩=>⟨cs,CF.bP hi a false hx (λk hk=>h k (by simp[AV.Cs,hk])) (λk hk=>ho k (by simp[AV.Tv,hk])),hv⟩
 |.nil,true,_,h,_,_=>h
 |.cons _ _,false,_,h,_,_=>h.elim
 |.nil,false,_,h,_,_=>h.elim
 |.mp k,false,_,⟨hk,b,hb,e⟩,h,_=>by
  have:=h k (by simp[AV.Cs]);exact⟨this.1,b,by rw[this.2];exact hb,e⟩
 |.UI k i p o e,false,_,⟨hk,h0,h1,b,v,ha,ho,e1,e2,hc⟩,h,hO=>by
  have:=h k (by simp[AV.Cs]);exact⟨this.1,h0,by rw[this.2];exact h1,b,v,by rw[this.2];exact ha,hO k (by simp[AV.Tv]) b [] ho,e1,e2,by rw[this.2];exact hc⟩
 |.WE k i p o j u,false,_,⟨hk,h0,h1,b,b',l,c,ha,ho,e1,e2,hc⟩,h,hO=>by
  have:=h k (by simp[AV.Cs]);exact⟨this.1,h0,by rw[this.2];exact h1,b,b',l,c,by rw[this.2];exact ha,hO k (by simp[AV.Tv]) b [] ho,e1,e2,by rw[this.2];exact hc⟩
 |.WE _ _ _ _ _ _,true,_,h,_,_=>h.elim
 |.UI _ _ _ _ _,true,_,h,_,_=>h.elim
 |.AA _ _ _,true,_,h,_,_=>h.elim
 |.zs,true,_,h,_,_=>h.elim
 |.AH _,true,_,h,_,_=>h.elim
 |.mp _,true,_,h,_,_=>h.elim
 |.ptr _ _ _ _,true,_,h,_,_=>h.elim
 |.Fw _ _ _,true,_,h,_,_=>h.elim
 |.M8,true,_,h,_,_=>h.elim
 |.pr _ _,true,_,h,_,_=>h.elim
 |.fn _ _,true,_,h,_,_=>h.elim
 |.un _,true,_,h,_,_=>h.elim
theorem Ren.r0{k:Nat}(h:Ren φ g g' n' k):Aca φ g g' n' k:=⟨h.lt,h.AY⟩
theorem CF.OU(hi:∀b,g.own b=.Jb->g'.own b=.Jb)(a:AV)(m:Bool){cs:ATB Value}(h:CF w g n m a cs)(hk:∀k∈a.Cs,Ren φ g g' n' k):CF w g' n' m (a.OU φ) cs :=
 h.bP hi a m (λk h=>(hk k h).r0) λk h=>(hk k (O0 a h)).own
theorem CF.Uu:∀(a:AV) (m:Bool) {cs:ATB Value},CF w g n m a cs->∀k∈a.Cs,k<n
 |.AA ks t x,false,cs,h,k,hk=>h.1 k hk
 |.zs,false,_,_,_,hk=>by cases hk
 |.AH j,false,_,h,k,hk=>by
  have :=by simpa [AV.Cs]using hk
  rw[this];exact h.1
 |.ptr j i p o,false,_,h,k,hk=>by
  have :=by simpa [AV.Cs]using hk
  rw[this];exact h.1
 |.Fw ks t x,false,cs,h,k,hk=>h.1 k hk
 |.M8,false,_,_,_,hk=>by cases hk
 |.pr a b,false,_,⟨c,d,e,h1,h2⟩,k,hk=>by
  rcases List.mem_append.1 hk with hk |hk
  ·exact CF.Uu a _ h1 k hk
  ·exact CF.Uu b _ h2 k hk
 |.fn f c,false,_,⟨vs,e,hx⟩,k,hk=>CF.Uu c true hx k hk
 |.un _,false,_,_,_,hk=>by cases hk
 |.cons a b,true,_,⟨v,r,e,h1,h2⟩,k,hk=>by
  rcases List.mem_append.1 hk with hk |hk
  ·rcases h1 with h1 |⟨cs,h1,_⟩
   ·cases a<;>simp[AV.OL]at h1;cases hk
   ·exact CF.Uu a _ h1 k hk
  ·exact CF.Uu b true h2 k hk
 |.nil,true,_,_,_,hk=>by cases hk
 |.cons _ _,false,_,h,_,_=>h.elim
 |.nil,false,_,h,_,_=>h.elim
 |.mp j,false,_,h,k,hk=>by
  have :=by simpa [AV.Cs]using hk
  rw[this];exact h.1
 |.UI j i p o e,false,_,h,k,hk=>by
  have :=by simpa [AV.Cs]using hk
  rw[this];exact h.1
 |.WE j i p o q u,false,_,h,k,hk=>by
  have :=by simpa [AV.Cs]using hk
  rw[this];exact h.1
 |.WE _ _ _ _ _ _,true,_,h,_,_=>h.elim
 |.UI _ _ _ _ _,true,_,h,_,_=>h.elim
 |.AA _ _ _,true,_,h,_,_=>h.elim
 |.zs,true,_,h,_,_=>h.elim
 |.AH _,true,_,h,_,_=>h.elim
 |.mp _,true,_,h,_,_=>h.elim
 |.ptr _ _ _ _,true,_,h,_,_=>h.elim
 |.Fw _ _ _,true,_,h,_,_=>h.elim
 |.M8,true,_,h,_,_=>h.elim
 |.pr _ _,true,_,h,_,_=>h.elim
 |.fn _ _,true,_,h,_,_=>h.elim
 |.un _,true,_,h,_,_=>h.elim
theorem B5.Uu{a:AV}{v:Value}(h:B5 w g n a v):∀k∈a.Cs,k<n:=by
 cases ht:a.Dq with
 |false =>
  rcases(B5.iff ht).1 h with h |⟨cs,h,_⟩
  ·intro k hk;cases a<;>simp[AV.OL]at h;cases hk
  ·exact CF.Uu a _ h
 |true =>
  cases a with
  |cons a b=>obtain⟨vs,e,h⟩:=h;exact CF.Uu _ true h
  |nil=>intro k hk;cases hk
  |_=>cases ht
theorem B5.bP(hi:∀b,g.own b=.Jb->g'.own b=.Jb){a:AV}{v:Value}(h:B5 w g n a v)(hk:∀k∈a.Cs,Aca φ g g' n' k)(ho:∀k∈a.Tv,AqU φ g g' k):B5 w g' n' (a.OU φ) v:=by
 cases ht:a.Dq with
 |false =>
  rw[B5.iff ht]at h;rw[B5.iff (by rw[Adz];exact ht),wx,pE];exact h.imp id λ⟨cs,h,hv⟩=>⟨cs,CF.bP hi a _ h hk ho,hv⟩
 |true =>
  cases a with
  |cons a b=>obtain⟨vs,e,h⟩:=h;exact⟨vs,e,CF.bP hi _ true h hk ho⟩
  |nil=>exact h
  |_=>cases ht
theorem B5.OU(hi:∀b,g.own b=.Jb->g'.own b=.Jb){a:AV}{v:Value}(h:B5 w g n a v)(hk:∀k∈a.Cs,Ren φ g g' n' k):B5 w g' n' (a.OU φ) v :=
 h.bP hi (λk h=>(hk k h).r0) λk h=>(hk k (O0 a h)).own
theorem Nl.bP(hi:∀b,g.own b=.Jb->g'.own b=.Jb){k:Nat}{b:Blk}(h:Nl w g n k b)(hk:Ren φ g g' n' k)(RZ:∀j∈b.Cs,Aca φ g g' n' j)(hO:∀j∈b.Tv,AqU φ g g' j):Nl w g' n' (φ k) (b.OU φ):=by
 cases b with
 |Ba=>trivial
 |map m kt vt es st =>
  obtain⟨RV,b,HF,DW,ha,ho,hh,S8,hm⟩:=h;have hmm:(m.OU φ).Cs=m.Cs.map φ:=by cases m<;>rfl
  refine⟨by rw[hmm];exact Abm RZ,b,HF,DW,by rw[hk.AY];exact ha,hk.own b [] ho,hh,S8,hm.on λi x c r=>?_⟩;cases m with
  |Av=>exact Ik.mono (λb q hb=>⟨hk.own b _ hb,rfl⟩) r
  |sh ks=>exact H7.mono (λb a=>⟨a.Air hi hO,rfl⟩) r
 |R1 e t xs i p =>
  obtain⟨h1,h2,h3,h4,h5,u,o,x0,b,Bq,ds,q1,q2,q3,ha,ho,hh,c1,c2,c3,c4,hc⟩:=h;refine⟨by rw[hk.AY];exact h1,by rw[hk.AY];exact h2,h3,h4,h5,u,o,x0,b,Bq,ds,q1,q2,q3,?_⟩;rw[hk.AY];exact⟨ha,hk.own b [] ho,hh,c1,c2,c3,c4,hc.mono λi x c r=>r.mono λb q hb=>⟨hk.own b _ hb,rfl⟩⟩
 |tail e t xs =>
  obtain⟨hf,hlen,QN,BU,hr⟩:=h;refine⟨hf,by rw[hk.AY];exact hlen,by rw[hk.AY];exact QN,BU,?_⟩;rw[hk.AY];exact hr.imp id λ⟨b,o,Bq,ds,ha,ho,hh,h1,h2,h3,h4,hc⟩=>⟨b,o,Bq,ds,ha,hk.own b [] ho,hh,h1,h2,h3,h4,hc.mono λi x c r=>r.mono λb q hb=>⟨hk.own b _ hb,rfl⟩⟩
 |box a =>
  obtain⟨h1,b,cs,e,ha,ho,hh,hx⟩:=h;exact⟨by rw[hk.AY];exact h1,b,cs,e,by rw[hk.AY];exact ha,hk.own b [] ho,hh,CF.bP hi a _ hx RZ hO⟩
 |row e m t xs =>
  obtain⟨RV,hlen,QN,BU,hr⟩:=h;have hm:(m.OU φ).Cs=m.Cs.map φ:=by cases m<;>rfl
  refine⟨by rw[hm];exact Abm RZ,by rw[hk.AY];exact hlen,by rw[hk.AY];exact QN,BU,?_⟩;rw[hk.AY];refine hr.imp id λ⟨b,Bq,ds,ha,ho,hh,h1,h2,h3,h4,hc⟩=>⟨b,Bq,ds,ha,hk.own b [] ho,hh,h1,h2,h3,h4,?_⟩;cases m with
  |Av=>exact hc.mono λi x c r=>r.mono λb q hb=>⟨hk.own b _ hb,rfl⟩
  |sh ks=>exact hc.mono λx c r=>r.mono λb a=>⟨a.Air hi hO,rfl⟩
theorem Nl.OU(hi:∀b,g.own b=.Jb->g'.own b=.Jb){k:Nat}{b:Blk}(h:Nl w g n k b)(hk:Ren φ g g' n' k)(RZ:∀j∈b.Cs,Ren φ g g' n' j):Nl w g' n' (φ k) (b.OU φ) :=
 h.bP hi hk (λk h=>(RZ k h).r0) λk h=>(RZ k (eJ b h)).own
structure Dep (LD:List Nat) (g g':G) (n:Nat):Prop where
 Jb:∀b,g.own b=.Jb->Al g'.own LD b
 BL:∀b k r,g.own b=.BL k r->k<n->g'.own b=.BL k r
 AY:∀k,k<n->g'.AY k=g.AY k
 lt:∀k∈LD,k<n
theorem Al.Wt{LD:ATB Nat}(d:Dep LD g g' n){ks:ATB Nat}(hk:∀k∈ks,k<n){b:Nat}(h:Al g.own ks b):Al g'.own (ks++LD) b:=by
 rcases h with h |⟨k,hks,r,h⟩
 ·exact(d.Jb b h).mono λk hk=>AQv _ hk
 ·exact .inr ⟨k,AQu _ hks,r,d.BL b k r h (hk k hks)⟩
theorem Aao{LD ks:ATB Nat}(d:Dep LD g g' n)(hk:∀k∈ks,k<n):∀k∈ks++LD,k<n:=λk h=>by
 rcases List.mem_append.1 h with h |h
 ·grind
 ·exact d.lt k h
theorem CF.Wt{LD:ATB Nat}(d:Dep LD g g' n):∀(a:AV) (m:Bool) {cs:ATB Value},CF w g n m a cs->CF w g' n m (a.Wt LD) cs
 |.AA ks t x,false,cs,⟨hk,r⟩=>by
  simp only[AV.Wt];cases hf:t.BS with
  |true=>exact⟨by grind,(H7.BS hf).2 ((H7.BS hf).1 r)⟩
  |false=>exact⟨by simpa using Aao d hk,by simpa using r.mono λb a=>⟨a.Wt d hk,rfl⟩⟩
 |.zs,false,_,h=>h
 |.AH k,false,_,⟨hk,e⟩=>⟨hk,by rw[d.AY k hk];exact e⟩
 |.mp k,false,_,⟨hk,b,hb,e⟩=>⟨hk,b,by rw[d.AY k hk];exact hb,e⟩
 |.ptr k i p o,false,_,⟨hk,h0,h1,b,hb,e⟩=>⟨hk,h0,by rw[d.AY k hk];exact h1,b,by rw[d.AY k hk];exact hb,by rw[d.AY k hk];exact e⟩
 |.Fw ks t x,false,cs,⟨hk,b,off,ds,e,ha,r,hc⟩=>⟨Aao d hk,b,off,ds,e,ha.Wt d hk,r.mono λb a=>⟨a.Wt d hk,rfl⟩,hc⟩
 |.M8,false,_,h=>h
 |.pr a b,false,_,⟨c,e,he,h1,h2⟩=>⟨c,e,he,CF.Wt d a _ h1,CF.Wt d b _ h2⟩
 |.fn f c,false,_,⟨vs,e,hx⟩=>⟨vs,e,CF.Wt d c true hx⟩
 |.un k,false,_,h=>h
 |.cons a b,true,_,⟨v,r,e,h1,h2⟩=>by
  refine⟨v,r,e,?_,CF.Wt d b true h2⟩;rw[uG,oe];exact h1.imp id λ⟨cs,hx,hv⟩=>⟨cs,CF.Wt d a _ hx,hv⟩
 |.nil,true,_,h=>h
 |.cons _ _,false,_,h=>h.elim
 |.nil,false,_,h=>h.elim
 |.UI k i p o e,false,_,⟨hk,h0,h1,b,v,ha,ho,e1,e2,hc⟩=>⟨hk,h0,by rw[d.AY k hk];exact h1,b,v,by rw[d.AY k hk];exact ha,d.BL b k [] ho hk,e1,e2,by rw[d.AY k hk];exact hc⟩
 |.WE k i p o j u,false,_,⟨hk,h0,h1,b,b',l,c,ha,ho,e1,e2,hc⟩=>⟨hk,h0,by rw[d.AY k hk];exact h1,b,b',l,c,by rw[d.AY k hk];exact ha,d.BL b k [] ho hk,e1,e2,by rw[d.AY k hk];exact hc⟩
 |.WE _ _ _ _ _ _,true,_,h=>h.elim
 |.UI _ _ _ _ _,true,_,h=>h.elim
 |.AA _ _ _,true,_,h=>h.elim
 |.zs,true,_,h=>h.elim
 |.AH _,true,_,h=>h.elim
 |.mp _,true,_,h=>h.elim
 |.ptr _ _ _ _,true,_,h=>h.elim
 |.Fw _ _ _,true,_,h=>h.elim
 |.M8,true,_,h=>h.elim
 |.pr _ _,true,_,h=>h.elim
 |.fn _ _,true,_,h=>h.elim
 |.un _,true,_,h=>h.elim
theorem B5.Wt{LD:ATB Nat}(d:Dep LD g g' n){a:AV}{v:Value}(h:B5 w g n a v):B5 w g' n (a.Wt LD) v:=by
 cases ht:a.Dq with
 |false =>
  rw[B5.iff ht]at h;rw[B5.iff (by rw[AcE];exact ht),uG,oe];exact h.imp id λ⟨cs,h,hv⟩=>⟨cs,CF.Wt d a _ h,hv⟩
 |true =>
  cases a with
  |cons a b=>obtain⟨vs,e,h⟩:=h;exact⟨vs,e,CF.Wt d _ true h⟩
  |nil=>exact h
  |_=>cases ht
theorem Nl.Wt{LD:ATB Nat}(d:Dep LD g g' n){k:Nat}(hk:k<n){b:Blk}(h:Nl w g n k b):Nl w g' n k (b.Wt LD):=by
 cases b with
 |Ba=>trivial
 |map m kt vt es st =>
  obtain⟨RV,b,HF,DW,ha,ho,hh,S8,hm⟩:=h;refine⟨?_,b,HF,DW,by rw[d.AY k hk];exact ha,d.BL b k [] ho hk,hh,S8,hm.on λi x c r=>?_⟩
  ·cases m with
   |Av=>exact RV
   |sh ks=>exact Aao d RV
  ·cases m with
   |Av=>exact Ik.mono (λb q hb=>⟨d.BL b k _ hb hk,rfl⟩) r
   |sh ks=>exact H7.mono (λb a=>⟨a.Wt d RV,rfl⟩) r
 |R1 e t xs i p =>
  obtain⟨h1,h2,h3,h4,h5,u,o,x0,b,Bq,ds,q1,q2,q3,ha,ho,hh,c1,c2,c3,c4,hc⟩:=h;refine⟨by rw[d.AY k hk];exact h1,by rw[d.AY k hk];exact h2,h3,h4,h5,u,o,x0,b,Bq,ds,q1,q2,q3,?_⟩;rw[d.AY k hk];exact⟨ha,d.BL b k [] ho hk,hh,c1,c2,c3,c4,hc.mono λi x c r=>r.mono λb q hb=>⟨d.BL b k _ hb hk,rfl⟩⟩
 |tail e t xs =>
  obtain⟨hf,hlen,QN,BU,hr⟩:=h;refine⟨hf,by rw[d.AY k hk];exact hlen,by rw[d.AY k hk];exact QN,BU,?_⟩;rw[d.AY k hk];exact hr.imp id λ⟨b,o,Bq,ds,ha,ho,hh,h1,h2,h3,h4,hc⟩=>⟨b,o,Bq,ds,ha,d.BL b k [] ho hk,hh,h1,h2,h3,h4,hc.mono λi x c r=>r.mono λb q hb=>⟨d.BL b k _ hb hk,rfl⟩⟩
 |box a =>
  obtain⟨h1,b,cs,e,ha,ho,hh,hx⟩:=h;exact⟨by rw[d.AY k hk];exact h1,b,cs,e,by rw[d.AY k hk];exact ha,d.BL b k [] ho hk,hh,CF.Wt d a _ hx⟩
 |row e m t xs =>
  obtain⟨RV,hlen,QN,BU,hr⟩:=h;refine⟨?_,by rw[d.AY k hk];exact hlen,by rw[d.AY k hk];exact QN,BU,?_⟩
  ·cases m with
   |Av=>exact RV
   |sh ks=>exact Aao d RV
  ·rw[d.AY k hk];refine hr.imp id λ⟨b,Bq,ds,ha,ho,hh,h1,h2,h3,h4,hc⟩=>⟨b,Bq,ds,ha,d.BL b k [] ho hk,hh,h1,h2,h3,h4,?_⟩;cases m with
   |Av=>exact hc.mono λi x c r=>r.mono λb q hb=>⟨d.BL b k _ hb hk,rfl⟩
   |sh ks=>exact hc.mono λx c r=>r.mono λb a=>⟨a.Wt d RV,rfl⟩
end
end Go.Va
