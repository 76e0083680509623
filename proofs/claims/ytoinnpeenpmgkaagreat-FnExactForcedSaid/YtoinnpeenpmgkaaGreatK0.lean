import GoSem.Step
import Derived.Calls
import Derived.Orders
import Derived.Below
import Derived.Laws.AppendOwn
import Derived.Laws.MakeOwn
import Derived.Laws.CopyRow
import Derived.Laws.Tables
import Derived.Deep.MidRow
import Derived.Laws.Small
import Derived.Laws.Cells
import Derived.Laws.BytesArg
import Derived.Great.FillDense
import Derived.Great.BuildSlice
import Derived.Deep.AppendSrc
set_option linter.unusedVariables false
set_option linter.unusedSimpArgs false
namespace Go.Va
abbrev ATO:=List
abbrev ATP:=Option
abbrev AP9:=@Option.bind_some
abbrev AQa:=@Int.toNat_natCast
abbrev AQb:=@Option.some.injEq
abbrev AQc:=@decide_eq_false
abbrev AQd:=@List.length_append
abbrev AQe:=@decide_eq_true
abbrev AQf:=@Nat.le_refl
abbrev AQg:=@Bool.and_eq_true
abbrev AQh:=@List.append_assoc
abbrev AQi:=@List.length_set
abbrev AQj:=@List.take_of_length_le
abbrev AQk:=@Nat.lt_or_ge
abbrev AQl:=@List.length_map
abbrev AQm:=@Prod.mk.injEq
abbrev AQn:=@Array.getElem?_toList
abbrev AQo:=@cond_false
abbrev AQp:=@cond_true
abbrev AQq:=@Option.bind_assoc
abbrev AQr:=@if_pos
abbrev AQs:=@if_neg
abbrev AQt:=@List.length_singleton
abbrev AQu:=@List.length_take
abbrev AQv:=@List.getElem?_append_right
abbrev AQw:=@List.getElem?_append_left
abbrev AQx:=@Nat.eq_zero_or_pos
abbrev AQy:=@List.getElem?_set
abbrev AQz:=@List.getElem?_append
abbrev AQA:=@List.mem_singleton
abbrev AQB:=@List.mem_cons_of_mem
abbrev AQC:=@List.getElem?_map
abbrev AQD:=@Nat.le_trans
abbrev AQE:=@List.mem_cons_self
abbrev AQF:=@Nat.zero_add
abbrev AQG:=@List.length_replicate
abbrev AQH:=@List.mem_append_left
abbrev AQI:=@List.mem_append_right
abbrev AQJ:=@List.length_drop
abbrev AQK:=@Nat.le_succ
abbrev AQL:=@Nat.lt_of_lt_of_le
abbrev AQM:=@Nat.add_sub_cancel
abbrev AQN:=@List.getElem?_eq_none
abbrev AQO:=@List.append_nil
abbrev AQP:=@Nat.lt_succ_self
abbrev AQQ:=@List.length_range
abbrev AQR:=@List.getElem_mem
abbrev AQS:=@Bool.not_true
abbrev AQT:=@List.map_append
abbrev AQU:=@List.map_cons
abbrev AQV:=@if_true
abbrev AQW:=@Nat.zero_le
abbrev AQX:=@Bool.false_eq_true
abbrev AQY:=@List.map_congr_left
abbrev AQZ:=@Array.getElem?_eq_getElem
abbrev AQ0:=@decide_eq_false_iff_not
abbrev AQ1:=@Option.bind_eq_some_iff
abbrev AQ2:=@List.eq_nil_of_length_eq_zero
abbrev AQ3:=@Nat.mul_le_mul_right
abbrev AQ4:=@List.length_cons
abbrev AQ5:=@List.take_succ_eq_append_getElem
abbrev AQ6:=@Array.getD_eq_getD_getElem?
abbrev AQ7:=@Bool.decide_and
abbrev AQ8:=@List.getElem?_take
abbrev AQ9:=@Array.length_toList
abbrev ARa:=@Sum.elim_inr
abbrev ARb:=@List.getElem_of_mem
abbrev ARc:=@Bool.or_eq_false_iff
abbrev ARd:=@beq_iff_eq
abbrev ARe:=@Nat.add_assoc
abbrev ARf:=@List.take_append_of_le_length
abbrev ARg:=@List.nil_append
abbrev ARh:=@List.range_succ
abbrev ARi:=@List.getElem?_eq_getElem
abbrev ARj:=@List.take_append_drop
abbrev ARk:=@List.eq_nil_or_concat
abbrev ARl:=@List.concat_eq_append
abbrev ARm:=@List.size_toArray
abbrev ARn:=@List.ext_getElem?
abbrev ARo:=@decide_eq_true_eq
abbrev ARp:=@List.ext_getElem
abbrev ARq:=@Sum.elim_inl
abbrev ARr:=@Bool.or_eq_true
abbrev ARs:=@List.mem_of_getElem?
abbrev ARt:=@List.mem_of_mem_take
abbrev ARu:=@Bool.not_false
abbrev ARv:=@Bool.not_eq_true'
abbrev ARw:=@bne_self_eq_false
abbrev ARx:=@List.getD_cons_zero
abbrev ARy:=@List.set_append_right
abbrev ARz:=@List.map_nil
abbrev ARA:=@if_false
abbrev ARB:=@decide_eq_decide
abbrev ARC:=@Int.le_refl
abbrev ARD:=@List.mem_append
abbrev ARF:=@bne_eq_false_iff_eq
abbrev ARG:=@List.length_flatten
abbrev ARH:=@Nat.add_mul
abbrev ARI:=@List.mem_cons
abbrev ARJ:=@Nat.pos_of_ne_zero
abbrev ARK:=@Array.getElem?_modify
abbrev ARL:=@List.length_filter_le
abbrev ARM:=@Bool.and_eq_false_iff
abbrev ARN:=@List.drop_eq_getElem_cons
abbrev ARO:=@Array.getElem?_setIfInBounds_ne
abbrev ARP:=@List.sum_cons
abbrev ARQ:=@List.getElem?_range
abbrev ARR:=@List.flatMap_append
abbrev ARS:=@List.take_left
abbrev ART:=@bne_iff_ne
abbrev ARU:=@List.sum_replicate_nat
abbrev ARV:=@Nat.sub_self
abbrev ARW:=@List.map_map
abbrev ARX:=@List.map_replicate
abbrev ARY:=@decide_eq_true_iff
abbrev ARZ:=@List.cons.injEq
abbrev AR0:=@List.sum_append
abbrev AR1:=@List.foldl_append
abbrev AR2:=@List.take_zero
abbrev AR3:=@Nat.add_zero
abbrev AR4:=@List.cons_append
abbrev AR5:=@List.take_length
abbrev AR6:=@List.replicate_succ
abbrev AR7:=@Nat.le_mul_of_pos_right
abbrev AR8:=@Bool.true_and
abbrev AR9:=@List.getElem?_drop
abbrev ASa:=@Bool.eq_iff_iff
abbrev ASb:=@List.filter_append
abbrev ASc:=@List.nodup_append
abbrev ASd:=@of_decide_eq_true
abbrev ASe:=@List.set_set
abbrev ASf:=@List.drop_zero
abbrev ASg:=@List.getElem?_set_ne
abbrev ASh:=@List.not_mem_nil
abbrev ASi:=@beq_self_eq_true
abbrev ASj:=@List.mem_of_mem_drop
abbrev ASk:=@List.replicate_succ'
abbrev ASl:=@Bool.false_or
inductive Ty where
 |int (k:IntKind)|bool |str |unit |AG (a b:Ty)|sl (t:Ty)|R4 (z:Nat)
 deriving DecidableEq
@[reducible] def Ty.V:Ty->Type
 |.int _=>Int
 |.bool=>Bool
 |.str=>ByteArray
 |.unit=>Unit
 |.AG a b=>a.V×b.V
 |.sl t=>List t.V
 |.R4 _=>Unit
def Ty.zero:(t:Ty)->t.V
 |.int _=>0
 |.bool=>false
 |.str=>⟨#[]⟩
 |.unit=>()
 |.AG a b=>(a.zero,b.zero)
 |.sl _=>[]
 |.R4 _=>()
def Ty.size:Ty->Nat
 |.unit=>0
 |.AG a b=>a.size+b.size
 |_=>1
def Ty.BZ:Ty->Bool
 |.sl _=>false
 |.R4 _=>false
 |.AG a b=>a.BZ&&b.BZ
 |_=>true
def Ty.data:Ty->Bool
 |.R4 _=>false
 |.AG a b=>a.data&&b.data
 |.sl t=>t.data
 |_=>true
def Ty.isAgg:Ty->Bool
 |.unit=>true
 |.AG _ _=>true
 |_=>false
def JA(t u:Ty)(x:t.V):ATP u.V:=if h:t=u then some (h▸x)else none
inductive AV where
 |AB (ks:List Nat) (t:Ty) (x:t.V)
 |zs
 |AK (k:Nat)
 |ptr (k:Nat) (i:Int) (p:List Nat) (o:Nat)
 |FQ (ks:List Nat) (t:Ty) (x:t.V)
 |KG
 |pr (a b:AV)
 |fn (f:Nat) (ae:AV)
 |cons (a b:AV)
 |nil
 |UT (k:Nat) (i:Int) (p:List Nat) (o e:Nat)
 |WM (k:Nat) (i:Int) (p:List Nat) (o:Nat) (j:Int) (u:Ty)
 |mp (k:Nat)
 |un (n:Nat)
inductive RM where
 |Aw |sh (ks:List Nat)
inductive Blk where
 |box (a:AV)
 |row (e:Nat) (m:RM) (t:Ty) (xs:List t.V)
 |map (m:RM) (kt vt:Ty) (es:List (kt.V×vt.V)) (st:Option kt.V)
 |R1 (e:Nat) (t:Ty) (xs:List t.V) (i:Int) (p:List Nat)
 |tail (e:Nat) (t:Ty) (xs:List t.V)
 |Bg
def AV.size:AV->Nat
 |.AB _ t _=>t.size
 |.pr a b=>a.size+b.size
 |.un n=>n
 |_=>1
def AV.isAgg:AV->Bool
 |.AB _ t _=>t.isAgg
 |.pr _ _=>true
 |_=>false
@[reducible] def AV.int (k:IntKind) (n:Int):AV:=.AB [] (.int k) n
@[reducible] def AV.bool (b:Bool):AV:=.AB [] .bool b
@[reducible] def AV.str (s:ByteArray):AV:=.AB [] .str s
@[reducible] def AV.u:AV:=.AB [] .unit ()
def Ty.aP:Ty->AV
 |.AG a b=>.pr a.aP b.aP
 |.sl _=>.zs
 |.R4 0=>.KG
 |.R4 _=>.un 1
 |.int k=>.AB [] (.int k) (0:Int)
 |.bool=>.AB [] .bool false
 |.str=>.AB [] .str ⟨#[]⟩
 |.unit=>.AB [] .unit ()
def bz(ks:ATO Nat)(t:Ty):ATO Nat:=if t.BZ then[]else ks
def XM(ks:ATO Nat):(t:Ty)->t.V->Nat->ATP AV
 |.AG a _,x,0=>some (.AB (bz ks a) a x.1)
 |.AG _ b,x,n+1=>XM ks b x.2 n
 |_,_,_=>none
def AV.bh:AV->Nat->ATP AV
 |.AB ks t x,n=>XM ks t x n
 |.pr a _,0=>some a
 |.pr _ b,n+1=>b.bh n
 |_,_=>none
def VB:Ty->Nat->ATP Nat
 |.AG _ _,0=>some 0
 |.AG a b,n+1=>match VB b n with |some o=>some (a.size+o)|none=>none
 |_,_=>none
def AV.off:AV->Nat->ATP Nat
 |.AB _ t _,n=>VB t n
 |.pr _ _,0=>some 0
 |.pr a b,n+1=>match b.off n with |some o=>some (a.size+o)|none=>none
 |_,_=>none
def mP:Ty->Nat->ATP Ty
 |.AG a _,0=>some a
 |.AG _ b,n+1=>mP b n
 |_,_=>none
def tyP:Ty->ATO Nat->ATP Ty
 |t,[]=>some t
 |t,f::p=>match mP t f with |some u=>tyP u p |none=>none
def Mf:Ty->ATO Nat->ATP Nat
 |_,[]=>some 0
 |t,f::p=>match mP t f,VB t f with
  |some u,some o=>match Mf u p with |some o'=>some (o+o')|none=>none
  |_,_=>none
def xd(ks:ATO Nat):(t:Ty)->t.V->Nat->AV->ATP AV
 |.AG _ b,x,0,v=>some (.pr v (.AB (bz ks b) b x.2))
 |.AG a b,x,n+1,v=>match xd ks b x.2 n v with |some r=>some (.pr (.AB (bz ks a) a x.1) r)|none=>none
 |_,_,_,_=>none
def AV.Un:AV->Nat->AV->ATP AV
 |.AB ks t x,n,v=>xd ks t x n v
 |.pr _ b,0,v=>some (.pr v b)
 |.pr a b,n+1,v=>match b.Un n v with |some r=>some (.pr a r)|none=>none
 |_,_,_=>none
def AV.Wz:AV->ATO Nat->ATP AV
 |a,[]=>some a
 |a,f::p=>match a.bh f with |some b=>b.Wz p |none=>none
def AV.AdT:AV->ATO Nat->ATP Nat
 |_,[]=>some 0
 |a,f::p=>match a.bh f,a.off f with
  |some b,some o=>match b.AdT p with |some o'=>some (o+o')|none=>none
  |_,_=>none
def AV.bQ:AV->ATO Nat->AV->ATP AV
 |_,[],v=>some v
 |a,f::p,v=>match a.bh f with
  |some b=>match b.bQ p v with |some r=>a.Un f r |none=>none
  |none=>none
def SE:(t:Ty)->t.V->Nat->(∀u:Ty,u.V->ATP u.V)->ATP t.V
 |.AG a _,x,0,f=>match f a x.1 with |some y=>some (y,x.2)|none=>none
 |.AG _ b,x,n+1,f=>match SE b x.2 n f with |some y=>some (x.1,y)|none=>none
 |_,_,_,_=>none
def TU(u:Ty)(y:u.V):(p:ATO Nat)->(t:Ty)->t.V->ATP t.V
 |[],t,_=>JA u t y
 |f::p,t,x=>SE t x f (λt' x'=>TU u y p t' x')
def AV.Cx:AV->ATO Nat
 |.AB ks _ _=>ks
 |.FQ ks _ _=>ks
 |.AK k=>[k]
 |.ptr k _ _ _=>[k]
 |.UT k _ _ _ _=>[k]
 |.WM k _ _ _ _ _=>[k]
 |.mp k=>[k]
 |.pr a b=>a.Cx++b.Cx
 |.fn _ c=>c.Cx
 |.cons a b=>a.Cx++b.Cx
 |_=>[]
def AV.Tz:AV->ATO Nat
 |.AB ks _ _=>ks
 |.FQ ks _ _=>ks
 |.UT k _ _ _ _=>[k]
 |.WM k _ _ _ _ _=>[k]
 |.pr a b=>a.Tz++b.Tz
 |.fn _ c=>c.Tz
 |.cons a b=>a.Tz++b.Tz
 |_=>[]
def RM.Cx:RM->ATO Nat
 |.Aw=>[]
 |.sh ks=>ks
def Blk.Cx:Blk->ATO Nat
 |.box a=>a.Cx
 |.row _ m _ _=>m.Cx
 |.map m _ _ _ _=>m.Cx
 |.R1 _ _ _ _ _=>[]
 |.tail _ _ _=>[]
 |.Bg=>[]
def Blk.Tz:Blk->ATO Nat
 |.box a=>a.Tz
 |.row _ m _ _=>m.Cx
 |.map m _ _ _ _=>m.Cx
 |.R1 _ _ _ _ _=>[]
 |.tail _ _ _=>[]
 |.Bg=>[]
def AV.OR(f:Nat->Nat):AV->AV
 |.AB ks t x=>.AB (ks.map f) t x
 |.FQ ks t x=>.FQ (ks.map f) t x
 |.AK k=>.AK (f k)
 |.ptr k i p o=>.ptr (f k) i p o
 |.UT k i p o e=>.UT (f k) i p o e
 |.WM k i p o j u=>.WM (f k) i p o j u
 |.mp k=>.mp (f k)
 |.pr a b=>.pr (a.OR f) (b.OR f)
 |.fn g c=>.fn g (c.OR f)
 |.cons a b=>.cons (a.OR f) (b.OR f)
 |.zs=>.zs
 |.KG=>.KG
 |.nil=>.nil
 |.un n=>.un n
def RM.OR(f:Nat->Nat):RM->RM
 |.Aw=>.Aw
 |.sh ks=>.sh (ks.map f)
def Blk.OR(f:Nat->Nat):Blk->Blk
 |.box a=>.box (a.OR f)
 |.row e m t xs=>.row e (m.OR f) t xs
 |.map m kt vt es st=>.map (m.OR f) kt vt es st
 |.R1 e t xs i p=>.R1 e t xs i p
 |.tail e t xs=>.tail e t xs
 |.Bg=>.Bg
def aU(n:Nat)(ks:ATO Nat):ATO Nat:=(List.range n).filter λk=>ks.contains k
def AV.Ev(n:Nat):AV->AV
 |.AB ks t x=>.AB (aU n ks) t x
 |.FQ ks t x=>.FQ (aU n ks) t x
 |.pr a b=>.pr (a.Ev n) (b.Ev n)
 |.fn f c=>.fn f (c.Ev n)
 |.cons a b=>.cons (a.Ev n) (b.Ev n)
 |a=>a
def Blk.Ev(n:Nat):Blk->Blk
 |.box a=>.box (a.Ev n)
 |.row e (.sh ks) t xs=>.row e (.sh (aU n ks)) t xs
 |.map (.sh ks) kt vt es st=>.map (.sh (aU n ks)) kt vt es st
 |b=>b
def AV.drop(Yk:Nat->Bool):AV->AV
 |.AB ks t x=>if ks.any Yk then .un t.size else .AB ks t x
 |.FQ ks t x=>if ks.any Yk then .un 1 else .FQ ks t x
 |.UT k i p o e=>if Yk k then .un 1 else .UT k i p o e
 |.WM k i p o j u=>if Yk k then .un 1 else .WM k i p o j u
 |.pr a b=>.pr (a.drop Yk) (b.drop Yk)
 |.fn g c=>.fn g (c.drop Yk)
 |.cons a b=>.cons (a.drop Yk) (b.drop Yk)
 |a=>a
def Blk.drop(Yk:Nat->Bool):Blk->Blk
 |.box a=>.box (a.drop Yk)
 |.row e m t xs=>if m.Cx.any Yk then .Bg else .row e m t xs
 |.map m kt vt es st=>if m.Cx.any Yk then .Bg else .map m kt vt es st
 |.R1 e t xs i p=>.R1 e t xs i p
 |.tail e t xs=>.tail e t xs
 |.Bg=>.Bg
structure St where
 AU:List AV
 Aj:List Blk
structure H8 where
 val:AV
 Aj:List Blk
 BJ:List Nat
structure TI where
 ty:Ty
 Xr:List Nat
 elem:Nat
 bytes:Nat
 Hh:Nat:=0
 Pb:Nat:=0
 eqs:Bool:=false
def TI.EA(ti:TI):Bool:=match ti.ty with |.sl _=>true |_=>false
abbrev Tab:=List (Nat×TI)
def Tab.get:Tab->Nat->ATP TI
 |[],_=>none
 |(k,i)::r,t=>if k==t then some i else Tab.get r t
inductive PM where
 |d (t:Ty)|p (t:Ty)|VE
structure Callee where
 pE:List PM
 run:(R:Type)->List AV->List Blk->(AV->List Blk->Option R)->Option R
 AdC:List Nat:=[]
inductive Co where
 |row (p:List Nat) (e:Nat) (t:Ty) (Aw:Bool)
 |AB (t:Ty)
 |gV (ks:List Nat)
structure SH where
 Be:List Nat
 mv:List Nat:=[]
 RU:List (Nat×Bool×Ty):=[]
 Cj:List (Nat×Bool×Co):=[]
 wid:List (Nat×List Nat):=[]
 post:List (Nat×Bool×Co):=[]
 mvp:List (Nat×List Nat):=[]
 Xu:Bool:=false
inductive Fi where
 |co (k:Nat) (c:Co)|mv (k:Nat) (p:List Nat)|Bg (j:Nat)|mvs (s:Nat) (p:List Nat)
structure FI where
 Aw:Bool:=true
 take:List Nat:=[]
 wH:List (Nat×Nat):=[]
 Ba:List (Nat×SH):=[]
 BN:List (Nat×SH):=[]
 BM:List (Nat×SH):=[]
 W8:List (Nat×SH):=[]
 Du:List (Nat×List Nat):=[]
 AI4:List (Nat×List (Nat×List (List Nat)×Co)):=[]
 WX:List Fi:=[]
 Yl:List (Nat×List Nat):=[]
 kv:List (Nat×Ty):=[]
 AG4:List Nat:=[]
 RU:List (Nat×Ty):=[]
 iq:List (Nat×Co):=[]
 stl:List Nat:=[]
structure GX where
 Ee:Tab
 fns:Nat->Option Callee
 fi:FI
def qZ:Value->AV
 |.int k n=>.int k n
 |.bool b=>.bool b
 |.string s=>.str s
 |.slice none 0 0=>.zs
 |.pointer none=>.KG
 |_=>.un 0
def St.Cr(σ:St):Operand->AV
 |.tmp t=>(σ.AU[t]?).getD (.un 0)
 |.const v=>qZ v
 |.func f=>.fn f .nil
 |_=>.un 0
def AV.cj:AV->AV
 |.UT _ _ _ _ _=>.un 1
 |.WM _ _ _ _ _ _=>.un 1
 |.pr a b=>.pr a.cj b.cj
 |.fn f c=>.fn f c.cj
 |.cons a b=>.cons a.cj b.cj
 |a=>a
def Blk.cj:Blk->Blk
 |.box a=>.box a.cj
 |b=>b
def AV.fa:AV->Bool
 |.UT _ _ _ _ _=>true
 |.WM _ _ _ _ _ _=>true
 |.pr a b=>a.fa||b.fa
 |.fn _ c=>c.fa
 |.cons a b=>a.fa||b.fa
 |_=>false
def Blk.fa:Blk->Bool
 |.box a=>a.fa
 |_=>false
def Blk.G4(bs:ATO Blk):ATO Nat->ATO Blk
 |[]=>bs
 |k::r=>Blk.G4 (bs.set k .Bg) r
def Vh(BJ:ATO Nat)(sl:ATO AV):ATO AV:=match BJ with |[]=>sl |m::ms=>sl.map (·.drop λk=>(m::ms).contains k)
def Bh(BJ:ATO Nat)(bs:ATO Blk):ATO Blk:=match BJ with |[]=>bs |m::ms=>bs.map (·.drop λk=>(m::ms).contains k)
def nJ(BJ:ATO Nat)(m:RM):Bool:=m.Cx.all λk=>!BJ.contains k
def aj(d:ATP Nat)(v:AV)(sl:ATO AV):ATO AV:=match d with |some d=>sl.set d v |none=>sl
def St.after(σ:St)(d:ATP Nat)(e:H8):St:={AU:=aj d e.val (Vh e.BJ σ.AU),Aj:=e.Aj}
def AV.Dv:AV->Bool
 |.cons _ _=>true
 |.nil=>true
 |_=>false
def AV.ak:AV->Bool
 |.un _=>false
 |.cons _ _=>false
 |.nil=>false
 |_=>true
def rd(bs:ATO Blk):(t:Ty)->AV->ATP t.V
 |.AG a b,av=>match av with
  |.AB _ t x=>JA t (.AG a b) x
  |.pr u v=>match rd bs a u,rd bs b v with |some x,some y=>some (x,y)|_,_=>none
  |_=>none
 |.sl t,av=>match av with
  |.AB _ u x=>JA u (.sl t) x
  |.zs=>some []
  |.AK k=>match bs[k]? with |some (.row _ _ u xs)=>JA (.sl u) (.sl t) xs |_=>none
  |_=>none
 |t,av=>match av with |.AB _ u x=>JA u t x |_=>none
def atB(bs:ATO Blk)(k:Nat)(i:Int):ATP AV:=match bs[k]? with
 |some (.box a)=>some a
 |some (.row _ m t xs)=>some (.AB (bz (match m with |.Aw=>[k]|.sh ks=>ks) t) t (xs.getD i.toNat t.zero))
 |_=>none
def atP(bs:ATO Blk)(k:Nat)(i:Int)(p:ATO Nat)(o:Nat):ATP AV:=match atB bs k i with
 |some a=>if a.AdT p=some o then a.Wz p else none
 |none=>none
def AV.R5:AV->ATO Nat
 |.AK k=>[k]
 |.pr a b=>a.R5++b.R5
 |_=>[]
def AV.gV:AV->ATO Nat
 |.AB ks _ _=>ks
 |.pr a b=>a.gV++b.gV
 |_=>[]
def AV.YZ:AV->Bool
 |.AB _ t _=>t.BZ
 |.zs=>true
 |.AK _=>true
 |.pr a b=>a.YZ&&b.YZ
 |_=>false
def Ty.row(t:Ty):Bool:=t.data&&t.size !=0
def dK(bs:ATO Blk)(k:Nat):ATP RM:=match bs[k]? with |some (.row _ m _ _)=>some m |_=>none
def AV.Vx(bs:ATO Blk):AV->ATO Nat
 |.AB ks _ _=>ks
 |.AK k=>k::(match dK bs k with |some m=>m.Cx |none=>[])
 |.pr a b=>a.Vx bs++b.Vx bs
 |_=>[]
def nodup:ATO Nat->Bool
 |[]=>true
 |k::r=>!r.contains k&&nodup r
def take(bs:ATO Blk)(m:RM)(t:Ty)(v:AV):ATP (t.V×RM×ATO Nat) :=
 match rd bs t v with
 |none=>none
 |some y =>
  let rs:=v.R5
  match m with
  |.Aw=>if v.YZ&&nodup rs&&rs.all (λk=>match dK bs k with |some .Aw=>true |_=>false)then some (y,.Aw,rs)else none
  |.sh ks=>if nodup rs&&rs.all (λk=>(dK bs k).isSome)then
      some (y,.sh (ks++v.gV++rs.flatMap (λk=>match dK bs k with |some (.sh l)=>l |_=>[])),rs)else none
def AvA{A:Type}:(t:Ty)->t.V->Nat->(∀u:Ty,u.V->ATP A)->ATP A
 |.AG a _,x,0,f=>f a x.1
 |.AG _ b,x,n+1,f=>AvA b x.2 n f
 |_,_,_,_=>none
def kz(u:Ty):(p:ATO Nat)->(t:Ty)->t.V->ATP u.V
 |[],t,x=>JA t u x
 |f::p,t,x=>AvA t x f (λt' x'=>kz u p t' x')
def Ty.EF:Ty->Bool
 |.int _=>true
 |.str=>true
 |.AG (.int _) (.AG (.int _) .unit)=>true
 |_=>false
def Jf(s t:ByteArray):Bool:=s.toList==t.toList
def Bm:(t:Ty)->t.V->t.V->Bool
 |.int _,x,y=>x==y
 |.str,x,y=>Jf x y
 |.AG a b,x,y=>Bm a x.1 y.1&&Bm b x.2 y.2
 |.unit,_,_=>true
 |_,_,_=>false
def QS:(t:Ty)->t.V->t.V->Bool
 |.int _,x,y=>x==y
 |.bool,x,y=>x==y
 |.str,x,y=>Jf x y
 |.AG a b,x,y=>QS a x.1 y.1&&QS b x.2 y.2
 |.unit,_,_=>true
 |_,_,_=>false
def O9(kt vt:Ty):ATO (kt.V×vt.V)->kt.V->ATP vt.V
 |[],_=>none
 |x::r,k=>bif Bm kt k x.1 then some x.2 else O9 kt vt r k
def BA(kt vt:Ty)(es:ATO (kt.V×vt.V))(k:kt.V):vt.V:=(O9 kt vt es k).getD vt.zero
def Ul(kt vt:Ty)(es:ATO (kt.V×vt.V))(k:kt.V):Bool:=(O9 kt vt es k).isSome
def YF(kt vt:Ty):ATO (kt.V×vt.V)->kt.V->Nat
 |[],_=>0
 |x::r,k=>bif Bm kt k x.1 then 0 else YF kt vt r k+1
def Yv(kt vt:Ty)(es:ATO (kt.V×vt.V))(k:kt.V):Int:=Int.ofNat (YF kt vt es k)
def W9(kt vt:Ty)(es:ATO (kt.V×vt.V))(k:kt.V)(n:Int):Bool:=n==Yv kt vt es k&&Ul kt vt es k
def Cs(kt vt:Ty):ATO (kt.V×vt.V)->kt.V->vt.V->ATO (kt.V×vt.V)
 |[],k,v=>[(k,v)]
 |x::r,k,v=>bif Bm kt k x.1 then(k,v)::r else x::Cs kt vt r k v
def FI.mode(fi:FI)(t:Ty):RM:=if t.BZ||fi.Aw then .Aw else .sh []
def SF(k:IntKind)(x y:Int):Int:=x.fdiv (2^(min y.toNat k.bits))
def NS(k:IntKind)(x y:Int):Int:=k.wrap (x*2^(min y.toNat k.bits))
def cA(k:IntKind)(x y:Int):Int:=k.wrap (BitVec.ofInt k.bits x &&& BitVec.ofInt k.bits y).toNat
def fC(k:IntKind)(x y:Int):Int:=k.wrap (BitVec.ofInt k.bits x ||| BitVec.ofInt k.bits y).toNat
def AwM(k:IntKind)(x y:Int):Int:=k.wrap (BitVec.ofInt k.bits x ^^^ BitVec.ofInt k.bits y).toNat
def Aa2(k:IntKind)(x y:Int):Int:=k.wrap (BitVec.ofInt k.bits x &&& ~~~ BitVec.ofInt k.bits y).toNat
def strLt(s t:ByteArray):Bool:=Op.bytesLess s.toList t.toList
def Dc(s:ByteArray)(i:Int):Int:=((s[i.toNat]?).getD 0).toNat
section
variable {R:Type}
def qG(op:BinOp)(tb:Bool):AV->AV->(AV->ATP R)->ATP R
 |.AB _ (.int k) x,.AB _ (.int k') y,K =>
  match op with
  |.shl=>if y<0 then none else K (.int k (NS k x y))
  |.shr=>if y<0 then none else K (.int k (SF k x y))
  |op=>if k=k' then match op with
   |.add=>K (.int k (k.wrap (x+y)))
   |.sub=>K (.int k (k.wrap (x-y)))
   |.mul=>K (.int k (k.wrap (x*y)))
   |.quo=>if y=0 then none else K (.int k (k.wrap (x.tdiv y)))
   |.rem=>if y=0 then none else K (.int k (x.tmod y))
   |.and=>K (.int k (cA k x y))
   |.or=>K (.int k (fC k x y))
   |.xor=>K (.int k (AwM k x y))
   |.andNot=>K (.int k (Aa2 k x y))
   |.eql=>K (.bool (x==y))
   |.neq=>K (.bool (x !=y))
   |.lss=>K (.bool (decide (x<y)))
   |.leq=>K (.bool (decide (x<=y)))
   |.gtr=>K (.bool (decide (x>y)))
   |.geq=>K (.bool (decide (x>=y)))
   |_=>none
   else none
 |.AB _ .str x,.AB _ .str y,K =>
  match op with
  |.add=>if x.size+y.size<=9223372036854775807 then K (.str (x++y))else none
  |.eql=>K (.bool (Jf x y))
  |.neq=>K (.bool (!Jf x y))
  |.lss=>K (.bool (strLt x y))
  |.leq=>K (.bool (strLt x y||Jf x y))
  |.gtr=>K (.bool (!(strLt x y||Jf x y)))
  |.geq=>K (.bool (!strLt x y))
  |_=>none
 |.AB _ .bool x,.AB _ .bool y,K=>if tb then
  match op with
  |.eql=>K (.bool (x==y))
  |.neq=>K (.bool (!(x==y)))
  |_=>none
  else none
 |_,_,_=>none
def unA(op:UnOp):AV->(AV->ATP R)->ATP R
 |.AB _ .bool b,K=>match op with |.not=>K (.bool (!b))|_=>none
 |.AB _ (.int k) n,K=>match op with
  |.neg=>K (.int k (k.wrap (0-n)))
  |.xor=>K (.int k (AwM k (if k.signed then -1 else k.max) n))
  |_=>none
 |_,_=>none
def sc(bs:ATO Blk)(ti:TI):AV->(AV->ATP R)->ATP R
 |.AB _ (.sl _) xs,K=>if ti.EA then K (.int .i64 (xs.length:Int))else none
 |.AB _ .str s,K=>if ti.ty=.str then K (.int .i64 (s.size:Int))else none
 |.zs,K=>if ti.EA then K (.int .i64 0)else none
 |.AK k,K=>match bs[k]? with
  |some (.row _ _ _ xs)=>if ti.EA then K (.int .i64 (xs.length:Int))else none
  |some (.R1 _ _ xs _ _)=>if ti.EA then K (.int .i64 (xs.length:Int))else none
  |_=>none
 |_,_=>none
def mmA(mx:Bool):AV->AV->(AV->ATP R)->ATP R
 |.AB _ (.int k) x,.AB _ (.int k') y,K=>if k=k' then K (.int k (if mx then(if y>x then y else x)else(if y<x then y else x)))else none
 |_,_,_=>none
def zT(bs:ATO Blk)(te:Ty):AV->AV->(AV->ATP R)->ATP R
 |.AB ks (.sl t) xs,.AB _ (.int _) i,K=>if t=te then if 0<=i/\i<(xs.length:Int)then K (.FQ ks t (xs.getD i.toNat t.zero))else none else none
 |.AK k,.AB _ (.int _) i,K=>match bs[k]? with
  |some (.row _ _ t xs)=>if t=te then if 0<=i/\i<(xs.length:Int)then K (.ptr k i [] 0)else none else none
  |some (.R1 _ t xs _ _)=>if t=te then if 0<=i/\i<(xs.length:Int)then K (.ptr k i [] 0)else none else none
  |_=>none
 |_,_,_=>none
def vY(bs:ATO Blk)(te:Ty):AV->AV->(AV->ATP R)->ATP R
 |.UT k i0 p f _,.AB _ (.int _) j,K=>match bs[k]? with
  |some (.row _ .Aw tr xs)=>match kz (.sl te) p tr (xs.getD i0.toNat tr.zero),TU (.sl te) [] p tr (xs.getD i0.toNat tr.zero)with
   |some ys,some _=>if te.size≠0/\Mf tr p=some f then if 0<=j/\j<(ys.length:Int)then K (.WM k i0 p f j te)else none else none
   |_,_=>none
  |_=>none
 |x,y,K=>zT bs te x y K
def qS:AV->AV->(AV->ATP R)->ATP R
 |.AB _ .str s,.AB _ (.int _) i,K=>if 0<=i/\i<(s.size:Int)then K (.int .u8 (Dc s i))else none
 |_,_,_=>none
def nc(ti:TI)(f:Nat):AV->(AV->ATP R)->ATP R
 |.ptr k i p o,K=>match ti.Xr[f]? with |some fo=>K (.ptr k i (p++[f]) (o+fo))|none=>none
 |.FQ ks t x,K=>if t=ti.ty/\VB t f=ti.Xr[f]? then match XM ks t x f with |some (.AB _ u y)=>K (.FQ ks u y)|_=>none else none
 |_,_=>none
def aG(bs:ATO Blk)(ti:TI):AV->(AV->ATP R)->ATP R
 |.FQ ks t x,K=>if t=ti.ty then K (.AB (bz ks t) t x)else none
 |.ptr k i p o,K=>match atP bs k i p o with
  |some v=>if v.size=ti.ty.size/\v.isAgg=ti.ty.isAgg then K v else none
  |none=>none
 |_,_=>none
def fI(bs:ATO Blk)(ti:TI):AV->AV->(H8->ATP R)->ATP R
 |.ptr k i p o,v,K=>match bs[k]? with
  |some (.box a)=>match a.Wz p,a.bQ p v with
   |some pI,some a'=>if v.ak/\a.AdT p=some o/\pI.size=v.size/\v.size=ti.ty.size/\v.isAgg=ti.ty.isAgg/\a'.Cx.contains k=false then K ⟨.un 0,(Bh [k] bs).set k (.box a'),[k]⟩else none
   |_,_=>none
  |some (.row e m t xs)=>match take bs m ti.ty v with
   |some (y,m',rs) =>
    if Mf t p=some o/\tyP t p=some ti.ty/\nJ (k::rs) m'/\rs.contains k=false then match TU ti.ty y p t (xs.getD i.toNat t.zero)with
     |some x'=>K ⟨.un 0,(Blk.G4 (Bh (k::rs) bs) rs).set k (.row e m' t (xs.set i.toNat x')),k::rs⟩
     |none=>none
    else none
   |none=>none
  |some (.R1 e t xs i' p')=>match v with
   |.AK j=>match bs[j]? with
    |some (.row _ .Aw u ys)=>match TU (.sl u) [] p t (xs.getD i.toNat t.zero),TU (.sl u) ys p t (xs.getD i.toNat t.zero)with
     |some x0,some x'=>if ti.ty=.sl u/\Mf t p=some o/\tyP t p=some (.sl u)/\p'=p/\j≠k then
         if i'=i then K ⟨.un 0,(Blk.G4 (Bh [k,j] ((Bh [k] bs).set k (.row e .Aw t (xs.set i.toNat x0)))) [j]).set k (.row e .Aw t (xs.set i.toNat x')),[k,j]⟩else none
      else none
     |_,_=>none
    |_=>none
   |_=>none
  |_=>none
 |_,_,_=>none
def bT(bs:ATO Blk)(ti:TI):AV->(H8->ATP R)->ATP R
 |.ptr k i p o,K=>match bs[k]? with
  |some (.row e .Aw t xs)=>match tyP t p with
   |some (.sl u)=>match kz (.sl u) p t (xs.getD i.toNat t.zero),TU (.sl u) [] p t (xs.getD i.toNat t.zero)with
    |some ys,some _=>if ti.ty=.sl u/\Mf t p=some o/\u.size≠0 then
        K ⟨.AK bs.length,(Bh [k] bs).set k (.R1 e t xs i p)++[.row 0 .Aw u ys],[k]⟩else none
    |_,_=>none
   |_=>none
  |_=>none
 |_,_=>none
def YU(ti:TI):AV->ATO (Nat×AV)->ATP AV
 |a,[]=>some a
 |a,(f,v)::r=>match a.bh f with
  |some pI=>if pI.size=v.size/\v.ak=true/\a.off f=ti.Xr[f]?/\(mP ti.ty f).map Ty.size=some v.size then match a.Un f v with |some a'=>YU ti a' r |none=>none else none
  |none=>none
def SB(bs:ATO Blk)(t:Ty):RM->ATO t.V->ATO Nat->ATO (Nat×AV)->ATP (RM×ATO t.V×ATO Nat)
 |m,xs,rs,[]=>some (m,xs,rs)
 |m,xs,rs,(i,v)::r=>match take bs m t v with
  |some (y,m',l)=>if i<xs.length then SB bs t m' (xs.set i y) (rs++l) r else none
  |none=>none
def sW(bs:ATO Blk)(t:Ty):AV->ATP (ATO t.V×RM×ATO Nat)
 |.zs=>some ([],.Aw,[])
 |.AB ks (.sl u) ys=>match JA (.sl u) (.sl t) ys with |some l=>some (l,if t.BZ then .Aw else .sh ks,[])|none=>none
 |.AB _ .str s=>match JA (.sl (.int .u8)) (.sl t) (s.data.toList.map λb=>(b.toNat:Int))with |some l=>some (l,.Aw,[])|none=>none
 |.AK j=>match bs[j]? with
  |some (.row _ m u ys)=>match JA (.sl u) (.sl t) ys with |some l=>some (l,if t.BZ then .Aw else m,if t.BZ then[]else[j])|none=>none
  |_=>none
 |_=>none
def AbT:RM->RM->ATP RM
 |.Aw,.Aw=>some .Aw
 |.sh a,.sh b=>some (.sh (a++b))
 |.sh a,.Aw=>some (.sh a)
 |.Aw,.sh _=>none
def Zx(fi:FI)(bs:ATO Blk)(e:Nat)(ti:TI):AV->AV->(H8->ATP R)->ATP R
 |.zs,y,K=>if(ti.ty.row&&ti.bytes !=0)=false then none else match sW bs ti.ty y with
  |some (ys,m,rs)=>match AbT (match m with |.Aw=>fi.mode ti.ty |m=>m) m with
   |some m'=>if nJ rs m' then if ys.length*ti.bytes<=140737488355328 then K ⟨.AK bs.length,Blk.G4 (Bh rs bs) rs++[.row e m' ti.ty ys],rs⟩else none else none
   |none=>none
  |none=>none
 |.AK k,y,K=>if(ti.ty.row&&ti.bytes !=0)=false then none else match bs[k]?,sW bs ti.ty y with
  |some (.row e' m t xs),some (ys,m2,rs)=>match JA (.sl t) (.sl ti.ty) xs,AbT m m2 with
   |some xs,some m'=>if(e=e'/\e≠0\/e'=0)/\rs.contains k=false/\nJ (k::rs) m' then
       if(xs.length+ys.length)*ti.bytes<=140737488355328 then K ⟨.AK bs.length,Blk.G4 (Bh (k::rs) bs) (k::rs)++[.row e' m' ti.ty (xs++ys)],k::rs⟩else none
    else none
   |_,_=>none
  |_,_=>none
 |_,_,_=>none
def Ty.isInt:Ty->Bool
 |.int _=>true
 |_=>false
def Zy(fi:FI)(bs:ATO Blk)(e:Nat)(ti:TI):AV->AV->(H8->ATP R)->ATP R
 |.zs,.AB _ (.int _) l,K=>if ti.ty.row=true/\ti.bytes≠0 then if 0<=l/\l*(ti.bytes:Int)<=140737488355328 then K ⟨.AK bs.length,bs++[.row e (fi.mode ti.ty) ti.ty (List.replicate l.toNat ti.ty.zero)],[]⟩else none else none
 |_,_,_=>none
def pw(fi:FI)(bs:ATO Blk)(e:Nat)(ti:TI):AV->AV->(H8->ATP R)->ATP R
 |.AB _ (.int _) l,.AB _ (.int _) c,K=>if ti.ty.row/\0<=l/\l<=c/\(ti.bytes:Int)*c<=281474976710656/\c<=9223372036854775807 then
     K ⟨.AK bs.length,bs++[.row e (fi.mode ti.ty) ti.ty (List.replicate l.toNat ti.ty.zero)],[]⟩else none
 |_,_,_=>none
def bnd:ATP AV->Int->ATP Int
 |none,d=>some d
 |some (.AB _ (.int _) i),_=>some i
 |_,_=>none
def X3(bs:ATO Blk)(ti:TI)(te:ATP Ty)(x:AV)(lo hi mx:ATP AV)(K:AV->ATP R):ATP R :=
 match mx with
 |some (.AB _ (.int _) m)=>match lo,hi with
  |none,some (.AB _ (.int _) h)=>if h=0/\m=0/\te.isSome then match x with
   |.AB _ (.sl _) _=>K .zs
   |.zs=>K .zs
   |.AK k=>match bs[k]? with |some (.row _ _ _ _)=>K .zs |_=>none
   |_=>none
   else none
  |_,_=>none
 |some _=>none
 |none=>match x with
  |.AB _ .str s=>match bnd lo 0,bnd hi (s.size:Int)with
   |some l,some h=>if ti.ty=.str/\0<=l/\l<=h/\h<=(s.size:Int)then K (.str (s.extract l.toNat h.toNat))else none
   |_,_=>none
  |.AB ks (.sl t) xs=>match bnd lo 0,bnd hi (xs.length:Int)with
   |some l,some h=>if te=some t then if 0<=l/\l<=h/\h<=(xs.length:Int)then K (.AB ks (.sl t) ((xs.take h.toNat).drop l.toNat))else none else none
   |_,_=>none
  |.AK k=>match bs[k]? with
   |some (.row _ m t xs)=>match bnd lo 0,bnd hi (xs.length:Int)with
    |some l,some h=>if te=some t then if 0<=l/\l<=h/\h<=(xs.length:Int)then K (.AB (k::m.Cx) (.sl t) ((xs.take h.toNat).drop l.toNat))else none else none
    |_,_=>none
   |_=>none
  |.zs=>match bnd lo 0,bnd hi 0 with
   |some l,some h=>if te.isSome/\l=0/\h=0 then K .zs else none
   |_,_=>none
  |_=>none
def Ac8(te:Ty)(bs:ATO Blk)(x:AV)(hi:ATP AV)(K:H8->ATP R):ATP R :=
 match x,hi with
 |.AK k,some (.AB _ (.int _) h)=>match bs[k]? with
  |some (.row e m t xs)=>if nJ [k] m/\t=te then if 0<=h/\h<=(xs.length:Int)then K ⟨.AK bs.length,Blk.G4 (Bh [k] bs) [k]++[.row e m t (xs.take h.toNat)],[k]⟩else none else none
  |_=>none
 |_,_=>none
def bytesOf(xs:ATO Int):ByteArray:=⟨(xs.map λn=>UInt8.ofNat n.toNat).toArray⟩
def cM(bs:ATO Blk)(te:ATP Ty)(td:Ty)(a:AV)(K:AV->ATP R):ATP R :=
 match td with
 |.int k=>match a with |.AB _ (.int _) n=>K (.int k (k.wrap n))|_=>none
 |.str=>match a with
  |.AB _ .str s=>K (.str s)
  |a=>if te=some (.int .u8)then match rd bs (.sl (.int .u8)) a with |some xs=>K (.str (bytesOf xs))|none=>none else none
 |_=>none
def RM.own(k:Nat):RM->ATO Nat
 |.Aw=>[k]
 |.sh ks=>ks
def gp(bs:ATO Blk)(tk te:TI)(ok:Bool)(m x:AV)(K:AV->ATP R):ATP R :=
 match m with
 |.mp k=>match bs[k]? with
  |some (.map md kt vt es none)=>match rd bs kt x with
   |some key=>if kt=tk.ty/\vt=te.ty/\kt.EF=true then
       (bif ok then K (.cons (.AB (bz (md.own k) vt) vt (BA kt vt es key)) (.cons (.bool (Ul kt vt es key)) .nil))
        else K (.AB (bz (md.own k) vt) vt (BA kt vt es key)))else none
   |none=>none
  |_=>none
 |_=>none
def po(bs:ATO Blk)(tk te:TI)(m x:AV)(K:H8->ATP R):ATP R :=
 match m with
 |.mp k=>match bs[k]? with
  |some (.map .Aw kt (.sl u) es none)=>match rd bs kt x with
   |some key=>if kt=tk.ty/\.sl u=te.ty/\kt.EF=true/\u.size≠0 then
       K ⟨.AK bs.length,(Bh [k] bs).set k (.map .Aw kt (.sl u) es (some key))++[.row 0 .Aw u (BA kt (.sl u) es key)],[k]⟩else none
   |none=>none
  |_=>none
 |_=>none
def dT(bs:ATO Blk)(tk te:TI)(m x v:AV)(K:H8->ATP R):ATP R :=
 match m with
 |.mp k=>match bs[k]? with
  |some (.map md kt vt es st)=>match rd bs kt x,take bs md vt v with
   |some key,some (y,m',rs)=>if kt=tk.ty/\vt=te.ty/\kt.EF=true/\nJ (k::rs) m'/\rs.contains k=false then
       match st with
       |none=>K ⟨.un 0,(Blk.G4 (Bh (k::rs) bs) rs).set k (.map m' kt vt (Cs kt vt es key y) none),k::rs⟩
       |some k0=>bif Bm kt k0 key then K ⟨.un 0,(Blk.G4 (Bh (k::rs) bs) rs).set k (.map m' kt vt (Cs kt vt es key y) none),k::rs⟩else none
    else none
   |_,_=>none
  |_=>none
 |_=>none
def Adc(bs:ATO Blk)(tk te:TI)(m x:AV)(K:H8->ATP R):ATP R :=
 match m with
 |.mp k=>match bs[k]? with
  |some (.map .Aw kt (.sl u) es none)=>match rd bs kt x with
   |some key=>if kt=tk.ty/\Ty.sl u=te.ty/\kt.EF=true/\u.size≠0 then
       K ⟨.cons (.AK bs.length) (.cons (.int .i64 (Yv kt (.sl u) es key)) .nil),(Bh [k] bs).set k (.map .Aw kt (.sl u) (Cs kt (.sl u) es key (BA kt (.sl u) es key)) (some key))++[.row 0 .Aw u (BA kt (.sl u) es key)],[k]⟩else none
   |none=>none
  |_=>none
 |_=>none
def Ade(bs:ATO Blk)(tk te:TI)(m j v:AV)(K:H8->ATP R):ATP R :=
 match m with
 |.mp k=>match bs[k]? with
  |some (.map _ kt vt es (some key))=>match rd bs (.int .i64) j with
   |some n=>if kt=tk.ty/\kt.EF=true then(bif W9 kt vt es key n then dT bs tk te m (.AB [] kt key) v K else none)else none
   |none=>none
  |_=>none
 |_=>none
def Qp:AV->Nat->ATP AV
 |.cons a _,0=>some a
 |.cons _ b,n+1=>Qp b n
 |_,_=>none
end
def ik(l:ATO Nat):ATO Nat->ATO Nat
 |[]=>l
 |k::r=>if l.contains k then ik l r else ik (l++[k]) r
def pT(bs:ATO Blk):Nat->ATO Nat->ATO Nat
 |0,l=>l
 |f+1,l=>pT bs f (ik l (l.flatMap λk=>match bs[k]? with |some b=>b.Cx |none=>[]))
def idxOf(l:ATO Nat)(k:Nat):Nat:=match l with
 |[]=>0
 |x::r=>if x==k then 0 else idxOf r k+1
def AV.Wy(LD:ATO Nat):AV->AV
 |.AB ks t x=>.AB (if t.BZ then ks else ks++LD) t x
 |.FQ ks t x=>.FQ (ks++LD) t x
 |.pr a b=>.pr (a.Wy LD) (b.Wy LD)
 |.fn g c=>.fn g (c.Wy LD)
 |.cons a b=>.cons (a.Wy LD) (b.Wy LD)
 |a=>a
def RM.Wy(LD:ATO Nat):RM->RM
 |.Aw=>.Aw
 |.sh ks=>.sh (ks++LD)
def Blk.Wy(LD:ATO Nat):Blk->Blk
 |.box a=>.box (a.Wy LD)
 |.row e m t xs=>.row e (m.Wy LD) t xs
 |.map m kt vt es st=>.map (m.Wy LD) kt vt es st
 |.R1 e t xs i p=>.R1 e t xs i p
 |.tail e t xs=>.tail e t xs
 |.Bg=>.Bg
def zi(bs:ATO Blk):PM->AV->ATP (AV×ATO Nat)
 |.d t,v=>match rd bs t v with |some x=>some (.AB [] t x,v.Vx bs)|none=>none
 |.p t,.FQ ks u x=>match JA u t x with |some y=>some (.FQ [] t y,ks)|none=>none
 |.p t,.ptr k i p o=>match atP bs k i p o with
  |some a=>match rd bs t a with |some x=>some (.FQ [] t x,k::a.Vx bs)|none=>none
  |none=>none
 |.p _,_=>none
 |.VE,v=>some (v,[])
def AfL:PM->AV->ATO Nat
 |.VE,v=>v.Cx
 |_,_=>[]
def jy(bs:ATO Blk):ATO PM->ATO AV->ATP (ATO AV×ATO Nat×ATO Nat)
 |[],[]=>some ([],[],[])
 |m::ms,v::vs=>match zi bs m v,jy bs ms vs with
  |some (a,l),some (mU,ls,rs)=>some (a::mU,l++ls,AfL m v++rs)
  |_,_=>none
 |_,_=>none
def YR(n:Nat)(π:ATO Nat)(j:Nat):Nat:=match π[j]? with |some k=>k |none=>n+(j-π.length)
def Rj(bs:ATO Blk):ATO Nat->ATO Blk->ATO Blk
 |k::ks,b::r=>Rj (bs.set k b) ks r
 |_,_=>bs
section
variable {R:Type}
def YV(c:Callee)(bs:ATO Blk)(args:ATO AV)(K:H8->ATP R):ATP R :=
 match jy bs c.pE args with
 |none=>none
 |some (mU,LD,aK) =>
  let π:=pT bs bs.length (ik [] aK)
  let n:=bs.length
  let YG:=π.filter λk=>c.AdC.contains (idxOf π k)
  let π1:=π.filter λk=>!YG.contains k
  if LD.all (λk=>!π.contains k&&decide (k<n))&&nodup π&&aK.all (λk=>π.contains k)&&π.all (λk=>match bs[k]? with |some b=>b.Cx.all (λj=>π.contains j)&&(YG.contains k||b.Tz.all (λj=>!YG.contains j))|none=>false)&&(mU.all λa=>a.Tz.all λj=>!YG.contains j)&&(π.isEmpty||!π1.isEmpty)then
   c.run R (mU.map (·.OR (idxOf π))) (π.map λk=>bif YG.contains k then .Bg else((bs[k]?).getD .Bg).OR (idxOf π)) λav E =>
    let f:=YR n π
    if π.length<=E.length then
     K ⟨(av.OR f).Wy LD,Rj (Bh π1 bs) π (List.zipWith (λk b=>bif YG.contains k then((Bh π1 bs)[k]?).getD .Bg else(b.OR f).Wy LD) π E)++(E.drop π.length).map (λb=>(b.OR f).Wy LD),π1⟩
    else none
  else none
def AV.Rh:AV->ATP (Nat×Int×ATO Nat×Nat)
 |.UT k i p o _=>some (k,i,p,o)
 |.pr a b=>match a.Rh with |some z=>some z |none=>b.Rh
 |_=>none
def AV.bF(n:Nat):AV->AV
 |.UT _ _ _ _ _=>.AK n
 |.pr a b=>match a.Rh with |some _=>.pr (a.bF n) b |none=>.pr a (b.bF n)
 |a=>a
def wO:Nat->ATO AV->ATP (Nat×AV×Nat×Int×ATO Nat×Nat)
 |_,[]=>none
 |j,a::r=>match a.Rh with |some (k,i,p,o)=>some (j,a,k,i,p,o)|none=>wO (j+1) r
def Ty.AGO:Ty->Bool
 |.sl _=>true
 |_=>false
def lr(k:Nat)(i:Int)(p:ATO Nat)(e:Nat):(t:Ty)->t.V->Nat->Nat->ATP AV
 |.unit,_,_,_=>some .u
 |.AG a b,x,f,o=>match lr k i p e b x.2 (f+1) (o+a.size)with
  |some r=>if a.AGO then some (.pr (.UT k i (p++[f]) o e) r)else if a.BZ then some (.pr (.AB [] a x.1) r)else none
  |none=>none
 |_,_,_,_=>none
def jL(c:Callee)(bs:ATO Blk)(args:ATO AV)(K:H8->ATP R):ATP R :=
 match wO 0 args with
 |none=>YV c bs args K
 |some (j,a0,k,i,p,o)=>match bs[k]? with
  |some (.row ek .Aw t xs)=>match tyP t p with
   |some (.sl u)=>match kz (.sl u) p t (xs.getD i.toNat t.zero)with
    |some ys =>
     if Mf t p=some o/\u.size≠0/\((args.set j (a0.bF bs.length)).all λa=>!a.Cx.contains k)=true then
      YV c ((Bh [k] bs).set k .Bg++[.row 0 .Aw u ys]) (args.set j (a0.bF bs.length)) λe =>
       if e.BJ.contains k then none else
       match e.Aj[bs.length]? with
       |some (.row _ .Aw u' zs)=>match JA (.sl u') (.sl u) zs with
        |some zs=>match TU (.sl u) zs p t (xs.getD i.toNat t.zero)with
         |some x'=>K ⟨e.val.drop (λq=>[k,bs.length].contains q),((Bh [k,bs.length] e.Aj).set bs.length .Bg).set k (.row ek .Aw t (xs.set i.toNat x')),e.BJ++[k]⟩
         |none=>none
        |none=>none
       |_=>none
     else none
    |none=>none
   |_=>none
  |_=>none
def Abm:AV->ATO AV
 |.cons a b=>a::Abm b
 |_=>[]
def Qi(σ:St)(xs:Array Operand):ATO AV:=xs.toList.map σ.Cr
def XH:ATO AV->AV
 |[]=>.nil
 |a::r=>.cons (if a.Dv then .un 0 else a) (XH r)
def Xc(en:GX)(σ:St)(c:Call)(K:H8->ATP R):ATP R :=
 match c.callee with
 |.builtin .len=>match Qi σ c.args,c.argTypes.toList with
  |[x],t::_=>match en.Ee.get t with |some ti=>sc σ.Aj ti x λv=>K ⟨v,σ.Aj,[]⟩|none=>none
  |_,_=>none
 |.builtin .min=>match Qi σ c.args with |[x,y]=>mmA false x y λv=>K ⟨v,σ.Aj,[]⟩|_=>none
 |.builtin .max=>match Qi σ c.args with |[x,y]=>mmA true x y λv=>K ⟨v,σ.Aj,[]⟩|_=>none
 |.builtin .append=>match Qi σ c.args,c.argTypes.toList with
  |[x,y],[t,tx]=>match en.Ee.get t,en.Ee.get tx with
   |some ti,some fL=>match en.Ee.get ti.elem with
    |some te=>if ti.EA&&(fL.EA||fL.ty==.str)then Zx en.fi σ.Aj ti.elem te x y K else if ti.EA&&fL.ty.isInt then Zy en.fi σ.Aj ti.elem te x y K else none
    |none=>none
   |_,_=>none
  |_,_=>none
 |.builtin _=>none
 |.value f=>match σ.Cr f with
  |.fn g ae=>match en.fns g with
   |some ca=>jL ca σ.Aj (Qi σ c.args++Abm ae) K
   |none=>none
  |_=>none
 |.invoke _ _=>none
def eqS(bs:ATO Blk)(Ee:Tab)(op:BinOp)(t:Nat)(x y:AV):ATP AV:=match Ee.get t with
 |some ti=>if ti.eqs=true then(match op with
  |.eql=>match rd bs ti.ty x,rd bs ti.ty y with |some u,some v=>some (.bool (QS ti.ty u v))|_,_=>none
  |.neq=>match rd bs ti.ty x,rd bs ti.ty y with |some u,some v=>some (.bool (!QS ti.ty u v))|_,_=>none
  |_=>none)else none
 |none=>none
def Ahf(en:GX)(o:Oper):Bool:=match o.dst with |some d=>en.fi.stl.contains d |none=>false
def bp(Ee:Tab)(tk:TI):Bool:=match tk.ty with
 |.AG (.int q) _=>tk.Hh==2&&(match Ee.get tk.elem with |some te=>te.ty==.int q&&tk.ty==.AG (.int q) (.AG (.int q) .unit)|none=>false)
 |_=>true
def R7(en:GX)(σ:St)(o:Oper)(K:H8->ATP R):ATP R :=
 let ρ:=σ.Cr
 let bs:=σ.Aj
 let pure:=λv=>K ⟨v,bs,[]⟩
 match o.op with
 |.move x=>pure (ρ x)
 |.assign x=>pure (ρ x)
 |.pick c a b=>match ρ c with |.AB _ .bool t=>bif t then pure (ρ a)else pure (ρ b)|_=>none
 |.alloc e=>match en.Ee.get e with
  |some ti=>K ⟨.ptr bs.length 0 [] 0,bs++[.box ti.ty.aP],[]⟩
  |none=>none
 |.box _ x=>if(ρ x).ak then K ⟨.ptr bs.length 0 [] 0,bs++[.box (ρ x)],[]⟩else none
 |.build t GR=>match en.Ee.get t with
  |some ti=>if ti.Xr.isEmpty then none else match YU ti ti.ty.aP (GR.toList.map λp=>(p.1,ρ p.2))with |some v=>pure v |none=>none
  |none=>none
 |.buildSlice t len GR=>match en.Ee.get t with
  |some ti=>match en.Ee.get ti.elem with
   |some te=>match SB bs te.ty (en.fi.mode te.ty) (List.replicate len te.ty.zero) [] (GR.toList.map λp=>(p.1,ρ p.2))with
    |some (m,xs,rs)=>if ti.EA&&te.ty.row&&nJ rs m&&nodup rs&&len*te.ty.size<=16777216 then(if len=0 then K ⟨.zs,bs,[]⟩else K ⟨.AK bs.length,Blk.G4 (Bh rs bs) rs++[.row ti.elem m te.ty xs],rs⟩)else none
    |none=>none
   |none=>none
  |none=>none
 |.load t x=>match en.Ee.get t with
  |some ti=>if Ahf en o=true then(if ti.EA then bT bs ti (ρ x) K else none)else aG bs ti (ρ x) pure
  |none=>none
 |.makeMap t r=>match en.Ee.get t with
  |some ti=>if r.isSome then none else match en.Ee.get ti.Pb,en.Ee.get ti.elem with
   |some tk,some te=>if ti.Pb≠0/\tk.ty.EF=true/\te.ty.data=true then K ⟨.mp bs.length,bs++[.map (en.fi.mode te.ty) tk.ty te.ty [] none],[]⟩else none
   |_,_=>none
  |none=>none
 |.lookup t m x ok=>match en.Ee.get t with
  |some ti=>match en.Ee.get ti.Pb,en.Ee.get ti.elem with
   |some tk,some te=>if ti.Pb≠0/\te.ty.data=true/\bp en.Ee tk=true then
       (if Ahf en o=true then(if ok then none else po bs tk te (ρ m) (ρ x) K)else gp bs tk te ok (ρ m) (ρ x) pure)else none
   |_,_=>none
  |none=>none
 |.mapUpdate t m x v=>match en.Ee.get t with
  |some ti=>match en.Ee.get ti.Pb,en.Ee.get ti.elem with
   |some tk,some te=>if ti.Pb≠0/\te.ty.data=true/\bp en.Ee tk=true then dT bs tk te (ρ m) (ρ x) (ρ v) K else none
   |_,_=>none
  |none=>none
 |.insert t m x v=>match en.Ee.get t with
  |some ti=>match en.Ee.get ti.Pb,en.Ee.get ti.elem with
   |some tk,some te=>if ti.Pb≠0/\te.ty.data=true/\bp en.Ee tk=true then dT bs tk te (ρ m) (ρ x) (ρ v) K else none
   |_,_=>none
  |none=>none
 |.mapEntry t m x=>match en.Ee.get t with
  |some ti=>match en.Ee.get ti.Pb,en.Ee.get ti.elem with
   |some tk,some te=>if ti.Pb≠0/\bp en.Ee tk=true then Adc bs tk te (ρ m) (ρ x) K else none
   |_,_=>none
  |none=>none
 |.entryStore t m j v=>match en.Ee.get t with
  |some ti=>match en.Ee.get ti.Pb,en.Ee.get ti.elem with
   |some tk,some te=>if ti.Pb≠0/\bp en.Ee tk=true then Ade bs tk te (ρ m) (ρ j) (ρ v) K else none
   |_,_=>none
  |none=>none
 |.store t x v=>match en.Ee.get t with |some ti=>fI bs ti (ρ x) (ρ v) K |none=>none
 |.nilCheck x=>match ρ x with
  |.ptr k i p q=>pure (.ptr k i p q)
  |.FQ ks t y=>pure (.FQ ks t y)
  |_=>none
 |.binOp op t x y _=>match eqS bs en.Ee op t (ρ x) (ρ y)with |some z=>pure z |none=>qG op (match en.Ee.get t with |some ti=>ti.ty==.bool |none=>false) (ρ x) (ρ y) pure
 |.unOp op _ x=>unA op (ρ x) pure
 |.convert s t x=>match en.Ee.get s,en.Ee.get t with
  |some ts,some ti=>cM bs (match en.Ee.get ts.elem with |some te=>if ts.EA then some te.ty else none |none=>none) ti.ty (ρ x) pure
  |_,_=>none
 |.makeFunc fn first ae=>match fn with |.func f=>if first.size=0 then pure (.fn f (XH (ae.toList.map ρ)))else none |_=>none
 |.makeSlice t l c=>match en.Ee.get t with
  |some ti=>match en.Ee.get ti.elem with
   |some te=>if ti.EA then pw en.fi bs ti.elem te (ρ l) (ρ c) K else none
   |none=>none
  |none=>none
 |.slice t x lo hi mx=>match o.dst,en.Ee.get t with
  |some d,some ti =>
   if en.fi.take.contains d then(match lo,mx with
    |none,none=>if ti.EA then(match en.Ee.get ti.elem with |some te=>Ac8 te.ty bs (ρ x) (hi.map ρ) K |none=>none)else none
    |_,_=>none)
   else X3 bs ti (match en.Ee.get ti.elem with |some te=>if ti.EA then some te.ty else none |none=>none) (ρ x) (lo.map ρ) (hi.map ρ) (mx.map ρ) pure
  |_,_=>none
 |.fieldAddr t x f=>match en.Ee.get t with |some ti=>nc ti f (ρ x) pure |none=>none
 |.indexAddr t x i=>match en.Ee.get t with
  |some ti=>match en.Ee.get ti.elem with
   |some te=>if ti.EA then vY bs te.ty (ρ x) (ρ i) pure else none
   |none=>none
  |none=>none
 |.index t x i=>match en.Ee.get t with |some ti=>if ti.ty=.str then qS (ρ x) (ρ i) pure else none |none=>none
 |.extract x i=>match Qp (ρ x) i with |some v=>if v.Dv then none else pure v |none=>none
 |.call c=>Xc en σ c K
 |_=>none
def O8.{u}{A:Type u}:ATO (Nat×A)->Nat->ATP A
 |[],_=>none
 |(k,l)::r,n=>if k==n then some l else O8 r n
def Amd(n:Nat)(t:Ty)(e:H8):ATP H8:=match rd e.Aj t e.val with
 |some x=>if e.Aj.all (λb=>!b.fa)then some ⟨.AB ((e.val.Vx e.Aj).filter λk=>decide (k<n)) t x,Blk.G4 e.Aj ((e.val.Vx e.Aj).filter λk=>!decide (k<n)),e.BJ⟩else none
 |none=>none
def Ab8(n:Nat)(e:H8):ATP H8:=match e.val with
 |.AK k=>if n<=k then match e.Aj[k]? with
  |some (.row el .Aw t xs)=>some ⟨.AK k,e.Aj.set k (bif t.BZ then .tail el t xs else .row el (.sh []) t xs),e.BJ⟩
  |_=>none
  else none
 |_=>none
def ki(en:GX)(o:Oper):Bool:=match o.dst with |some d=>en.fi.AG4.contains d |none=>false
def AI6(en:GX)(o:Oper):ATP Ty:=match o.dst with |some d=>O8 en.fi.kv d |none=>none
def uv(u:Ty):Nat->Ty
 |0=>.unit
 |n+1=>.AG u (uv u n)
def TI.plc(ti te:TI):TI:=⟨ti.ty,(List.range ti.Hh).map (·*te.ty.size),ti.elem,ti.bytes,ti.Hh,ti.Pb,ti.eqs⟩
def jA(en:GX)(σ:St)(o:Oper):ATP AV:=match o.op with
 |.load t x=>match o.dst with
  |none=>none
  |some d=>match O8 en.fi.wH d,en.Ee.get t,σ.Cr x with
   |some e,some ti,.ptr k i p f=>match σ.Aj[k]?,atP σ.Aj k i p f with
    |some (.row _ .Aw _ _),some v=>if ti.EA=true/\v.size=1 then some (.UT k i p f e)else(match v with
     |.AB _ t x=>if t=ti.ty then lr k i p e t x 0 f else none
     |_=>none)
    |_,_=>none
   |_,_,_=>none
 |.build t GR=>match en.Ee.get t with
  |some ti=>if ti.Hh=0 then none else match en.Ee.get ti.elem with
   |some te=>if ti.ty=uv te.ty ti.Hh then YU (ti.plc te) ti.ty.aP (GR.toList.map λp=>(p.1,σ.Cr p.2))else none
   |none=>none
  |none=>none
 |.index t x i=>match en.Ee.get t with
  |some ti=>if ti.Hh=0 then none else match en.Ee.get ti.elem with
   |some te=>match σ.Cr i,σ.Cr x with
    |.AB _ (.int _) j,a=>if 0<=j/\j<(ti.Hh:Int)/\a.off j.toNat=some (j.toNat*te.ty.size)/\a.isAgg=true/\a.Dv=false then match a.bh j.toNat with
     |some v=>if v.size=te.ty.size/\v.isAgg=te.ty.isAgg then some v else none
     |none=>none
     else none
    |_,_=>none
   |none=>none
  |none=>none
 |.field t x f=>match en.Ee.get t with
  |some ti=>match ti.Xr[f]?,mP ti.ty f,(σ.Cr x).bh f with
   |some fo,some u,some v=>if(σ.Cr x).off f=some fo/\(σ.Cr x).isAgg=true/\(σ.Cr x).Dv=false/\v.size=u.size/\v.isAgg=u.isAgg then some v else none
   |_,_,_=>none
  |none=>none
 |.call c=>match c.callee,Qi σ c.args,c.argTypes.toList with
  |.builtin .cap,[.zs],t::_=>match en.Ee.get t with |some ti=>if ti.EA=true then some (.int .i64 0)else none |none=>none
  |_,_,_=>none
 |.indexAddr t x i=>match en.Ee.get t with
  |some ti=>if ti.Hh=0 then none else match en.Ee.get ti.elem with
   |some te=>match σ.Cr i with
    |.AB _ (.int _) j=>if 0<=j/\j<(ti.Hh:Int)then match σ.Cr x with
     |.ptr k q p f=>some (.ptr k q (p++[j.toNat]) (f+j.toNat*te.ty.size))
     |.FQ ks t' y=>if VB t' j.toNat=some (j.toNat*te.ty.size)then match XM ks t' y j.toNat with |some (.AB _ u z)=>some (.FQ ks u z)|_=>none else none
     |_=>none
     else none
    |_=>none
   |none=>none
  |none=>none
 |_=>none
def coV(bs:ATO Blk):Co->AV->ATP (AV×ATO Blk)
 |.row p e t Aw,a=>match a.Wz p with
  |some .zs=>if t.row then match a.bQ p (.AK bs.length)with |some a'=>some (a',[.row e (if t.BZ||Aw then .Aw else .sh []) t []])|none=>none else none
  |_=>some (a,[])
 |.AB t,a=>match rd bs t a with |some x=>some (.AB (a.Vx bs) t x,[])|none=>none
 |.gV ks,a=>match a with
  |.AB l t x=>if(t.BZ||l.all λk=>ks.contains k)&&ks.all (λk=>decide (k<bs.length))then some (.AB ks t x,[])else none
  |_=>none
def coB(k:Nat)(c:Co)(bs:ATO Blk):ATP (ATO Blk):=match bs[k]? with
 |some (.box a)=>match coV bs c a with |some (a',nb)=>some (bs.set k (.box a')++nb)|none=>none
 |_=>none
def rr:ATO (Nat×Co)->ATO Blk->ATP (ATO Blk)
 |[],bs=>some bs
 |(k,c)::r,bs=>match coB k c bs with |some HH=>rr r HH |none=>none
def AnW(bs:ATO Blk):Nat->ATO (ATO Nat)->ATP Nat
 |k,[]=>some k
 |k,q::r=>match bs[k]? with
  |some (.box a)=>match a.Wz q with |some (.ptr k' _ _ _)=>AnW bs k' r |_=>none
  |_=>none
def preB:ATO (Nat×ATO (ATO Nat)×Co)->ATO AV->ATO Blk->ATP (ATO Blk)
 |[],_,bs=>some bs
 |(j,q,c)::r,args,bs=>match args[j]? with
  |some (.ptr k _ _ _)=>match AnW bs k q with
   |some k'=>match coB k' c bs with |some HH=>preB r args HH |none=>none
   |none=>none
  |_=>none
def AaA(bs:ATO Blk)(ti:TI)(k:Nat)(i:Int)(p:ATO Nat)(o:Nat)(j:Int)(u:Ty)(v:AV):ATP H8:=match bs[k]? with
 |some (.row ek .Aw t xs)=>match kz (.sl u) p t (xs.getD i.toNat t.zero)with
  |some ys=>match take ((Bh [k] bs).set k .Bg++[.row 0 .Aw u ys]) .Aw ti.ty v with
   |some (y,.Aw,[])=>match TU ti.ty y [] u (ys.getD j.toNat u.zero)with
    |some y'=>match TU (.sl u) (ys.set j.toNat y') p t (xs.getD i.toNat t.zero)with
     |some x'=>if tyP t p=some (.sl u)/\Mf t p=some o/\u.size≠0/\tyP u []=some ti.ty/\Mf u []=some 0/\v.Cx.contains k=false then
         some ⟨.un 0,((Bh [k,bs.length] ((Blk.G4 (Bh [bs.length] ((Bh [k] bs).set k .Bg++[.row 0 .Aw u ys])) []).set bs.length (.row 0 .Aw u (ys.set j.toNat y')))).set bs.length .Bg).set k (.row ek .Aw t (xs.set i.toNat x')),[bs.length]++[k]⟩
      else none
     |none=>none
    |none=>none
   |_=>none
  |none=>none
 |_=>none
def AdS(en:GX)(σ:St)(o:Oper):ATP H8:=match o.op with
 |.store t x v=>match en.Ee.get t,σ.Cr x with
  |some ti,.WM k i p f j u=>AaA σ.Aj ti k i p f j u (σ.Cr v)
  |_,_=>none
 |_=>none
def xe(en:GX)(σ:St)(o:Oper):ATP H8:=AdS en σ o
def tlE(en:GX)(σ:St)(o:Oper):ATP (Bool×H8):=match o.op with
 |.slice t x (some lo) none none=>match en.Ee.get t,σ.Cr x,σ.Cr lo with
  |some ti,.AK k,.AB _ (.int _) l=>match σ.Aj[k]?,en.Ee.get ti.elem with
   |some (.tail e u xs),some te=>if ti.EA=true/\u=te.ty then some (decide (0<=l)&&decide (l<=(xs.length:Int)),⟨.AK σ.Aj.length,Blk.G4 (Bh [k] σ.Aj) [k]++[.tail e u (xs.drop l.toNat)],[k]⟩)else none
   |_,_=>none
  |_,_,_=>none
 |.indexAddr t x i=>match en.Ee.get t,σ.Cr x,σ.Cr i with
  |some ti,.AK k,.AB _ (.int _) l=>match σ.Aj[k]?,en.Ee.get ti.elem with
   |some (.tail _ u xs),some te=>if ti.EA=true/\u=te.ty then some (decide (0<=l)&&decide (l<(xs.length:Int)),⟨.FQ [k] u (xs.getD l.toNat u.zero),σ.Aj,[]⟩)else none
   |_,_=>none
  |_,_,_=>none
 |.call c=>match c.callee,Qi σ c.args,c.argTypes.toList with
  |.builtin .len,[.AK k],[t]=>match σ.Aj[k]?,en.Ee.get t with
   |some (.tail _ _ xs),some ti=>if ti.EA=true then some (true,⟨.int .i64 (xs.length:Int),σ.Aj,[]⟩)else none
   |_,_=>none
  |.builtin .append,[.AK k,y],[t,tx]=>match σ.Aj[k]?,en.Ee.get t,en.Ee.get tx with
   |some (.tail e u xs),some ti,some fL=>match en.Ee.get ti.elem with
    |some te=>match JA (.sl u) (.sl te.ty) xs,sW σ.Aj te.ty y with
     |some xs,some (ys,_,rs)=>if ti.EA=true/\fL.EA=true/\te.ty.row=true/\te.bytes≠0/\(e=ti.elem\/e=0)/\rs.contains k=false then
         some (decide ((xs.length+ys.length)*te.bytes<=140737488355328),⟨.AK σ.Aj.length,Blk.G4 (Bh (k::rs) σ.Aj) (k::rs)++[.tail e te.ty (xs++ys)],k::rs⟩)else none
     |_,_=>none
    |none=>none
   |_,_,_=>none
  |_,_,_=>none
 |_=>none
def Wb(en:GX)(σ:St)(o:Oper)(K:H8->ATP R):ATP R:=match jA en σ o with
 |some v=>K ⟨v,σ.Aj,[]⟩
 |none=>match xe en σ o with
 |some e=>K e
 |none=>match tlE en σ o with
 |some (c,e)=>bif c then K e else none
 |none=>match AI6 en o with
 |none=>bif ki en o then R7 en σ o λe=>match Ab8 σ.Aj.length e with |some e'=>K e' |none=>none else R7 en σ o K
 |some t=>R7 en σ o λe=>match Amd σ.Aj.length t e with |some e'=>K e' |none=>none
def exec(en:GX)(σ:St)(o:Oper)(K:H8->ATP R):ATP R:=match o.op,o.dst with
 |.call c,some d=>match O8 en.fi.AI4 d with
  |some l=>match preB l (Qi σ c.args) σ.Aj with
   |some bs=>Wb en ⟨σ.AU,bs⟩ o λe=>if e.BJ.isEmpty then none else K e
   |none=>none
  |none=>Wb en σ o K
 |_,_=>Wb en σ o K
def XN(all:ATO Oper)(σ:St)(o:Oper)(Kt Kf:St->ATP R):ATP R :=
 match o.guard with
 |none=>Kt σ
 |some (g,iz) =>
  match (all[g]?).bind (·.dst)with
  |none=>none
  |some d=>match σ.AU[d]? with
   |some (.AB [] .bool b) =>
    bif b then
     (if iz then Kt {σ with AU:=σ.AU.set d (.bool true)}else Kf {σ with AU:=σ.AU.set d (.bool true)})
    else
     (if iz then Kf {σ with AU:=σ.AU.set d (.bool false)}else Kt {σ with AU:=σ.AU.set d (.bool false)})
   |some .nil=>Kf σ
   |_=>none
def St.skip(σ:St)(d:ATP Nat):St:={σ with AU:=aj d .nil σ.AU}
def R6(en:GX)(all:ATO Oper):ATO Nat->St->(St->ATP R)->ATP R
 |[],σ,K=>K σ
 |i::is,σ,K =>
  match all[i]? with
  |none=>none
  |some o=>XN all σ o (λσ=>exec en σ o λe=>R6 en all is (σ.after o.dst e) K) (λσ=>R6 en all is (σ.skip o.dst) K)
def Eu:ATO (Nat×ATO Nat)->Nat->ATO Nat
 |[],_=>[]
 |(k,l)::r,i=>if k==i then l else Eu r i
def Vg(all:ATO Oper)(i:Nat):ATO Nat:=match all[i]? with
 |some o=>o.after.toList.filterMap λe=>if Region.binds .any e then some e.on else none
 |none=>[]
def YP(all:ATO Oper):ATO Nat->ATO (Nat×ATO Nat)->ATO (Nat×ATO Nat)
 |[],A=>A
 |i::is,A=>YP all is ((i,ik [] (Vg all i++(Vg all i).flatMap (Eu A)))::A)
def dz(all:ATO Oper)(A:ATO (Nat×ATO Nat)):ATO Nat->Bool
 |[]=>true
 |i::is=>is.all (λj=>(Eu A j).contains i||match all[i]?,all[j]? with |some x,some y=>x.apart all.toArray y |_,_=>false)&&dz all A is
def Vi(en:GX)(all:ATO Oper)(A:ATO (Nat×ATO Nat)):ATO Nat->ATO Nat->ATO Nat->St->(St->ATP R)->ATP R
 |[],_,_,σ,K=>K σ
 |i::is,done,OU,σ,K =>
  match all[i]? with
  |none=>none
  |some o=>if OU.all (λx=>(Eu A i).contains x)then
      XN all σ o (λσ=>exec en σ o λe =>
       if e.BJ.isEmpty then Vi en all A is (i::done) (if e.Aj.length=σ.Aj.length then OU else i::OU) (σ.after o.dst e) K
       else if done.all (λx=>(Eu A i).contains x)then Vi en all A is (i::done) (i::OU) (σ.after o.dst e) K else none)
      (λσ=>Vi en all A is (i::done) OU (σ.skip o.dst) K)
   else none
inductive Ex where
 |normal |exit (n:Nat)|ret
inductive To {S T:Type} (f:S->Option (S⊕T)):S->T->Prop
 |done {s:S} {t:T} (h:f s=some (.inr t)):To f s t
 |fy {s s':S} {t:T} (h:f s=some (.inl s')) (k:To f s' t):To f s t
open Classical in
noncomputable def fix{S T:Type}(f:S->ATP (S⊕T))(s:S):ATP T:=if h:∃t,To f s t then some h.choose else none
def key:Code->Nat
 |.region i _ _=>i
 |.seq a _=>key a
 |.block _ a=>key a
 |.loop a=>key a
 |.cond _ a _=>key a
 |_=>0
def Sc(Be:ATO Nat):Nat->ATO AV->ATO AV
 |_,[]=>[]
 |i,a::r=>(if Be.contains i then a else .un 0)::Sc Be (i+1) r
def coS(σ:St)(s:Nat)(box:Bool)(c:Co):ATP St :=
 match σ.AU[s]? with
 |none=>none
 |some v=>bif box then
     (match v with
      |.ptr k _ _ _=>match σ.Aj[k]? with
       |some (.box a)=>match coV σ.Aj c a with |some (a',nb)=>some ⟨σ.AU,σ.Aj.set k (.box a')++nb⟩|none=>none
       |_=>none
      |_=>none)
  else match coV σ.Aj c v with |some (v',nb)=>some ⟨σ.AU.set s v',σ.Aj++nb⟩|none=>none
def cJ:ATO (Nat×Bool×Co)->St->ATP St
 |[],σ=>some σ
 |(s,b,c)::r,σ=>match coS σ s b c with |some σ'=>cJ r σ' |none=>none
def Ahv(m:Nat)(t:Ty)(v:AV)(bs:ATO Blk):ATP (AV×ATO Blk):=match rd bs t v with
 |some x=>some (.AB ((v.Vx bs).filter λk=>decide (k<m)) t x,(Blk.G4 bs ((v.Vx bs).filter λk=>!decide (k<m))).map Blk.cj)
 |none=>none
def rD(m:Nat):ATO (Nat×Bool×Ty)->St->ATP St
 |[],σ=>some σ
 |(s,false,t)::r,σ=>match σ.AU[s]? with
  |some (.un _)=>rD m r σ
  |some v=>match Ahv m t v σ.Aj with
   |some (v',bs)=>rD m r ⟨(σ.AU.map AV.cj).set s v',bs⟩
   |none=>none
  |none=>none
 |(s,true,t)::r,σ=>match σ.AU[s]? with
  |some (.ptr k _ _ _)=>match σ.Aj[k]? with
   |some (.box a)=>match Ahv m t a σ.Aj with
    |some (a',bs)=>match bs[k]? with
     |some (.box _)=>rD m r ⟨σ.AU.map AV.cj,bs.set k (.box a')⟩
     |_=>none
    |none=>none
   |_=>none
  |_=>rD m r σ
def mvS(m:Nat):ATO Nat->St->ATP St
 |[],σ=>some σ
 |s::r,σ=>match σ.AU[s]? with
  |some (.AK k)=>if k<m then match σ.Aj[k]? with
      |some (.row e md t xs)=>if md.Cx.contains k then none else mvS m r ⟨(Vh [k] σ.AU).set s (.AK σ.Aj.length),Blk.G4 (Bh [k] σ.Aj) [k]++[.row e md t xs]⟩
      |_=>none
   else mvS m r σ
  |_=>mvS m r σ
def mvB(m k:Nat)(p:ATO Nat)(σ:St):ATP St:=match σ.Aj[k]? with
 |some (.box a)=>match a.Wz p with
  |some (.AK j)=>if j<m then match σ.Aj[j]? with
      |some (.row e md t xs)=>if md.Cx.contains j then none else match (a.drop λq=>[j].contains q).Wz p,(a.drop λq=>[j].contains q).bQ p (.AK σ.Aj.length)with
       |some (.AK j'),some a2=>if j'=j/\k≠j then some ⟨Vh [j] σ.AU,(Blk.G4 (Bh [j] σ.Aj) [j]++[Blk.row e md t xs]).set k (Blk.box a2)⟩else none
       |_,_=>none
      |_=>none
   else some σ
  |_=>none
 |_=>none
def mvV(m s:Nat)(p:ATO Nat)(a:AV)(σ:St):ATP St:=match a.Wz p with
 |some (.AK j)=>if j<m then match σ.Aj[j]? with
     |some (.row e md t xs)=>if md.Cx.contains j then none else match (a.drop λq=>[j].contains q).Wz p,(a.drop λq=>[j].contains q).bQ p (.AK σ.Aj.length)with
      |some (.AK j'),some a2=>if j'=j then some ⟨(Vh [j] σ.AU).set s a2,Blk.G4 (Bh [j] σ.Aj) [j]++[Blk.row e md t xs]⟩else none
      |_,_=>none
     |_=>none
  else some σ
 |_=>none
def mvP(m s:Nat)(p:ATO Nat)(σ:St):ATP St:=match σ.AU[s]? with
 |some (.ptr k _ _ _)=>mvB m k p σ
 |some a=>mvV m s p a σ
 |none=>none
def AiD(m:Nat):ATO (Nat×ATO Nat)->St->ATP St
 |[],σ=>some σ
 |(s,p)::r,σ=>match mvP m s p σ with |some σ'=>AiD m r σ' |none=>none
def AV.wid(ks:ATO Nat):AV->AV
 |.AB l t x=>if t.BZ=false/\l.all (λj=>ks.contains j)=true then .AB ks t x else .AB l t x
 |.pr a b=>.pr (a.wid ks) (b.wid ks)
 |a=>a
def tt:ATO (Nat×ATO Nat)->ATO Blk->ATP (ATO Blk)
 |[],bs=>some bs
 |(k,ks)::r,bs=>match bs[k]? with
  |some (.row e (.sh l) t xs)=>if l.all (λj=>ks.contains j)&&ks.all (λj=>decide (j<bs.length))then tt r (bs.set k (.row e (.sh ks) t xs))else none
  |some (.box a)=>if ks.all (λj=>decide (j<bs.length))then tt r (bs.set k (.box (a.wid ks)))else none
  |_=>none
def AdV(bs:ATO Blk)(m:Nat)(π Cx:ATO Nat):Bool :=
 π.take m==List.range m&&nodup π&&Cx.all (λj=>π.contains j)&&π.all λk=>match bs[k]? with |some b=>b.Cx.all λj=>π.contains j |none=>false
def St.Az(m:Nat)(Be:ATO Nat)(σ:St):ATP St :=
 let sl:=Sc Be 0 σ.AU
 let π:=pT σ.Aj σ.Aj.length (ik (List.range m) (sl.flatMap (·.Cx)))
 if AdV σ.Aj m π (sl.flatMap (·.Cx))then
  some {AU:=sl.map (λa=>(a.OR (idxOf π)).Ev π.length),Aj:=π.map λk=>(((σ.Aj[k]?).getD .Bg).OR (idxOf π)).Ev π.length}
 else none
def turns(en:GX)(o:Oper):Bool:=match o.op with
 |.alloc _=>true
 |.box _ _=>true
 |.buildSlice _ _ _=>true
 |.store _ _ _=>true
 |.makeSlice _ _ _=>true
 |.makeMap _ _=>true
 |.mapUpdate _ _ _ _=>true
 |.insert _ _ _ _=>true
 |.mapEntry _ _ _=>true
 |.entryStore _ _ _ _=>true
 |.load _ _=>match o.dst with |some d=>en.fi.stl.contains d |none=>false
 |.lookup _ _ _ _=>match o.dst with |some d=>en.fi.stl.contains d |none=>false
 |.slice _ _ _ _ _=>match o.dst with |some d=>en.fi.take.contains d |none=>false
 |.call c=>match c.callee with |.builtin .append=>true |.builtin _=>false |_=>true
 |_=>false
def Al5(all:ATO Oper)(done:ATO Nat)(i:Nat):Bool:=(Vg all i).all λx=>done.contains x
def XZ(en:GX)(all:ATO Oper):Nat->ATO Nat->ATO Nat
 |0,done=>done.reverse
 |f+1,done =>
  let rdy:=(List.range all.length).filter λi=>!done.contains i&&Al5 all done i
  match rdy.find? (λi=>match all[i]? with |some o=>!turns en o |none=>false)with
  |some i=>XZ en all f (i::done)
  |none=>match rdy with
   |i::_=>XZ en all f (i::done)
   |[]=>done.reverse
def mb(all:ATO Oper):ATO Nat->ATO Nat->Bool
 |[],_=>true
 |i::is,done=>(Vg all i).all (λd=>done.contains d)&&mb all is (i::done)
def AfJ(all:ATO Oper)(L:ATO Nat):Bool:=nodup L&&(List.range all.length).all (λi=>L.contains i)&&L.all (λi=>decide (i<all.length))&&dz all (YP all L []) L&&mb all L []
end
def St.head(h:SH)(m:Nat)(σ:St):ATP St :=
 match ((mvS m h.mv σ).bind (AiD m h.mvp)).bind (rD m h.RU)with
 |none=>none
 |some σ=>match cJ h.Cj σ with
  |none=>none
  |some σ=>match σ.Az m h.Be with
   |none=>none
   |some σ=>match tt h.wid σ.Aj with
    |none=>none
    |some bs=>cJ h.post ⟨σ.AU,bs⟩
def Al6(m:Nat)(σ:St):ATP (ATO Nat)->ATP St
 |none=>some σ
 |some l=>σ.head {Be:=l} m
open Classical in
noncomputable def C2(s t:St):ATP Unit:=if s=t then some ()else none
def Ab4(o:Oper):Bool:=match o.op with
 |.move _=>true
 |.assign _=>true
 |.extract _ _=>true
 |.fieldAddr _ _ _=>true
 |.indexAddr _ _ _=>true
 |.build _ _=>true
 |_=>false
def AGZ(Cf:Array Oper)(listed:Array Bool):ATP Nat:=(Region.ready .any Cf listed).find? λi=>(match Cf[i]? with |some o=>Ab4 o |none=>false)&&Region.free .any Cf listed i
def vp:ATO (ATP Unit)->ATP Unit
 |[]=>some ()
 |[x]=>x
 |x::y::r=>x.bind λ_=>vp (y::r)
noncomputable def AcS(en:GX)(h:SH)(m:Nat)(Cf:Array Oper)(σ':St):Nat->Array Bool->St->ATP Unit
 |0,listed,σ=>if(Region.ready .any Cf listed).isEmpty then match σ.head h m with |some s=>C2 s σ' |none=>none else none
 |k+1,listed,σ=>match AGZ Cf listed with
  |some i=>R6 en Cf.toList [i] σ λσ1=>AcS en h m Cf σ' k (listed.setIfInBounds i true) σ1
  |none=>if(Region.ready .any Cf listed).isEmpty then none else
  vp ((Region.ready .any Cf listed).map λi=>R6 en Cf.toList [i] σ λσ1=>AcS en h m Cf σ' k (listed.setIfInBounds i true) σ1)
def Aah(S4:ATO Blk)(σ:St)(o:Oper):Bool:=Ab4 o||match o.op with
 |.load _ x=>(match σ.Cr x with |.ptr k _ _ _=>(match S4[k]?,σ.Aj[k]? with |some (.box _),some (.box _)=>true |_,_=>false)|_=>false)
 |.call c=>(match c.callee,Qi σ c.args with |.builtin .len,[.AB _ (.sl _) _]=>true |.builtin .len,[.zs]=>true |_,_=>false)
 |.binOp op _ x y _=>(match op with |.add=>true |.sub=>true |_=>false)&&(match σ.Cr x,σ.Cr y with |.AB _ (.int k) _,.AB _ (.int k') _=>decide (k=k')|_,_=>false)
 |_=>false
def AGY(S4:ATO Blk)(σ:St)(Cf:Array Oper)(listed:Array Bool):ATP Nat:=(Region.ready .any Cf listed).find? λi=>(match Cf[i]? with |some o=>Aah S4 σ o |none=>false)&&Region.free .any Cf listed i
def nbx(S4:ATO Blk)(k:Nat):Bool:=match S4[k]? with |some (.box _)=>false |_=>true
def evQ{R:Type}(en:GX)(all:ATO Oper)(S4:ATO Blk)(i:Nat)(σ:St)(K:St->ATP R):ATP R:=match all[i]? with
 |none=>none
 |some o=>XN all σ o (λσ=>exec en σ o λe=>if e.BJ.all (nbx S4)then K (σ.after o.dst e)else none) (λσ=>K (σ.skip o.dst))
noncomputable def zf(en:GX)(h:SH)(m:Nat)(S4:ATO Blk)(Cf:Array Oper)(σ':St):Nat->Array Bool->St->ATP Unit
 |0,listed,σ=>if(Region.ready .any Cf listed).isEmpty then match σ.head h m with |some s=>C2 s σ' |none=>none else none
 |k+1,listed,σ=>match AGY S4 σ Cf listed with
  |some i=>evQ en Cf.toList S4 i σ λσ1=>zf en h m S4 Cf σ' k (listed.setIfInBounds i true) σ1
  |none=>if(Region.ready .any Cf listed).isEmpty then none else
  vp ((Region.ready .any Cf listed).map λi=>evQ en Cf.toList S4 i σ λσ1=>zf en h m S4 Cf σ' k (listed.setIfInBounds i true) σ1)
noncomputable def AmV(en:GX)(m:Nat)(h:SH)(Cf:Array Oper)(σ:St):ATP St :=
 if Region.noSelect Cf=false then none else R6 en Cf.toList (List.range Cf.size) σ λs=>(s.head h m).bind λσ'=>(bif h.Xu then zf en h m σ.Aj Cf σ' Cf.size (Array.replicate Cf.size false) σ else AcS en h m Cf σ' Cf.size (Array.replicate Cf.size false) σ).bind λ_=>some σ'
noncomputable def ev(en:GX)(m:Nat):Code->(R:Type)->St->(Ex->St->ATP R)->ATP R
 |.skip,_,σ,K=>K .normal σ
 |.ret,_,σ,K=>K .ret σ
 |.exit n,_,σ,K=>K (.exit n) σ
 |.seq a b,R,σ,K=>match O8 en.fi.BM (key b)with
  |none=>ev en m a R σ λe σ=>match e with
   |.normal=>ev en m b R σ K
   |.exit n=>K (.exit n) σ
   |.ret=>K .ret σ
  |some h=>(Al6 m σ (O8 en.fi.Du (key b))).bind λσ=>(ev en m a (Ex×St) σ λe σ=>(σ.head h m).bind λσ'=>some (e,σ')).bind λp=>match p.1 with
   |.normal=>ev en m b R p.2 K
   |.exit n=>K (.exit n) p.2
   |.ret=>K .ret p.2
 |.cond c a b,R,σ,K=>match σ.Cr c with |.AB _ .bool t=>bif t then ev en m a R σ K else ev en m b R σ K |_=>none
 |.block n a,R,σ,K=>ev en m a R σ λe σ=>match e with
  |.normal=>K .normal σ
  |.exit k=>bif k==n then K .normal σ else K (.exit k) σ
  |.ret=>K .ret σ
 |.region _ Cf false,_,σ,K=>R6 en Cf.toList (List.range Cf.size) σ (K .normal)
 |.region id Cf true,_,σ,K=>match O8 en.fi.W8 id with
  |some h=>(Al6 m σ (O8 en.fi.Yl id)).bind λσ=>(AmV en m h Cf σ).bind (K .normal)
  |none=>if AfJ Cf.toList (XZ en Cf.toList Cf.toList.length [])then Vi en Cf.toList (YP Cf.toList (XZ en Cf.toList Cf.toList.length []) []) (XZ en Cf.toList Cf.toList.length []) [] [] σ (K .normal)else none
 |.loop body,R,σ,K=>match O8 en.fi.Ba (key body),O8 en.fi.BN (key body)with
  |some h,some ho=>match σ.head h m with
   |none=>none
   |some σ0=>(fix (λs=>ev en m body (St⊕(Ex×St)) s λe s'=>match e with
       |.normal=>(s'.head h m).bind λZX=>some (.inl ZX)
       |.exit n=>(s'.head ho m).bind λZX=>some (.inr (.exit n,ZX))
       |.ret=>(s'.head ho m).bind λZX=>some (.inr (.ret,ZX))) σ0).bind λp=>K p.1 p.2
  |_,_=>none
 |_,_,_,_=>none
def iu(Ee:Tab)(σ:St):ATO ResultVar->ATP (ATO AV)
 |[]=>some []
 |.tmp t::r=>match σ.AU[t]?,iu Ee σ r with |some v,some l=>some (v::l)|_,_=>none
 |.cell a t::r=>match Ee.get t,σ.AU[a]? with
  |some ti,some (.ptr k i p o)=>match atP σ.Aj k i p o,iu Ee σ r with
   |some v,some l=>if v.size=ti.ty.size/\v.isAgg=ti.ty.isAgg then some (v::l)else none
   |_,_=>none
  |_,_=>none
def wY:ATO AV->AV
 |[a]=>a
 |l=>XH l
def cK:ATO (Nat×Co)->ATO AV->ATO Blk->ATP (ATO AV×ATO Blk)
 |[],l,bs=>some (l,bs)
 |(i,c)::r,l,bs=>match l[i]? with
  |none=>none
  |some v=>match coV bs c v with |some (v',nb)=>cK r (l.set i v') (bs++nb)|none=>none
def rC(m:Nat):ATO (Nat×Ty)->ATO AV->ATO Blk->ATP (ATO AV×ATO Blk)
 |[],l,bs=>some (l,bs)
 |(i,t)::r,l,bs=>match l[i]? with
  |none=>none
  |some v=>match Ahv m t v bs with |some (v',HH)=>rC m r ((l.map AV.cj).set i v') HH |none=>none
def lb(m:Nat)(bs:ATO Blk)(v:AV):ATP (AV×ATO Blk) :=
 let π:=pT bs bs.length (ik (List.range m) v.Cx)
 if AdV bs m π v.Cx then some ((v.OR (idxOf π)).Ev π.length,π.map λk=>(((bs[k]?).getD .Bg).OR (idxOf π)).Ev π.length)else none
def af(m:Nat):ATO Fi->St->ATP St
 |[],σ=>some σ
 |.co k c::r,σ=>match coB k c σ.Aj with |some bs=>af m r ⟨σ.AU,bs⟩|none=>none
 |.Bg j::r,σ=>af m r ⟨σ.AU,σ.Aj.set j .Bg⟩
 |.mvs s p::r,σ=>match mvP m s p σ with |some σ'=>af m r σ' |none=>none
 |.mv k p::r,σ=>match mvB m k p σ with |some σ'=>af m r σ' |none=>none
noncomputable def TT(en:GX)(fn:Func)(R:Type)(args:ATO AV)(E:ATO Blk)(K:AV->ATO Blk->ATP R):ATP R :=
 match fn.body with
 |none=>none
 |some c =>
  if args.length<=fn.ntmps then
   ev en E.length c R ⟨args++List.replicate (fn.ntmps-args.length) (.un 0),E⟩ λe σ=>match e with
    |.exit _=>none
    |_=>match af E.length en.fi.WX σ with
     |none=>none
     |some σ=>match iu en.Ee σ fn.results.toList with
     |some l=>match rC E.length en.fi.RU l σ.Aj with
      |some (l,bs)=>match cK en.fi.iq l bs with
       |some (l',HH)=>match lb E.length HH (wY l')with
        |some (v,bs)=>K v bs
        |none=>none
       |none=>none
      |none=>none
     |none=>none
  else none
section
variable {S T X Y:Type}
theorem To.jZ{f:S->ATP (S⊕T)}{s:S}{t u:T}(h:To f s t)(k:To f s u):t=u:=by
 induction h with
 |done h=>cases k with
  |done k=>rw[h]at k;injection k with k;injection k
  |fy k _=>rw[h]at k;injection k with k;cases k
 |fy h _ ih=>cases k with
  |done k=>rw[h]at k;injection k with k;cases k
  |fy k k'=>rw[h]at k;injection k with k;injection k with k;subst k;exact ih k'
theorem Xd{f:S->ATP (S⊕T)}{s:S}{t:T}:fix f s=some t↔To f s t:=by
 unfold fix;constructor
 ·intro h;split at h
  ·rename_i hx;injection h with h;subst h;exact hx.choose_spec
  ·cases h
 ·intro h;rw[dif_pos ⟨t,h⟩];exact congrArg some (To.jZ (Exists.choose_spec ⟨t,h⟩) h)
theorem Aho(f:S->ATP (S⊕T))(s:S):fix f s=match f s with |none=>none |some (.inl s')=>fix f s' |some (.inr t)=>some t:=by
 apply Option.ext;intro t;rw[Xd];constructor
 ·intro h;cases h with
  |done h=>rw[h]
  |fy h k=>rw[h];exact Xd.2 k
 ·intro h;split at h
  ·cases h
  ·rename_i s' hs;exact .fy hs (Xd.1 h)
  ·rename_i u hs;injection h with h;subst h;exact .done hs
theorem K9{f:S->ATP (S⊕T)}{s:S}{t:T}(h:f s=some (.inr t)):fix f s=some t:=by rw[Aho,h]
theorem OW{f:S->ATP (S⊕T)}{s s':S}(h:f s=some (.inl s')):fix f s=fix f s':=by rw[Aho,h]
theorem Al8(σ:X->S)(τ:Y->T)(f:S->ATP (S⊕T))(g:X->ATP (X⊕Y))(h:∀x,f (σ x)=(g x).map (Sum.map σ τ))(x:X) :
    fix f (σ x)=(fix g x).map τ:=by
 apply Option.ext;intro t;rw[Xd];constructor
 ·intro ht;generalize hs:σ x=s at ht;induction ht generalizing x with
  |@done s t hd =>
   subst hs;rw[h]at hd;cases hg:g x with
   |none=>rw[hg]at hd;cases hd
   |some r=>rw[hg]at hd;cases r with
    |inl x'=>cases hd
    |inr y=>injection hd with hd;injection hd with hd;subst hd;rw[K9 hg];rfl
  |@fy s s' t hd _ ih =>
   subst hs;rw[h]at hd;cases hg:g x with
   |none=>rw[hg]at hd;cases hd
   |some r=>rw[hg]at hd;cases r with
    |inl x'=>injection hd with hd;injection hd with hd;rw[OW hg];exact ih x' hd
    |inr y=>injection hd with hd;cases hd
 ·intro ht;cases hf:fix g x with
  |none=>rw[hf]at ht;cases ht
  |some y =>
   rw[hf]at ht;injection ht with ht;subst ht;have vV:=Xd.1 hf;clear hf;induction vV with
   |done hd=>exact .done (by rw[h,hd];rfl)
   |fy hd _ ih=>exact .fy (by rw[h,hd];rfl) ih
end
theorem Aiw{A B:Type}(f:A->B)(c:Bool)(x y:ATP A):(bif c then x else y).map f=bif c then x.map f else y.map f:=by cases c<;>rfl
theorem AmK{A B:Type}(f:A->B)(c:Prop)[Decidable c](x y:ATP A):(if c then x else y).map f=if c then x.map f else y.map f:=by split<;>rfl
theorem Aiv{A B C:Type}(f:B->C)(x:ATP A)(k:A->ATP B):(x.bind k).map f=x.bind λy=>(k y).map f:=by cases x<;>rfl
theorem jD{A B C:Type}(f:A->B)(x:ATP A)(k:B->ATP C):(x.map f).bind k=x.bind λy=>k (f y):=by cases x<;>rfl
def sub:Code->ATO Nat->Code
 |c,[]=>c
 |.seq a b,n::p=>match n with |0=>sub a p |_=>sub b p
 |.cond _ a b,n::p=>match n with |0=>sub a p |_=>sub b p
 |.block _ a,_::p=>sub a p
 |.loop a,_::p=>sub a p
 |_,_=>.skip
noncomputable def AdE(en:GX)(m:Nat)(R:Type):Code->ATO Nat->(Ex->St->ATP R)->Ex->St->ATP R
 |_,[],K=>K
 |.seq a b,n::p,K=>match n with
  |0=>AdE en m R a p λe σ=>match e with
   |.normal=>ev en m b R σ K
   |.exit n=>K (.exit n) σ
   |.ret=>K .ret σ
  |_=>AdE en m R b p K
 |.cond _ a b,n::p,K=>match n with |0=>AdE en m R a p K |_=>AdE en m R b p K
 |.block n a,_::p,K=>AdE en m R a p λe σ=>match e with
  |.normal=>K .normal σ
  |.exit k=>bif k==n then K .normal σ else K (.exit k) σ
  |.ret=>K .ret σ
 |_,_,_=>λ_ _=>none
noncomputable def AG8(m:Nat)(h ho:SH)(e:Ex)(s':St):ATP (St⊕(Ex×St)):=match e with
    |.normal=>(s'.head h m).bind λZX=>some (.inl ZX)
    |.exit n=>(s'.head ho m).bind λZX=>some (.inr (.exit n,ZX))
    |.ret=>(s'.head ho m).bind λZX=>some (.inr (.ret,ZX))
noncomputable def AGP(m:Nat)(h:SH)(e:Ex)(σ:St):ATP (Ex×St):=(σ.head h m).bind λσ'=>some (e,σ')
noncomputable def p9(en:GX)(m:Nat)(h ho:SH)(body:Code)(s:St):ATP (St⊕(Ex×St)) :=
 ev en m body (St⊕(Ex×St)) s λe s'=>match e with
  |.normal=>(s'.head h m).bind λZX=>some (.inl ZX)
  |.exit n=>(s'.head ho m).bind λZX=>some (.inr (.exit n,ZX))
  |.ret=>(s'.head ho m).bind λZX=>some (.inr (.ret,ZX))
noncomputable def AGQ(en:GX)(m:Nat)(h:SH)(a:Code)(s:St):ATP (Ex×St):=ev en m a (Ex×St) s λe σ=>(σ.head h m).bind λσ'=>some (e,σ')
noncomputable def A2(en:GX)(fn:Func)(m:Nat)(R:Type)(K:AV->ATO Blk->ATP R)(e:Ex)(σ:St):ATP R :=
 match e with
 |.exit _=>none
 |_=>match af m en.fi.WX σ with
  |none=>none
  |some σ=>match iu en.Ee σ fn.results.toList with
  |some l=>match rC m en.fi.RU l σ.Aj with
   |some (l,bs)=>match cK en.fi.iq l bs with
    |some (l',HH)=>match lb m HH (wY l')with
     |some (v,bs)=>K v bs
     |none=>none
    |none=>none
   |none=>none
  |none=>none
def mkS:Nat->Nat->ATO (Nat×AV)->ATO AV
 |0,_,_=>[]
 |n+1,i,[]=>.un 0::mkS n (i+1) []
 |n+1,i,(j,v)::r=>if i==j then v::mkS n (i+1) r else .un 0::mkS n (i+1) ((j,v)::r)
inductive Vf where
 |no |Jd |BV (k:Nat) (p:List Nat)
structure BI where
 a:Option Addr
 len:Nat
 cap:Nat
 oI:Nat
structure G where
 own:Nat->Vf
 A5:Nat->BI
def CP{α:Type}(R:α->ATO Value->Prop):ATO α->ATO Value->Prop
 |[],cs=>cs=[]
 |x::xs,cs=>∃c d,cs=c++d/\R x c/\CP R xs d
def Bu{α:Type}(R:Nat->α->ATO Value->Prop):Nat->ATO α->ATO Value->Prop
 |_,[],cs=>cs=[]
 |i,x::xs,cs=>∃c d,cs=c++d/\R i x c/\Bu R (i+1) xs d
def H9(w:World)(A:Nat->Prop):(t:Ty)->t.V->ATO Value->Prop
 |.int k,x,cs=>cs=[.int k x]
 |.bool,b,cs=>cs=[.bool b]
 |.str,s,cs=>cs=[.string s]
 |.unit,_,cs=>cs=[]
 |.AG a b,x,cs=>∃c d,cs=c++d/\H9 w A a x.1 c/\H9 w A b x.2 d
 |.sl t,xs,cs=>∃ad cap ds,cs=[.slice ad xs.length cap]/\xs.length<=cap/\CP (H9 w A t) xs ds /\
     (xs=[]\/∃b off,ad=some ⟨b,off,none⟩/\A b/\∀j u,ds[j]?=some u->w.cell? ⟨b,off+j,none⟩=some u)
 |.R4 _,_,_=>False
def J9(w:World)(own:Nat->Vf)(k:Nat):(t:Ty)->ATO Nat->t.V->ATO Value->Prop
 |.int k',_,x,cs=>cs=[.int k' x]
 |.bool,_,b,cs=>cs=[.bool b]
 |.str,_,s,cs=>cs=[.string s]
 |.unit,_,_,cs=>cs=[]
 |.AG a b,p,x,cs=>∃c d,cs=c++d/\J9 w own k a (0::p) x.1 c/\J9 w own k b (1::p) x.2 d
 |.sl t,p,xs,cs=>∃ad cap,cs=[.slice ad xs.length cap]/\((xs=[]/\cap=0)\/∃b e BG ds,ad=some ⟨b,0,none⟩/\own b=.BV k p /\
     w.heap[b]?=some (.cells BG e (0,0))/\xs.length<=cap/\cap<=maxLen/\BG.size=cap*t.size/\BG.toList.take (xs.length*t.size)=ds/\Bu (λi=>J9 w own k t (i::p)) 0 xs ds)
 |.R4 _,_,_,_=>False
def Al(own:Nat->Vf)(ks:ATO Nat)(b:Nat):Prop:=own b=.Jd\/∃k∈ks,∃p,own b=.BV k p
def AV.OL:AV->Bool
 |.un _=>true
 |_=>false
def Cp(agg:Bool)(cs:ATO Value)(v:Value):Prop:=bif agg then v=.agg cs.toArray else cs=[v]
def CN(w:World)(g:G)(n:Nat):Bool->AV->ATO Value->Prop
 |false,.AB ks t x,cs=>(∀k∈ks,k<n)/\H9 w (Al g.own ks) t x cs
 |false,.zs,cs=>∃ad,cs=[.slice ad 0 0]
 |false,.AK k,cs=>k<n/\cs=[.slice (g.A5 k).a (g.A5 k).len (g.A5 k).cap]
 |false,.ptr k i _ o,cs=>k<n/\0<=i/\i.toNat<(g.A5 k).len/\∃b,(g.A5 k).a=some ⟨b,0,none⟩/\cs=[.pointer (some ⟨b,i.toNat*(g.A5 k).oI+o,none⟩)]
 |false,.FQ ks t x,cs=>(∀k∈ks,k<n)/\∃b off ds,cs=[.pointer (some ⟨b,off,none⟩)]/\Al g.own ks b/\H9 w (Al g.own ks) t x ds/\∀j u,ds[j]?=some u->w.cell? ⟨b,off+j,none⟩=some u
 |false,.KG,cs=>cs=[.pointer none]
 |false,.UT k i _ o _,cs=>k<n/\0<=i/\i.toNat<(g.A5 k).len/\∃b v,(g.A5 k).a=some ⟨b,0,none⟩/\g.own b=.BV k []/\cs=[v]/\v.oneCell'=true/\w.cell? ⟨b,i.toNat*(g.A5 k).oI+o,none⟩=some v
 |false,.WM k i _ o j u,cs=>k<n/\0<=i/\i.toNat<(g.A5 k).len/\∃b b' l c,(g.A5 k).a=some ⟨b,0,none⟩/\g.own b=.BV k []/\cs=[.pointer (some ⟨b',j.toNat*u.size,none⟩)]/\(0<=j/\j.toNat<l)/\w.cell? ⟨b,i.toNat*(g.A5 k).oI+o,none⟩=some (.slice (some ⟨b',0,none⟩) l c)
 |false,.mp k,cs=>k<n/\∃b,(g.A5 k).a=some ⟨b,0,none⟩/\cs=[.map (some b)]
 |false,.pr a b,cs=>∃c d,cs=c++d/\CN w g n false a c/\CN w g n false b d
 |false,.fn f c,cs=>∃vs,cs=[.func (.func f) #[] vs.toArray]/\CN w g n true c vs
 |false,.un k,cs=>cs.length=k/\∀v∈cs,v.oneCell'=true
 |true,.cons a b,vs=>∃v r,vs=v::r/\(a.OL=true\/∃cs,CN w g n false a cs/\Cp a.isAgg cs v)/\CN w g n true b r
 |true,.nil,vs=>vs=[]
 |_,_,_=>False
def Cb(w:World)(g:G)(n:Nat):AV->Value->Prop
 |.cons a b,v=>∃vs,v=.tuple vs.toArray/\CN w g n true (.cons a b) vs
 |.nil,v=>v=.tuple #[]
 |a,v=>a.OL=true\/∃cs,CN w g n false a cs/\Cp a.isAgg cs v
def UI(w:World)(own:Nat->Vf)(k:Nat):RM->(t:Ty)->Nat->t.V->ATO Value->Prop
 |.Aw,t,i,x,cs=>J9 w own k t [i] x cs
 |.sh ks,t,_,x,cs=>H9 w (Al own ks) t x cs
def uc(w:World)(own:Nat->Vf)(k:Nat):RM->(t:Ty)->ATO t.V->ATO Value->Prop
 |.Aw,t,xs,ds=>Bu (λi=>J9 w own k t [i]) 0 xs ds
 |.sh ks,t,xs,ds=>CP (H9 w (Al own ks) t) xs ds
def V6(w:World)(b e:Nat)(BG:Array Value):Prop:=∃el,(e=0\/el=e)/\w.heap[b]?=some (.cells BG el (0,0))
def FC:(t:Ty)->t.V->Value
 |.int k,x=>.int k x
 |.str,s=>.string s
 |.AG (.int q) (.AG (.int q') .unit),x=>.agg #[.int q x.1,.int q' x.2.1]
 |_,_=>.nilIface
def W0(w:World)(own:Nat->Vf)(k:Nat)(md:RM)(kt vt:Ty)(st:ATP kt.V):Nat->ATO (kt.V×vt.V)->ATO MapEntry->Prop
 |_,[],ms=>ms=[]
 |i,x::xs,ms=>∃m r,ms=m::r/\(m.key=FC kt x.1/\m.born=i)/\(st=some x.1\/∃cs,UI w own k md vt i x.2 cs/\Cp vt.isAgg cs m.val)/\W0 w own k md kt vt st (i+1) xs r
def Nu(w:World)(g:G)(n k:Nat):Blk->Prop
 |.box a=>(g.A5 k).len=1/\∃b cs e,(g.A5 k).a=some ⟨b,0,none⟩/\g.own b=.BV k []/\w.heap[b]?=some (.cells cs e (0,0))/\CN w g n false a cs.toList
 |.row e m t xs=>(∀j∈m.Cx,j<n)/\(g.A5 k).len=xs.length/\(g.A5 k).oI=t.size/\0<t.size/\((xs=[]/\(g.A5 k).cap=0)\/∃b BG ds,(g.A5 k).a=some ⟨b,0,none⟩/\g.own b=.BV k [] /\
     V6 w b e BG/\xs.length<=(g.A5 k).cap/\(g.A5 k).cap<=maxLen/\BG.size=(g.A5 k).cap*t.size/\BG.toList.take (xs.length*t.size)=ds/\uc w g.own k m t xs ds)
 |.map md kt vt es st=>(∀j∈md.Cx,j<n)/\∃b Hh DX,(g.A5 k).a=some ⟨b,0,none⟩/\g.own b=.BV k []/\w.heap[b]?=some (.map Hh DX)/\((es.map (·.1)).Nodup/\DX=Hh.size)/\W0 w g.own k md kt vt st 0 es Hh.toList
 |.R1 e t xs i p=>(g.A5 k).len=xs.length/\(g.A5 k).oI=t.size/\0<t.size/\0<=i/\i.toNat<xs.length/\∃u o x0 b BG ds,Mf t p=some o/\tyP t p=some (.sl u)/\TU (.sl u) [] p t (xs.getD i.toNat t.zero)=some x0 /\
     (g.A5 k).a=some ⟨b,0,none⟩/\g.own b=.BV k []/\V6 w b e BG/\xs.length<=(g.A5 k).cap/\(g.A5 k).cap<=maxLen/\BG.size=(g.A5 k).cap*t.size /\
     (BG.setIfInBounds (i.toNat*t.size+o) (.slice none 0 0)).toList.take (xs.length*t.size)=ds/\Bu (λj=>J9 w g.own k t [j]) 0 (xs.set i.toNat x0) ds
 |.tail e t xs=>t.BZ=true/\(g.A5 k).len=xs.length/\(g.A5 k).oI=t.size/\0<t.size/\((xs=[]/\(g.A5 k).cap=0)\/∃b o BG ds,(g.A5 k).a=some ⟨b,o,none⟩/\g.own b=.BV k [] /\
     V6 w b e BG/\xs.length<=(g.A5 k).cap/\(g.A5 k).cap<=maxLen/\BG.size=o+(g.A5 k).cap*t.size/\(BG.toList.drop o).take (xs.length*t.size)=ds/\uc w g.own k .Aw t xs ds)
 |.Bg=>True
structure Bo (w:World) (g:G) (bs:List Blk):Prop where
 B7:∀b,w.heap.size<=b->g.own b=.no
 MP:∀k x,bs[k]?=some x->Nu w g bs.length k x
structure Step (BJ:List Nat) (n:Nat) (w:World) (g:G) (w':World) (g':G):Prop where
 os:w'.os=w.os
 tape:w'.tape=w.tape
 output:w'.output=w.output
 size:w.heap.size<=w'.heap.size
 no:∀b,b<w.heap.size->g.own b=.no->g'.own b=.no/\w'.heap[b]?=w.heap[b]?
 Jd:∀b,g.own b=.Jd->g'.own b=.Jd/\w'.heap[b]?=w.heap[b]?
 BV:∀b k p,g.own b=.BV k p->k<n->k∉BJ->g'.own b=.BV k p/\w'.heap[b]?=w.heap[b]?
 A5:∀k,k<n->g'.A5 k=g.A5 k
section
variable {α:Type} {R S:α->ATO Value->Prop} {I J:Nat->α->ATO Value->Prop}
theorem CP.mono(h:∀x c,R x c->S x c):∀{xs cs},CP R xs cs->CP S xs cs
 |[],_,hc=>hc
 |_::_,_,⟨c,d,e,r,l⟩=>⟨c,d,e,h _ _ r,l.mono h⟩
theorem Bu.mono(h:∀i x c,I i x c->J i x c):∀{i xs cs},Bu I i xs cs->Bu J i xs cs
 |_,[],_,hc=>hc
 |_,_::_,_,⟨c,d,e,r,l⟩=>⟨c,d,e,h _ _ _ r,l.mono h⟩
theorem Bu.toR(h:∀i x c,I i x c->S x c):∀{i xs cs},Bu I i xs cs->CP S xs cs
 |_,[],_,hc=>hc
 |_,_::_,_,⟨c,d,e,r,l⟩=>⟨c,d,e,h _ _ _ r,l.toR h⟩
theorem CP.toI(h:∀i x c,R x c->J i x c):∀{i xs cs},CP R xs cs->Bu J i xs cs
 |_,[],_,hc=>hc
 |_,_::_,_,⟨c,d,e,r,l⟩=>⟨c,d,e,h _ _ _ r,CP.toI h l⟩
theorem CP.append:∀{xs ys cs ds},CP R xs cs->CP R ys ds->CP R (xs++ys) (cs++ds)
 |[],_,_,_,h,k=>by cases h;exact k
 |_::_,_,_,_,⟨c,d,e,r,l⟩,k=>⟨c,d++_,by grind,r,l.append k⟩
theorem Bu.append:∀{i xs ys cs ds},Bu I i xs cs->Bu I (i+xs.length) ys ds->Bu I i (xs++ys) (cs++ds)
 |_,[],_,_,_,h,k=>by cases h;exact k
 |i,_::xs,_,_,ds,⟨c,d,e,r,l⟩,k=>by
  subst e;exact⟨c,d++ds,AQh ..,r,l.append (by grind)⟩
theorem CP.len{s:Nat}(h:∀x c,R x c->c.length=s):∀{xs cs},CP R xs cs->cs.length=xs.length*s
 |[],_,hc=>by cases hc;simp
 |_::xs,_,⟨c,d,e,r,l⟩=>by
  have h1:=h _ _ r;have h2:=l.len h
  grind
theorem Bu.len{s:Nat}(h:∀i x c,I i x c->c.length=s){i xs cs}(l:Bu I i xs cs):cs.length=xs.length*s :=
 CP.len (R:=λx c=>∃i,I i x c) (λx c ⟨i,r⟩=>h i x c r) (l.toR λi _ _ r=>⟨i,r⟩)
theorem Bu.A5{s:Nat}(hs:∀i x c,I i x c->c.length=s):∀{j i xs cs},Bu I j xs cs->(hi:i<xs.length) ->
    ∃c0 c d,cs=c0++c++d/\c0.length=i*s/\I (j+i) xs[i] c/\Bu I j (xs.take i) c0/\Bu I (j+i+1) (xs.drop (i+1)) d
 |j,0,x::xs,_,⟨c,d,e,r,l⟩,_=>⟨[],c,d,e,by simp,r,rfl,l⟩
 |j,i+1,x::xs,_,⟨c,d,e,r,l⟩,hi=>by
  obtain⟨c0,c1,d1,e1,hl,hr,ht,hd⟩:=l.A5 hs (i:=i) (by grind);refine⟨c++c0,c1,d1,by grind,?_,?_,⟨c,c0,rfl,r,?_⟩,?_⟩
  ·grind
  ·grind
  ·grind
  grind
theorem Bu.join:∀{j i:Nat} {xs:ATO α} {c0 c d:ATO Value} {x:α},i<xs.length->Bu I j (xs.take i) c0->I (j+i) x c->Bu I (j+i+1) (xs.drop (i+1)) d->Bu I j (xs.set i x) (c0++c++d)
 |j,0,_::xs,c0,c,d,x,_,ht,hr,hd=>by cases ht;exact⟨c,d,rfl,hr,hd⟩
 |j,i+1,y::xs,_,c,d,x,hi,⟨c1,c2,e,r,l⟩,hr,hd=>by
  subst e;refine⟨c1,c2++c++d,by grind,r,?_⟩;exact Bu.join (by grind) l (by grind) (by grind)
theorem IJ:∀{j xs cs},CP R xs cs↔Bu (λ_=>R) j xs cs
 |_,[],_=>Iff.rfl
 |_,_::_,_=>⟨λ⟨c,d,e,r,l⟩=>⟨c,d,e,r,IJ.1 l⟩,λ⟨c,d,e,r,l⟩=>⟨c,d,e,r,IJ.2 l⟩⟩
theorem CP.A5{s:Nat}(hs:∀x c,R x c->c.length=s){i xs cs}(l:CP R xs cs)(hi:i<xs.length) :
    ∃c0 c d,cs=c0++c++d/\c0.length=i*s/\R xs[i] c/\CP R (xs.take i) c0/\CP R (xs.drop (i+1)) d:=by
 obtain⟨c0,c,d,e,hl,hr,ht,hd⟩:=Bu.A5  (λ_ x c=>hs x c) (IJ (j:=0).1 l) hi;exact⟨c0,c,d,e,hl,hr,IJ.2 ht,IJ.2 hd⟩
theorem CP.join{i:Nat}{xs:ATO α}{c0 c d:ATO Value}{x:α}(hi:i<xs.length)(ht:CP R (xs.take i) c0)(hr:R x c)(hd:CP R (xs.drop (i+1)) d):CP R (xs.set i x) (c0++c++d) :=
 IJ (j:=0).2 (Bu.join hi (IJ.1 ht) hr (IJ.1 hd))
theorem Bu.takeN{s:Nat}(hs:∀i x c,I i x c->c.length=s):∀{j xs cs} (n:Nat),Bu I j xs cs->Bu I j (xs.take n) (cs.take (n*s))
 |_,[],_,n,h=>by cases h;simp[Bu]
 |_,_::_,_,0,_=>by simp[Bu]
 |j,x::xs,_,n+1,⟨c,d,e,r,l⟩=>by
  subst e;have hc:=hs _ _ _ r;refine⟨c,d.take _,?_,r,l.takeN hs n⟩;rw[List.take_append,hc,AQj (by grind),show(n+1)*s-s=n*s by grind]
theorem CP.takeN{s:Nat}(hs:∀x c,R x c->c.length=s){xs cs}(n:Nat)(l:CP R xs cs):CP R (xs.take n) (cs.take (n*s)) :=
 IJ (j:=0).2 (Bu.takeN (λ_ x c=>hs x c) n (IJ.1 l))
theorem CP.Ahd{s:Nat}(hs:∀x c,R x c->c.length=s):∀{xs cs} (n:Nat),CP R xs cs->CP R (xs.drop n) (cs.drop (n*s))
 |[],_,n,h=>by cases h;simp[CP]
 |_::_,_,0,h=>by grind
 |x::xs,_,n+1,⟨c,d,e,r,l⟩=>by
  subst e;have hc:=hs _ _ r;have h1:List.drop ((n+1)*s) c=[]:=List.drop_of_length_le (by grind);rw[List.drop_append,hc,h1,show(n+1)*s-s=n*s by grind];exact l.Ahd hs n
end
theorem W6{w w':World}{b o:Nat}(h:w'.heap[b]?=w.heap[b]?):w'.cell? ⟨b,o,none⟩=w.cell? ⟨b,o,none⟩:=by simp[World.cell?,h]
theorem QO{w:World}{b o:Nat}{cs:Array Value}{e:TypeId}{fr:Nat×Nat}(h:w.heap[b]?=some (.cells cs e fr)):w.cell? ⟨b,o,none⟩=cs[o]?:=by simp[World.cell?,h]
theorem H9.len{w:World}{A:Nat->Prop}:∀{t:Ty} {x:t.V} {cs:ATO Value},H9 w A t x cs->cs.length=t.size
 |.int _,_,_,h=>by cases h;rfl
 |.bool,_,_,h=>by cases h;rfl
 |.str,_,_,h=>by cases h;rfl
 |.unit,_,_,h=>by cases h;rfl
 |.AG _ _,_,_,⟨_,_,e,h1,h2⟩=>by subst e;rw[AQd,h1.len,h2.len];rfl
 |.sl _,_,_,⟨_,_,_,e,_⟩=>by subst e;rfl
 |.R4 _,_,_,h=>h.elim
theorem J9.len{w:World}{own:Nat->Vf}{k:Nat}:∀{t:Ty} {p:ATO Nat} {x:t.V} {cs:ATO Value},J9 w own k t p x cs->cs.length=t.size
 |.int _,_,_,_,h=>by cases h;rfl
 |.bool,_,_,_,h=>by cases h;rfl
 |.str,_,_,_,h=>by cases h;rfl
 |.unit,_,_,_,h=>by cases h;rfl
 |.AG _ _,_,_,_,⟨_,_,e,h1,h2⟩=>by subst e;rw[AQd,h1.len,h2.len];rfl
 |.sl _,_,_,_,⟨_,_,e,_⟩=>by subst e;rfl
 |.R4 _,_,_,_,h=>h.elim
theorem H9.one{w:World}{A:Nat->Prop}:∀{t:Ty} {x:t.V} {cs:ATO Value},H9 w A t x cs->∀v∈cs,v.oneCell'=true
 |.int _,_,_,h,v,hv=>by cases h;simp at hv;subst hv;rfl
 |.bool,_,_,h,v,hv=>by cases h;simp at hv;subst hv;rfl
 |.str,_,_,h,v,hv=>by cases h;simp at hv;subst hv;rfl
 |.unit,_,_,h,v,hv=>by cases h;simp at hv
 |.AG _ _,_,_,⟨_,_,e,h1,h2⟩,v,hv=>by
  subst e;rcases List.mem_append.1 hv with hv |hv
  ·exact h1.one v hv
  ·exact h2.one v hv
 |.sl _,_,_,⟨_,_,_,e,_⟩,v,hv=>by subst e;simp at hv;subst hv;rfl
 |.R4 _,_,_,h,_,_=>h.elim
theorem J9.one{w:World}{own:Nat->Vf}{k:Nat}:∀{t:Ty} {p:ATO Nat} {x:t.V} {cs:ATO Value},J9 w own k t p x cs->∀v∈cs,v.oneCell'=true
 |.int _,_,_,_,h,v,hv=>by cases h;simp at hv;subst hv;rfl
 |.bool,_,_,_,h,v,hv=>by cases h;simp at hv;subst hv;rfl
 |.str,_,_,_,h,v,hv=>by cases h;simp at hv;subst hv;rfl
 |.unit,_,_,_,h,v,hv=>by cases h;simp at hv
 |.AG _ _,_,_,_,⟨_,_,e,h1,h2⟩,v,hv=>by
  subst e;rcases List.mem_append.1 hv with hv |hv
  ·exact h1.one v hv
  ·exact h2.one v hv
 |.sl _,_,_,_,⟨_,_,e,_⟩,v,hv=>by subst e;simp at hv;subst hv;rfl
 |.R4 _,_,_,_,h,_,_=>h.elim
theorem CP.all{α:Type}{R:α->ATO Value->Prop}{P:Value->Prop}(h:∀x c,R x c->∀v∈c,P v):∀{xs cs},CP R xs cs->∀v∈cs,P v
 |[],_,hc,v,hv=>by cases hc;simp at hv
 |_::_,_,⟨c,d,e,r,l⟩,v,hv=>by
  subst e;rcases List.mem_append.1 hv with hv |hv
  ·grind
  ·exact l.all h v hv
theorem Bu.all{α:Type}{I:Nat->α->ATO Value->Prop}{P:Value->Prop}(h:∀i x c,I i x c->∀v∈c,P v){i xs cs}(l:Bu I i xs cs):∀v∈cs,P v :=
 CP.all (R:=λx c=>∃i,I i x c) (λx c ⟨i,r⟩=>h i x c r) (l.toR λi _ _ r=>⟨i,r⟩)
theorem H9.mono{w w':World}{A A':Nat->Prop}(h:∀b,A b->A' b/\w'.heap[b]?=w.heap[b]?):∀{t:Ty} {x:t.V} {cs:ATO Value},H9 w A t x cs->H9 w' A' t x cs
 |.int _,_,_,r=>r
 |.bool,_,_,r=>r
 |.str,_,_,r=>r
 |.unit,_,_,r=>r
 |.AG _ _,_,_,⟨c,d,e,h1,h2⟩=>⟨c,d,e,h1.mono h,h2.mono h⟩
 |.sl _,_,_,⟨ad,cap,ds,e,hl,l,hm⟩=>⟨ad,cap,ds,e,hl,l.mono λ_ _ r=>r.mono h,hm.imp id λ⟨b,off,ha,hA,hc⟩ =>
     ⟨b,off,ha,(h b hA).1,λj u hu=>(W6 (h b hA).2).trans (hc j u hu)⟩⟩
 |.R4 _,_,_,r=>r
theorem J9.mono{w w':World}{own OO:Nat->Vf}{k k':Nat}:∀{t:Ty} {p p':ATO Nat} {x:t.V} {cs:ATO Value},
    (∀b q,own b=.BV k (q++p)->OO b=.BV k' (q++p')/\w'.heap[b]?=w.heap[b]?)->J9 w own k t p x cs->J9 w' OO k' t p' x cs
 |.int _,_,_,_,_,_,r=>r
 |.bool,_,_,_,_,_,r=>r
 |.str,_,_,_,_,_,r=>r
 |.unit,_,_,_,_,_,r=>r
 |.AG _ _,p,p',_,_,h,⟨c,d,e,h1,h2⟩=>⟨c,d,e,
     h1.mono (λb q hb=>by have:=h b (q++[0]) (by grind);simpa using this),
     h2.mono (λb q hb=>by have:=h b (q++[1]) (by grind);simpa using this)⟩
 |.sl _,p,p',_,_,h,⟨ad,cap,e,hm⟩=>⟨ad,cap,e,hm.imp id λ⟨b,el,BG,ds,ha,hb,hh,h1,h2,h3,h4,l⟩ =>
     ⟨b,el,BG,ds,ha,(h b [] hb).1,(h b [] hb).2.trans hh,h1,h2,h3,h4,l.mono λi x c r=>r.mono (λb q hb=>by have:=h b (q++[i]) (by grind);simpa using this)⟩⟩
 |.R4 _,_,_,_,_,_,r=>r
theorem W0.on{w w':World}{own OO:Nat->Vf}{k k':Nat}{md md':RM}{kt vt:Ty}{st:ATP kt.V}(h:∀(i:Nat) (x:vt.V) (cs:ATO Value),UI w own k md vt i x cs->UI w' OO k' md' vt i x cs):∀{i:Nat} {es:ATO (kt.V×vt.V)} {ms:ATO MapEntry},W0 w own k md kt vt st i es ms->W0 w' OO k' md' kt vt st i es ms
 |_,[],_,r=>r
 |i,x::xs,_,⟨m,r,e,hk,hv,hr⟩=>⟨m,r,e,hk,hv.imp id λ⟨cs,ho,ha⟩=>⟨cs,h i x.2 cs ho,ha⟩,hr.on h⟩
theorem J9.rd{w:World}{own:Nat->Vf}{k:Nat}{A:Nat->Prop}(h:∀b q,own b=.BV k q->A b):∀{t:Ty} {p:ATO Nat} {x:t.V} {cs:ATO Value},J9 w own k t p x cs->H9 w A t x cs
 |.int _,_,_,_,r=>r
 |.bool,_,_,_,r=>r
 |.str,_,_,_,r=>r
 |.unit,_,_,_,r=>r
 |.AG _ _,_,_,_,⟨c,d,e,h1,h2⟩=>⟨c,d,e,h1.rd h,h2.rd h⟩
 |.sl t,_,xs,_,⟨ad,cap,e,hm⟩=>by
  rcases hm with ⟨hx,hc⟩|⟨b,el,BG,ds,ha,hb,hh,h1,h2,h3,h4,l⟩
  ·subst hx;exact⟨ad,cap,[],e,AQW _,rfl,.inl rfl⟩
  ·refine⟨ad,cap,ds,e,h1,l.toR λi x c r=>r.rd h,.inr ⟨b,0,ha,h b _ hb,λj u hu=>?_⟩⟩;rw[QO hh,AQF,<-AQn]
   grind
 |.R4 _,_,_,_,r=>r
def La:(t:Ty)->t.V->ATO Value
 |.int k,x=>[.int k x]
 |.bool,b=>[.bool b]
 |.str,s=>[.string s]
 |.unit,_=>[]
 |.AG a b,x=>La a x.1++La b x.2
 |.sl _,_=>[]
 |.R4 _,_=>[]
theorem H9.BZ{w:World}{A:Nat->Prop}:∀{t:Ty} {x:t.V} {cs:ATO Value},t.BZ=true->(H9 w A t x cs↔cs=La t x)
 |.int _,_,_,_=>Iff.rfl
 |.bool,_,_,_=>Iff.rfl
 |.str,_,_,_=>Iff.rfl
 |.unit,_,_,_=>Iff.rfl
 |.AG a b,x,cs,h=>by
  simp only[Ty.BZ,AQg]at h;constructor
  ·rintro⟨c,d,e,h1,h2⟩
   rw[e,(H9.BZ h.1).1 h1,(H9.BZ h.2).1 h2];rfl
  ·intro e;exact⟨_,_,e,(H9.BZ h.1).2 rfl,(H9.BZ h.2).2 rfl⟩
 |.sl _,_,_,h=>by simp[Ty.BZ]at h
 |.R4 _,_,_,h=>by simp[Ty.BZ]at h
theorem J9.BZ{w:World}{own:Nat->Vf}{k:Nat}:∀{t:Ty} {p:ATO Nat} {x:t.V} {cs:ATO Value},t.BZ=true->(J9 w own k t p x cs↔cs=La t x)
 |.int _,_,_,_,_=>Iff.rfl
 |.bool,_,_,_,_=>Iff.rfl
 |.str,_,_,_,_=>Iff.rfl
 |.unit,_,_,_,_=>Iff.rfl
 |.AG a b,p,x,cs,h=>by
  simp only[Ty.BZ,AQg]at h;constructor
  ·rintro⟨c,d,e,h1,h2⟩
   rw[e,(J9.BZ h.1).1 h1,(J9.BZ h.2).1 h2];rfl
  ·intro e;exact⟨_,_,e,(J9.BZ h.1).2 rfl,(J9.BZ h.2).2 rfl⟩
 |.sl _,_,_,_,h=>by simp[Ty.BZ]at h
 |.R4 _,_,_,_,h=>by simp[Ty.BZ]at h
def RR:Ty->ATO Value
 |.int k=>[.int k 0]
 |.bool=>[.bool false]
 |.str=>[.string ⟨#[]⟩]
 |.unit=>[]
 |.AG a b=>RR a++RR b
 |.sl _=>[.slice none 0 0]
 |.R4 0=>[.pointer none]
 |.R4 1=>[.map none]
 |.R4 _=>[.nilFunc]
theorem S0:∀t:Ty,(RR t).length=t.size
 |.int _=>rfl
 |.bool=>rfl
 |.str=>rfl
 |.unit=>rfl
 |.AG a b=>by simp[RR,S0 a,S0 b,Ty.size]
 |.sl _=>rfl
 |.R4 0=>rfl
 |.R4 1=>rfl
 |.R4 (_+2)=>rfl
theorem J9.zero{w:World}{own:Nat->Vf}{k:Nat}:∀{t:Ty} {p:ATO Nat},t.data=true->J9 w own k t p t.zero (RR t)
 |.int _,_,_=>rfl
 |.bool,_,_=>rfl
 |.str,_,_=>rfl
 |.unit,_,_=>rfl
 |.AG a b,p,h=>by
  simp only[Ty.data,AQg]at h;exact⟨_,_,rfl,J9.zero h.1,J9.zero h.2⟩
 |.sl t,p,_=>⟨none,0,rfl,.inl ⟨rfl,rfl⟩⟩
 |.R4 _,_,h=>by simp[Ty.data]at h
theorem H9.zero{w:World}{A:Nat->Prop}:∀{t:Ty},t.data=true->H9 w A t t.zero (RR t)
 |.int _,_=>rfl
 |.bool,_=>rfl
 |.str,_=>rfl
 |.unit,_=>rfl
 |.AG a b,h=>by
  simp only[Ty.data,AQg]at h;exact⟨_,_,rfl,H9.zero h.1,H9.zero h.2⟩
 |.sl t,_=>⟨none,0,[],rfl,AQf _,rfl,.inl rfl⟩
 |.R4 _,h=>by simp[Ty.data]at h
theorem Al.mono{own:Nat->Vf}{ks UO:ATO Nat}(h:∀k∈ks,k∈UO){b:Nat}(a:Al own ks b):Al own UO b:=a.imp id λ⟨k,hk,p,hp⟩=>⟨k,h k hk,p,hp⟩
theorem Al.step{BJ:ATO Nat}{n:Nat}{w w':World}{g g':G}(s:Step BJ n w g w' g'){ks:ATO Nat}(hn:∀k∈ks,k<n)(hm:∀k∈ks,k∉BJ){b:Nat}(a:Al g.own ks b) :
    Al g'.own ks b/\w'.heap[b]?=w.heap[b]?:=by
 rcases a with a |⟨k,hk,p,hp⟩
 ·exact⟨.inl (s.Jd b a).1,(s.Jd b a).2⟩
 ·have:=s.BV b k p hp (hn k hk) (hm k hk);exact⟨.inr ⟨k,hk,p,this.1⟩,this.2⟩
theorem Step.refl(BJ:ATO Nat)(n:Nat)(w:World)(g:G):Step BJ n w g w g :=
 ⟨rfl,rfl,rfl,AQf _,λ_ _ h=>⟨h,rfl⟩,λ_ h=>⟨h,rfl⟩,λ_ _ _ h _ _=>⟨h,rfl⟩,λ_ _=>rfl⟩
theorem Step.trans{m1 m2:ATO Nat}{n n':Nat}{w w1 w2:World}{g g1 g2:G}(s:Step m1 n w g w1 g1)(t:Step m2 n' w1 g1 w2 g2)(hn:n<=n'):Step (m1++m2) n w g w2 g2 where
 os:=t.os.trans s.os
 tape:=t.tape.trans s.tape
 output:=t.output.trans s.output
 size:=AQD s.size t.size
 no b hb h:=by
  have h1:=s.no b hb h;have h2:=t.no b (AQL hb s.size) h1.1;exact⟨h2.1,h2.2.trans h1.2⟩
 Jd b h:=by
  have h1:=s.Jd b h;have h2:=t.Jd b h1.1;exact⟨h2.1,h2.2.trans h1.2⟩
 BV b k p h hk hm:=by
  have h1:=s.BV b k p h hk (λe=>hm (AQH _ e));have h2:=t.BV b k p h1.1 (AQL hk hn) (λe=>hm (AQI _ e));exact⟨h2.1,h2.2.trans h1.2⟩
 A5 k hk:=(t.A5 k (AQL hk hn)).trans (s.A5 k hk)
theorem Step.weaken{m1 m2:ATO Nat}{n n':Nat}{w w':World}{g g':G}(s:Step m1 n w g w' g')(hm:∀k∈m1,k∈m2)(hn:n'<=n):Step m2 n' w g w' g' :=
 ⟨s.os,s.tape,s.output,s.size,s.no,s.Jd,λb k p h hk XC=>s.BV b k p h (AQL hk hn) (λe=>XC (hm k e)),λk hk=>s.A5 k (AQL hk hn)⟩
theorem Step.drew(BJ:ATO Nat)(n:Nat)(w:World)(g:G):Step BJ n w g w.drew g :=
 ⟨rfl,rfl,rfl,AQf _,λ_ _ h=>⟨h,rfl⟩,λ_ h=>⟨h,rfl⟩,λ_ _ _ h _ _=>⟨h,rfl⟩,λ_ _=>rfl⟩
theorem kh(Yk:Nat->Bool)(a:AV):(a.drop Yk).OL=true\/(a.drop Yk).isAgg=a.isAgg:=by
 cases a with
 |AB ks t x=>simp only[AV.drop];split;exact .inl rfl;exact .inr rfl
 |FQ ks t x=>simp only[AV.drop];split;exact .inl rfl;exact .inr rfl
 |UT k i p o e=>simp only[AV.drop];split;exact .inl rfl;exact .inr rfl
 |WM k i p o j u=>simp only[AV.drop];split;exact .inl rfl;exact .inr rfl
 |_=>exact .inr rfl
theorem Abp(Yk:Nat->Bool)(a:AV)(h:a.OL=true):(a.drop Yk).OL=true:=by
 cases a<;>simp_all [AV.OL,AV.drop]
theorem CN.step{BJ:ATO Nat}{n n':Nat}{w w':World}{g g':G}(s:Step BJ n w g w' g')(hn:n<=n'):∀(a:AV) (m:Bool) {cs:ATO Value},CN w g n m a cs->CN w' g' n' m (a.drop λk=>BJ.contains k) cs
 |.AB ks t x,false,cs,⟨hk,r⟩=>by
  simp only[AV.drop];split
  ·exact⟨r.len,r.one⟩
  ·rename_i hb;have hm:∀k∈ks,k∉BJ:=λk hk hc=>hb (List.any_eq_true.2 ⟨k,hk,by grind⟩);exact⟨λk h=>AQL (hk k h) hn,r.mono λb a=>a.step s hk hm⟩
 |.zs,false,_,h=>h
 |.AK k,false,_,⟨hk,e⟩=>⟨AQL hk hn,by rw[s.A5 k hk];exact e⟩
 |.mp k,false,_,⟨hk,b,hb,e⟩=>⟨AQL hk hn,b,by rw[s.A5 k hk];exact hb,e⟩
 |.ptr k i p o,false,_,⟨hk,h0,h1,b,hb,e⟩=>⟨AQL hk hn,h0,by rw[s.A5 k hk];exact h1,b,by rw[s.A5 k hk];exact hb,by rw[s.A5 k hk];exact e⟩
 |.FQ ks t x,false,cs,⟨hk,b,off,ds,e,ha,r,hc⟩=>by
  simp only[AV.drop];split
  ·subst e;exact⟨rfl,by intro v hv;simp at hv;subst hv;rfl⟩
  ·rename_i hb;have hm:∀k∈ks,k∉BJ:=λk hk hc=>hb (List.any_eq_true.2 ⟨k,hk,by grind⟩);exact⟨λk h=>AQL (hk k h) hn,b,off,ds,e,(ha.step s hk hm).1,r.mono λb a=>a.step s hk hm,λj u hu=>(W6 (ha.step s hk hm).2).trans (hc j u hu)⟩
 |.KG,false,_,h=>h
 |.pr a b,false,_,⟨c,d,e,h1,h2⟩=>⟨c,d,e,CN.step s hn a _ h1,CN.step s hn b _ h2⟩
 |.fn f c,false,_,⟨vs,e,h⟩=>⟨vs,e,CN.step s hn c true h⟩
 |.un k,false,_,h=>h
 |.cons a b,true,_,⟨v,r,e,h1,h2⟩=>by
  refine⟨v,r,e,?_,CN.step s hn b true h2⟩;rcases kh (λk=>BJ.contains k) a with hd |hd
  ·grind
  ·exact h1.imp (Abp _ a) λ⟨cs,h,hv⟩=>⟨cs,CN.step s hn a _ h,by grind⟩
 |.nil,true,_,h=>h
 |.cons _ _,false,_,h=>h.elim
 |.nil,false,_,h=>h.elim
 |.UT k i p o e,false,_,⟨hk,h0,h1,b,v,ha,ho,e1,e2,hc⟩=>by
  simp only[AV.drop];split
  ·subst e1;exact⟨rfl,by grind⟩
  ·rename_i hb;have hl:=s.BV b k [] ho hk (by grind);exact⟨AQL hk hn,h0,by rw[s.A5 k hk];exact h1,b,v,by rw[s.A5 k hk];exact ha,hl.1,e1,e2,by rw[s.A5 k hk];exact(W6 hl.2).trans hc⟩
 |.UT _ _ _ _ _,true,_,h=>h.elim
 |.WM k i p o j u,false,_,⟨hk,h0,h1,b,b',l,c,ha,ho,e1,e2,hc⟩=>by
  simp only[AV.drop];split
  ·subst e1;exact⟨rfl,by intro u hu;simp at hu;subst hu;rfl⟩
  ·rename_i hb;have hl:=s.BV b k [] ho hk (by grind);exact⟨AQL hk hn,h0,by rw[s.A5 k hk];exact h1,b,b',l,c,by rw[s.A5 k hk];exact ha,hl.1,e1,e2,by rw[s.A5 k hk];exact(W6 hl.2).trans hc⟩
 |.WM _ _ _ _ _ _,true,_,h=>h.elim
 |.AB _ _ _,true,_,h=>h.elim
 |.zs,true,_,h=>h.elim
 |.AK _,true,_,h=>h.elim
 |.mp _,true,_,h=>h.elim
 |.ptr _ _ _ _,true,_,h=>h.elim
 |.FQ _ _ _,true,_,h=>h.elim
 |.KG,true,_,h=>h.elim
 |.pr _ _,true,_,h=>h.elim
 |.fn _ _,true,_,h=>h.elim
 |.un _,true,_,h=>h.elim
theorem Cb.iff{w:World}{g:G}{n:Nat}{a:AV}{v:Value}(h:a.Dv=false):Cb w g n a v↔(a.OL=true\/∃cs,CN w g n false a cs/\Cp a.isAgg cs v):=by
 cases a<;>first |exact Iff.rfl |cases h
theorem Ahe(Yk:Nat->Bool)(a:AV):(a.drop Yk).Dv=a.Dv:=by
 cases a with
 |AB ks t x=>simp only[AV.drop];split<;>rfl
 |FQ ks t x=>simp only[AV.drop];split<;>rfl
 |UT k i p o e=>simp only[AV.drop];split<;>rfl
 |WM k i p o j u=>simp only[AV.drop];split<;>rfl
 |_=>rfl
theorem Cb.step{BJ:ATO Nat}{n n':Nat}{w w':World}{g g':G}(s:Step BJ n w g w' g')(hn:n<=n'){a:AV}{v:Value}(h:Cb w g n a v):Cb w' g' n' (a.drop λk=>BJ.contains k) v:=by
 cases ht:a.Dv with
 |false =>
  rw[Cb.iff ht]at h;rw[Cb.iff (by rw[Ahe];exact ht)];rcases kh (λk=>BJ.contains k) a with hd |hd
  ·grind
  ·exact h.imp (Abp _ a) λ⟨cs,h,hv⟩=>⟨cs,CN.step s hn a _ h,by grind⟩
 |true =>
  cases a with
  |cons a b=>obtain⟨vs,e,h⟩:=h;exact⟨vs,e,CN.step s hn _ true h⟩
  |nil=>exact h
  |_=>cases ht
theorem cT(a:AV):(a.drop λ_=>false)=a:=by
 induction a with
 |AB ks t x=>simp[AV.drop]
 |FQ ks t x=>simp[AV.drop]
 |UT k i p o e=>simp[AV.drop]
 |WM k i p o j u=>simp[AV.drop]
 |pr a b ha hb=>simp[AV.drop,ha,hb]
 |fn f c h=>simp[AV.drop,h]
 |cons a b ha hb=>simp[AV.drop,ha,hb]
 |_=>rfl
theorem Cb.RO{n n':Nat}{w w':World}{g g':G}(s:Step [] n w g w' g')(hn:n<=n'){a:AV}{v:Value}(h:Cb w g n a v):Cb w' g' n' a v:=by
 have:=h.step s hn;rwa [show(λk=>[].contains k)=λ_=>false from funext λ_=>rfl,cT]at this
theorem CN.RO{n n':Nat}{w w':World}{g g':G}(s:Step [] n w g w' g')(hn:n<=n'){a:AV}{m:Bool}{cs:ATO Value}(h:CN w g n m a cs):CN w' g' n' m a cs:=by
 have:=CN.step s hn a m h;rwa [show(λk=>[].contains k)=λ_=>false from funext λ_=>rfl,cT]at this
theorem CN.len{w:World}{g:G}{n:Nat}:∀{a:AV} {cs:ATO Value},CN w g n false a cs->cs.length=a.size
 |.AB _ _ _,_,h=>h.2.len
 |.zs,_,⟨_,e⟩=>by subst e;rfl
 |.AK _,_,⟨_,e⟩=>by subst e;rfl
 |.mp _,_,⟨_,_,_,e⟩=>by subst e;rfl
 |.ptr _ _ _ _,_,⟨_,_,_,_,_,e⟩=>by subst e;rfl
 |.FQ _ _ _,_,⟨_,_,_,_,e,_⟩=>by subst e;rfl
 |.KG,_,h=>by cases h;rfl
 |.pr a b,_,⟨_,_,e,h1,h2⟩=>by subst e;rw[AQd,CN.len h1,CN.len h2];rfl
 |.fn _ _,_,⟨_,e,_⟩=>by subst e;rfl
 |.un _,_,h=>h.1
 |.cons _ _,_,h=>h.elim
 |.nil,_,h=>h.elim
 |.UT _ _ _ _ _,_,⟨_,_,_,_,_,_,_,e,_⟩=>by subst e;rfl
 |.WM _ _ _ _ _ _,_,⟨_,_,_,_,_,_,_,_,_,e,_⟩=>by subst e;rfl
theorem CN.one{w:World}{g:G}{n:Nat}:∀{a:AV} {cs:ATO Value},CN w g n false a cs->∀v∈cs,v.oneCell'=true
 |.AB _ _ _,_,h=>h.2.one
 |.zs,_,⟨_,e⟩=>by subst e;intro v hv;simp at hv;subst hv;rfl
 |.AK _,_,⟨_,e⟩=>by subst e;intro v hv;simp at hv;subst hv;rfl
 |.mp _,_,⟨_,_,_,e⟩=>by subst e;intro v hv;simp at hv;subst hv;rfl
 |.ptr _ _ _ _,_,⟨_,_,_,_,_,e⟩=>by subst e;intro v hv;simp at hv;subst hv;rfl
 |.FQ _ _ _,_,⟨_,_,_,_,e,_⟩=>by subst e;intro v hv;simp at hv;subst hv;rfl
 |.KG,_,h=>by cases h;intro v hv;simp at hv;subst hv;rfl
 |.pr a b,_,⟨_,_,e,h1,h2⟩=>by
  subst e;intro v hv;rcases List.mem_append.1 hv with hv |hv
  ·exact CN.one h1 v hv
  ·exact CN.one h2 v hv
 |.fn _ _,_,⟨_,e,_⟩=>by subst e;intro v hv;simp at hv;subst hv;rfl
 |.un _,_,h=>h.2
 |.cons _ _,_,h=>h.elim
 |.nil,_,h=>h.elim
 |.UT _ _ _ _ _,_,⟨_,_,_,_,_,_,_,e,h1,_⟩=>by grind
 |.WM _ _ _ _ _ _,_,⟨_,_,_,_,_,_,_,_,_,e,_⟩=>by subst e;intro u hu;simp at hu;subst hu;rfl
theorem CN.scope{w:World}{g:G}{n:Nat}:∀{a:AV} {m:Bool} {cs:ATO Value},CN w g n m a cs->∀k∈a.gV,k<n
 |.AB _ _ _,false,_,h,k,hk=>h.1 k hk
 |.pr a b,false,_,⟨_,_,_,h1,h2⟩,k,hk=>by
  rcases List.mem_append.1 hk with hk |hk
  ·exact CN.scope h1 k hk
  ·exact CN.scope h2 k hk
 |.zs,_,_,_,_,hk=>by cases hk
 |.AK _,_,_,_,_,hk=>by cases hk
 |.mp _,_,_,_,_,hk=>by cases hk
 |.ptr _ _ _ _,_,_,_,_,hk=>by cases hk
 |.FQ _ _ _,_,_,_,_,hk=>by cases hk
 |.KG,_,_,_,_,hk=>by cases hk
 |.fn _ _,_,_,_,_,hk=>by cases hk
 |.un _,_,_,_,_,hk=>by cases hk
 |.cons _ _,_,_,_,_,hk=>by cases hk
 |.nil,_,_,_,_,hk=>by cases hk
 |.UT _ _ _ _ _,_,_,_,_,hk=>by cases hk
 |.WM _ _ _ _ _ _,_,_,_,_,hk=>by cases hk
 |.AB _ _ _,true,_,h,_,_=>h.elim
 |.pr _ _,true,_,h,_,_=>h.elim
section
variable {w:World} {g:G} {n:Nat}
theorem Aov{A A':Nat->Prop}{w:World}{t:Ty}{x:t.V}{cs:ATO Value}(h:H9 w A t x cs)(ha:t.BZ=false->∀b,A b->A' b):H9 w A' t x cs:=by
 cases hf:t.BZ with
 |true=>exact(H9.BZ hf).2 ((H9.BZ hf).1 h)
 |false=>exact h.mono λb a=>⟨ha hf b a,rfl⟩
theorem ZR{ks:ATO Nat}{t:Ty}(h:∀k∈ks,k<n):∀k∈bz ks t,k<n:=by
 unfold bz;split
 ·intro k hk;cases hk
 ·exact h
theorem ZV{own:Nat->Vf}{ks:ATO Nat}{w:World}{t:Ty}{x:t.V}{cs:ATO Value}(h:H9 w (Al own ks) t x cs):H9 w (Al own (bz ks t)) t x cs :=
 Aov h λhf b a=>by unfold bz;rw[AQs (by simp[hf])];exact a
theorem ZK{ks:ATO Nat}(hk:∀k∈ks,k<n):∀(f:Nat) (t:Ty) (x:t.V) (cs:ATO Value) (v:AV),H9 w (Al g.own ks) t x cs->XM ks t x f=some v ->
    ∃c0 c1 c2,cs=c0++c1++c2/\VB t f=some c0.length/\CN w g n false v c1/\(∃u y,v=.AB (bz ks u) u y/\H9 w (Al g.own ks) u y c1) /\
     ∀v' a' T7,xd ks t x f v'=some a'->CN w g n false v' T7->CN w g n false a' (c0++T7++c2)
 |0,.AG a b,x,cs,v,⟨c,d,e,h1,h2⟩,hv=>by
  simp only[XM,AQb]at hv;subst hv;refine⟨[],c,d,by simpa using e,rfl,⟨ZR hk,ZV h1⟩,⟨a,x.1,rfl,h1⟩,?_⟩;intro v' a' T7 hs rQ;simp only[xd,AQb]at hs;subst hs;exact⟨T7,d,rfl,rQ,ZR hk,ZV h2⟩
 |f+1,.AG a b,x,cs,v,⟨c,d,e,h1,h2⟩,hv=>by
  simp only[XM]at hv;obtain⟨c0,c1,c2,e2,ho,hx,hu,hs⟩:=ZK hk f b x.2 d v h2 hv;refine⟨c++c0,c1,c2,by rw[e,e2];simp only[AQh],?_,hx,hu,?_⟩
  ·simp only[VB,ho,AQd,h1.len]
  ·intro v' a' T7 ea rQ;simp only[xd]at ea;split at ea
   ·rename_i r hr;simp only[AQb]at ea;subst ea;exact⟨c,c0++T7++c2,by simp only[AQh],⟨ZR hk,ZV h1⟩,hs _ _ _ hr rQ⟩
   ·cases ea
 |f,.int _,_,_,_,_,hv=>by simp[XM]at hv
 |f,.bool,_,_,_,_,hv=>by simp[XM]at hv
 |f,.str,_,_,_,_,hv=>by simp[XM]at hv
 |f,.unit,_,_,_,_,hv=>by simp[XM]at hv
 |f,.sl _,_,_,_,_,hv=>by simp[XM]at hv
 |f,.R4 _,_,_,_,_,hv=>by simp[XM]at hv
theorem Y0:∀(a:AV) (f:Nat) (cs:ATO Value) (v:AV),CN w g n false a cs->a.bh f=some v ->
    ∃c0 c1 c2,cs=c0++c1++c2/\a.off f=some c0.length/\CN w g n false v c1 /\
     ∀v' a' T7,a.Un f v'=some a'->CN w g n false v' T7->CN w g n false a' (c0++T7++c2)
 |.AB ks t x,f,cs,v,⟨hk,h⟩,hv=>by
  obtain⟨c0,c1,c2,e,ho,hx,_,hs⟩:=ZK (g:=g) hk f t x cs v h (by simpa [AV.bh]using hv);exact⟨c0,c1,c2,e,by simpa [AV.off]using ho,hx,λv' a' T7 h1 h2=>hs v' a' T7 (by simpa [AV.Un]using h1) h2⟩
 |.pr a b,0,cs,v,⟨c,d,e,h1,h2⟩,hv=>by
  simp only[AV.bh,AQb]at hv;subst hv;refine⟨[],c,d,by simpa using e,rfl,h1,?_⟩;intro v' a' T7 hs rQ;simp only[AV.Un,AQb]at hs;subst hs;exact⟨T7,d,rfl,rQ,h2⟩
 |.pr a b,f+1,cs,v,⟨c,d,e,h1,h2⟩,hv=>by
  simp only[AV.bh]at hv;obtain⟨c0,c1,c2,e2,ho,hx,hs⟩:=Y0 b f d v h2 hv;refine⟨c++c0,c1,c2,by rw[e,e2];simp only[AQh],?_,hx,?_⟩
  ·simp only[AV.off,ho,AQd,h1.len]
  ·intro v' a' T7 ea rQ;simp only[AV.Un]at ea;split at ea
   ·rename_i r hr;simp only[AQb]at ea;subst ea;exact⟨c,c0++T7++c2,by simp only[AQh],h1,hs _ _ _ hr rQ⟩
   ·cases ea
 |.zs,_,_,_,_,hv=>by simp[AV.bh]at hv
 |.AK _,_,_,_,_,hv=>by simp[AV.bh]at hv
 |.mp _,_,_,_,_,hv=>by simp[AV.bh]at hv
 |.ptr _ _ _ _,_,_,_,_,hv=>by simp[AV.bh]at hv
 |.FQ _ _ _,_,_,_,_,hv=>by simp[AV.bh]at hv
 |.KG,_,_,_,_,hv=>by simp[AV.bh]at hv
 |.fn _ _,_,_,_,_,hv=>by simp[AV.bh]at hv
 |.un _,_,_,_,_,hv=>by simp[AV.bh]at hv
 |.cons _ _,_,_,_,h,_=>h.elim
 |.nil,_,_,_,h,_=>h.elim
 |.UT _ _ _ _ _,_,_,_,_,hv=>by simp[AV.bh]at hv
 |.WM _ _ _ _ _ _,_,_,_,_,hv=>by simp[AV.bh]at hv
theorem SD:∀(p:ATO Nat) (a:AV) (cs:ATO Value) (v:AV),CN w g n false a cs->a.Wz p=some v ->
    ∃c0 c1 c2,cs=c0++c1++c2/\a.AdT p=some c0.length/\CN w g n false v c1 /\
     ∀v' a' T7,a.bQ p v'=some a'->CN w g n false v' T7->CN w g n false a' (c0++T7++c2)
 |[],a,cs,v,h,hv=>by
  simp only[AV.Wz,AQb]at hv;subst hv;refine⟨[],cs,[],by simp,rfl,h,?_⟩;intro v' a' T7 hs rQ;simp only[AV.bQ,AQb]at hs;subst hs;simpa using rQ
 |f::p,a,cs,v,h,hv=>by
  simp only[AV.Wz]at hv;split at hv
  ·rename_i b hb;obtain⟨c0,c1,c2,e,ho,hx,hs⟩:=Y0 a f cs b h hb;obtain⟨d0,d1,d2,e2,yj,yn,ZO⟩:=SD p b c1 v hx hv;refine⟨c0++d0,d1,d2++c2,by rw[e,e2];simp only[AQh],?_,yn,?_⟩
   ·simp only[AV.AdT,hb,ho,yj,AQd]
   ·intro v' a' T7 ea rQ;simp only[AV.bQ,hb]at ea;split at ea
    ·rename_i r hr;have:=hs _ _ _ ea (ZO _ _ _ hr rQ);simpa only[AQh]using this
    ·cases ea
  ·cases hv
end
theorem BR{t u:Ty}{x:t.V}{y:u.V}(h:JA t u x=some y):∃e:t=u,e▸x=y:=by
 unfold JA at h;split at h
 ·rename_i e;injection h with h;exact⟨e,h⟩
 ·cases h
def r9:Nat->ATO Nat->ATO Nat
 |0,L=>0::L
 |n+1,L=>r9 n (1::L)
def Vo:ATO Nat->ATO Nat->ATO Nat
 |[],L=>L
 |f::p,L=>Vo p (r9 f L)
structure Rel where
 E:(t:Ty)->List Nat->t.V->List Value->Prop
 AG:∀{a b:Ty} {L:List Nat} {x:(Ty.AG a b).V} {cs:List Value},E (.AG a b) L x cs↔∃c d,cs=c++d/\E a (0::L) x.1 c/\E b (1::L) x.2 d
 len:∀{t:Ty} {L:List Nat} {x:t.V} {cs:List Value},E t L x cs->cs.length=t.size
def AG1(w:World)(A:Nat->Prop):Rel:=⟨λt _ x cs=>H9 w A t x cs,Iff.rfl,H9.len⟩
def Aou(w:World)(own:Nat->Vf)(k:Nat):Rel:=⟨λt L x cs=>J9 w own k t L x cs,Iff.rfl,J9.len⟩
section
variable (Q:Rel)
theorem pX(F:∀u:Ty,u.V->ATP u.V)(mH:Ty->Nat->Prop)(D:ATO Nat->ATO Value->Prop)(sz:Nat)
    (hF:∀(u:Ty) (L:ATO Nat) (x y:u.V) (cs:ATO Value) (o:Nat),F u x=some y->mH u o->Q.E u L x cs ->
     ∃c0 c1 c2,cs=c0++c1++c2/\c0.length=o/\c1.length=sz/\∀T7,D L T7->Q.E u L y (c0++T7++c2)) :
    ∀(f:Nat) (t:Ty) (L:ATO Nat) (x x':t.V) (cs:ATO Value) (u:Ty) (o o':Nat),SE t x f F=some x'->mP t f=some u->VB t f=some o->mH u o'->Q.E t L x cs ->
     ∃c0 c1 c2,cs=c0++c1++c2/\c0.length=o+o'/\c1.length=sz/\∀T7,D (r9 f L) T7->Q.E t L x' (c0++T7++c2)
 |0,.AG a b,L,x,x',cs,u,o,o',hs,hu,ho,hc,h=>by
  obtain⟨c,d,e,h1,h2⟩:=Q.AG.1 h;simp only[mP,AQb]at hu;subst hu;simp only[VB,AQb]at ho;subst ho;simp only[SE]at hs;split at hs
  ·rename_i y hy;injection hs with hs;subst hs;obtain⟨c0,c1,c2,e2,hl,hz,hr⟩:=hF a _ x.1 y c o' hy hc h1;refine⟨c0,c1,c2++d,by rw[e,e2];simp only[AQh],by omega,hz,λT7 h=>Q.AG.2 ⟨c0++T7++c2,d,by simp only[AQh],hr T7 h,h2⟩⟩
  ·cases hs
 |f+1,.AG a b,L,x,x',cs,u,o,o',hs,hu,ho,hc,h=>by
  obtain⟨c,d,e,h1,h2⟩:=Q.AG.1 h;simp only[mP]at hu;simp only[VB]at ho;split at ho
  ·rename_i o2 yj;injection ho with ho;subst ho;simp only[SE]at hs;split at hs
   ·rename_i y hy;injection hs with hs;subst hs;obtain⟨c0,c1,c2,e2,hl,hz,hr⟩:=pX F mH D sz hF f b (1::L) x.2 y d u o2 o' hy hu yj hc h2;refine⟨c++c0,c1,c2,by rw[e,e2];simp only[AQh],by rw[AQd,Q.len h1];omega,hz,λT7 h=>Q.AG.2 ⟨c,c0++T7++c2,by simp only[AQh],h1,hr T7 h⟩⟩
   ·cases hs
  ·cases ho
 |f,.int _,_,_,_,_,_,_,_,hs,_,_,_,_=>by simp[SE]at hs
 |f,.bool,_,_,_,_,_,_,_,hs,_,_,_,_=>by simp[SE]at hs
 |f,.str,_,_,_,_,_,_,_,hs,_,_,_,_=>by simp[SE]at hs
 |f,.unit,_,_,_,_,_,_,_,hs,_,_,_,_=>by simp[SE]at hs
 |f,.sl _,_,_,_,_,_,_,_,hs,_,_,_,_=>by simp[SE]at hs
 |f,.R4 _,_,_,_,_,_,_,_,hs,_,_,_,_=>by simp[SE]at hs
theorem ZZ(u:Ty)(y:u.V):∀(p:ATO Nat) (t:Ty) (L:ATO Nat) (x x':t.V) (cs:ATO Value) (o:Nat),TU u y p t x=some x'->Mf t p=some o->Q.E t L x cs ->
    ∃c0 c1 c2,cs=c0++c1++c2/\c0.length=o/\c1.length=u.size/\∀T7,Q.E u (Vo p L) y T7->Q.E t L x' (c0++T7++c2)
 |[],t,L,x,x',cs,o,hs,ho,h=>by
  simp only[Mf,AQb]at ho;subst ho;obtain⟨e,he⟩:=BR hs;subst e;simp only at he;subst he;exact⟨[],cs,[],by simp,rfl,Q.len h,λT7 h'=>by simpa [Vo]using h'⟩
 |f::p,t,L,x,x',cs,o,hs,ho,h=>by
  simp only[Mf]at ho;split at ho
  ·rename_i t1 o1 h1 h2;split at ho
   ·rename_i o2 h3;injection ho with ho;subst ho;exact pX Q (λt' x'=>TU u y p t' x') (λv o=>Mf v p=some o) (λL T7=>Q.E u (Vo p L) y T7) u.size
     (λv L x1 y1 cs1 o' Sb Pk gd=>ZZ u y p v L x1 y1 cs1 o' Sb Pk gd) f t L x x' cs t1 o1 o2 hs h1 h2 h3 h
   ·cases ho
  ·cases ho
end
theorem Al.mem{own:Nat->Vf}{ks:ATO Nat}{k b:Nat}{p:ATO Nat}(hk:k∈ks)(h:own b=.BV k p):Al own ks b:=.inr ⟨k,hk,p,h⟩
theorem Ri{w:World}{g:G}{bs:ATO Blk}(H:Bo w g bs):∀(t:Ty) (a:AV) (x:t.V) (cs:ATO Value),rd bs t a=some x->CN w g bs.length false a cs ->
    H9 w (Al g.own (a.Vx bs)) t x cs/\∀k∈a.Vx bs,k<bs.length:=by
 have plain:∀(t:Ty) (ks:ATO Nat) (u:Ty) (y:u.V) (x:t.V) (cs:ATO Value),JA u t y=some x->CN w g bs.length false (.AB ks u y) cs->H9 w (Al g.own ks) t x cs/\∀k∈ks,k<bs.length:=by
  intro t ks u y x cs h hx;obtain⟨e,he⟩:=BR h;subst e;simp only at he;subst he;exact⟨hx.2,hx.1⟩
 intro t;induction t with
 |AG a b iha ihb =>
  intro av x cs h hx;simp only[rd]at h;split at h
  ·exact plain _ _ _ _ _ _ h hx
  ·rename_i u v;split at h
   ·rename_i y z hy hz;injection h with h;subst h;obtain⟨c,d,e,h1,h2⟩:=hx;have r1:=iha u y c hy h1;have r2:=ihb v z d hz h2;refine⟨⟨c,d,e,r1.1.mono λq hq=>⟨hq.mono λk hk=>AQH _ hk,rfl⟩,r2.1.mono λq hq=>⟨hq.mono λk hk=>AQI _ hk,rfl⟩⟩,?_⟩;intro k hk;rcases List.mem_append.1 hk with hk |hk
    ·exact r1.2 k hk
    ·exact r2.2 k hk
   ·cases h
  ·cases h
 |sl t _ =>
  intro av x cs h hx;simp only[rd]at h;split at h
  ·exact plain _ _ _ _ _ _ h hx
  ·injection h with h;subst h;obtain⟨ad,e⟩:=hx;exact⟨⟨ad,0,[],e,AQf _,rfl,.inl rfl⟩,λk hk=>by cases hk⟩
  ·rename_i k;split at h
   ·rename_i e m u ys hb;obtain⟨e',he⟩:=BR h;injection e' with e';subst e';simp only at he;subst he;obtain⟨hk,hc⟩:=hx;obtain⟨hm,hlen,QL,B5,hr⟩:=H.MP k _ hb;have AbM:(AV.AK k).Vx bs=k::m.Cx:=by simp[AV.Vx,dK,hb]
    rw[AbM];refine⟨?_,λj hj=>?_⟩
    ·rcases hr with ⟨hy,fb⟩|⟨b,BG,ds,ha,Cw,⟨el,_,hh⟩,h1,h2,h3,h4,MN⟩
     ·subst hy;rw[hlen]at hc;exact⟨(g.A5 k).a,(g.A5 k).cap,[],hc,by simp,rfl,.inl rfl⟩
     ·rw[hlen]at hc;refine⟨(g.A5 k).a,(g.A5 k).cap,ds,hc,h1,?_,.inr ⟨b,0,ha,.mem (AQE) Cw,λj q hq=>?_⟩⟩
      ·cases m with
       |Aw=>exact MN.toR λi y c r=>r.rd λb q hb=>.mem (AQE) hb
       |sh ks=>exact MN.mono λy c r=>r.mono λb a=>⟨a.mono λj hj=>AQB _ hj,rfl⟩
      ·rw[QO hh,AQF,<-AQn];subst h4;rw[AQ8]at hq;split at hq
       ·exact hq
       ·cases hq
    ·rcases List.mem_cons.1 hj with rfl |hj
     ·exact hk
     ·exact hm j hj
   ·cases h
  ·cases h
 |_ =>
  intro av x cs h hx;simp only[rd]at h;split at h
  ·exact plain _ _ _ _ _ _ h hx
  ·cases h
theorem Nu.step{BJ:ATO Nat}{n n':Nat}{w w':World}{g g':G}(s:Step BJ n w g w' g')(hn:n<=n'){k:Nat}(hk:k<n)(hm:k∉BJ){b:Blk}(h:Nu w g n k b) :
    Nu w' g' n' k (b.drop λj=>BJ.contains j):=by
 cases b with
 |Bg=>trivial
 |map m kt vt es st =>
  obtain⟨RZ,b,Hh,DX,ha,ho,hh,S7,kI⟩:=h;simp only[Blk.drop];split
  ·trivial
  ·rename_i hb;have hd:∀j∈m.Cx,j∉BJ:=λj hj hc=>hb (List.any_eq_true.2 ⟨j,hj,by simpa using hc⟩);have hl:=s.BV b k [] ho hk hm;refine⟨λj hj=>AQL (RZ j hj) hn,b,Hh,DX,by rw[s.A5 k hk];exact ha,hl.1,hl.2.trans hh,S7,kI.on λi x cs r=>?_⟩;cases m with
   |Aw=>exact J9.mono (λb q hb=>s.BV b k _ hb hk hm) r
   |sh ks=>exact H9.mono (λb a=>a.step s RZ hd) r
 |R1 e t xs i p =>
  obtain⟨h1,h2,h3,h4,h5,u,o,x0,b,BG,ds,q1,q2,q3,ha,ho,⟨el,V2,hh⟩,c1,c2,c3,c4,hc⟩:=h;have hl:=s.BV b k [] ho hk hm;refine⟨by rw[s.A5 k hk];exact h1,by rw[s.A5 k hk];exact h2,h3,h4,h5,u,o,x0,b,BG,ds,q1,q2,q3,?_⟩;rw[s.A5 k hk];exact⟨ha,hl.1,⟨el,V2,hl.2.trans hh⟩,c1,c2,c3,c4,hc.mono λi x c r=>r.mono λb q hb=>s.BV b k _ hb hk hm⟩
 |tail e t xs =>
  obtain⟨hf,hlen,QL,B5,hr⟩:=h;refine⟨hf,by rw[s.A5 k hk];exact hlen,by rw[s.A5 k hk];exact QL,B5,?_⟩;rw[s.A5 k hk];refine hr.imp id λ⟨b,o,BG,ds,ha,ho,⟨el,V2,hh⟩,h1,h2,h3,h4,hc⟩=>?_;have hl:=s.BV b k [] ho hk hm;exact⟨b,o,BG,ds,ha,hl.1,⟨el,V2,hl.2.trans hh⟩,h1,h2,h3,h4,hc.mono λi x c r=>r.mono λb q hb=>s.BV b k _ hb hk hm⟩
 |box a =>
  obtain⟨h1,b,cs,e,ha,ho,hh,hx⟩:=h;have hl:=s.BV b k [] ho hk hm;refine⟨by rw[s.A5 k hk];exact h1,b,cs,e,by rw[s.A5 k hk];exact ha,hl.1,hl.2.trans hh,CN.step s hn a false hx⟩
 |row e m t xs =>
  obtain⟨RZ,hlen,QL,B5,hr⟩:=h;simp only[Blk.drop];split
  ·trivial
  ·rename_i hb;have hd:∀j∈m.Cx,j∉BJ:=λj hj hc=>hb (List.any_eq_true.2 ⟨j,hj,by simpa using hc⟩);refine⟨λj hj=>AQL (RZ j hj) hn,by rw[s.A5 k hk];exact hlen,by rw[s.A5 k hk];exact QL,B5,?_⟩;rw[s.A5 k hk];refine hr.imp id λ⟨b,BG,ds,ha,ho,⟨el,V2,hh⟩,h1,h2,h3,h4,hc⟩=>?_;have hl:=s.BV b k [] ho hk hm;refine⟨b,BG,ds,ha,hl.1,⟨el,V2,hl.2.trans hh⟩,h1,h2,h3,h4,?_⟩;cases m with
   |Aw=>exact hc.mono λi x c r=>r.mono λb q hb=>s.BV b k _ hb hk hm
   |sh ks=>exact hc.mono λx c r=>r.mono λb a=>a.step s RZ hd
theorem cE(b:Blk):(b.drop λ_=>false)=b:=by
 cases b with
 |box a=>simp[Blk.drop,cT]
 |row e m t xs=>simp[Blk.drop]
 |map m kt vt es st=>simp[Blk.drop]
 |R1 e t xs i p=>rfl
 |tail e t xs=>rfl
 |Bg=>rfl
theorem Nu.RO{n n':Nat}{w w':World}{g g':G}(s:Step [] n w g w' g')(hn:n<=n'){k:Nat}(hk:k<n){b:Blk}(h:Nu w g n k b):Nu w' g' n' k b:=by
 have:=h.step s hn hk (by simp);rwa [show(λk=>([]:ATO Nat).contains k)=λ_=>false from funext λ_=>rfl,cE]at this
theorem A7{α:Type}{l:ATO α}{k:Nat}{x:α}(h:l[k]?=some x):k<l.length:=by
 rcases AQk k l.length with h' |h'
 ·exact h'
 ·rw[AQN h']at h;cases h
theorem Bo.RO{w w':World}{g g':G}{bs:ATO Blk}(H:Bo w g bs)(s:Step [] bs.length w g w' g')(hf:∀b,w'.heap.size<=b->g'.own b=.no):Bo w' g' bs :=
 ⟨hf,λk x hx=>(H.MP k x hx).RO s (AQf _) (A7 hx)⟩
theorem Bo.drew{w:World}{g:G}{bs:ATO Blk}(H:Bo w g bs):Bo w.drew g bs:=H.RO (Step.drew _ _ _ _) H.B7
theorem Bo.push{w w':World}{g g':G}{bs:ATO Blk}(H:Bo w g bs)(s:Step [] bs.length w g w' g')(hf:∀b,w'.heap.size<=b->g'.own b=.no){b:Blk}(hb:Nu w' g' (bs.length+1) bs.length b) :
    Bo w' g' (bs++[b]) :=
 ⟨hf,λk x hx=>by
  rw[AQd,AQt];rw[AQz]at hx;split at hx
  ·exact(H.MP k x hx).RO s (AQK _) (A7 hx)
  ·rename_i hk;have:k-bs.length=0:=by
    rcases AQx (k-bs.length)with h |h
    ·exact h
    ·rw[AQN (by simp;omega)]at hx;cases hx
   rw[this]at hx;obtain rfl:k=bs.length:=by omega
   simp only[List.getElem?_cons_zero,AQb]at hx;subst hx;exact hb⟩
def zeroV:Value->Value->Bool
 |.int k n,.int k' m=>k==k'&&n==m
 |.bool a,.bool b=>a==b
 |.string s,.string t=>s.data.toList==t.data.toList
 |.slice none 0 0,.slice none 0 0=>true
 |.pointer none,.pointer none=>true
 |.map none,.map none=>true
 |.nilFunc,.nilFunc=>true
 |_,_=>false
theorem AjX{a b:Value}(h:zeroV a b=true):a=b:=by
 unfold zeroV at h;split at h
 ·simp at h;rw[h.1,h.2]
 ·simp at h;rw[h]
 ·rename_i s t;simp at h;have:s.data=t.data:=by simpa using h
  cases s;cases t;simp at this;rw[this]
 ·rfl
 ·rfl
 ·rfl
 ·rfl
 ·cases h
def Acp:ATO Value->ATO Value->Bool
 |[],[]=>true
 |a::r,b::s=>zeroV a b&&Acp r s
 |_,_=>false
theorem xO:∀{a b:ATO Value},Acp a b=true->a=b
 |[],[],_=>rfl
 |a::r,b::s,h=>by
  simp only[Acp,AQg]at h;rw[AjX h.1,xO h.2]
 |[],_::_,h=>by cases h
 |_::_,[],h=>by cases h
def AkU:TypeDesc->Bool
 |.struct _=>true
 |.array _ _=>true
 |_=>false
def AEp(P:Program)(t:Nat)(u:Ty):Bool:=match P.underlying t with |some d=>AkU d==u.isAgg |none=>false
def P7(P:Program)(ty:Ty):Nat->ATO Field->ATO Nat->Bool
 |_,[],[]=>true
 |i,f::fs,o::os=>f.offset==o&&VB ty i==some o&&(match mP ty i with |some u=>(P.info? f.type).map (·.size)==some u.size&&u.size !=0&&AEp P f.type u |none=>false)&&P7 P ty (i+1) fs os
 |_,_,_=>false
def kindOk(P:Program)(ti:TI):TypeDesc->Bool
 |.int k=>ti.ty==.int k
 |.bool=>ti.ty==.bool
 |.string=>ti.ty==.str
 |.slice e=>ti.elem==e&&(match ti.ty with |.sl _=>true |_=>false)
 |.struct fs=>ti.ty.isAgg&&P7 P ti.ty 0 fs.toList ti.Xr
 |.array _ _=>ti.ty.isAgg
 |.pointer _=>(match ti.ty with |.R4 _=>true |_=>false)
 |.map _ _=>(match ti.ty with |.R4 _=>true |_=>false)
 |.func _ _ _=>(match ti.ty with |.R4 _=>true |_=>false)
 |_=>false
def Xa(P:Program):Ty->Nat->ATO Field->Bool
 |.unit,_,[]=>true
 |.AG a b,o,f::fs=>f.name !="_"&&f.offset==o&&(match a,P.underlying f.type with |.int k,some (.int k')=>k==k' |.bool,some .bool=>true |.str,some .string=>true |_,_=>false)&&Xa P b (o+1) fs
 |_,_,_=>false
def Ahk(P:Program)(t:Nat)(ty:Ty):Bool:=match P.underlying t with
 |some (.struct fs)=>!P.stoodInHeld t&&!P.eqGuardType P.depth t&&Xa P ty 0 fs.toList
 |_=>false
def AwG(P:Program)(t:Nat)(ti:TI):Bool :=
 (match P.info? t with
  |some i=>i.size==ti.ty.size&&i.bytes==ti.bytes&&(match i.zero with |some z=>Acp z.cells.toList (RR ti.ty)&&(match z with |.agg _=>ti.ty.isAgg |_=>!ti.ty.isAgg)|none=>false)
  |none=>false) &&
 (match P.underlying t with |some d=>kindOk P ti d&&(match d with |.struct _=>true |_=>ti.Xr.isEmpty)&&(match d with |.array n e=>ti.Hh==n&&ti.elem==e |_=>ti.Hh==0)&&(match d with |.map k e=>ti.Pb==k&&ti.elem==e |_=>ti.Pb==0)&&(!ti.eqs||Ahk P t ti.ty)|none=>false)
def gG(P:Program):Tab->Bool
 |[]=>true
 |(t,ti)::r=>AwG P t ti&&gG P r
theorem Acf{P:Program}:∀{Ee:Tab} {t:Nat} {ti:TI},gG P Ee=true->Ee.get t=some ti->AwG P t ti=true
 |[],_,_,_,h=>by cases h
 |(k,i)::r,t,ti,ho,h=>by
  simp only[gG,AQg]at ho;simp only[Tab.get]at h;split at h
  ·rename_i hk;injection h with h;subst h;rw[ARd]at hk;subst hk;exact ho.1
  ·exact Acf ho.2 h
structure Fp (P:Program) (t:Nat) (ti:TI):Prop where
 info:∃i z,P.info? t=some i/\i.size=ti.ty.size/\i.bytes=ti.bytes/\i.zero=some z/\z.cells.toList=RR ti.ty/\((∃c,z=.agg c)↔ti.ty.isAgg=true)
 gJ:∃d,P.underlying t=some d/\kindOk P ti d=true
 Xr:(∃fs,P.underlying t=some (.struct fs))\/ti.Xr=[]
 Hh:ti.Hh≠0->P.underlying t=some (.array ti.Hh ti.elem)
 eqs:ti.eqs=true->Ahk P t ti.ty=true
 mp:ti.Pb≠0->P.underlying t=some (.map ti.Pb ti.elem)
theorem Fp.of{P:Program}{Ee:Tab}{t:Nat}{ti:TI}(ho:gG P Ee=true)(h:Ee.get t=some ti):Fp P t ti:=by
 have h1:=Acf ho h;unfold AwG at h1;rw[AQg]at h1;obtain⟨h1,h2⟩:=h1;constructor
 ·split at h1
  ·rename_i i hi;simp only[AQg,ARd]at h1;obtain⟨⟨h3,h4⟩,h5⟩:=h1;split at h5
   ·rename_i z hz;rw[AQg]at h5;refine⟨i,z,hi,h3,h4,hz,xO h5.1,?_⟩;have h6:=h5.2;split at h6
    ·rename_i c;simp[h6]
    ·rename_i hz';simp at h6;exact⟨λ⟨c,hc⟩=>(hz' c hc).elim,λh=>by simp[h6]at h⟩
   ·cases h5
  ·cases h1
 ·split at h2
  ·rename_i d hd;simp only[AQg]at h2;exact⟨d,hd,h2.1.1.1.1⟩
  ·cases h2
 ·split at h2
  ·rename_i d hd;simp only[AQg]at h2;have h3:=h2.1.1.1.2;split at h3
   ·rename_i fs;exact .inl ⟨fs,hd⟩
   ·exact .inr (by simpa using h3)
  ·cases h2
 ·split at h2
  ·rename_i d hd;simp only[AQg]at h2;have h3:=h2.1.1.2;split at h3
   ·rename_i n e;simp only[AQg,ARd]at h3;intro _;rw[hd,h3.1,h3.2]
   ·intro h;exact(h (by simpa using h3)).elim
  ·cases h2
 ·split at h2
  ·rename_i d hd;simp only[AQg]at h2;intro he;have h3:=h2.2;rw[he]at h3;simpa using h3
  ·cases h2
 ·split at h2
  ·rename_i d hd;simp only[AQg]at h2;have h3:=h2.1.2;split at h3
   ·rename_i n e;simp only[AQg,ARd]at h3;intro _;rw[hd,h3.1,h3.2]
   ·intro h;exact(h (by simpa using h3)).elim
  ·cases h2
section
variable {w:World} {g:G} {n:Nat} {v:Value}
theorem B9{a:AV}(ht:a.Dv=false)(hu:a.OL=false)(h:Cb w g n a v):∃cs,CN w g n false a cs/\Cp a.isAgg cs v:=by
 rw[Cb.iff ht]at h
 grind
theorem BD{a:AV}(ht:a.Dv=false){cs:ATO Value}(h:CN w g n false a cs)(hv:Cp a.isAgg cs v):Cb w g n a v:=(Cb.iff ht).2 (.inr ⟨cs,h,hv⟩)
theorem DR{ks:ATO Nat}{k:IntKind}{x:Int}(h:Cb w g n (.AB ks (.int k) x) v):v=.int k x:=by
 obtain⟨cs,h,hv⟩:=B9 rfl rfl h;have e :=h.2;subst e;simpa [Ty.isAgg]using hv.symm
theorem Tq{ks:ATO Nat}{x:Bool}(h:Cb w g n (.AB ks .bool x) v):v=.bool x:=by
 obtain⟨cs,h,hv⟩:=B9 rfl rfl h;have e :=h.2;subst e;simpa [Ty.isAgg]using hv.symm
theorem XG{ks:ATO Nat}{x:ByteArray}(h:Cb w g n (.AB ks .str x) v):v=.string x:=by
 obtain⟨cs,h,hv⟩:=B9 rfl rfl h;have e :=h.2;subst e;simpa [Ty.isAgg]using hv.symm
theorem aS{ks:ATO Nat}{t:Ty}{xs:ATO t.V}(h:Cb w g n (.AB ks (.sl t) xs) v):(∀k∈ks,k<n)/\∃ad cap ds,v=.slice ad xs.length cap/\xs.length<=cap/\CP (H9 w (Al g.own ks) t) xs ds /\
    (xs=[]\/∃b off,ad=some ⟨b,off,none⟩/\Al g.own ks b/\∀j u,ds[j]?=some u->w.cell? ⟨b,off+j,none⟩=some u):=by
 obtain⟨cs,⟨hk,ad,cap,ds,e,h1,h2,h3⟩,hv⟩:=B9 rfl rfl h;subst e;exact⟨hk,ad,cap,ds,by simpa [Ty.isAgg]using hv.symm,h1,h2,h3⟩
theorem YQ(h:Cb w g n .zs v):∃ad,v=.slice ad 0 0:=by
 obtain⟨cs,⟨ad,e⟩,hv⟩:=B9 rfl rfl h;subst e;exact⟨ad,by simpa [AV.isAgg]using hv.symm⟩
theorem FE{k:Nat}(h:Cb w g n (.AK k) v):k<n/\v=.slice (g.A5 k).a (g.A5 k).len (g.A5 k).cap:=by
 obtain⟨cs,⟨hk,e⟩,hv⟩:=B9 rfl rfl h;subst e;exact⟨hk,by simpa [AV.isAgg]using hv.symm⟩
theorem LX{k:Nat}{i:Int}{p:ATO Nat}{o:Nat}(h:Cb w g n (.ptr k i p o) v):k<n/\0<=i/\i.toNat<(g.A5 k).len/\∃b,(g.A5 k).a=some ⟨b,0,none⟩/\v=.pointer (some ⟨b,i.toNat*(g.A5 k).oI+o,none⟩):=by
 obtain⟨cs,⟨hk,h0,h1,b,hb,e⟩,hv⟩:=B9 rfl rfl h;subst e;exact⟨hk,h0,h1,b,hb,by simpa [AV.isAgg]using hv.symm⟩
theorem ZA{ks:ATO Nat}{t:Ty}{x:t.V}(h:Cb w g n (.FQ ks t x) v):(∀k∈ks,k<n)/\∃b off ds,v=.pointer (some ⟨b,off,none⟩)/\Al g.own ks b/\H9 w (Al g.own ks) t x ds/\∀j u,ds[j]?=some u->w.cell? ⟨b,off+j,none⟩=some u:=by
 obtain⟨cs,⟨hk,b,off,ds,e,h1,h2,h3⟩,hv⟩:=B9 rfl rfl h;subst e;exact⟨hk,b,off,ds,by simpa [AV.isAgg]using hv.symm,h1,h2,h3⟩
theorem AiB(k:IntKind)(x:Int):Cb w g n (.int k x) (.int k x):=BD rfl  ⟨λ_ h=>by grind,rfl⟩ (by simp[Cp,AV.isAgg,Ty.isAgg])
theorem dv(x:Bool):Cb w g n (.bool x) (.bool x):=BD rfl  ⟨λ_ h=>by grind,rfl⟩ (by simp[Cp,AV.isAgg,Ty.isAgg])
theorem AiC(x:ByteArray):Cb w g n (.str x) (.string x):=BD rfl  ⟨λ_ h=>by grind,rfl⟩ (by simp[Cp,AV.isAgg,Ty.isAgg])
theorem pD(ad:ATP Addr):Cb w g n .zs (.slice ad 0 0):=BD rfl  ⟨ad,rfl⟩ (by simp[Cp,AV.isAgg])
theorem RP{k:Nat}:Cb w g n (.un k) v:=(Cb.iff rfl).2 (.inl rfl)
theorem fw{ks:ATO Nat}{t:Ty}{x:t.V}{b off:Nat}{ds:ATO Value}(hk:∀k∈ks,k<n)(h1:Al g.own ks b)(h2:H9 w (Al g.own ks) t x ds)(h3:∀j u,ds[j]?=some u->w.cell? ⟨b,off+j,none⟩=some u) :
    Cb w g n (.FQ ks t x) (.pointer (some ⟨b,off,none⟩)):=BD rfl  ⟨hk,b,off,ds,rfl,h1,h2,h3⟩ (by simp[Cp,AV.isAgg])
theorem fv{k:Nat}{i:Int}{p:ATO Nat}{o b:Nat}(hk:k<n)(h0:0<=i)(h1:i.toNat<(g.A5 k).len)(hb:(g.A5 k).a=some ⟨b,0,none⟩) :
    Cb w g n (.ptr k i p o) (.pointer (some ⟨b,i.toNat*(g.A5 k).oI+o,none⟩)):=BD rfl  ⟨hk,h0,h1,b,hb,rfl⟩ (by simp[Cp,AV.isAgg])
end
section
variable {P:Program} {w:World} {g:G} {n:Nat} {R:Type}
def V7(P:Program)(w:World)(g:G)(n:Nat)(s:Sem Value)(z:AV):Prop:=∃c,s.run P w=.ok c w/\Cb w g n z c
theorem Cc{s:Sem Value}{k:IntKind}{x:Int}(h:s.run P w=.ok (.int k x) w):V7 P w g n s (.int k x):=⟨_,h,AiB k x⟩
theorem Dw{s:Sem Value}{x:Bool}(h:s.run P w=.ok (.bool x) w):V7 P w g n s (.bool x):=⟨_,h,dv x⟩
theorem ZM{s:Sem Value}{x:ByteArray}(h:s.run P w=.ok (.string x) w):V7 P w g n s (.str x):=⟨_,h,AiC x⟩
theorem AkZ{op:BinOp}{x y:AV}{u v:Value}{K:AV->ATP R}{r:R}{tb:Bool}(t:TypeId)(ox oy:Operand)(htb:tb=true->P.underlying t=some .bool)(h:qG op tb x y K=some r)(hx:Cb w g n x u)(hy:Cb w g n y v) :
    ∃z,K z=some r/\V7 P w g n (do eqGuard op t ox oy u v;binOp op t u v) z:=by
 unfold qG at h;split at h
 ·rename_i ks k a UO k' b;obtain rfl:=DR hx;obtain rfl:=DR hy;split at h
  ·split at h
   ·cases h
   ·rename_i hb;exact⟨_,h,Cc (by simp[eqGuard,binOp,Op.shift,hb,NS])⟩
  ·split at h
   ·cases h
   ·rename_i hb;exact⟨_,h,Cc (by simp[eqGuard,binOp,Op.shift,hb,SF])⟩
  ·split at h
   ·rename_i hk;subst hk;cases op<;>simp only[reduceCtorEq]at h
    case add=>exact⟨_,h,Cc (by simp[eqGuard,binOp,Op.intArith])⟩
    case sub=>exact⟨_,h,Cc (by simp[eqGuard,binOp,Op.intArith])⟩
    case mul=>exact⟨_,h,Cc (by simp[eqGuard,binOp,Op.intArith])⟩
    case quo =>
     split at h
     ·cases h
     ·rename_i hb;exact⟨_,h,Cc (by simp[eqGuard,binOp,Op.intDiv,hb])⟩
    case rem =>
     split at h
     ·cases h
     ·rename_i hb;exact⟨_,h,Cc (by simp[eqGuard,binOp,Op.intDiv,hb])⟩
    case and=>exact⟨_,h,Cc (by simp[eqGuard,binOp,Op.intBits,cA])⟩
    case or=>exact⟨_,h,Cc (by simp[eqGuard,binOp,Op.intBits,fC])⟩
    case xor=>exact⟨_,h,Cc (by simp[eqGuard,binOp,Op.intBits,AwM])⟩
    case andNot=>exact⟨_,h,Cc (by simp[eqGuard,binOp,Op.intBits,Aa2])⟩
    case eql=>exact⟨_,h,Dw (by simp[eqGuard,binOp,Op.intCmp])⟩
    case neq=>exact⟨_,h,Dw (by simp[eqGuard,binOp,Op.intCmp])⟩
    case lss=>exact⟨_,h,Dw (by simp[eqGuard,binOp,Op.intCmp])⟩
    case leq=>exact⟨_,h,Dw (by simp[eqGuard,binOp,Op.intCmp])⟩
    case gtr=>exact⟨_,h,Dw (by simp[eqGuard,binOp,Op.intCmp])⟩
    case geq=>exact⟨_,h,Dw (by simp[eqGuard,binOp,Op.intCmp])⟩
   ·cases h
 ·rename_i ks a UO b;obtain rfl:=XG hx;obtain rfl:=XG hy;cases op<;>simp only[reduceCtorEq]at h
  case add =>
   split at h
   ·rename_i hb;refine⟨_,h,ZM ?_⟩;have:¬(((a.size+b.size:Nat):Int)>IntKind.i64.max):=by simp[IntKind.max,IntKind.signed,IntKind.bits];omega
    simp[eqGuard,binOp,Op.stringOp];omega
   ·cases h
  case eql=>exact⟨_,h,Dw (by simp[eqGuard,binOp,Op.stringOp,Jf])⟩
  case neq=>exact⟨_,h,Dw (by simp[eqGuard,binOp,Op.stringOp,Jf])⟩
  case lss=>exact⟨_,h,Dw (by simp[eqGuard,binOp,Op.stringOp,strLt])⟩
  case leq=>exact⟨_,h,Dw (by simp[eqGuard,binOp,Op.stringOp,strLt,Jf])⟩
  case gtr=>exact⟨_,h,Dw (by simp[eqGuard,binOp,Op.stringOp,strLt,Jf])⟩
  case geq=>exact⟨_,h,Dw (by simp[eqGuard,binOp,Op.stringOp,strLt])⟩
 ·rename_i ks a UO b;obtain rfl:=Tq hx;obtain rfl:=Tq hy;split at h
  ·rename_i hb;have hu:=htb hb;have he:(Op.equal t (.bool a) (.bool b)).run P w=.ok (a==b) w:=run_equal_bool w t a b hu;cases op<;>simp only[reduceCtorEq]at h
   case eql=>exact⟨_,h,Dw (by simp[eqGuard,binOp,he])⟩
   case neq=>exact⟨_,h,Dw (by simp[eqGuard,binOp,he])⟩
  ·cases h
 ·cases h
theorem AwI{op:UnOp}{x:AV}{u:Value}{K:AV->ATP R}{r:R}(h:unA op x K=some r)(hx:Cb w g n x u) :
    ∃z,K z=some r/\V7 P w g n (Op.unary op u) z:=by
 unfold unA at h;split at h
 ·obtain rfl:=Tq hx;split at h
  ·exact⟨_,h,Dw (by simp[Op.unary])⟩
  ·grind
 ·obtain rfl:=DR hx;split at h
  ·exact⟨_,h,Cc (by simp[Op.unary,Op.intArith])⟩
  ·exact⟨_,h,Cc (by rfl)⟩
  ·grind
 ·grind
variable {bs:ATO Blk}
theorem BH{t:Nat}{ti:TI}(h:Fp P t ti)(hs:ti.EA=true):P.underlying t=some (.slice ti.elem):=by
 obtain⟨d,hd,hk⟩:=h.gJ;unfold TI.EA at hs;split at hs
 ·rename_i u hu;rw[hd];cases d<;>simp[kindOk,hu,Ty.isAgg]at hk;rw[hk]
 ·grind
theorem SZ{t:Nat}{ti:TI}(h:Fp P t ti)(hs:ti.ty=.str):P.underlying t=some .string:=by
 obtain⟨d,hd,hk⟩:=h.gJ;rw[hd];cases d<;>simp[kindOk,hs,Ty.isAgg]at hk;rfl
theorem zk{t:Nat}{ti:TI}(h:Fp P t ti)(hs:ti.ty=.bool):P.underlying t=some .bool:=by
 obtain⟨d,hd,hk⟩:=h.gJ;rw[hd];cases d<;>simp[kindOk,hs,Ty.isAgg]at hk;rfl
theorem D9{t:Nat}{ti:TI}(h:Fp P t ti):(sizeOf t).run P w=.ok ti.ty.size w:=by
 obtain⟨i,z,hi,hs,_⟩:=h.info;simp[sizeOf,typeInfo,hi,hs]
theorem cx{t:Nat}{ti:TI}(h:Fp P t ti):(isAgg t).run P w=.ok ti.ty.isAgg w:=by
 obtain⟨d,hd,hk⟩:=h.gJ;cases d<;>simp[isAgg,underlying,hd,kindOk]at hk⊢
 case int=>rw[hk];rfl
 case bool=>rw[hk];rfl
 case string=>rw[hk];rfl
 case slice =>
  obtain⟨_,hk⟩:=hk;split at hk
  ·rename_i u hu;rw[hu];rfl
  ·grind
 case array=>grind
 case struct=>grind
 case pointer =>
  split at hk
  ·rename_i u hu;rw[hu];rfl
  ·grind
 case map =>
  split at hk
  ·rename_i u hu;rw[hu];rfl
  ·grind
 case func =>
  split at hk
  ·rename_i u hu;rw[hu];rfl
  ·grind
theorem AmH(H:Bo w g bs){t:Nat}{ti:TI}(ht:Fp P t ti){x:AV}{u:Value}{K:AV->ATP R}{r:R}(h:sc bs ti x K=some r)(hx:Cb w g bs.length x u)(ty:TypeId)(ts:Array TypeId)(aC:ts[0]?=some t) :
    ∃z,K z=some r/\V7 P w g n (Builtin.len_ ts ty #[u]) z:=by
 unfold sc at h;split at h
 ·split at h
  ·rename_i hs;obtain⟨_,ad,cap,ds,rfl,_⟩:=aS hx;exact⟨_,h,Cc (by simp[Builtin.len_,aC,underlying,BH ht hs,goInt])⟩
  ·cases h
 ·split at h
  ·rename_i hs;obtain rfl:=XG hx;exact⟨_,h,Cc (by simp[Builtin.len_,aC,underlying,SZ ht hs,goInt])⟩
  ·cases h
 ·split at h
  ·rename_i hs;obtain⟨ad,rfl⟩:=YQ hx;exact⟨_,h,Cc (by simp[Builtin.len_,aC,underlying,BH ht hs,goInt])⟩
  ·cases h
 ·rename_i k;split at h
  ·rename_i e m t' xs hb;split at h
   ·rename_i hs;obtain⟨hk,rfl⟩:=FE hx;have hl:=(H.MP k _ hb).2.1;exact⟨_,h,Cc (by simp[Builtin.len_,aC,underlying,BH ht hs,goInt,hl])⟩
   ·cases h
  ·rename_i e t' xs i p hb;split at h
   ·rename_i hs;obtain⟨hk,rfl⟩:=FE hx;have hl:=(H.MP k _ hb).1;exact⟨_,h,Cc (by simp[Builtin.len_,aC,underlying,BH ht hs,goInt,hl])⟩
   ·cases h
  ·cases h
 ·cases h
theorem Awo{mx:Bool}{x y:AV}{u v:Value}{K:AV->ATP R}{r:R}(h:mmA mx x y K=some r)(hx:Cb w g n x u)(hy:Cb w g n y v)(ty:TypeId)(ts:Array TypeId) :
    ∃z,K z=some r/\V7 P w g n (if mx then Builtin.max_ ts ty #[u,v]else Builtin.min_ ts ty #[u,v]) z:=by
 unfold mmA at h;split at h
 ·obtain rfl:=DR hx;obtain rfl:=DR hy;split at h
  ·rename_i hk;refine⟨_,h,Cc ?_⟩;cases mx
   ·simp[Builtin.min_,Builtin.min2]
   ·simp[Builtin.max_,Builtin.max2]
  ·grind
 ·grind
theorem XA{i:Int}{n:Nat}(h:0<=i/\i<(n:Int)):i.toNat<n:=by omega
theorem Z9(b o i:Nat):(⟨b,o,none⟩:Addr).add i=⟨b,o+i,none⟩:=by unfold Addr.add;split<;>simp_all
theorem TP{t:Nat}{ti:TI}(h:Fp P t ti){b off:Nat}{cs:ATO Value}(hl:cs.length=ti.ty.size)(hc:∀j u,cs[j]?=some u->w.cell? ⟨b,off+j,none⟩=some u)(hs:ti.ty.isAgg=false->cs.length=1) :
    ∃v,(loadVar t ⟨b,off,none⟩).run P w=.ok v w/\Cp ti.ty.isAgg cs v:=by
 unfold loadVar;cases ha:ti.ty.isAgg with
 |true =>
  have hr:=run_loadCells_list (P:=P) w _ cs (λj u hu=>by rw[Z9];exact hc j u hu);rw[hl]at hr;exact⟨.agg cs.toArray,by simp[cx h,ha,D9 h,hr],by simp[Cp]⟩
 |false =>
  have h1:=hs ha;obtain⟨c,rfl⟩:∃c,cs=[c]:=by
   cases cs with
   |nil=>grind
   |cons c r=>grind
  have GM:=hc 0 c rfl;rw[AR3]at GM;exact⟨c,by simp[cx h,ha,GM],by simp[Cp]⟩
theorem TV{t:Ty}(h:t.isAgg=false):t.size=1:=by cases t<;>simp_all [Ty.isAgg,Ty.size]
theorem AO{t:Ty}(xs:ATO t.V)(i:Nat)(z:t.V)(h:i<xs.length):xs.getD i z=xs[i]:=by grind
theorem AfO(H:Bo w g bs){k:Nat}{i:Int}{a:AV}(h:atB bs k i=some a)(hi:i.toNat<(g.A5 k).len){b:Nat}(hb:(g.A5 k).a=some ⟨b,0,none⟩) :
    ∃cs,CN w g bs.length false a cs/\∀j u,cs[j]?=some u->w.cell? ⟨b,i.toNat*(g.A5 k).oI+j,none⟩=some u:=by
 unfold atB at h;split at h
 ·rename_i a' hx;injection h with h;subst h;obtain⟨h1,b',cs,e,ha,ho,hh,hr⟩:=H.MP k _ hx;rw[hb]at ha;injection ha with ha;injection ha with ha;subst ha;refine⟨cs.toList,hr,λj u hu=>?_⟩;have:i.toNat=0:=by omega
  rw[this,Nat.zero_mul,AQF,QO hh,<-AQn];exact hu
 ·rename_i e m t xs hx;injection h with h;subst h;obtain⟨RZ,hlen,QL,B5,hr⟩:=H.MP k _ hx;have Bw:=A7 hx;rw[hlen]at hi;rcases hr with ⟨ZP,_⟩|⟨b',BG,ds,ha,ho,⟨el,V2,hh⟩,h1,h2,h3,h4,hc⟩
  ·grind
  ·rw[hb]at ha;injection ha with ha;injection ha with ha;subst ha;rw[AO _ _ _ hi,QL];have D2:∀j u,ds[j]?=some u->w.cell? ⟨b,j,none⟩=some u:=by
    intro j u hu;rw[QO hh,<-AQn]
    grind
   cases m with
   |Aw =>
    obtain⟨c0,c,d,e1,hl,hr,_,_⟩:=Bu.A5 (λi x c h=>J9.len h) hc hi;refine⟨c,⟨ZR (λj hj=>by grind),ZV (hr.rd λb q hq=>.mem (List.mem_singleton.2 rfl) hq)⟩,λj u hu=>?_⟩;refine D2 _ u ?_;rw[e1,<-hl,AQh,AQv (by omega),show c0.length+j-c0.length=j by omega,AQw (A7 hu)];exact hu
   |sh ks =>
    obtain⟨c0,c,d,e1,hl,hr,_,_⟩:=CP.A5 (λx c h=>H9.len h) hc hi;refine⟨c,⟨ZR RZ,ZV hr⟩,λj u hu=>?_⟩;refine D2 _ u ?_;rw[e1,<-hl,AQh,AQv (by omega),show c0.length+j-c0.length=j by omega,AQw (A7 hu)];exact hu
 ·grind
theorem W2(H:Bo w g bs){k:Nat}{i:Int}{p:ATO Nat}{o:Nat}{a:AV}(h:atP bs k i p o=some a)(hi:i.toNat<(g.A5 k).len){b:Nat}(hb:(g.A5 k).a=some ⟨b,0,none⟩) :
    ∃cs,CN w g bs.length false a cs/\∀j u,cs[j]?=some u->w.cell? ⟨b,i.toNat*(g.A5 k).oI+o+j,none⟩=some u:=by
 unfold atP at h;split at h
 ·rename_i c hc;split at h
  ·rename_i ho;obtain⟨cs,hx,D2⟩:=AfO H hc hi hb;obtain⟨c0,c1,c2,e,yj,kM,_⟩:=SD p c cs a hx h
   grind
  ·grind
 ·grind
theorem WL{a:AV}{cs:ATO Value}(h:CN w g n false a cs):a.Dv=false:=by cases a<;>first |rfl |exact h.elim
theorem Ait(H:Bo w g bs){t:Nat}{ti:TI}(ht:Fp P t ti){x:AV}{u:Value}{K:AV->ATP R}{r:R}(h:aG bs ti x K=some r)(hx:Cb w g bs.length x u) :
    ∃z,K z=some r/\V7 P w g bs.length (Instr.loadAt t u) z:=by
 unfold aG at h;split at h
 ·split at h
  ·rename_i he;subst he;obtain⟨hk,b,off,ds,rfl,ha,hr,hc⟩:=ZA hx;obtain⟨v,hv,hs⟩:=TP  ht hr.len hc (λhg=>by rw[hr.len];exact TV hg);exact⟨_,h,v,by simp[Instr.loadAt,Instr.sureAddr,hv],BD rfl  ⟨ZR hk,ZV hr⟩ hs⟩
  ·grind
 ·split at h
  ·rename_i a ha;split at h
   ·rename_i hs;obtain⟨hk,h0,h1,b,hb,rfl⟩:=LX hx;obtain⟨cs,np,D2⟩:=W2 H ha h1 hb;obtain⟨v,hv,tM⟩:=TP  ht (by rw[np.len,hs.1]) D2 (λhg=>by rw[np.len,hs.1];exact TV hg);rw[<-hs.2]at tM;exact⟨_,h,v,by simp[Instr.loadAt,Instr.sureAddr,hv],BD (WL np) np tM⟩
   ·grind
  ·grind
 ·grind
theorem Amw(H:Bo w g bs){t:Nat}{ti te:TI}(ht:Fp P t ti)(Et:Fp P ti.elem te)(hs:ti.EA=true){x y:AV}{u v:Value}{K:AV->ATP R}{r:R}(h:zT bs te.ty x y K=some r)(hx:Cb w g bs.length x u)(hy:Cb w g bs.length y v) :
    ∃z,K z=some r/\V7 P w g bs.length (Instr.indexAt t u v) z:=by
 have hu:=BH ht hs;unfold zT at h;split at h
 ·rename_i ks t' xs UO k i;split at h
  ·rename_i he;subst he;split at h
   ·rename_i hi;obtain rfl:=DR hy;obtain⟨hk,ad,cap,ds,rfl,hl,hr,hm⟩:=aS hx;have Bw:i.toNat<xs.length:=XA hi;rcases hm with hm |⟨b,off,rfl,ha,hc⟩
    ·subst hm;simp at Bw
    ·obtain⟨c0,c,d,e1,iK,gd,_,_⟩:=CP.A5 (λx c h=>H9.len h) hr Bw;refine⟨_,h,.pointer (some ⟨b,off+i.toNat*te.ty.size,none⟩),?_,?_⟩
     ·simp[Instr.indexAt,asIntOf,underlying,hu,hi.1,hi.2,D9 Et,Z9]
     ·rw[AO _ _ _ Bw];refine fw hk ha gd λj q hq=>?_;rw[<-iK,ARe];refine hc _ q ?_;rw[e1,AQh,AQv (by omega),show c0.length+j-c0.length=j by omega,AQw (A7 hq)];exact hq
   ·cases h
  ·cases h
 ·rename_i k UO kk i;split at h
  ·rename_i e m t' xs hb;split at h
   ·rename_i he;subst he;split at h
    ·rename_i hi;obtain rfl:=DR hy;obtain⟨hk,rfl⟩:=FE hx;obtain⟨RZ,hlen,QL,B5,hr⟩:=H.MP k _ hb;have Bw:i.toNat<xs.length:=XA hi;rcases hr with ⟨ZP,_⟩|⟨b,BG,ds,ha,ho,⟨el,V2,hh⟩,h1,h2,h3,h4,hc⟩
     ·subst ZP;simp at Bw
     ·refine⟨_,h,.pointer (some ⟨b,i.toNat*(g.A5 k).oI+0,none⟩),?_,fv hk hi.1 (by rw[hlen];exact Bw) ha⟩;simp[Instr.indexAt,asIntOf,underlying,hu,hi.1,hi.2,D9 Et,ha,hlen,QL,Z9]
    ·cases h
   ·cases h
  ·rename_i e t' xs i' p' hb;split at h
   ·rename_i he;subst he;split at h
    ·rename_i hi;obtain rfl:=DR hy;obtain⟨hk,rfl⟩:=FE hx;obtain⟨hlen,QL,B5,_,_,_,_,_,b,_,_,_,_,_,ha,_⟩:=H.MP k _ hb;have Bw:i.toNat<xs.length:=XA hi;refine⟨_,h,.pointer (some ⟨b,i.toNat*(g.A5 k).oI+0,none⟩),?_,fv hk hi.1 (by rw[hlen];exact Bw) ha⟩;simp[Instr.indexAt,asIntOf,underlying,hu,hi.1,hi.2,D9 Et,ha,hlen,QL,Z9]
    ·cases h
   ·cases h
  ·cases h
 ·cases h
theorem AlZ{t:Nat}{ti:TI}(ht:Fp P t ti)(hs:ti.ty=.str){x y:AV}{u v:Value}{K:AV->ATP R}{r:R}(h:qS x y K=some r)(hx:Cb w g n x u)(hy:Cb w g n y v) :
    ∃z,K z=some r/\V7 P w g n (Instr.index t u v) z:=by
 unfold qS at h;split at h
 ·rename_i ks s UO k i;split at h
  ·rename_i hi;obtain rfl:=DR hy;obtain rfl:=XG hx;refine⟨_,h,Cc ?_⟩;have Bw :=XA hi;simp[Instr.index,asIntOf,underlying,SZ ht hs,hi.1,Dc,Bw]
  ·grind
 ·grind
end
section
variable {P:Program} {w:World} {g:G} {n:Nat} {R:Type} {bs:ATO Blk}
theorem rA{ty:Ty}:∀{fs:ATO Field} {os:ATO Nat} {i j o:Nat},P7 P ty i fs os=true->os[j]?=some o ->
    ∃fd u inf,fs[j]?=some fd/\fd.offset=o/\VB ty (i+j)=some o/\mP ty (i+j)=some u/\P.info? fd.type=some inf/\inf.size=u.size/\u.size≠0
 |[],[],_,_,_,_,h=>by grind
 |f::fs,o'::os,i,0,o,h,ho=>by
  simp only[List.getElem?_cons_zero,AQb]at ho;subst ho;simp only[P7,AQg,ARd]at h;obtain⟨⟨⟨h1,h2⟩,h3⟩,_⟩:=h;split at h3
  ·rename_i u hu;cases hi:P.info? f.type with
   |none=>grind
   |some inf=>grind
  ·grind
 |f::fs,o'::os,i,j+1,o,h,ho=>by
  simp only[P7,AQg]at h;obtain⟨fd,u,inf,h1,h2,h3,h4,h5⟩:=rA (i:=i+1) h.2 (by simpa using ho)
  grind
 |[],_::_,_,_,_,h,_=>by simp[P7]at h
 |_::_,[],_,_,_,h,_=>by grind
theorem X5{t:Nat}{ti:TI}(h:Fp P t ti){f o:Nat}(ho:ti.Xr[f]?=some o) :
    ∃fs,P.underlying t=some (.struct fs)/\P7 P ti.ty 0 fs.toList ti.Xr=true:=by
 rcases h.Xr with ⟨fs,hfs⟩|he
 ·obtain⟨d,hd,hk⟩:=h.gJ;rw[hfs]at hd;injection hd with hd;subst hd;simp only[kindOk,AQg]at hk;exact⟨fs,hfs,hk.2⟩
 ·grind
theorem Wc{t:Nat}{ti:TI}(h:Fp P t ti){f fo:Nat}(ho:ti.Xr[f]?=some fo)(b o:Nat) :
    (Instr.fieldAt t (.pointer (some ⟨b,o,none⟩)) f).run P w=.ok (.pointer (some ⟨b,o+fo,none⟩)) w/\VB ti.ty f=some fo/\∃u,mP ti.ty f=some u:=by
 obtain⟨fs,hu,hf⟩:=X5 h ho;obtain⟨fd,u,inf,h1,h2,h3,h4,h5,h6,h7⟩:=rA hf ho;rw[AQF]at h3 h4;refine⟨?_,h3,u,h4⟩;have hfd:fs[f]?=some fd:=by grind
 have Nt:(sizeOf fd.type).run P w=.ok u.size w:=by simp[sizeOf,typeInfo,h5,h6]
 simp[Instr.fieldAt,underlying,hu,hfd,Instr.sureAddr,fieldPlace,Nt,h7,Z9,h2]
theorem Ama{t:Nat}{ti:TI}(ht:Fp P t ti){f:Nat}{x:AV}{u:Value}{K:AV->ATP R}{r:R}(h:nc ti f x K=some r)(hx:Cb w g n x u) :
    ∃z,K z=some r/\V7 P w g n (Instr.fieldAt t u f) z:=by
 unfold nc at h;split at h
 ·split at h
  ·rename_i fo hfo;obtain⟨hk,h0,h1,b,hb,rfl⟩:=LX hx;refine⟨_,h,_,(Wc ht hfo b _).1,?_⟩;rw[ARe];exact fv hk h0 h1 hb
  ·grind
 ·rename_i ks t' y;split at h
  ·rename_i he;obtain⟨rfl,he⟩:=he;split at h
   ·rename_i UO v z hz;obtain⟨hk,b,off,ds,rfl,ha,hr,hc⟩:=ZA hx;obtain⟨c0,c1,c2,e,ho,_,⟨u',y',heq,gd⟩,_⟩:=ZK (g:=g) hk f _ y ds _ hr hz;injection heq with _ h2 h3;subst h2;obtain rfl:=eq_of_heq h3;rw[ho]at he;refine⟨_,h,_,(Wc ht he.symm b off).1,fw hk ha gd λj q hq=>?_⟩;rw[ARe];refine hc _ q ?_
    grind
   ·grind
  ·grind
 ·grind
theorem Abt:∀{x:AV} {i:Nat} {z:AV} {vs:ATO Value},Qp x i=some z->CN w g n true x vs->∃v,vs[i]?=some v/\(z.Dv=false->Cb w g n z v)
 |.cons a b,0,z,vs,h,hx=>by
  simp only[Qp,AQb]at h;subst h;obtain⟨v,r,e,h1,_⟩:=hx;subst e;exact⟨v,rfl,λht=>(Cb.iff ht).2 h1⟩
 |.cons a b,i+1,z,vs,h,hx=>by
  simp only[Qp]at h;obtain⟨v,r,e,_,h2⟩:=hx;subst e;obtain⟨u,hu,hz⟩:=Abt h h2
  grind
 |.nil,_,_,_,h,_=>by simp[Qp]at h
 |.AB _ _ _,_,_,_,h,_=>by simp[Qp]at h
 |.zs,_,_,_,h,_=>by simp[Qp]at h
 |.AK _,_,_,_,h,_=>by simp[Qp]at h
 |.mp _,_,_,_,h,_=>by simp[Qp]at h
 |.ptr _ _ _ _,_,_,_,h,_=>by simp[Qp]at h
 |.FQ _ _ _,_,_,_,h,_=>by simp[Qp]at h
 |.KG,_,_,_,h,_=>by simp[Qp]at h
 |.pr _ _,_,_,_,h,_=>by simp[Qp]at h
 |.fn _ _,_,_,_,h,_=>by simp[Qp]at h
 |.UT _ _ _ _ _,_,_,_,h,_=>by simp[Qp]at h
 |.WM _ _ _ _ _ _,_,_,_,h,_=>by simp[Qp]at h
 |.un _,_,_,_,h,_=>by simp[Qp]at h
def Aff(w:World)(g:G)(n:Nat):ATP AV->ATP Value->Prop
 |none,none=>True
 |some a,some v=>Cb w g n a v
 |_,_=>False
theorem YS{x:ATP AV}{v:ATP Value}{d i:Int}(h:bnd x d=some i)(hx:Aff w g n x v):(v=none/\i=d)\/∃k,v=some (.int k i):=by
 unfold bnd at h;split at h
 ·cases v with
  |none=>grind
  |some _=>exact hx.elim
 ·cases v with
  |none=>exact hx.elim
  |some u=>simp at h;subst h;exact .inr ⟨_,congrArg some (DR hx)⟩
 ·grind
theorem Sl{isS:Bool}{len cap:Nat}{lo hi:ATP Value}{l h:Int}(hl:(lo=none/\l=0)\/∃k,lo=some (.int k l))(hh:(hi=none/\h=(len:Int))\/∃k,hi=some (.int k h))
    (h0:0<=l) (h1:l<=h) (h2:h<=(len:Int)) (hc:len<=cap):(Instr.sliceBounds isS len cap lo hi none).run P w=.ok (l.toNat,h.toNat,cap) w:=by
 have e1:(h.toNat)=h:=by omega
 have e2:h<=cap:=by omega
 have e3:0<=h:=by omega
 rcases hl with ⟨rfl,rfl⟩|⟨k,rfl⟩<;>rcases hh with ⟨rfl,rfl⟩|⟨k',rfl⟩
 ·simp[Instr.sliceBounds]
 ·simp[Instr.sliceBounds,Instr.sliceBound,asIntOf,e2,e3]
 ·simp[Instr.sliceBounds,Instr.sliceBound,asIntOf,h0,h1]
 ·simp[Instr.sliceBounds,Instr.sliceBound,asIntOf,e2,e3,h0,h1,e1]
theorem Lx{t:Nat}{ti:TI}(h:Fp P t ti)(hs:ti.EA=true)(a:ATP Addr)(len cap:Nat)(lo hi mx:ATP Value)(w:World) :
    (Instr.sliceAt t (.slice a len cap) lo hi mx).run P w=(Instr.slice t (.slice a len cap) lo hi mx).run P w:=by
 simp[Instr.sliceAt,underlying,BH h hs]
theorem xf{t:Nat}{ti:TI}(h:Fp P t ti)(hs:ti.ty=.str)(s:ByteArray)(lo hi mx:ATP Value)(w:World) :
    (Instr.sliceAt t (.string s) lo hi mx).run P w=(Instr.slice t (.string s) lo hi mx).run P w:=by
 simp[Instr.sliceAt,underlying,SZ h hs]
theorem Ab2{A:Nat->Prop}{t:Ty}{xs:ATO t.V}{ad:ATP Addr}{cap:Nat}{ds:ATO Value}{l h:Nat}(h1:l<=h)(h2:h<=xs.length)(hc:xs.length<=cap)
    (hr:CP (H9 w A t) xs ds) (hm:xs=[]\/∃b off,ad=some ⟨b,off,none⟩/\A b/\∀j u,ds[j]?=some u->w.cell? ⟨b,off+j,none⟩=some u) :
    H9 w A (.sl t) ((xs.take h).drop l) [.slice (if cap=l then ad else ad.map (·.add (l*t.size))) (h-l) (cap-l)]:=by
 have hlen:((xs.take h).drop l).length=h-l:=by grind
 refine⟨_,cap-l,((ds.take (h*t.size)).drop (l*t.size)),by rw[hlen],by omega,?_,?_⟩
 ·exact CP.Ahd (λx c r=>H9.len r) l (CP.takeN (λx c r=>H9.len r) h hr)
 ·rcases Nat.eq_or_lt_of_le h1 with e |Bw
  ·grind
  ·rcases hm with hx |⟨b,off,rfl,ha,D2⟩
   ·grind
   ·refine .inr ⟨b,off+l*t.size,?_,ha,λj u hu=>?_⟩
    ·rw[AQs (by omega)];simp[Z9]
    grind
theorem Ad7(H:Bo w g bs){t:Nat}{ti:TI}(ht:Fp P t ti){te:ATP Ty}(Et:∀u,te=some u->ti.EA=true/\∃mL,mL.ty=u/\Fp P ti.elem mL){x:AV}{lo hi mx:ATP AV}{u:Value}{vlo vhi vmx:ATP Value}
    {K:AV->ATP R} {r:R} (h:X3 bs ti te x lo hi mx K=some r) (hx:Cb w g bs.length x u) (hlo:Aff w g bs.length lo vlo) (hhi:Aff w g bs.length hi vhi) (vM:Aff w g bs.length mx vmx) :
    ∃z,K z=some r/\V7 P w g bs.length (Instr.sliceAt t u vlo vhi vmx) z:=by
 unfold X3 at h;split at h
 ·rename_i ks k m;split at h
  ·rename_i UO k' hh;split at h
   ·rename_i hz;obtain⟨rfl,rfl,hs⟩:=hz;obtain⟨u',hu'⟩:=Option.isSome_iff_exists.1 hs;obtain⟨hs,mL,rfl,vV⟩:=Et _ hu';obtain rfl:vlo=none:=by cases vlo with |none=>rfl |some _=>exact hlo.elim
    obtain⟨vh,rfl,e1⟩:∃v,vhi=some v/\v=.int k' 0:=by cases vhi with |none=>exact hhi.elim |some v=>exact⟨v,rfl,DR hhi⟩
    obtain⟨vm,rfl,e2⟩:∃v,vmx=some v/\v=.int k 0:=by cases vmx with |none=>exact vM.elim |some v=>exact⟨v,rfl,DR vM⟩
    subst e1;subst e2;have key:∀(a:ATP Addr) (len cap:Nat),(Instr.sliceAt t (.slice a len cap) none (some (.int k' 0)) (some (.int k 0))).run P w=.ok (.slice a 0 0) w:=λa len cap=>by
     rw[Lx ht hs];simp[Instr.slice,underlying,BH ht hs,Instr.sliceBounds,Instr.sliceBound,asIntOf,D9 vV]
    split at h
    ·obtain⟨_,ad,cap,ds,rfl,_⟩:=aS hx;exact⟨_,h,_,key _ _ _,pD _⟩
    ·obtain⟨ad,rfl⟩:=YQ hx;exact⟨_,h,_,key _ _ _,pD _⟩
    ·split at h
     ·obtain⟨_,rfl⟩:=FE hx;exact⟨_,h,_,key _ _ _,pD _⟩
     ·cases h
    ·cases h
   ·cases h
  ·cases h
 ·cases h
 ·split at h
  ·rename_i ks s;split at h
   ·rename_i l hh hl hhh;split at h
    ·rename_i hc;obtain⟨hs,h0,h1,h2⟩:=hc;obtain rfl:=XG hx;obtain rfl:vmx=none:=by cases vmx with |none=>rfl |some _=>exact vM.elim
     refine⟨_,h,ZM ?_⟩;rw[xf ht hs];have hb:=Sl (P:=P) (w:=w) (isS:=false) (cap:=s.size) (YS hl hlo) (YS hhh hhi) h0 h1 h2 (AQf _);simp[Instr.slice,underlying,SZ ht hs,hb]
    ·cases h
   ·cases h
  ·rename_i ks t' xs;split at h
   ·rename_i l hh hl hhh;split at h
    ·rename_i he;obtain⟨hs,mL,rfl,vV⟩:=Et _ he;split at h
     ·rename_i hc;obtain⟨h0,h1,h2⟩:=hc;obtain⟨hk,ad,cap,ds,rfl,fb,hr,hm⟩:=aS hx;obtain rfl:vmx=none:=by cases vmx with |none=>rfl |some _=>exact vM.elim
      refine⟨_,h,?_⟩;have hb:=Sl (P:=P) (w:=w) (isS:=true) (cap:=cap) (YS hl hlo) (YS hhh hhi) h0 h1 h2 fb;refine⟨.slice (if cap=l.toNat then ad else ad.map (·.add (l.toNat*mL.ty.size))) (hh.toNat-l.toNat) (cap-l.toNat),?_,?_⟩
      ·rw[Lx ht hs];simp[Instr.slice,underlying,BH ht hs,hb,D9 vV]
      ·exact BD rfl (cs:=[_]) ⟨hk,Ab2 (by omega) (by omega) fb hr hm⟩ (by simp[Cp,AV.isAgg,Ty.isAgg])
     ·cases h
    ·cases h
   ·cases h
  ·rename_i k;split at h
   ·rename_i e m t' xs hb;split at h
    ·rename_i l hh hl hhh;split at h
     ·rename_i he;obtain⟨hs,mL,rfl,vV⟩:=Et _ he;split at h
      ·rename_i hc;obtain⟨h0,h1,h2⟩:=hc;obtain⟨cs,np,hv⟩:=B9 rfl rfl hx;have nq:=Ri H (.sl mL.ty) (.AK k) xs cs (by simp[rd,hb,JA]) np;obtain⟨⟨ad,cap,ds,e1,fb,hr,hm⟩,AbM⟩:=nq;subst e1;have AvW:(AV.AK k).Vx bs=k::m.Cx:=by simp[AV.Vx,dK,hb]
       rw[AvW]at AbM hr hm;obtain rfl:u=.slice ad xs.length cap:=by simpa [Cp,AV.isAgg]using hv.symm
       obtain rfl:vmx=none:=by cases vmx with |none=>rfl |some _=>exact vM.elim
       refine⟨_,h,?_⟩;have hb:=Sl (P:=P) (w:=w) (isS:=true) (cap:=cap) (YS hl hlo) (YS hhh hhi) h0 h1 h2 fb;refine⟨.slice (if cap=l.toNat then ad else ad.map (·.add (l.toNat*mL.ty.size))) (hh.toNat-l.toNat) (cap-l.toNat),?_,?_⟩
       ·rw[Lx ht hs];simp[Instr.slice,underlying,BH ht hs,hb,D9 vV]
       ·exact BD rfl (cs:=[_]) ⟨AbM,Ab2 (by omega) (by omega) fb hr hm⟩ (by simp[Cp,AV.isAgg,Ty.isAgg])
      ·cases h
     ·cases h
    ·cases h
   ·cases h
  ·split at h
   ·rename_i l hh hl hhh;split at h
    ·rename_i hc;obtain⟨hs,rfl,rfl⟩:=hc;obtain⟨u',hu'⟩:=Option.isSome_iff_exists.1 hs;obtain⟨hs,mL,rfl,vV⟩:=Et _ hu';obtain⟨ad,rfl⟩:=YQ hx;obtain rfl:vmx=none:=by cases vmx with |none=>rfl |some _=>exact vM.elim
     have hb:=Sl (P:=P) (w:=w) (isS:=true) (len:=0) (cap:=0) (YS hl hlo) (YS hhh hhi) (ARC _) (ARC _) (ARC _) (AQf _);refine⟨_,h,.slice ad 0 0,?_,pD _⟩;rw[Lx ht hs];simp[Instr.slice,underlying,BH ht hs,hb,D9 vV]
    ·cases h
   ·cases h
  ·cases h
theorem U9{t:Nat}{ti:TI}{k:IntKind}(h:Fp P t ti)(hs:ti.ty=.int k):P.underlying t=some (.int k):=by
 obtain⟨d,hd,hk⟩:=h.gJ;rw[hd];cases d<;>simp[kindOk,hs,Ty.isAgg]at hk;rw[hk]
theorem fR{A:Nat->Prop}:∀{xs:ATO Int} {ds:ATO Value},CP (H9 w A (.int .u8)) xs ds->ds=xs.map (Value.int .u8)
 |[],_,h=>h
 |x::xs,_,⟨c,d,e,h1,h2⟩=>by
  have h1' :=h1;rw[e,h1',fR h2];rfl
theorem Ag9(H:Bo w g bs){s t:Nat}{ts ti:TI}(hs:Fp P s ts)(ht:Fp P t ti){te:ATP Ty}(Et:∀u,te=some u->ts.EA=true/\∃mL,mL.ty=u/\Fp P ts.elem mL){x:AV}{u:Value}
    {K:AV->ATP R} {r:R} (h:cM bs te ti.ty x K=some r) (hx:Cb w g bs.length x u) :
    ∃z,K z=some r/\V7 P w g bs.length (convert s t u) z:=by
 obtain⟨ds,hds,_⟩:=hs.gJ;unfold cM at h;split at h
 ·rename_i k hk;split at h
  ·obtain rfl:=DR hx;refine⟨_,h,Cc ?_⟩;simp[convert,underlying,hds,U9 ht hk,Conv.intToInt]
  ·cases h
 ·rename_i hk;have hut:=SZ ht hk;split at h
  ·obtain rfl:=XG hx;refine⟨_,h,ZM ?_⟩;simp[convert,underlying,hds,hut]
  ·split at h
   ·rename_i he;obtain⟨Jc,mL,iM,vV⟩:=Et _ he;split at h
    ·rename_i xs hxs;have hu:=U9 vV iM;have hsu:=BH hs Jc;have hnt:x.Dv=false:=by cases x<;>first |rfl |simp[rd]at hxs
     have Sp:x.OL=false:=by cases x<;>first |rfl |simp[rd]at hxs
     have hag:x.isAgg=false:=by
      cases x with
      |AB ks t' y =>
       simp only[rd]at hxs;obtain⟨e,_⟩:=BR hxs;subst e;rfl
      |pr a b=>simp[rd]at hxs
      |_=>rfl
     obtain⟨cs,np,hv⟩:=B9 hnt Sp hx;obtain⟨⟨ad,cap,dd,e1,fb,hr,hm⟩,_⟩:=Ri H _ _ _ _ hxs np;subst e1;obtain rfl:u=.slice ad xs.length cap:=by
      rw[hag]at hv;have rQ:[_]=[u]:=hv;simpa using rQ.symm
     refine⟨_,h,ZM ?_⟩;have hdd:=fR hr;have Es:∀b off,ad=some ⟨b,off,none⟩->(∀i,i<xs.length->w.cell? ⟨b,off+i,none⟩=some (.int .u8 (xs.getD i 0)))->(convert s t (.slice ad xs.length cap)).run P w=.ok (.string (bytesOf xs)) w:=by
      intro b off e hc;subst e;exact run_convert_bytes_arg w s ts.elem hsu hu b off xs.length cap xs rfl hc t hut
     rcases hm with ZP |⟨b,off,rfl,_,hc⟩
     ·subst ZP;cases ad with
      |none=>exact run_convert_bytes_nil w s ts.elem hsu hu 0 cap t hut
      |some a0=>simp[convert,underlying,hsu,hut,hu,Conv.bytesToString,loadCells,loadCellsFrom,bytesOf,ByteArray.empty,ByteArray.emptyWithCapacity];rfl
     ·refine Es b off rfl λi hi=>hc i _ ?_;rw[hdd];simp[List.getD,hi]
    ·cases h
   ·cases h
 ·cases h
end
section
variable {R:Type}
theorem uw(op:BinOp)(tb:Bool)(x y:AV)(K:AV->ATP R):qG op tb x y K=(qG op tb x y some).bind K:=by
 unfold qG
 repeat' split
 all_goals rfl
theorem Acj(op:UnOp)(x:AV)(K:AV->ATP R):unA op x K=(unA op x some).bind K:=by
 unfold unA
 repeat' split
 all_goals rfl
theorem wz(bs:ATO Blk)(ti:TI)(x:AV)(K:AV->ATP R):sc bs ti x K=(sc bs ti x some).bind K:=by
 unfold sc
 repeat' split
 all_goals rfl
theorem iU(mx:Bool)(x y:AV)(K:AV->ATP R):mmA mx x y K=(mmA mx x y some).bind K:=by
 unfold mmA
 repeat' split
 all_goals rfl
theorem Aih(bs:ATO Blk)(te:Ty)(x y:AV)(K:AV->ATP R):zT bs te x y K=(zT bs te x y some).bind K:=by
 unfold zT
 repeat' split
 all_goals rfl
theorem vZ(bs:ATO Blk)(te:Ty)(x y:AV)(K:AV->ATP R):vY bs te x y K=(vY bs te x y some).bind K:=by
 unfold vY;split
 ·repeat' split
  all_goals rfl
 ·exact Aih ..
theorem uP(x y:AV)(K:AV->ATP R):qS x y K=(qS x y some).bind K:=by
 unfold qS
 repeat' split
 all_goals rfl
theorem vn(ti:TI)(f:Nat)(x:AV)(K:AV->ATP R):nc ti f x K=(nc ti f x some).bind K:=by
 unfold nc
 repeat' split
 all_goals rfl
theorem pj(bs:ATO Blk)(ti:TI)(x:AV)(K:AV->ATP R):aG bs ti x K=(aG bs ti x some).bind K:=by
 unfold aG
 repeat' split
 all_goals rfl
theorem lO(bs:ATO Blk)(ti:TI)(te:ATP Ty)(x:AV)(lo hi mx:ATP AV)(K:AV->ATP R):X3 bs ti te x lo hi mx K=(X3 bs ti te x lo hi mx some).bind K:=by
 unfold X3
 repeat' split
 all_goals rfl
theorem ow(bs:ATO Blk)(te:ATP Ty)(td:Ty)(a:AV)(K:AV->ATP R):cM bs te td a K=(cM bs te td a some).bind K:=by
 unfold cM
 repeat' split
 all_goals rfl
theorem Aaz(bs:ATO Blk)(ti:TI)(x v:AV)(K:H8->ATP R):fI bs ti x v K=(fI bs ti x v some).bind K:=by
 unfold fI
 repeat' split
 all_goals rfl
theorem Aax(bs:ATO Blk)(ti:TI)(x:AV)(K:H8->ATP R):bT bs ti x K=(bT bs ti x some).bind K:=by
 unfold bT
 repeat' split
 all_goals rfl
theorem pn(bs:ATO Blk)(tk te:TI)(ok:Bool)(m x:AV)(K:AV->ATP R):gp bs tk te ok m x K=(gp bs tk te ok m x some).bind K:=by
 unfold gp
 repeat' split
 all_goals first |rfl |(cases ok<;>rfl)
theorem AdK(bs:ATO Blk)(tk te:TI)(m x:AV)(K:H8->ATP R):po bs tk te m x K=(po bs tk te m x some).bind K:=by
 unfold po
 repeat' split
 all_goals rfl
theorem AkY{c:Bool}{e:H8}{K:H8->ATP R}:(bif c then K e else none)=(bif c then some e else none).bind K:=by cases c<;>rfl
theorem mg(bs:ATO Blk)(tk te:TI)(m x v:AV)(K:H8->ATP R):dT bs tk te m x v K=(dT bs tk te m x v some).bind K:=by
 unfold dT
 repeat' split
 all_goals first |rfl |exact AkY
theorem Ahg(bs:ATO Blk)(tk te:TI)(m x:AV)(K:H8->ATP R):Adc bs tk te m x K=(Adc bs tk te m x some).bind K:=by
 unfold Adc
 repeat' split
 all_goals rfl
theorem AIR{c:Bool}{A:ATP R}{B:ATP H8}{K:H8->ATP R}(h:A=B.bind K):(bif c then A else none)=(bif c then B else none).bind K:=by
 cases c
 ·rfl
 ·exact h
theorem Ahh(bs:ATO Blk)(tk te:TI)(m j v:AV)(K:H8->ATP R):Ade bs tk te m j v K=(Ade bs tk te m j v some).bind K:=by
 unfold Ade
 repeat' split
 all_goals first
  |rfl
  |exact AIR (mg ..)
theorem uj(fi:FI)(bs:ATO Blk)(e:Nat)(ti:TI)(x y:AV)(K:H8->ATP R):Zx fi bs e ti x y K=(Zx fi bs e ti x y some).bind K:=by
 unfold Zx
 repeat' split
 all_goals rfl
theorem uk(fi:FI)(bs:ATO Blk)(e:Nat)(ti:TI)(x y:AV)(K:H8->ATP R):Zy fi bs e ti x y K=(Zy fi bs e ti x y some).bind K:=by
 unfold Zy
 repeat' split
 all_goals rfl
theorem AdL(fi:FI)(bs:ATO Blk)(e:Nat)(ti:TI)(x y:AV)(K:H8->ATP R):pw fi bs e ti x y K=(pw fi bs e ti x y some).bind K:=by
 unfold pw
 repeat' split
 all_goals rfl
theorem Aha(te:Ty)(bs:ATO Blk)(x:AV)(hi:ATP AV)(K:H8->ATP R):Ac8 te bs x hi K=(Ac8 te bs x hi some).bind K:=by
 unfold Ac8
 repeat' split
 all_goals rfl
def jf(c:Callee):Prop:=∀(R:Type) args E (K:AV->ATO Blk->ATP R),c.run R args E K=(c.run (AV×ATO Blk) args E λv b=>some (v,b)).bind λp=>K p.1 p.2
theorem ZC(c:Callee)(hc:jf c)(bs:ATO Blk)(args:ATO AV)(K:H8->ATP R):YV c bs args K=(YV c bs args some).bind K:=by
 unfold YV;split
 ·rfl
 ·dsimp only
  split
  ·rw[hc R,hc H8];cases c.run (AV×ATO Blk) _ _ λv b=>some (v,b)with
   |none=>rfl
   |some p=>simp only[AP9];split<;>rfl
  ·rfl
theorem AcZ(c:Callee)(hc:jf c)(bs:ATO Blk)(args:ATO AV)(K:H8->ATP R):jL c bs args K=(jL c bs args some).bind K:=by
 have via:∀(bs:ATO Blk) (args:ATO AV) (F:H8->ATP R) (F':H8->ATP H8),(∀e,F e=(F' e).bind K)->YV c bs args F=(YV c bs args F').bind K:=λbs args F F' h=>by
  rw[ZC c hc bs args F,ZC c hc bs args F'];cases YV c bs args some with
  |none=>rfl
  |some e=>exact h e
 unfold jL;split
 ·exact ZC c hc bs args K
 ·split
  ·split
   ·split
    ·split
     ·refine via _ _ _ _ λe=>?_;split
      ·rfl
      ·split
       ·split
        ·split<;>rfl
        ·rfl
       ·rfl
     ·rfl
    ·rfl
   ·rfl
  ·rfl
theorem iy(f:(R:Type)->(AV->ATP R)->ATP R)(hf:∀(R:Type) (K:AV->ATP R),f R K=(f AV some).bind K)(g:AV->H8)(K:H8->ATP R) :
    f R (λv=>K (g v))=(f H8 λv=>some (g v)).bind K:=by
 rw[hf R,hf H8];cases f AV some<;>rfl
def Z7(en:GX):Prop:=∀g c,en.fns g=some c->jf c
theorem rm(en:GX)(he:Z7 en)(σ:St)(c:Call)(K:H8->ATP R):Xc en σ c K=(Xc en σ c some).bind K:=by
 unfold Xc;split
 ·split
  ·split
   ·exact iy (λR K=>sc _ _ _ K) (λR K=>wz ..) (λv=>⟨v,_,_⟩) K
   ·rfl
  ·rfl
 ·split
  ·exact iy (λR K=>mmA _ _ _ K) (λR K=>iU ..) (λv=>⟨v,_,_⟩) K
  ·rfl
 ·split
  ·exact iy (λR K=>mmA _ _ _ K) (λR K=>iU ..) (λv=>⟨v,_,_⟩) K
  ·rfl
 ·split
  ·split
   ·split
    ·split
     ·exact uj ..
     ·split
      ·exact uk ..
      ·rfl
    ·rfl
   ·rfl
  ·rfl
 ·rfl
 ·split
  ·split
   ·rename_i hg;exact AcZ _ (he _ _ hg) ..
   ·rfl
  ·rfl
 ·rfl
theorem Nx(en:GX)(he:Z7 en)(σ:St)(o:Oper)(K:H8->ATP R):R7 en σ o K=(R7 en σ o some).bind K:=by
 unfold R7
 dsimp only
 split
 ·rfl
 ·rfl
 ·split
  ·rename_i t _;cases t<;>rfl
  ·rfl
 ·split<;>rfl
 ·split<;>rfl
 ·split
  ·split
   ·rfl
   ·split<;>rfl
  ·rfl
 ·split
  ·split
   ·split
    ·split
     ·split<;>rfl
     ·rfl
    ·rfl
   ·rfl
  ·rfl
 ·split
  ·split
   ·split
    ·exact Aax ..
    ·rfl
   ·exact iy (λR K=>aG _ _ _ K) (λR K=>pj ..) (λv=>⟨v,_,_⟩) K
  ·rfl
 ·split
  ·split
   ·rfl
   ·split
    ·split<;>rfl
    ·rfl
  ·rfl
 ·split
  ·split
   ·split
    ·split
     ·split
      ·rfl
      ·exact AdK ..
     ·exact iy (λR K=>gp _ _ _ _ _ _ K) (λR K=>pn ..) (λv=>⟨v,_,_⟩) K
    ·rfl
   ·rfl
  ·rfl
 ·split
  ·split
   ·split
    ·exact mg ..
    ·rfl
   ·rfl
  ·rfl
 ·split
  ·split
   ·split
    ·exact mg ..
    ·rfl
   ·rfl
  ·rfl
 ·split
  ·split
   ·split
    ·exact Ahg ..
    ·rfl
   ·rfl
  ·rfl
 ·split
  ·split
   ·split
    ·exact Ahh ..
    ·rfl
   ·rfl
  ·rfl
 ·split
  ·exact Aaz ..
  ·rfl
 ·split<;>rfl
 ·split
  ·rfl
  ·exact iy (λR K=>qG _ _ _ _ K) (λR K=>uw ..) (λv=>⟨v,_,_⟩) K
 ·exact iy (λR K=>unA _ _ K) (λR K=>Acj ..) (λv=>⟨v,_,_⟩) K
 ·split
  ·exact iy (λR K=>cM _ _ _ _ K) (λR K=>ow ..) (λv=>⟨v,_,_⟩) K
  ·rfl
 ·split
  ·split<;>rfl
  ·rfl
 ·split
  ·split
   ·split
    ·exact AdL ..
    ·rfl
   ·rfl
  ·rfl
 ·split
  ·split
   ·split
    ·split
     ·split
      ·exact Aha ..
      ·rfl
     ·rfl
    ·rfl
   ·exact iy (λR K=>X3 _ _ _ _ _ _ _ K) (λR K=>lO ..) (λv=>⟨v,_,_⟩) K
  ·rfl
 ·split
  ·exact iy (λR K=>nc _ _ _ K) (λR K=>vn ..) (λv=>⟨v,_,_⟩) K
  ·rfl
 ·split
  ·split
   ·split
    ·exact iy (λR K=>vY _ _ _ _ K) (λR K=>vZ ..) (λv=>⟨v,_,_⟩) K
    ·rfl
   ·rfl
  ·rfl
 ·split
  ·split
   ·exact iy (λR K=>qS _ _ K) (λR K=>uP ..) (λv=>⟨v,_,_⟩) K
   ·rfl
  ·rfl
 ·split
  ·split<;>rfl
  ·rfl
 ·exact rm en he ..
 ·rfl
theorem Xb(en:GX)(he:Z7 en)(σ:St)(o:Oper)(K:H8->ATP R):Wb en σ o K=(Wb en σ o some).bind K:=by
 unfold Wb;split
 ·rfl
 split
 ·rfl
 split
 ·rename_i c _ _;cases c<;>rfl
 split
 ·cases ki en o with
  |false=>exact Nx en he σ o K
  |true =>
   simp only[AQp];refine(Nx en he σ o _).trans (Eq.symm ?_);refine(congrArg (λx=>Option.bind x K) (Nx en he σ o _)).trans ?_;rw[AQq];congr 1
   funext e
   cases Ab8 σ.Aj.length e<;>rfl
 ·rename_i t _;refine(Nx en he σ o _).trans (Eq.symm ?_);refine(congrArg (λx=>Option.bind x K) (Nx en he σ o _)).trans ?_;rw[AQq];congr 1
  funext e
  cases Amd σ.Aj.length t e<;>rfl
theorem Tw(en:GX)(he:Z7 en)(σ:St)(o:Oper)(K:H8->ATP R):exec en σ o K=(exec en σ o some).bind K:=by
 unfold exec;split
 ·split
  ·split
   ·rename_i bs _;rw[Xb en he ⟨σ.AU,bs⟩ o,Xb en he ⟨σ.AU,bs⟩ o (λe=>if e.BJ.isEmpty=true then none else some e),AQq];congr 1
    funext e
    split<;>rfl
   ·rfl
  ·exact Xb en he σ o K
 ·exact Xb en he σ o K
end
structure LA (w:World) (g:G) (σ:St) (a:Act):Prop where
 heap:Bo w g σ.Aj
 len:σ.AU.length=a.tmps.size
 AU:∀(i:Nat) (x:AV),σ.AU[i]?=some x->Cb w g σ.Aj.length x (a.tmps.getD i undef)
structure OA (P:Program) (σ:St) (o:Oper) (e:H8):Prop where
 grow:σ.Aj.length<=e.Aj.length
 ext:e.BJ=[]->∃l,e.Aj=σ.Aj++l
 wp:∀(a:Act) (w:World) (g:G),LA w g σ a->∀(next:Act->World->Prop) (Q:Exit->Act->World->Prop),
  (∀v w' g',Bo w' g' e.Aj->Cb w' g' e.Aj.length e.val v->Step e.BJ σ.Aj.length w g w' g'->next (a.put o.dst v) w')->o.wp P a w next Q
def Qt(P:Program)(σ:St)(o:Oper)(z:AV):Prop :=
 ∀(a:Act) (w:World) (g:G),LA w g σ a->∃c,(execOp a.eval o).run P w=.ok (.value c) w/\Cb w g σ.Aj.length z c
theorem ZH{BJ:ATO Nat}{sl:ATO AV}{i:Nat}{x:AV}(h:(Vh BJ sl)[i]?=some x):∃y,sl[i]?=some y/\x=y.drop λk=>BJ.contains k:=by
 unfold Vh at h;split at h
 ·exact⟨x,h,by rw[show(λk=>([]:ATO Nat).contains k)=λ_=>false from funext λ_=>rfl,cT]⟩
 ·rw[AQC]at h;cases hs:sl[i]? with
  |none=>rw[hs]at h;cases h
  |some y=>rw[hs]at h;injection h with h;exact⟨y,rfl,h.symm⟩
theorem oB(BJ:ATO Nat)(sl:ATO AV):(Vh BJ sl).length=sl.length:=by unfold Vh;split<;>simp
theorem dG(d:ATP Nat)(v:AV)(sl:ATO AV):(aj d v sl).length=sl.length:=by unfold aj;split<;>simp
theorem Xt(a:Act)(d:ATP Tmp)(v:Value):(a.put d v).tmps.size=a.tmps.size:=by cases d<;>simp[Act.put]
theorem pZ{w:World}{g:G}{n:Nat}{sl:ATO AV}{a:Act}(hlen:sl.length=a.tmps.size)(h:∀(i:Nat) (x:AV),sl[i]?=some x->Cb w g n x (a.tmps.getD i undef)){d:ATP Nat}{x:AV}{v:Value}(hv:Cb w g n x v) :
    ∀(i:Nat) (y:AV),(aj d x sl)[i]?=some y->Cb w g n y ((a.put d v).tmps.getD i undef):=by
 intro i y hy;cases d with
 |none=>exact h i y hy
 |some d =>
  simp only[aj]at hy;rw[AQy]at hy;simp only[Act.put];split at hy
  ·rename_i he;subst he;split at hy
   ·rename_i hd;injection hy with hy;subst hy;rw[hlen]at hd;simpa [hd]using hv
   ·cases hy
  ·rename_i MO;have:=h i y hy;simpa [ARO MO]using this
theorem LA.after{w w':World}{g g':G}{σ:St}{a:Act}{e:H8}{d:ATP Nat}{v:Value}(h:LA w g σ a)(hg:σ.Aj.length<=e.Aj.length)(hh:Bo w' g' e.Aj)(hv:Cb w' g' e.Aj.length e.val v)
    (hs:Step e.BJ σ.Aj.length w g w' g'):LA w' g' (σ.after d e) (a.put d v) where
 heap:=hh
 len:=by simp only[St.after,dG,oB,Xt];exact h.len
 AU:=pZ (by rw[oB];exact h.len) (λi x hx=>by
  obtain⟨y,hy,rfl⟩:=ZH hx;exact(h.AU i y hy).step hs hg) hv
section
variable {P:Program} {σ:St} {o:Oper} {en:GX}
theorem OA.Je{z:AV}(h:Qt P σ o z):OA P σ o ⟨z,σ.Aj,[]⟩ where
 grow:=AQf _
 ext _:=⟨[],(AQO _).symm⟩
 wp a w g hs next Q hn:=by
  obtain⟨c,hc,hz⟩:=h a w g hs;unfold Oper.wp;rw[hc];exact hn c w g hs.heap hz (Step.refl _ _ _ _)
theorem Yz{f:(R:Type)->(AV->ATP R)->ATP R}(hf:∀(R:Type) (K:AV->ATP R),f R K=(f AV some).bind K){g:AV->H8}{e:H8}(h:f H8 (λv=>some (g v))=some e) :
    ∃z,f AV some=some z/\e=g z:=by
 rw[hf H8]at h;cases hz:f AV some with
 |none=>rw[hz]at h;cases h
 |some z=>rw[hz]at h;injection h with h;exact⟨z,rfl,h.symm⟩
theorem Ag8{w:World}{g:G}{n:Nat}(v:Value):Cb w g n (qZ v) v:=by
 unfold qZ;split
 ·exact AiB _ _
 ·exact dv _
 ·exact AiC _
 ·exact pD _
 ·exact BD rfl (cs:=[_]) rfl (by simp[Cp,AV.isAgg])
 ·exact RP
theorem A0{w:World}{g:G}{a:Act}(h:LA w g σ a)(x:Operand):Cb w g σ.Aj.length (σ.Cr x) (a.eval x):=by
 cases x with
 |tmp t =>
  simp only[St.Cr,Act.eval];cases hx:σ.AU[t]? with
  |none=>exact RP
  |some y=>exact h.AU t y hx
 |const v=>exact Ag8 v
 |func f=>exact BD (a:=.fn f .nil) rfl (cs:=[_]) ⟨[],rfl,rfl⟩ (by simp[Cp,AV.isAgg,Act.eval])
 |global g=>exact RP
theorem ZT{w:World}{g:G}{a:Act}(h:LA w g σ a)(x:ATP Operand):Aff w g σ.Aj.length (x.map σ.Cr) (x.map a.eval):=by
 cases x with
 |none=>trivial
 |some x=>exact A0 h x
theorem Mg{z:AV}{s:(Operand->Value)->Sem Value}(he:∀ρ,execOp ρ o=(do pure (.value (<-s ρ))))(h:∀(a:Act) (w:World) (g:G),LA w g σ a->V7 P w g σ.Aj.length (s a.eval) z):Qt P σ o z:=by
 intro a w g hs;obtain⟨c,hc,hz⟩:=h a w g hs;exact⟨c,by rw[he];simp[hc],hz⟩
theorem cy{v:Value}{cs:ATO Value}{b:Bool}(h:Cp b cs v)(h1:∀c∈cs,c.oneCell'=true):v.cells=cs.toArray:=by
 cases b with
 |true=>simp only[Cp,AQp]at h;subst h;rfl
 |false =>
  simp only[Cp,AQo]at h;subst h;have:=h1 v (by simp);cases v<;>first |rfl |cases this
theorem bP:∀{a:AV} {f:Nat} {v a':AV},a.Un f v=some a'->a'.isAgg=true:=by
 intro a f v a' h;cases a with
 |AB ks t x =>
  simp only[AV.Un]at h;cases t with
  |AG b c =>
   cases f with
   |zero=>simp only[xd,AQb]at h;subst h;rfl
   |succ f =>
    simp only[xd]at h;split at h
    ·injection h with h;subst h;rfl
    ·cases h
  |_=>cases f<;>simp[xd]at h
 |pr b c =>
  cases f with
  |zero=>simp only[AV.Un,AQb]at h;subst h;rfl
  |succ f =>
   simp only[AV.Un]at h;split at h
   ·injection h with h;subst h;rfl
   ·cases h
 |_=>cases f<;>simp[AV.Un]at h
theorem Ab7{c0 c1 c2 vs:ATO Value}(h:vs.length=c1.length):(vs.toArray.zipIdx.foldl (λcs (x:Value×Nat)=>cs.setIfInBounds (c0.length+x.2) x.1) (c0++c1++c2).toArray)=(c0++vs++c2).toArray:=by
 have e:vs.toArray.zipIdx.foldl (λcs (x:Value×Nat)=>cs.setIfInBounds (c0.length+x.2) x.1) (c0++c1++c2).toArray=(vs.zipIdx 0).foldl (λcs (x:Value×Nat)=>cs.setIfInBounds (c0.length+x.2) x.1) (c0++c1++c2).toArray:=by
  rw[<-Array.foldl_toList,Array.toList_zipIdx]
 rw[e];obtain⟨h1,h2⟩:=Great.foldl_set c0.length vs 0 (c0++c1++c2).toArray;apply Array.ext_getElem?;intro k;rw[h2 k];simp only[AR3,ARm,AQd,List.getElem?_toArray];by_cases hk:c0.length<=k/\k<c0.length+vs.length/\k<c0.length+c1.length+c2.length
 ·rw[AQr hk,AQh,AQv hk.1,AQw (by omega)]
 ·rw[AQs hk];rcases AQk k c0.length with h' |h'
  ·rw[AQh,AQh,AQw h',AQw h']
  ·have:c0.length+vs.length<=k:=by omega
   rw[AQv (by simp;omega),AQv (by simp;omega)];simp[h]
theorem pO{ty:Ty}:∀{fs:ATO Field} {os:ATO Nat} {i:Nat},P7 P ty i fs os=true ->
    ∃pl,fs.mapM (λf=>(P.info? f.type).map λi=>(f.offset,i.size))=some pl/\∀j o,os[j]?=some o->∃u,mP ty (i+j)=some u/\pl[j]?=some (o,u.size)
 |[],[],_,_=>⟨[],rfl,λj o h=>by simp at h⟩
 |f::fs,o::os,i,h=>by
  simp only[P7,AQg,ARd]at h;obtain⟨⟨⟨h1,_⟩,h3⟩,h4⟩:=h;obtain⟨pl,hp,hq⟩:=pO h4;split at h3
  ·rename_i u hu;simp only[AQg,ARd]at h3;cases hi:P.info? f.type with
   |none=>simp[hi]at h3
   |some inf =>
    simp[hi]at h3;refine⟨(f.offset,inf.size)::pl,by simp[List.mapM_cons,hi,hp],λj o' ho=>?_⟩;cases j with
    |zero=>simp at ho;subst ho;exact⟨u,by simpa using hu,by simp[h1,h3.1.1]⟩
    |succ j =>
     obtain⟨u',h5,h6⟩:=hq j o' (by simpa using ho);exact⟨u',by rw[show i+(j+1)=i+1+j by omega];exact h5,by simpa using h6⟩
  ·cases h3
 |[],_::_,_,h=>by simp[P7]at h
 |_::_,[],_,h=>by simp[P7]at h
theorem AaI{v:AV}(h:v.ak=true):v.OL=false/\v.Dv=false:=by cases v<;>simp_all [AV.ak,AV.OL,AV.Dv]
theorem jF{w:World}{g:G}{n:Nat}{ti:TI}{pl:ATO (Nat×Nat)}(vR:∀j o,ti.Xr[j]?=some o->∃u,mP ti.ty j=some u/\pl[j]?=some (o,u.size)){ρ:Operand->AV}{ε:Operand->Value}(hρ:∀x,Cb w g n (ρ x) (ε x)) :
    ∀{ps:ATO (Nat×Operand)} {a z:AV} {cs:ATO Value},YU ti a (ps.map λp=>(p.1,ρ p.2))=some z->CN w g n false a cs->a.isAgg=true ->
     ∃mX,Instr.fill (pl.toArray[·]?) cs.toArray (ps.map λp=>(p.1,ε p.2))=some mX.toArray/\CN w g n false z mX/\z.isAgg=true
 |[],a,z,cs,h,hx,hg=>by
  simp only[ARz,YU,AQb]at h;subst h;exact⟨cs,rfl,hx,hg⟩
 |(f,x)::ps,a,z,cs,h,hx,hg=>by
  simp only[AQU,YU]at h;split at h
  ·rename_i pI XQ;split at h
   ·rename_i hc;obtain⟨Nt,Awe,QJ,iM⟩:=hc;split at h
    ·rename_i a' ha';obtain⟨c0,c1,c2,e,ho,kM,hs⟩:=Y0 a f cs pI hx XQ;obtain⟨Sp,Y8⟩:=AaI Awe;obtain⟨cv,YE,hv⟩:=B9 Y8 Sp (hρ x);have hvc:=cy hv YE.one;obtain⟨u,hu,hp⟩:=vR f c0.length (by rw[<-QJ];exact ho);rw[hu]at iM;simp only[Option.map_some,AQb]at iM;have UN:cv.length=c1.length:=by rw[YE.len,kM.len,Nt]
     obtain⟨mX,hf,hz,hza⟩:=jF vR hρ h (hs _ _ _ ha' YE) (bP ha');refine⟨mX,?_,hz,hza⟩;simp only[AQU];unfold Instr.fill;have hp':pl.toArray[f]?=some (c0.length,u.size):=by simpa using hp
     simp only[hp'];have UA:(ε x).cells.size=u.size:=by rw[hvc];simp only[ARm];rw[YE.len];omega
     have RX:¬c0.length+(ε x).cells.size>cs.toArray.size:=by
      rw[hvc,e];simp;omega
     simp only[UA,ne_eq,not_true_eq_false,decide_false,ASl];rw[UA]at RX;simp only[RX,decide_false,AQX,ARA];rw[<-hf];congr 1;rw[hvc,e];exact Ab7 UN
    ·cases h
   ·cases h
  ·cases h
end
section
variable {P:Program} {σ:St} {o:Oper} {en:GX} {e:H8}
theorem xk{x:Operand}(ho:o.op=.move x\/o.op=.assign x):OA P σ o ⟨σ.Cr x,σ.Aj,[]⟩ :=
 .Je λa w g hs=>⟨a.eval x,by rcases ho with ho |ho<;>simp[execOp,ho],A0 hs x⟩
theorem Aju{c x y:Operand}(ho:o.op=.pick c x y){ks:ATO Nat}{t:Bool}(hc:σ.Cr c=.AB ks .bool t):OA P σ o ⟨bif t then σ.Cr x else σ.Cr y,σ.Aj,[]⟩ :=
 .Je λa w g hs=>by
  have h:=A0 hs c;rw[hc]at h;have h:=Tq h;refine⟨if t then a.eval x else a.eval y,by simp[execOp,ho,h,asBool],?_⟩;cases t
  ·exact A0 hs y
  ·exact A0 hs x
theorem dP{x:Operand}(ho:o.op=.nilCheck x)(hp:∀(w:World) (g:G) n v,Cb w g n (σ.Cr x) v->∃a,v=.pointer (some a)):OA P σ o ⟨σ.Cr x,σ.Aj,[]⟩ :=
 .Je λa w g hs=>by
  obtain⟨ad,h⟩:=hp w g _ _ (A0 hs x);exact⟨a.eval x,by simp[execOp,ho,h],A0 hs x⟩
theorem Aeb{op:BinOp}{t:TypeId}{x y:Operand}{yt:TypeId}(ho:o.op=.binOp op t x y yt){tb:Bool}(htb:tb=true->P.underlying t=some .bool){z:AV}(h:qG op tb (σ.Cr x) (σ.Cr y) some=some z):OA P σ o ⟨z,σ.Aj,[]⟩ :=
 .Je <| Mg (s:=λρ=>do eqGuard op t x y (ρ x) (ρ y);binOp op t (ρ x) (ρ y)) (λρ=>by simp[execOp,ho]) λa w g hs=>by
  obtain⟨z',e,hG⟩:=AkZ t x y htb h (A0 hs x) (A0 hs y);injection e with e;subst e;exact hG
theorem Ajv{op:UnOp}{t:TypeId}{x:Operand}(ho:o.op=.unOp op t x){z:AV}(h:unA op (σ.Cr x) some=some z):OA P σ o ⟨z,σ.Aj,[]⟩ :=
 .Je <| Mg (s:=λρ=>Op.unary op (ρ x)) (λρ=>by simp[execOp,ho]) λa w g hs=>by
  obtain⟨z',e,hG⟩:=AwI h (A0 hs x);injection e with e;subst e;exact hG
theorem xh{s t:TypeId}{x:Operand}(ho:o.op=.convert s t x){ts ti:TI}(hs:Fp P s ts)(ht:Fp P t ti){te:ATP Ty}(Et:∀u,te=some u->ts.EA=true/\∃mL,mL.ty=u/\Fp P ts.elem mL){z:AV}
    (h:cM σ.Aj te ti.ty (σ.Cr x) some=some z):OA P σ o ⟨z,σ.Aj,[]⟩ :=
 .Je <| Mg (s:=λρ=>convert s t (ρ x)) (λρ=>by simp[execOp,ho]) λa w g BX=>by
  obtain⟨z',e,hG⟩:=Ag9 BX.heap hs ht Et h (A0 BX x);injection e with e;subst e;exact hG
theorem Ajo{t:TypeId}{x:Operand}(ho:o.op=.load t x){ti:TI}(ht:Fp P t ti){z:AV}(h:aG σ.Aj ti (σ.Cr x) some=some z):OA P σ o ⟨z,σ.Aj,[]⟩ :=
 .Je <| Mg (s:=λρ=>Instr.loadAt t (ρ x)) (λρ=>by simp[execOp,ho]) λa w g BX=>by
  obtain⟨z',e,hG⟩:=Ait BX.heap ht h (A0 BX x);injection e with e;subst e;exact hG
theorem nO{t:TypeId}{x:Operand}{f:Nat}(ho:o.op=.fieldAddr t x f){ti:TI}(ht:Fp P t ti){z:AV}(h:nc ti f (σ.Cr x) some=some z):OA P σ o ⟨z,σ.Aj,[]⟩ :=
 .Je <| Mg (s:=λρ=>Instr.fieldAt t (ρ x) f) (λρ=>by simp[execOp,ho]) λa w g BX=>by
  obtain⟨z',e,hG⟩:=Ama (n:=σ.Aj.length) ht h (A0 BX x);injection e with e;subst e;exact hG
theorem nP{t:TypeId}{x i:Operand}(ho:o.op=.indexAddr t x i){ti te:TI}(ht:Fp P t ti)(Et:Fp P ti.elem te)(Jc:ti.EA=true){z:AV}(h:zT σ.Aj te.ty (σ.Cr x) (σ.Cr i) some=some z):OA P σ o ⟨z,σ.Aj,[]⟩ :=
 .Je <| Mg (s:=λρ=>Instr.indexAt t (ρ x) (ρ i)) (λρ=>by simp[execOp,ho]) λa w g BX=>by
  obtain⟨z',e,hG⟩:=Amw BX.heap ht Et Jc h (A0 BX x) (A0 BX i);injection e with e;subst e;exact hG
theorem Aeg{t:TypeId}{x i:Operand}(ho:o.op=.index t x i){ti:TI}(ht:Fp P t ti)(hs:ti.ty=.str){z:AV}(h:qS (σ.Cr x) (σ.Cr i) some=some z):OA P σ o ⟨z,σ.Aj,[]⟩ :=
 .Je <| Mg (s:=λρ=>Instr.index t (ρ x) (ρ i)) (λρ=>by simp[execOp,ho]) λa w g BX=>by
  obtain⟨z',e,hG⟩:=AlZ (n:=σ.Aj.length) ht hs h (A0 BX x) (A0 BX i);injection e with e;subst e;exact hG
theorem Aei{t:TypeId}{x:Operand}{lo hi mx:ATP Operand}(ho:o.op=.slice t x lo hi mx){ti:TI}(ht:Fp P t ti){te:ATP Ty}(Et:∀u,te=some u->ti.EA=true/\∃mL,mL.ty=u/\Fp P ti.elem mL){z:AV}
    (h:X3 σ.Aj ti te (σ.Cr x) (lo.map σ.Cr) (hi.map σ.Cr) (mx.map σ.Cr) some=some z):OA P σ o ⟨z,σ.Aj,[]⟩ :=
 .Je <| Mg (s:=λρ=>Instr.sliceAt t (ρ x) (lo.map ρ) (hi.map ρ) (mx.map ρ)) (λρ=>by simp[execOp,ho]) λa w g BX=>by
  obtain⟨z',e,hG⟩:=Ad7 BX.heap ht Et h (A0 BX x) (ZT BX lo) (ZT BX hi) (ZT BX mx);injection e with e;subst e;exact hG
theorem xi{x:Operand}{i:Nat}(ho:o.op=.extract x i){z:AV}(h:Qp (σ.Cr x) i=some z)(hz:z.Dv=false):OA P σ o ⟨z,σ.Aj,[]⟩ :=
 .Je <| Mg (s:=λρ=>Instr.extract (ρ x) i) (λρ=>by simp[execOp,ho]) λa w g BX=>by
  have hx:=A0 BX x;cases hq:σ.Cr x with
  |cons b c =>
   rw[hq]at hx h;obtain⟨vs,e,hx⟩:=hx;obtain⟨v,hv,hr⟩:=Abt h hx;exact⟨v,by simp[Instr.extract,e,hv],hr hz⟩
  |_=>rw[hq]at h;simp[Qp]at h
theorem Zu{w:World}{g:G}{n:Nat}:∀{t:Ty},CN w g n false t.aP (RR t)
 |.int k=>⟨λ_ h=>by(cases h),rfl⟩
 |.bool=>⟨λ_ h=>by(cases h),rfl⟩
 |.str=>⟨λ_ h=>by(cases h),rfl⟩
 |.unit=>⟨λ_ h=>by(cases h),rfl⟩
 |.AG a b=>⟨_,_,rfl,Zu,Zu⟩
 |.sl _=>⟨none,rfl⟩
 |.R4 0=>rfl
 |.R4 1=>⟨rfl,by simp[RR,Value.oneCell']⟩
 |.R4 (_+2)=>⟨rfl,by simp[RR,Value.oneCell']⟩
theorem qc:∀{t:Ty},t.aP.isAgg=t.isAgg
 |.int _=>rfl
 |.bool=>rfl
 |.str=>rfl
 |.unit=>rfl
 |.AG _ _=>rfl
 |.sl _=>rfl
 |.R4 0=>rfl
 |.R4 (_+1)=>rfl
theorem Aec{t:TypeId}{GR:Array (Nat×Operand)}(ho:o.op=.build t GR){ti:TI}(ht:Fp P t ti)(oR:ti.Xr≠[]){z:AV}(h:YU ti ti.ty.aP (GR.toList.map λp=>(p.1,σ.Cr p.2))=some z):OA P σ o ⟨z,σ.Aj,[]⟩ :=
 .Je <| Mg (s:=λρ=>Instr.build t (GR.map λ(i,x)=>(i,ρ x))) (λρ=>by simp[execOp,ho]) λa w g BX=>by
  obtain⟨o0,ho0⟩:∃o0,ti.Xr[0]?=some o0:=by
   cases hq:ti.Xr with
   |nil=>exact(oR hq).elim
   |cons o0 r=>exact⟨o0,rfl⟩
  obtain⟨fs,hu,hf⟩:=X5 ht ho0;obtain⟨pl,vR,hp⟩:=pO hf;obtain⟨i,zv,hi,Nt,vE,hz,zI,vC⟩:=ht.info;have ha:ti.ty.isAgg=true:=by
   obtain⟨d,hd,hk⟩:=ht.gJ;rw[hu]at hd;injection hd with hd;subst hd;simp only[kindOk,AQg]at hk;exact hk.1
  obtain⟨mX,vH,hx,hxa⟩:=jF (n:=σ.Aj.length) (λj o hj=>by simpa using hp j o hj) (A0 BX) h Zu (by rw[qc];exact ha);refine⟨.agg mX.toArray,run_build w t _ _ ?_,BD (WL hx) hx (by rw[hxa];rfl)⟩;unfold Program.built;have oS:zv.cells=(RR ti.ty).toArray:=by rw[<-zI]
  simp only[hi,hu,hz,vR,oS];simpa using vH
theorem AnV{w:World}{g:G}{n:Nat}{ρ:Operand->AV}{ε:Operand->Value}(hρ:∀x,Cb w g n (ρ x) (ε x)):∀(l:ATO Operand),CN w g n true (XH (l.map ρ)) (l.map ε)
 |[]=>rfl
 |x::l=>by
  refine⟨ε x,l.map ε,rfl,?_,AnV hρ l⟩;have h:=hρ x;split
  ·exact .inl rfl
  ·rename_i ht;exact(Cb.iff (by simpa using ht)).1 h
theorem sO{f:FuncId}{first ae:Array Operand}(ho:o.op=.makeFunc (.func f) first ae)(h0:first.size=0):OA P σ o ⟨.fn f (XH (ae.toList.map σ.Cr)),σ.Aj,[]⟩ :=
 .Je λa w g hs=>by
  have hf:first.map a.eval=#[]:=by
   apply Array.eq_empty_of_size_eq_zero;simp[h0]
  have hr:(execOp a.eval o).run P w=.ok (.value (.func (.func f) #[] (ae.map a.eval))) w:=by simp[execOp,ho,Instr.makeFunc,hf]
  have hv:CN w g σ.Aj.length false (.fn f (XH (ae.toList.map σ.Cr))) [.func (.func f) #[] (ae.map a.eval)]:=⟨ae.toList.map a.eval,by rw[<-Array.toList_map,Array.toArray_toList],AnV (A0 hs) _⟩;exact⟨_,hr,BD rfl hv (by simp[Cp,AV.isAgg])⟩
theorem sx{k:Nat}{i:Int}{p:ATO Nat}{q:Nat}{w:World}{g:G}{n:Nat}{v:Value}(h:Cb w g n (.ptr k i p q) v):∃a,v=.pointer (some a):=by
 obtain⟨_,_,_,b,_,e⟩:=LX h;exact⟨_,e⟩
theorem sy{ks:ATO Nat}{t:Ty}{y:t.V}{w:World}{g:G}{n:Nat}{v:Value}(h:Cb w g n (.FQ ks t y) v):∃a,v=.pointer (some a):=by
 obtain⟨_,b,off,_,e,_⟩:=ZA h;exact⟨_,e⟩
end
theorem Aa6{u:Ty}:∀{n i:Nat},i<n->mP (uv u n) i=some u/\VB (uv u n) i=some (i*u.size)
 |n+1,0,_=>by simp[uv,mP,VB]
 |n+1,i+1,h=>by
  obtain⟨h1,h2⟩:=Aa6 (u:=u) (n:=n) (i:=i) (by omega);refine⟨by simpa [uv,mP]using h1,?_⟩;simp only[uv,VB,h2];rw[ARH,Nat.one_mul,Nat.add_comm]
theorem oJ{place AiV:Nat->ATP (Nat×Nat)}(h:∀i p,place i=some p->AiV i=some p):∀{GR:ATO (Nat×Value)} {cs r:Array Value},Instr.fill place cs GR=some r->Instr.fill AiV cs GR=some r
 |[],_,_,hf=>hf
 |(i,v)::iw,cs,r,hf=>by
  unfold Instr.fill at hf⊢;split at hf
  ·cases hf
  ·rename_i off size hp;rw[h i _ hp];simp only;split at hf
   ·cases hf
   ·rename_i hc;rw[AQs hc];exact oJ h hf
section
variable {P:Program} {σ:St} {o:Oper} {en:GX}
theorem sM{t:TypeId}{GR:Array (Nat×Operand)}(ho:o.op=.build t GR){ti te:TI}(ht:Fp P t ti)(Et:Fp P ti.elem te)(hn:ti.Hh≠0)(iM:ti.ty=uv te.ty ti.Hh){z:AV}
    (h:YU (ti.plc te) ti.ty.aP (GR.toList.map λp=>(p.1,σ.Cr p.2))=some z):OA P σ o ⟨z,σ.Aj,[]⟩ :=
 .Je <| Mg (s:=λρ=>Instr.build t (GR.map λ(i,x)=>(i,ρ x))) (λρ=>by simp[execOp,ho]) λa w g BX=>by
  have hu:=ht.Hh hn;have ha:ti.ty.isAgg=true:=by
   rw[iM];cases hq:ti.Hh with
   |zero=>exact(hn hq).elim
   |succ n=>rfl
  obtain⟨i,zv,hi,Nt,vE,hz,zI,vC⟩:=ht.info;obtain⟨mX,vH,hx,hxa⟩:=jF (ti:=ti.plc te) (pl:=(List.range ti.Hh).map λi=>(i*te.ty.size,te.ty.size)) (n:=σ.Aj.length) (w:=w) (g:=g) (λj o hj=>by
   simp only[TI.plc,AQC,Option.map_eq_some_iff]at hj;obtain⟨q,hq,rfl⟩:=hj;have aA:j<ti.Hh:=by
    have:=A7 hq;simpa using this
   rw[ARQ aA]at hq;injection hq with hq;subst hq;refine⟨te.ty,by show mP ti.ty j=_;rw[iM];exact(Aa6 aA).1,?_⟩;simp[ARQ aA]) (A0 BX) h Zu (by rw[qc];exact ha)
  refine⟨.agg mX.toArray,?_,BD (WL hx) hx (by rw[hxa];rfl)⟩;have oS:zv.cells=(RR ti.ty).toArray:=by rw[<-zI]
  have AvO:Instr.fill (λi=>some (i*te.ty.size,te.ty.size)) zv.cells (GR.map λ(i,x)=>(i,a.eval x)).toList=some mX.toArray:=by
   rw[oS];refine oJ (λi p hp=>?_) (by simpa using vH);simp only[List.getElem?_toArray,AQC,Option.map_eq_some_iff]at hp;obtain⟨q,hq,rfl⟩:=hp;have aA:i<ti.Hh:=by
    have:=A7 hq;simpa using this
   rw[ARQ aA]at hq;injection hq with hq;subst hq;rfl
  have AvP:Instr.fill (λi=>some (i*te.ty.size,te.ty.size)) zv.cells (List.map (λx=>(x.fst,a.eval x.snd)) GR.toList)=some mX.toArray:=by simpa using AvO
  simp[Instr.build,run_underlying hu,zeroValue,typeInfo,hi,hz,D9 Et,AvP]
theorem sN{t:TypeId}{x i:Operand}(ho:o.op=.index t x i){ti te:TI}(ht:Fp P t ti)(Et:Fp P ti.elem te)(hn:ti.Hh≠0){ks:ATO Nat}{kk:IntKind}{j:Int}(hi:σ.Cr i=.AB ks (.int kk) j)
    (hj:0<=j/\j<(ti.Hh:Int)/\(σ.Cr x).off j.toNat=some (j.toNat*te.ty.size)/\(σ.Cr x).isAgg=true/\(σ.Cr x).Dv=false) {v:AV} (hv:(σ.Cr x).bh j.toNat=some v) (Nt:v.size=te.ty.size/\v.isAgg=te.ty.isAgg):OA P σ o ⟨v,σ.Aj,[]⟩ :=
 .Je <| Mg (s:=λρ=>Instr.index t (ρ x) (ρ i)) (λρ=>by simp[execOp,ho]) λa w g BX=>by
  have hu:=ht.Hh hn;obtain⟨h0,h1,QJ,vC,Y8⟩:=hj;have hix:=A0 BX i;rw[hi]at hix;have hie:=DR hix;have Yp:=A0 BX x;have Sp:(σ.Cr x).OL=false:=by
   cases hq:σ.Cr x<;>rw[hq]at hv<;>first |rfl |simp[AV.bh]at hv
  obtain⟨cs,UA,vX⟩:=B9 Y8 Sp Yp;rw[vC]at vX;have vX:a.eval x=.agg cs.toArray:=vX;obtain⟨c0,c1,c2,e,yi,kM,_⟩:=Y0 _ _ cs v UA hv;rw[QJ]at yi;injection yi with yi;have UN:c1.length=te.ty.size:=by rw[kM.len,Nt.1]
  rw[hie,vX];cases hg:te.ty.isAgg with
  |true =>
   refine⟨.agg c1.toArray,?_,BD (WL kM) kM (by rw[Nt.2,hg];rfl)⟩;have hex:cs.toArray.extract (j.toNat*te.ty.size) (j.toNat*te.ty.size+te.ty.size)=c1.toArray:=by
    apply Array.ext';rw[Array.toList_extract,yi,e];simp only[List.extract];rw[show c0.length+te.ty.size-c0.length=c1.length by omega,AQh,List.drop_left,ARS]
   have AvN:List.take te.ty.size (List.drop (j.toNat*te.ty.size) cs)=c1:=by
    rw[yi,e,AQh,List.drop_left,<-UN,ARS]
   simp[Instr.index,asIntOf,run_underlying hu,h0,h1,part,cx Et,hg,D9 Et,AvN]
  |false =>
   have Y3:te.ty.size=1:=TV hg;obtain⟨u,hu1⟩:∃u,c1=[u]:=by
    cases c1 with
    |nil=>rw[Y3]at UN;cases UN
    |cons u r=>cases r with
     |nil=>exact⟨u,rfl⟩
     |cons _ _=>rw[Y3]at UN;simp at UN
   subst hu1;refine⟨u,?_,BD (WL kM) kM (by rw[Nt.2,hg];rfl)⟩;have Xg:cs[j.toNat*te.ty.size]?=some u:=by
    rw[yi,e,AQh,AQv (AQf _),ARV];rfl
   simp[Instr.index,asIntOf,run_underlying hu,h0,h1,part,cx Et,hg,D9 Et,Xg]
theorem vo{ty:Ty}:∀{fs:ATO Field} {os:ATO Nat} {i j:Nat} {fd:Field} {u:Ty},P7 P ty i fs os=true->fs[j]?=some fd->mP ty (i+j)=some u->∃d,P.underlying fd.type=some d/\AkU d=u.isAgg
 |[],_,_,_,_,_,_,h,_=>by simp at h
 |_::_,[],_,_,_,_,h,_,_=>by simp[P7]at h
 |f::fs,o'::os,i,0,fd,u,h,hf,hu=>by
  simp only[List.getElem?_cons_zero,AQb]at hf;subst hf;simp only[P7,AQg]at h;obtain⟨⟨_,h3⟩,_⟩:=h;rw[show mP ty i=some u from hu]at h3;simp only[AQg]at h3;have h4:=h3.2;unfold AEp at h4;cases hd:P.underlying f.type with
  |none=>rw[hd]at h4;cases h4
  |some d=>rw[hd]at h4;exact⟨d,rfl,by simpa using h4⟩
 |f::fs,o'::os,i,j+1,fd,u,h,hf,hu=>by
  simp only[P7,AQg]at h;exact vo (i:=i+1) h.2 (by simpa using hf) (by rw[show i+1+j=i+(j+1) by omega];exact hu)
theorem AfI{w:World}{t:Nat}{d:TypeDesc}(h:P.underlying t=some d):(isAgg t).run P w=.ok (AkU d) w:=by
 cases d<;>simp[isAgg,underlying,h,AkU]
theorem Aee{t:TypeId}{x:Operand}{f:Nat}(ho:o.op=.field t x f){ti:TI}(ht:Fp P t ti){fo:Nat}(hfo:ti.Xr[f]?=some fo){u:Ty}(hu:mP ti.ty f=some u){v:AV}(hv:(σ.Cr x).bh f=some v)
    (hc:(σ.Cr x).off f=some fo/\(σ.Cr x).isAgg=true/\(σ.Cr x).Dv=false/\v.size=u.size/\v.isAgg=u.isAgg):OA P σ o ⟨v,σ.Aj,[]⟩ :=
 .Je <| Mg (s:=λρ=>Instr.field t (ρ x) f) (λρ=>by simp[execOp,ho]) λa w g BX=>by
  obtain⟨QJ,vC,Y8,AKm,AGI⟩:=hc;obtain⟨fs,AGL,hfl⟩:=X5 ht hfo;obtain⟨fd,u',inf,h1,h2,h3,h4,h5,h6,h7⟩:=rA hfl hfo;rw[AQF]at h3 h4;have:u'=u:=by rw[hu]at h4;injection h4 with h4;exact h4.symm
  subst this;obtain⟨d,hd,hda⟩:=vo (i:=0) hfl h1 (by rw[AQF];exact hu);have hfd:fs[f]?=some fd:=by rw[<-AQn];exact h1
  have hsr:(sizeOf fd.type).run P w=.ok u'.size w:=by simp[sizeOf,typeInfo,h5,h6]
  have har:=AfI (w:=w) hd;rw[hda]at har;have Yp:=A0 BX x;have Sp:(σ.Cr x).OL=false:=by
   cases hq:σ.Cr x<;>rw[hq]at hv<;>first |rfl |simp[AV.bh]at hv
  obtain⟨cs,UA,vX⟩:=B9 Y8 Sp Yp;rw[vC]at vX;have vX:a.eval x=.agg cs.toArray:=vX;obtain⟨c0,c1,c2,e,yi,kM,_⟩:=Y0 _ _ cs v UA hv;rw[QJ]at yi;injection yi with yi;have UN:c1.length=u'.size:=by rw[kM.len,AKm]
  rw[vX];cases hg:u'.isAgg with
  |true =>
   rw[hg]at har;refine⟨.agg c1.toArray,?_,BD (WL kM) kM (by rw[AGI,hg];rfl)⟩;have AvN:List.take u'.size (List.drop fo cs)=c1:=by
    rw[yi,e,AQh,List.drop_left,<-UN,ARS]
   simp[Instr.field,underlying,AGL,hfd,asAgg,part,har,hsr,h2,AvN]
  |false =>
   rw[hg]at har;have Y3:u'.size=1:=TV hg;obtain⟨y,hy⟩:∃y,c1=[y]:=by
    cases c1 with
    |nil=>rw[Y3]at UN;cases UN
    |cons y r=>cases r with
     |nil=>exact⟨y,rfl⟩
     |cons _ _=>rw[Y3]at UN;simp at UN
   subst hy;refine⟨y,?_,BD (WL kM) kM (by rw[AGI,hg];rfl)⟩;have Xg:cs[fo]?=some y:=by
    rw[yi,e,AQh,AQv (AQf _),ARV];rfl
   simp[Instr.field,underlying,AGL,hfd,asAgg,part,har,h2,Xg]
theorem gk{t:TypeId}{w:World}{ti te:TI}(ht:Fp P t ti)(Et:Fp P ti.elem te)(hn:ti.Hh≠0){kk:IntKind}{j:Int}(h0:0<=j)(h1:j<(ti.Hh:Int))(b f:Nat) :
    (Instr.indexAt t (.pointer (some ⟨b,f,none⟩)) (.int kk j)).run P w=.ok (.pointer (some ⟨b,f+j.toNat*te.ty.size,none⟩)) w:=by
 have hu:=ht.Hh hn;simp[Instr.indexAt,asIntOf,run_underlying hu,Instr.sureAddr,h0,h1,D9 Et,Z9]
theorem fH{t:TypeId}{x i:Operand}(ho:o.op=.indexAddr t x i){ti te:TI}(ht:Fp P t ti)(Et:Fp P ti.elem te)(hn:ti.Hh≠0){ks:ATO Nat}{kk:IntKind}{j:Int}(hi:σ.Cr i=.AB ks (.int kk) j)
    (h0:0<=j) (h1:j<(ti.Hh:Int)) {v:AV}
    (hv : (match σ.Cr x with
          |.ptr k q p f=>some (.ptr k q (p++[j.toNat]) (f+j.toNat*te.ty.size))
          |.FQ ks t' y=>if VB t' j.toNat=some (j.toNat*te.ty.size)then match XM ks t' y j.toNat with |some (.AB _ u z)=>some (.FQ ks u z)|_=>none else none
          |_=>none)=some v):OA P σ o ⟨v,σ.Aj,[]⟩ :=
 .Je <| Mg (s:=λρ=>Instr.indexAt t (ρ x) (ρ i)) (λρ=>by simp[execOp,ho]) λa w g BX=>by
  have hix:=A0 BX i;rw[hi]at hix;have hie:=DR hix;have Yp:=A0 BX x;rw[hie];split at hv
  ·rename_i k q p f hq;injection hv with hv;subst hv;rw[hq]at Yp;obtain⟨hk,g0,g1,b,hb,e⟩:=LX Yp;rw[e];refine⟨_,gk ht Et hn h0 h1 b _,?_⟩;rw[ARe];exact fv hk g0 g1 hb
  ·rename_i ks t' y hq;rw[hq]at Yp;split at hv
   ·rename_i QJ;split at hv
    ·rename_i UO u z hz;injection hv with hv;subst hv;obtain⟨hk,b,off,ds,e0,ha,hr,hc⟩:=ZA Yp;obtain⟨c0,c1,c2,e,yi,_,⟨u',y',heq,gd⟩,_⟩:=ZK (g:=g) hk _ _ y ds _ hr hz;injection heq with _ h2 h3;subst h2;obtain rfl:=eq_of_heq h3;rw[QJ]at yi;injection yi with yi;rw[e0];refine⟨_,gk ht Et hn h0 h1 b off,fw hk ha gd λq' u rN=>?_⟩;rw[ARe];refine hc _ u ?_;rw[e,AQh,AQv (by omega),show j.toNat*te.ty.size+q'-c0.length=q' by omega,AQw (A7 rN)];exact rN
    ·cases hv
   ·cases hv
  ·cases hv
end
def G.add(g:G)(n b:Nat)(i:BI):G:=⟨λq=>if q=b then .BV n []else g.own q,λk=>if k=n then i else g.A5 k⟩
def G.RU(g:G)(rs:ATO Nat):G:=⟨λq=>match g.own q with |.BV j r=>if j∈rs then .Jd else .BV j r |t=>t,g.A5⟩
section
variable {w:World} {g:G} {bs:ATO Blk}
theorem Vp(H:Bo w g bs){b:Nat}(h:g.own b≠.no):b<w.heap.size:=by
 rcases AQk b w.heap.size with h' |h'
 ·exact h'
 ·exact(h (H.B7 b h')).elim
theorem Step.add(H:Bo w g bs)(o:Obj)(i:BI):Step [] bs.length w g (w.alloc o) (g.add bs.length w.heap.size i) where
 os:=rfl
 tape:=rfl
 output:=rfl
 size:=by show w.heap.size<=(w.heap.push o).size;simp
 no b hb h:=by
  refine⟨by simp[G.add,h,Nat.ne_of_lt hb],heap_alloc_old w o b hb⟩
 Jd b h:=by
  have hb:=Vp H (b:=b) (by rw[h];simp);exact⟨by simp[G.add,h,Nat.ne_of_lt hb],heap_alloc_old w o b hb⟩
 BV b k p h hk _:=by
  have hb:=Vp H (b:=b) (by rw[h];simp);exact⟨by simp[G.add,h,Nat.ne_of_lt hb],heap_alloc_old w o b hb⟩
 A5 k hk:=by simp[G.add,Nat.ne_of_lt hk]
theorem Adj(H:Bo w g bs)(o:Obj)(i:BI):∀b,(w.alloc o).heap.size<=b->(g.add bs.length w.heap.size i).own b=.no:=by
 intro b hb;have Nt:(w.alloc o).heap.size=w.heap.size+1:=by show(w.heap.push o).size=_;simp
 have zG:w.heap.size+1<=b:=by omega
 have:b≠w.heap.size:=by omega
 simp[G.add,this,H.B7 b (by omega)]
theorem Bo.new(H:Bo w g bs){o:Obj}{i:BI}{b:Blk}(hb:Nu (w.alloc o) (g.add bs.length w.heap.size i) (bs.length+1) bs.length b):Bo (w.alloc o) (g.add bs.length w.heap.size i) (bs++[b]) :=
 H.push (Step.add H o i) (Adj H o i) hb
theorem Step.RU(rs:ATO Nat)(n:Nat)(w:World)(g:G):Step rs n w g w (g.RU rs) where
 os:=rfl
 tape:=rfl
 output:=rfl
 size:=AQf _
 no b _ h:=⟨by simp[G.RU,h],rfl⟩
 Jd b h:=⟨by simp[G.RU,h],rfl⟩
 BV b k p h _ hm:=⟨by simp[G.RU,h,hm],rfl⟩
 A5 _ _:=rfl
theorem Bo.bZ{w':World}{g':G}{BJ:ATO Nat}{HH:ATO Blk}(H:Bo w g bs)(s:Step BJ bs.length w g w' g')(hf:∀b,w'.heap.size<=b->g'.own b=.no)(hl:bs.length<=HH.length)
    (hb:∀(j:Nat) (x:Blk),HH[j]?=some x->x=.Bg\/(j∉BJ/\∃y,bs[j]?=some y/\x=y.drop λk=>BJ.contains k)\/Nu w' g' HH.length j x):Bo w' g' HH :=
 ⟨hf,λj x hx=>by
  rcases hb j x hx with h |⟨hm,y,hy,rfl⟩|h
  ·subst h;trivial
  ·exact(H.MP j y hy).step s hl (A7 hy) hm
  ·exact h⟩
theorem DC{BJ:ATO Nat}{bs:ATO Blk}{i:Nat}{x:Blk}(h:(Bh BJ bs)[i]?=some x):∃y,bs[i]?=some y/\x=y.drop λk=>BJ.contains k:=by
 unfold Bh at h;split at h
 ·exact⟨x,h,by rw[show(λk=>([]:ATO Nat).contains k)=λ_=>false from funext λ_=>rfl,cE]⟩
 ·rw[AQC]at h;cases hs:bs[i]? with
  |none=>rw[hs]at h;cases h
  |some y=>rw[hs]at h;injection h with h;exact⟨y,rfl,h.symm⟩
theorem AH(BJ:ATO Nat)(bs:ATO Blk):(Bh BJ bs).length=bs.length:=by unfold Bh;split<;>simp
theorem Bd:∀(rs:ATO Nat) (bs:ATO Blk),(Blk.G4 bs rs).length=bs.length
 |[],_=>rfl
 |k::r,bs=>by rw[Blk.G4,Bd r,AQi]
theorem Lf:∀{rs:ATO Nat} {bs:ATO Blk} {j:Nat} {x:Blk},(Blk.G4 bs rs)[j]?=some x->x=.Bg\/(j∉rs/\bs[j]?=some x)
 |[],_,_,_,h=>.inr ⟨by simp,h⟩
 |k::r,bs,j,x,h=>by
  rcases Lf (rs:=r) h with h' |⟨h1,h2⟩
  ·exact .inl h'
  ·rw[AQy]at h2;split at h2
   ·split at h2
    ·injection h2 with h2;exact .inl h2.symm
    ·cases h2
   ·rename_i MO;exact .inr ⟨by simp;exact⟨λe=>MO e.symm,h1⟩,h2⟩
end
section
variable {P:Program} {σ:St} {o:Oper} {en:GX} {e:H8}
theorem lV{x:AV}{el:TypeId}{f:Act->Value}(ho:∀a:Act,∀w:World,∀g:G,LA w g σ a->(execOp a.eval o).run P w=.ok (.value (.pointer (some ⟨w.heap.size,0,none⟩))) (w.alloc (.cells (f a).cells el))/\∃cs,CN w g σ.Aj.length false x cs/\(f a).cells=cs.toArray) :
    OA P σ o ⟨.ptr σ.Aj.length 0 [] 0,σ.Aj++[.box x],[]⟩ where
 grow:=by simp
 ext _:=⟨_,rfl⟩
 wp a w g hs next Q hn:=by
  obtain⟨hr,cs,UA,hc⟩:=ho a w g hs;unfold Oper.wp;rw[hr];have st:=Step.add hs.heap (.cells (f a).cells el) ⟨some ⟨w.heap.size,0,none⟩,1,1,0⟩;refine hn _ _ (g.add σ.Aj.length w.heap.size ⟨some ⟨w.heap.size,0,none⟩,1,1,0⟩) (hs.heap.new ?_) ?_ st
  ·refine⟨by simp[G.add],w.heap.size,(f a).cells,el,by simp[G.add],by simp[G.add],heap_alloc_new w _,?_⟩;have e1:(f a).cells.toList=cs:=by rw[hc]
   rw[e1];exact UA.RO st (AQK _)
  ·have:=fv (w:=w.alloc (.cells (f a).cells el)) (g:=g.add σ.Aj.length w.heap.size ⟨some ⟨w.heap.size,0,none⟩,1,1,0⟩) (n:=(σ.Aj++[Blk.box x]).length) (k:=σ.Aj.length) (i:=0) (p:=[]) (o:=0) (b:=w.heap.size)
     (by simp) (ARC _) (by simp[G.add]) (by simp[G.add])
   simpa using this
theorem AmZ{el:TypeId}{x:Operand}(ho:o.op=.box el x)(ht:(σ.Cr x).ak=true):OA P σ o ⟨.ptr σ.Aj.length 0 [] 0,σ.Aj++[.box (σ.Cr x)],[]⟩ :=
 lV (el:=el) (f:=λa=>a.eval x) λa w g hs=>by
  obtain⟨h1,h2⟩:=AaI ht;obtain⟨cs,UA,hv⟩:=B9 h2 h1 (A0 hs x);exact⟨by simp[execOp,ho,Instr.box,newVar,newRow],cs,UA,cy hv UA.one⟩
theorem Aea{el:TypeId}(ho:o.op=.alloc el){ti:TI}(ht:Fp P el ti):OA P σ o ⟨.ptr σ.Aj.length 0 [] 0,σ.Aj++[.box ti.ty.aP],[]⟩:=by
 obtain⟨i,z,hi,_,_,hz,hc,_⟩:=ht.info;refine lV (el:=el) (f:=λ_=>z) λa w g hs=>⟨?_,RR ti.ty,Zu,by rw[<-hc]⟩;simp[execOp,ho,Instr.alloc,zeroValue,typeInfo,hi,hz,newVar,newRow]
theorem fq(z:Array Value){s l c:Nat}(hs:z.size=s)(h0:0<s)(hl:l<=c):(madeCells z (c*s)).toList.take (l*s)=(List.replicate l (Value.agg z)).flatMap λv=>v.cells.toList:=by
 apply ARn;intro k;rw[Great.flat_get h0 _ (λv hv=>by rw[List.eq_of_mem_replicate hv];exact hs),AQ8];have hm:l*s<=c*s:=AQ3 s hl;by_cases hk:k<l*s
 ·have hd:k/s<l:=(Nat.div_lt_iff_lt_mul h0).2 hk;have hr:k%s<s:=Nat.mod_lt _ h0;rw[AQr hk,List.getElem?_replicate,AQr hd];have XC:k<(madeCells z (c*s)).toList.length:=by simp[madeCells];omega
  rw[ARi XC];have hr':k%s<z.size:=by omega
  simp only[madeCells,Value.cells,hs];simp;rw[AQZ hr',getElem!_pos z _ hr']
 ·have hd:¬k/s<l:=λh=>hk ((Nat.div_lt_iff_lt_mul h0).1 h);rw[AQs hk,List.getElem?_replicate,AQs hd];rfl
theorem ZW{α:Type}{I:Nat->α->ATO Value->Prop}{x:α}{v:Value}(h:∀i,I i x v.cells.toList):∀(l i:Nat),Bu I i (List.replicate l x) ((List.replicate l v).flatMap λv=>v.cells.toList)
 |0,_=>rfl
 |l+1,i=>by
  rw[AR6,AR6,List.flatMap_cons];exact⟨_,_,rfl,h i,ZW h l (i+1)⟩
theorem lJ{t:Ty}(h:t.row=true):t.data=true/\0<t.size:=by
 simp only[Ty.row,AQg,ART]at h;exact⟨h.1,ARJ h.2⟩
theorem qe{w:World}{own:Nat->Vf}{k:Nat}{t:Ty}(h:t.data=true){v:Value}(hv:v.cells.toList=RR t)(l:Nat)(fi:FI) :
    uc w own k (fi.mode t) t (List.replicate l t.zero) ((List.replicate l v).flatMap λv=>v.cells.toList):=by
 unfold FI.mode;split
 ·exact ZW (λi=>by rw[hv];exact J9.zero h) l 0
 ·exact IJ.2 (ZW (I:=λ_=>H9 w (Al own []) t) (λi=>by rw[hv];exact H9.zero h) l 0)
theorem VA(fi:FI)(t:Ty):(fi.mode t).Cx=[]:=by unfold FI.mode;split<;>rfl
theorem AGV{l c:Int}(h0:0<=l)(h:l<=c)(hm:c<=9223372036854775807):l.toNat<=c.toNat/\c.toNat<=maxLen:=by
 simp only[maxLen];omega
theorem Ajq{t:TypeId}{l c:Operand}(ho:o.op=.makeSlice t l c){fi:FI}{ti te:TI}(ht:Fp P t ti)(Et:Fp P ti.elem te)(Jc:ti.EA=true)
    (h:pw fi σ.Aj ti.elem te (σ.Cr l) (σ.Cr c) some=some e):OA P σ o e:=by
 unfold pw at h;split at h
 ·rename_i x1 x2 ks1 k1 lv ks2 k2 cv hl hc;split at h
  ·rename_i hg;obtain⟨OY,h0,hlc,vE,vM⟩:=hg;injection h with h;subst h;obtain⟨kE,B5⟩:=lJ OY;obtain⟨i,z,hi,Nt,hbs,hz,oS,_⟩:=Et.info;refine⟨by simp,λ_=>⟨_,rfl⟩,λa w g hs next Q hn=>?_⟩
   have e1:=A0 hs l;rw[hl]at e1;have e1:=DR e1;have e2:=A0 hs c;rw[hc]at e2;have e2:=DR e2;have hr:=run_make (P:=P) w t ti.elem i z (BH ht Jc) hi hz k1 k2 lv cv h0 hlc (by rw[hbs];exact vE) vM;unfold Oper.wp;simp only[execOp,ho,e1,e2,Sem.run_bind,hr,Result.andThen_ok];obtain⟨OC,hcm⟩:=AGV h0 hlc vM;have st:=Step.add hs.heap (.cells (madeCells z.cells (cv.toNat*i.size)) ti.elem) ⟨some ⟨w.heap.size,0,none⟩,lv.toNat,cv.toNat,te.ty.size⟩;refine hn _ _ _ (hs.heap.new ?_) ?_ st
   ·refine⟨(by rw[VA];intro j hj;cases hj),by simp[G.add],by simp[G.add],B5,.inr ⟨w.heap.size,_,_,by simp[G.add],by simp[G.add],⟨_,.inr rfl,heap_alloc_new w _⟩,by simpa [G.add]using OC,by simpa [G.add]using hcm,by simp[G.add,size_madeCells,Nt],rfl,?_⟩⟩;rw[AQG,Nt];rw[fq z.cells (by rw[<-AQ9,oS,S0]) B5 OC];exact qe kE (by show z.cells.toList=_;exact oS) _ fi
   ·refine BD (cs:=[_]) rfl ⟨by simp,rfl⟩ ?_;simp[Cp,AV.isAgg,G.add]
  ·cases h
 ·cases h
end
def G.V1(g:G)(f:Nat->ATO Nat->Vf)(ob:ATP Nat)(n:Nat)(i:BI):G :=
 ⟨λq=>if ob=some q then .BV n []else match g.own q with |.BV j r=>f j r |t=>t,λk=>if k=n then i else g.A5 k⟩
section
variable {w w':World} {g:G} {bs:ATO Blk} {f:Nat->ATO Nat->Vf} {ob:ATP Nat} {n N:Nat} {i:BI} {BJ:ATO Nat}
theorem Step.V1(fr:∀b,w.heap.size<=b->g.own b=.no)(hos:w'.os=w.os)(hta:w'.tape=w.tape)(hou:w'.output=w.output)(Nt:w.heap.size<=w'.heap.size)
    (Wd:∀q,q<w.heap.size->(∀k p,g.own q=.BV k p->k∉BJ)->w'.heap[q]?=w.heap[q]?) (zO:∀q,ob=some q->w.heap.size<=q) (hN:n<=N) (hf:∀j r,j<n->j∉BJ->f j r=.BV j r) :
    Step BJ n w g w' (g.V1 f ob N i):=by
 have lt:∀b,g.own b≠.no->b<w.heap.size:=λb h=>by
  rcases AQk b w.heap.size with h' |h'
  ·exact h'
  ·exact(h (fr b h')).elim
 have nob:∀b,b<w.heap.size->¬(ob=some b):=λb hb e=>by have:=zO b e;omega
 refine⟨hos,hta,hou,Nt,λb hb h=>⟨?_,Wd b hb λk p e=>?_⟩,λb h=>⟨?_,Wd b (lt b (by rw[h];simp)) λk p e=>?_⟩,λb k p h hk hm=>⟨?_,Wd b (lt b (by rw[h];simp)) λk' p' e=>?_⟩,λk hk=>?_⟩
 ·simp[G.V1,nob b hb,h]
 ·rw[h]at e;cases e
 ·simp[G.V1,nob b (lt b (by rw[h];simp)),h]
 ·rw[h]at e;cases e
 ·simp[G.V1,nob b (lt b (by rw[h];simp)),h,hf k p hk hm]
 ·rw[h]at e;injection e with e;subst e;exact hm
 ·have:k≠N:=by omega
  simp[G.V1,this]
theorem Ny(fr:∀b,w.heap.size<=b->g.own b=.no)(Nt:w.heap.size<=w'.heap.size)(zO:∀q,ob=some q->q<w'.heap.size):∀b,w'.heap.size<=b->(g.V1 f ob N i).own b=.no:=by
 intro b hb;have h1:¬(ob=some b):=λe=>by have:=zO b e;omega
 simp[G.V1,h1,fr b (AQD Nt hb)]
end
def Lg:AV->ATO Nat->ATO (Nat×ATO Nat)
 |.AK k,p=>[(k,p)]
 |.pr a b,p=>Lg a (0::p)++Lg b (1::p)
 |_,_=>[]
theorem GU:∀(a:AV) (p:ATO Nat),(Lg a p).map (·.1)=a.R5
 |.AK k,_=>rfl
 |.mp _,_=>rfl
 |.pr a b,p=>by simp[Lg,AV.R5,GU a,GU b]
 |.AB _ _ _,_=>rfl
 |.zs,_=>rfl
 |.ptr _ _ _ _,_=>rfl
 |.FQ _ _ _,_=>rfl
 |.KG,_=>rfl
 |.fn _ _,_=>rfl
 |.cons _ _,_=>rfl
 |.nil,_=>rfl
 |.UT _ _ _ _ _,_=>rfl
 |.WM _ _ _ _ _ _,_=>rfl
 |.un _,_=>rfl
def lf:ATO (Nat×ATO Nat)->Nat->ATP (ATO Nat)
 |[],_=>none
 |(k,p)::r,j=>if k=j then some p else lf r j
theorem dt:∀{M:ATO (Nat×ATO Nat)},nodup (M.map (·.1))=true->∀{j p},(j,p)∈M->lf M j=some p
 |(k,q)::r,hn,j,p,h=>by
  simp only[AQU,nodup,AQg,ARv]at hn;simp only[lf];rcases List.mem_cons.1 h with h |h
  ·injection h with h1 h2;subst h1;subst h2;simp
  ·split
   ·rename_i e;subst e;have:k∈r.map (·.1):=List.mem_map.2 ⟨_,h,rfl⟩;simp at hn this;obtain⟨x,hx⟩:=this;exact(hn.1 x hx).elim
   ·exact dt hn.2 h
theorem Vb:∀{M:ATO (Nat×ATO Nat)} {j:Nat},j∉M.map (·.1)->lf M j=none
 |[],_,_=>rfl
 |(k,q)::r,j,h=>by
  simp only[AQU,ARI,not_or]at h;simp only[lf,AQs (Ne.symm h.1)];exact Vb h.2
section
variable {w:World} {g:G} {bs:ATO Blk}
theorem Aes(H:Bo w g bs){OO:Nat->Vf}{k:Nat}:∀(t:Ty) (v:AV) (y:t.V) (cs:ATO Value) (p:ATO Nat),rd bs t v=some y->v.YZ=true->(∀j∈v.R5,dK bs j=some .Aw) ->
    (∀jq∈Lg v p,∀b q,g.own b=.BV jq.1 q->OO b=.BV k (q++jq.2))->CN w g bs.length false v cs->J9 w OO k t p y cs:=by
 have plain:∀(t:Ty) (ks:ATO Nat) (u:Ty) (y:u.V) (x:t.V) (cs:ATO Value) (p:ATO Nat),JA u t y=some x->u.BZ=true->CN w g bs.length false (.AB ks u y) cs->J9 w OO k t p x cs:=by
  intro t ks u y x cs p h hf hx;obtain⟨e,he⟩:=BR h;subst e;simp only at he;subst he;exact(J9.BZ hf).2 ((H9.BZ hf).1 hx.2)
 intro t;induction t with
 |AG a b iha ihb =>
  intro v y cs p h hf hd hm hx;simp only[rd]at h;split at h
  ·exact plain _ _ _ _ _ _ _ h (by simpa [AV.YZ]using hf) hx
  ·rename_i u z;split at h
   ·rename_i y1 y2 h1 h2;injection h with h;subst h;obtain⟨c,d,e,kM,yn⟩:=hx;simp only[AV.YZ,AQg]at hf;exact⟨c,d,e,iha u y1 c _ h1 hf.1 (λj hj=>hd j (by simp[AV.R5,hj])) (λjq hj=>hm jq (by simp[Lg,hj])) kM,
     ihb z y2 d _ h2 hf.2 (λj hj=>hd j (by simp[AV.R5,hj])) (λjq hj=>hm jq (by simp[Lg,hj])) yn⟩
   ·cases h
  ·cases h
 |sl t _ =>
  intro v y cs p h hf hd hm hx;simp only[rd]at h;split at h
  ·exact plain _ _ _ _ _ _ _ h (by simpa [AV.YZ]using hf) hx
  ·injection h with h;subst h;obtain⟨ad,e⟩:=hx;exact⟨ad,0,e,.inl ⟨rfl,rfl⟩⟩
  ·rename_i j;split at h
   ·rename_i el m u ys hb;obtain⟨e',he⟩:=BR h;injection e' with e';subst e';simp only at he;subst he;obtain⟨hk,hc⟩:=hx;have An3:=hd j (by simp[AV.R5]);simp only[dK,hb,AQb]at An3;subst An3;obtain⟨_,hlen,QL,B5,hr⟩:=H.MP j _ hb;have hmj:=hm (j,p) (by simp[Lg]);rw[hlen]at hc;refine⟨_,_,hc,hr.imp id λ⟨b,BG,ds,ha,Cw,⟨el,_,hh⟩,h1,h2,h3,h4,MN⟩=>⟨b,el,BG,ds,ha,by simpa using hmj b [] Cw,hh,h1,h2,h3,h4,?_⟩⟩;exact Bu.mono (λi x c r=>r.mono λb q hb=>⟨by simpa using hmj b _ hb,rfl⟩) MN
   ·cases h
  ·cases h
 |_ =>
  intro v y cs p h hf hd hm hx;simp only[rd]at h;split at h
  ·exact plain _ _ _ _ _ _ _ h (by simpa [AV.YZ]using hf) hx
  ·cases h
theorem bB:∀(v:AV) (j:Nat),j∈v.Vx bs->j∈v.R5\/j∈v.gV\/∃r∈v.R5,∃l,dK bs r=some (.sh l)/\j∈l
 |.AB ks _ _,j,h=>.inr (.inl h)
 |.AK k,j,h=>by
  simp only[AV.Vx]at h;rcases List.mem_cons.1 h with h |h
  ·exact .inl (by simp[AV.R5,h])
  ·cases hm:dK bs k with
   |none=>rw[hm]at h;cases h
   |some m =>
    rw[hm]at h;cases m with
    |Aw=>cases h
    |sh l=>exact .inr (.inr ⟨k,by simp[AV.R5],l,hm,h⟩)
 |.pr a b,j,h=>by
  simp only[AV.Vx]at h;rcases List.mem_append.1 h with h |h
  ·rcases bB a j h with h |h |⟨r,h,l,hl⟩
   ·exact .inl (by simp[AV.R5,h])
   ·exact .inr (.inl (by simp[AV.gV,h]))
   ·exact .inr (.inr ⟨r,by simp[AV.R5,h],l,hl⟩)
  ·rcases bB b j h with h |h |⟨r,h,l,hl⟩
   ·exact .inl (by simp[AV.R5,h])
   ·exact .inr (.inl (by simp[AV.gV,h]))
   ·exact .inr (.inr ⟨r,by simp[AV.R5,h],l,hl⟩)
 |.zs,_,h=>by cases h
 |.ptr _ _ _ _,_,h=>by cases h
 |.FQ _ _ _,_,h=>by cases h
 |.KG,_,h=>by cases h
 |.fn _ _,_,h=>by cases h
 |.cons _ _,_,h=>by cases h
 |.nil,_,h=>by cases h
 |.UT _ _ _ _ _,_,h=>by cases h
 |.WM _ _ _ _ _ _,_,h=>by cases h
 |.mp _,_,h=>by cases h
 |.un _,_,h=>by cases h
end
theorem OV{Yk:Nat->Bool}:∀{a:AV},(∀k∈a.Cx,Yk k=false)->a.drop Yk=a
 |.AB ks t x,h=>by
  simp only[AV.drop];rw[AQs];intro hc;obtain⟨k,hk,hb⟩:=List.any_eq_true.1 hc;rw[h k hk]at hb;cases hb
 |.FQ ks t x,h=>by
  simp only[AV.drop];rw[AQs];intro hc;obtain⟨k,hk,hb⟩:=List.any_eq_true.1 hc;rw[h k hk]at hb;cases hb
 |.pr a b,h=>by
  simp only[AV.drop];rw[OV λk hk=>h k (by simp[AV.Cx,hk]),OV λk hk=>h k (by simp[AV.Cx,hk])]
 |.fn g c,h=>by
  simp only[AV.drop];rw[OV λk hk=>h k (by simpa [AV.Cx]using hk)]
 |.cons a b,h=>by
  simp only[AV.drop];rw[OV λk hk=>h k (by simp[AV.Cx,hk]),OV λk hk=>h k (by simp[AV.Cx,hk])]
 |.zs,_=>rfl
 |.AK _,_=>rfl
 |.mp _,_=>rfl
 |.ptr _ _ _ _,_=>rfl
 |.KG,_=>rfl
 |.nil,_=>rfl
 |.UT k i p o e,h=>by simp[AV.drop,h k (by simp[AV.Cx])]
 |.WM k i p o j u,h=>by simp[AV.drop,h k (by simp[AV.Cx])]
 |.un _,_=>rfl
theorem D8{w:World}{own:Nat->Vf}{k:Nat}{m:RM}{t:Ty}{xs:ATO t.V}{ds:ATO Value}:uc w own k m t xs ds↔Bu (UI w own k m t) 0 xs ds:=by
 cases m with
 |Aw=>exact Iff.rfl
 |sh ks=>exact IJ
theorem UI.len{w:World}{own:Nat->Vf}{k:Nat}{m:RM}{t:Ty}{i:Nat}{x:t.V}{cs:ATO Value}(h:UI w own k m t i x cs):cs.length=t.size:=by
 cases m with
 |Aw=>exact J9.len h
 |sh ks=>exact H9.len h
open Classical in
theorem UI.on{w w':World}{own OO:Nat->Vf}{k k':Nat}{m m':RM}{t:Ty}{i i':Nat}{x:t.V}{cs:ATO Value}(h:UI w own k m t i x cs)
    (hm:match m,m' with
     |.Aw,.Aw=>∀b q,own b=.BV k (q++[i])->OO b=.BV k' (q++[i'])/\w'.heap[b]?=w.heap[b]?
     |.sh ks,.sh UO=>∀b,Al own ks b->Al OO UO b/\w'.heap[b]?=w.heap[b]?
     |.Aw,.sh UO=>∀b q,own b=.BV k (q++[i])->Al OO UO b/\w'.heap[b]?=w.heap[b]?
     |.sh _,.Aw=>False):UI w' OO k' m' t i' x cs:=by
 cases m with
 |Aw=>cases m' with
  |Aw=>exact J9.mono (p:=[i]) (p':=[i']) hm h
  |sh UO =>
   have h1:J9 w' (λb=>if(∃q,own b=.BV k (q++[i]))then own b else .no) k t [i] x cs :=
    J9.mono (p:=[i]) (p':=[i]) (λb q hb=>⟨by rw[AQr ⟨q,hb⟩];exact hb,(hm b q hb).2⟩) h
   exact J9.rd (λb q hb=>by
    split at hb
    ·rename_i hq;obtain⟨q',hq⟩:=hq;exact(hm b q' hq).1
    ·cases hb) h1
 |sh ks=>cases m' with
  |Aw=>exact hm.elim
  |sh UO=>exact H9.mono hm h
def Aox(bs:ATO Blk)(v:AV):ATO Nat:=v.R5.flatMap (λk=>match dK bs k with |some (.sh l)=>l |_=>[])
theorem QE{bs:ATO Blk}{m m':RM}{t:Ty}{v:AV}{y:t.V}{rs:ATO Nat}(h:take bs m t v=some (y,m',rs)):rd bs t v=some y/\rs=v.R5/\nodup v.R5=true /\
    ((m=.Aw/\m'=.Aw/\v.YZ=true/\∀j∈v.R5,dK bs j=some .Aw)\/∃ks,m=.sh ks/\m'=.sh (ks++v.gV++Aox bs v)):=by
 unfold take at h;split at h
 ·cases h
 ·rename_i y' hy
  dsimp only at h
  split at h
  ·split at h
   ·rename_i hc;simp only[AQg]at hc;simp only[AQb,AQm]at h;obtain⟨rfl,rfl,rfl⟩:=h;refine⟨hy,rfl,hc.1.2,.inl ⟨rfl,rfl,hc.1.1,λj hj=>?_⟩⟩;have:=List.all_eq_true.1 hc.2 j hj;split at this
    ·assumption
    ·cases this
   ·cases h
  ·split at h
   ·rename_i hc;simp only[AQg]at hc;simp only[AQb,AQm]at h;obtain⟨rfl,rfl,rfl⟩:=h;exact⟨hy,rfl,hc.1,.inr ⟨_,rfl,rfl⟩⟩
   ·cases h
theorem Ai8{w:World}{g:G}{bs:ATO Blk}(H:Bo w g bs){v:AV}:∀j∈Aox bs v,j<bs.length:=by
 intro j hj;obtain⟨r,_,hr⟩:=List.mem_flatMap.1 hj;split at hr
 ·rename_i l hl;unfold dK at hl;split at hl
  ·rename_i e m t xs hb;injection hl with hl;subst hl;exact(H.MP r _ hb).1 j hr
  ·cases hl
 ·cases hr
theorem tc{w:World}{g:G}{bs:ATO Blk}(H:Bo w g bs){m m':RM}{t:Ty}{v:AV}{y:t.V}{rs:ATO Nat}{cs:ATO Value}(h:take bs m t v=some (y,m',rs))(hx:CN w g bs.length false v cs)(hm:∀j∈m.Cx,j<bs.length):∀j∈m'.Cx,j<bs.length:=by
 obtain⟨_,_,_,hc⟩:=QE h;rcases hc with ⟨rfl,rfl,_⟩|⟨ks,rfl,rfl⟩
 ·exact hm
 ·intro j hj;rcases List.mem_append.1 hj with hj |hj
  ·rcases List.mem_append.1 hj with hj |hj
   ·exact hm j hj
   ·exact hx.scope j hj
  ·exact Ai8 H j hj
theorem dS{bs:ATO Blk}{m m':RM}{t:Ty}{v:AV}{y:t.V}{rs:ATO Nat}(h:take bs m t v=some (y,m',rs)):(∀j∈m.Cx,j∈m'.Cx)/\(m=.Aw↔m'=.Aw):=by
 obtain⟨_,_,_,hc⟩:=QE h;rcases hc with ⟨rfl,rfl,_⟩|⟨ks,rfl,rfl⟩
 ·exact⟨λ_ h=>h,Iff.rfl⟩
 ·exact⟨λj hj=>AQH _ (AQH _ hj),by simp⟩
theorem Xq{ks:ATO Nat}{m:RM}(h:nJ ks m=true):∀j∈m.Cx,j∉ks:=λj hj=>by
 have:=List.all_eq_true.1 h j hj;simpa using this
def XB(m:RM)(k:Nat)(M:ATO (Nat×ATO Nat))(j:Nat)(r:ATO Nat):Vf :=
 match lf M j with
 |none=>.BV j r
 |some path=>match m with |.Aw=>.BV k (r++path)|.sh _=>.Jd
theorem Qo{m:RM}{k:Nat}{M:ATO (Nat×ATO Nat)}{j:Nat}{r:ATO Nat}(h:j∉M.map (·.1)):XB m k M j r=.BV j r:=by simp[XB,Vb h]
def InR(w:World)(own:Nat->Vf)(k:Nat):RM->(t:Ty)->ATO Nat->t.V->ATO Value->Prop
 |.Aw,t,L,x,cs=>J9 w own k t L x cs
 |.sh ks,t,_,x,cs=>H9 w (Al own ks) t x cs
theorem AmY{w:World}{own:Nat->Vf}{k:Nat}{m:RM}{u:Ty}{y:u.V}{p:ATO Nat}{t:Ty}{i:Nat}{x x':t.V}{cs:ATO Value}{o:Nat}(hs:TU u y p t x=some x')(ho:Mf t p=some o)(h:UI w own k m t i x cs) :
    ∃c0 c1 c2,cs=c0++c1++c2/\c0.length=o/\c1.length=u.size/\∀T7,InR w own k m u (Vo p [i]) y T7->UI w own k m t i x' (c0++T7++c2):=by
 cases m with
 |Aw=>exact ZZ (Aou w own k) u y p t [i] x x' cs o hs ho h
 |sh ks=>exact ZZ (AG1 w (Al own ks)) u y p t [i] x x' cs o hs ho h
theorem ta{w w':World}{g:G}{bs:ATO Blk}(H:Bo w g bs){m m':RM}{t:Ty}{v:AV}{y:t.V}{rs:ATO Nat}{cs:ATO Value}(h:take bs m t v=some (y,m',rs))(hx:CN w g bs.length false v cs){k:Nat}{M:ATO (Nat×ATO Nat)}{L:ATO Nat}{OO:Nat->Vf}{m'':RM}
    (hM:∀jq∈Lg v L,lf M jq.1=some jq.2) (RY:∀j∈m'.Cx,j∈m''.Cx) (QJ:∀j∈m''.Cx,lf M j=none) (gZ:m=.Aw↔m''=.Aw)
    (Cw:∀b j r,g.own b=.BV j r->(j∈M.map (·.1)\/j∈m''.Cx)->OO b=XB m k M j r) (kG:∀b,g.own b=.Jd->OO b=.Jd)
    (AhQ:∀b,g.own b=.Jd\/(∃j r,g.own b=.BV j r/\(j∈M.map (·.1)\/j∈m''.Cx))->w'.heap[b]?=w.heap[b]?):InR w' OO k m'' t L y cs:=by
 obtain⟨hy,rfl,hn,hc⟩:=QE h;have Aiu:∀j p,lf M j=some p->j∈M.map (·.1):=λj p hj=>Classical.byContradiction λhn=>by rw[Vb hn]at hj;cases hj
 have AG2:∀j∈v.R5,∃p,lf M j=some p:=λj hj=>by
  rw[<-GU v L]at hj;obtain⟨jq,hjq,rfl⟩:=List.mem_map.1 hj;exact⟨_,hM jq hjq⟩
 rcases hc with ⟨rfl,rfl,hf,hd⟩|⟨ks,rfl,rfl⟩
 ·obtain rfl:=gZ.1 rfl;have h1:J9 w (λb=>match g.own b with |.BV j r=>(match lf M j with |some p=>.BV k (r++p)|none=>.no)|_=>.no) k t L y cs :=
   Aes H t v y cs L hy hf hd (λjq hj b q hb=>by simp[hb,hM jq hj]) hx
  refine J9.mono (p:=L) (p':=L) (λb q hb=>?_) h1;split at hb
  ·rename_i j r hj;split at hb
   ·rename_i p hp;have hm:=Aiu j p hp;refine⟨?_,AhQ b (.inr ⟨j,r,hj,.inl hm⟩)⟩;rw[Cw b j r hj (.inl hm)];simp only[XB,hp];exact hb
   ·cases hb
  ·cases hb
 ·obtain ⟨Ain,rfl⟩:∃l,m''=.sh l:=by
    cases m'' with
    |Aw=>have:=gZ.2 rfl;cases this
    |sh l=>exact⟨l,rfl⟩
  have key:∀b j q,g.own b=.BV j q->(j∈v.R5\/j∈Ain)->Al OO Ain b:=by
   intro b j q hb hj;rcases hj with hj |hj
   ·obtain⟨p,hp⟩:=AG2 j hj;exact .inl (by rw[Cw b j q hb (.inl (Aiu j p hp))];simp[XB,hp])
   ·exact .inr ⟨j,hj,q,by rw[Cw b j q hb (.inr hj)];simp[XB,QJ j hj]⟩
  obtain⟨hr,hl⟩:=Ri H t v y cs hy hx;refine hr.mono λb hb=>?_;rcases hb with hb |⟨j,hj,q,hq⟩
  ·exact⟨.inl (kG b hb),AhQ b (.inl hb)⟩
  ·have R8:j∈v.R5\/j∈Ain:=by
     rcases bB v j hj with h |h |⟨r,h,l,hm,aA⟩
     ·exact .inl h
     ·exact .inr (RY j (AQH _ (AQI _ h)))
     ·exact .inr (RY j (AQI _ (List.mem_flatMap.2 ⟨r,h,by rw[hm];exact aA⟩)))
   refine⟨key b j q hq R8,AhQ b (.inr ⟨j,q,hq,?_⟩)⟩;rcases R8 with h |h
   ·obtain⟨p,hp⟩:=AG2 j h;exact .inl (Aiu j p hp)
   ·exact .inr h
section
variable {P:Program} {σ:St} {o:Oper} {en:GX} {e:H8} {w:World} {g:G}
theorem UX{t:Nat}{ti:TI}(ht:Fp P t ti){b off:Nat}{BG:Array Value}{el:TypeId}(hh:w.heap[b]?=some (.cells BG el (0,0))){v:Value}{cs:ATO Value}(hv:v.cells=cs.toArray)(hl:cs.length=ti.ty.size)
    (RX:off+cs.length<=BG.size) (h1:∀c∈cs,c.oneCell'=true) :
    (storeVar t ⟨b,off,none⟩ v).run P w=.ok () (w.setRow b (BG.toList.take off++cs++BG.toList.drop (off+cs.length)).toArray):=by
 have hs:=run_storeCells_at P b off el cs 0 BG w hh (by grind) h1;simp[storeVar,D9 ht,hv,hl,hs]
theorem kS{BJ:ATO Nat}{b k:Nat}{cs:Array Value}(ho:g.own b=.BV k [])(hk:k∈BJ):∀q,q<w.heap.size->(∀k p,g.own q=.BV k p->k∉BJ)->(w.setRow b cs).heap[q]?=w.heap[q]?:=by
 intro q _ hq;refine setRow_other w b q cs λe=>?_;subst e;exact hq k [] ho hk
theorem I0{f:Nat->ATO Nat->Vf}{ob:ATP Nat}{n:Nat}{i:BI}{b j:Nat}{r:ATO Nat}(zO:ob≠some b)(h:g.own b=.BV j r):(g.V1 f ob n i).own b=f j r:=by simp[G.V1,zO,h]
theorem Wv{f:Nat->ATO Nat->Vf}{ob:ATP Nat}{n:Nat}{i:BI}{b:Nat}(zO:ob≠some b)(h:g.own b=.Jd):(g.V1 f ob n i).own b=.Jd:=by simp[G.V1,zO,h]
theorem xx(H:Bo w g σ.Aj){t:Nat}{ti:TI}(ht:Fp P t ti){k:Nat}{i:Int}{p:ATO Nat}{of:Nat}{a pI a' v:AV}(hb:σ.Aj[k]?=some (.box a))(hg:a.Wz p=some pI)(hs:a.bQ p v=some a')
    (hc:v.ak/\a.AdT p=some of/\pI.size=v.size/\v.size=ti.ty.size/\v.isAgg=ti.ty.isAgg/\a'.Cx.contains k=false) {u vv:Value} (hu:Cb w g σ.Aj.length (.ptr k i p of) u) (hv:Cb w g σ.Aj.length v vv) :
    ∃w' g',(Instr.storeAt t u vv).run P w=.ok () w'/\Bo w' g' ((Bh [k] σ.Aj).set k (.box a'))/\Step [k] σ.Aj.length w g w' g':=by
 obtain⟨Awe,oR,Nt,BX,vC,YG⟩:=hc;obtain⟨hk,h0,h1,b,OB,rfl⟩:=LX hu;obtain⟨hlen,b',cs,el,ha,ho,hh,hx⟩:=H.MP k _ hb;rw[OB]at ha;injection ha with ha;injection ha with ha;subst ha;obtain⟨Sp,Y8⟩:=AaI Awe;obtain⟨cv,YE,hvv⟩:=B9 Y8 Sp hv;have hvc:=cy hvv YE.one;obtain⟨c0,c1,c2,e1,yj,kM,H6⟩:=SD p a cs.toList pI hx hg;rw[oR]at yj;injection yj with yj;have UN:c1.length=cv.length:=by rw[kM.len,YE.len,Nt]
 have hi0:i.toNat=0:=by omega
 have AJB:cs.size=c0.length+c1.length+c2.length:=by rw[<-AQ9,e1];simp only[AQd]
 have Es:=UX (P:=P) ht (off:=of) hh hvc (by rw[YE.len,BX]) (by omega) YE.one;have dj:(cs.toList.take of++cv++cs.toList.drop (of+cv.length))=c0++cv++c2:=by
  grind
 rw[dj]at Es;have st:Step [k] σ.Aj.length w g (w.setRow b (c0++cv++c2).toArray) g :=
  ⟨rfl,rfl,rfl,by simp,λq hq h=>⟨h,setRow_other w b q _ (λe=>by grind)⟩,λq h=>⟨h,setRow_other w b q _ (λe=>by grind)⟩,
   λq j r h _ hm=>⟨h,setRow_other w b q _ (λe=>by grind)⟩,λ_ _=>rfl⟩
 refine⟨_,g,?_,?_,st⟩
 ·simp only[hi0,Nat.zero_mul,AQF];exact Es
 ·refine H.bZ st (λq hq=>H.B7 q (by simpa using hq)) (by simp[AH]) λj x hj=>?_;rw[AQy]at hj;split at hj
  ·rename_i hkj;subst hkj;split at hj
   ·injection hj with hj;subst hj;refine .inr (.inr ⟨hlen,b,_,el,OB,ho,setRow_heap w b cs _ el (0,0) hh,?_⟩);have:=CN.step st (AQf _) a' false (H6 v a' cv hs YE);rw[OV (λj hj=>by
     grind)]at this
    simpa [AH]using this
   ·grind
  ·rename_i MO;obtain⟨y,hy,rfl⟩:=DC hj
   grind
theorem WN{bs:ATO Blk}{t:Ty}{v:AV}{y:t.V}(h:rd bs t v=some y):v.Dv=false/\v.OL=false:=by
 cases v with
 |cons a b=>cases t<;>simp[rd]at h
 |nil=>cases t<;>simp[rd]at h
 |un n=>cases t<;>simp[rd]at h
 |_=>exact⟨rfl,rfl⟩
theorem zA{α:Type}{l:ATO α}{i:Nat}(h:i<l.length)(d:α):l.getD i d=l[i]:=by grind
theorem Zr(H:Bo w g σ.Aj){t:Nat}{ti:TI}(ht:Fp P t ti){k:Nat}{i:Int}{p:ATO Nat}{of e:Nat}{m m':RM}{tr:Ty}{xs:ATO tr.V}{v:AV}{y:ti.ty.V}{x':tr.V}{rs:ATO Nat}(hb:σ.Aj[k]?=some (.row e m tr xs))
    (aB:take σ.Aj m ti.ty v=some (y,m',rs)) (hc:Mf tr p=some of/\tyP tr p=some ti.ty/\nJ (k::rs) m'=true/\rs.contains k=false) (H6:TU ti.ty y p tr (xs.getD i.toNat tr.zero)=some x')
    {u vv:Value} (hu:Cb w g σ.Aj.length (.ptr k i p of) u) (hv:Cb w g σ.Aj.length v vv) :
    ∃w' g',(Instr.storeAt t u vv).run P w=.ok () w'/\Bo w' g' ((Blk.G4 (Bh (k::rs) σ.Aj) rs).set k (.row e m' tr (xs.set i.toNat x')))/\Step (k::rs) σ.Aj.length w g w' g':=by
 obtain⟨oR,iM,QJ,hrk⟩:=hc;obtain⟨hk,h0,h1,b,OB,rfl⟩:=LX hu;obtain⟨RZ,hlen,QL,B5,hr⟩:=H.MP k _ hb;have Bw:i.toNat<xs.length:=by rw[<-hlen];exact h1
 rcases hr with ⟨ZP,_⟩|⟨b',BG,ds,ha,Cw,⟨el,V2,hh⟩,Pk,oN,hc3,hc4,MN⟩
 ·rw[ZP]at Bw;simp at Bw
 rw[OB]at ha;injection ha with ha;injection ha with ha;subst ha;obtain⟨hy,hrs,S7,hmm⟩:=QE aB;obtain⟨Y8,Sp⟩:=WN hy;obtain⟨cv,YE,hvv⟩:=B9 Y8 Sp hv;have hvc:=cy hvv YE.one;have OC:cv.length=ti.ty.size:=(Ri H _ _ _ _ hy YE).1.len;obtain⟨c0,c,d,e1,iK,hrc,hr0,nq⟩:=Bu.A5 (λi x c h=>UI.len h) (D8.1 MN) Bw;have AJB:=UI.len hrc;obtain⟨bn,gZ⟩:=dS aB;have Yn:=Xq QJ;have zK:k∉rs:=by simpa using hrk
 let M:=Lg v (Vo p [i.toNat])
 have zC:M.map (·.1)=rs:=by rw[hrs];exact GU v _
 let f:=XB m k M
 let g':=g.V1 f none σ.Aj.length ⟨none,0,0,0⟩
 let off:=i.toNat*tr.size+of
 let new:=BG.toList.take off++cv++BG.toList.drop (off+cv.length)
 let w':=w.setRow b new.toArray
 have vQ:∀b' r,g.own b'=.BV k r->g'.own b'=.BV k r:=λb' r h=>by
  have:=I0 (f:=f) (ob:=none) (n:=σ.Aj.length) (i:=⟨none,0,0,0⟩) (by simp) h;rw[this];exact Qo (by rw[zC];exact zK)
 have st:Step (k::rs) σ.Aj.length w g w' g':=Step.V1 H.B7 rfl rfl rfl (by simp[w']) (kS Cw (by simp)) (λq h=>by cases h) (AQf _) λj r _ hm =>
  Qo (by rw[zC];exact λh=>hm (AQB _ h))
 have AhW:∀b' j r,g.own b'=.BV j r->j≠k->w'.heap[b']?=w.heap[b']?:=λb' j r h hj=>setRow_other w b b' _ λe=>by subst e;rw[Cw]at h;injection h with h;exact hj h.symm
 have AhX:∀b' q,g.own b'=.BV k q->q≠[]->w'.heap[b']?=w.heap[b']?:=λb' q h hq=>setRow_other w b b' _ λe=>by subst e;rw[Cw]at h;injection h with _ h;exact hq h.symm
 have vO:∀b',g.own b'=.Jd->w'.heap[b']?=w.heap[b']?:=λb' h=>setRow_other w b b' _ λe=>by subst e;rw[Cw]at h;cases h
 have hon:∀(i':Nat) (x:tr.V) (c:ATO Value),UI w g.own k m tr i' x c->UI w' g'.own k m' tr i' x c:=by
  intro i' x c V2;refine V2.on ?_;rcases hmm with ⟨rfl,rfl,_⟩|⟨ks,rfl,rfl⟩
  ·exact λb' q h=>⟨vQ b' _ h,AhX b' _ h (by simp)⟩
  ·intro b' h;rcases h with h |⟨j,hj,r,h⟩
   ·exact⟨.inl (Wv (by simp) h),vO b' h⟩
   ·have vI:=bn j hj;have mK:=Yn j vI;exact⟨.inr ⟨j,vI,r,by
     have:=I0 (f:=f) (ob:=none) (n:=σ.Aj.length) (i:=⟨none,0,0,0⟩) (by simp) h;rw[this];exact Qo (by rw[zC];exact λh=>mK (AQB _ h))⟩,AhW b' j r h λe=>mK (by simp[e])⟩
 rw[AQF]at hrc;rw[zA Bw]at H6;obtain⟨d0,d1,d2,e2,hd0,kD,Gh⟩:=AmY H6 oR (hon _ _ _ hrc);have bm:InR w' g'.own k m' ti.ty (Vo p [i.toNat]) y cv:=by
  refine ta H aB YE (M:=M) (λjq hj=>dt (by rw[GU];exact S7) hj) (λ_ h=>h) (λj hj=>Vb (by rw[zC];exact λh=>Yn j hj (AQB _ h))) gZ
   (λb' j r h _=>I0 (by simp) h) (λb' h=>Wv (by simp) h) λb' h=>?_
  rcases h with h |⟨j,r,h,hj⟩
  ·exact vO b' h
  ·refine AhW b' j r h λe=>?_;subst e;rcases hj with hj |hj
   ·rw[zC]at hj;exact zK hj
   ·exact Yn j hj (by simp)
 have vJ:=Bu.join Bw (hr0.mono λi' x c h=>hon i' x c h) (by rw[AQF];exact Gh cv bm) (nq.mono λi' x c h=>hon i' x c h);have AF0:BG.toList=ds++BG.toList.drop (xs.length*tr.size):=by rw[<-hc4,ARj]
 have hds:ds.length=xs.length*tr.size:=by
  have ia:BG.toList.length=BG.size:=AQ9;rw[<-hc4,AQu,ia,hc3];exact Nat.min_eq_left (AQ3 _ Pk)
 have Ah6:(BG.toList.drop (xs.length*tr.size)).length=BG.size-xs.length*tr.size:=by simp
 have S5:xs.length*tr.size<=BG.size:=by rw[hc3];exact AQ3 _ Pk
 have AN9:c0.length+c.length+d.length=xs.length*tr.size:=by rw[<-hds,e1];simp only[AQd]
 have AN2:d0.length+d1.length+d2.length=c.length:=by rw[e2];simp only[AQd]
 have Aoc:off=(c0++d0).length:=by simp only[off,AQd,iK,hd0]
 have AJC:cv.length=d1.length:=by rw[OC,kD]
 have dj:new=(c0++(d0++cv++d2)++d)++BG.toList.drop (xs.length*tr.size):=by
  simp only[new];have rP:BG.toList=(c0++d0)++(d1++(d2++d++BG.toList.drop (xs.length*tr.size))):=by
   conv=>lhs;rw[AF0,e1,e2]
   simp only[AQh]
  generalize BG.toList.drop (xs.length*tr.size)=iw at rP⊢;rw[rP,Aoc,AJC,ARS,<-AQd,<-AQh (c0++d0) d1,List.drop_left];simp only[AQh]
 have Es:(storeVar t ⟨b,off,none⟩ vv).run P w=.ok () w':=UX (P:=P) ht hh hvc OC (by
  have:off=c0.length+d0.length:=by rw[Aoc,AQd]
  omega) YE.one
 refine⟨w',g',?_,?_,by exact st⟩
 ·simp only[Instr.storeAt,Instr.sureAddr,Sem.run_bind,Sem.run_pure,Result.andThen_ok,QL];exact Es
 ·refine H.bZ st (Ny H.B7 (by simp[w']) (λq h=>by cases h)) (by simp[Bd,AH]) λj x hj=>?_;rw[AQy]at hj;split at hj
  ·rename_i hkj;subst hkj;split at hj
   ·injection hj with hj;subst hj;have Sn:g'.A5 k=g.A5 k:=st.A5 k hk;have AGh:((Blk.G4 (Bh (k::rs) σ.Aj) rs).set k (.row e m' tr (xs.set i.toNat x'))).length=σ.Aj.length:=by simp[Bd,AH]
    refine .inr (.inr ⟨by rw[AGh];exact tc H aB YE RZ,by rw[Sn,AQi];exact hlen,by rw[Sn];exact QL,B5,.inr ⟨b,new.toArray,_,by rw[Sn];exact OB,vQ b [] Cw,⟨el,V2,setRow_heap w b BG _ el (0,0) hh⟩,by rw[Sn,AQi];exact Pk,by rw[Sn];exact oN,?_,rfl,?_⟩⟩)
    ·rw[Sn,<-hc3,dj];simp only[ARm,AQd];omega
    ·rw[D8,AQi];have:(new.toArray).toList.take (xs.length*tr.size)=c0++(d0++cv++d2)++d:=by
      rw[List.toList_toArray,dj];have ia:(c0++(d0++cv++d2)++d).length=xs.length*tr.size:=by simp only[AQd];omega
      rw[<-ia,ARS]
     rw[this];exact vJ
   ·cases hj
  ·rename_i MO;rcases Lf hj with h |⟨rH,h⟩
   ·exact .inl h
   ·obtain⟨y',iP,rfl⟩:=DC h;exact .inr (.inl ⟨by simp only[ARI,not_or];exact⟨λe=>MO e.symm,rH⟩,y',iP,rfl⟩)
theorem Aaq{f:Nat}{F G:∀u:Ty,u.V->ATP u.V}(h:∀(u:Ty) (x x0:u.V),F u x=some x0->G u x0=G u x):∀{t:Ty} {x x0:t.V},SE t x f F=some x0->SE t x0 f G=SE t x f G:=by
 induction f with
 |zero =>
  intro t x x0 hs;cases t with
  |AG a b =>
   simp only[SE]at hs⊢
   grind
  |_=>simp[SE]at hs
 |succ f ih =>
  intro t x x0 hs;cases t with
  |AG a b =>
   simp only[SE]at hs⊢
   grind
  |_=>simp[SE]at hs
theorem lL{u:Ty}{y z:u.V}:∀(p:ATO Nat) (t:Ty) (x x0:t.V),TU u z p t x=some x0->TU u y p t x0=TU u y p t x
 |[],_,_,_,_=>rfl
 |f::p,_,_,_,h=>Aaq  (λu' x x0 hx=>lL p u' x x0 hx) h
theorem Ai6{A:Type}{l:ATO A}{i:Nat}(h:i<l.length)(x d:A):(l.set i x).getD i d=x:=by grind
theorem sX{bs:ATO Blk}(H:Bo w g bs){t:Nat}{ti:TI}(ht:Fp P t ti){k j e ej of:Nat}{i:Int}{p:ATO Nat}{tr u:Ty}{xs:ATO tr.V}{ys:ATO u.V}{x0 x':tr.V}(hb:bs[k]?=some (.R1 e tr xs i p))(hj:bs[j]?=some (.row ej .Aw u ys))
    (ZP:TU (.sl u) [] p tr (xs.getD i.toNat tr.zero)=some x0) (vW:TU (.sl u) ys p tr (xs.getD i.toNat tr.zero)=some x') (hc:ti.ty=.sl u/\Mf tr p=some of/\tyP tr p=some (.sl u)/\j≠k)
    {uu vv:Value} (hu:Cb w g bs.length (.ptr k i p of) uu) (hv:Cb w g bs.length (.AK j) vv) :
    ∃w' g',(Instr.storeAt t uu vv).run P w=.ok () w'/\Bo w' g' ((Blk.G4 (Bh [k,j] ((Bh [k] bs).set k (.row e .Aw tr (xs.set i.toNat x0)))) [j]).set k (.row e .Aw tr (xs.set i.toNat x')))/\Step [k,j] bs.length w g w' g':=by
 obtain⟨iM,oR,htp,mK⟩:=hc;have rI:=A7 hb;obtain⟨hlen,QL,B5,h0,Bw,u1,o1,x1,b,BG,ds,q1,q2,q3,OB,Cw,⟨el,V2,hh⟩,Pk,oN,hc3,hc4,MN⟩:=H.MP k _ hb;rw[oR]at q1;injection q1 with q1;subst q1;rw[htp]at q2;injection q2 with q2;injection q2 with q2;subst q2;rw[ZP]at q3;injection q3 with q3;subst q3
 let q:=i.toNat*tr.size+of
 let uV:=BG.setIfInBounds q (.slice none 0 0)
 let w0:=w.setRow b uV
 let bs1:=(Bh [k] bs).set k (Blk.row e .Aw tr (xs.set i.toNat x0))
 have UN:bs1.length=bs.length:=by simp[bs1,AH]
 have st:Step [k] bs.length w g w0 g :=
  ⟨rfl,rfl,rfl,by simp[w0],λq hq h=>⟨h,setRow_other w b q _ (λe=>by subst e;rw[Cw]at h;cases h)⟩,λq h=>⟨h,setRow_other w b q _ (λe=>by subst e;rw[Cw]at h;cases h)⟩,
   λq j r h _ hm=>⟨h,setRow_other w b q _ (λe=>by subst e;rw[Cw]at h;injection h with h;exact hm (by simp[h]))⟩,λ_ _=>rfl⟩
 have H1:Bo w0 g bs1:=by
  refine H.bZ st (λq hq=>H.B7 q (by simpa [w0]using hq)) (by rw[UN];exact AQf _) λm x hm=>?_;rw[AQy]at hm;split at hm
  ·rename_i hkm;subst hkm;split at hm
   ·injection hm with hm;subst hm;exact .inr (.inr ⟨λj hj=>(by cases hj),by rw[AQi];exact hlen,QL,B5,.inr ⟨b,uV,ds,OB,Cw,⟨el,V2,setRow_heap w b BG _ el (0,0) hh⟩,by rw[AQi];exact Pk,oN,by rw[<-hc3];simp[uV],by rw[AQi];exact hc4,MN.mono λi x c r=>r.mono λb' q hb=>⟨hb,setRow_other w b b' _ λe=>by subst e;rw[Cw]at hb;injection hb with _ hb;simp at hb⟩⟩⟩)
   ·cases hm
  ·rename_i MO;obtain⟨y,hy,rfl⟩:=DC hm;exact .inr (.inl ⟨by simpa using λe:m=k=>MO e.symm,y,hy,rfl⟩)
 have hj1:bs1[j]?=some (.row ej .Aw u ys):=by
  simp only[bs1];rw[ASg (Ne.symm mK)];simp[Bh,hj,Blk.drop,RM.Cx]
 have hk1:bs1[k]?=some (.row e .Aw tr (xs.set i.toNat x0)):=by
  simp only[bs1];rw[List.getElem?_set_self (by rw[AH];exact rI)]
 obtain⟨ty,Xr,elem,bytes,Hh,Pb⟩:=ti
 dsimp only at iM
 subst iM;have aB:take bs1 .Aw (.sl u) (.AK j)=some (ys,.Aw,[j]):=by
  simp[take,rd,hj1,JA,AV.R5,AV.YZ,nodup,dK]
 have Aoh:TU (.sl u) ys p tr ((xs.set i.toNat x0).getD i.toNat tr.zero)=some x':=by
  rw[Ai6 Bw,lL p tr _ _ ZP,vW]
 have hu1:Cb w0 g bs1.length (.ptr k i p of) uu:=by
  have:=hu.step st (AQf _);rw[UN];exact this
 have iN:Cb w0 g bs1.length (.AK j) vv:=by
  have:=hv.step st (AQf _);rw[UN];exact this
 obtain⟨w',g',Es,hH,BX⟩:=Zr (σ:=⟨[],bs1⟩) H1 ht hk1 aB ⟨oR,htp,by simp[nJ,RM.Cx],by simpa using Ne.symm mK⟩ Aoh hu1 iN;obtain⟨_,_,_,b',zG,he⟩:=LX hu;rw[OB]at zG;injection zG with zG;injection zG with zG;subst zG;obtain⟨_,hvv⟩:=FE hv;have RX:q+1<=BG.size:=by
  obtain⟨c0,c,d,e1,iK,hrc,hr0,nq⟩:=Bu.A5 (λi x c h=>J9.len h) MN (by rw[AQi];exact Bw);obtain⟨a0,a1,a2,e2,ha0,ha1,_⟩:=ZZ (Aou w g.own k) (.sl u) ys p tr _ _ _ _ of (by rw[<-Aoh];simp[List.getD,Bw]) oR hrc;have OC:=J9.len hrc;have h1:c.length=a0.length+a1.length+a2.length:=by rw[e2];simp only[AQd]
  have h2:a1.length=1:=ha1;have h3:(i.toNat+1)*tr.size<=BG.size:=by rw[hc3];exact AQ3 _ (AQD Bw Pk)
  rw[ARH,Nat.one_mul]at h3;simp only[q];omega
 have one:∀c∈[vv],c.oneCell'=true:=λc hc=>by simp at hc;subst hc;rw[hvv];rfl
 have hvc:vv.cells=[vv].toArray:=by rw[hvv];rfl
 have r1:=UX (P:=P) ht (off:=q) (setRow_heap w b BG uV el (0,0) hh) hvc rfl (by simp[uV];exact RX) one;have r2:=UX (P:=P) ht (off:=q) hh hvc rfl (by simpa using RX) one;have hX:(uV.toList.take q++[vv]++uV.toList.drop (q+[vv].length))=(BG.toList.take q++[vv]++BG.toList.drop (q+[vv].length)):=by
  simp only[uV,Array.toList_setIfInBounds];rw[List.take_set_of_le (AQf _),List.drop_set_of_lt (by simp)]
 rw[hX,setRow_setRow]at r1;have Aog:(Instr.storeAt t uu vv).run P w0=.ok () (w.setRow b (BG.toList.take q++[vv]++BG.toList.drop (q+[vv].length)).toArray):=by
  rw[he];simp only[Instr.storeAt,Instr.sureAddr,Sem.run_bind,Sem.run_pure,Result.andThen_ok,QL];exact r1
 have ny:w'=w.setRow b (BG.toList.take q++[vv]++BG.toList.drop (q+[vv].length)).toArray:=by
  rw[Es]at Aog;injection Aog
 refine⟨w',g',?_,?_,(st.trans BX (by rw[UN];exact AQf _)).weaken (by simp) (AQf _)⟩
 ·rw[he,ny];simp only[Instr.storeAt,Instr.sureAddr,Sem.run_bind,Sem.run_pure,Result.andThen_ok,QL];exact r2
 ·rw[ASe]at hH;exact hH
theorem Aek{t:TypeId}{x v:Operand}(ho:o.op=.store t x v){ti:TI}(ht:Fp P t ti)(h:fI σ.Aj ti (σ.Cr x) (σ.Cr v) some=some e):OA P σ o e:=by
 have WX:∀(HH:ATO Blk) (BJ:ATO Nat),BJ≠[]->HH.length=σ.Aj.length ->
     (∀(a:Act) (w:World) (g:G),LA w g σ a->∃w' g',(Instr.storeAt t (a.eval x) (a.eval v)).run P w=.ok () w'/\Bo w' g' HH/\Step BJ σ.Aj.length w g w' g')->OA P σ o ⟨.un 0,HH,BJ⟩:=by
  intro HH BJ hm hl hh;refine⟨by grind,λh=>(hm h).elim,λa w g hs next Q hn=>?_⟩
  obtain⟨w',g',hr,hH,BX⟩:=hh a w g hs;unfold Oper.wp;simp only[execOp,ho,Sem.run_bind,hr];exact hn undef w' g' hH RP BX
 unfold fI at h;split at h
 ·rename_i k i p of vv hx;split at h
  ·rename_i a hb;split at h
   ·rename_i pI a' hg H6;split at h
    ·rename_i hc;injection h with h;subst h;refine WX _ _ (by simp) (by simp[AH]) λac w g hs=>?_;have hu:=A0 hs x;rw[hx]at hu;exact xx hs.heap ht hb hg H6 hc hu (A0 hs v)
    ·grind
   ·grind
  ·rename_i el m tr xs hb;split at h
   ·rename_i y m' rs aB;split at h
    ·rename_i hc;split at h
     ·rename_i x' H6;injection h with h;subst h;refine WX _ _ (by simp) (by simp[AH,Bd]) λac w g hs=>?_;have hu:=A0 hs x;rw[hx]at hu;exact Zr hs.heap ht hb aB hc H6 hu (A0 hs v)
     ·grind
    ·grind
   ·grind
  ·rename_i el tr xs i' p' hb;split at h
   ·rename_i j hj;split at h
    ·rename_i ej u ys hbj;split at h
     ·rename_i x0 x' ZP vW;split at h
      ·rename_i hc;split at h
       ·rename_i hi;injection h with h;subst h;subst hi;obtain⟨c1,c2,c3,c4,c5⟩:=hc;subst c4;refine WX _ _ (by simp) (by simp[AH,Bd]) λac w g hs=>?_;have hu:=A0 hs x;rw[hx]at hu;have hv:=A0 hs v;rw[hj]at hv;exact sX hs.heap ht hb hbj ZP vW ⟨c1,c2,c3,c5⟩ hu hv
       ·grind
      ·grind
     ·grind
    ·grind
   ·grind
  ·grind
 ·grind
end
section
variable {P:Program} {σ:St} {o:Oper} {en:GX} {e:H8}
theorem Zg{bs:ATO Blk}{t:Ty}:∀{ps:ATO (Nat×AV)} {m m':RM} {xs xs':ATO t.V} {rs rs':ATO Nat},SB bs t m xs rs ps=some (m',xs',rs') ->
    (∀j∈m.Cx,j∈m'.Cx)/\(m=.Aw↔m'=.Aw)/\rs'=rs++ps.flatMap (λp=>p.2.R5)/\xs'.length=xs.length
 |[],m,m',xs,xs',rs,rs',h=>by
  simp only[SB,AQb,AQm]at h;obtain⟨rfl,rfl,rfl⟩:=h;exact⟨λ_ h=>h,Iff.rfl,by simp,rfl⟩
 |(i,v)::ps,m,m',xs,xs',rs,rs',h=>by
  simp only[SB]at h;split at h
  ·rename_i y m1 l ht;split at h
   ·obtain⟨h1,h2,h3,h4⟩:=Zg h;obtain⟨hs,hd⟩:=dS ht;obtain⟨_,hl,_⟩:=QE ht;exact⟨λj hj=>h1 j (hs j hj),hd.trans h2,by rw[h3,hl];simp,by rw[h4,AQi]⟩
   ·cases h
  ·cases h
theorem lA{t:Ty}{E:Nat->t.V->ATO Value->Prop}(hE:∀i x c,E i x c->c.length=t.size){bs:ATO Blk}{ρ:Operand->AV}{ε:Operand->Value}{m':RM}:∀{ps:ATO (Nat×Operand)} {m:RM} {xs xs':ATO t.V} {rs rs':ATO Nat} {cs:ATO Value},
    SB bs t m xs rs (ps.map λp=>(p.1,ρ p.2))=some (m',xs',rs')->Bu E 0 xs cs ->
    (∀p∈ps,∀m m1 y rs,take bs m t (ρ p.2)=some (y,m1,rs)->(m=.Aw↔m'=.Aw)->(∀j∈m1.Cx,j∈m'.Cx)->∃cv,(ε p.2).cells=cv.toArray/\E p.1 y cv) ->
    ∃mX,Instr.fill (λi=>some (i*t.size,t.size)) cs.toArray (ps.map λp=>(p.1,ε p.2))=some mX.toArray/\Bu E 0 xs' mX
 |[],m,xs,xs',rs,rs',cs,h,hl,_=>by
  simp only[ARz,SB,AQb,AQm]at h;obtain⟨rfl,rfl,rfl⟩:=h;exact⟨cs,rfl,hl⟩
 |(i,x)::ps,m,xs,xs',rs,rs',cs,h,hl,hp=>by
  simp only[AQU,SB]at h;split at h
  ·rename_i y m1 l ht;split at h
   ·rename_i hi;obtain⟨h1,h2,_⟩:=Zg h;obtain⟨hs,hd⟩:=dS ht;obtain⟨cv,YE,hey⟩:=hp (i,x) (by simp) m m1 y l ht (hd.trans h2) h1;obtain⟨c0,c,d,e1,iK,hrc,hr0,nq⟩:=Bu.A5 hE hl hi;have dj:=Bu.join hi hr0 (by rw[AQF];exact hey) nq;obtain⟨mX,hf,zL⟩:=lA hE h dj λp hp'=>hp p (by simp[hp']);refine⟨mX,?_,zL⟩;simp only[AQU];unfold Instr.fill;have UA:(ε x).cells.size=t.size:=by
     have AvJ:(ε x).cells=cv.toArray:=YE;rw[AvJ,ARm,hE _ _ _ hey]
    have hc:=hE _ _ _ hrc;have RX:¬i*t.size+t.size>cs.toArray.size:=by
     rw[ARm,e1,AQd,AQd,iK,hc];omega
    simp only[UA,ne_eq,not_true_eq_false,decide_false,ASl,RX,AQX,ARA];rw[<-hf];congr 1;have AvJ:(ε x).cells=cv.toArray:=YE;rw[AvJ,e1,<-iK];exact Ab7 (by rw[hE _ _ _ hey,hc])
   ·cases h
  ·cases h
theorem xK{m m':RM}(h:m=.Aw↔m'=.Aw)(k:Nat)(M:ATO (Nat×ATO Nat))(j:Nat)(r:ATO Nat):XB m k M j r=XB m' k M j r:=by
 unfold XB;split
 ·rfl
 ·cases m with
  |Aw=>rw[h.1 rfl]
  |sh _=>cases m' with
   |Aw=>have:=h.2 rfl;cases this
   |sh _=>rfl
def Aag(ps:ATO (Nat×AV)):ATO (Nat×ATO Nat):=ps.flatMap λp=>Lg p.2 [p.1]
theorem wQ(ps:ATO (Nat×AV)):(Aag ps).map (·.1)=ps.flatMap λp=>p.2.R5:=by
 induction ps with
 |nil=>rfl
 |cons p ps ih =>
  simp only[Aag,List.flatMap_cons,AQT]at ih⊢;rw[GU,ih]
theorem fD{w:World}{g:G}{bs:ATO Blk}(H:Bo w g bs){t:Ty}{ρ:Operand->AV}{ε:Operand->Value}(hρ:∀x,Cb w g bs.length (ρ x) (ε x)):∀{ps:ATO (Nat×Operand)} {m m':RM} {xs xs':ATO t.V} {rs rs':ATO Nat},
    SB bs t m xs rs (ps.map λp=>(p.1,ρ p.2))=some (m',xs',rs')->(∀j∈m.Cx,j<bs.length)->∀j∈m'.Cx,j<bs.length
 |[],m,m',xs,xs',rs,rs',h,hm=>by
  simp only[ARz,SB,AQb,AQm]at h;obtain⟨rfl,rfl,rfl⟩:=h;exact hm
 |(i,x)::ps,m,m',xs,xs',rs,rs',h,hm=>by
  simp only[AQU,SB]at h;split at h
  ·rename_i y m1 l ht;split at h
   ·obtain⟨hy,_⟩:=QE ht;obtain⟨Y8,Sp⟩:=WN hy;obtain⟨cv,YE,_⟩:=B9 Y8 Sp (hρ x);exact fD H hρ h (tc H ht YE hm)
   ·cases h
  ·cases h
theorem lR{t:TypeId}{len:Nat}{GR:Array (Nat×Operand)}(ho:o.op=.buildSlice t len GR){fi:FI}{ti te:TI}(ht:Fp P t ti)(Et:Fp P ti.elem te){m:RM}{xs:ATO te.ty.V}{rs:ATO Nat}
    (hp:SB σ.Aj te.ty (fi.mode te.ty) (List.replicate len te.ty.zero) [] (GR.toList.map λp=>(p.1,σ.Cr p.2))=some (m,xs,rs))
    (hc:(ti.EA&&te.ty.row&&nJ rs m&&nodup rs&&decide (len*te.ty.size<=16777216))=true) :
    (len=0->OA P σ o ⟨.zs,σ.Aj,[]⟩)/\(len≠0->OA P σ o ⟨.AK σ.Aj.length,Blk.G4 (Bh rs σ.Aj) rs++[.row ti.elem m te.ty xs],rs⟩):=by
 simp only[AQg,ARo]at hc;obtain⟨⟨⟨⟨Jc,OY⟩,QJ⟩,S7⟩,AhG⟩:=hc;have hu:=BH ht Jc;obtain⟨kE,B5⟩:=lJ OY;obtain⟨ie,z,hi,Nt,vE,hz,oS,_⟩:=Et.info;obtain⟨_,gZ,hrs,hxl⟩:=Zg hp;rw[AQG]at hxl;rw[ARg]at hrs;refine⟨λh0=>?_,λh0=>?_⟩
 ·subst h0;have hps:GR.toList=[]:=by
   cases hq:GR.toList with
   |nil=>rfl
   |cons p r =>
    rw[hq]at hp;simp only[AQU,SB]at hp;split at hp
    ·split at hp
     ·rename_i h;simp at h
     ·cases hp
    ·cases hp
  have AKd:GR=#[]:=by apply Array.toList_inj.1;rw[hps]
  refine⟨AQf _,λ_=>⟨[],(AQO _).symm⟩,λa w g hs next Q hn=>?_⟩
  have hr:(execOp a.eval o).run P w=.ok (.value (.slice (some ⟨w.heap.size,0,none⟩) 0 0)) (w.alloc (.cells #[] ti.elem)):=by
   simp[execOp,ho,Instr.buildSlice,run_underlying hu,sizeOf,typeInfo,hi,AKd,Instr.fill,newRow];congr 2;apply Array.eq_empty_of_size_eq_zero;simp
  unfold Oper.wp;rw[hr];have st:Step [] σ.Aj.length w g (w.alloc (.cells #[] ti.elem)) g:=⟨rfl,rfl,rfl,by show w.heap.size<=(w.heap.push _).size;simp,λb hb h=>⟨h,heap_alloc_old w _ b hb⟩,λb h=>⟨h,heap_alloc_old w _ b (Vp hs.heap (by rw[h];simp))⟩,
   λb k p h _ _=>⟨h,heap_alloc_old w _ b (Vp hs.heap (by rw[h];simp))⟩,λ_ _=>rfl⟩
  refine hn _ _ g (hs.heap.RO st λb hb=>hs.heap.B7 b (AQD st.size hb)) (pD _) st
 ·refine⟨by simp[Bd,AH],λh=>⟨[.row ti.elem m te.ty xs],?_⟩,λa w g hs next Q hn=>?_⟩
  ·have h:rs=[]:=h;rw[h];rfl
  have H:=hs.heap
  let n:=σ.Aj.length
  let M:=Aag (GR.toList.map λp=>(p.1,σ.Cr p.2))
  have zC:M.map (·.1)=rs:=by rw[hrs];exact wQ _
  let i:BI:=⟨some ⟨w.heap.size,0,none⟩,len,len,te.ty.size⟩
  let g':=g.V1 (XB m n M) (some w.heap.size) n i
  have Aml:∀b,g.own b≠.no->b≠w.heap.size:=λb h e=>by have:=Vp H h;omega
  have key:∀cells:Array Value,∃w':World,w'=w.alloc (.cells cells ti.elem)/\Step rs n w g w' g':=λcells=>⟨_,rfl,Step.V1 H.B7 rfl rfl rfl (by show w.heap.size<=(w.heap.push _).size;simp) (λq hq _=>heap_alloc_old w _ q hq)
   (λq h=>by injection h with h;omega) (AQf _) λj r _ hm=>Qo (by rw[zC];exact hm)⟩
  have Wp:∀b j r,g.own b=.BV j r->g'.own b=XB m n M j r:=λb j r h=>I0 (by
   intro e;injection e with e;exact Aml b (by rw[h];simp) e.symm) h
  have dy:∀b,g.own b=.Jd->g'.own b=.Jd:=λb h=>Wv (by
   intro e;injection e with e;exact Aml b (by rw[h];simp) e.symm) h
  have hzero:Bu (UI w g'.own n m te.ty) 0 (List.replicate len te.ty.zero) ((List.replicate len (Value.agg z.cells)).flatMap λv=>v.cells.toList):=by
   refine ZW (λi=>?_) len 0;have AKC:(Value.agg z.cells).cells.toList=RR te.ty:=oS;rw[AKC];cases m with
   |Aw=>exact J9.zero kE
   |sh ks=>exact H9.zero kE
  obtain⟨mX,vH,AhU⟩:=lA (E:=UI w g'.own n m te.ty) (ε:=a.eval) (λi x c h=>h.len) hp hzero (by
   intro p hpm m0 m1 y rs0 aB hd0 bn;obtain⟨hy,hr0,hn0,_⟩:=QE aB;obtain⟨Y8,Sp⟩:=WN hy;obtain⟨cv,YE,hvv⟩:=B9 Y8 Sp (A0 hs p.2);refine⟨cv,cy hvv YE.one,?_⟩;have Gh:InR w g'.own n m te.ty [p.1] y cv:=by
    refine ta H aB YE (M:=M) (λjq hj=>dt (by rw[zC];exact S7) ?_) bn (λj hj=>Vb (by rw[zC];exact Xq QJ j hj)) hd0
     (λb j r h _=>by rw[Wp b j r h,xK hd0]) dy λ_ _=>rfl
    exact List.mem_flatMap.2 ⟨(p.1,σ.Cr p.2),List.mem_map.2 ⟨p,hpm,rfl⟩,hj⟩
   cases m with
   |Aw=>exact Gh
   |sh ks=>exact Gh)
  have OC:=Bu.len (λi x c h=>UI.len h) AhU;rw[hxl]at OC;have hpc:¬len*te.ty.size=0:=by
   have:0<len*te.ty.size:=Nat.mul_pos (ARJ h0) B5;omega
  have AGk:(Array.range (len*ie.size)).map (z.cells[·%z.cells.size]!)=((List.replicate len (Value.agg z.cells)).flatMap λv=>v.cells.toList).toArray:=by
   have h1:=fq z.cells (s:=te.ty.size) (l:=len) (c:=len) (by rw[<-AQ9,oS,S0]) B5 (AQf _);rw[AQj (by rw[AQ9,size_madeCells];exact AQf _)]at h1;rw[<-h1,Nt];simp only[madeCells,Array.toArray_toList]
  have hr:(execOp a.eval o).run P w=.ok (.value (.slice (some ⟨w.heap.size,0,none⟩) len len)) (w.alloc (.cells mX.toArray ti.elem)):=by
   have:=run_buildSlice (P:=P) w t ti.elem len (GR.map λ(i,x)=>(i,a.eval x)) mX.toArray ie z hu hi hz (by rw[Nt];omega) (by rw[Nt];exact hpc) (by
    rw[AGk,Nt];simpa using vH)
   simp[execOp,ho,this]
  unfold Oper.wp;rw[hr];obtain⟨w',ny,st⟩:=key mX.toArray;subst ny;have QI:g'.A5 n=i:=by simp[g',G.V1]
  refine hn _ _ g' (H.bZ st (Ny H.B7 st.size (λq h=>by injection h with h;subst h;show w.heap.size<(w.heap.push _).size;simp)) (by simp[Bd,AH]) λj x hj=>?_) ?_ st
  ·rw[AQz]at hj;split at hj
   ·rcases Lf hj with h |⟨rH,h⟩
    ·exact .inl h
    ·obtain⟨y',iP,rfl⟩:=DC h;exact .inr (.inl ⟨rH,y',iP,rfl⟩)
   ·rename_i hlen;rw[Bd,AH]at hj hlen;have oO:j-σ.Aj.length=0:=by
     rcases AQx (j-σ.Aj.length)with h |h
     ·exact h
     ·rw[AQN (by simp;omega)]at hj;cases hj
    rw[oO]at hj;obtain rfl:j=n:=by simp only[n];omega
    simp only[List.getElem?_cons_zero,AQb]at hj;subst hj;refine .inr (.inr ⟨λj hj=>?_,by rw[QI,hxl],by rw[QI],B5,.inr ⟨w.heap.size,mX.toArray,_,by rw[QI],by simp[g',G.V1],⟨_,.inr rfl,heap_alloc_new w _⟩,by rw[QI,hxl];exact AQf _,?_,by rw[QI,ARm,OC],rfl,?_⟩⟩)
    ·have:=fD H (A0 hs) hp (by rw[VA];intro j hj;cases hj) j hj;simp[Bd,AH];omega
    ·rw[QI];have:len<=len*te.ty.size:=AR7 _ B5;simp only[maxLen,i];omega
    ·rw[D8,List.toList_toArray,AQj (by rw[OC,hxl];exact AQf _)];refine AhU.mono λi' x c h=>h.on ?_;have hap:∀b,g.own b≠.no\/g'.own b≠.no/\b≠w.heap.size->(w.alloc (.cells mX.toArray ti.elem)).heap[b]?=w.heap[b]?:=λb hb=>by
      refine heap_alloc_old w _ b ?_;rcases hb with hb |⟨hb,MO⟩
      ·exact Vp H hb
      ·rcases AQk b w.heap.size with h' |h'
       ·exact h'
       ·refine(hb ?_).elim;have:=H.B7 b h';simp[g',G.V1,this,Ne.symm MO]
     cases m with
     |Aw =>
      intro b q hb;refine⟨hb,hap b (.inr ⟨by rw[hb];simp,λe=>?_⟩)⟩;subst e;simp[g',G.V1]at hb
     |sh ks =>
      intro b hb;refine⟨hb,hap b (.inr ⟨?_,λe=>?_⟩)⟩
      ·rcases hb with hb |⟨j,_,p,hb⟩<;>rw[hb]<;>simp
      ·subst e;rcases hb with hb |⟨j,hj,p,hb⟩
       ·simp[g',G.V1]at hb
       ·simp[g',G.V1]at hb;have:=fD H (A0 hs) hp (by rw[VA];intro j hj;cases hj) j hj;omega
  ·refine BD (cs:=[_]) rfl ⟨by simp[Bd,AH],rfl⟩ ?_;have:g'.A5 σ.Aj.length=i:=QI;simp[Cp,AV.isAgg,this,i]
end
section
variable {P:Program} {w:World} {g:G} {bs:ATO Blk}
theorem Ai2(w:World)(t tx ty e:TypeId)(i:TypeInfo)(ht:P.underlying t=some (.slice e))(hi:P.info? e=some i)
    (b bK Aao:Nat) (BG:Array Value) {e0:TypeId} (hg:w.heap[b]?=some (.cells BG e0 (0,0))) (x:Value) (n:Nat) (GH:ATO Value) (hs:Src P i.size tx x n GH w) (Y5:bK+n<=Aao) (RX:bK*i.size+GH.length<=BG.size) :
    (Builtin.append_ #[t,tx] ty #[.slice (some ⟨b,0,none⟩) bK Aao,x]).run P w =
     .ok (.slice (some ⟨b,0,none⟩) (bK+n) Aao) (w.setRow b (BG.toList.take (bK*i.size)++GH++BG.toList.drop (bK*i.size+GH.length)).toArray):=by
 have BX:=run_storeCells_at P b (bK*i.size) e0 GH 0 BG w hg (by simpa using RX) hs.one;simp only[AR3]at BX;rcases hs.kind with ⟨e',hk⟩|hk<;>simp[Builtin.append_,run_underlying ht,run_underlying hk,sizeOf,typeInfo,hi,hs.len,Y5,hs.cells,Addr.add_lit,BX]
theorem wL(w:World)(t tx ty e:TypeId)(i:TypeInfo)(ht:P.underlying t=some (.slice e))(hi:P.info? e=some i)(ad:ATP Addr)(x:Value)(GH:ATO Value)(hs:Src P i.size tx x 0 GH w) :
    (Builtin.append_ #[t,tx] ty #[.slice ad 0 0,x]).run P w=.ok (.slice ad 0 0) w:=by
 have hn:GH=[]:=by
  have:=hs.newsLen;simpa using this
 subst hn;cases ad<;>rcases hs.kind with ⟨e',hk⟩|hk<;>simp[Builtin.append_,run_underlying ht,run_underlying hk,sizeOf,typeInfo,hi,hs.len,hs.cells,storeCells]
theorem zh(w:World)(t tx ty e:TypeId)(i:TypeInfo)(z:Value)(ht:P.underlying t=some (.slice e))(hi:P.info? e=some i)(hz:i.zero=some z)(hzs:z.cells.size=i.size)(B5:0<i.size)
    {Pw:Nat->Prop} {Ek:Prop} {ad:ATP Addr} {len cap:Nat} {ds:ATO Value} (XQ:(len=0/\cap=0/\ds=[])\/∃b BG e0,ad=some ⟨b,0,none⟩/\Pw b/\(w.heap[b]?=some (.cells BG e0 (0,0))/\(Ek\/e0=e))/\len<=cap/\cap<=maxLen/\BG.size=cap*i.size/\BG.toList.take (len*i.size)=ds)
    {x:Value} {n:Nat} {GH:ATO Value} (hs:Src P i.size tx x n GH w) (vE:i.bytes≠0) (RX:(len+n)*i.bytes<=140737488355328) :
    ∃ui Tt w',(Builtin.append_ #[t,tx] ty #[.slice ad len cap,x]).run P w=.ok (.slice ui (len+n) Tt) w'/\w'.os=w.os/\w'.tape=w.tape/\w'.output=w.output/\w.heap.size<=w'.heap.size /\
     ((len+n=0/\Tt=0/\w'=w)\/∃b' QH e1,ui=some ⟨b',0,none⟩/\(w'.heap[b']?=some (.cells QH e1 (0,0))/\(Ek\/e1=e))/\len+n<=Tt/\Tt<=maxLen/\QH.size=Tt*i.size/\QH.toList.take ((len+n)*i.size)=ds++GH /\
      ((∃BG e0,ad=some ⟨b',0,none⟩/\Pw b'/\w.heap[b']?=some (.cells BG e0 (0,0))/\w'=w.setRow b' QH)\/(b'=w.heap.size/\b'<w'.heap.size/\∀q,q<w.heap.size->w'.heap[q]?=w.heap[q]?))):=by
 have AvY:len+n<=140737488355328:=AQD (AR7 _ (ARJ vE)) RX;have h63:((len+n:Nat):Int)<=9223372036854775807:=by omega
 have hml:len+n<=maxLen:=by simp only[maxLen];omega
 have fe:ds.length=len*i.size:=by
  rcases XQ with ⟨h1,h2,h3⟩|⟨b,BG,e0,h1,_,h2,h3,h4,h5,h6⟩
  ·subst h1;subst h3;simp
  ·rw[<-h6,AQu,AQ9,h5];exact Nat.min_eq_left (AQ3 _ h3)
 by_cases Y5:len+n<=cap
 ·rcases XQ with ⟨rfl,rfl,rfl⟩|⟨b,BG,e0,rfl,hpw,⟨hb,hek⟩,h3,h4,h5,h6⟩
  ·obtain rfl:n=0:=by omega
   exact⟨ad,0,w,wL w t tx ty e i ht hi ad x GH hs,rfl,rfl,rfl,AQf _,.inl ⟨rfl,rfl,rfl⟩⟩
  ·have S5:len*i.size+GH.length<=BG.size:=by
     rw[hs.newsLen,h5,<-ARH];exact AQ3 _ Y5
   refine⟨_,cap,_,Ai2 w t tx ty e i ht hi b len cap BG hb x n GH hs Y5 S5,rfl,rfl,rfl,by simp,.inr ⟨b,_,e0,rfl,⟨setRow_heap w b BG _ e0 (0,0) hb,hek⟩,Y5,h4,?_,?_,.inl ⟨BG,e0,rfl,hpw,hb,rfl⟩⟩⟩
   ·simp only[ARm,AQd,AQu,AQJ,AQ9];omega
   ·rw[List.toList_toArray,h6];have:(len+n)*i.size=(ds++GH).length:=by rw[AQd,fe,hs.newsLen,ARH]
    rw[this,ARS]
 ·have hgt:cap<len+n:=by omega
  have holds:(Builtin.firstCells i.size len (.slice ad len cap)).run P w.drew=.ok ds.toArray w.drew:=by
   rcases XQ with ⟨rfl,rfl,rfl⟩|⟨b,BG,e0,rfl,hpw,⟨hb,hek⟩,h3,h4,h5,h6⟩
   ·cases ad with
    |none=>exact run_firstCells_none w.drew i.size 0 0 0
    |some a=>exact run_firstCells_some w.drew i.size 0 a 0 0 [] (by simp) (by simp)
   ·refine run_firstCells_some w.drew i.size len _ len cap ds fe λj u hu=>?_;rw[Z9,AQF];show w.cell? ⟨b,j,none⟩=some u;rw[QO hb,<-AQn];rw[<-h6,AQ8]at hu;split at hu
    ·exact hu
    ·cases hu
  have hr:=run_append_grow_src (P:=P) w t tx ty e i z ht hi hz ad len cap ds holds x n GH hs hgt h63 (growslice_fits hgt RX);refine⟨_,_,_,hr,rfl,rfl,rfl,by simp,.inr ⟨w.heap.size,_,e,rfl,⟨heap_alloc_new w.drew _,.inr rfl⟩,grownCap_ge w _ cap e,grownCap_le_maxLen w _ cap e hml,?_,?_,.inr ⟨rfl,by simp,λq hq=>heap_alloc_old w.drew _ q hq⟩⟩⟩
  ·have ag:=grownCap_ge w (len+n) cap e;simp only[Array.size_append,ARm,AQd,size_zeroCells,hzs,fe,hs.newsLen,<-ARH];congr 1;omega
  ·have:(len+n)*i.size=(ds++GH).length:=by rw[AQd,fe,hs.newsLen,ARH]
   rw[this,Array.toList_append,List.toList_toArray,ARS]
end
def ao(w:World)(g:G)(t:Ty)(m:RM)(rs:ATO Nat)(i:Nat)(x:t.V)(c:ATO Value):Prop :=
 (t.BZ=true/\c=La t x)\/(∃ks,m=.sh ks/\H9 w (Al g.own ks) t x c)\/∃j,rs=[j]/\UI w g.own j m t i x c
theorem ao.len{w:World}{g:G}{t:Ty}{m:RM}{rs:ATO Nat}{i:Nat}{x:t.V}{c:ATO Value}(h:ao w g t m rs i x c):c.length=t.size:=by
 rcases h with ⟨hf,rfl⟩|⟨ks,_,h⟩|⟨j,_,h⟩
 ·exact H9.len (w:=default) (A:=λ_=>True) ((H9.BZ hf).2 rfl)
 ·exact h.len
 ·exact h.len
theorem ao.one{w:World}{g:G}{t:Ty}{m:RM}{rs:ATO Nat}{i:Nat}{x:t.V}{c:ATO Value}(h:ao w g t m rs i x c):∀v∈c,v.oneCell'=true:=by
 rcases h with ⟨hf,rfl⟩|⟨ks,_,h⟩|⟨j,_,h⟩
 ·exact H9.one (w:=default) (A:=λ_=>True) ((H9.BZ hf).2 rfl)
 ·exact h.one
 ·cases m with
  |Aw=>exact J9.one h
  |sh ks=>exact H9.one h
theorem UI.BZ{w:World}{own:Nat->Vf}{k:Nat}{m:RM}{t:Ty}{i:Nat}{x:t.V}{c:ATO Value}(hf:t.BZ=true):UI w own k m t i x c↔c=La t x:=by
 cases m with
 |Aw=>exact J9.BZ hf
 |sh ks=>exact H9.BZ hf
section
variable {P:Program} {w:World} {g:G} {bs:ATO Blk}
theorem Ag6{ds:ATO Value}{b:Nat}{BG:Array Value}{el:TypeId}{fr:Nat×Nat}{n:Nat}(hh:w.heap[b]?=some (.cells BG el fr))(h4:BG.toList.take n=ds):∀j u,ds[j]?=some u->w.cell? ((⟨b,0,none⟩:Addr).add j)=some u:=by
 intro j u hu;rw[Z9,AQF,QO hh,<-AQn]
 grind
theorem AjH(H:Bo w g bs){t:Ty}{y:AV}{ys:ATO t.V}{m:RM}{rs:ATO Nat}(h:sW bs t y=some (ys,m,rs)){v:Value}(hv:Cb w g bs.length y v){tx:TypeId}{fL:TI}(yl:Fp P tx fL)(hk:(fL.EA||fL.ty==.str)=true) :
    ∃GH,Src P t.size tx v ys.length GH w/\Bu (ao w g t m rs) 0 ys GH/\(∀j∈m.Cx,j<bs.length)/\(∀j∈rs,j<bs.length)/\(rs=[]\/∃j,rs=[j]):=by
 have AhR:(∃e',P.underlying tx=some (.slice e'))\/P.underlying tx=some .string:=by
  rw[ARr]at hk;rcases hk with hk |hk
  ·exact .inl ⟨_,BH yl hk⟩
  ·exact .inr (SZ yl (by grind))
 have Awr:∀(ad:ATP Addr) (c:Nat),Src P t.size tx (.slice ad 0 c) 0 [] w:=λad c =>
  ⟨AhR,λ_=>rfl,by
   cases ad with
   |none=>exact run_firstCells_none w t.size 0 0 c
   |some a=>exact run_firstCells_some w t.size 0 a 0 c [] (by simp) (by simp),by
   cases ad with
   |none=>exact run_firstCells_none w.drew t.size 0 0 c
   |some a=>exact run_firstCells_some w.drew t.size 0 a 0 c [] (by simp) (by simp),by simp,λ_ h=>by grind⟩
 have Ajd:∀(a:Addr) (n c:Nat) (GH:ATO Value),GH.length=n*t.size->(∀j u,GH[j]?=some u->w.cell? (a.add j)=some u)->(∀u∈GH,u.oneCell'=true)->Src P t.size tx (.slice (some a) n c) n GH w:=λa n c GH hl hn h1 =>
  ⟨AhR,λ_=>rfl,run_firstCells_some w t.size n a n c GH hl hn,run_firstCells_some w.drew t.size n a n c GH hl (by simpa using hn),hl,h1⟩
 unfold sW at h;split at h
 ·obtain⟨rfl,rfl,rfl⟩:=h;obtain⟨ad,rfl⟩:=YQ hv;exact⟨[],Awr ad 0,rfl,λj hj=>by(cases hj),λj hj=>by grind,.inl rfl⟩
 ·rename_i ks u xs;split at h
  ·rename_i l hl;obtain⟨e',he⟩:=BR hl;injection e' with e';subst e';subst he;obtain⟨rfl,rfl,rfl⟩:=h;obtain⟨hks,ad,cap,ds,rfl,fb,hr,hm⟩:=aS hv;have hEl:Bu (ao w g u (if u.BZ=true then RM.Aw else RM.sh ks) []) 0 xs ds:=by
    refine hr.toI λi x c h=>?_;cases hf:u.BZ with
    |true=>exact .inl ⟨hf,(H9.BZ hf).1 h⟩
    |false=>exact .inr (.inl ⟨ks,by simp,h⟩)
   refine⟨ds,?_,hEl,λj hj=>?_,λj hj=>by grind,.inl rfl⟩
   ·rcases hm with rfl |⟨b,off,rfl,_,hc⟩
    ·cases hr;exact Awr ad cap
    ·exact Ajd _ _ _ _ (CP.len (λx c h=>H9.len h) hr) (λj u hu=>by rw[Z9];exact hc j u hu) (CP.all (λx c h=>H9.one h) hr)
   ·cases hf:u.BZ with
    |true=>rw[hf]at hj;cases hj
    |false=>rw[hf]at hj;exact hks j hj
  ·grind
 ·rename_i ks s;split at h
  ·rename_i l hl;obtain⟨e',he⟩:=BR hl;injection e' with e';subst e';subst he;obtain⟨rfl,rfl,rfl⟩:=h;obtain rfl:=XG hv;refine⟨byteCells s,?_,?_,λj hj=>by(cases hj),λj hj=>by grind,.inl rfl⟩
   ·have e1:(s.data.toList.map λb=>(b.toNat:Int)).length=s.size:=by rw[AQl];rfl
    rw[e1];exact⟨AhR,λ_=>rfl,firstCells_string s w,firstCells_string s w.drew,by rw[byteCells_length];exact(Nat.mul_one _).symm,λu hu=>by
     obtain⟨_,_,rfl⟩:=List.mem_map.1 hu;rfl⟩
   ·have:∀(l:ATO UInt8) (i:Nat),Bu (ao w g (.int .u8) .Aw []) i (l.map λb=>(b.toNat:Int)) (l.map λb=>Value.int .u8 b.toNat):=by
      intro l;induction l with
      |nil=>exact λ_=>rfl
      |cons b l ih=>exact λi=>⟨[_],_,rfl,.inl ⟨rfl,rfl⟩,ih (i+1)⟩
    exact this _ 0
  ·grind
 ·rename_i j;split at h
  ·rename_i el m1 u xs hb;split at h
   ·rename_i l hl;obtain⟨e',he⟩:=BR hl;injection e' with e';subst e';subst he;obtain⟨rfl,rfl,rfl⟩:=h;obtain⟨hj,rfl⟩:=FE hv;obtain⟨RZ,hlen,QL,B5,hr⟩:=H.MP j _ hb;rw[hlen];have RY:∀j'∈(if u.BZ=true then RM.Aw else m1).Cx,j'<bs.length:=λj' R8=>by
     split at R8
     ·cases R8
     ·grind
    have hrs:∀j'∈(if u.BZ=true then[]else[j]),j'<bs.length:=λj' R8=>by
     grind
    have hsh:(if u.BZ=true then[]else[j])=[]\/∃j',(if u.BZ=true then[]else[j])=[j']:=by
     grind
    rcases hr with ⟨rfl,GM⟩|⟨b,BG,ds,ha,Cw,⟨elq,_,hh⟩,h1,h2,h3,h4,MN⟩
    ·rw[GM];exact⟨[],Awr _ 0,rfl,RY,hrs,hsh⟩
    ·rw[ha];have hEl:Bu (ao w g u (if u.BZ=true then RM.Aw else m1) (if u.BZ=true then[]else[j])) 0 xs ds:=by
      refine(D8.1 MN).mono λi x c h=>?_;cases hf:u.BZ with
      |true=>exact .inl ⟨hf,(UI.BZ hf).1 h⟩
      |false=>exact .inr (.inr ⟨j,by simp,by grind⟩)
     exact⟨ds,Ajd _ _ _ _ (Bu.len (λi x c h=>h.len) hEl) (Ag6 hh h4) (Bu.all (λi x c h=>h.one) hEl),hEl,RY,hrs,hsh⟩
   ·grind
  ·grind
 ·grind
def sK(off:Nat):ATO Nat->ATO Nat
 |[]=>[]
 |[i]=>[off+i]
 |a::b::r=>a::sK off (b::r)
theorem gD(off i:Nat):∀(q:ATO Nat),sK off (q++[i])=q++[off+i]
 |[]=>rfl
 |[a]=>rfl
 |a::b::q=>by
  have:=gD off i (b::q);simp only[AR4]at this⊢;simp only[sK,this]
def zg(kk:ATP Nat)(n off:Nat)(m:RM)(rs:ATO Nat)(j:Nat)(r:ATO Nat):Vf :=
 if kk=some j then .BV n r else if j∈rs then(match m with |.Aw=>.BV n (sK off r)|.sh _=>.Jd)else .BV j r
theorem kR{m m2 m':RM}(h:AbT m m2=some m'):(∀j,j∈m'.Cx↔j∈m.Cx\/j∈m2.Cx)/\(m=.Aw↔m'=.Aw)/\(m'=.Aw->m2=.Aw):=by
 cases m<;>cases m2<;>simp only[AbT,AQb,reduceCtorEq]at h<;>subst h<;>simp[RM.Cx]
end
section
variable {P:Program} {σ:St} {o:Oper} {en:GX} {e:H8}
theorem cB{w:World}{g:G}{bs:ATO Blk}(H:Bo w g bs){t tx ty:TypeId}{ti te fL:TI}(ht:Fp P t ti)(Et:Fp P ti.elem te)(Jc:ti.EA=true)(yl:Fp P tx fL)(hkx:(fL.EA||fL.ty==.str)=true)(OY:te.ty.row=true)(vE:te.bytes≠0)
    {er:Nat} (her:er=0\/er=ti.elem) {kk:ATP Nat} {m m2 m':RM} {xs ys:ATO te.ty.V} {rs:ATO Nat} {y:AV} (kK:sW bs te.ty y=some (ys,m2,rs)) {ad:ATP Addr} {cap:Nat}
    (XQ:(xs=[]/\cap=0)\/∃k b BG ds,kk=some k/\ad=some ⟨b,0,none⟩/\g.own b=.BV k []/\V6 w b er BG/\xs.length<=cap/\cap<=maxLen/\BG.size=cap*te.ty.size/\BG.toList.take (xs.length*te.ty.size)=ds/\uc w g.own k m te.ty xs ds)
    (WY:∀k,kk=some k->k∉rs/\k∉m'.Cx/\k<bs.length) (RY:∀j∈m.Cx,j∈m'.Cx/\j<bs.length) (gZ:xs≠[]->(m=.Aw↔m'=.Aw)) (hj:(∀j∈m2.Cx,j∈m'.Cx)/\(m'=.Aw->m2=.Aw)) (AJU:∀j∈m'.Cx,j<bs.length) (QJ:∀j∈m'.Cx,j∉rs)
    (RX:(xs.length+ys.length)*te.bytes<=140737488355328) {v:Value} (hv:Cb w g bs.length y v) {S4:ATO Blk} (AvG:S4.length=bs.length) (Xg:∀(j:Nat) (x:Blk),S4[j]?=some x->x=.Bg\/(j∉kk.toList++rs/\∃y,bs[j]?=some y/\x=y.drop λi=>(kk.toList++rs).contains i)) :
    ∃r w' g',(Builtin.append_ #[t,tx] ty #[.slice ad xs.length cap,v]).run P w=.ok r w'/\Bo w' g' (S4++[.row er m' te.ty (xs++ys)])/\Cb w' g' (bs.length+1) (.AK bs.length) r/\Step (kk.toList++rs) bs.length w g w' g':=by
 obtain⟨kE,B5⟩:=lJ OY;obtain⟨i,z,hi,Nt,hbi,hz,oS,_⟩:=Et.info;obtain⟨GH,hs,V2,S6,AKg,AOD⟩:=AjH H kK hv yl hkx;have hu:=BH ht Jc;have hzs:z.cells.size=i.size:=by rw[<-AQ9,oS,S0,Nt]
 let n:=bs.length
 let f:=zg kk n xs.length m' rs
 obtain ⟨ds,Ah2,Ah3⟩:∃ds,((xs.length=0/\cap=0/\ds=[])\/∃b BG e0,ad=some ⟨b,0,none⟩/\(∃k,kk=some k/\g.own b=.BV k [])/\(w.heap[b]?=some (.cells BG e0 (0,0))/\(er=0\/e0=ti.elem))/\xs.length<=cap/\cap<=maxLen/\BG.size=cap*i.size/\BG.toList.take (xs.length*i.size)=ds) /\
     ((xs=[]/\ds=[])\/∃k,kk=some k/\uc w g.own k m te.ty xs ds):=by
  rcases XQ with ⟨rfl,rfl⟩|⟨k,b,BG,ds,h1,h2,h3,⟨e0,he0,h4⟩,h5,h6,h7,h8,h9⟩
  ·exact⟨[],.inl ⟨rfl,rfl,rfl⟩,.inl ⟨rfl,rfl⟩⟩
  ·exact⟨ds,.inr ⟨b,BG,e0,h2,⟨k,h1,h3⟩,⟨h4,by rcases he0 with h |h;exact .inl h;exact her.imp id λh'=>h.trans h'⟩,h5,h6,by rw[Nt];exact h7,by rw[Nt];exact h8⟩,.inr ⟨k,h1,h9⟩⟩
 obtain⟨ui,Tt,w',Es,hos,hta,hou,Qs,dk⟩:=zh (P:=P) w t tx ty ti.elem i z hu hi hz hzs (by rw[Nt];exact B5) Ah2 (by rw[Nt];exact hs) (by rw[hbi];exact vE) (by rw[hbi];exact RX)
 let i':BI:=⟨ui,xs.length+ys.length,Tt,te.ty.size⟩
 have lt:∀b,g.own b≠.no->b<w.heap.size:=λb h=>Vp H h;obtain ⟨ob,zO,Wd,hh,R9⟩:∃ob:ATP Nat,(∀q,ob=some q->w.heap.size<=q/\q<w'.heap.size) /\
     (∀q,q<w.heap.size->(∀k p,g.own q=.BV k p->k∉kk.toList++rs)->w'.heap[q]?=w.heap[q]?) /\
     (∀b,(g.own b=.Jd\/∃j r,g.own b=.BV j r/\(kk≠some j\/r≠[]))->w'.heap[b]?=w.heap[b]?) /\
     ((xs++ys=[]/\Tt=0)\/∃b' QH,ui=some ⟨b',0,none⟩/\V6 w' b' er QH/\xs.length+ys.length<=Tt/\Tt<=maxLen/\QH.size=Tt*te.ty.size/\QH.toList.take ((xs.length+ys.length)*te.ty.size)=ds++GH/\(g.V1 f ob n i').own b'=.BV n []):=by
  rcases dk with ⟨h0,GM,rfl⟩|⟨b',QH,e1,h1,⟨h2,he1⟩,h3,h4,h5,h6,h7⟩
  ·refine⟨none,λq h=>by(cases h),λq _ _=>rfl,λb _=>rfl,.inl ⟨?_,GM⟩⟩;apply AQ2;rw[AQd];omega
  ·rw[Nt]at h5 h6;have h2:V6 w' b' er QH:=⟨e1,by rcases her with h |h;exact .inl h;exact he1.imp id λh'=>h'.trans h.symm,h2⟩;rcases h7 with ⟨BG,e0,_,⟨k,hk,Cw⟩,hb,rfl⟩|⟨rfl,Bw,hkp⟩
   ·have MO:∀b,(g.own b=.Jd\/∃j r,g.own b=.BV j r/\(kk≠some j\/r≠[]))->b≠b':=λb hq e=>by
      subst e;rcases hq with hq |⟨j,r,hq,hj⟩
      ·rw[Cw]at hq;cases hq
      ·rw[Cw]at hq;injection hq with e1 e2;subst e1;subst e2;rcases hj with hj |hj
       ·exact hj hk
       ·exact hj rfl
    refine⟨none,λq h=>by(cases h),kS Cw (by simp[hk]),λb hb=>setRow_other w b' b QH (MO b hb),.inr ⟨b',QH,h1,h2,h3,h4,h5,h6,?_⟩⟩;rw[I0 (by simp) Cw];simp[f,zg,hk]
   ·refine⟨some w.heap.size,λq h=>by injection h with h;subst h;exact⟨AQf _,Bw⟩,λq hq _=>hkp q hq,λb hb=>hkp b (lt b ?_),.inr ⟨_,QH,h1,h2,h3,h4,h5,h6,by simp[G.V1]⟩⟩;rcases hb with hb |⟨j,r,hb,_⟩<;>rw[hb]<;>simp
 let g':=g.V1 f ob n i'
 have Wp:∀b j r,g.own b=.BV j r->g'.own b=f j r:=λb j r h=>I0 (λe=>by
  have h1:=(zO b e).1;have h2:=lt b (by rw[h];simp);omega) h
 have dy:∀b,g.own b=.Jd->g'.own b=.Jd:=λb h=>Wv (λe=>by
  have h1:=(zO b e).1;have h2:=lt b (by rw[h];simp);omega) h
 have st:Step (kk.toList++rs) n w g w' g':=Step.V1 H.B7 hos hta hou Qs Wd (λq h=>(zO q h).1) (AQf _) λj r _ hm=>by
  have h1:kk≠some j:=λe=>hm (by simp[e]);have h2:j∉rs:=λe=>hm (by simp[e]);simp[f,zg,h1,h2]
 have Ahq:∀j r,j∈m'.Cx->f j r=.BV j r:=λj r hj=>by
  have h1:kk≠some j:=λe=>(WY j e).2.1 hj;simp[f,zg,h1,QJ j hj]
 have Aod:∀(k i:Nat) (x:te.ty.V) (c:ATO Value),kk=some k->xs≠[]->UI w g.own k m te.ty i x c->UI w' g'.own n m' te.ty i x c:=by
  intro k i x c hk MO V2;refine V2.on ?_;have hd:=gZ MO;cases m with
  |Aw =>
   have:m'=.Aw:=hd.1 rfl;subst this;intro b q hb;exact⟨by rw[Wp b k _ hb];simp[f,zg,hk],hh b (.inr ⟨k,_,hb,.inr (by simp)⟩)⟩
  |sh ks =>
   cases m' with
   |Aw=>have:=hd.2 rfl;cases this
   |sh UO =>
    intro b hb;rcases hb with hb |⟨j,hj,r,hb⟩
    ·exact⟨.inl (dy b hb),hh b (.inl hb)⟩
    ·have vI:j∈UO:=(RY j hj).1;exact⟨.inr ⟨j,vI,r,by rw[Wp b j r hb];exact Ahq j r vI⟩,hh b (.inr ⟨j,r,hb,.inl λe=>(WY j e).2.1 vI⟩)⟩
 have AGq:∀(i:Nat) (x:te.ty.V) (c:ATO Value),ao w g te.ty m2 rs i x c->UI w' g'.own n m' te.ty (xs.length+i) x c:=by
  intro i x c V2;rcases V2 with ⟨hf,rfl⟩|⟨ks,rfl,hr⟩|⟨j,hrj,hr⟩
  ·exact(UI.BZ hf).2 rfl
  ·cases m' with
   |Aw=>have:=hj.2 rfl;cases this
   |sh UO =>
    refine H9.mono (λb hb=>?_) hr;rcases hb with hb |⟨j,mK,r,hb⟩
    ·exact⟨.inl (dy b hb),hh b (.inl hb)⟩
    ·have vI:j∈UO:=hj.1 j mK;exact⟨.inr ⟨j,vI,r,by rw[Wp b j r hb];exact Ahq j r vI⟩,hh b (.inr ⟨j,r,hb,.inl λe=>(WY j e).2.1 vI⟩)⟩
  ·have mK:kk≠some j:=λe=>(WY j e).1 (by simp[hrj]);have rH:j∈rs:=by simp[hrj]
   refine hr.on ?_;cases m2 with
   |Aw =>
    cases m' with
    |Aw =>
     intro b q hb;refine⟨?_,hh b (.inr ⟨j,_,hb,.inl mK⟩)⟩;rw[Wp b j _ hb];simp only[f,zg,AQs mK,AQr rH,gD]
    |sh UO =>
     intro b q hb;exact⟨.inl (by rw[Wp b j _ hb];simp only[f,zg,AQs mK,AQr rH]),hh b (.inr ⟨j,_,hb,.inl mK⟩)⟩
   |sh ks =>
    cases m' with
    |Aw=>have:=hj.2 rfl;cases this
    |sh UO =>
     intro b hb;rcases hb with hb |⟨j',AJP,r,hb⟩
     ·exact⟨.inl (dy b hb),hh b (.inl hb)⟩
     ·have vI:j'∈UO:=hj.1 j' AJP;exact⟨.inr ⟨j',vI,r,by rw[Wp b j' r hb];exact Ahq j' r vI⟩,hh b (.inr ⟨j',r,hb,.inl λe=>(WY j' e).2.1 vI⟩)⟩
 have QI:g'.A5 n=i':=by simp[g',G.V1]
 refine⟨_,w',g',Es,H.bZ st (Ny H.B7 Qs λq h=>(zO q h).2) (by simp[AvG]) λj x R8=>?_,?_,st⟩
 ·rw[AQz]at R8;split at R8
  ·rcases Xg j x R8 with h |h
   ·exact .inl h
   ·exact .inr (.inl h)
  ·rename_i hlen;rw[AvG]at R8 hlen;have oO:j-bs.length=0:=by
    rcases AQx (j-bs.length)with h |h
    ·exact h
    ·rw[AQN (by simp;omega)]at R8;cases R8
   rw[oO]at R8;obtain rfl:j=n:=by simp only[n];omega
   simp only[List.getElem?_cons_zero,AQb]at R8;subst R8;refine .inr (.inr ⟨λj hj=>by have:=AJU j hj;simp[AvG];omega,by rw[QI,AQd],by rw[QI],B5,?_⟩);rw[QI,AQd];refine R9.imp id λ⟨b',QH,h1,h2,h3,h4,h5,h6,h7⟩=>⟨b',QH,_,h1,h7,h2,h3,h4,h5,h6,?_⟩;rw[D8];refine Bu.append ?_ ?_
   ·rcases Ah3 with ⟨rfl,rfl⟩|⟨k,hk,MN⟩
    ·rfl
    ·rcases Classical.em (xs=[])with hx |hx
     ·subst hx;have:ds=[]:=by cases m<;>exact MN
      subst this;rfl
     ·exact(D8.1 MN).mono λi x c h=>Aod k i x c hk hx h
   ·rw[AQF];have shift:∀(ys:ATO te.ty.V) (cs:ATO Value) (a b:Nat),Bu (ao w g te.ty m2 rs) a ys cs->Bu (UI w' g'.own n m' te.ty) (xs.length+a) ys cs:=by
     intro ys;induction ys with
     |nil=>exact λcs a _ h=>h
     |cons y ys ih =>
      intro cs a b ⟨c,d,e,h1,h2⟩;exact⟨c,d,e,AGq a y c h1,ih d (a+1) b h2⟩
    exact shift ys GH 0 0 V2
 ·refine BD (cs:=[_]) rfl ⟨AQP _,rfl⟩ ?_;have:g'.A5 bs.length=i':=QI;simp[Cp,AV.isAgg,this,i']
end
section
variable {P:Program} {σ:St} {o:Oper} {en:GX} {e:H8} {fi:FI}
theorem Aa4{c:Call}{x y:AV}(h:Qi σ c.args=[x,y]):∃a b,c.args=#[a,b]/\σ.Cr a=x/\σ.Cr b=y:=by
 unfold Qi at h;cases hc:c.args with
 |mk l =>
  rw[hc]at h
  match l,h with
  |[a,b],h =>
   grind
  |[],h=>grind
  |[_],h=>grind
  |_::_::_::_,h=>grind
theorem AfM{c:Call}{x:AV}(h:Qi σ c.args=[x]):∃a,c.args=#[a]/\σ.Cr a=x:=by
 unfold Qi at h;cases hc:c.args with
 |mk l =>
  rw[hc]at h
  match l,h with
  |[a],h =>
   grind
  |[],h=>grind
  |_::_::_,h=>grind
theorem AaJ{ts:Array TypeId}{t u:TypeId}(h:ts.toList=[t,u]):ts=#[t,u]:=by grind
theorem Ki{c:Call}(ho:o.op=.call c){b:Builtin}(hc:c.callee=.builtin b)(ρ:Operand->Value) :
    execOp ρ o=builtin b c.argTypes o.type (c.args.map λ|.const _=>true |_=>false) (c.args.map ρ):=by
 simp only[execOp,ho,resolve,hc];rfl
theorem Am3{c:Call}(ho:o.op=.call c)(hc:c.callee=.builtin .len){x:AV}(hx:Qi σ c.args=[x]){t:TypeId}{r:ATO TypeId}(aC:c.argTypes.toList=t::r){ti:TI}(ht:Fp P t ti){z:AV}(h:sc σ.Aj ti x some=some z):OA P σ o ⟨z,σ.Aj,[]⟩:=by
 obtain⟨a0,ha,rfl⟩:=AfM hx;refine .Je <| Mg (s:=λρ=>Builtin.len_ c.argTypes o.type #[ρ a0]) (λρ=>?_) λa w g hs=>?_
 ·rw[Ki ho hc,ha];simp[builtin]
 ·obtain⟨z',e,hG⟩:=AmH (n:=σ.Aj.length) hs.heap ht h (A0 hs a0) o.type _ (by rw[<-AQn,aC];rfl)
  grind
theorem Ajr{c:Call}(ho:o.op=.call c){mx:Bool}(hc:c.callee=.builtin (if mx then .max else .min)){x y:AV}(hx:Qi σ c.args=[x,y]){z:AV}(h:mmA mx x y some=some z):OA P σ o ⟨z,σ.Aj,[]⟩:=by
 obtain⟨a0,a1,ha,rfl,rfl⟩:=Aa4 hx;refine .Je <| Mg (s:=λρ=>if mx then Builtin.max_ c.argTypes o.type #[ρ a0,ρ a1]else Builtin.min_ c.argTypes o.type #[ρ a0,ρ a1]) (λρ=>?_) λa w g hs=>?_
 ·rw[Ki ho hc,ha];cases mx<;>simp[builtin]
 ·obtain⟨z',e,hG⟩:=Awo  h (A0 hs a0) (A0 hs a1) _ _;injection e with e;subst e;exact hG
theorem AjG{w:World}{g:G}{bs:ATO Blk}(H:Bo w g bs){t:Ty}{y:AV}{ys:ATO t.V}{m:RM}{rs:ATO Nat}(h:sW bs t y=some (ys,m,rs)){v:Value}(hv:Cb w g bs.length y v):(∀j∈m.Cx,j<bs.length):=by
 unfold sW at h;split at h
 ·obtain⟨rfl,rfl,rfl⟩:=h;intro j hj;cases hj
 ·split at h
  ·obtain⟨rfl,rfl,rfl⟩:=h;intro j hj;split at hj
   ·cases hj
   ·exact(aS hv).1 j hj
  ·grind
 ·split at h
  ·obtain⟨rfl,rfl,rfl⟩:=h;intro j hj;cases hj
  ·grind
 ·rename_i k;split at h
  ·rename_i el m1 u xs hb;split at h
   ·obtain⟨rfl,rfl,rfl⟩:=h;intro j hj;split at hj
    ·cases hj
    ·exact(H.MP k _ hb).1 j hj
   ·grind
  ·grind
 ·grind
theorem Aas{c:Call}(ho:o.op=.call c)(hc:c.callee=.builtin .append){x y:AV}(hx:Qi σ c.args=[x,y]){t tx:TypeId}(aC:c.argTypes.toList=[t,tx]){ti te fL:TI}(ht:Fp P t ti)(Et:Fp P ti.elem te)(Jc:ti.EA=true)(yl:Fp P tx fL)(hkx:(fL.EA||fL.ty==.str)=true)
    (h:Zx fi σ.Aj ti.elem te x y some=some e):OA P σ o e:=by
 obtain⟨a0,a1,ha,rfl,rfl⟩:=Aa4 hx;have Es:∀(a:Act) (w:World) (r:Value) (w':World),(Builtin.append_ #[t,tx] o.type #[a.eval a0,a.eval a1]).run P w=.ok r w'->(execOp a.eval o).run P w=.ok (.value r) w':=by
  intro a w r w' hr;rw[Ki ho hc,ha,AaJ aC];simp[builtin,hr]
 have WX:∀(HH:ATO Blk) (BJ:ATO Nat),σ.Aj.length+1=HH.length->(BJ=[]->∃l,HH=σ.Aj++l) ->
     (∀(a:Act) (w:World) (g:G),LA w g σ a->∃r w' g',(Builtin.append_ #[t,tx] o.type #[a.eval a0,a.eval a1]).run P w=.ok r w'/\Bo w' g' HH/\Cb w' g' (σ.Aj.length+1) (.AK σ.Aj.length) r/\Step BJ σ.Aj.length w g w' g')->OA P σ o ⟨.AK σ.Aj.length,HH,BJ⟩:=by
  intro HH BJ hl hm hh;refine⟨by show σ.Aj.length<=HH.length;omega,hm,λa w g hs next Q hn=>?_⟩
  obtain⟨r,w',g',hr,hH,hv,BX⟩:=hh a w g hs;unfold Oper.wp;rw[Es a w r w' hr];exact hn r w' g' hH (by show Cb w' g' HH.length _ _;rw[<-hl];exact hv) BX
 have hlen:∀(BJ l:ATO Nat),(Blk.G4 (Bh BJ σ.Aj) l).length=σ.Aj.length:=λBJ l=>by rw[Bd,AH]
 unfold Zx at h;split at h
 ·rename_i hzs;split at h
  ·cases h
  ·rename_i hr0;have gd:(te.ty.row&&te.bytes !=0)=true:=by simpa using hr0
   rw[AQg]at gd;have vE:te.bytes≠0:=by simpa using gd.2
   split at h
   ·rename_i ys m2 rs kK;split at h
    ·rename_i m' hj;split at h
     ·rename_i QJ;split at h
      ·rename_i RX;injection h with h;subst h;refine WX _ _ (by rw[AQd,hlen];rfl) (λh=>⟨[.row ti.elem m' te.ty ys],by have h:rs=[]:=h;rw[h];rfl⟩) λa w g hs=>?_;have hv0:=A0 hs a0;rw[hzs]at hv0;obtain⟨ad,hv0⟩:=YQ hv0;rw[hv0];have Y7:(∀j∈m'.Cx,j∈m2.Cx)/\(∀j∈m2.Cx,j∈m'.Cx)/\(m'=.Aw->m2=.Aw):=by
        obtain⟨h1,h2,h3⟩:=kR hj;refine⟨λj hj=>?_,λj hj=>(h1 j).2 (.inr hj),h3⟩;rcases(h1 j).1 hj with h |h
        ·cases m2 with
         |Aw=>rw[VA]at h;cases h
         |sh ks=>exact h
        ·exact h
       have:=cB (er:=ti.elem) (her:=.inr rfl) (kk:=none) (m:=.Aw) (xs:=([]:ATO te.ty.V)) (cap:=0) (ad:=ad) (m':=m') (S4:=Blk.G4 (Bh rs σ.Aj) rs) (ty:=o.type) hs.heap ht Et Jc yl hkx gd.1 vE kK (.inl ⟨rfl,rfl⟩) (λk hk=>by cases hk) (λj hj=>by cases hj) (λh=>(h rfl).elim) Y7.2
        (λj hj=>AjG hs.heap kK (A0 hs a1) j (Y7.1 j hj)) (Xq QJ) (by simpa using RX) (A0 hs a1) (hlen rs rs) (λj x hx=>by
         rcases Lf hx with h |⟨rH,h⟩
         ·exact .inl h
         ·obtain⟨y',iP,rfl⟩:=DC h;exact .inr ⟨by simpa using rH,y',iP,rfl⟩)
       simpa using this
      ·cases h
     ·cases h
    ·cases h
   ·cases h
 ·rename_i k hk;split at h
  ·cases h
  ·rename_i hr0;have gd:(te.ty.row&&te.bytes !=0)=true:=by simpa using hr0
   rw[AQg]at gd;have vE:te.bytes≠0:=by simpa using gd.2
   split at h
   ·rename_i e' m t' xs0 ys m2 rs hb kK;split at h
    ·rename_i xs m' vF hj;split at h
     ·rename_i vG;split at h
      ·rename_i RX;injection h with h;subst h;obtain⟨he,hrk,QJ⟩:=vG;obtain⟨ec,hec⟩:=BR vF;injection ec with ec;subst ec;simp only at hec;subst hec;have zK:k∉rs:=by simpa using hrk
       have Yn:=Xq QJ;refine WX _ _ (by rw[AQd,hlen];rfl) (λh=>by cases h) λa w g hs=>?_;have hv0:=A0 hs a0;rw[hk]at hv0;obtain⟨fY,hv0⟩:=FE hv0;obtain⟨RZ,hl,QL,B5,hrr⟩:=hs.heap.MP k _ hb;rw[hv0,hl];obtain⟨h1,h2,h3⟩:=kR hj;have S6:=AjG hs.heap kK (A0 hs a1);have:=cB (er:=e') (her:=he.symm.imp id λh=>h.1.symm) (kk:=some k) (m:=m) (xs:=xs0) (ad:=(g.A5 k).a) (cap:=(g.A5 k).cap) (m':=m') (S4:=Blk.G4 (Bh (k::rs) σ.Aj) (k::rs)) (ty:=o.type) hs.heap ht Et Jc yl hkx gd.1 vE kK
        (hrr.imp id λ⟨b,BG,ds,p1,p2,p3,p4,p5,p6,p7,p8⟩=>⟨k,b,BG,ds,rfl,p1,p2,p3,p4,p5,p6,p7,p8⟩)
        (λk' XC=>by injection XC with XC;subst XC;exact⟨zK,λh=>Yn k h (by simp),fY⟩) (λj hj=>⟨(h1 j).2 (.inl hj),RZ j hj⟩) (λ_=>h2) ⟨λj hj=>(h1 j).2 (.inr hj),h3⟩
        (λj hj=>by rcases(h1 j).1 hj with h |h;exact RZ j h;exact S6 j h) (λj hj h=>Yn j hj (AQB _ h)) RX (A0 hs a1) (hlen (k::rs) (k::rs)) (λj x hx=>by
         rcases Lf hx with h |⟨rH,h⟩
         ·exact .inl h
         ·obtain⟨y',iP,rfl⟩:=DC h;exact .inr ⟨by simpa using rH,y',iP,rfl⟩)
       simpa using this
      ·cases h
     ·cases h
    ·cases h
   ·cases h
 ·cases h
theorem Am0{t:TypeId}{x:Operand}{hi:ATP Operand}(ho:o.op=.slice t x none hi none){ti:TI}(ht:Fp P t ti)(Jc:ti.EA=true){te:TI}(Et:Fp P ti.elem te)
    (h:Ac8 te.ty σ.Aj (σ.Cr x) (hi.map σ.Cr) some=some e):OA P σ o e:=by
 unfold Ac8 at h;split at h
 ·rename_i k ks kk hv hx hh;split at h
  ·rename_i el m tr xs hb;split at h
   ·rename_i QJ;obtain⟨QJ,htt⟩:=QJ;subst htt;split at h
    ·rename_i hc;injection h with h;subst h;obtain⟨h0,h1⟩:=hc;refine⟨by simp[Bd,AH],λh=>by(cases h),λa w g hs next Q hn=>?_⟩
     have H:=hs.heap;have hxo:=A0 hs x;rw[hx]at hxo;obtain⟨hk,vX⟩:=FE hxo;obtain⟨RZ,hlen,QL,B5,hr⟩:=H.MP k _ hb;have hhi:=ZT hs hi;rw[hh]at hhi;obtain⟨rQ,hve⟩:∃v,hi.map a.eval=some v/\v=.int kk hv:=by
      cases hq:hi.map a.eval with
      |none=>rw[hq]at hhi;exact hhi.elim
      |some v=>rw[hq]at hhi;exact⟨v,rfl,DR hhi⟩
     obtain⟨AKy,AGM⟩:=hve;subst AGM;have fb:(g.A5 k).len<=(g.A5 k).cap:=by
      rw[hlen];rcases hr with ⟨rfl,GM⟩|⟨b,BG,ds,_,_,_,h1,_⟩
      ·simp
      ·exact h1
     have zE:(if(g.A5 k).cap=0 then(g.A5 k).a else(g.A5 k).a.map (·.add (0*te.ty.size)))=(g.A5 k).a:=by
      split
      ·rfl
      ·rename_i GM;rcases hr with ⟨_,Pk⟩|⟨b,BG,ds,ha,_⟩
       ·exact(GM Pk).elim
       ·rw[ha];simp[Z9]
     have Es:(execOp a.eval o).run P w=.ok (.value (.slice (g.A5 k).a hv.toNat (g.A5 k).cap)) w:=by
      have oM:=Sl (P:=P) (w:=w) (isS:=true) (len:=(g.A5 k).len) (cap:=(g.A5 k).cap) (lo:=none) (hi:=some (.int kk hv)) (l:=0) (h:=hv) (.inl ⟨rfl,rfl⟩) (.inr ⟨kk,rfl⟩) (ARC _) h0 (by rw[hlen];exact h1) fb;have:(Instr.sliceAt t (.slice (g.A5 k).a (g.A5 k).len (g.A5 k).cap) none (some (.int kk hv)) none).run P w=.ok (.slice (g.A5 k).a hv.toNat (g.A5 k).cap) w:=by
       rw[Lx ht Jc];simp[Instr.slice,underlying,BH ht Jc,oM,D9 Et];simpa using zE
      simp[execOp,ho,vX,AKy,this]
     unfold Oper.wp;rw[Es]
     let n:=σ.Aj.length
     let i':BI:=⟨(g.A5 k).a,hv.toNat,(g.A5 k).cap,te.ty.size⟩
     let f:Nat->ATO Nat->Vf:=λj r=>if j=k then .BV n r else .BV j r
     let g':=g.V1 f none n i'
     have st:Step [k] n w g w g':=Step.V1 H.B7 rfl rfl rfl (AQf _) (λ_ _ _=>rfl) (λq h=>by cases h) (AQf _) λj r _ hm=>by
      simp only[AQA]at hm;simp[f,hm]
     have QI:g'.A5 n=i':=by simp[g',G.V1]
     have hvl:hv.toNat<=xs.length:=by have h1':(hv:Int)<=(xs.length:Int):=h1;exact Int.toNat_le.2 h1'
     have Yn:=Xq QJ;refine hn _ w g' (H.bZ st (Ny H.B7 (AQf _) λq h=>by cases h) (by simp[Bd,AH]) λj y hj=>?_) ?_ st
     ·rw[AQz]at hj;split at hj
      ·rcases Lf hj with h |⟨rH,h⟩
       ·exact .inl h
       ·obtain⟨y',iP,rfl⟩:=DC h;exact .inr (.inl ⟨rH,y',iP,rfl⟩)
      ·rename_i Bw;rw[Bd,AH]at hj Bw;have oO:j-σ.Aj.length=0:=by
        rcases AQx (j-σ.Aj.length)with h |h
        ·exact h
        ·rw[AQN (by simp;omega)]at hj;cases hj
       rw[oO]at hj;obtain rfl:j=n:=by simp only[n];omega
       simp only[List.getElem?_cons_zero,AQb]at hj;subst hj;refine .inr (.inr ⟨λj hj=>by have:=RZ j hj;simp[Bd,AH];omega,by rw[QI,AQu];simp only[i'];omega,by rw[QI],B5,?_⟩);rw[QI];rcases hr with ⟨rfl,GM⟩|⟨b,BG,ds,ha,Cw,AhK,p1,p2,p3,p4,MN⟩
       ·exact .inl ⟨by simp,GM⟩
       ·refine .inr ⟨b,BG,ds.take (hv.toNat*te.ty.size),ha,by rw[I0 (by simp) Cw];simp[f],AhK,by rw[AQu];simp only[i'];omega,p2,p3,?_,?_⟩
        ·rw[AQu,Nat.min_eq_left hvl,<-p4,List.take_take,Nat.min_eq_left (AQ3 _ hvl)]
        ·rw[D8];refine(Bu.takeN (λi x c h=>UI.len h) hv.toNat (D8.1 MN)).mono λi x c V2=>V2.on ?_;cases m with
         |Aw=>exact λb q hb=>⟨by rw[I0 (by simp) hb];simp[f],rfl⟩
         |sh ks =>
          intro b hb;rcases hb with hb |⟨j,hj,r,hb⟩
          ·exact⟨.inl (Wv (by simp) hb),rfl⟩
          ·refine⟨.inr ⟨j,hj,r,?_⟩,rfl⟩;have:j≠k:=λe=>Yn j hj (by simp[e]);rw[I0 (by simp) hb];simp[f,this]
     ·refine BD (cs:=[_]) rfl ⟨by simp[Bd,AH],rfl⟩ ?_;have:g'.A5 σ.Aj.length=i':=QI;simp[Cp,AV.isAgg,this,i']
    ·cases h
   ·cases h
  ·cases h
 ·cases h
theorem Aew(w:World)(t tx ty e:TypeId)(i:TypeInfo)(z:Value)(ht:P.underlying t=some (.slice e)){k':IntKind}(hk:P.underlying tx=some (.int k'))(hi:P.info? e=some i)(hz:i.zero=some z)(ad:ATP Addr)(k:IntKind)(l:Int)(h0:0<=l)(RX:l*(i.bytes:Int)<=140737488355328)(hb:i.bytes≠0)(hs:i.size≠0) :
    (l=0/\(Builtin.append_ #[t,tx] ty #[.slice ad 0 0,.int k l]).run P w=.ok (.slice ad 0 0) w)\/(0<l /\
     (Builtin.append_ #[t,tx] ty #[.slice ad 0 0,.int k l]).run P w=.ok (.slice (some ⟨w.heap.size,0,none⟩) l.toNat (grownCap w l.toNat 0 e)) (w.drew.alloc (.cells (Builtin.zeroCells z.cells l.toNat++Builtin.zeroCells z.cells (grownCap w l.toNat 0 e-l.toNat)) e))):=by
 have S5:l<=140737488355328:=by
  have h1:(1:Int)<=(i.bytes:Int):=by omega
  have:=Int.mul_le_mul_of_nonneg_left h1 h0;omega
 have hw:IntKind.i64.wrap l=l:=by rw[IntKind.wrap_i64];omega
 have n1:¬l<0:=by omega
 have n2:¬(281474976710656<l*(i.bytes:Int)):=by omega
 rcases Int.le_iff_lt_or_eq.1 h0 with hp |hp
 ·refine .inr ⟨hp,?_⟩;have hn:¬(l.toNat=0):=by omega
  have hn':¬(l<=0):=by omega
  have hns:¬(l.toNat*i.size=0):=λh=>by rcases Nat.mul_eq_zero.1 h with h |h;exact hn h;exact hs h
  have h48:¬(281474976710656<Builtin.nextslicecap l.toNat 0*i.bytes):=by
   unfold Builtin.nextslicecap;rw[AQr (by omega)];have:((l.toNat*i.bytes:Nat):Int)=l*(i.bytes:Int):=by rw[Int.natCast_mul,Int.toNat_of_nonneg h0]
   omega
  have h63:¬(9223372036854775807<max l 0):=by omega
  have hf:(Builtin.firstCells i.size 0 (.slice ad 0 0)).run P w.drew=.ok #[] w.drew:=by
   cases ad with
   |none=>exact run_firstCells_none w.drew i.size 0 0 0
   |some a=>exact run_firstCells_some w.drew i.size 0 a 0 0 [] (by simp) (by simp)
  simp[Builtin.append_,run_underlying ht,run_underlying hk,sizeOf,typeInfo,zeroValue,asInt,asIntOf,hi,hz,hw,n1,n2,hn',h63,h48,hns,Question.forced,hf,newRow,grownCap]
 ·subst hp;refine .inl ⟨rfl,?_⟩;cases ad<;>simp[Builtin.append_,run_underlying ht,run_underlying hk,sizeOf,typeInfo,asInt,asIntOf,hi,IntKind.wrap_i64,storeCells]
theorem Aev(l:Int)(b:Nat)(h0:0<=l)(h:l*(b:Int)<=140737488355328)(hb:b≠0):l.toNat<=maxLen:=by
 have h1:1<=(b:Int):=by omega
 have:=Int.mul_le_mul_of_nonneg_left h1 h0;simp only[maxLen];omega
theorem qd(z:Array Value)(n:Nat):Builtin.zeroCells z n=madeCells z (n*z.size):=rfl
theorem xg{c:Call}(ho:o.op=.call c)(hc:c.callee=.builtin .append){x y:AV}(hx:Qi σ c.args=[x,y]){t tx:TypeId}(aC:c.argTypes.toList=[t,tx]){ti te fL:TI}(ht:Fp P t ti)(Et:Fp P ti.elem te)(Jc:ti.EA=true)(yl:Fp P tx fL)(hkx:fL.ty.isInt=true)
    (h:Zy fi σ.Aj ti.elem te x y some=some e):OA P σ o e:=by
 obtain⟨a0,a1,ha,ZP,kM⟩:=Aa4 hx;obtain⟨k',XC⟩:∃k',fL.ty=.int k':=by
  cases hq:fL.ty with
  |int k=>grind
  |_=>rw[hq]at hkx;cases hkx
 unfold Zy at h;split at h
 ·rename_i ks k l;split at h
  ·rename_i OY;split at h
   ·rename_i hl;injection h with h;subst h;obtain⟨kE,B5⟩:=lJ OY.1;obtain⟨i,z,hi,Nt,hbs,hz,oS,_⟩:=Et.info;refine⟨by simp,λ_=>⟨_,rfl⟩,λa w g hs next Q hn=>?_⟩
    have e1:=A0 hs a0;rw[ZP]at e1;obtain⟨ad,e1⟩:=YQ e1;have e2:=A0 hs a1;rw[kM]at e2;have e2:=DR e2;have hzz:z.cells.size=i.size:=by rw[Nt,<-AQ9,oS,S0]
    have ay:∀(r:Value) (w':World),(Builtin.append_ #[t,tx] o.type #[.slice ad 0 0,.int k l]).run P w=.ok r w'->(execOp a.eval o).run P w=.ok (.value r) w':=λr w' hr=>by
     rw[Ki ho hc,ha,AaJ aC];simp[builtin,e1,e2,hr]
    unfold Oper.wp;rcases Aew (P:=P) w t tx o.type ti.elem i z (BH ht Jc) (U9 yl XC) hi hz ad k l hl.1 (by grind) (by grind) (by omega)with ⟨h0,hr⟩|⟨hp,hr⟩
    ·subst h0;rw[ay _ _ hr]
     let g':G:=⟨g.own,λk=>if k=σ.Aj.length then⟨ad,0,0,te.ty.size⟩else g.A5 k⟩
     have st:Step [] σ.Aj.length w g w g':=⟨rfl,rfl,rfl,AQf _,λ_ _ h=>⟨h,rfl⟩,λ_ h=>⟨h,rfl⟩,λ_ _ _ h _ _=>⟨h,rfl⟩,λk hk=>by grind⟩;have ha0:g'.A5 σ.Aj.length=⟨ad,0,0,te.ty.size⟩:=by grind
     refine hn _ w g' (hs.heap.push st hs.heap.B7 ?_) ?_ st
     ·refine⟨(by rw[VA];intro j hj;cases hj),by grind,by grind,B5,.inl ⟨rfl,by grind⟩⟩
     ·refine BD (cs:=[_]) rfl ⟨by simp,rfl⟩ ?_;simp[Cp,AV.isAgg,ha0]
    ·rw[ay _ _ hr];have hml:l.toNat<=maxLen:=Aev l te.bytes hl.1 hl.2 OY.2;have ag:=grownCap_ge w l.toNat 0 ti.elem;have S5:=grownCap_le_maxLen w l.toNat 0 ti.elem hml;have st:=(Step.drew [] σ.Aj.length w g).trans (Step.add hs.heap.drew (.cells (Builtin.zeroCells z.cells l.toNat++Builtin.zeroCells z.cells (grownCap w l.toNat 0 ti.elem-l.toNat)) ti.elem) ⟨some ⟨w.heap.size,0,none⟩,l.toNat,grownCap w l.toNat 0 ti.elem,te.ty.size⟩) (AQf _);refine hn _ _ _ (hs.heap.drew.new ?_) ?_ st
     ·refine⟨(by rw[VA];intro j hj;cases hj),by simp[G.add],by simp[G.add],B5,.inr ⟨w.heap.size,_,_,by simp[G.add],by simp[G.add],⟨_,.inr rfl,heap_alloc_new w.drew _⟩,by simpa [G.add]using ag,by simpa [G.add]using S5,?_,rfl,?_⟩⟩
      ·simp only[G.add,AQV,Array.size_append,qd,size_madeCells,hzz,<-ARH];congr 1;omega
      ·rw[AQG,Array.toList_append,qd,hzz,Nt];have hk:(madeCells z.cells (l.toNat*te.ty.size)).toList.length=l.toNat*te.ty.size:=by rw[AQ9,size_madeCells]
       rw[ARf (by grind),fq z.cells (by grind) B5 (AQf _)];exact qe kE (by exact oS) _ fi
     ·refine BD (cs:=[_]) rfl ⟨by simp,rfl⟩ ?_;simp[Cp,AV.isAgg,G.add]
   ·grind
  ·grind
 ·grind
end
section
variable {P:Program} {σ:St} {o:Oper}
theorem Ajj{t:TypeId}{x lo:Operand}(ho:o.op=.slice t x (some lo) none none){ti te:TI}(ht:Fp P t ti)(Jc:ti.EA=true)(Et:Fp P ti.elem te){k:Nat}{ks:ATO Nat}{kk:IntKind}{l:Int}(hx:σ.Cr x=.AK k)(hlo:σ.Cr lo=.AB ks (.int kk) l)
    {el:Nat} {xs:ATO te.ty.V} (hb:σ.Aj[k]?=some (.tail el te.ty xs)) (h0:0<=l) (h1:l<=(xs.length:Int)) :
    OA P σ o ⟨.AK σ.Aj.length,Blk.G4 (Bh [k] σ.Aj) [k]++[.tail el te.ty (xs.drop l.toNat)],[k]⟩:=by
 refine⟨by simp[Bd,AH],λh=>by(cases h),λa w g hs next Q hn=>?_⟩
 have H:=hs.heap;have hxo:=A0 hs x;rw[hx]at hxo;obtain⟨hk,vX⟩:=FE hxo;obtain⟨hf,hlen,QL,B5,hr⟩:=H.MP k _ hb;have hlv:=A0 hs lo;rw[hlo]at hlv;have hlv:a.eval lo=.int kk l:=DR hlv;have fb:(g.A5 k).len<=(g.A5 k).cap:=by
  rw[hlen];rcases hr with ⟨rfl,GM⟩|⟨b,o',BG,ds,_,_,_,h1,_⟩
  ·simp
  ·exact h1
 have hvl:l.toNat<=xs.length:=Int.toNat_le.2 h1;obtain⟨ad,zE⟩:∃ad,ad=(if(g.A5 k).cap=l.toNat then(g.A5 k).a else(g.A5 k).a.map (·.add (l.toNat*te.ty.size))):=⟨_,rfl⟩;have Es:(execOp a.eval o).run P w=.ok (.value (.slice ad ((g.A5 k).len-l.toNat) ((g.A5 k).cap-l.toNat))) w:=by
  have oM:=Sl (P:=P) (w:=w) (isS:=true) (len:=(g.A5 k).len) (cap:=(g.A5 k).cap) (lo:=some (.int kk l)) (hi:=none) (l:=l) (h:=((g.A5 k).len:Int)) (.inr ⟨kk,rfl⟩) (.inl ⟨rfl,rfl⟩) h0 (by rw[hlen];exact h1) (ARC _) fb;have:(Instr.sliceAt t (.slice (g.A5 k).a (g.A5 k).len (g.A5 k).cap) (some (.int kk l)) none none).run P w=.ok (.slice ad ((g.A5 k).len-l.toNat) ((g.A5 k).cap-l.toNat)) w:=by
   rw[Lx ht Jc];simp[Instr.slice,underlying,BH ht Jc,oM,D9 Et,zE]
  simp[execOp,ho,vX,hlv,this]
 unfold Oper.wp;rw[Es]
 let n:=σ.Aj.length
 let i':BI:=⟨ad,(g.A5 k).len-l.toNat,(g.A5 k).cap-l.toNat,te.ty.size⟩
 let f:Nat->ATO Nat->Vf:=λj r=>if j=k then .BV n r else .BV j r
 let g':=g.V1 f none n i'
 have st:Step [k] n w g w g':=Step.V1 H.B7 rfl rfl rfl (AQf _) (λ_ _ _=>rfl) (λq h=>by cases h) (AQf _) λj r _ hm=>by
  simp only[AQA]at hm;simp[f,hm]
 have QI:g'.A5 n=i':=by simp[g',G.V1]
 refine hn _ w g' (H.bZ st (Ny H.B7 (AQf _) λq h=>by cases h) (by simp[Bd,AH]) λj y hj=>?_) ?_ st
 ·rw[AQz]at hj;split at hj
  ·rcases Lf hj with h |⟨rH,h⟩
   ·exact .inl h
   ·obtain⟨y',iP,rfl⟩:=DC h;exact .inr (.inl ⟨rH,y',iP,rfl⟩)
  ·rename_i Bw;rw[Bd,AH]at hj Bw;have oO:j-σ.Aj.length=0:=by
    rcases AQx (j-σ.Aj.length)with h |h
    ·exact h
    ·rw[AQN (by simp;omega)]at hj;cases hj
   rw[oO]at hj;obtain rfl:j=n:=by simp only[n];omega
   simp only[List.getElem?_cons_zero,AQb]at hj;subst hj;refine .inr (.inr ⟨hf,by rw[QI,AQJ];simp only[i'];omega,by rw[QI],B5,?_⟩);rw[QI];rcases hr with ⟨rfl,GM⟩|⟨b,off,BG,ds,ha,Cw,AhK,p1,p2,p3,p4,MN⟩
   ·exact .inl ⟨by simp,by simp only[i'];omega⟩
   ·rcases AQx ((g.A5 k).cap-l.toNat)with hz |hz
    ·exact .inl ⟨by apply AQ2;rw[AQJ];omega,hz⟩
    ·have OC:=congrArg List.length p4;refine .inr ⟨b,off+l.toNat*te.ty.size,BG,ds.drop (l.toNat*te.ty.size),?_,by rw[I0 (by simp) Cw];simp[f],AhK,by rw[AQJ];simp only[i'];omega,by simp only[i'];omega,?_,?_,?_⟩
     ·show ad=_;rw[zE,AQs (by omega),ha];simp[Z9]
     ·simp only[i'];rw[p3,ARe,<-ARH];congr 2;omega
     ·rw[AQJ,<-p4,<-List.drop_drop,List.drop_take,<-Nat.sub_mul]
     ·rw[D8];have vW:=IJ (j:=0).2 ((D8.1 MN).mono λi x c h=>(UI.BZ hf).1 h);exact(IJ (j:=0).1 (vW.Ahd (s:=te.ty.size) (λx c h=>UI.len (w:=w) (own:=g.own) (k:=k) (m:=.Aw) (i:=0) ((UI.BZ hf).2 h)) l.toNat)).mono λi x c h=>(UI.BZ hf).2 h
 ·refine BD (cs:=[_]) rfl ⟨by simp[Bd,AH],rfl⟩ ?_;have:g'.A5 σ.Aj.length=i':=QI;simp[Cp,AV.isAgg,this,i']
theorem Ajm{t:TypeId}{x y:Operand}(ho:o.op=.indexAddr t x y){ti te:TI}(ht:Fp P t ti)(Jc:ti.EA=true)(Et:Fp P ti.elem te){k:Nat}{ks:ATO Nat}{kk:IntKind}{i:Int}(hx:σ.Cr x=.AK k)(hy:σ.Cr y=.AB ks (.int kk) i)
    {el:Nat} {xs:ATO te.ty.V} (hb:σ.Aj[k]?=some (.tail el te.ty xs)) (h0:0<=i) (h1:i<(xs.length:Int)) :
    OA P σ o ⟨.FQ [k] te.ty (xs.getD i.toNat te.ty.zero),σ.Aj,[]⟩ :=
 .Je <| Mg (s:=λρ=>Instr.indexAt t (ρ x) (ρ y)) (λρ=>by simp[execOp,ho]) λa w g BX=>by
  have H:=BX.heap;have hxo:=A0 BX x;rw[hx]at hxo;obtain⟨hk,vX⟩:=FE hxo;obtain⟨hf,hlen,QL,B5,hr⟩:=H.MP k _ hb;have hyv:=A0 BX y;rw[hy]at hyv;have hyv :=DR hyv;have Bw :=XA ⟨h0,h1⟩;have hu:=BH ht Jc;rcases hr with ⟨ZP,_⟩|⟨b,off,BG,ds,ha,Cw,⟨el',V2,hh⟩,p1,p2,p3,p4,MN⟩
  ·grind
  ·have vW:=IJ (j:=0).2 ((D8.1 MN).mono λi x c h=>(UI.BZ hf).1 h);obtain⟨c0,c,d,e1,iK,gd,_,_⟩:=CP.A5  (λx c h=>UI.len (w:=w) (own:=g.own) (k:=k) (m:=.Aw) (i:=0) ((UI.BZ hf).2 h)) vW Bw;refine⟨.pointer (some ⟨b,off+i.toNat*te.ty.size,none⟩),?_,?_⟩
   ·rw[vX,hyv];simp[Instr.indexAt,asIntOf,underlying,hu,h0,h1,D9 Et,ha,hlen,Z9]
   ·rw[AO _ _ _ Bw];refine fw  (by grind) (.inr ⟨k,by simp,[],Cw⟩) ((H9.BZ hf).2 gd) λj q hq=>?_;have rN:ds[i.toNat*te.ty.size+j]?=some q:=by
     rw[e1,AQh,AQv (by omega),show i.toNat*te.ty.size+j-c0.length=j by omega,AQw (A7 hq)];exact hq
    rw[<-p4,AQ8]at rN;split at rN
    ·rw[AR9]at rN;rw[ARe,QO hh,<-AQn];exact rN
    ·grind
theorem Ajn{c:Call}(ho:o.op=.call c)(hc:c.callee=.builtin .len){k:Nat}(hx:Qi σ c.args=[.AK k]){t:TypeId}(aC:c.argTypes.toList=[t]){ti:TI}(ht:Fp P t ti)(Jc:ti.EA=true)
    {el:Nat} {u:Ty} {xs:ATO u.V} (hb:σ.Aj[k]?=some (.tail el u xs)):OA P σ o ⟨.int .i64 (xs.length:Int),σ.Aj,[]⟩:=by
 obtain⟨a0,ha,hz⟩:=AfM hx;refine .Je <| Mg (s:=λρ=>Builtin.len_ c.argTypes o.type #[ρ a0]) (λρ=>?_) λa w g hs=>?_
 ·rw[Ki ho hc,ha];simp[builtin]
 ·have hxo:=A0 hs a0;rw[hz]at hxo;obtain⟨hk,he⟩:=FE hxo;have hl:=(hs.heap.MP k _ hb).2.1;have AKq:c.argTypes[0]?=some t:=by rw[<-AQn,aC];rfl
  rw[he];exact Cc (by simp[Builtin.len_,AKq,underlying,BH ht Jc,goInt,hl])
theorem AdZ(w:World)(t tx ty e:TypeId)(i:TypeInfo)(ht:P.underlying t=some (.slice e))(hi:P.info? e=some i)
    (b off bK Aao:Nat) (BG:Array Value) {e0:TypeId} (hg:w.heap[b]?=some (.cells BG e0 (0,0))) (x:Value) (n:Nat) (GH:ATO Value) (hs:Src P i.size tx x n GH w) (Y5:bK+n<=Aao) (RX:off+bK*i.size+GH.length<=BG.size) :
    (Builtin.append_ #[t,tx] ty #[.slice (some ⟨b,off,none⟩) bK Aao,x]).run P w =
     .ok (.slice (some ⟨b,off,none⟩) (bK+n) Aao) (w.setRow b (BG.toList.take (off+bK*i.size)++GH++BG.toList.drop (off+bK*i.size+GH.length)).toArray):=by
 have BX:=run_storeCells_at P b (off+bK*i.size) e0 GH 0 BG w hg (by simpa using RX) hs.one;simp only[AR3]at BX;rcases hs.kind with ⟨e',hk⟩|hk<;>simp[Builtin.append_,run_underlying ht,run_underlying hk,sizeOf,typeInfo,hi,hs.len,Y5,hs.cells,Z9,BX]
theorem um(w:World)(t tx ty e:TypeId)(i:TypeInfo)(z:Value)(ht:P.underlying t=some (.slice e))(hi:P.info? e=some i)(hz:i.zero=some z)(hzs:z.cells.size=i.size)(B5:0<i.size)
    {Pw:Nat->Prop} {Ek:Prop} {ad:ATP Addr} {len cap:Nat} {ds:ATO Value} (XQ:(len=0/\cap=0/\ds=[])\/∃b off BG e0,ad=some ⟨b,off,none⟩/\Pw b/\(w.heap[b]?=some (.cells BG e0 (0,0))/\(Ek\/e0=e))/\len<=cap/\cap<=maxLen/\BG.size=off+cap*i.size/\(BG.toList.drop off).take (len*i.size)=ds)
    {x:Value} {n:Nat} {GH:ATO Value} (hs:Src P i.size tx x n GH w) (vE:i.bytes≠0) (RX:(len+n)*i.bytes<=140737488355328) :
    ∃ui Tt w',(Builtin.append_ #[t,tx] ty #[.slice ad len cap,x]).run P w=.ok (.slice ui (len+n) Tt) w'/\w'.os=w.os/\w'.tape=w.tape/\w'.output=w.output/\w.heap.size<=w'.heap.size /\
     ((len+n=0/\Tt=0/\w'=w)\/∃b' off QH e1,ui=some ⟨b',off,none⟩/\(w'.heap[b']?=some (.cells QH e1 (0,0))/\(Ek\/e1=e))/\len+n<=Tt/\Tt<=maxLen/\QH.size=off+Tt*i.size/\(QH.toList.drop off).take ((len+n)*i.size)=ds++GH /\
      ((Pw b'/\w'=w.setRow b' QH)\/(b'=w.heap.size/\b'<w'.heap.size/\∀q,q<w.heap.size->w'.heap[q]?=w.heap[q]?))):=by
 have AvY:len+n<=140737488355328:=AQD (AR7 _ (ARJ vE)) RX;have h63:((len+n:Nat):Int)<=9223372036854775807:=by omega
 have hml:len+n<=maxLen:=by simp only[maxLen];omega
 have fe:ds.length=len*i.size:=by
  rcases XQ with ⟨h1,h2,h3⟩|⟨b,off,BG,e0,h1,_,h2,h3,h4,h5,h6⟩
  ·grind
  ·rw[<-h6,AQu,AQJ,AQ9,h5,Nat.add_sub_cancel_left];exact Nat.min_eq_left (AQ3 _ h3)
 by_cases Y5:len+n<=cap
 ·rcases XQ with ⟨rfl,rfl,rfl⟩|⟨b,off,BG,e0,rfl,hpw,⟨hb,hek⟩,h3,h4,h5,h6⟩
  ·obtain rfl:n=0:=by omega
   exact⟨ad,0,w,wL w t tx ty e i ht hi ad x GH hs,rfl,rfl,rfl,AQf _,.inl ⟨rfl,rfl,rfl⟩⟩
  ·have S5:off+len*i.size+GH.length<=BG.size:=by
     rw[hs.newsLen,h5,ARe,<-ARH];exact Nat.add_le_add_left (AQ3 _ Y5) _
   refine⟨_,cap,_,AdZ w t tx ty e i ht hi b off len cap BG hb x n GH hs Y5 S5,rfl,rfl,rfl,by simp,.inr ⟨b,off,_,e0,rfl,⟨setRow_heap w b BG _ e0 (0,0) hb,hek⟩,Y5,h4,?_,?_,.inl ⟨hpw,rfl⟩⟩⟩
   ·grind
   ·have e1:BG.toList.take (off+len*i.size)=BG.toList.take off++ds:=by grind
    have:(len+n)*i.size=(ds++GH).length:=by rw[AQd,fe,hs.newsLen,ARH]
    grind
 ·have hgt:cap<len+n:=by omega
  have holds:(Builtin.firstCells i.size len (.slice ad len cap)).run P w.drew=.ok ds.toArray w.drew:=by
   rcases XQ with ⟨rfl,rfl,rfl⟩|⟨b,off,BG,e0,rfl,hpw,⟨hb,hek⟩,h3,h4,h5,h6⟩
   ·cases ad with
    |none=>exact run_firstCells_none w.drew i.size 0 0 0
    |some a=>exact run_firstCells_some w.drew i.size 0 a 0 0 [] (by simp) (by simp)
   ·refine run_firstCells_some w.drew i.size len _ len cap ds fe λj u hu=>?_;rw[Z9];show w.cell? ⟨b,off+j,none⟩=some u;rw[QO hb,<-AQn];rw[<-h6,AQ8]at hu
    grind
  have hr:=run_append_grow_src (P:=P) w t tx ty e i z ht hi hz ad len cap ds holds x n GH hs hgt h63 (growslice_fits hgt RX);refine⟨_,_,_,hr,rfl,rfl,rfl,by simp,.inr ⟨w.heap.size,0,_,e,rfl,⟨heap_alloc_new w.drew _,.inr rfl⟩,grownCap_ge w _ cap e,grownCap_le_maxLen w _ cap e hml,?_,?_,.inr ⟨rfl,by simp,λq hq=>heap_alloc_old w.drew _ q hq⟩⟩⟩
  ·have ag:=grownCap_ge w (len+n) cap e;simp only[Array.size_append,ARm,AQd,size_zeroCells,hzs,fe,hs.newsLen,<-ARH,AQF];congr 1;omega
  ·have:(len+n)*i.size=(ds++GH).length:=by rw[AQd,fe,hs.newsLen,ARH]
   rw[this,ASf,Array.toList_append,ARS]
theorem Ajh{c:Call}(ho:o.op=.call c)(hc:c.callee=.builtin .append){k:Nat}{y:AV}(hx:Qi σ c.args=[.AK k,y]){t tx:TypeId}(aC:c.argTypes.toList=[t,tx]){ti te fL:TI}(ht:Fp P t ti)(Et:Fp P ti.elem te)(Jc:ti.EA=true)(yl:Fp P tx fL)(hkx:fL.EA=true)
    (vE:te.bytes≠0) {el:Nat} {xs ys:ATO te.ty.V} (hb:σ.Aj[k]?=some (.tail el te.ty xs)) (V2:el=ti.elem\/el=0) {m2:RM} {rs:ATO Nat} (kK:sW σ.Aj te.ty y=some (ys,m2,rs)) (RX:(xs.length+ys.length)*te.bytes<=140737488355328) :
    OA P σ o ⟨.AK σ.Aj.length,Blk.G4 (Bh (k::rs) σ.Aj) (k::rs)++[.tail el te.ty (xs++ys)],k::rs⟩:=by
 obtain⟨a0,a1,ha,hz0,rfl⟩:=Aa4 hx;refine⟨by simp[Bd,AH],λh=>by grind,λa w g hs next Q hn=>?_⟩
 have H:=hs.heap;have hxo:=A0 hs a0;rw[hz0]at hxo;obtain⟨hk,vX⟩:=FE hxo;obtain⟨hf,hlen,QL,B5,hr⟩:=H.MP k _ hb;obtain⟨i,z,hi,Nt,hbi,hz,oS,_⟩:=Et.info;obtain⟨GH,hS,hEl,_,AKg,_⟩:=AjH H kK (A0 hs a1) yl (by grind);have hu:=BH ht Jc;have hzs:z.cells.size=i.size:=by rw[<-AQ9,oS,S0,Nt]
 have AJm:Bu (λ_ x c=>c=La te.ty x) 0 ys GH:=hEl.mono λi x c h=>by
  rcases h with ⟨_,h⟩|⟨ks,_,h⟩|⟨j,_,h⟩
  ·grind
  ·exact(H9.BZ hf).1 h
  ·exact(UI.BZ hf).1 h
 obtain ⟨ds,Ah2,Ah3⟩:∃ds,((xs.length=0/\(g.A5 k).cap=0/\ds=[])\/∃b off BG e0,(g.A5 k).a=some ⟨b,off,none⟩/\g.own b=.BV k []/\(w.heap[b]?=some (.cells BG e0 (0,0))/\(el=0\/e0=ti.elem))/\xs.length<=(g.A5 k).cap/\(g.A5 k).cap<=maxLen/\BG.size=off+(g.A5 k).cap*i.size/\(BG.toList.drop off).take (xs.length*i.size)=ds) /\
     Bu (λ_ x c=>c=La te.ty x) 0 xs ds:=by
  rcases hr with ⟨rfl,h2⟩|⟨b,off,BG,ds,h2,h3,⟨e0,he0,h4⟩,h5,h6,h7,h8,h9⟩
  ·exact⟨[],.inl ⟨rfl,h2,rfl⟩,rfl⟩
  ·exact⟨ds,.inr ⟨b,off,BG,e0,h2,h3,⟨h4,by grind⟩,h5,h6,by grind,by grind⟩,(D8.1 h9).mono λi x c h=>(UI.BZ hf).1 h⟩
 obtain⟨ui,Tt,w',Es,hos,hta,hou,Qs,dk⟩:=um (P:=P) w t tx o.type ti.elem i z hu hi hz hzs (by grind) (Pw:=λb=>g.own b=.BV k []) (Ek:=el=0) Ah2 (by rw[Nt];exact hS) (by grind) (by grind);have ay:(execOp a.eval o).run P w=.ok (.value (.slice ui (xs.length+ys.length) Tt)) w':=by
  rw[Ki ho hc,ha,AaJ aC];simp[builtin,vX,hlen,Es]
 unfold Oper.wp;rw[ay]
 let n:=σ.Aj.length
 let i':BI:=⟨ui,xs.length+ys.length,Tt,te.ty.size⟩
 let f:Nat->ATO Nat->Vf:=λj r=>if j=k then .BV n r else .BV j r
 obtain ⟨ob,zO,Wd,R9⟩:∃ob:ATP Nat,(∀q,ob=some q->w.heap.size<=q/\q<w'.heap.size) /\
     (∀q,q<w.heap.size->(∀k' p,g.own q=.BV k' p->k'∉k::rs)->w'.heap[q]?=w.heap[q]?) /\
     ((xs++ys=[]/\Tt=0)\/∃b' off QH,ui=some ⟨b',off,none⟩/\V6 w' b' el QH/\xs.length+ys.length<=Tt/\Tt<=maxLen/\QH.size=off+Tt*te.ty.size/\(QH.toList.drop off).take ((xs.length+ys.length)*te.ty.size)=ds++GH/\(g.V1 f ob n i').own b'=.BV n []):=by
  rcases dk with ⟨h0,GM,rfl⟩|⟨b',off,QH,e1,h1,⟨h2,he1⟩,h3,h4,h5,h6,h7⟩
  ·refine⟨none,λq h=>by grind,λq _ _=>rfl,.inl ⟨?_,GM⟩⟩;apply AQ2;rw[AQd];omega
  ·rw[Nt]at h5 h6;have h2:V6 w' b' el QH:=⟨e1,by grind,h2⟩;rcases h7 with ⟨Cw,rfl⟩|⟨rfl,Bw,hkp⟩
   ·refine⟨none,λq h=>by grind,kS Cw (by simp),.inr ⟨b',off,QH,h1,h2,h3,h4,h5,h6,?_⟩⟩;rw[I0 (by simp) Cw];simp[f]
   ·exact⟨some w.heap.size,λq h=>by injection h with h;subst h;exact⟨AQf _,Bw⟩,λq hq _=>hkp q hq,.inr ⟨_,off,QH,h1,h2,h3,h4,h5,h6,by simp[G.V1]⟩⟩
 let g':=g.V1 f ob n i'
 have st:Step (k::rs) n w g w' g':=Step.V1 H.B7 hos hta hou Qs Wd (λq h=>(zO q h).1) (AQf _) λj r _ hm=>by
  have h1:j≠k:=λe=>hm (by simp[e]);simp[f,h1]
 have QI:g'.A5 n=i':=by simp[g',G.V1]
 refine hn _ w' g' (H.bZ st (Ny H.B7 Qs λq h=>(zO q h).2) (by simp[Bd,AH]) λj x R8=>?_) ?_ st
 ·rw[AQz]at R8;split at R8
  ·rcases Lf R8 with h |⟨rH,h⟩
   ·exact .inl h
   ·obtain⟨y',iP,rfl⟩:=DC h;exact .inr (.inl ⟨rH,y',iP,rfl⟩)
  ·rename_i Bw;rw[Bd,AH]at R8 Bw;have oO:j-σ.Aj.length=0:=by
    rcases AQx (j-σ.Aj.length)with h |h
    ·exact h
    ·rw[AQN (by simp;omega)]at R8;cases R8
   rw[oO]at R8;obtain rfl:j=n:=by omega
   simp only[List.getElem?_cons_zero,AQb]at R8;subst R8;refine .inr (.inr ⟨hf,by rw[QI,AQd],by rw[QI],B5,?_⟩);rw[QI,AQd];refine R9.imp id λ⟨b',off,QH,h1,h2,h3,h4,h5,h6,h7⟩=>⟨b',off,QH,_,h1,h7,h2,h3,h4,h5,h6,?_⟩;rw[D8];exact(Bu.append Ah3 (IJ.1 (IJ (j:=0).2 AJm))).mono λi x c h=>(UI.BZ hf).2 h
 ·refine BD (cs:=[_]) rfl ⟨by simp[Bd,AH],rfl⟩ ?_;have:g'.A5 σ.Aj.length=i':=QI;simp[Cp,AV.isAgg,this,i']
end
end Go.Va
