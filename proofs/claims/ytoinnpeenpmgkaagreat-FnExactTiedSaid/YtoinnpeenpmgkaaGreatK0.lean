import GoSem.Step
import Derived.Calls
import Derived.Orders
import Derived.Below
import Derived.Laws.AppendOwn
import Derived.Laws.MakeOwn
import Derived.Laws.CopyRow
import Derived.Laws.Tables
import Derived.Deep.MidRow
import Derived.Laws.Small
import Derived.Laws.Cells
import Derived.Laws.BytesArg
import Derived.Great.FillDense
import Derived.Great.BuildSlice
import Derived.Deep.AppendSrc
set_option linter.unusedVariables false
set_option linter.unusedSimpArgs false
namespace Go.Va
abbrev ATU:=List
abbrev ATV:=Option
abbrev AQf:=@Option.bind_some
abbrev AQg:=@Int.toNat_natCast
abbrev AQh:=@Option.some.injEq
abbrev AQi:=@decide_eq_false
abbrev AQj:=@List.length_append
abbrev AQk:=@decide_eq_true
abbrev AQl:=@Nat.le_refl
abbrev AQm:=@Bool.and_eq_true
abbrev AQn:=@List.append_assoc
abbrev AQo:=@List.length_set
abbrev AQp:=@List.take_of_length_le
abbrev AQq:=@Nat.lt_or_ge
abbrev AQr:=@List.length_map
abbrev AQs:=@Prod.mk.injEq
abbrev AQt:=@Array.getElem?_toList
abbrev AQu:=@cond_false
abbrev AQv:=@cond_true
abbrev AQw:=@Option.bind_assoc
abbrev AQx:=@if_pos
abbrev AQy:=@if_neg
abbrev AQz:=@List.length_singleton
abbrev AQA:=@List.length_take
abbrev AQB:=@List.getElem?_append_right
abbrev AQC:=@List.getElem?_append_left
abbrev AQD:=@Nat.eq_zero_or_pos
abbrev AQE:=@List.getElem?_set
abbrev AQF:=@List.getElem?_append
abbrev AQG:=@List.mem_singleton
abbrev AQH:=@List.mem_cons_of_mem
abbrev AQI:=@List.getElem?_map
abbrev AQJ:=@Nat.le_trans
abbrev AQK:=@List.mem_cons_self
abbrev AQL:=@Nat.zero_add
abbrev AQM:=@List.length_replicate
abbrev AQN:=@List.mem_append_left
abbrev AQO:=@List.mem_append_right
abbrev AQP:=@List.length_drop
abbrev AQQ:=@Nat.le_succ
abbrev AQR:=@Nat.lt_of_lt_of_le
abbrev AQS:=@Nat.add_sub_cancel
abbrev AQT:=@List.getElem?_eq_none
abbrev AQU:=@List.append_nil
abbrev AQV:=@Nat.lt_succ_self
abbrev AQW:=@List.length_range
abbrev AQX:=@List.getElem_mem
abbrev AQY:=@List.map_append
abbrev AQZ:=@Bool.not_true
abbrev AQ0:=@List.map_cons
abbrev AQ1:=@Nat.zero_le
abbrev AQ2:=@if_true
abbrev AQ3:=@Array.getElem?_eq_getElem
abbrev AQ4:=@List.map_congr_left
abbrev AQ5:=@Option.bind_eq_some_iff
abbrev AQ6:=@Bool.false_eq_true
abbrev AQ7:=@List.eq_nil_of_length_eq_zero
abbrev AQ8:=@Nat.mul_le_mul_right
abbrev AQ9:=@List.take_succ_eq_append_getElem
abbrev ARa:=@decide_eq_false_iff_not
abbrev ARb:=@List.getElem_of_mem
abbrev ARc:=@List.getD_cons_zero
abbrev ARd:=@Array.getD_eq_getD_getElem?
abbrev ARe:=@List.length_cons
abbrev ARf:=@Bool.decide_and
abbrev ARg:=@List.getElem?_take
abbrev ARh:=@Array.length_toList
abbrev ARi:=@Sum.elim_inr
abbrev ARj:=@Bool.or_eq_false_iff
abbrev ARk:=@Nat.add_assoc
abbrev ARl:=@List.take_append_of_le_length
abbrev ARm:=@beq_iff_eq
abbrev ARn:=@List.range_succ
abbrev ARo:=@List.getElem?_eq_getElem
abbrev ARp:=@List.take_append_drop
abbrev ARq:=@List.eq_nil_or_concat
abbrev ARr:=@List.concat_eq_append
abbrev ARs:=@Int.le_refl
abbrev ARt:=@List.size_toArray
abbrev ARu:=@List.ext_getElem?
abbrev ARv:=@decide_eq_true_eq
abbrev ARw:=@List.mem_of_mem_take
abbrev ARx:=@List.ext_getElem
abbrev ARy:=@Sum.elim_inl
abbrev ARz:=@List.nil_append
abbrev ARA:=@Bool.or_eq_true
abbrev ARB:=@List.mem_of_getElem?
abbrev ARC:=@Bool.not_eq_true'
abbrev ARD:=@bne_self_eq_false
abbrev ARF:=@List.set_append_right
abbrev ARG:=@List.length_filter_le
abbrev ARH:=@if_false
abbrev ARI:=@decide_eq_decide
abbrev ARJ:=@List.take_length
abbrev ARK:=@Bool.not_false
abbrev ARL:=@List.mem_append
abbrev ARM:=@List.length_flatten
abbrev ARN:=@List.map_nil
abbrev ARO:=@Nat.add_mul
abbrev ARP:=@List.mem_cons
abbrev ARQ:=@Nat.pos_of_ne_zero
abbrev ARR:=@Array.getElem?_modify
abbrev ARS:=@Bool.and_eq_false_iff
abbrev ART:=@Array.getElem?_setIfInBounds_ne
abbrev ARU:=@Bool.true_and
abbrev ARV:=@List.sum_cons
abbrev ARW:=@List.getElem?_range
abbrev ARX:=@List.take_left
abbrev ARY:=@bne_iff_ne
abbrev ARZ:=@List.sum_replicate_nat
abbrev AR0:=@List.map_replicate
abbrev AR1:=@decide_eq_true_iff
abbrev AR2:=@Bool.eq_iff_iff
abbrev AR3:=@List.cons.injEq
abbrev AR4:=@List.sum_append
abbrev AR5:=@List.foldl_append
abbrev AR6:=@List.mem_of_mem_drop
abbrev AR7:=@List.drop_eq_getElem_cons
abbrev AR8:=@List.drop_zero
abbrev AR9:=@List.take_zero
abbrev ASa:=@Nat.sub_self
abbrev ASb:=@List.map_map
abbrev ASc:=@bne_eq_false_iff_eq
abbrev ASd:=@List.flatMap_append
abbrev ASe:=@Nat.le_mul_of_pos_right
abbrev ASf:=@List.filter_append
abbrev ASg:=@List.length_nil
abbrev ASh:=@List.nodup_append
abbrev ASi:=@of_decide_eq_true
abbrev ASj:=@Nat.add_zero
abbrev ASk:=@List.set_set
abbrev ASl:=@List.getElem?_set_ne
abbrev ASm:=@List.cons_append
abbrev ASn:=@List.not_mem_nil
abbrev ASo:=@beq_self_eq_true
abbrev ASp:=@List.replicate_succ'
abbrev ASq:=@Bool.false_or
inductive Ty where
 |int (k:IntKind)|bool |str |unit |AH (a b:Ty)|sl (t:Ty)|Sp (z:Nat)
 deriving DecidableEq
@[reducible] def Ty.V:Ty->Type
 |.int _=>Int
 |.bool=>Bool
 |.str=>ByteArray
 |.unit=>Unit
 |.AH a b=>a.V×b.V
 |.sl t=>List t.V
 |.Sp _=>Unit
def Ty.zero:(t:Ty)->t.V
 |.int _=>0
 |.bool=>false
 |.str=>⟨#[]⟩
 |.unit=>()
 |.AH a b=>(a.zero,b.zero)
 |.sl _=>[]
 |.Sp _=>()
def Ty.size:Ty->Nat
 |.unit=>0
 |.AH a b=>a.size+b.size
 |_=>1
def Ty.BU:Ty->Bool
 |.sl _=>false
 |.Sp _=>false
 |.AH a b=>a.BU&&b.BU
 |_=>true
def Ty.data:Ty->Bool
 |.Sp _=>false
 |.AH a b=>a.data&&b.data
 |.sl t=>t.data
 |_=>true
def Ty.isAgg:Ty->Bool
 |.unit=>true
 |.AH _ _=>true
 |_=>false
def JQ(t u:Ty)(x:t.V):ATV u.V:=if h:t=u then some (h▸x)else none
inductive AV where
 |AB (ks:List Nat) (t:Ty) (x:t.V)
 |zs
 |AG (k:Nat)
 |ptr (k:Nat) (i:Int) (p:List Nat) (o:Nat)
 |FZ (ks:List Nat) (t:Ty) (x:t.V)
 |KQ
 |pr (a b:AV)
 |fn (f:Nat) (aQ:AV)
 |cons (a b:AV)
 |nil
 |Vh (k:Nat) (i:Int) (p:List Nat) (o e:Nat)
 |Xc (k:Nat) (i:Int) (p:List Nat) (o:Nat) (j:Int) (u:Ty)
 |mp (k:Nat)
 |un (n:Nat)
inductive RM where
 |Aw |sh (ks:List Nat)
inductive Blk where
 |box (a:AV)
 |row (e:Nat) (m:RM) (t:Ty) (xs:List t.V)
 |map (m:RM) (kt vt:Ty) (es:List (kt.V×vt.V)) (st:Option kt.V)
 |Sm (e:Nat) (t:Ty) (xs:List t.V) (i:Int) (p:List Nat)
 |tail (e:Nat) (t:Ty) (xs:List t.V)
 |Bd
def AV.size:AV->Nat
 |.AB _ t _=>t.size
 |.pr a b=>a.size+b.size
 |.un n=>n
 |_=>1
def AV.isAgg:AV->Bool
 |.AB _ t _=>t.isAgg
 |.pr _ _=>true
 |_=>false
@[reducible] def AV.int (k:IntKind) (n:Int):AV:=.AB [] (.int k) n
@[reducible] def AV.bool (b:Bool):AV:=.AB [] .bool b
@[reducible] def AV.str (s:ByteArray):AV:=.AB [] .str s
@[reducible] def AV.u:AV:=.AB [] .unit ()
def Ty.bL:Ty->AV
 |.AH a b=>.pr a.bL b.bL
 |.sl _=>.zs
 |.Sp 0=>.KQ
 |.Sp _=>.un 1
 |.int k=>.AB [] (.int k) (0:Int)
 |.bool=>.AB [] .bool false
 |.str=>.AB [] .str ⟨#[]⟩
 |.unit=>.AB [] .unit ()
def ck(ks:ATU Nat)(t:Ty):ATU Nat:=if t.BU then[]else ks
def Yb(ks:ATU Nat):(t:Ty)->t.V->Nat->ATV AV
 |.AH a _,x,0=>some (.AB (ck ks a) a x.1)
 |.AH _ b,x,n+1=>Yb ks b x.2 n
 |_,_,_=>none
def AV.b5:AV->Nat->ATV AV
 |.AB ks t x,n=>Yb ks t x n
 |.pr a _,0=>some a
 |.pr _ b,n+1=>b.b5 n
 |_,_=>none
def V2:Ty->Nat->ATV Nat
 |.AH _ _,0=>some 0
 |.AH a b,n+1=>match V2 b n with |some o=>some (a.size+o)|none=>none
 |_,_=>none
def AV.off:AV->Nat->ATV Nat
 |.AB _ t _,n=>V2 t n
 |.pr _ _,0=>some 0
 |.pr a b,n+1=>match b.off n with |some o=>some (a.size+o)|none=>none
 |_,_=>none
def mX:Ty->Nat->ATV Ty
 |.AH a _,0=>some a
 |.AH _ b,n+1=>mX b n
 |_,_=>none
def tyP:Ty->ATU Nat->ATV Ty
 |t,[]=>some t
 |t,f::p=>match mX t f with |some u=>tyP u p |none=>none
def Mk:Ty->ATU Nat->ATV Nat
 |_,[]=>some 0
 |t,f::p=>match mX t f,V2 t f with
  |some u,some o=>match Mk u p with |some o'=>some (o+o')|none=>none
  |_,_=>none
def wX(ks:ATU Nat):(t:Ty)->t.V->Nat->AV->ATV AV
 |.AH _ b,x,0,v=>some (.pr v (.AB (ck ks b) b x.2))
 |.AH a b,x,n+1,v=>match wX ks b x.2 n v with |some r=>some (.pr (.AB (ck ks a) a x.1) r)|none=>none
 |_,_,_,_=>none
def AV.UB:AV->Nat->AV->ATV AV
 |.AB ks t x,n,v=>wX ks t x n v
 |.pr _ b,0,v=>some (.pr v b)
 |.pr a b,n+1,v=>match b.UB n v with |some r=>some (.pr a r)|none=>none
 |_,_,_=>none
def AV.W2:AV->ATU Nat->ATV AV
 |a,[]=>some a
 |a,f::p=>match a.b5 f with |some b=>b.W2 p |none=>none
def AV.Adw:AV->ATU Nat->ATV Nat
 |_,[]=>some 0
 |a,f::p=>match a.b5 f,a.off f with
  |some b,some o=>match b.Adw p with |some o'=>some (o+o')|none=>none
  |_,_=>none
def AV.cC:AV->ATU Nat->AV->ATV AV
 |_,[],v=>some v
 |a,f::p,v=>match a.b5 f with
  |some b=>match b.cC p v with |some r=>a.UB f r |none=>none
  |none=>none
def S3:(t:Ty)->t.V->Nat->(∀u:Ty,u.V->ATV u.V)->ATV t.V
 |.AH a _,x,0,f=>match f a x.1 with |some y=>some (y,x.2)|none=>none
 |.AH _ b,x,n+1,f=>match S3 b x.2 n f with |some y=>some (x.1,y)|none=>none
 |_,_,_,_=>none
def T7(u:Ty)(y:u.V):(p:ATU Nat)->(t:Ty)->t.V->ATV t.V
 |[],t,_=>JQ u t y
 |f::p,t,x=>S3 t x f (λt' x'=>T7 u y p t' x')
def AV.Ck:AV->ATU Nat
 |.AB ks _ _=>ks
 |.FZ ks _ _=>ks
 |.AG k=>[k]
 |.ptr k _ _ _=>[k]
 |.Vh k _ _ _ _=>[k]
 |.Xc k _ _ _ _ _=>[k]
 |.mp k=>[k]
 |.pr a b=>a.Ck++b.Ck
 |.fn _ c=>c.Ck
 |.cons a b=>a.Ck++b.Ck
 |_=>[]
def AV.TM:AV->ATU Nat
 |.AB ks _ _=>ks
 |.FZ ks _ _=>ks
 |.Vh k _ _ _ _=>[k]
 |.Xc k _ _ _ _ _=>[k]
 |.pr a b=>a.TM++b.TM
 |.fn _ c=>c.TM
 |.cons a b=>a.TM++b.TM
 |_=>[]
def RM.Ck:RM->ATU Nat
 |.Aw=>[]
 |.sh ks=>ks
def Blk.Ck:Blk->ATU Nat
 |.box a=>a.Ck
 |.row _ m _ _=>m.Ck
 |.map m _ _ _ _=>m.Ck
 |.Sm _ _ _ _ _=>[]
 |.tail _ _ _=>[]
 |.Bd=>[]
def Blk.TM:Blk->ATU Nat
 |.box a=>a.TM
 |.row _ m _ _=>m.Ck
 |.map m _ _ _ _=>m.Ck
 |.Sm _ _ _ _ _=>[]
 |.tail _ _ _=>[]
 |.Bd=>[]
def AV.O0(f:Nat->Nat):AV->AV
 |.AB ks t x=>.AB (ks.map f) t x
 |.FZ ks t x=>.FZ (ks.map f) t x
 |.AG k=>.AG (f k)
 |.ptr k i p o=>.ptr (f k) i p o
 |.Vh k i p o e=>.Vh (f k) i p o e
 |.Xc k i p o j u=>.Xc (f k) i p o j u
 |.mp k=>.mp (f k)
 |.pr a b=>.pr (a.O0 f) (b.O0 f)
 |.fn g c=>.fn g (c.O0 f)
 |.cons a b=>.cons (a.O0 f) (b.O0 f)
 |.zs=>.zs
 |.KQ=>.KQ
 |.nil=>.nil
 |.un n=>.un n
def RM.O0(f:Nat->Nat):RM->RM
 |.Aw=>.Aw
 |.sh ks=>.sh (ks.map f)
def Blk.O0(f:Nat->Nat):Blk->Blk
 |.box a=>.box (a.O0 f)
 |.row e m t xs=>.row e (m.O0 f) t xs
 |.map m kt vt es st=>.map (m.O0 f) kt vt es st
 |.Sm e t xs i p=>.Sm e t xs i p
 |.tail e t xs=>.tail e t xs
 |.Bd=>.Bd
def bT(n:Nat)(ks:ATU Nat):ATU Nat:=(List.range n).filter λk=>ks.contains k
def AV.Et(n:Nat):AV->AV
 |.AB ks t x=>.AB (bT n ks) t x
 |.FZ ks t x=>.FZ (bT n ks) t x
 |.pr a b=>.pr (a.Et n) (b.Et n)
 |.fn f c=>.fn f (c.Et n)
 |.cons a b=>.cons (a.Et n) (b.Et n)
 |a=>a
def Blk.Et(n:Nat):Blk->Blk
 |.box a=>.box (a.Et n)
 |.row e (.sh ks) t xs=>.row e (.sh (bT n ks)) t xs
 |.map (.sh ks) kt vt es st=>.map (.sh (bT n ks)) kt vt es st
 |b=>b
def AV.drop(YG:Nat->Bool):AV->AV
 |.AB ks t x=>if ks.any YG then .un t.size else .AB ks t x
 |.FZ ks t x=>if ks.any YG then .un 1 else .FZ ks t x
 |.Vh k i p o e=>if YG k then .un 1 else .Vh k i p o e
 |.Xc k i p o j u=>if YG k then .un 1 else .Xc k i p o j u
 |.pr a b=>.pr (a.drop YG) (b.drop YG)
 |.fn g c=>.fn g (c.drop YG)
 |.cons a b=>.cons (a.drop YG) (b.drop YG)
 |a=>a
def Blk.drop(YG:Nat->Bool):Blk->Blk
 |.box a=>.box (a.drop YG)
 |.row e m t xs=>if m.Ck.any YG then .Bd else .row e m t xs
 |.map m kt vt es st=>if m.Ck.any YG then .Bd else .map m kt vt es st
 |.Sm e t xs i p=>.Sm e t xs i p
 |.tail e t xs=>.tail e t xs
 |.Bd=>.Bd
structure St where
 AU:List AV
 Aj:List Blk
structure Ih where
 val:AV
 Aj:List Blk
 BF:List Nat
structure TI where
 ty:Ty
 XQ:List Nat
 elem:Nat
 bytes:Nat
 Ht:Nat:=0
 Pn:Nat:=0
 eqs:Bool:=false
def TI.EA(ti:TI):Bool:=match ti.ty with |.sl _=>true |_=>false
abbrev Tab:=List (Nat×TI)
def Tab.get:Tab->Nat->ATV TI
 |[],_=>none
 |(k,i)::r,t=>if k==t then some i else Tab.get r t
inductive PM where
 |d (t:Ty)|p (t:Ty)|VA
structure Callee where
 pD:List PM
 run:(R:Type)->List AV->List Blk->(AV->List Blk->Option R)->Option R
 Adf:List Nat:=[]
inductive Co where
 |row (p:List Nat) (e:Nat) (t:Ty) (Aw:Bool)
 |AB (t:Ty)
 |iG (ks:List Nat)
structure SH where
 A7:List Nat
 mv:List Nat:=[]
 O4:List (Nat×Bool×Ty):=[]
 Cg:List (Nat×Bool×Co):=[]
 wid:List (Nat×List Nat):=[]
 post:List (Nat×Bool×Co):=[]
 mvp:List (Nat×List Nat):=[]
 ZJ:Bool:=false
inductive Fi where
 |co (k:Nat) (c:Co)|mv (k:Nat) (p:List Nat)|Bd (j:Nat)|mvs (s:Nat) (p:List Nat)
structure FI where
 Aw:Bool:=true
 take:List Nat:=[]
 wD:List (Nat×Nat):=[]
 A5:List (Nat×SH):=[]
 BB:List (Nat×SH):=[]
 Bw:List (Nat×SH):=[]
 YH:List (Nat×SH):=[]
 Da:List (Nat×List Nat):=[]
 AJn:List (Nat×List (Nat×List (List Nat)×Co)):=[]
 Xm:List Fi:=[]
 Zm:List (Nat×List Nat):=[]
 iI:List (Nat×Ty):=[]
 AHk:List Nat:=[]
 O4:List (Nat×Ty):=[]
 gk:List (Nat×Co):=[]
 stl:List Nat:=[]
structure G5 where
 Eb:Tab
 fns:Nat->Option Callee
 fi:FI
def rh:Value->AV
 |.int k n=>.int k n
 |.bool b=>.bool b
 |.string s=>.str s
 |.slice none 0 0=>.zs
 |.pointer none=>.KQ
 |_=>.un 0
def St.Cp(σ:St):Operand->AV
 |.tmp t=>(σ.AU[t]?).getD (.un 0)
 |.const v=>rh v
 |.func f=>.fn f .nil
 |_=>.un 0
def AV.cQ:AV->AV
 |.Vh _ _ _ _ _=>.un 1
 |.Xc _ _ _ _ _ _=>.un 1
 |.pr a b=>.pr a.cQ b.cQ
 |.fn f c=>.fn f c.cQ
 |.cons a b=>.cons a.cQ b.cQ
 |a=>a
def Blk.cQ:Blk->Blk
 |.box a=>.box a.cQ
 |b=>b
def AV.fK:AV->Bool
 |.Vh _ _ _ _ _=>true
 |.Xc _ _ _ _ _ _=>true
 |.pr a b=>a.fK||b.fK
 |.fn _ c=>c.fK
 |.cons a b=>a.fK||b.fK
 |_=>false
def Blk.fK:Blk->Bool
 |.box a=>a.fK
 |_=>false
def Blk.Hd(bs:ATU Blk):ATU Nat->ATU Blk
 |[]=>bs
 |k::r=>Blk.Hd (bs.set k .Bd) r
def VF(BF:ATU Nat)(sl:ATU AV):ATU AV:=match BF with |[]=>sl |m::ms=>sl.map (·.drop λk=>(m::ms).contains k)
def Be(BF:ATU Nat)(bs:ATU Blk):ATU Blk:=match BF with |[]=>bs |m::ms=>bs.map (·.drop λk=>(m::ms).contains k)
def nR(BF:ATU Nat)(m:RM):Bool:=m.Ck.all λk=>!BF.contains k
def aW(d:ATV Nat)(v:AV)(sl:ATU AV):ATU AV:=match d with |some d=>sl.set d v |none=>sl
def St.after(σ:St)(d:ATV Nat)(e:Ih):St:={AU:=aW d e.val (VF e.BF σ.AU),Aj:=e.Aj}
def AV.Dp:AV->Bool
 |.cons _ _=>true
 |.nil=>true
 |_=>false
def AV.aX:AV->Bool
 |.un _=>false
 |.cons _ _=>false
 |.nil=>false
 |_=>true
def rd(bs:ATU Blk):(t:Ty)->AV->ATV t.V
 |.AH a b,av=>match av with
  |.AB _ t x=>JQ t (.AH a b) x
  |.pr u v=>match rd bs a u,rd bs b v with |some x,some y=>some (x,y)|_,_=>none
  |_=>none
 |.sl t,av=>match av with
  |.AB _ u x=>JQ u (.sl t) x
  |.zs=>some []
  |.AG k=>match bs[k]? with |some (.row _ _ u xs)=>JQ (.sl u) (.sl t) xs |_=>none
  |_=>none
 |t,av=>match av with |.AB _ u x=>JQ u t x |_=>none
def atB(bs:ATU Blk)(k:Nat)(i:Int):ATV AV:=match bs[k]? with
 |some (.box a)=>some a
 |some (.row _ m t xs)=>some (.AB (ck (match m with |.Aw=>[k]|.sh ks=>ks) t) t (xs.getD i.toNat t.zero))
 |_=>none
def atP(bs:ATU Blk)(k:Nat)(i:Int)(p:ATU Nat)(o:Nat):ATV AV:=match atB bs k i with
 |some a=>if a.Adw p=some o then a.W2 p else none
 |none=>none
def AV.Sq:AV->ATU Nat
 |.AG k=>[k]
 |.pr a b=>a.Sq++b.Sq
 |_=>[]
def AV.iG:AV->ATU Nat
 |.AB ks _ _=>ks
 |.pr a b=>a.iG++b.iG
 |_=>[]
def AV.Zp:AV->Bool
 |.AB _ t _=>t.BU
 |.zs=>true
 |.AG _=>true
 |.pr a b=>a.Zp&&b.Zp
 |_=>false
def Ty.row(t:Ty):Bool:=t.data&&t.size !=0
def eC(bs:ATU Blk)(k:Nat):ATV RM:=match bs[k]? with |some (.row _ m _ _)=>some m |_=>none
def AV.VY(bs:ATU Blk):AV->ATU Nat
 |.AB ks _ _=>ks
 |.AG k=>k::(match eC bs k with |some m=>m.Ck |none=>[])
 |.pr a b=>a.VY bs++b.VY bs
 |_=>[]
def nodup:ATU Nat->Bool
 |[]=>true
 |k::r=>!r.contains k&&nodup r
def take(bs:ATU Blk)(m:RM)(t:Ty)(v:AV):ATV (t.V×RM×ATU Nat) :=
 match rd bs t v with
 |none=>none
 |some y =>
  let rs:=v.Sq
  match m with
  |.Aw=>if v.Zp&&nodup rs&&rs.all (λk=>match eC bs k with |some .Aw=>true |_=>false)then some (y,.Aw,rs)else none
  |.sh ks=>if nodup rs&&rs.all (λk=>(eC bs k).isSome)then
      some (y,.sh (ks++v.iG++rs.flatMap (λk=>match eC bs k with |some (.sh l)=>l |_=>[])),rs)else none
def AvG{A:Type}:(t:Ty)->t.V->Nat->(∀u:Ty,u.V->ATV A)->ATV A
 |.AH a _,x,0,f=>f a x.1
 |.AH _ b,x,n+1,f=>AvG b x.2 n f
 |_,_,_,_=>none
def kR(u:Ty):(p:ATU Nat)->(t:Ty)->t.V->ATV u.V
 |[],t,x=>JQ t u x
 |f::p,t,x=>AvG t x f (λt' x'=>kR u p t' x')
def Ty.EG:Ty->Bool
 |.int _=>true
 |.str=>true
 |.AH (.int _) (.AH (.int _) .unit)=>true
 |_=>false
def Jn(s t:ByteArray):Bool:=s.toList==t.toList
def Bg:(t:Ty)->t.V->t.V->Bool
 |.int _,x,y=>x==y
 |.str,x,y=>Jn x y
 |.AH a b,x,y=>Bg a x.1 y.1&&Bg b x.2 y.2
 |.unit,_,_=>true
 |_,_,_=>false
def Q0:(t:Ty)->t.V->t.V->Bool
 |.int _,x,y=>x==y
 |.bool,x,y=>x==y
 |.str,x,y=>Jn x y
 |.AH a b,x,y=>Q0 a x.1 y.1&&Q0 b x.2 y.2
 |.unit,_,_=>true
 |_,_,_=>false
def Pm(kt vt:Ty):ATU (kt.V×vt.V)->kt.V->ATV vt.V
 |[],_=>none
 |x::r,k=>bif Bg kt k x.1 then some x.2 else Pm kt vt r k
def Bs(kt vt:Ty)(es:ATU (kt.V×vt.V))(k:kt.V):vt.V:=(Pm kt vt es k).getD vt.zero
def Uz(kt vt:Ty)(es:ATU (kt.V×vt.V))(k:kt.V):Bool:=(Pm kt vt es k).isSome
def Y3(kt vt:Ty):ATU (kt.V×vt.V)->kt.V->Nat
 |[],_=>0
 |x::r,k=>bif Bg kt k x.1 then 0 else Y3 kt vt r k+1
def YS(kt vt:Ty)(es:ATU (kt.V×vt.V))(k:kt.V):Int:=Int.ofNat (Y3 kt vt es k)
def Xy(kt vt:Ty)(es:ATU (kt.V×vt.V))(k:kt.V)(n:Int):Bool:=n==YS kt vt es k&&Uz kt vt es k
def Cr(kt vt:Ty):ATU (kt.V×vt.V)->kt.V->vt.V->ATU (kt.V×vt.V)
 |[],k,v=>[(k,v)]
 |x::r,k,v=>bif Bg kt k x.1 then(k,v)::r else x::Cr kt vt r k v
def FI.mode(fi:FI)(t:Ty):RM:=if t.BU||fi.Aw then .Aw else .sh []
def T8(k:IntKind)(x y:Int):Int:=x.fdiv (2^(min y.toNat k.bits))
def N5(k:IntKind)(x y:Int):Int:=k.wrap (x*2^(min y.toNat k.bits))
def fq(k:IntKind)(x y:Int):Int:=k.wrap (BitVec.ofInt k.bits x &&& BitVec.ofInt k.bits y).toNat
def gg(k:IntKind)(x y:Int):Int:=k.wrap (BitVec.ofInt k.bits x ||| BitVec.ofInt k.bits y).toNat
def AwU(k:IntKind)(x y:Int):Int:=k.wrap (BitVec.ofInt k.bits x ^^^ BitVec.ofInt k.bits y).toNat
def AaJ(k:IntKind)(x y:Int):Int:=k.wrap (BitVec.ofInt k.bits x &&& ~~~ BitVec.ofInt k.bits y).toNat
def strLt(s t:ByteArray):Bool:=Op.bytesLess s.toList t.toList
def C8(s:ByteArray)(i:Int):Int:=((s[i.toNat]?).getD 0).toNat
section
variable {R:Type}
def qJ(op:BinOp)(tb:Bool):AV->AV->(AV->ATV R)->ATV R
 |.AB _ (.int k) x,.AB _ (.int k') y,K =>
  match op with
  |.shl=>if y<0 then none else K (.int k (N5 k x y))
  |.shr=>if y<0 then none else K (.int k (T8 k x y))
  |op=>if k=k' then match op with
   |.add=>K (.int k (k.wrap (x+y)))
   |.sub=>K (.int k (k.wrap (x-y)))
   |.mul=>K (.int k (k.wrap (x*y)))
   |.quo=>if y=0 then none else K (.int k (k.wrap (x.tdiv y)))
   |.rem=>if y=0 then none else K (.int k (x.tmod y))
   |.and=>K (.int k (fq k x y))
   |.or=>K (.int k (gg k x y))
   |.xor=>K (.int k (AwU k x y))
   |.andNot=>K (.int k (AaJ k x y))
   |.eql=>K (.bool (x==y))
   |.neq=>K (.bool (x !=y))
   |.lss=>K (.bool (decide (x<y)))
   |.leq=>K (.bool (decide (x<=y)))
   |.gtr=>K (.bool (decide (x>y)))
   |.geq=>K (.bool (decide (x>=y)))
   |_=>none
   else none
 |.AB _ .str x,.AB _ .str y,K =>
  match op with
  |.add=>if x.size+y.size<=9223372036854775807 then K (.str (x++y))else none
  |.eql=>K (.bool (Jn x y))
  |.neq=>K (.bool (!Jn x y))
  |.lss=>K (.bool (strLt x y))
  |.leq=>K (.bool (strLt x y||Jn x y))
  |.gtr=>K (.bool (!(strLt x y||Jn x y)))
  |.geq=>K (.bool (!strLt x y))
  |_=>none
 |.AB _ .bool x,.AB _ .bool y,K=>if tb then
  match op with
  |.eql=>K (.bool (x==y))
  |.neq=>K (.bool (!(x==y)))
  |_=>none
  else none
 |_,_,_=>none
def unA(op:UnOp):AV->(AV->ATV R)->ATV R
 |.AB _ .bool b,K=>match op with |.not=>K (.bool (!b))|_=>none
 |.AB _ (.int k) n,K=>match op with
  |.neg=>K (.int k (k.wrap (0-n)))
  |.xor=>K (.int k (AwU k (if k.signed then -1 else k.max) n))
  |_=>none
 |_,_=>none
def sq(bs:ATU Blk)(ti:TI):AV->(AV->ATV R)->ATV R
 |.AB _ (.sl _) xs,K=>if ti.EA then K (.int .i64 (xs.length:Int))else none
 |.AB _ .str s,K=>if ti.ty=.str then K (.int .i64 (s.size:Int))else none
 |.zs,K=>if ti.EA then K (.int .i64 0)else none
 |.AG k,K=>match bs[k]? with
  |some (.row _ _ _ xs)=>if ti.EA then K (.int .i64 (xs.length:Int))else none
  |some (.Sm _ _ xs _ _)=>if ti.EA then K (.int .i64 (xs.length:Int))else none
  |_=>none
 |_,_=>none
def mmA(mx:Bool):AV->AV->(AV->ATV R)->ATV R
 |.AB _ (.int k) x,.AB _ (.int k') y,K=>if k=k' then K (.int k (if mx then(if y>x then y else x)else(if y<x then y else x)))else none
 |_,_,_=>none
def zB(bs:ATU Blk)(te:Ty):AV->AV->(AV->ATV R)->ATV R
 |.AB ks (.sl t) xs,.AB _ (.int _) i,K=>if t=te then if 0<=i/\i<(xs.length:Int)then K (.FZ ks t (xs.getD i.toNat t.zero))else none else none
 |.AG k,.AB _ (.int _) i,K=>match bs[k]? with
  |some (.row _ _ t xs)=>if t=te then if 0<=i/\i<(xs.length:Int)then K (.ptr k i [] 0)else none else none
  |some (.Sm _ t xs _ _)=>if t=te then if 0<=i/\i<(xs.length:Int)then K (.ptr k i [] 0)else none else none
  |_=>none
 |_,_,_=>none
def vW(bs:ATU Blk)(te:Ty):AV->AV->(AV->ATV R)->ATV R
 |.Vh k i0 p f _,.AB _ (.int _) j,K=>match bs[k]? with
  |some (.row _ .Aw tr xs)=>match kR (.sl te) p tr (xs.getD i0.toNat tr.zero),T7 (.sl te) [] p tr (xs.getD i0.toNat tr.zero)with
   |some ys,some _=>if te.size≠0/\Mk tr p=some f then if 0<=j/\j<(ys.length:Int)then K (.Xc k i0 p f j te)else none else none
   |_,_=>none
  |_=>none
 |x,y,K=>zB bs te x y K
def qW:AV->AV->(AV->ATV R)->ATV R
 |.AB _ .str s,.AB _ (.int _) i,K=>if 0<=i/\i<(s.size:Int)then K (.int .u8 (C8 s i))else none
 |_,_,_=>none
def ny(ti:TI)(f:Nat):AV->(AV->ATV R)->ATV R
 |.ptr k i p o,K=>match ti.XQ[f]? with |some fo=>K (.ptr k i (p++[f]) (o+fo))|none=>none
 |.FZ ks t x,K=>if t=ti.ty/\V2 t f=ti.XQ[f]? then match Yb ks t x f with |some (.AB _ u y)=>K (.FZ ks u y)|_=>none else none
 |_,_=>none
def br(bs:ATU Blk)(ti:TI):AV->(AV->ATV R)->ATV R
 |.FZ ks t x,K=>if t=ti.ty then K (.AB (ck ks t) t x)else none
 |.ptr k i p o,K=>match atP bs k i p o with
  |some v=>if v.size=ti.ty.size/\v.isAgg=ti.ty.isAgg then K v else none
  |none=>none
 |_,_=>none
def gp(bs:ATU Blk)(ti:TI):AV->AV->(Ih->ATV R)->ATV R
 |.ptr k i p o,v,K=>match bs[k]? with
  |some (.box a)=>match a.W2 p,a.cC p v with
   |some pH,some a'=>if v.aX/\a.Adw p=some o/\pH.size=v.size/\v.size=ti.ty.size/\v.isAgg=ti.ty.isAgg/\a'.Ck.contains k=false then K ⟨.un 0,(Be [k] bs).set k (.box a'),[k]⟩else none
   |_,_=>none
  |some (.row e m t xs)=>match take bs m ti.ty v with
   |some (y,m',rs) =>
    if Mk t p=some o/\tyP t p=some ti.ty/\nR (k::rs) m'/\rs.contains k=false then match T7 ti.ty y p t (xs.getD i.toNat t.zero)with
     |some x'=>K ⟨.un 0,(Blk.Hd (Be (k::rs) bs) rs).set k (.row e m' t (xs.set i.toNat x')),k::rs⟩
     |none=>none
    else none
   |none=>none
  |some (.Sm e t xs i' p')=>match v with
   |.AG j=>match bs[j]? with
    |some (.row _ .Aw u ys)=>match T7 (.sl u) [] p t (xs.getD i.toNat t.zero),T7 (.sl u) ys p t (xs.getD i.toNat t.zero)with
     |some x0,some x'=>if ti.ty=.sl u/\Mk t p=some o/\tyP t p=some (.sl u)/\p'=p/\j≠k then
         if i'=i then K ⟨.un 0,(Blk.Hd (Be [k,j] ((Be [k] bs).set k (.row e .Aw t (xs.set i.toNat x0)))) [j]).set k (.row e .Aw t (xs.set i.toNat x')),[k,j]⟩else none
      else none
     |_,_=>none
    |_=>none
   |_=>none
  |_=>none
 |_,_,_=>none
def cF(bs:ATU Blk)(ti:TI):AV->(Ih->ATV R)->ATV R
 |.ptr k i p o,K=>match bs[k]? with
  |some (.row e .Aw t xs)=>match tyP t p with
   |some (.sl u)=>match kR (.sl u) p t (xs.getD i.toNat t.zero),T7 (.sl u) [] p t (xs.getD i.toNat t.zero)with
    |some ys,some _=>if ti.ty=.sl u/\Mk t p=some o/\u.size≠0 then
        K ⟨.AG bs.length,(Be [k] bs).set k (.Sm e t xs i p)++[.row 0 .Aw u ys],[k]⟩else none
    |_,_=>none
   |_=>none
  |_=>none
 |_,_=>none
def Zj(ti:TI):AV->ATU (Nat×AV)->ATV AV
 |a,[]=>some a
 |a,(f,v)::r=>match a.b5 f with
  |some pH=>if pH.size=v.size/\v.aX=true/\a.off f=ti.XQ[f]?/\(mX ti.ty f).map Ty.size=some v.size then match a.UB f v with |some a'=>Zj ti a' r |none=>none else none
  |none=>none
def SZ(bs:ATU Blk)(t:Ty):RM->ATU t.V->ATU Nat->ATU (Nat×AV)->ATV (RM×ATU t.V×ATU Nat)
 |m,xs,rs,[]=>some (m,xs,rs)
 |m,xs,rs,(i,v)::r=>match take bs m t v with
  |some (y,m',l)=>if i<xs.length then SZ bs t m' (xs.set i y) (rs++l) r else none
  |none=>none
def s7(bs:ATU Blk)(t:Ty):AV->ATV (ATU t.V×RM×ATU Nat)
 |.zs=>some ([],.Aw,[])
 |.AB ks (.sl u) ys=>match JQ (.sl u) (.sl t) ys with |some l=>some (l,if t.BU then .Aw else .sh ks,[])|none=>none
 |.AB _ .str s=>match JQ (.sl (.int .u8)) (.sl t) (s.data.toList.map λb=>(b.toNat:Int))with |some l=>some (l,.Aw,[])|none=>none
 |.AG j=>match bs[j]? with
  |some (.row _ m u ys)=>match JQ (.sl u) (.sl t) ys with |some l=>some (l,if t.BU then .Aw else m,if t.BU then[]else[j])|none=>none
  |_=>none
 |_=>none
def Abz:RM->RM->ATV RM
 |.Aw,.Aw=>some .Aw
 |.sh a,.sh b=>some (.sh (a++b))
 |.sh a,.Aw=>some (.sh a)
 |.Aw,.sh _=>none
def ZZ(fi:FI)(bs:ATU Blk)(e:Nat)(ti:TI):AV->AV->(Ih->ATV R)->ATV R
 |.zs,y,K=>if(ti.ty.row&&ti.bytes !=0)=false then none else match s7 bs ti.ty y with
  |some (ys,m,rs)=>match Abz (match m with |.Aw=>fi.mode ti.ty |m=>m) m with
   |some m'=>if nR rs m' then if ys.length*ti.bytes<=140737488355328 then K ⟨.AG bs.length,Blk.Hd (Be rs bs) rs++[.row e m' ti.ty ys],rs⟩else none else none
   |none=>none
  |none=>none
 |.AG k,y,K=>if(ti.ty.row&&ti.bytes !=0)=false then none else match bs[k]?,s7 bs ti.ty y with
  |some (.row e' m t xs),some (ys,m2,rs)=>match JQ (.sl t) (.sl ti.ty) xs,Abz m m2 with
   |some xs,some m'=>if(e=e'/\e≠0\/e'=0)/\rs.contains k=false/\nR (k::rs) m' then
       if(xs.length+ys.length)*ti.bytes<=140737488355328 then K ⟨.AG bs.length,Blk.Hd (Be (k::rs) bs) (k::rs)++[.row e' m' ti.ty (xs++ys)],k::rs⟩else none
    else none
   |_,_=>none
  |_,_=>none
 |_,_,_=>none
def Ty.isInt:Ty->Bool
 |.int _=>true
 |_=>false
def Z0(fi:FI)(bs:ATU Blk)(e:Nat)(ti:TI):AV->AV->(Ih->ATV R)->ATV R
 |.zs,.AB _ (.int _) l,K=>if ti.ty.row=true/\ti.bytes≠0 then if 0<=l/\l*(ti.bytes:Int)<=140737488355328 then K ⟨.AG bs.length,bs++[.row e (fi.mode ti.ty) ti.ty (List.replicate l.toNat ti.ty.zero)],[]⟩else none else none
 |_,_,_=>none
def pq(fi:FI)(bs:ATU Blk)(e:Nat)(ti:TI):AV->AV->(Ih->ATV R)->ATV R
 |.AB _ (.int _) l,.AB _ (.int _) c,K=>if ti.ty.row/\0<=l/\l<=c/\(ti.bytes:Int)*c<=281474976710656/\c<=9223372036854775807 then
     K ⟨.AG bs.length,bs++[.row e (fi.mode ti.ty) ti.ty (List.replicate l.toNat ti.ty.zero)],[]⟩else none
 |_,_,_=>none
def bnd:ATV AV->Int->ATV Int
 |none,d=>some d
 |some (.AB _ (.int _) i),_=>some i
 |_,_=>none
def Yp(bs:ATU Blk)(ti:TI)(te:ATV Ty)(x:AV)(lo hi mx:ATV AV)(K:AV->ATV R):ATV R :=
 match mx with
 |some (.AB _ (.int _) m)=>match lo,hi with
  |none,some (.AB _ (.int _) h)=>if h=0/\m=0/\te.isSome then match x with
   |.AB _ (.sl _) _=>K .zs
   |.zs=>K .zs
   |.AG k=>match bs[k]? with |some (.row _ _ _ _)=>K .zs |_=>none
   |_=>none
   else none
  |_,_=>none
 |some _=>none
 |none=>match x with
  |.AB _ .str s=>match bnd lo 0,bnd hi (s.size:Int)with
   |some l,some h=>if ti.ty=.str/\0<=l/\l<=h/\h<=(s.size:Int)then K (.str (s.extract l.toNat h.toNat))else none
   |_,_=>none
  |.AB ks (.sl t) xs=>match bnd lo 0,bnd hi (xs.length:Int)with
   |some l,some h=>if te=some t then if 0<=l/\l<=h/\h<=(xs.length:Int)then K (.AB ks (.sl t) ((xs.take h.toNat).drop l.toNat))else none else none
   |_,_=>none
  |.AG k=>match bs[k]? with
   |some (.row _ m t xs)=>match bnd lo 0,bnd hi (xs.length:Int)with
    |some l,some h=>if te=some t then if 0<=l/\l<=h/\h<=(xs.length:Int)then K (.AB (k::m.Ck) (.sl t) ((xs.take h.toNat).drop l.toNat))else none else none
    |_,_=>none
   |_=>none
  |.zs=>match bnd lo 0,bnd hi 0 with
   |some l,some h=>if te.isSome/\l=0/\h=0 then K .zs else none
   |_,_=>none
  |_=>none
def AcL(te:Ty)(bs:ATU Blk)(x:AV)(hi:ATV AV)(K:Ih->ATV R):ATV R :=
 match x,hi with
 |.AG k,some (.AB _ (.int _) h)=>match bs[k]? with
  |some (.row e m t xs)=>if nR [k] m/\t=te then if 0<=h/\h<=(xs.length:Int)then K ⟨.AG bs.length,Blk.Hd (Be [k] bs) [k]++[.row e m t (xs.take h.toNat)],[k]⟩else none else none
  |_=>none
 |_,_=>none
def bytesOf(xs:ATU Int):ByteArray:=⟨(xs.map λn=>UInt8.ofNat n.toNat).toArray⟩
def dm(bs:ATU Blk)(te:ATV Ty)(td:Ty)(a:AV)(K:AV->ATV R):ATV R :=
 match td with
 |.int k=>match a with |.AB _ (.int _) n=>K (.int k (k.wrap n))|_=>none
 |.str=>match a with
  |.AB _ .str s=>K (.str s)
  |a=>if te=some (.int .u8)then match rd bs (.sl (.int .u8)) a with |some xs=>K (.str (bytesOf xs))|none=>none else none
 |_=>none
def RM.own(k:Nat):RM->ATU Nat
 |.Aw=>[k]
 |.sh ks=>ks
def ia(bs:ATU Blk)(tk te:TI)(ok:Bool)(m x:AV)(K:AV->ATV R):ATV R :=
 match m with
 |.mp k=>match bs[k]? with
  |some (.map md kt vt es none)=>match rd bs kt x with
   |some key=>if kt=tk.ty/\vt=te.ty/\kt.EG=true then
       (bif ok then K (.cons (.AB (ck (md.own k) vt) vt (Bs kt vt es key)) (.cons (.bool (Uz kt vt es key)) .nil))
        else K (.AB (ck (md.own k) vt) vt (Bs kt vt es key)))else none
   |none=>none
  |_=>none
 |_=>none
def po(bs:ATU Blk)(tk te:TI)(m x:AV)(K:Ih->ATV R):ATV R :=
 match m with
 |.mp k=>match bs[k]? with
  |some (.map .Aw kt (.sl u) es none)=>match rd bs kt x with
   |some key=>if kt=tk.ty/\.sl u=te.ty/\kt.EG=true/\u.size≠0 then
       K ⟨.AG bs.length,(Be [k] bs).set k (.map .Aw kt (.sl u) es (some key))++[.row 0 .Aw u (Bs kt (.sl u) es key)],[k]⟩else none
   |none=>none
  |_=>none
 |_=>none
def eR(bs:ATU Blk)(tk te:TI)(m x v:AV)(K:Ih->ATV R):ATV R :=
 match m with
 |.mp k=>match bs[k]? with
  |some (.map md kt vt es st)=>match rd bs kt x,take bs md vt v with
   |some key,some (y,m',rs)=>if kt=tk.ty/\vt=te.ty/\kt.EG=true/\nR (k::rs) m'/\rs.contains k=false then
       match st with
       |none=>K ⟨.un 0,(Blk.Hd (Be (k::rs) bs) rs).set k (.map m' kt vt (Cr kt vt es key y) none),k::rs⟩
       |some k0=>bif Bg kt k0 key then K ⟨.un 0,(Blk.Hd (Be (k::rs) bs) rs).set k (.map m' kt vt (Cr kt vt es key y) none),k::rs⟩else none
    else none
   |_,_=>none
  |_=>none
 |_=>none
def AcP(bs:ATU Blk)(tk te:TI)(m x:AV)(K:Ih->ATV R):ATV R :=
 match m with
 |.mp k=>match bs[k]? with
  |some (.map .Aw kt (.sl u) es none)=>match rd bs kt x with
   |some key=>if kt=tk.ty/\Ty.sl u=te.ty/\kt.EG=true/\u.size≠0 then
       K ⟨.cons (.AG bs.length) (.cons (.int .i64 (YS kt (.sl u) es key)) .nil),(Be [k] bs).set k (.map .Aw kt (.sl u) (Cr kt (.sl u) es key (Bs kt (.sl u) es key)) (some key))++[.row 0 .Aw u (Bs kt (.sl u) es key)],[k]⟩else none
   |none=>none
  |_=>none
 |_=>none
def AcQ(bs:ATU Blk)(tk te:TI)(m j v:AV)(K:Ih->ATV R):ATV R :=
 match m with
 |.mp k=>match bs[k]? with
  |some (.map _ kt vt es (some key))=>match rd bs (.int .i64) j with
   |some n=>if kt=tk.ty/\kt.EG=true then(bif Xy kt vt es key n then eR bs tk te m (.AB [] kt key) v K else none)else none
   |none=>none
  |_=>none
 |_=>none
def Qz:AV->Nat->ATV AV
 |.cons a _,0=>some a
 |.cons _ b,n+1=>Qz b n
 |_,_=>none
end
def iP(l:ATU Nat):ATU Nat->ATU Nat
 |[]=>l
 |k::r=>if l.contains k then iP l r else iP (l++[k]) r
def pS(bs:ATU Blk):Nat->ATU Nat->ATU Nat
 |0,l=>l
 |f+1,l=>pS bs f (iP l (l.flatMap λk=>match bs[k]? with |some b=>b.Ck |none=>[]))
def idxOf(l:ATU Nat)(k:Nat):Nat:=match l with
 |[]=>0
 |x::r=>if x==k then 0 else idxOf r k+1
def AV.W1(LK:ATU Nat):AV->AV
 |.AB ks t x=>.AB (if t.BU then ks else ks++LK) t x
 |.FZ ks t x=>.FZ (ks++LK) t x
 |.pr a b=>.pr (a.W1 LK) (b.W1 LK)
 |.fn g c=>.fn g (c.W1 LK)
 |.cons a b=>.cons (a.W1 LK) (b.W1 LK)
 |a=>a
def RM.W1(LK:ATU Nat):RM->RM
 |.Aw=>.Aw
 |.sh ks=>.sh (ks++LK)
def Blk.W1(LK:ATU Nat):Blk->Blk
 |.box a=>.box (a.W1 LK)
 |.row e m t xs=>.row e (m.W1 LK) t xs
 |.map m kt vt es st=>.map (m.W1 LK) kt vt es st
 |.Sm e t xs i p=>.Sm e t xs i p
 |.tail e t xs=>.tail e t xs
 |.Bd=>.Bd
def yW(bs:ATU Blk):PM->AV->ATV (AV×ATU Nat)
 |.d t,v=>match rd bs t v with |some x=>some (.AB [] t x,v.VY bs)|none=>none
 |.p t,.FZ ks u x=>match JQ u t x with |some y=>some (.FZ [] t y,ks)|none=>none
 |.p t,.ptr k i p o=>match atP bs k i p o with
  |some a=>match rd bs t a with |some x=>some (.FZ [] t x,k::a.VY bs)|none=>none
  |none=>none
 |.p _,_=>none
 |.VA,v=>some (v,[])
def Afl:PM->AV->ATU Nat
 |.VA,v=>v.Ck
 |_,_=>[]
def jU(bs:ATU Blk):ATU PM->ATU AV->ATV (ATU AV×ATU Nat×ATU Nat)
 |[],[]=>some ([],[],[])
 |m::ms,v::vs=>match yW bs m v,jU bs ms vs with
  |some (a,l),some (ng,ls,rs)=>some (a::ng,l++ls,Afl m v++rs)
  |_,_=>none
 |_,_=>none
def Zf(n:Nat)(π:ATU Nat)(j:Nat):Nat:=match π[j]? with |some k=>k |none=>n+(j-π.length)
def Ry(bs:ATU Blk):ATU Nat->ATU Blk->ATU Blk
 |k::ks,b::r=>Ry (bs.set k b) ks r
 |_,_=>bs
section
variable {R:Type}
def Zk(c:Callee)(bs:ATU Blk)(args:ATU AV)(K:Ih->ATV R):ATV R :=
 match jU bs c.pD args with
 |none=>none
 |some (ng,LK,bG) =>
  let π:=pS bs bs.length (iP [] bG)
  let n:=bs.length
  let Y4:=π.filter λk=>c.Adf.contains (idxOf π k)
  let π1:=π.filter λk=>!Y4.contains k
  if LK.all (λk=>!π.contains k&&decide (k<n))&&nodup π&&bG.all (λk=>π.contains k)&&π.all (λk=>match bs[k]? with |some b=>b.Ck.all (λj=>π.contains j)&&(Y4.contains k||b.TM.all (λj=>!Y4.contains j))|none=>false)&&(ng.all λa=>a.TM.all λj=>!Y4.contains j)&&(π.isEmpty||!π1.isEmpty)then
   c.run R (ng.map (·.O0 (idxOf π))) (π.map λk=>bif Y4.contains k then .Bd else((bs[k]?).getD .Bd).O0 (idxOf π)) λav E =>
    let f:=Zf n π
    if π.length<=E.length then
     K ⟨(av.O0 f).W1 LK,Ry (Be π1 bs) π (List.zipWith (λk b=>bif Y4.contains k then((Be π1 bs)[k]?).getD .Bd else(b.O0 f).W1 LK) π E)++(E.drop π.length).map (λb=>(b.O0 f).W1 LK),π1⟩
    else none
  else none
def AV.Rw:AV->ATV (Nat×Int×ATU Nat×Nat)
 |.Vh k i p o _=>some (k,i,p,o)
 |.pr a b=>match a.Rw with |some z=>some z |none=>b.Rw
 |_=>none
def AV.cu(n:Nat):AV->AV
 |.Vh _ _ _ _ _=>.AG n
 |.pr a b=>match a.Rw with |some _=>.pr (a.cu n) b |none=>.pr a (b.cu n)
 |a=>a
def wK:Nat->ATU AV->ATV (Nat×AV×Nat×Int×ATU Nat×Nat)
 |_,[]=>none
 |j,a::r=>match a.Rw with |some (k,i,p,o)=>some (j,a,k,i,p,o)|none=>wK (j+1) r
def Ty.AG5:Ty->Bool
 |.sl _=>true
 |_=>false
def lJ(k:Nat)(i:Int)(p:ATU Nat)(e:Nat):(t:Ty)->t.V->Nat->Nat->ATV AV
 |.unit,_,_,_=>some .u
 |.AH a b,x,f,o=>match lJ k i p e b x.2 (f+1) (o+a.size)with
  |some r=>if a.AG5 then some (.pr (.Vh k i (p++[f]) o e) r)else if a.BU then some (.pr (.AB [] a x.1) r)else none
  |none=>none
 |_,_,_,_=>none
def kj(c:Callee)(bs:ATU Blk)(args:ATU AV)(K:Ih->ATV R):ATV R :=
 match wK 0 args with
 |none=>Zk c bs args K
 |some (j,a0,k,i,p,o)=>match bs[k]? with
  |some (.row ek .Aw t xs)=>match tyP t p with
   |some (.sl u)=>match kR (.sl u) p t (xs.getD i.toNat t.zero)with
    |some ys =>
     if Mk t p=some o/\u.size≠0/\((args.set j (a0.cu bs.length)).all λa=>!a.Ck.contains k)=true then
      Zk c ((Be [k] bs).set k .Bd++[.row 0 .Aw u ys]) (args.set j (a0.cu bs.length)) λe =>
       if e.BF.contains k then none else
       match e.Aj[bs.length]? with
       |some (.row _ .Aw u' zs)=>match JQ (.sl u') (.sl u) zs with
        |some zs=>match T7 (.sl u) zs p t (xs.getD i.toNat t.zero)with
         |some x'=>K ⟨e.val.drop (λq=>[k,bs.length].contains q),((Be [k,bs.length] e.Aj).set bs.length .Bd).set k (.row ek .Aw t (xs.set i.toNat x')),e.BF++[k]⟩
         |none=>none
        |none=>none
       |_=>none
     else none
    |none=>none
   |_=>none
  |_=>none
def Aa5:AV->ATU AV
 |.cons a b=>a::Aa5 b
 |_=>[]
def Qr(σ:St)(xs:Array Operand):ATU AV:=xs.toList.map σ.Cp
def X7:ATU AV->AV
 |[]=>.nil
 |a::r=>.cons (if a.Dp then .un 0 else a) (X7 r)
def XB(en:G5)(σ:St)(c:Call)(K:Ih->ATV R):ATV R :=
 match c.callee with
 |.builtin .len=>match Qr σ c.args,c.argTypes.toList with
  |[x],t::_=>match en.Eb.get t with |some ti=>sq σ.Aj ti x λv=>K ⟨v,σ.Aj,[]⟩|none=>none
  |_,_=>none
 |.builtin .min=>match Qr σ c.args with |[x,y]=>mmA false x y λv=>K ⟨v,σ.Aj,[]⟩|_=>none
 |.builtin .max=>match Qr σ c.args with |[x,y]=>mmA true x y λv=>K ⟨v,σ.Aj,[]⟩|_=>none
 |.builtin .append=>match Qr σ c.args,c.argTypes.toList with
  |[x,y],[t,tx]=>match en.Eb.get t,en.Eb.get tx with
   |some ti,some gv=>match en.Eb.get ti.elem with
    |some te=>if ti.EA&&(gv.EA||gv.ty==.str)then ZZ en.fi σ.Aj ti.elem te x y K else if ti.EA&&gv.ty.isInt then Z0 en.fi σ.Aj ti.elem te x y K else none
    |none=>none
   |_,_=>none
  |_,_=>none
 |.builtin _=>none
 |.value f=>match σ.Cp f with
  |.fn g aQ=>match en.fns g with
   |some ca=>kj ca σ.Aj (Qr σ c.args++Aa5 aQ) K
   |none=>none
  |_=>none
 |.invoke _ _=>none
def eqS(bs:ATU Blk)(Eb:Tab)(op:BinOp)(t:Nat)(x y:AV):ATV AV:=match Eb.get t with
 |some ti=>if ti.eqs=true then(match op with
  |.eql=>match rd bs ti.ty x,rd bs ti.ty y with |some u,some v=>some (.bool (Q0 ti.ty u v))|_,_=>none
  |.neq=>match rd bs ti.ty x,rd bs ti.ty y with |some u,some v=>some (.bool (!Q0 ti.ty u v))|_,_=>none
  |_=>none)else none
 |none=>none
def AgQ(en:G5)(o:Oper):Bool:=match o.dst with |some d=>en.fi.stl.contains d |none=>false
def cf(Eb:Tab)(tk:TI):Bool:=match tk.ty with
 |.AH (.int q) _=>tk.Ht==2&&(match Eb.get tk.elem with |some te=>te.ty==.int q&&tk.ty==.AH (.int q) (.AH (.int q) .unit)|none=>false)
 |_=>true
def Ss(en:G5)(σ:St)(o:Oper)(K:Ih->ATV R):ATV R :=
 let ρ:=σ.Cp
 let bs:=σ.Aj
 let pure:=λv=>K ⟨v,bs,[]⟩
 match o.op with
 |.move x=>pure (ρ x)
 |.assign x=>pure (ρ x)
 |.pick c a b=>match ρ c with |.AB _ .bool t=>bif t then pure (ρ a)else pure (ρ b)|_=>none
 |.alloc e=>match en.Eb.get e with
  |some ti=>K ⟨.ptr bs.length 0 [] 0,bs++[.box ti.ty.bL],[]⟩
  |none=>none
 |.box _ x=>if(ρ x).aX then K ⟨.ptr bs.length 0 [] 0,bs++[.box (ρ x)],[]⟩else none
 |.build t G3=>match en.Eb.get t with
  |some ti=>if ti.XQ.isEmpty then none else match Zj ti ti.ty.bL (G3.toList.map λp=>(p.1,ρ p.2))with |some v=>pure v |none=>none
  |none=>none
 |.buildSlice t len G3=>match en.Eb.get t with
  |some ti=>match en.Eb.get ti.elem with
   |some te=>match SZ bs te.ty (en.fi.mode te.ty) (List.replicate len te.ty.zero) [] (G3.toList.map λp=>(p.1,ρ p.2))with
    |some (m,xs,rs)=>if ti.EA&&te.ty.row&&nR rs m&&nodup rs&&len*te.ty.size<=16777216 then(if len=0 then K ⟨.zs,bs,[]⟩else K ⟨.AG bs.length,Blk.Hd (Be rs bs) rs++[.row ti.elem m te.ty xs],rs⟩)else none
    |none=>none
   |none=>none
  |none=>none
 |.load t x=>match en.Eb.get t with
  |some ti=>if AgQ en o=true then(if ti.EA then cF bs ti (ρ x) K else none)else br bs ti (ρ x) pure
  |none=>none
 |.makeMap t r=>match en.Eb.get t with
  |some ti=>if r.isSome then none else match en.Eb.get ti.Pn,en.Eb.get ti.elem with
   |some tk,some te=>if ti.Pn≠0/\tk.ty.EG=true/\te.ty.data=true then K ⟨.mp bs.length,bs++[.map (en.fi.mode te.ty) tk.ty te.ty [] none],[]⟩else none
   |_,_=>none
  |none=>none
 |.lookup t m x ok=>match en.Eb.get t with
  |some ti=>match en.Eb.get ti.Pn,en.Eb.get ti.elem with
   |some tk,some te=>if ti.Pn≠0/\te.ty.data=true/\cf en.Eb tk=true then
       (if AgQ en o=true then(if ok then none else po bs tk te (ρ m) (ρ x) K)else ia bs tk te ok (ρ m) (ρ x) pure)else none
   |_,_=>none
  |none=>none
 |.mapUpdate t m x v=>match en.Eb.get t with
  |some ti=>match en.Eb.get ti.Pn,en.Eb.get ti.elem with
   |some tk,some te=>if ti.Pn≠0/\te.ty.data=true/\cf en.Eb tk=true then eR bs tk te (ρ m) (ρ x) (ρ v) K else none
   |_,_=>none
  |none=>none
 |.insert t m x v=>match en.Eb.get t with
  |some ti=>match en.Eb.get ti.Pn,en.Eb.get ti.elem with
   |some tk,some te=>if ti.Pn≠0/\te.ty.data=true/\cf en.Eb tk=true then eR bs tk te (ρ m) (ρ x) (ρ v) K else none
   |_,_=>none
  |none=>none
 |.mapEntry t m x=>match en.Eb.get t with
  |some ti=>match en.Eb.get ti.Pn,en.Eb.get ti.elem with
   |some tk,some te=>if ti.Pn≠0/\cf en.Eb tk=true then AcP bs tk te (ρ m) (ρ x) K else none
   |_,_=>none
  |none=>none
 |.entryStore t m j v=>match en.Eb.get t with
  |some ti=>match en.Eb.get ti.Pn,en.Eb.get ti.elem with
   |some tk,some te=>if ti.Pn≠0/\cf en.Eb tk=true then AcQ bs tk te (ρ m) (ρ j) (ρ v) K else none
   |_,_=>none
  |none=>none
 |.store t x v=>match en.Eb.get t with |some ti=>gp bs ti (ρ x) (ρ v) K |none=>none
 |.nilCheck x=>match ρ x with
  |.ptr k i p q=>pure (.ptr k i p q)
  |.FZ ks t y=>pure (.FZ ks t y)
  |_=>none
 |.binOp op t x y _=>match eqS bs en.Eb op t (ρ x) (ρ y)with |some z=>pure z |none=>qJ op (match en.Eb.get t with |some ti=>ti.ty==.bool |none=>false) (ρ x) (ρ y) pure
 |.unOp op _ x=>unA op (ρ x) pure
 |.convert s t x=>match en.Eb.get s,en.Eb.get t with
  |some ts,some ti=>dm bs (match en.Eb.get ts.elem with |some te=>if ts.EA then some te.ty else none |none=>none) ti.ty (ρ x) pure
  |_,_=>none
 |.makeFunc fn first aQ=>match fn with |.func f=>if first.size=0 then pure (.fn f (X7 (aQ.toList.map ρ)))else none |_=>none
 |.makeSlice t l c=>match en.Eb.get t with
  |some ti=>match en.Eb.get ti.elem with
   |some te=>if ti.EA then pq en.fi bs ti.elem te (ρ l) (ρ c) K else none
   |none=>none
  |none=>none
 |.slice t x lo hi mx=>match o.dst,en.Eb.get t with
  |some d,some ti =>
   if en.fi.take.contains d then(match lo,mx with
    |none,none=>if ti.EA then(match en.Eb.get ti.elem with |some te=>AcL te.ty bs (ρ x) (hi.map ρ) K |none=>none)else none
    |_,_=>none)
   else Yp bs ti (match en.Eb.get ti.elem with |some te=>if ti.EA then some te.ty else none |none=>none) (ρ x) (lo.map ρ) (hi.map ρ) (mx.map ρ) pure
  |_,_=>none
 |.fieldAddr t x f=>match en.Eb.get t with |some ti=>ny ti f (ρ x) pure |none=>none
 |.indexAddr t x i=>match en.Eb.get t with
  |some ti=>match en.Eb.get ti.elem with
   |some te=>if ti.EA then vW bs te.ty (ρ x) (ρ i) pure else none
   |none=>none
  |none=>none
 |.index t x i=>match en.Eb.get t with |some ti=>if ti.ty=.str then qW (ρ x) (ρ i) pure else none |none=>none
 |.extract x i=>match Qz (ρ x) i with |some v=>if v.Dp then none else pure v |none=>none
 |.call c=>XB en σ c K
 |_=>none
def Pl.{u}{A:Type u}:ATU (Nat×A)->Nat->ATV A
 |[],_=>none
 |(k,l)::r,n=>if k==n then some l else Pl r n
def AlU(n:Nat)(t:Ty)(e:Ih):ATV Ih:=match rd e.Aj t e.val with
 |some x=>if e.Aj.all (λb=>!b.fK)then some ⟨.AB ((e.val.VY e.Aj).filter λk=>decide (k<n)) t x,Blk.Hd e.Aj ((e.val.VY e.Aj).filter λk=>!decide (k<n)),e.BF⟩else none
 |none=>none
def AbO(n:Nat)(e:Ih):ATV Ih:=match e.val with
 |.AG k=>if n<=k then match e.Aj[k]? with
  |some (.row el .Aw t xs)=>some ⟨.AG k,e.Aj.set k (bif t.BU then .tail el t xs else .row el (.sh []) t xs),e.BF⟩
  |_=>none
  else none
 |_=>none
def kF(en:G5)(o:Oper):Bool:=match o.dst with |some d=>en.fi.AHk.contains d |none=>false
def AJp(en:G5)(o:Oper):ATV Ty:=match o.dst with |some d=>Pl en.fi.iI d |none=>none
def ux(u:Ty):Nat->Ty
 |0=>.unit
 |n+1=>.AH u (ux u n)
def TI.plc(ti te:TI):TI:=⟨ti.ty,(List.range ti.Ht).map (·*te.ty.size),ti.elem,ti.bytes,ti.Ht,ti.Pn,ti.eqs⟩
def jW(en:G5)(σ:St)(o:Oper):ATV AV:=match o.op with
 |.load t x=>match o.dst with
  |none=>none
  |some d=>match Pl en.fi.wD d,en.Eb.get t,σ.Cp x with
   |some e,some ti,.ptr k i p f=>match σ.Aj[k]?,atP σ.Aj k i p f with
    |some (.row _ .Aw _ _),some v=>if ti.EA=true/\v.size=1 then some (.Vh k i p f e)else(match v with
     |.AB _ t x=>if t=ti.ty then lJ k i p e t x 0 f else none
     |_=>none)
    |_,_=>none
   |_,_,_=>none
 |.build t G3=>match en.Eb.get t with
  |some ti=>if ti.Ht=0 then none else match en.Eb.get ti.elem with
   |some te=>if ti.ty=ux te.ty ti.Ht then Zj (ti.plc te) ti.ty.bL (G3.toList.map λp=>(p.1,σ.Cp p.2))else none
   |none=>none
  |none=>none
 |.index t x i=>match en.Eb.get t with
  |some ti=>if ti.Ht=0 then none else match en.Eb.get ti.elem with
   |some te=>match σ.Cp i,σ.Cp x with
    |.AB _ (.int _) j,a=>if 0<=j/\j<(ti.Ht:Int)/\a.off j.toNat=some (j.toNat*te.ty.size)/\a.isAgg=true/\a.Dp=false then match a.b5 j.toNat with
     |some v=>if v.size=te.ty.size/\v.isAgg=te.ty.isAgg then some v else none
     |none=>none
     else none
    |_,_=>none
   |none=>none
  |none=>none
 |.field t x f=>match en.Eb.get t with
  |some ti=>match ti.XQ[f]?,mX ti.ty f,(σ.Cp x).b5 f with
   |some fo,some u,some v=>if(σ.Cp x).off f=some fo/\(σ.Cp x).isAgg=true/\(σ.Cp x).Dp=false/\v.size=u.size/\v.isAgg=u.isAgg then some v else none
   |_,_,_=>none
  |none=>none
 |.call c=>match c.callee,Qr σ c.args,c.argTypes.toList with
  |.builtin .cap,[.zs],t::_=>match en.Eb.get t with |some ti=>if ti.EA=true then some (.int .i64 0)else none |none=>none
  |_,_,_=>none
 |.indexAddr t x i=>match en.Eb.get t with
  |some ti=>if ti.Ht=0 then none else match en.Eb.get ti.elem with
   |some te=>match σ.Cp i with
    |.AB _ (.int _) j=>if 0<=j/\j<(ti.Ht:Int)then match σ.Cp x with
     |.ptr k q p f=>some (.ptr k q (p++[j.toNat]) (f+j.toNat*te.ty.size))
     |.FZ ks t' y=>if V2 t' j.toNat=some (j.toNat*te.ty.size)then match Yb ks t' y j.toNat with |some (.AB _ u z)=>some (.FZ ks u z)|_=>none else none
     |_=>none
     else none
    |_=>none
   |none=>none
  |none=>none
 |_=>none
def coV(bs:ATU Blk):Co->AV->ATV (AV×ATU Blk)
 |.row p e t Aw,a=>match a.W2 p with
  |some .zs=>if t.row then match a.cC p (.AG bs.length)with |some a'=>some (a',[.row e (if t.BU||Aw then .Aw else .sh []) t []])|none=>none else none
  |_=>some (a,[])
 |.AB t,a=>match rd bs t a with |some x=>some (.AB (a.VY bs) t x,[])|none=>none
 |.iG ks,a=>match a with
  |.AB l t x=>if(t.BU||l.all λk=>ks.contains k)&&ks.all (λk=>decide (k<bs.length))then some (.AB ks t x,[])else none
  |_=>none
def coB(k:Nat)(c:Co)(bs:ATU Blk):ATV (ATU Blk):=match bs[k]? with
 |some (.box a)=>match coV bs c a with |some (a',nb)=>some (bs.set k (.box a')++nb)|none=>none
 |_=>none
def rA:ATU (Nat×Co)->ATU Blk->ATV (ATU Blk)
 |[],bs=>some bs
 |(k,c)::r,bs=>match coB k c bs with |some HT=>rA r HT |none=>none
def AnF(bs:ATU Blk):Nat->ATU (ATU Nat)->ATV Nat
 |k,[]=>some k
 |k,q::r=>match bs[k]? with
  |some (.box a)=>match a.W2 q with |some (.ptr k' _ _ _)=>AnF bs k' r |_=>none
  |_=>none
def preB:ATU (Nat×ATU (ATU Nat)×Co)->ATU AV->ATU Blk->ATV (ATU Blk)
 |[],_,bs=>some bs
 |(j,q,c)::r,args,bs=>match args[j]? with
  |some (.ptr k _ _ _)=>match AnF bs k q with
   |some k'=>match coB k' c bs with |some HT=>preB r args HT |none=>none
   |none=>none
  |_=>none
def Aai(bs:ATU Blk)(ti:TI)(k:Nat)(i:Int)(p:ATU Nat)(o:Nat)(j:Int)(u:Ty)(v:AV):ATV Ih:=match bs[k]? with
 |some (.row ek .Aw t xs)=>match kR (.sl u) p t (xs.getD i.toNat t.zero)with
  |some ys=>match take ((Be [k] bs).set k .Bd++[.row 0 .Aw u ys]) .Aw ti.ty v with
   |some (y,.Aw,[])=>match T7 ti.ty y [] u (ys.getD j.toNat u.zero)with
    |some y'=>match T7 (.sl u) (ys.set j.toNat y') p t (xs.getD i.toNat t.zero)with
     |some x'=>if tyP t p=some (.sl u)/\Mk t p=some o/\u.size≠0/\tyP u []=some ti.ty/\Mk u []=some 0/\v.Ck.contains k=false then
         some ⟨.un 0,((Be [k,bs.length] ((Blk.Hd (Be [bs.length] ((Be [k] bs).set k .Bd++[.row 0 .Aw u ys])) []).set bs.length (.row 0 .Aw u (ys.set j.toNat y')))).set bs.length .Bd).set k (.row ek .Aw t (xs.set i.toNat x')),[bs.length]++[k]⟩
      else none
     |none=>none
    |none=>none
   |_=>none
  |none=>none
 |_=>none
def Adv(en:G5)(σ:St)(o:Oper):ATV Ih:=match o.op with
 |.store t x v=>match en.Eb.get t,σ.Cp x with
  |some ti,.Xc k i p f j u=>Aai σ.Aj ti k i p f j u (σ.Cp v)
  |_,_=>none
 |_=>none
def wY(en:G5)(σ:St)(o:Oper):ATV Ih:=Adv en σ o
def tlE(en:G5)(σ:St)(o:Oper):ATV (Bool×Ih):=match o.op with
 |.slice t x (some lo) none none=>match en.Eb.get t,σ.Cp x,σ.Cp lo with
  |some ti,.AG k,.AB _ (.int _) l=>match σ.Aj[k]?,en.Eb.get ti.elem with
   |some (.tail e u xs),some te=>if ti.EA=true/\u=te.ty then some (decide (0<=l)&&decide (l<=(xs.length:Int)),⟨.AG σ.Aj.length,Blk.Hd (Be [k] σ.Aj) [k]++[.tail e u (xs.drop l.toNat)],[k]⟩)else none
   |_,_=>none
  |_,_,_=>none
 |.indexAddr t x i=>match en.Eb.get t,σ.Cp x,σ.Cp i with
  |some ti,.AG k,.AB _ (.int _) l=>match σ.Aj[k]?,en.Eb.get ti.elem with
   |some (.tail _ u xs),some te=>if ti.EA=true/\u=te.ty then some (decide (0<=l)&&decide (l<(xs.length:Int)),⟨.FZ [k] u (xs.getD l.toNat u.zero),σ.Aj,[]⟩)else none
   |_,_=>none
  |_,_,_=>none
 |.call c=>match c.callee,Qr σ c.args,c.argTypes.toList with
  |.builtin .len,[.AG k],[t]=>match σ.Aj[k]?,en.Eb.get t with
   |some (.tail _ _ xs),some ti=>if ti.EA=true then some (true,⟨.int .i64 (xs.length:Int),σ.Aj,[]⟩)else none
   |_,_=>none
  |.builtin .append,[.AG k,y],[t,tx]=>match σ.Aj[k]?,en.Eb.get t,en.Eb.get tx with
   |some (.tail e u xs),some ti,some gv=>match en.Eb.get ti.elem with
    |some te=>match JQ (.sl u) (.sl te.ty) xs,s7 σ.Aj te.ty y with
     |some xs,some (ys,_,rs)=>if ti.EA=true/\gv.EA=true/\te.ty.row=true/\te.bytes≠0/\(e=ti.elem\/e=0)/\rs.contains k=false then
         some (decide ((xs.length+ys.length)*te.bytes<=140737488355328),⟨.AG σ.Aj.length,Blk.Hd (Be (k::rs) σ.Aj) (k::rs)++[.tail e te.ty (xs++ys)],k::rs⟩)else none
     |_,_=>none
    |none=>none
   |_,_,_=>none
  |_,_,_=>none
 |_=>none
def WB(en:G5)(σ:St)(o:Oper)(K:Ih->ATV R):ATV R:=match jW en σ o with
 |some v=>K ⟨v,σ.Aj,[]⟩
 |none=>match wY en σ o with
 |some e=>K e
 |none=>match tlE en σ o with
 |some (c,e)=>bif c then K e else none
 |none=>match AJp en o with
 |none=>bif kF en o then Ss en σ o λe=>match AbO σ.Aj.length e with |some e'=>K e' |none=>none else Ss en σ o K
 |some t=>Ss en σ o λe=>match AlU σ.Aj.length t e with |some e'=>K e' |none=>none
def exec(en:G5)(σ:St)(o:Oper)(K:Ih->ATV R):ATV R:=match o.op,o.dst with
 |.call c,some d=>match Pl en.fi.AJn d with
  |some l=>match preB l (Qr σ c.args) σ.Aj with
   |some bs=>WB en ⟨σ.AU,bs⟩ o λe=>if e.BF.isEmpty then none else K e
   |none=>none
  |none=>WB en σ o K
 |_,_=>WB en σ o K
def Yc(all:ATU Oper)(σ:St)(o:Oper)(Kt Kf:St->ATV R):ATV R :=
 match o.guard with
 |none=>Kt σ
 |some (g,iY) =>
  match (all[g]?).bind (·.dst)with
  |none=>none
  |some d=>match σ.AU[d]? with
   |some (.AB [] .bool b) =>
    bif b then
     (if iY then Kt {σ with AU:=σ.AU.set d (.bool true)}else Kf {σ with AU:=σ.AU.set d (.bool true)})
    else
     (if iY then Kf {σ with AU:=σ.AU.set d (.bool false)}else Kt {σ with AU:=σ.AU.set d (.bool false)})
   |some .nil=>Kf σ
   |_=>none
def St.skip(σ:St)(d:ATV Nat):St:={σ with AU:=aW d .nil σ.AU}
def Sr(en:G5)(all:ATU Oper):ATU Nat->St->(St->ATV R)->ATV R
 |[],σ,K=>K σ
 |i::is,σ,K =>
  match all[i]? with
  |none=>none
  |some o=>Yc all σ o (λσ=>exec en σ o λe=>Sr en all is (σ.after o.dst e) K) (λσ=>Sr en all is (σ.skip o.dst) K)
def Es:ATU (Nat×ATU Nat)->Nat->ATU Nat
 |[],_=>[]
 |(k,l)::r,i=>if k==i then l else Es r i
def VD(all:ATU Oper)(i:Nat):ATU Nat:=match all[i]? with
 |some o=>o.after.toList.filterMap λe=>if Region.binds .any e then some e.on else none
 |none=>[]
def Zd(all:ATU Oper):ATU Nat->ATU (Nat×ATU Nat)->ATU (Nat×ATU Nat)
 |[],A=>A
 |i::is,A=>Zd all is ((i,iP [] (VD all i++(VD all i).flatMap (Es A)))::A)
def d9(all:ATU Oper)(A:ATU (Nat×ATU Nat)):ATU Nat->Bool
 |[]=>true
 |i::is=>is.all (λj=>(Es A j).contains i||match all[i]?,all[j]? with |some x,some y=>x.apart all.toArray y |_,_=>false)&&d9 all A is
def VG(en:G5)(all:ATU Oper)(A:ATU (Nat×ATU Nat)):ATU Nat->ATU Nat->ATU Nat->St->(St->ATV R)->ATV R
 |[],_,_,σ,K=>K σ
 |i::is,done,O2,σ,K =>
  match all[i]? with
  |none=>none
  |some o=>if O2.all (λx=>(Es A i).contains x)then
      Yc all σ o (λσ=>exec en σ o λe =>
       if e.BF.isEmpty then VG en all A is (i::done) (if e.Aj.length=σ.Aj.length then O2 else i::O2) (σ.after o.dst e) K
       else if done.all (λx=>(Es A i).contains x)then VG en all A is (i::done) (i::O2) (σ.after o.dst e) K else none)
      (λσ=>VG en all A is (i::done) O2 (σ.skip o.dst) K)
   else none
inductive Ex where
 |normal |exit (n:Nat)|ret
inductive To {S T:Type} (f:S->Option (S⊕T)):S->T->Prop
 |done {s:S} {t:T} (h:f s=some (.inr t)):To f s t
 |fZ {s s':S} {t:T} (h:f s=some (.inl s')) (k:To f s' t):To f s t
open Classical in
noncomputable def fix{S T:Type}(f:S->ATV (S⊕T))(s:S):ATV T:=if h:∃t,To f s t then some h.choose else none
def key:Code->Nat
 |.region i _ _=>i
 |.seq a _=>key a
 |.block _ a=>key a
 |.loop a=>key a
 |.cond _ a _=>key a
 |_=>0
def Sy(A7:ATU Nat):Nat->ATU AV->ATU AV
 |_,[]=>[]
 |i,a::r=>(if A7.contains i then a else .un 0)::Sy A7 (i+1) r
def coS(σ:St)(s:Nat)(box:Bool)(c:Co):ATV St :=
 match σ.AU[s]? with
 |none=>none
 |some v=>bif box then
     (match v with
      |.ptr k _ _ _=>match σ.Aj[k]? with
       |some (.box a)=>match coV σ.Aj c a with |some (a',nb)=>some ⟨σ.AU,σ.Aj.set k (.box a')++nb⟩|none=>none
       |_=>none
      |_=>none)
  else match coV σ.Aj c v with |some (v',nb)=>some ⟨σ.AU.set s v',σ.Aj++nb⟩|none=>none
def di:ATU (Nat×Bool×Co)->St->ATV St
 |[],σ=>some σ
 |(s,b,c)::r,σ=>match coS σ s b c with |some σ'=>di r σ' |none=>none
def Ag6(m:Nat)(t:Ty)(v:AV)(bs:ATU Blk):ATV (AV×ATU Blk):=match rd bs t v with
 |some x=>some (.AB ((v.VY bs).filter λk=>decide (k<m)) t x,(Blk.Hd bs ((v.VY bs).filter λk=>!decide (k<m))).map Blk.cQ)
 |none=>none
def rG(m:Nat):ATU (Nat×Bool×Ty)->St->ATV St
 |[],σ=>some σ
 |(s,false,t)::r,σ=>match σ.AU[s]? with
  |some (.un _)=>rG m r σ
  |some v=>match Ag6 m t v σ.Aj with
   |some (v',bs)=>rG m r ⟨(σ.AU.map AV.cQ).set s v',bs⟩
   |none=>none
  |none=>none
 |(s,true,t)::r,σ=>match σ.AU[s]? with
  |some (.ptr k _ _ _)=>match σ.Aj[k]? with
   |some (.box a)=>match Ag6 m t a σ.Aj with
    |some (a',bs)=>match bs[k]? with
     |some (.box _)=>rG m r ⟨σ.AU.map AV.cQ,bs.set k (.box a')⟩
     |_=>none
    |none=>none
   |_=>none
  |_=>rG m r σ
def mvS(m:Nat):ATU Nat->St->ATV St
 |[],σ=>some σ
 |s::r,σ=>match σ.AU[s]? with
  |some (.AG k)=>if k<m then match σ.Aj[k]? with
      |some (.row e md t xs)=>if md.Ck.contains k then none else mvS m r ⟨(VF [k] σ.AU).set s (.AG σ.Aj.length),Blk.Hd (Be [k] σ.Aj) [k]++[.row e md t xs]⟩
      |_=>none
   else mvS m r σ
  |_=>mvS m r σ
def mvB(m k:Nat)(p:ATU Nat)(σ:St):ATV St:=match σ.Aj[k]? with
 |some (.box a)=>match a.W2 p with
  |some (.AG j)=>if j<m then match σ.Aj[j]? with
      |some (.row e md t xs)=>if md.Ck.contains j then none else match (a.drop λq=>[j].contains q).W2 p,(a.drop λq=>[j].contains q).cC p (.AG σ.Aj.length)with
       |some (.AG j'),some a2=>if j'=j/\k≠j then some ⟨VF [j] σ.AU,(Blk.Hd (Be [j] σ.Aj) [j]++[Blk.row e md t xs]).set k (Blk.box a2)⟩else none
       |_,_=>none
      |_=>none
   else some σ
  |_=>none
 |_=>none
def mvV(m s:Nat)(p:ATU Nat)(a:AV)(σ:St):ATV St:=match a.W2 p with
 |some (.AG j)=>if j<m then match σ.Aj[j]? with
     |some (.row e md t xs)=>if md.Ck.contains j then none else match (a.drop λq=>[j].contains q).W2 p,(a.drop λq=>[j].contains q).cC p (.AG σ.Aj.length)with
      |some (.AG j'),some a2=>if j'=j then some ⟨(VF [j] σ.AU).set s a2,Blk.Hd (Be [j] σ.Aj) [j]++[Blk.row e md t xs]⟩else none
      |_,_=>none
     |_=>none
  else some σ
 |_=>none
def mvP(m s:Nat)(p:ATU Nat)(σ:St):ATV St:=match σ.AU[s]? with
 |some (.ptr k _ _ _)=>mvB m k p σ
 |some a=>mvV m s p a σ
 |none=>none
def Aig(m:Nat):ATU (Nat×ATU Nat)->St->ATV St
 |[],σ=>some σ
 |(s,p)::r,σ=>match mvP m s p σ with |some σ'=>Aig m r σ' |none=>none
def AV.wid(ks:ATU Nat):AV->AV
 |.AB l t x=>if t.BU=false/\l.all (λj=>ks.contains j)=true then .AB ks t x else .AB l t x
 |.pr a b=>.pr (a.wid ks) (b.wid ks)
 |a=>a
def tu:ATU (Nat×ATU Nat)->ATU Blk->ATV (ATU Blk)
 |[],bs=>some bs
 |(k,ks)::r,bs=>match bs[k]? with
  |some (.row e (.sh l) t xs)=>if l.all (λj=>ks.contains j)&&ks.all (λj=>decide (j<bs.length))then tu r (bs.set k (.row e (.sh ks) t xs))else none
  |some (.box a)=>if ks.all (λj=>decide (j<bs.length))then tu r (bs.set k (.box (a.wid ks)))else none
  |_=>none
def Ady(bs:ATU Blk)(m:Nat)(π Ck:ATU Nat):Bool :=
 π.take m==List.range m&&nodup π&&Ck.all (λj=>π.contains j)&&π.all λk=>match bs[k]? with |some b=>b.Ck.all λj=>π.contains j |none=>false
def St.AA(m:Nat)(A7:ATU Nat)(σ:St):ATV St :=
 let sl:=Sy A7 0 σ.AU
 let π:=pS σ.Aj σ.Aj.length (iP (List.range m) (sl.flatMap (·.Ck)))
 if Ady σ.Aj m π (sl.flatMap (·.Ck))then
  some {AU:=sl.map (λa=>(a.O0 (idxOf π)).Et π.length),Aj:=π.map λk=>(((σ.Aj[k]?).getD .Bd).O0 (idxOf π)).Et π.length}
 else none
def turns(en:G5)(o:Oper):Bool:=match o.op with
 |.alloc _=>true
 |.box _ _=>true
 |.buildSlice _ _ _=>true
 |.store _ _ _=>true
 |.makeSlice _ _ _=>true
 |.makeMap _ _=>true
 |.mapUpdate _ _ _ _=>true
 |.insert _ _ _ _=>true
 |.mapEntry _ _ _=>true
 |.entryStore _ _ _ _=>true
 |.load _ _=>match o.dst with |some d=>en.fi.stl.contains d |none=>false
 |.lookup _ _ _ _=>match o.dst with |some d=>en.fi.stl.contains d |none=>false
 |.slice _ _ _ _ _=>match o.dst with |some d=>en.fi.take.contains d |none=>false
 |.call c=>match c.callee with |.builtin .append=>true |.builtin _=>false |_=>true
 |_=>false
def AlM(all:ATU Oper)(done:ATU Nat)(i:Nat):Bool:=(VD all i).all λx=>done.contains x
def Yn(en:G5)(all:ATU Oper):Nat->ATU Nat->ATU Nat
 |0,done=>done.reverse
 |f+1,done =>
  let rdy:=(List.range all.length).filter λi=>!done.contains i&&AlM all done i
  match rdy.find? (λi=>match all[i]? with |some o=>!turns en o |none=>false)with
  |some i=>Yn en all f (i::done)
  |none=>match rdy with
   |i::_=>Yn en all f (i::done)
   |[]=>done.reverse
def mq(all:ATU Oper):ATU Nat->ATU Nat->Bool
 |[],_=>true
 |i::is,done=>(VD all i).all (λd=>done.contains d)&&mq all is (i::done)
def Afj(all:ATU Oper)(L:ATU Nat):Bool:=nodup L&&(List.range all.length).all (λi=>L.contains i)&&L.all (λi=>decide (i<all.length))&&d9 all (Zd all L []) L&&mq all L []
end
def St.head(h:SH)(m:Nat)(σ:St):ATV St :=
 match ((mvS m h.mv σ).bind (Aig m h.mvp)).bind (rG m h.O4)with
 |none=>none
 |some σ=>match di h.Cg σ with
  |none=>none
  |some σ=>match σ.AA m h.A7 with
   |none=>none
   |some σ=>match tu h.wid σ.Aj with
    |none=>none
    |some bs=>di h.post ⟨σ.AU,bs⟩
def AlN(m:Nat)(σ:St):ATV (ATU Nat)->ATV St
 |none=>some σ
 |some l=>σ.head {A7:=l} m
open Classical in
noncomputable def nt(s t:St):ATV Unit:=if s=t then some ()else none
def AbK(o:Oper):Bool:=match o.op with
 |.move _=>true
 |.assign _=>true
 |.extract _ _=>true
 |.fieldAddr _ _ _=>true
 |.indexAddr _ _ _=>true
 |.build _ _=>true
 |_=>false
def AHg(Ca:Array Oper)(listed:Array Bool):ATV Nat:=(Region.ready .any Ca listed).find? λi=>(match Ca[i]? with |some o=>AbK o |none=>false)&&Region.free .any Ca listed i
def vo:ATU (ATV Unit)->ATV Unit
 |[]=>some ()
 |[x]=>x
 |x::y::r=>x.bind λ_=>vo (y::r)
noncomputable def Acv(en:G5)(h:SH)(m:Nat)(Ca:Array Oper)(σ':St):Nat->Array Bool->St->ATV Unit
 |0,listed,σ=>if(Region.ready .any Ca listed).isEmpty then match σ.head h m with |some s=>nt s σ' |none=>none else none
 |k+1,listed,σ=>match AHg Ca listed with
  |some i=>Sr en Ca.toList [i] σ λσ1=>Acv en h m Ca σ' k (listed.setIfInBounds i true) σ1
  |none=>if(Region.ready .any Ca listed).isEmpty then none else
  vo ((Region.ready .any Ca listed).map λi=>Sr en Ca.toList [i] σ λσ1=>Acv en h m Ca σ' k (listed.setIfInBounds i true) σ1)
def zT(Tk:ATU Blk)(σ:St)(o:Oper):Bool:=AbK o||match o.op with
 |.load _ x=>(match σ.Cp x with |.ptr k _ _ _=>(match Tk[k]?,σ.Aj[k]? with |some (.box _),some (.box _)=>true |_,_=>false)|_=>false)
 |.call c=>(match c.callee,Qr σ c.args with |.builtin .len,[.AB _ (.sl _) _]=>true |.builtin .len,[.zs]=>true |_,_=>false)
 |.binOp op _ x y _=>(match op with |.add=>true |.sub=>true |_=>false)&&(match σ.Cp x,σ.Cp y with |.AB _ (.int k) _,.AB _ (.int k') _=>decide (k=k')|_,_=>false)
 |_=>false
def AHf(Tk:ATU Blk)(σ:St)(Ca:Array Oper)(listed:Array Bool):ATV Nat:=(Region.ready .any Ca listed).find? λi=>(match Ca[i]? with |some o=>zT Tk σ o |none=>false)&&Region.free .any Ca listed i
def nbx(Tk:ATU Blk)(k:Nat):Bool:=match Tk[k]? with |some (.box _)=>false |_=>true
def evQ{R:Type}(en:G5)(all:ATU Oper)(Tk:ATU Blk)(i:Nat)(σ:St)(K:St->ATV R):ATV R:=match all[i]? with
 |none=>none
 |some o=>Yc all σ o (λσ=>exec en σ o λe=>if e.BF.all (nbx Tk)then K (σ.after o.dst e)else none) (λσ=>K (σ.skip o.dst))
noncomputable def yT(en:G5)(h:SH)(m:Nat)(Tk:ATU Blk)(Ca:Array Oper)(σ':St):Nat->Array Bool->St->ATV Unit
 |0,listed,σ=>if(Region.ready .any Ca listed).isEmpty then match σ.head h m with |some s=>nt s σ' |none=>none else none
 |k+1,listed,σ=>match AHf Tk σ Ca listed with
  |some i=>evQ en Ca.toList Tk i σ λσ1=>yT en h m Tk Ca σ' k (listed.setIfInBounds i true) σ1
  |none=>if(Region.ready .any Ca listed).isEmpty then none else
  vo ((Region.ready .any Ca listed).map λi=>evQ en Ca.toList Tk i σ λσ1=>yT en h m Tk Ca σ' k (listed.setIfInBounds i true) σ1)
noncomputable def AmD(en:G5)(m:Nat)(h:SH)(Ca:Array Oper)(σ:St):ATV St :=
 if Region.noSelect Ca=false then none else Sr en Ca.toList (List.range Ca.size) σ λs=>(s.head h m).bind λσ'=>(bif h.ZJ then yT en h m σ.Aj Ca σ' Ca.size (Array.replicate Ca.size false) σ else Acv en h m Ca σ' Ca.size (Array.replicate Ca.size false) σ).bind λ_=>some σ'
noncomputable def ev(en:G5)(m:Nat):Code->(R:Type)->St->(Ex->St->ATV R)->ATV R
 |.skip,_,σ,K=>K .normal σ
 |.ret,_,σ,K=>K .ret σ
 |.exit n,_,σ,K=>K (.exit n) σ
 |.seq a b,R,σ,K=>match Pl en.fi.Bw (key b)with
  |none=>ev en m a R σ λe σ=>match e with
   |.normal=>ev en m b R σ K
   |.exit n=>K (.exit n) σ
   |.ret=>K .ret σ
  |some h=>(AlN m σ (Pl en.fi.Da (key b))).bind λσ=>(ev en m a (Ex×St) σ λe σ=>(σ.head h m).bind λσ'=>some (e,σ')).bind λp=>match p.1 with
   |.normal=>ev en m b R p.2 K
   |.exit n=>K (.exit n) p.2
   |.ret=>K .ret p.2
 |.cond c a b,R,σ,K=>match σ.Cp c with |.AB _ .bool t=>bif t then ev en m a R σ K else ev en m b R σ K |_=>none
 |.block n a,R,σ,K=>ev en m a R σ λe σ=>match e with
  |.normal=>K .normal σ
  |.exit k=>bif k==n then K .normal σ else K (.exit k) σ
  |.ret=>K .ret σ
 |.region _ Ca false,_,σ,K=>Sr en Ca.toList (List.range Ca.size) σ (K .normal)
 |.region id Ca true,_,σ,K=>match Pl en.fi.YH id with
  |some h=>(AlN m σ (Pl en.fi.Zm id)).bind λσ=>(AmD en m h Ca σ).bind (K .normal)
  |none=>if Afj Ca.toList (Yn en Ca.toList Ca.toList.length [])then VG en Ca.toList (Zd Ca.toList (Yn en Ca.toList Ca.toList.length []) []) (Yn en Ca.toList Ca.toList.length []) [] [] σ (K .normal)else none
 |.loop body,R,σ,K=>match Pl en.fi.A5 (key body),Pl en.fi.BB (key body)with
  |some h,some ho=>match σ.head h m with
   |none=>none
   |some σ0=>(fix (λs=>ev en m body (St⊕(Ex×St)) s λe s'=>match e with
       |.normal=>(s'.head h m).bind λaD=>some (.inl aD)
       |.exit n=>(s'.head ho m).bind λaD=>some (.inr (.exit n,aD))
       |.ret=>(s'.head ho m).bind λaD=>some (.inr (.ret,aD))) σ0).bind λp=>K p.1 p.2
  |_,_=>none
 |_,_,_,_=>none
def iT(Eb:Tab)(σ:St):ATU ResultVar->ATV (ATU AV)
 |[]=>some []
 |.tmp t::r=>match σ.AU[t]?,iT Eb σ r with |some v,some l=>some (v::l)|_,_=>none
 |.cell a t::r=>match Eb.get t,σ.AU[a]? with
  |some ti,some (.ptr k i p o)=>match atP σ.Aj k i p o,iT Eb σ r with
   |some v,some l=>if v.size=ti.ty.size/\v.isAgg=ti.ty.isAgg then some (v::l)else none
   |_,_=>none
  |_,_=>none
def wU:ATU AV->AV
 |[a]=>a
 |l=>X7 l
def dj:ATU (Nat×Co)->ATU AV->ATU Blk->ATV (ATU AV×ATU Blk)
 |[],l,bs=>some (l,bs)
 |(i,c)::r,l,bs=>match l[i]? with
  |none=>none
  |some v=>match coV bs c v with |some (v',nb)=>dj r (l.set i v') (bs++nb)|none=>none
def rF(m:Nat):ATU (Nat×Ty)->ATU AV->ATU Blk->ATV (ATU AV×ATU Blk)
 |[],l,bs=>some (l,bs)
 |(i,t)::r,l,bs=>match l[i]? with
  |none=>none
  |some v=>match Ag6 m t v bs with |some (v',HT)=>rF m r ((l.map AV.cQ).set i v') HT |none=>none
def lA(m:Nat)(bs:ATU Blk)(v:AV):ATV (AV×ATU Blk) :=
 let π:=pS bs bs.length (iP (List.range m) v.Ck)
 if Ady bs m π v.Ck then some ((v.O0 (idxOf π)).Et π.length,π.map λk=>(((bs[k]?).getD .Bd).O0 (idxOf π)).Et π.length)else none
def aR(m:Nat):ATU Fi->St->ATV St
 |[],σ=>some σ
 |.co k c::r,σ=>match coB k c σ.Aj with |some bs=>aR m r ⟨σ.AU,bs⟩|none=>none
 |.Bd j::r,σ=>aR m r ⟨σ.AU,σ.Aj.set j .Bd⟩
 |.mvs s p::r,σ=>match mvP m s p σ with |some σ'=>aR m r σ' |none=>none
 |.mv k p::r,σ=>match mvB m k p σ with |some σ'=>aR m r σ' |none=>none
noncomputable def T6(en:G5)(fn:Func)(R:Type)(args:ATU AV)(E:ATU Blk)(K:AV->ATU Blk->ATV R):ATV R :=
 match fn.body with
 |none=>none
 |some c =>
  if args.length<=fn.ntmps then
   ev en E.length c R ⟨args++List.replicate (fn.ntmps-args.length) (.un 0),E⟩ λe σ=>match e with
    |.exit _=>none
    |_=>match aR E.length en.fi.Xm σ with
     |none=>none
     |some σ=>match iT en.Eb σ fn.results.toList with
     |some l=>match rF E.length en.fi.O4 l σ.Aj with
      |some (l,bs)=>match dj en.fi.gk l bs with
       |some (l',HT)=>match lA E.length HT (wU l')with
        |some (v,bs)=>K v bs
        |none=>none
       |none=>none
      |none=>none
     |none=>none
  else none
end Go.Va
namespace Go.Va
section
variable {S T X Y:Type}
theorem To.kC{f:S->ATV (S⊕T)}{s:S}{t u:T}(h:To f s t)(k:To f s u):t=u:=by
 induction h with
 |done h=>cases k with
  |done k=>rw[h]at k;injection k with k;injection k
  |fZ k _=>rw[h]at k;injection k with k;cases k
 |fZ h _ ih=>cases k with
  |done k=>rw[h]at k;injection k with k;cases k
  |fZ k k'=>rw[h]at k;injection k with k;injection k with k;subst k;exact ih k'
theorem XC{f:S->ATV (S⊕T)}{s:S}{t:T}:fix f s=some t↔To f s t:=by
 unfold fix;constructor
 ·intro h;split at h
  ·rename_i hx;injection h with h;subst h;exact hx.choose_spec
  ·cases h
 ·intro h;rw[dif_pos ⟨t,h⟩];exact congrArg some (To.kC (Exists.choose_spec ⟨t,h⟩) h)
theorem AgZ(f:S->ATV (S⊕T))(s:S):fix f s=match f s with |none=>none |some (.inl s')=>fix f s' |some (.inr t)=>some t:=by
 apply Option.ext;intro t;rw[XC];constructor
 ·intro h;cases h with
  |done h=>rw[h]
  |fZ h k=>rw[h];exact XC.2 k
 ·intro h;split at h
  ·cases h
  ·rename_i s' hs;exact .fZ hs (XC.1 h)
  ·rename_i u hs;injection h with h;subst h;exact .done hs
theorem Ix{f:S->ATV (S⊕T)}{s:S}{t:T}(h:f s=some (.inr t)):fix f s=some t:=by rw[AgZ,h]
theorem Li{f:S->ATV (S⊕T)}{s s':S}(h:f s=some (.inl s')):fix f s=fix f s':=by rw[AgZ,h]
theorem AlP(σ:X->S)(τ:Y->T)(f:S->ATV (S⊕T))(g:X->ATV (X⊕Y))(h:∀x,f (σ x)=(g x).map (Sum.map σ τ))(x:X) :
    fix f (σ x)=(fix g x).map τ:=by
 apply Option.ext;intro t;rw[XC];constructor
 ·intro ht;generalize hs:σ x=s at ht;induction ht generalizing x with
  |@done s t hd =>
   subst hs;rw[h]at hd;cases hg:g x with
   |none=>rw[hg]at hd;cases hd
   |some r=>rw[hg]at hd;cases r with
    |inl x'=>cases hd
    |inr y=>injection hd with hd;injection hd with hd;subst hd;rw[Ix hg];rfl
  |@fZ s s' t hd _ ih =>
   subst hs;rw[h]at hd;cases hg:g x with
   |none=>rw[hg]at hd;cases hd
   |some r=>rw[hg]at hd;cases r with
    |inl x'=>injection hd with hd;injection hd with hd;rw[Li hg];exact ih x' hd
    |inr y=>injection hd with hd;cases hd
 ·intro ht;cases hf:fix g x with
  |none=>rw[hf]at ht;cases ht
  |some y =>
   rw[hf]at ht;injection ht with ht;subst ht;have vT:=XC.1 hf;clear hf;induction vT with
   |done hd=>exact .done (by rw[h,hd];rfl)
   |fZ hd _ ih=>exact .fZ (by rw[h,hd];rfl) ih
end
theorem Ah9{A B:Type}(f:A->B)(c:Bool)(x y:ATV A):(bif c then x else y).map f=bif c then x.map f else y.map f:=by cases c<;>rfl
theorem Ams{A B:Type}(f:A->B)(c:Prop)[Decidable c](x y:ATV A):(if c then x else y).map f=if c then x.map f else y.map f:=by split<;>rfl
theorem Ah8{A B C:Type}(f:B->C)(x:ATV A)(k:A->ATV B):(x.bind k).map f=x.bind λy=>(k y).map f:=by cases x<;>rfl
theorem jZ{A B C:Type}(f:A->B)(x:ATV A)(k:B->ATV C):(x.map f).bind k=x.bind λy=>k (f y):=by cases x<;>rfl
def sub:Code->ATU Nat->Code
 |c,[]=>c
 |.seq a b,n::p=>match n with |0=>sub a p |_=>sub b p
 |.cond _ a b,n::p=>match n with |0=>sub a p |_=>sub b p
 |.block _ a,_::p=>sub a p
 |.loop a,_::p=>sub a p
 |_,_=>.skip
noncomputable def Adh(en:G5)(m:Nat)(R:Type):Code->ATU Nat->(Ex->St->ATV R)->Ex->St->ATV R
 |_,[],K=>K
 |.seq a b,n::p,K=>match n with
  |0=>Adh en m R a p λe σ=>match e with
   |.normal=>ev en m b R σ K
   |.exit n=>K (.exit n) σ
   |.ret=>K .ret σ
  |_=>Adh en m R b p K
 |.cond _ a b,n::p,K=>match n with |0=>Adh en m R a p K |_=>Adh en m R b p K
 |.block n a,_::p,K=>Adh en m R a p λe σ=>match e with
  |.normal=>K .normal σ
  |.exit k=>bif k==n then K .normal σ else K (.exit k) σ
  |.ret=>K .ret σ
 |_,_,_=>λ_ _=>none
noncomputable def AHo(m:Nat)(h ho:SH)(e:Ex)(s':St):ATV (St⊕(Ex×St)):=match e with
    |.normal=>(s'.head h m).bind λaD=>some (.inl aD)
    |.exit n=>(s'.head ho m).bind λaD=>some (.inr (.exit n,aD))
    |.ret=>(s'.head ho m).bind λaD=>some (.inr (.ret,aD))
noncomputable def AG6(m:Nat)(h:SH)(e:Ex)(σ:St):ATV (Ex×St):=(σ.head h m).bind λσ'=>some (e,σ')
noncomputable def pZ(en:G5)(m:Nat)(h ho:SH)(body:Code)(s:St):ATV (St⊕(Ex×St)) :=
 ev en m body (St⊕(Ex×St)) s λe s'=>match e with
  |.normal=>(s'.head h m).bind λaD=>some (.inl aD)
  |.exit n=>(s'.head ho m).bind λaD=>some (.inr (.exit n,aD))
  |.ret=>(s'.head ho m).bind λaD=>some (.inr (.ret,aD))
noncomputable def AG7(en:G5)(m:Nat)(h:SH)(a:Code)(s:St):ATV (Ex×St):=ev en m a (Ex×St) s λe σ=>(σ.head h m).bind λσ'=>some (e,σ')
noncomputable def A0(en:G5)(fn:Func)(m:Nat)(R:Type)(K:AV->ATU Blk->ATV R)(e:Ex)(σ:St):ATV R :=
 match e with
 |.exit _=>none
 |_=>match aR m en.fi.Xm σ with
  |none=>none
  |some σ=>match iT en.Eb σ fn.results.toList with
  |some l=>match rF m en.fi.O4 l σ.Aj with
   |some (l,bs)=>match dj en.fi.gk l bs with
    |some (l',HT)=>match lA m HT (wU l')with
     |some (v,bs)=>K v bs
     |none=>none
    |none=>none
   |none=>none
  |none=>none
def mkS:Nat->Nat->ATU (Nat×AV)->ATU AV
 |0,_,_=>[]
 |n+1,i,[]=>.un 0::mkS n (i+1) []
 |n+1,i,(j,v)::r=>if i==j then v::mkS n (i+1) r else .un 0::mkS n (i+1) ((j,v)::r)
end Go.Va
namespace Go.Va
inductive VC where
 |no |Jl |BQ (k:Nat) (p:List Nat)
structure BI where
 a:Option Addr
 len:Nat
 cap:Nat
 oQ:Nat
structure G where
 own:Nat->VC
 A2:Nat->BI
def CL{α:Type}(R:α->ATU Value->Prop):ATU α->ATU Value->Prop
 |[],cs=>cs=[]
 |x::xs,cs=>∃c d,cs=c++d/\R x c/\CL R xs d
def Bo{α:Type}(R:Nat->α->ATU Value->Prop):Nat->ATU α->ATU Value->Prop
 |_,[],cs=>cs=[]
 |i,x::xs,cs=>∃c d,cs=c++d/\R i x c/\Bo R (i+1) xs d
def Ii(w:World)(A:Nat->Prop):(t:Ty)->t.V->ATU Value->Prop
 |.int k,x,cs=>cs=[.int k x]
 |.bool,b,cs=>cs=[.bool b]
 |.str,s,cs=>cs=[.string s]
 |.unit,_,cs=>cs=[]
 |.AH a b,x,cs=>∃c d,cs=c++d/\Ii w A a x.1 c/\Ii w A b x.2 d
 |.sl t,xs,cs=>∃ad cap ds,cs=[.slice ad xs.length cap]/\xs.length<=cap/\CL (Ii w A t) xs ds /\
     (xs=[]\/∃b off,ad=some ⟨b,off,none⟩/\A b/\∀j u,ds[j]?=some u->w.cell? ⟨b,off+j,none⟩=some u)
 |.Sp _,_,_=>False
def Kl(w:World)(own:Nat->VC)(k:Nat):(t:Ty)->ATU Nat->t.V->ATU Value->Prop
 |.int k',_,x,cs=>cs=[.int k' x]
 |.bool,_,b,cs=>cs=[.bool b]
 |.str,_,s,cs=>cs=[.string s]
 |.unit,_,_,cs=>cs=[]
 |.AH a b,p,x,cs=>∃c d,cs=c++d/\Kl w own k a (0::p) x.1 c/\Kl w own k b (1::p) x.2 d
 |.sl t,p,xs,cs=>∃ad cap,cs=[.slice ad xs.length cap]/\((xs=[]/\cap=0)\/∃b e BA ds,ad=some ⟨b,0,none⟩/\own b=.BQ k p /\
     w.heap[b]?=some (.cells BA e (0,0))/\xs.length<=cap/\cap<=maxLen/\BA.size=cap*t.size/\BA.toList.take (xs.length*t.size)=ds/\Bo (λi=>Kl w own k t (i::p)) 0 xs ds)
 |.Sp _,_,_,_=>False
def Al(own:Nat->VC)(ks:ATU Nat)(b:Nat):Prop:=own b=.Jl\/∃k∈ks,∃p,own b=.BQ k p
def AV.OV:AV->Bool
 |.un _=>true
 |_=>false
def Cm(agg:Bool)(cs:ATU Value)(v:Value):Prop:=bif agg then v=.agg cs.toArray else cs=[v]
def CK(w:World)(g:G)(n:Nat):Bool->AV->ATU Value->Prop
 |false,.AB ks t x,cs=>(∀k∈ks,k<n)/\Ii w (Al g.own ks) t x cs
 |false,.zs,cs=>∃ad,cs=[.slice ad 0 0]
 |false,.AG k,cs=>k<n/\cs=[.slice (g.A2 k).a (g.A2 k).len (g.A2 k).cap]
 |false,.ptr k i _ o,cs=>k<n/\0<=i/\i.toNat<(g.A2 k).len/\∃b,(g.A2 k).a=some ⟨b,0,none⟩/\cs=[.pointer (some ⟨b,i.toNat*(g.A2 k).oQ+o,none⟩)]
 |false,.FZ ks t x,cs=>(∀k∈ks,k<n)/\∃b off ds,cs=[.pointer (some ⟨b,off,none⟩)]/\Al g.own ks b/\Ii w (Al g.own ks) t x ds/\∀j u,ds[j]?=some u->w.cell? ⟨b,off+j,none⟩=some u
 |false,.KQ,cs=>cs=[.pointer none]
 |false,.Vh k i _ o _,cs=>k<n/\0<=i/\i.toNat<(g.A2 k).len/\∃b v,(g.A2 k).a=some ⟨b,0,none⟩/\g.own b=.BQ k []/\cs=[v]/\v.oneCell'=true/\w.cell? ⟨b,i.toNat*(g.A2 k).oQ+o,none⟩=some v
 |false,.Xc k i _ o j u,cs=>k<n/\0<=i/\i.toNat<(g.A2 k).len/\∃b b' l c,(g.A2 k).a=some ⟨b,0,none⟩/\g.own b=.BQ k []/\cs=[.pointer (some ⟨b',j.toNat*u.size,none⟩)]/\(0<=j/\j.toNat<l)/\w.cell? ⟨b,i.toNat*(g.A2 k).oQ+o,none⟩=some (.slice (some ⟨b',0,none⟩) l c)
 |false,.mp k,cs=>k<n/\∃b,(g.A2 k).a=some ⟨b,0,none⟩/\cs=[.map (some b)]
 |false,.pr a b,cs=>∃c d,cs=c++d/\CK w g n false a c/\CK w g n false b d
 |false,.fn f c,cs=>∃vs,cs=[.func (.func f) #[] vs.toArray]/\CK w g n true c vs
 |false,.un k,cs=>cs.length=k/\∀v∈cs,v.oneCell'=true
 |true,.cons a b,vs=>∃v r,vs=v::r/\(a.OV=true\/∃cs,CK w g n false a cs/\Cm a.isAgg cs v)/\CK w g n true b r
 |true,.nil,vs=>vs=[]
 |_,_,_=>False
def B6(w:World)(g:G)(n:Nat):AV->Value->Prop
 |.cons a b,v=>∃vs,v=.tuple vs.toArray/\CK w g n true (.cons a b) vs
 |.nil,v=>v=.tuple #[]
 |a,v=>a.OV=true\/∃cs,CK w g n false a cs/\Cm a.isAgg cs v
def UW(w:World)(own:Nat->VC)(k:Nat):RM->(t:Ty)->Nat->t.V->ATU Value->Prop
 |.Aw,t,i,x,cs=>Kl w own k t [i] x cs
 |.sh ks,t,_,x,cs=>Ii w (Al own ks) t x cs
def uf(w:World)(own:Nat->VC)(k:Nat):RM->(t:Ty)->ATU t.V->ATU Value->Prop
 |.Aw,t,xs,ds=>Bo (λi=>Kl w own k t [i]) 0 xs ds
 |.sh ks,t,xs,ds=>CL (Ii w (Al own ks) t) xs ds
def Ww(w:World)(b e:Nat)(BA:Array Value):Prop:=∃el,(e=0\/el=e)/\w.heap[b]?=some (.cells BA el (0,0))
def FL:(t:Ty)->t.V->Value
 |.int k,x=>.int k x
 |.str,s=>.string s
 |.AH (.int q) (.AH (.int q') .unit),x=>.agg #[.int q x.1,.int q' x.2.1]
 |_,_=>.nilIface
def Xp(w:World)(own:Nat->VC)(k:Nat)(md:RM)(kt vt:Ty)(st:ATV kt.V):Nat->ATU (kt.V×vt.V)->ATU MapEntry->Prop
 |_,[],ms=>ms=[]
 |i,x::xs,ms=>∃m r,ms=m::r/\(m.key=FL kt x.1/\m.born=i)/\(st=some x.1\/∃cs,UW w own k md vt i x.2 cs/\Cm vt.isAgg cs m.val)/\Xp w own k md kt vt st (i+1) xs r
def ND(w:World)(g:G)(n k:Nat):Blk->Prop
 |.box a=>(g.A2 k).len=1/\∃b cs e,(g.A2 k).a=some ⟨b,0,none⟩/\g.own b=.BQ k []/\w.heap[b]?=some (.cells cs e (0,0))/\CK w g n false a cs.toList
 |.row e m t xs=>(∀j∈m.Ck,j<n)/\(g.A2 k).len=xs.length/\(g.A2 k).oQ=t.size/\0<t.size/\((xs=[]/\(g.A2 k).cap=0)\/∃b BA ds,(g.A2 k).a=some ⟨b,0,none⟩/\g.own b=.BQ k [] /\
     Ww w b e BA/\xs.length<=(g.A2 k).cap/\(g.A2 k).cap<=maxLen/\BA.size=(g.A2 k).cap*t.size/\BA.toList.take (xs.length*t.size)=ds/\uf w g.own k m t xs ds)
 |.map md kt vt es st=>(∀j∈md.Ck,j<n)/\∃b Ht DK,(g.A2 k).a=some ⟨b,0,none⟩/\g.own b=.BQ k []/\w.heap[b]?=some (.map Ht DK)/\((es.map (·.1)).Nodup/\DK=Ht.size)/\Xp w g.own k md kt vt st 0 es Ht.toList
 |.Sm e t xs i p=>(g.A2 k).len=xs.length/\(g.A2 k).oQ=t.size/\0<t.size/\0<=i/\i.toNat<xs.length/\∃u o x0 b BA ds,Mk t p=some o/\tyP t p=some (.sl u)/\T7 (.sl u) [] p t (xs.getD i.toNat t.zero)=some x0 /\
     (g.A2 k).a=some ⟨b,0,none⟩/\g.own b=.BQ k []/\Ww w b e BA/\xs.length<=(g.A2 k).cap/\(g.A2 k).cap<=maxLen/\BA.size=(g.A2 k).cap*t.size /\
     (BA.setIfInBounds (i.toNat*t.size+o) (.slice none 0 0)).toList.take (xs.length*t.size)=ds/\Bo (λj=>Kl w g.own k t [j]) 0 (xs.set i.toNat x0) ds
 |.tail e t xs=>t.BU=true/\(g.A2 k).len=xs.length/\(g.A2 k).oQ=t.size/\0<t.size/\((xs=[]/\(g.A2 k).cap=0)\/∃b o BA ds,(g.A2 k).a=some ⟨b,o,none⟩/\g.own b=.BQ k [] /\
     Ww w b e BA/\xs.length<=(g.A2 k).cap/\(g.A2 k).cap<=maxLen/\BA.size=o+(g.A2 k).cap*t.size/\(BA.toList.drop o).take (xs.length*t.size)=ds/\uf w g.own k .Aw t xs ds)
 |.Bd=>True
structure Bi (w:World) (g:G) (bs:List Blk):Prop where
 B3:∀b,w.heap.size<=b->g.own b=.no
 MR:∀k x,bs[k]?=some x->ND w g bs.length k x
structure Step (BF:List Nat) (n:Nat) (w:World) (g:G) (w':World) (g':G):Prop where
 os:w'.os=w.os
 tape:w'.tape=w.tape
 output:w'.output=w.output
 size:w.heap.size<=w'.heap.size
 no:∀b,b<w.heap.size->g.own b=.no->g'.own b=.no/\w'.heap[b]?=w.heap[b]?
 Jl:∀b,g.own b=.Jl->g'.own b=.Jl/\w'.heap[b]?=w.heap[b]?
 BQ:∀b k p,g.own b=.BQ k p->k<n->k∉BF->g'.own b=.BQ k p/\w'.heap[b]?=w.heap[b]?
 A2:∀k,k<n->g'.A2 k=g.A2 k
section
variable {α:Type} {R S:α->ATU Value->Prop} {I J:Nat->α->ATU Value->Prop}
theorem CL.mono(h:∀x c,R x c->S x c):∀{xs cs},CL R xs cs->CL S xs cs
 |[],_,hc=>hc
 |_::_,_,⟨c,d,e,r,l⟩=>⟨c,d,e,h _ _ r,l.mono h⟩
theorem Bo.mono(h:∀i x c,I i x c->J i x c):∀{i xs cs},Bo I i xs cs->Bo J i xs cs
 |_,[],_,hc=>hc
 |_,_::_,_,⟨c,d,e,r,l⟩=>⟨c,d,e,h _ _ _ r,l.mono h⟩
theorem Bo.toR(h:∀i x c,I i x c->S x c):∀{i xs cs},Bo I i xs cs->CL S xs cs
 |_,[],_,hc=>hc
 |_,_::_,_,⟨c,d,e,r,l⟩=>⟨c,d,e,h _ _ _ r,l.toR h⟩
theorem CL.toI(h:∀i x c,R x c->J i x c):∀{i xs cs},CL R xs cs->Bo J i xs cs
 |_,[],_,hc=>hc
 |_,_::_,_,⟨c,d,e,r,l⟩=>⟨c,d,e,h _ _ _ r,CL.toI h l⟩
theorem CL.append:∀{xs ys cs ds},CL R xs cs->CL R ys ds->CL R (xs++ys) (cs++ds)
 |[],_,_,_,h,k=>by cases h;exact k
 |_::_,_,_,_,⟨c,d,e,r,l⟩,k=>⟨c,d++_,by grind,r,l.append k⟩
theorem Bo.append:∀{i xs ys cs ds},Bo I i xs cs->Bo I (i+xs.length) ys ds->Bo I i (xs++ys) (cs++ds)
 |_,[],_,_,_,h,k=>by cases h;exact k
 |i,_::xs,_,_,ds,⟨c,d,e,r,l⟩,k=>by
  subst e;exact⟨c,d++ds,AQn ..,r,l.append (by grind)⟩
theorem CL.len{s:Nat}(h:∀x c,R x c->c.length=s):∀{xs cs},CL R xs cs->cs.length=xs.length*s
 |[],_,hc=>by cases hc;simp
 |_::xs,_,⟨c,d,e,r,l⟩=>by
  have h1:=h _ _ r;have h2:=l.len h
  grind
theorem Bo.len{s:Nat}(h:∀i x c,I i x c->c.length=s){i xs cs}(l:Bo I i xs cs):cs.length=xs.length*s :=
 CL.len (R:=λx c=>∃i,I i x c) (λx c ⟨i,r⟩=>h i x c r) (l.toR λi _ _ r=>⟨i,r⟩)
theorem Bo.A2{s:Nat}(hs:∀i x c,I i x c->c.length=s):∀{j i xs cs},Bo I j xs cs->(hi:i<xs.length) ->
    ∃c0 c d,cs=c0++c++d/\c0.length=i*s/\I (j+i) xs[i] c/\Bo I j (xs.take i) c0/\Bo I (j+i+1) (xs.drop (i+1)) d
 |j,0,x::xs,_,⟨c,d,e,r,l⟩,_=>⟨[],c,d,e,by simp,r,rfl,l⟩
 |j,i+1,x::xs,_,⟨c,d,e,r,l⟩,hi=>by
  obtain⟨c0,c1,d1,e1,hl,hr,ht,hd⟩:=l.A2 hs (i:=i) (by grind);refine⟨c++c0,c1,d1,by grind,?_,?_,⟨c,c0,rfl,r,?_⟩,?_⟩
  ·grind
  ·grind
  ·grind
  grind
theorem Bo.join:∀{j i:Nat} {xs:ATU α} {c0 c d:ATU Value} {x:α},i<xs.length->Bo I j (xs.take i) c0->I (j+i) x c->Bo I (j+i+1) (xs.drop (i+1)) d->Bo I j (xs.set i x) (c0++c++d)
 |j,0,_::xs,c0,c,d,x,_,ht,hr,hd=>by cases ht;exact⟨c,d,rfl,hr,hd⟩
 |j,i+1,y::xs,_,c,d,x,hi,⟨c1,c2,e,r,l⟩,hr,hd=>by
  subst e;refine⟨c1,c2++c++d,by grind,r,?_⟩;exact Bo.join (by grind) l (by grind) (by grind)
theorem IV:∀{j xs cs},CL R xs cs↔Bo (λ_=>R) j xs cs
 |_,[],_=>Iff.rfl
 |_,_::_,_=>⟨λ⟨c,d,e,r,l⟩=>⟨c,d,e,r,IV.1 l⟩,λ⟨c,d,e,r,l⟩=>⟨c,d,e,r,IV.2 l⟩⟩
theorem CL.A2{s:Nat}(hs:∀x c,R x c->c.length=s){i xs cs}(l:CL R xs cs)(hi:i<xs.length) :
    ∃c0 c d,cs=c0++c++d/\c0.length=i*s/\R xs[i] c/\CL R (xs.take i) c0/\CL R (xs.drop (i+1)) d:=by
 obtain⟨c0,c,d,e,hl,hr,ht,hd⟩:=Bo.A2  (λ_ x c=>hs x c) (IV (j:=0).1 l) hi;exact⟨c0,c,d,e,hl,hr,IV.2 ht,IV.2 hd⟩
theorem CL.join{i:Nat}{xs:ATU α}{c0 c d:ATU Value}{x:α}(hi:i<xs.length)(ht:CL R (xs.take i) c0)(hr:R x c)(hd:CL R (xs.drop (i+1)) d):CL R (xs.set i x) (c0++c++d) :=
 IV (j:=0).2 (Bo.join hi (IV.1 ht) hr (IV.1 hd))
theorem Bo.takeN{s:Nat}(hs:∀i x c,I i x c->c.length=s):∀{j xs cs} (n:Nat),Bo I j xs cs->Bo I j (xs.take n) (cs.take (n*s))
 |_,[],_,n,h=>by cases h;simp[Bo]
 |_,_::_,_,0,_=>by simp[Bo]
 |j,x::xs,_,n+1,⟨c,d,e,r,l⟩=>by
  subst e;have hc:=hs _ _ _ r;refine⟨c,d.take _,?_,r,l.takeN hs n⟩;rw[List.take_append,hc,AQp (by grind),show(n+1)*s-s=n*s by grind]
theorem CL.takeN{s:Nat}(hs:∀x c,R x c->c.length=s){xs cs}(n:Nat)(l:CL R xs cs):CL R (xs.take n) (cs.take (n*s)) :=
 IV (j:=0).2 (Bo.takeN (λ_ x c=>hs x c) n (IV.1 l))
theorem CL.AgO{s:Nat}(hs:∀x c,R x c->c.length=s):∀{xs cs} (n:Nat),CL R xs cs->CL R (xs.drop n) (cs.drop (n*s))
 |[],_,n,h=>by cases h;simp[CL]
 |_::_,_,0,h=>by grind
 |x::xs,_,n+1,⟨c,d,e,r,l⟩=>by
  subst e;have hc:=hs _ _ r;have h1:List.drop ((n+1)*s) c=[]:=List.drop_of_length_le (by grind);rw[List.drop_append,hc,h1,show(n+1)*s-s=n*s by grind];exact l.AgO hs n
end
end Go.Va
namespace Go.Va
theorem Xw{w w':World}{b o:Nat}(h:w'.heap[b]?=w.heap[b]?):w'.cell? ⟨b,o,none⟩=w.cell? ⟨b,o,none⟩:=by simp[World.cell?,h]
theorem QW{w:World}{b o:Nat}{cs:Array Value}{e:TypeId}{fr:Nat×Nat}(h:w.heap[b]?=some (.cells cs e fr)):w.cell? ⟨b,o,none⟩=cs[o]?:=by simp[World.cell?,h]
theorem Ii.len{w:World}{A:Nat->Prop}:∀{t:Ty} {x:t.V} {cs:ATU Value},Ii w A t x cs->cs.length=t.size
 |.int _,_,_,h=>by cases h;rfl
 |.bool,_,_,h=>by cases h;rfl
 |.str,_,_,h=>by cases h;rfl
 |.unit,_,_,h=>by cases h;rfl
 |.AH _ _,_,_,⟨_,_,e,h1,h2⟩=>by subst e;rw[AQj,h1.len,h2.len];rfl
 |.sl _,_,_,⟨_,_,_,e,_⟩=>by subst e;rfl
 |.Sp _,_,_,h=>h.elim
theorem Kl.len{w:World}{own:Nat->VC}{k:Nat}:∀{t:Ty} {p:ATU Nat} {x:t.V} {cs:ATU Value},Kl w own k t p x cs->cs.length=t.size
 |.int _,_,_,_,h=>by cases h;rfl
 |.bool,_,_,_,h=>by cases h;rfl
 |.str,_,_,_,h=>by cases h;rfl
 |.unit,_,_,_,h=>by cases h;rfl
 |.AH _ _,_,_,_,⟨_,_,e,h1,h2⟩=>by subst e;rw[AQj,h1.len,h2.len];rfl
 |.sl _,_,_,_,⟨_,_,e,_⟩=>by subst e;rfl
 |.Sp _,_,_,_,h=>h.elim
theorem Ii.one{w:World}{A:Nat->Prop}:∀{t:Ty} {x:t.V} {cs:ATU Value},Ii w A t x cs->∀v∈cs,v.oneCell'=true
 |.int _,_,_,h,v,hv=>by cases h;simp at hv;subst hv;rfl
 |.bool,_,_,h,v,hv=>by cases h;simp at hv;subst hv;rfl
 |.str,_,_,h,v,hv=>by cases h;simp at hv;subst hv;rfl
 |.unit,_,_,h,v,hv=>by cases h;simp at hv
 |.AH _ _,_,_,⟨_,_,e,h1,h2⟩,v,hv=>by
  subst e;rcases List.mem_append.1 hv with hv |hv
  ·exact h1.one v hv
  ·exact h2.one v hv
 |.sl _,_,_,⟨_,_,_,e,_⟩,v,hv=>by subst e;simp at hv;subst hv;rfl
 |.Sp _,_,_,h,_,_=>h.elim
theorem Kl.one{w:World}{own:Nat->VC}{k:Nat}:∀{t:Ty} {p:ATU Nat} {x:t.V} {cs:ATU Value},Kl w own k t p x cs->∀v∈cs,v.oneCell'=true
 |.int _,_,_,_,h,v,hv=>by cases h;simp at hv;subst hv;rfl
 |.bool,_,_,_,h,v,hv=>by cases h;simp at hv;subst hv;rfl
 |.str,_,_,_,h,v,hv=>by cases h;simp at hv;subst hv;rfl
 |.unit,_,_,_,h,v,hv=>by cases h;simp at hv
 |.AH _ _,_,_,_,⟨_,_,e,h1,h2⟩,v,hv=>by
  subst e;rcases List.mem_append.1 hv with hv |hv
  ·exact h1.one v hv
  ·exact h2.one v hv
 |.sl _,_,_,_,⟨_,_,e,_⟩,v,hv=>by subst e;simp at hv;subst hv;rfl
 |.Sp _,_,_,_,h,_,_=>h.elim
theorem CL.all{α:Type}{R:α->ATU Value->Prop}{P:Value->Prop}(h:∀x c,R x c->∀v∈c,P v):∀{xs cs},CL R xs cs->∀v∈cs,P v
 |[],_,hc,v,hv=>by cases hc;simp at hv
 |_::_,_,⟨c,d,e,r,l⟩,v,hv=>by
  subst e;rcases List.mem_append.1 hv with hv |hv
  ·grind
  ·exact l.all h v hv
theorem Bo.all{α:Type}{I:Nat->α->ATU Value->Prop}{P:Value->Prop}(h:∀i x c,I i x c->∀v∈c,P v){i xs cs}(l:Bo I i xs cs):∀v∈cs,P v :=
 CL.all (R:=λx c=>∃i,I i x c) (λx c ⟨i,r⟩=>h i x c r) (l.toR λi _ _ r=>⟨i,r⟩)
theorem Ii.mono{w w':World}{A A':Nat->Prop}(h:∀b,A b->A' b/\w'.heap[b]?=w.heap[b]?):∀{t:Ty} {x:t.V} {cs:ATU Value},Ii w A t x cs->Ii w' A' t x cs
 |.int _,_,_,r=>r
 |.bool,_,_,r=>r
 |.str,_,_,r=>r
 |.unit,_,_,r=>r
 |.AH _ _,_,_,⟨c,d,e,h1,h2⟩=>⟨c,d,e,h1.mono h,h2.mono h⟩
 |.sl _,_,_,⟨ad,cap,ds,e,hl,l,hm⟩=>⟨ad,cap,ds,e,hl,l.mono λ_ _ r=>r.mono h,hm.imp id λ⟨b,off,ha,hA,hc⟩ =>
     ⟨b,off,ha,(h b hA).1,λj u hu=>(Xw (h b hA).2).trans (hc j u hu)⟩⟩
 |.Sp _,_,_,r=>r
theorem Kl.mono{w w':World}{own OX:Nat->VC}{k k':Nat}:∀{t:Ty} {p p':ATU Nat} {x:t.V} {cs:ATU Value},
    (∀b q,own b=.BQ k (q++p)->OX b=.BQ k' (q++p')/\w'.heap[b]?=w.heap[b]?)->Kl w own k t p x cs->Kl w' OX k' t p' x cs
 |.int _,_,_,_,_,_,r=>r
 |.bool,_,_,_,_,_,r=>r
 |.str,_,_,_,_,_,r=>r
 |.unit,_,_,_,_,_,r=>r
 |.AH _ _,p,p',_,_,h,⟨c,d,e,h1,h2⟩=>⟨c,d,e,
     h1.mono (λb q hb=>by have:=h b (q++[0]) (by grind);simpa using this),
     h2.mono (λb q hb=>by have:=h b (q++[1]) (by grind);simpa using this)⟩
 |.sl _,p,p',_,_,h,⟨ad,cap,e,hm⟩=>⟨ad,cap,e,hm.imp id λ⟨b,el,BA,ds,ha,hb,hh,h1,h2,h3,h4,l⟩ =>
     ⟨b,el,BA,ds,ha,(h b [] hb).1,(h b [] hb).2.trans hh,h1,h2,h3,h4,l.mono λi x c r=>r.mono (λb q hb=>by have:=h b (q++[i]) (by grind);simpa using this)⟩⟩
 |.Sp _,_,_,_,_,_,r=>r
theorem Xp.on{w w':World}{own OX:Nat->VC}{k k':Nat}{md md':RM}{kt vt:Ty}{st:ATV kt.V}(h:∀(i:Nat) (x:vt.V) (cs:ATU Value),UW w own k md vt i x cs->UW w' OX k' md' vt i x cs):∀{i:Nat} {es:ATU (kt.V×vt.V)} {ms:ATU MapEntry},Xp w own k md kt vt st i es ms->Xp w' OX k' md' kt vt st i es ms
 |_,[],_,r=>r
 |i,x::xs,_,⟨m,r,e,hk,hv,hr⟩=>⟨m,r,e,hk,hv.imp id λ⟨cs,ho,ha⟩=>⟨cs,h i x.2 cs ho,ha⟩,hr.on h⟩
theorem Kl.rd{w:World}{own:Nat->VC}{k:Nat}{A:Nat->Prop}(h:∀b q,own b=.BQ k q->A b):∀{t:Ty} {p:ATU Nat} {x:t.V} {cs:ATU Value},Kl w own k t p x cs->Ii w A t x cs
 |.int _,_,_,_,r=>r
 |.bool,_,_,_,r=>r
 |.str,_,_,_,r=>r
 |.unit,_,_,_,r=>r
 |.AH _ _,_,_,_,⟨c,d,e,h1,h2⟩=>⟨c,d,e,h1.rd h,h2.rd h⟩
 |.sl t,_,xs,_,⟨ad,cap,e,hm⟩=>by
  rcases hm with ⟨hx,hc⟩|⟨b,el,BA,ds,ha,hb,hh,h1,h2,h3,h4,l⟩
  ·subst hx;exact⟨ad,cap,[],e,AQ1 _,rfl,.inl rfl⟩
  ·refine⟨ad,cap,ds,e,h1,l.toR λi x c r=>r.rd h,.inr ⟨b,0,ha,h b _ hb,λj u hu=>?_⟩⟩;rw[QW hh,AQL,<-AQt]
   grind
 |.Sp _,_,_,_,r=>r
def Lj:(t:Ty)->t.V->ATU Value
 |.int k,x=>[.int k x]
 |.bool,b=>[.bool b]
 |.str,s=>[.string s]
 |.unit,_=>[]
 |.AH a b,x=>Lj a x.1++Lj b x.2
 |.sl _,_=>[]
 |.Sp _,_=>[]
theorem Ii.BU{w:World}{A:Nat->Prop}:∀{t:Ty} {x:t.V} {cs:ATU Value},t.BU=true->(Ii w A t x cs↔cs=Lj t x)
 |.int _,_,_,_=>Iff.rfl
 |.bool,_,_,_=>Iff.rfl
 |.str,_,_,_=>Iff.rfl
 |.unit,_,_,_=>Iff.rfl
 |.AH a b,x,cs,h=>by
  simp only[Ty.BU,AQm]at h;constructor
  ·rintro⟨c,d,e,h1,h2⟩
   rw[e,(Ii.BU h.1).1 h1,(Ii.BU h.2).1 h2];rfl
  ·intro e;exact⟨_,_,e,(Ii.BU h.1).2 rfl,(Ii.BU h.2).2 rfl⟩
 |.sl _,_,_,h=>by simp[Ty.BU]at h
 |.Sp _,_,_,h=>by simp[Ty.BU]at h
theorem Kl.BU{w:World}{own:Nat->VC}{k:Nat}:∀{t:Ty} {p:ATU Nat} {x:t.V} {cs:ATU Value},t.BU=true->(Kl w own k t p x cs↔cs=Lj t x)
 |.int _,_,_,_,_=>Iff.rfl
 |.bool,_,_,_,_=>Iff.rfl
 |.str,_,_,_,_=>Iff.rfl
 |.unit,_,_,_,_=>Iff.rfl
 |.AH a b,p,x,cs,h=>by
  simp only[Ty.BU,AQm]at h;constructor
  ·rintro⟨c,d,e,h1,h2⟩
   rw[e,(Kl.BU h.1).1 h1,(Kl.BU h.2).1 h2];rfl
  ·intro e;exact⟨_,_,e,(Kl.BU h.1).2 rfl,(Kl.BU h.2).2 rfl⟩
 |.sl _,_,_,_,h=>by simp[Ty.BU]at h
 |.Sp _,_,_,_,h=>by simp[Ty.BU]at h
def Se:Ty->ATU Value
 |.int k=>[.int k 0]
 |.bool=>[.bool false]
 |.str=>[.string ⟨#[]⟩]
 |.unit=>[]
 |.AH a b=>Se a++Se b
 |.sl _=>[.slice none 0 0]
 |.Sp 0=>[.pointer none]
 |.Sp 1=>[.map none]
 |.Sp _=>[.nilFunc]
theorem Ti:∀t:Ty,(Se t).length=t.size
 |.int _=>rfl
 |.bool=>rfl
 |.str=>rfl
 |.unit=>rfl
 |.AH a b=>by simp[Se,Ti a,Ti b,Ty.size]
 |.sl _=>rfl
 |.Sp 0=>rfl
 |.Sp 1=>rfl
 |.Sp (_+2)=>rfl
theorem Kl.zero{w:World}{own:Nat->VC}{k:Nat}:∀{t:Ty} {p:ATU Nat},t.data=true->Kl w own k t p t.zero (Se t)
 |.int _,_,_=>rfl
 |.bool,_,_=>rfl
 |.str,_,_=>rfl
 |.unit,_,_=>rfl
 |.AH a b,p,h=>by
  simp only[Ty.data,AQm]at h;exact⟨_,_,rfl,Kl.zero h.1,Kl.zero h.2⟩
 |.sl t,p,_=>⟨none,0,rfl,.inl ⟨rfl,rfl⟩⟩
 |.Sp _,_,h=>by simp[Ty.data]at h
theorem Ii.zero{w:World}{A:Nat->Prop}:∀{t:Ty},t.data=true->Ii w A t t.zero (Se t)
 |.int _,_=>rfl
 |.bool,_=>rfl
 |.str,_=>rfl
 |.unit,_=>rfl
 |.AH a b,h=>by
  simp only[Ty.data,AQm]at h;exact⟨_,_,rfl,Ii.zero h.1,Ii.zero h.2⟩
 |.sl t,_=>⟨none,0,[],rfl,AQl _,rfl,.inl rfl⟩
 |.Sp _,h=>by simp[Ty.data]at h
theorem Al.mono{own:Nat->VC}{ks Vb:ATU Nat}(h:∀k∈ks,k∈Vb){b:Nat}(a:Al own ks b):Al own Vb b:=a.imp id λ⟨k,hk,p,hp⟩=>⟨k,h k hk,p,hp⟩
theorem Al.step{BF:ATU Nat}{n:Nat}{w w':World}{g g':G}(s:Step BF n w g w' g'){ks:ATU Nat}(hn:∀k∈ks,k<n)(hm:∀k∈ks,k∉BF){b:Nat}(a:Al g.own ks b) :
    Al g'.own ks b/\w'.heap[b]?=w.heap[b]?:=by
 rcases a with a |⟨k,hk,p,hp⟩
 ·exact⟨.inl (s.Jl b a).1,(s.Jl b a).2⟩
 ·have:=s.BQ b k p hp (hn k hk) (hm k hk);exact⟨.inr ⟨k,hk,p,this.1⟩,this.2⟩
theorem Step.refl(BF:ATU Nat)(n:Nat)(w:World)(g:G):Step BF n w g w g :=
 ⟨rfl,rfl,rfl,AQl _,λ_ _ h=>⟨h,rfl⟩,λ_ h=>⟨h,rfl⟩,λ_ _ _ h _ _=>⟨h,rfl⟩,λ_ _=>rfl⟩
theorem Step.trans{m1 m2:ATU Nat}{n n':Nat}{w w1 w2:World}{g g1 g2:G}(s:Step m1 n w g w1 g1)(t:Step m2 n' w1 g1 w2 g2)(hn:n<=n'):Step (m1++m2) n w g w2 g2 where
 os:=t.os.trans s.os
 tape:=t.tape.trans s.tape
 output:=t.output.trans s.output
 size:=AQJ s.size t.size
 no b hb h:=by
  have h1:=s.no b hb h;have h2:=t.no b (AQR hb s.size) h1.1;exact⟨h2.1,h2.2.trans h1.2⟩
 Jl b h:=by
  have h1:=s.Jl b h;have h2:=t.Jl b h1.1;exact⟨h2.1,h2.2.trans h1.2⟩
 BQ b k p h hk hm:=by
  have h1:=s.BQ b k p h hk (λe=>hm (AQN _ e));have h2:=t.BQ b k p h1.1 (AQR hk hn) (λe=>hm (AQO _ e));exact⟨h2.1,h2.2.trans h1.2⟩
 A2 k hk:=(t.A2 k (AQR hk hn)).trans (s.A2 k hk)
theorem Step.weaken{m1 m2:ATU Nat}{n n':Nat}{w w':World}{g g':G}(s:Step m1 n w g w' g')(hm:∀k∈m1,k∈m2)(hn:n'<=n):Step m2 n' w g w' g' :=
 ⟨s.os,s.tape,s.output,s.size,s.no,s.Jl,λb k p h hk X0=>s.BQ b k p h (AQR hk hn) (λe=>X0 (hm k e)),λk hk=>s.A2 k (AQR hk hn)⟩
theorem Step.drew(BF:ATU Nat)(n:Nat)(w:World)(g:G):Step BF n w g w.drew g :=
 ⟨rfl,rfl,rfl,AQl _,λ_ _ h=>⟨h,rfl⟩,λ_ h=>⟨h,rfl⟩,λ_ _ _ h _ _=>⟨h,rfl⟩,λ_ _=>rfl⟩
theorem kE(YG:Nat->Bool)(a:AV):(a.drop YG).OV=true\/(a.drop YG).isAgg=a.isAgg:=by
 cases a with
 |AB ks t x=>simp only[AV.drop];split;exact .inl rfl;exact .inr rfl
 |FZ ks t x=>simp only[AV.drop];split;exact .inl rfl;exact .inr rfl
 |Vh k i p o e=>simp only[AV.drop];split;exact .inl rfl;exact .inr rfl
 |Xc k i p o j u=>simp only[AV.drop];split;exact .inl rfl;exact .inr rfl
 |_=>exact .inr rfl
theorem Aa8(YG:Nat->Bool)(a:AV)(h:a.OV=true):(a.drop YG).OV=true:=by
 cases a<;>simp_all [AV.OV,AV.drop]
theorem CK.step{BF:ATU Nat}{n n':Nat}{w w':World}{g g':G}(s:Step BF n w g w' g')(hn:n<=n'):∀(a:AV) (m:Bool) {cs:ATU Value},CK w g n m a cs->CK w' g' n' m (a.drop λk=>BF.contains k) cs
 |.AB ks t x,false,cs,⟨hk,r⟩=>by
  simp only[AV.drop];split
  ·exact⟨r.len,r.one⟩
  ·rename_i hb;have hm:∀k∈ks,k∉BF:=λk hk hc=>hb (List.any_eq_true.2 ⟨k,hk,by grind⟩);exact⟨λk h=>AQR (hk k h) hn,r.mono λb a=>a.step s hk hm⟩
 |.zs,false,_,h=>h
 |.AG k,false,_,⟨hk,e⟩=>⟨AQR hk hn,by rw[s.A2 k hk];exact e⟩
 |.mp k,false,_,⟨hk,b,hb,e⟩=>⟨AQR hk hn,b,by rw[s.A2 k hk];exact hb,e⟩
 |.ptr k i p o,false,_,⟨hk,h0,h1,b,hb,e⟩=>⟨AQR hk hn,h0,by rw[s.A2 k hk];exact h1,b,by rw[s.A2 k hk];exact hb,by rw[s.A2 k hk];exact e⟩
 |.FZ ks t x,false,cs,⟨hk,b,off,ds,e,ha,r,hc⟩=>by
  simp only[AV.drop];split
  ·subst e;exact⟨rfl,by intro v hv;simp at hv;subst hv;rfl⟩
  ·rename_i hb;have hm:∀k∈ks,k∉BF:=λk hk hc=>hb (List.any_eq_true.2 ⟨k,hk,by grind⟩);exact⟨λk h=>AQR (hk k h) hn,b,off,ds,e,(ha.step s hk hm).1,r.mono λb a=>a.step s hk hm,λj u hu=>(Xw (ha.step s hk hm).2).trans (hc j u hu)⟩
 |.KQ,false,_,h=>h
 |.pr a b,false,_,⟨c,d,e,h1,h2⟩=>⟨c,d,e,CK.step s hn a _ h1,CK.step s hn b _ h2⟩
 |.fn f c,false,_,⟨vs,e,h⟩=>⟨vs,e,CK.step s hn c true h⟩
 |.un k,false,_,h=>h
 |.cons a b,true,_,⟨v,r,e,h1,h2⟩=>by
  refine⟨v,r,e,?_,CK.step s hn b true h2⟩;rcases kE (λk=>BF.contains k) a with hd |hd
  ·grind
  ·exact h1.imp (Aa8 _ a) λ⟨cs,h,hv⟩=>⟨cs,CK.step s hn a _ h,by grind⟩
 |.nil,true,_,h=>h
 |.cons _ _,false,_,h=>h.elim
 |.nil,false,_,h=>h.elim
 |.Vh k i p o e,false,_,⟨hk,h0,h1,b,v,ha,ho,e1,e2,hc⟩=>by
  simp only[AV.drop];split
  ·subst e1;exact⟨rfl,by grind⟩
  ·rename_i hb;have hl:=s.BQ b k [] ho hk (by grind);exact⟨AQR hk hn,h0,by rw[s.A2 k hk];exact h1,b,v,by rw[s.A2 k hk];exact ha,hl.1,e1,e2,by rw[s.A2 k hk];exact(Xw hl.2).trans hc⟩
 |.Vh _ _ _ _ _,true,_,h=>h.elim
 |.Xc k i p o j u,false,_,⟨hk,h0,h1,b,b',l,c,ha,ho,e1,e2,hc⟩=>by
  simp only[AV.drop];split
  ·subst e1;exact⟨rfl,by intro u hu;simp at hu;subst hu;rfl⟩
  ·rename_i hb;have hl:=s.BQ b k [] ho hk (by grind);exact⟨AQR hk hn,h0,by rw[s.A2 k hk];exact h1,b,b',l,c,by rw[s.A2 k hk];exact ha,hl.1,e1,e2,by rw[s.A2 k hk];exact(Xw hl.2).trans hc⟩
 |.Xc _ _ _ _ _ _,true,_,h=>h.elim
 |.AB _ _ _,true,_,h=>h.elim
 |.zs,true,_,h=>h.elim
 |.AG _,true,_,h=>h.elim
 |.mp _,true,_,h=>h.elim
 |.ptr _ _ _ _,true,_,h=>h.elim
 |.FZ _ _ _,true,_,h=>h.elim
 |.KQ,true,_,h=>h.elim
 |.pr _ _,true,_,h=>h.elim
 |.fn _ _,true,_,h=>h.elim
 |.un _,true,_,h=>h.elim
theorem B6.iff{w:World}{g:G}{n:Nat}{a:AV}{v:Value}(h:a.Dp=false):B6 w g n a v↔(a.OV=true\/∃cs,CK w g n false a cs/\Cm a.isAgg cs v):=by
 cases a<;>first |exact Iff.rfl |cases h
theorem AgP(YG:Nat->Bool)(a:AV):(a.drop YG).Dp=a.Dp:=by
 cases a with
 |AB ks t x=>simp only[AV.drop];split<;>rfl
 |FZ ks t x=>simp only[AV.drop];split<;>rfl
 |Vh k i p o e=>simp only[AV.drop];split<;>rfl
 |Xc k i p o j u=>simp only[AV.drop];split<;>rfl
 |_=>rfl
theorem B6.step{BF:ATU Nat}{n n':Nat}{w w':World}{g g':G}(s:Step BF n w g w' g')(hn:n<=n'){a:AV}{v:Value}(h:B6 w g n a v):B6 w' g' n' (a.drop λk=>BF.contains k) v:=by
 cases ht:a.Dp with
 |false =>
  rw[B6.iff ht]at h;rw[B6.iff (by rw[AgP];exact ht)];rcases kE (λk=>BF.contains k) a with hd |hd
  ·grind
  ·exact h.imp (Aa8 _ a) λ⟨cs,h,hv⟩=>⟨cs,CK.step s hn a _ h,by grind⟩
 |true =>
  cases a with
  |cons a b=>obtain⟨vs,e,h⟩:=h;exact⟨vs,e,CK.step s hn _ true h⟩
  |nil=>exact h
  |_=>cases ht
theorem dx(a:AV):(a.drop λ_=>false)=a:=by
 induction a with
 |AB ks t x=>simp[AV.drop]
 |FZ ks t x=>simp[AV.drop]
 |Vh k i p o e=>simp[AV.drop]
 |Xc k i p o j u=>simp[AV.drop]
 |pr a b ha hb=>simp[AV.drop,ha,hb]
 |fn f c h=>simp[AV.drop,h]
 |cons a b ha hb=>simp[AV.drop,ha,hb]
 |_=>rfl
theorem B6.Sb{n n':Nat}{w w':World}{g g':G}(s:Step [] n w g w' g')(hn:n<=n'){a:AV}{v:Value}(h:B6 w g n a v):B6 w' g' n' a v:=by
 have:=h.step s hn;rwa [show(λk=>[].contains k)=λ_=>false from funext λ_=>rfl,dx]at this
theorem CK.Sb{n n':Nat}{w w':World}{g g':G}(s:Step [] n w g w' g')(hn:n<=n'){a:AV}{m:Bool}{cs:ATU Value}(h:CK w g n m a cs):CK w' g' n' m a cs:=by
 have:=CK.step s hn a m h;rwa [show(λk=>[].contains k)=λ_=>false from funext λ_=>rfl,dx]at this
theorem CK.len{w:World}{g:G}{n:Nat}:∀{a:AV} {cs:ATU Value},CK w g n false a cs->cs.length=a.size
 |.AB _ _ _,_,h=>h.2.len
 |.zs,_,⟨_,e⟩=>by subst e;rfl
 |.AG _,_,⟨_,e⟩=>by subst e;rfl
 |.mp _,_,⟨_,_,_,e⟩=>by subst e;rfl
 |.ptr _ _ _ _,_,⟨_,_,_,_,_,e⟩=>by subst e;rfl
 |.FZ _ _ _,_,⟨_,_,_,_,e,_⟩=>by subst e;rfl
 |.KQ,_,h=>by cases h;rfl
 |.pr a b,_,⟨_,_,e,h1,h2⟩=>by subst e;rw[AQj,CK.len h1,CK.len h2];rfl
 |.fn _ _,_,⟨_,e,_⟩=>by subst e;rfl
 |.un _,_,h=>h.1
 |.cons _ _,_,h=>h.elim
 |.nil,_,h=>h.elim
 |.Vh _ _ _ _ _,_,⟨_,_,_,_,_,_,_,e,_⟩=>by subst e;rfl
 |.Xc _ _ _ _ _ _,_,⟨_,_,_,_,_,_,_,_,_,e,_⟩=>by subst e;rfl
theorem CK.one{w:World}{g:G}{n:Nat}:∀{a:AV} {cs:ATU Value},CK w g n false a cs->∀v∈cs,v.oneCell'=true
 |.AB _ _ _,_,h=>h.2.one
 |.zs,_,⟨_,e⟩=>by subst e;intro v hv;simp at hv;subst hv;rfl
 |.AG _,_,⟨_,e⟩=>by subst e;intro v hv;simp at hv;subst hv;rfl
 |.mp _,_,⟨_,_,_,e⟩=>by subst e;intro v hv;simp at hv;subst hv;rfl
 |.ptr _ _ _ _,_,⟨_,_,_,_,_,e⟩=>by subst e;intro v hv;simp at hv;subst hv;rfl
 |.FZ _ _ _,_,⟨_,_,_,_,e,_⟩=>by subst e;intro v hv;simp at hv;subst hv;rfl
 |.KQ,_,h=>by cases h;intro v hv;simp at hv;subst hv;rfl
 |.pr a b,_,⟨_,_,e,h1,h2⟩=>by
  subst e;intro v hv;rcases List.mem_append.1 hv with hv |hv
  ·exact CK.one h1 v hv
  ·exact CK.one h2 v hv
 |.fn _ _,_,⟨_,e,_⟩=>by subst e;intro v hv;simp at hv;subst hv;rfl
 |.un _,_,h=>h.2
 |.cons _ _,_,h=>h.elim
 |.nil,_,h=>h.elim
 |.Vh _ _ _ _ _,_,⟨_,_,_,_,_,_,_,e,h1,_⟩=>by grind
 |.Xc _ _ _ _ _ _,_,⟨_,_,_,_,_,_,_,_,_,e,_⟩=>by subst e;intro u hu;simp at hu;subst hu;rfl
theorem CK.scope{w:World}{g:G}{n:Nat}:∀{a:AV} {m:Bool} {cs:ATU Value},CK w g n m a cs->∀k∈a.iG,k<n
 |.AB _ _ _,false,_,h,k,hk=>h.1 k hk
 |.pr a b,false,_,⟨_,_,_,h1,h2⟩,k,hk=>by
  rcases List.mem_append.1 hk with hk |hk
  ·exact CK.scope h1 k hk
  ·exact CK.scope h2 k hk
 |.zs,_,_,_,_,hk=>by cases hk
 |.AG _,_,_,_,_,hk=>by cases hk
 |.mp _,_,_,_,_,hk=>by cases hk
 |.ptr _ _ _ _,_,_,_,_,hk=>by cases hk
 |.FZ _ _ _,_,_,_,_,hk=>by cases hk
 |.KQ,_,_,_,_,hk=>by cases hk
 |.fn _ _,_,_,_,_,hk=>by cases hk
 |.un _,_,_,_,_,hk=>by cases hk
 |.cons _ _,_,_,_,_,hk=>by cases hk
 |.nil,_,_,_,_,hk=>by cases hk
 |.Vh _ _ _ _ _,_,_,_,_,hk=>by cases hk
 |.Xc _ _ _ _ _ _,_,_,_,_,hk=>by cases hk
 |.AB _ _ _,true,_,h,_,_=>h.elim
 |.pr _ _,true,_,h,_,_=>h.elim
end Go.Va
namespace Go.Va
section
variable {w:World} {g:G} {n:Nat}
theorem Aoh{A A':Nat->Prop}{w:World}{t:Ty}{x:t.V}{cs:ATU Value}(h:Ii w A t x cs)(ha:t.BU=false->∀b,A b->A' b):Ii w A' t x cs:=by
 cases hf:t.BU with
 |true=>exact(Ii.BU hf).2 ((Ii.BU hf).1 h)
 |false=>exact h.mono λb a=>⟨ha hf b a,rfl⟩
theorem au{ks:ATU Nat}{t:Ty}(h:∀k∈ks,k<n):∀k∈ck ks t,k<n:=by
 unfold ck;split
 ·intro k hk;cases hk
 ·exact h
theorem aB{own:Nat->VC}{ks:ATU Nat}{w:World}{t:Ty}{x:t.V}{cs:ATU Value}(h:Ii w (Al own ks) t x cs):Ii w (Al own (ck ks t)) t x cs :=
 Aoh h λhf b a=>by unfold ck;rw[AQy (by simp[hf])];exact a
theorem ag{ks:ATU Nat}(hk:∀k∈ks,k<n):∀(f:Nat) (t:Ty) (x:t.V) (cs:ATU Value) (v:AV),Ii w (Al g.own ks) t x cs->Yb ks t x f=some v ->
    ∃c0 c1 c2,cs=c0++c1++c2/\V2 t f=some c0.length/\CK w g n false v c1/\(∃u y,v=.AB (ck ks u) u y/\Ii w (Al g.own ks) u y c1) /\
     ∀v' a' Um,wX ks t x f v'=some a'->CK w g n false v' Um->CK w g n false a' (c0++Um++c2)
 |0,.AH a b,x,cs,v,⟨c,d,e,h1,h2⟩,hv=>by
  simp only[Yb,AQh]at hv;subst hv;refine⟨[],c,d,by simpa using e,rfl,⟨au hk,aB h1⟩,⟨a,x.1,rfl,h1⟩,?_⟩;intro v' a' Um hs rU;simp only[wX,AQh]at hs;subst hs;exact⟨Um,d,rfl,rU,au hk,aB h2⟩
 |f+1,.AH a b,x,cs,v,⟨c,d,e,h1,h2⟩,hv=>by
  simp only[Yb]at hv;obtain⟨c0,c1,c2,e2,ho,hx,hu,hs⟩:=ag hk f b x.2 d v h2 hv;refine⟨c++c0,c1,c2,by rw[e,e2];simp only[AQn],?_,hx,hu,?_⟩
  ·simp only[V2,ho,AQj,h1.len]
  ·intro v' a' Um ff rU;simp only[wX]at ff;split at ff
   ·rename_i r hr;simp only[AQh]at ff;subst ff;exact⟨c,c0++Um++c2,by simp only[AQn],⟨au hk,aB h1⟩,hs _ _ _ hr rU⟩
   ·cases ff
 |f,.int _,_,_,_,_,hv=>by simp[Yb]at hv
 |f,.bool,_,_,_,_,hv=>by simp[Yb]at hv
 |f,.str,_,_,_,_,hv=>by simp[Yb]at hv
 |f,.unit,_,_,_,_,hv=>by simp[Yb]at hv
 |f,.sl _,_,_,_,_,hv=>by simp[Yb]at hv
 |f,.Sp _,_,_,_,_,hv=>by simp[Yb]at hv
theorem Zq:∀(a:AV) (f:Nat) (cs:ATU Value) (v:AV),CK w g n false a cs->a.b5 f=some v ->
    ∃c0 c1 c2,cs=c0++c1++c2/\a.off f=some c0.length/\CK w g n false v c1 /\
     ∀v' a' Um,a.UB f v'=some a'->CK w g n false v' Um->CK w g n false a' (c0++Um++c2)
 |.AB ks t x,f,cs,v,⟨hk,h⟩,hv=>by
  obtain⟨c0,c1,c2,e,ho,hx,_,hs⟩:=ag (g:=g) hk f t x cs v h (by simpa [AV.b5]using hv);exact⟨c0,c1,c2,e,by simpa [AV.off]using ho,hx,λv' a' Um h1 h2=>hs v' a' Um (by simpa [AV.UB]using h1) h2⟩
 |.pr a b,0,cs,v,⟨c,d,e,h1,h2⟩,hv=>by
  simp only[AV.b5,AQh]at hv;subst hv;refine⟨[],c,d,by simpa using e,rfl,h1,?_⟩;intro v' a' Um hs rU;simp only[AV.UB,AQh]at hs;subst hs;exact⟨Um,d,rfl,rU,h2⟩
 |.pr a b,f+1,cs,v,⟨c,d,e,h1,h2⟩,hv=>by
  simp only[AV.b5]at hv;obtain⟨c0,c1,c2,e2,ho,hx,hs⟩:=Zq b f d v h2 hv;refine⟨c++c0,c1,c2,by rw[e,e2];simp only[AQn],?_,hx,?_⟩
  ·simp only[AV.off,ho,AQj,h1.len]
  ·intro v' a' Um ff rU;simp only[AV.UB]at ff;split at ff
   ·rename_i r hr;simp only[AQh]at ff;subst ff;exact⟨c,c0++Um++c2,by simp only[AQn],h1,hs _ _ _ hr rU⟩
   ·cases ff
 |.zs,_,_,_,_,hv=>by simp[AV.b5]at hv
 |.AG _,_,_,_,_,hv=>by simp[AV.b5]at hv
 |.mp _,_,_,_,_,hv=>by simp[AV.b5]at hv
 |.ptr _ _ _ _,_,_,_,_,hv=>by simp[AV.b5]at hv
 |.FZ _ _ _,_,_,_,_,hv=>by simp[AV.b5]at hv
 |.KQ,_,_,_,_,hv=>by simp[AV.b5]at hv
 |.fn _ _,_,_,_,_,hv=>by simp[AV.b5]at hv
 |.un _,_,_,_,_,hv=>by simp[AV.b5]at hv
 |.cons _ _,_,_,_,h,_=>h.elim
 |.nil,_,_,_,h,_=>h.elim
 |.Vh _ _ _ _ _,_,_,_,_,hv=>by simp[AV.b5]at hv
 |.Xc _ _ _ _ _ _,_,_,_,_,hv=>by simp[AV.b5]at hv
theorem S0:∀(p:ATU Nat) (a:AV) (cs:ATU Value) (v:AV),CK w g n false a cs->a.W2 p=some v ->
    ∃c0 c1 c2,cs=c0++c1++c2/\a.Adw p=some c0.length/\CK w g n false v c1 /\
     ∀v' a' Um,a.cC p v'=some a'->CK w g n false v' Um->CK w g n false a' (c0++Um++c2)
 |[],a,cs,v,h,hv=>by
  simp only[AV.W2,AQh]at hv;subst hv;refine⟨[],cs,[],by simp,rfl,h,?_⟩;intro v' a' Um hs rU;simp only[AV.cC,AQh]at hs;subst hs;simpa using rU
 |f::p,a,cs,v,h,hv=>by
  simp only[AV.W2]at hv;split at hv
  ·rename_i b hb;obtain⟨c0,c1,c2,e,ho,hx,hs⟩:=Zq a f cs b h hb;obtain⟨d0,d1,d2,e2,x9,yd,ak⟩:=S0 p b c1 v hx hv;refine⟨c0++d0,d1,d2++c2,by rw[e,e2];simp only[AQn],?_,yd,?_⟩
   ·simp only[AV.Adw,hb,ho,x9,AQj]
   ·intro v' a' Um ff rU;simp only[AV.cC,hb]at ff;split at ff
    ·rename_i r hr;have:=hs _ _ _ ff (ak _ _ _ hr rU);simpa only[AQn]using this
    ·cases ff
  ·cases hv
end
theorem BO{t u:Ty}{x:t.V}{y:u.V}(h:JQ t u x=some y):∃e:t=u,e▸x=y:=by
 unfold JQ at h;split at h
 ·rename_i e;injection h with h;exact⟨e,h⟩
 ·cases h
def sj:Nat->ATU Nat->ATU Nat
 |0,L=>0::L
 |n+1,L=>sj n (1::L)
def VO:ATU Nat->ATU Nat->ATU Nat
 |[],L=>L
 |f::p,L=>VO p (sj f L)
structure Rel where
 E:(t:Ty)->List Nat->t.V->List Value->Prop
 AH:∀{a b:Ty} {L:List Nat} {x:(Ty.AH a b).V} {cs:List Value},E (.AH a b) L x cs↔∃c d,cs=c++d/\E a (0::L) x.1 c/\E b (1::L) x.2 d
 len:∀{t:Ty} {L:List Nat} {x:t.V} {cs:List Value},E t L x cs->cs.length=t.size
def AHh(w:World)(A:Nat->Prop):Rel:=⟨λt _ x cs=>Ii w A t x cs,Iff.rfl,Ii.len⟩
def Aog(w:World)(own:Nat->VC)(k:Nat):Rel:=⟨λt L x cs=>Kl w own k t L x cs,Iff.rfl,Kl.len⟩
section
variable (Q:Rel)
theorem pW(F:∀u:Ty,u.V->ATV u.V)(mT:Ty->Nat->Prop)(D:ATU Nat->ATU Value->Prop)(sz:Nat)
    (hF:∀(u:Ty) (L:ATU Nat) (x y:u.V) (cs:ATU Value) (o:Nat),F u x=some y->mT u o->Q.E u L x cs ->
     ∃c0 c1 c2,cs=c0++c1++c2/\c0.length=o/\c1.length=sz/\∀Um,D L Um->Q.E u L y (c0++Um++c2)) :
    ∀(f:Nat) (t:Ty) (L:ATU Nat) (x x':t.V) (cs:ATU Value) (u:Ty) (o o':Nat),S3 t x f F=some x'->mX t f=some u->V2 t f=some o->mT u o'->Q.E t L x cs ->
     ∃c0 c1 c2,cs=c0++c1++c2/\c0.length=o+o'/\c1.length=sz/\∀Um,D (sj f L) Um->Q.E t L x' (c0++Um++c2)
 |0,.AH a b,L,x,x',cs,u,o,o',hs,hu,ho,hc,h=>by
  obtain⟨c,d,e,h1,h2⟩:=Q.AH.1 h;simp only[mX,AQh]at hu;subst hu;simp only[V2,AQh]at ho;subst ho;simp only[S3]at hs;split at hs
  ·rename_i y hy;injection hs with hs;subst hs;obtain⟨c0,c1,c2,e2,hl,hz,hr⟩:=hF a _ x.1 y c o' hy hc h1;refine⟨c0,c1,c2++d,by rw[e,e2];simp only[AQn],by omega,hz,λUm h=>Q.AH.2 ⟨c0++Um++c2,d,by simp only[AQn],hr Um h,h2⟩⟩
  ·cases hs
 |f+1,.AH a b,L,x,x',cs,u,o,o',hs,hu,ho,hc,h=>by
  obtain⟨c,d,e,h1,h2⟩:=Q.AH.1 h;simp only[mX]at hu;simp only[V2]at ho;split at ho
  ·rename_i o2 x9;injection ho with ho;subst ho;simp only[S3]at hs;split at hs
   ·rename_i y hy;injection hs with hs;subst hs;obtain⟨c0,c1,c2,e2,hl,hz,hr⟩:=pW F mT D sz hF f b (1::L) x.2 y d u o2 o' hy hu x9 hc h2;refine⟨c++c0,c1,c2,by rw[e,e2];simp only[AQn],by rw[AQj,Q.len h1];omega,hz,λUm h=>Q.AH.2 ⟨c,c0++Um++c2,by simp only[AQn],h1,hr Um h⟩⟩
   ·cases hs
  ·cases ho
 |f,.int _,_,_,_,_,_,_,_,hs,_,_,_,_=>by simp[S3]at hs
 |f,.bool,_,_,_,_,_,_,_,hs,_,_,_,_=>by simp[S3]at hs
 |f,.str,_,_,_,_,_,_,_,hs,_,_,_,_=>by simp[S3]at hs
 |f,.unit,_,_,_,_,_,_,_,hs,_,_,_,_=>by simp[S3]at hs
 |f,.sl _,_,_,_,_,_,_,_,hs,_,_,_,_=>by simp[S3]at hs
 |f,.Sp _,_,_,_,_,_,_,_,hs,_,_,_,_=>by simp[S3]at hs
theorem aF(u:Ty)(y:u.V):∀(p:ATU Nat) (t:Ty) (L:ATU Nat) (x x':t.V) (cs:ATU Value) (o:Nat),T7 u y p t x=some x'->Mk t p=some o->Q.E t L x cs ->
    ∃c0 c1 c2,cs=c0++c1++c2/\c0.length=o/\c1.length=u.size/\∀Um,Q.E u (VO p L) y Um->Q.E t L x' (c0++Um++c2)
 |[],t,L,x,x',cs,o,hs,ho,h=>by
  simp only[Mk,AQh]at ho;subst ho;obtain⟨e,he⟩:=BO hs;subst e;simp only at he;subst he;exact⟨[],cs,[],by simp,rfl,Q.len h,λUm h'=>by simpa [VO]using h'⟩
 |f::p,t,L,x,x',cs,o,hs,ho,h=>by
  simp only[Mk]at ho;split at ho
  ·rename_i t1 o1 h1 h2;split at ho
   ·rename_i o2 h3;injection ho with ho;subst ho;exact pW Q (λt' x'=>T7 u y p t' x') (λv o=>Mk v p=some o) (λL Um=>Q.E u (VO p L) y Um) u.size
     (λv L x1 y1 cs1 o' Sx QS gQ=>aF u y p v L x1 y1 cs1 o' Sx QS gQ) f t L x x' cs t1 o1 o2 hs h1 h2 h3 h
   ·cases ho
  ·cases ho
end
theorem Al.mem{own:Nat->VC}{ks:ATU Nat}{k b:Nat}{p:ATU Nat}(hk:k∈ks)(h:own b=.BQ k p):Al own ks b:=.inr ⟨k,hk,p,h⟩
theorem Rx{w:World}{g:G}{bs:ATU Blk}(H:Bi w g bs):∀(t:Ty) (a:AV) (x:t.V) (cs:ATU Value),rd bs t a=some x->CK w g bs.length false a cs ->
    Ii w (Al g.own (a.VY bs)) t x cs/\∀k∈a.VY bs,k<bs.length:=by
 have plain:∀(t:Ty) (ks:ATU Nat) (u:Ty) (y:u.V) (x:t.V) (cs:ATU Value),JQ u t y=some x->CK w g bs.length false (.AB ks u y) cs->Ii w (Al g.own ks) t x cs/\∀k∈ks,k<bs.length:=by
  intro t ks u y x cs h hx;obtain⟨e,he⟩:=BO h;subst e;simp only at he;subst he;exact⟨hx.2,hx.1⟩
 intro t;induction t with
 |AH a b iha ihb =>
  intro av x cs h hx;simp only[rd]at h;split at h
  ·exact plain _ _ _ _ _ _ h hx
  ·rename_i u v;split at h
   ·rename_i y z hy hz;injection h with h;subst h;obtain⟨c,d,e,h1,h2⟩:=hx;have r1:=iha u y c hy h1;have r2:=ihb v z d hz h2;refine⟨⟨c,d,e,r1.1.mono λq hq=>⟨hq.mono λk hk=>AQN _ hk,rfl⟩,r2.1.mono λq hq=>⟨hq.mono λk hk=>AQO _ hk,rfl⟩⟩,?_⟩;intro k hk;rcases List.mem_append.1 hk with hk |hk
    ·exact r1.2 k hk
    ·exact r2.2 k hk
   ·cases h
  ·cases h
 |sl t _ =>
  intro av x cs h hx;simp only[rd]at h;split at h
  ·exact plain _ _ _ _ _ _ h hx
  ·injection h with h;subst h;obtain⟨ad,e⟩:=hx;exact⟨⟨ad,0,[],e,AQl _,rfl,.inl rfl⟩,λk hk=>by cases hk⟩
  ·rename_i k;split at h
   ·rename_i e m u ys hb;obtain⟨e',he⟩:=BO h;injection e' with e';subst e';simp only at he;subst he;obtain⟨hk,hc⟩:=hx;obtain⟨hm,hlen,QT,BX,hr⟩:=H.MR k _ hb;have Abu:(AV.AG k).VY bs=k::m.Ck:=by simp[AV.VY,eC,hb]
    rw[Abu];refine⟨?_,λj hj=>?_⟩
    ·rcases hr with ⟨hy,fL⟩|⟨b,BA,ds,ha,Cv,⟨el,_,hh⟩,h1,h2,h3,h4,Ku⟩
     ·subst hy;rw[hlen]at hc;exact⟨(g.A2 k).a,(g.A2 k).cap,[],hc,by simp,rfl,.inl rfl⟩
     ·rw[hlen]at hc;refine⟨(g.A2 k).a,(g.A2 k).cap,ds,hc,h1,?_,.inr ⟨b,0,ha,.mem (AQK) Cv,λj q hq=>?_⟩⟩
      ·cases m with
       |Aw=>exact Ku.toR λi y c r=>r.rd λb q hb=>.mem (AQK) hb
       |sh ks=>exact Ku.mono λy c r=>r.mono λb a=>⟨a.mono λj hj=>AQH _ hj,rfl⟩
      ·rw[QW hh,AQL,<-AQt];subst h4;rw[ARg]at hq;split at hq
       ·exact hq
       ·cases hq
    ·rcases List.mem_cons.1 hj with rfl |hj
     ·exact hk
     ·exact hm j hj
   ·cases h
  ·cases h
 |_ =>
  intro av x cs h hx;simp only[rd]at h;split at h
  ·exact plain _ _ _ _ _ _ h hx
  ·cases h
end Go.Va
namespace Go.Va
theorem ND.step{BF:ATU Nat}{n n':Nat}{w w':World}{g g':G}(s:Step BF n w g w' g')(hn:n<=n'){k:Nat}(hk:k<n)(hm:k∉BF){b:Blk}(h:ND w g n k b) :
    ND w' g' n' k (b.drop λj=>BF.contains j):=by
 cases b with
 |Bd=>trivial
 |map m kt vt es st =>
  obtain⟨Sl,b,Ht,DK,ha,ho,hh,Tn,kY⟩:=h;simp only[Blk.drop];split
  ·trivial
  ·rename_i hb;have hd:∀j∈m.Ck,j∉BF:=λj hj hc=>hb (List.any_eq_true.2 ⟨j,hj,by simpa using hc⟩);have hl:=s.BQ b k [] ho hk hm;refine⟨λj hj=>AQR (Sl j hj) hn,b,Ht,DK,by rw[s.A2 k hk];exact ha,hl.1,hl.2.trans hh,Tn,kY.on λi x cs r=>?_⟩;cases m with
   |Aw=>exact Kl.mono (λb q hb=>s.BQ b k _ hb hk hm) r
   |sh ks=>exact Ii.mono (λb a=>a.step s Sl hd) r
 |Sm e t xs i p =>
  obtain⟨h1,h2,h3,h4,h5,u,o,x0,b,BA,ds,q1,q2,q3,ha,ho,⟨el,Ws,hh⟩,c1,c2,c3,c4,hc⟩:=h;have hl:=s.BQ b k [] ho hk hm;refine⟨by rw[s.A2 k hk];exact h1,by rw[s.A2 k hk];exact h2,h3,h4,h5,u,o,x0,b,BA,ds,q1,q2,q3,?_⟩;rw[s.A2 k hk];exact⟨ha,hl.1,⟨el,Ws,hl.2.trans hh⟩,c1,c2,c3,c4,hc.mono λi x c r=>r.mono λb q hb=>s.BQ b k _ hb hk hm⟩
 |tail e t xs =>
  obtain⟨hf,hlen,QT,BX,hr⟩:=h;refine⟨hf,by rw[s.A2 k hk];exact hlen,by rw[s.A2 k hk];exact QT,BX,?_⟩;rw[s.A2 k hk];refine hr.imp id λ⟨b,o,BA,ds,ha,ho,⟨el,Ws,hh⟩,h1,h2,h3,h4,hc⟩=>?_;have hl:=s.BQ b k [] ho hk hm;exact⟨b,o,BA,ds,ha,hl.1,⟨el,Ws,hl.2.trans hh⟩,h1,h2,h3,h4,hc.mono λi x c r=>r.mono λb q hb=>s.BQ b k _ hb hk hm⟩
 |box a =>
  obtain⟨h1,b,cs,e,ha,ho,hh,hx⟩:=h;have hl:=s.BQ b k [] ho hk hm;refine⟨by rw[s.A2 k hk];exact h1,b,cs,e,by rw[s.A2 k hk];exact ha,hl.1,hl.2.trans hh,CK.step s hn a false hx⟩
 |row e m t xs =>
  obtain⟨Sl,hlen,QT,BX,hr⟩:=h;simp only[Blk.drop];split
  ·trivial
  ·rename_i hb;have hd:∀j∈m.Ck,j∉BF:=λj hj hc=>hb (List.any_eq_true.2 ⟨j,hj,by simpa using hc⟩);refine⟨λj hj=>AQR (Sl j hj) hn,by rw[s.A2 k hk];exact hlen,by rw[s.A2 k hk];exact QT,BX,?_⟩;rw[s.A2 k hk];refine hr.imp id λ⟨b,BA,ds,ha,ho,⟨el,Ws,hh⟩,h1,h2,h3,h4,hc⟩=>?_;have hl:=s.BQ b k [] ho hk hm;refine⟨b,BA,ds,ha,hl.1,⟨el,Ws,hl.2.trans hh⟩,h1,h2,h3,h4,?_⟩;cases m with
   |Aw=>exact hc.mono λi x c r=>r.mono λb q hb=>s.BQ b k _ hb hk hm
   |sh ks=>exact hc.mono λx c r=>r.mono λb a=>a.step s Sl hd
theorem dc(b:Blk):(b.drop λ_=>false)=b:=by
 cases b with
 |box a=>simp[Blk.drop,dx]
 |row e m t xs=>simp[Blk.drop]
 |map m kt vt es st=>simp[Blk.drop]
 |Sm e t xs i p=>rfl
 |tail e t xs=>rfl
 |Bd=>rfl
theorem ND.Sb{n n':Nat}{w w':World}{g g':G}(s:Step [] n w g w' g')(hn:n<=n'){k:Nat}(hk:k<n){b:Blk}(h:ND w g n k b):ND w' g' n' k b:=by
 have:=h.step s hn hk (by simp);rwa [show(λk=>([]:ATU Nat).contains k)=λ_=>false from funext λ_=>rfl,dc]at this
theorem A4{α:Type}{l:ATU α}{k:Nat}{x:α}(h:l[k]?=some x):k<l.length:=by
 rcases AQq k l.length with h' |h'
 ·exact h'
 ·rw[AQT h']at h;cases h
theorem Bi.Sb{w w':World}{g g':G}{bs:ATU Blk}(H:Bi w g bs)(s:Step [] bs.length w g w' g')(hf:∀b,w'.heap.size<=b->g'.own b=.no):Bi w' g' bs :=
 ⟨hf,λk x hx=>(H.MR k x hx).Sb s (AQl _) (A4 hx)⟩
theorem Bi.drew{w:World}{g:G}{bs:ATU Blk}(H:Bi w g bs):Bi w.drew g bs:=H.Sb (Step.drew _ _ _ _) H.B3
theorem Bi.push{w w':World}{g g':G}{bs:ATU Blk}(H:Bi w g bs)(s:Step [] bs.length w g w' g')(hf:∀b,w'.heap.size<=b->g'.own b=.no){b:Blk}(hb:ND w' g' (bs.length+1) bs.length b) :
    Bi w' g' (bs++[b]) :=
 ⟨hf,λk x hx=>by
  rw[AQj,AQz];rw[AQF]at hx;split at hx
  ·exact(H.MR k x hx).Sb s (AQQ _) (A4 hx)
  ·rename_i hk;have:k-bs.length=0:=by
    rcases AQD (k-bs.length)with h |h
    ·exact h
    ·rw[AQT (by simp;omega)]at hx;cases hx
   rw[this]at hx;obtain rfl:k=bs.length:=by omega
   simp only[List.getElem?_cons_zero,AQh]at hx;subst hx;exact hb⟩
def zeroV:Value->Value->Bool
 |.int k n,.int k' m=>k==k'&&n==m
 |.bool a,.bool b=>a==b
 |.string s,.string t=>s.data.toList==t.data.toList
 |.slice none 0 0,.slice none 0 0=>true
 |.pointer none,.pointer none=>true
 |.map none,.map none=>true
 |.nilFunc,.nilFunc=>true
 |_,_=>false
theorem AjA{a b:Value}(h:zeroV a b=true):a=b:=by
 unfold zeroV at h;split at h
 ·simp at h;rw[h.1,h.2]
 ·simp at h;rw[h]
 ·rename_i s t;simp at h;have:s.data=t.data:=by simpa using h
  cases s;cases t;simp at this;rw[this]
 ·rfl
 ·rfl
 ·rfl
 ·rfl
 ·cases h
def Ab4:ATU Value->ATU Value->Bool
 |[],[]=>true
 |a::r,b::s=>zeroV a b&&Ab4 r s
 |_,_=>false
theorem xD:∀{a b:ATU Value},Ab4 a b=true->a=b
 |[],[],_=>rfl
 |a::r,b::s,h=>by
  simp only[Ab4,AQm]at h;rw[AjA h.1,xD h.2]
 |[],_::_,h=>by cases h
 |_::_,[],h=>by cases h
def AkD:TypeDesc->Bool
 |.struct _=>true
 |.array _ _=>true
 |_=>false
def AEE(P:Program)(t:Nat)(u:Ty):Bool:=match P.underlying t with |some d=>AkD d==u.isAgg |none=>false
def Qh(P:Program)(ty:Ty):Nat->ATU Field->ATU Nat->Bool
 |_,[],[]=>true
 |i,f::fs,o::os=>f.offset==o&&V2 ty i==some o&&(match mX ty i with |some u=>(P.info? f.type).map (·.size)==some u.size&&u.size !=0&&AEE P f.type u |none=>false)&&Qh P ty (i+1) fs os
 |_,_,_=>false
def kindOk(P:Program)(ti:TI):TypeDesc->Bool
 |.int k=>ti.ty==.int k
 |.bool=>ti.ty==.bool
 |.string=>ti.ty==.str
 |.slice e=>ti.elem==e&&(match ti.ty with |.sl _=>true |_=>false)
 |.struct fs=>ti.ty.isAgg&&Qh P ti.ty 0 fs.toList ti.XQ
 |.array _ _=>ti.ty.isAgg
 |.pointer _=>(match ti.ty with |.Sp _=>true |_=>false)
 |.map _ _=>(match ti.ty with |.Sp _=>true |_=>false)
 |.func _ _ _=>(match ti.ty with |.Sp _=>true |_=>false)
 |_=>false
def Xz(P:Program):Ty->Nat->ATU Field->Bool
 |.unit,_,[]=>true
 |.AH a b,o,f::fs=>f.name !="_"&&f.offset==o&&(match a,P.underlying f.type with |.int k,some (.int k')=>k==k' |.bool,some .bool=>true |.str,some .string=>true |_,_=>false)&&Xz P b (o+1) fs
 |_,_,_=>false
def AgV(P:Program)(t:Nat)(ty:Ty):Bool:=match P.underlying t with
 |some (.struct fs)=>!P.stoodInHeld t&&!P.eqGuardType P.depth t&&Xz P ty 0 fs.toList
 |_=>false
def AwO(P:Program)(t:Nat)(ti:TI):Bool :=
 (match P.info? t with
  |some i=>i.size==ti.ty.size&&i.bytes==ti.bytes&&(match i.zero with |some z=>Ab4 z.cells.toList (Se ti.ty)&&(match z with |.agg _=>ti.ty.isAgg |_=>!ti.ty.isAgg)|none=>false)
  |none=>false) &&
 (match P.underlying t with |some d=>kindOk P ti d&&(match d with |.struct _=>true |_=>ti.XQ.isEmpty)&&(match d with |.array n e=>ti.Ht==n&&ti.elem==e |_=>ti.Ht==0)&&(match d with |.map k e=>ti.Pn==k&&ti.elem==e |_=>ti.Pn==0)&&(!ti.eqs||AgV P t ti.ty)|none=>false)
def ix(P:Program):Tab->Bool
 |[]=>true
 |(t,ti)::r=>AwO P t ti&&ix P r
theorem AbU{P:Program}:∀{Eb:Tab} {t:Nat} {ti:TI},ix P Eb=true->Eb.get t=some ti->AwO P t ti=true
 |[],_,_,_,h=>by cases h
 |(k,i)::r,t,ti,ho,h=>by
  simp only[ix,AQm]at ho;simp only[Tab.get]at h;split at h
  ·rename_i hk;injection h with h;subst h;rw[ARm]at hk;subst hk;exact ho.1
  ·exact AbU ho.2 h
structure Fy (P:Program) (t:Nat) (ti:TI):Prop where
 info:∃i z,P.info? t=some i/\i.size=ti.ty.size/\i.bytes=ti.bytes/\i.zero=some z/\z.cells.toList=Se ti.ty/\((∃c,z=.agg c)↔ti.ty.isAgg=true)
 iy:∃d,P.underlying t=some d/\kindOk P ti d=true
 XQ:(∃fs,P.underlying t=some (.struct fs))\/ti.XQ=[]
 Ht:ti.Ht≠0->P.underlying t=some (.array ti.Ht ti.elem)
 eqs:ti.eqs=true->AgV P t ti.ty=true
 mp:ti.Pn≠0->P.underlying t=some (.map ti.Pn ti.elem)
theorem Fy.of{P:Program}{Eb:Tab}{t:Nat}{ti:TI}(ho:ix P Eb=true)(h:Eb.get t=some ti):Fy P t ti:=by
 have h1:=AbU ho h;unfold AwO at h1;rw[AQm]at h1;obtain⟨h1,h2⟩:=h1;constructor
 ·split at h1
  ·rename_i i hi;simp only[AQm,ARm]at h1;obtain⟨⟨h3,h4⟩,h5⟩:=h1;split at h5
   ·rename_i z hz;rw[AQm]at h5;refine⟨i,z,hi,h3,h4,hz,xD h5.1,?_⟩;have h6:=h5.2;split at h6
    ·rename_i c;simp[h6]
    ·rename_i hz';simp at h6;exact⟨λ⟨c,hc⟩=>(hz' c hc).elim,λh=>by simp[h6]at h⟩
   ·cases h5
  ·cases h1
 ·split at h2
  ·rename_i d hd;simp only[AQm]at h2;exact⟨d,hd,h2.1.1.1.1⟩
  ·cases h2
 ·split at h2
  ·rename_i d hd;simp only[AQm]at h2;have h3:=h2.1.1.1.2;split at h3
   ·rename_i fs;exact .inl ⟨fs,hd⟩
   ·exact .inr (by simpa using h3)
  ·cases h2
 ·split at h2
  ·rename_i d hd;simp only[AQm]at h2;have h3:=h2.1.1.2;split at h3
   ·rename_i n e;simp only[AQm,ARm]at h3;intro _;rw[hd,h3.1,h3.2]
   ·intro h;exact(h (by simpa using h3)).elim
  ·cases h2
 ·split at h2
  ·rename_i d hd;simp only[AQm]at h2;intro he;have h3:=h2.2;rw[he]at h3;simpa using h3
  ·cases h2
 ·split at h2
  ·rename_i d hd;simp only[AQm]at h2;have h3:=h2.1.2;split at h3
   ·rename_i n e;simp only[AQm,ARm]at h3;intro _;rw[hd,h3.1,h3.2]
   ·intro h;exact(h (by simpa using h3)).elim
  ·cases h2
end Go.Va
namespace Go.Va
section
variable {w:World} {g:G} {n:Nat} {v:Value}
theorem B4{a:AV}(ht:a.Dp=false)(hu:a.OV=false)(h:B6 w g n a v):∃cs,CK w g n false a cs/\Cm a.isAgg cs v:=by
 rw[B6.iff ht]at h
 grind
theorem Bv{a:AV}(ht:a.Dp=false){cs:ATU Value}(h:CK w g n false a cs)(hv:Cm a.isAgg cs v):B6 w g n a v:=(B6.iff ht).2 (.inr ⟨cs,h,hv⟩)
theorem DF{ks:ATU Nat}{k:IntKind}{x:Int}(h:B6 w g n (.AB ks (.int k) x) v):v=.int k x:=by
 obtain⟨cs,h,hv⟩:=B4 rfl rfl h;have e :=h.2;subst e;simpa [Ty.isAgg]using hv.symm
theorem TG{ks:ATU Nat}{x:Bool}(h:B6 w g n (.AB ks .bool x) v):v=.bool x:=by
 obtain⟨cs,h,hv⟩:=B4 rfl rfl h;have e :=h.2;subst e;simpa [Ty.isAgg]using hv.symm
theorem X6{ks:ATU Nat}{x:ByteArray}(h:B6 w g n (.AB ks .str x) v):v=.string x:=by
 obtain⟨cs,h,hv⟩:=B4 rfl rfl h;have e :=h.2;subst e;simpa [Ty.isAgg]using hv.symm
theorem bQ{ks:ATU Nat}{t:Ty}{xs:ATU t.V}(h:B6 w g n (.AB ks (.sl t) xs) v):(∀k∈ks,k<n)/\∃ad cap ds,v=.slice ad xs.length cap/\xs.length<=cap/\CL (Ii w (Al g.own ks) t) xs ds /\
    (xs=[]\/∃b off,ad=some ⟨b,off,none⟩/\Al g.own ks b/\∀j u,ds[j]?=some u->w.cell? ⟨b,off+j,none⟩=some u):=by
 obtain⟨cs,⟨hk,ad,cap,ds,e,h1,h2,h3⟩,hv⟩:=B4 rfl rfl h;subst e;exact⟨hk,ad,cap,ds,by simpa [Ty.isAgg]using hv.symm,h1,h2,h3⟩
theorem Ze(h:B6 w g n .zs v):∃ad,v=.slice ad 0 0:=by
 obtain⟨cs,⟨ad,e⟩,hv⟩:=B4 rfl rfl h;subst e;exact⟨ad,by simpa [AV.isAgg]using hv.symm⟩
theorem FN{k:Nat}(h:B6 w g n (.AG k) v):k<n/\v=.slice (g.A2 k).a (g.A2 k).len (g.A2 k).cap:=by
 obtain⟨cs,⟨hk,e⟩,hv⟩:=B4 rfl rfl h;subst e;exact⟨hk,by simpa [AV.isAgg]using hv.symm⟩
theorem L1{k:Nat}{i:Int}{p:ATU Nat}{o:Nat}(h:B6 w g n (.ptr k i p o) v):k<n/\0<=i/\i.toNat<(g.A2 k).len/\∃b,(g.A2 k).a=some ⟨b,0,none⟩/\v=.pointer (some ⟨b,i.toNat*(g.A2 k).oQ+o,none⟩):=by
 obtain⟨cs,⟨hk,h0,h1,b,hb,e⟩,hv⟩:=B4 rfl rfl h;subst e;exact⟨hk,h0,h1,b,hb,by simpa [AV.isAgg]using hv.symm⟩
theorem Z2{ks:ATU Nat}{t:Ty}{x:t.V}(h:B6 w g n (.FZ ks t x) v):(∀k∈ks,k<n)/\∃b off ds,v=.pointer (some ⟨b,off,none⟩)/\Al g.own ks b/\Ii w (Al g.own ks) t x ds/\∀j u,ds[j]?=some u->w.cell? ⟨b,off+j,none⟩=some u:=by
 obtain⟨cs,⟨hk,b,off,ds,e,h1,h2,h3⟩,hv⟩:=B4 rfl rfl h;subst e;exact⟨hk,b,off,ds,by simpa [AV.isAgg]using hv.symm,h1,h2,h3⟩
theorem Aie(k:IntKind)(x:Int):B6 w g n (.int k x) (.int k x):=Bv rfl  ⟨λ_ h=>by grind,rfl⟩ (by simp[Cm,AV.isAgg,Ty.isAgg])
theorem dX(x:Bool):B6 w g n (.bool x) (.bool x):=Bv rfl  ⟨λ_ h=>by grind,rfl⟩ (by simp[Cm,AV.isAgg,Ty.isAgg])
theorem Aif(x:ByteArray):B6 w g n (.str x) (.string x):=Bv rfl  ⟨λ_ h=>by grind,rfl⟩ (by simp[Cm,AV.isAgg,Ty.isAgg])
theorem pC(ad:ATV Addr):B6 w g n .zs (.slice ad 0 0):=Bv rfl  ⟨ad,rfl⟩ (by simp[Cm,AV.isAgg])
theorem Sc{k:Nat}:B6 w g n (.un k) v:=(B6.iff rfl).2 (.inl rfl)
theorem fY{ks:ATU Nat}{t:Ty}{x:t.V}{b off:Nat}{ds:ATU Value}(hk:∀k∈ks,k<n)(h1:Al g.own ks b)(h2:Ii w (Al g.own ks) t x ds)(h3:∀j u,ds[j]?=some u->w.cell? ⟨b,off+j,none⟩=some u) :
    B6 w g n (.FZ ks t x) (.pointer (some ⟨b,off,none⟩)):=Bv rfl  ⟨hk,b,off,ds,rfl,h1,h2,h3⟩ (by simp[Cm,AV.isAgg])
theorem fX{k:Nat}{i:Int}{p:ATU Nat}{o b:Nat}(hk:k<n)(h0:0<=i)(h1:i.toNat<(g.A2 k).len)(hb:(g.A2 k).a=some ⟨b,0,none⟩) :
    B6 w g n (.ptr k i p o) (.pointer (some ⟨b,i.toNat*(g.A2 k).oQ+o,none⟩)):=Bv rfl  ⟨hk,h0,h1,b,hb,rfl⟩ (by simp[Cm,AV.isAgg])
end
section
variable {P:Program} {w:World} {g:G} {n:Nat} {R:Type}
def Wx(P:Program)(w:World)(g:G)(n:Nat)(s:Sem Value)(z:AV):Prop:=∃c,s.run P w=.ok c w/\B6 w g n z c
theorem B7{s:Sem Value}{k:IntKind}{x:Int}(h:s.run P w=.ok (.int k x) w):Wx P w g n s (.int k x):=⟨_,h,Aie k x⟩
theorem Dq{s:Sem Value}{x:Bool}(h:s.run P w=.ok (.bool x) w):Wx P w g n s (.bool x):=⟨_,h,dX x⟩
theorem ai{s:Sem Value}{x:ByteArray}(h:s.run P w=.ok (.string x) w):Wx P w g n s (.str x):=⟨_,h,Aif x⟩
theorem AkI{op:BinOp}{x y:AV}{u v:Value}{K:AV->ATV R}{r:R}{tb:Bool}(t:TypeId)(ox oy:Operand)(htb:tb=true->P.underlying t=some .bool)(h:qJ op tb x y K=some r)(hx:B6 w g n x u)(hy:B6 w g n y v) :
    ∃z,K z=some r/\Wx P w g n (do eqGuard op t ox oy u v;binOp op t u v) z:=by
 unfold qJ at h;split at h
 ·rename_i ks k a Vb k' b;obtain rfl:=DF hx;obtain rfl:=DF hy;split at h
  ·split at h
   ·cases h
   ·rename_i hb;exact⟨_,h,B7 (by simp[eqGuard,binOp,Op.shift,hb,N5])⟩
  ·split at h
   ·cases h
   ·rename_i hb;exact⟨_,h,B7 (by simp[eqGuard,binOp,Op.shift,hb,T8])⟩
  ·split at h
   ·rename_i hk;subst hk;cases op<;>simp only[reduceCtorEq]at h
    case add=>exact⟨_,h,B7 (by simp[eqGuard,binOp,Op.intArith])⟩
    case sub=>exact⟨_,h,B7 (by simp[eqGuard,binOp,Op.intArith])⟩
    case mul=>exact⟨_,h,B7 (by simp[eqGuard,binOp,Op.intArith])⟩
    case quo =>
     split at h
     ·cases h
     ·rename_i hb;exact⟨_,h,B7 (by simp[eqGuard,binOp,Op.intDiv,hb])⟩
    case rem =>
     split at h
     ·cases h
     ·rename_i hb;exact⟨_,h,B7 (by simp[eqGuard,binOp,Op.intDiv,hb])⟩
    case and=>exact⟨_,h,B7 (by simp[eqGuard,binOp,Op.intBits,fq])⟩
    case or=>exact⟨_,h,B7 (by simp[eqGuard,binOp,Op.intBits,gg])⟩
    case xor=>exact⟨_,h,B7 (by simp[eqGuard,binOp,Op.intBits,AwU])⟩
    case andNot=>exact⟨_,h,B7 (by simp[eqGuard,binOp,Op.intBits,AaJ])⟩
    case eql=>exact⟨_,h,Dq (by simp[eqGuard,binOp,Op.intCmp])⟩
    case neq=>exact⟨_,h,Dq (by simp[eqGuard,binOp,Op.intCmp])⟩
    case lss=>exact⟨_,h,Dq (by simp[eqGuard,binOp,Op.intCmp])⟩
    case leq=>exact⟨_,h,Dq (by simp[eqGuard,binOp,Op.intCmp])⟩
    case gtr=>exact⟨_,h,Dq (by simp[eqGuard,binOp,Op.intCmp])⟩
    case geq=>exact⟨_,h,Dq (by simp[eqGuard,binOp,Op.intCmp])⟩
   ·cases h
 ·rename_i ks a Vb b;obtain rfl:=X6 hx;obtain rfl:=X6 hy;cases op<;>simp only[reduceCtorEq]at h
  case add =>
   split at h
   ·rename_i hb;refine⟨_,h,ai ?_⟩;have:¬(((a.size+b.size:Nat):Int)>IntKind.i64.max):=by simp[IntKind.max,IntKind.signed,IntKind.bits];omega
    simp[eqGuard,binOp,Op.stringOp];omega
   ·cases h
  case eql=>exact⟨_,h,Dq (by simp[eqGuard,binOp,Op.stringOp,Jn])⟩
  case neq=>exact⟨_,h,Dq (by simp[eqGuard,binOp,Op.stringOp,Jn])⟩
  case lss=>exact⟨_,h,Dq (by simp[eqGuard,binOp,Op.stringOp,strLt])⟩
  case leq=>exact⟨_,h,Dq (by simp[eqGuard,binOp,Op.stringOp,strLt,Jn])⟩
  case gtr=>exact⟨_,h,Dq (by simp[eqGuard,binOp,Op.stringOp,strLt,Jn])⟩
  case geq=>exact⟨_,h,Dq (by simp[eqGuard,binOp,Op.stringOp,strLt])⟩
 ·rename_i ks a Vb b;obtain rfl:=TG hx;obtain rfl:=TG hy;split at h
  ·rename_i hb;have hu:=htb hb;have he:(Op.equal t (.bool a) (.bool b)).run P w=.ok (a==b) w:=run_equal_bool w t a b hu;cases op<;>simp only[reduceCtorEq]at h
   case eql=>exact⟨_,h,Dq (by simp[eqGuard,binOp,he])⟩
   case neq=>exact⟨_,h,Dq (by simp[eqGuard,binOp,he])⟩
  ·cases h
 ·cases h
theorem AwQ{op:UnOp}{x:AV}{u:Value}{K:AV->ATV R}{r:R}(h:unA op x K=some r)(hx:B6 w g n x u) :
    ∃z,K z=some r/\Wx P w g n (Op.unary op u) z:=by
 unfold unA at h;split at h
 ·obtain rfl:=TG hx;split at h
  ·exact⟨_,h,Dq (by simp[Op.unary])⟩
  ·grind
 ·obtain rfl:=DF hx;split at h
  ·exact⟨_,h,B7 (by simp[Op.unary,Op.intArith])⟩
  ·exact⟨_,h,B7 (by rfl)⟩
  ·grind
 ·grind
variable {bs:ATU Blk}
theorem BD{t:Nat}{ti:TI}(h:Fy P t ti)(hs:ti.EA=true):P.underlying t=some (.slice ti.elem):=by
 obtain⟨d,hd,hk⟩:=h.iy;unfold TI.EA at hs;split at hs
 ·rename_i u hu;rw[hd];cases d<;>simp[kindOk,hu,Ty.isAgg]at hk;rw[hk]
 ·grind
theorem Tg{t:Nat}{ti:TI}(h:Fy P t ti)(hs:ti.ty=.str):P.underlying t=some .string:=by
 obtain⟨d,hd,hk⟩:=h.iy;rw[hd];cases d<;>simp[kindOk,hs,Ty.isAgg]at hk;rfl
theorem yY{t:Nat}{ti:TI}(h:Fy P t ti)(hs:ti.ty=.bool):P.underlying t=some .bool:=by
 obtain⟨d,hd,hk⟩:=h.iy;rw[hd];cases d<;>simp[kindOk,hs,Ty.isAgg]at hk;rfl
theorem D4{t:Nat}{ti:TI}(h:Fy P t ti):(sizeOf t).run P w=.ok ti.ty.size w:=by
 obtain⟨i,z,hi,hs,_⟩:=h.info;simp[sizeOf,typeInfo,hi,hs]
theorem cY{t:Nat}{ti:TI}(h:Fy P t ti):(isAgg t).run P w=.ok ti.ty.isAgg w:=by
 obtain⟨d,hd,hk⟩:=h.iy;cases d<;>simp[isAgg,underlying,hd,kindOk]at hk⊢
 case int=>rw[hk];rfl
 case bool=>rw[hk];rfl
 case string=>rw[hk];rfl
 case slice =>
  obtain⟨_,hk⟩:=hk;split at hk
  ·rename_i u hu;rw[hu];rfl
  ·grind
 case array=>grind
 case struct=>grind
 case pointer =>
  split at hk
  ·rename_i u hu;rw[hu];rfl
  ·grind
 case map =>
  split at hk
  ·rename_i u hu;rw[hu];rfl
  ·grind
 case func =>
  split at hk
  ·rename_i u hu;rw[hu];rfl
  ·grind
theorem Amo(H:Bi w g bs){t:Nat}{ti:TI}(ht:Fy P t ti){x:AV}{u:Value}{K:AV->ATV R}{r:R}(h:sq bs ti x K=some r)(hx:B6 w g bs.length x u)(ty:TypeId)(ts:Array TypeId)(bl:ts[0]?=some t) :
    ∃z,K z=some r/\Wx P w g n (Builtin.len_ ts ty #[u]) z:=by
 unfold sq at h;split at h
 ·split at h
  ·rename_i hs;obtain⟨_,ad,cap,ds,rfl,_⟩:=bQ hx;exact⟨_,h,B7 (by simp[Builtin.len_,bl,underlying,BD ht hs,goInt])⟩
  ·cases h
 ·split at h
  ·rename_i hs;obtain rfl:=X6 hx;exact⟨_,h,B7 (by simp[Builtin.len_,bl,underlying,Tg ht hs,goInt])⟩
  ·cases h
 ·split at h
  ·rename_i hs;obtain⟨ad,rfl⟩:=Ze hx;exact⟨_,h,B7 (by simp[Builtin.len_,bl,underlying,BD ht hs,goInt])⟩
  ·cases h
 ·rename_i k;split at h
  ·rename_i e m t' xs hb;split at h
   ·rename_i hs;obtain⟨hk,rfl⟩:=FN hx;have hl:=(H.MR k _ hb).2.1;exact⟨_,h,B7 (by simp[Builtin.len_,bl,underlying,BD ht hs,goInt,hl])⟩
   ·cases h
  ·rename_i e t' xs i p hb;split at h
   ·rename_i hs;obtain⟨hk,rfl⟩:=FN hx;have hl:=(H.MR k _ hb).1;exact⟨_,h,B7 (by simp[Builtin.len_,bl,underlying,BD ht hs,goInt,hl])⟩
   ·cases h
  ·cases h
 ·cases h
theorem Aww{mx:Bool}{x y:AV}{u v:Value}{K:AV->ATV R}{r:R}(h:mmA mx x y K=some r)(hx:B6 w g n x u)(hy:B6 w g n y v)(ty:TypeId)(ts:Array TypeId) :
    ∃z,K z=some r/\Wx P w g n (if mx then Builtin.max_ ts ty #[u,v]else Builtin.min_ ts ty #[u,v]) z:=by
 unfold mmA at h;split at h
 ·obtain rfl:=DF hx;obtain rfl:=DF hy;split at h
  ·rename_i hk;refine⟨_,h,B7 ?_⟩;cases mx
   ·simp[Builtin.min_,Builtin.min2]
   ·simp[Builtin.max_,Builtin.max2]
  ·grind
 ·grind
theorem XY{i:Int}{n:Nat}(h:0<=i/\i<(n:Int)):i.toNat<n:=by omega
theorem aP(b o i:Nat):(⟨b,o,none⟩:Addr).add i=⟨b,o+i,none⟩:=by unfold Addr.add;split<;>simp_all
theorem T2{t:Nat}{ti:TI}(h:Fy P t ti){b off:Nat}{cs:ATU Value}(hl:cs.length=ti.ty.size)(hc:∀j u,cs[j]?=some u->w.cell? ⟨b,off+j,none⟩=some u)(hs:ti.ty.isAgg=false->cs.length=1) :
    ∃v,(loadVar t ⟨b,off,none⟩).run P w=.ok v w/\Cm ti.ty.isAgg cs v:=by
 unfold loadVar;cases ha:ti.ty.isAgg with
 |true =>
  have hr:=run_loadCells_list (P:=P) w _ cs (λj u hu=>by rw[aP];exact hc j u hu);rw[hl]at hr;exact⟨.agg cs.toArray,by simp[cY h,ha,D4 h,hr],by simp[Cm]⟩
 |false =>
  have h1:=hs ha;obtain⟨c,rfl⟩:∃c,cs=[c]:=by
   cases cs with
   |nil=>grind
   |cons c r=>grind
  have Hs:=hc 0 c rfl;rw[ASj]at Hs;exact⟨c,by simp[cY h,ha,Hs],by simp[Cm]⟩
theorem T9{t:Ty}(h:t.isAgg=false):t.size=1:=by cases t<;>simp_all [Ty.isAgg,Ty.size]
theorem AK{t:Ty}(xs:ATU t.V)(i:Nat)(z:t.V)(h:i<xs.length):xs.getD i z=xs[i]:=by grind
theorem Afo(H:Bi w g bs){k:Nat}{i:Int}{a:AV}(h:atB bs k i=some a)(hi:i.toNat<(g.A2 k).len){b:Nat}(hb:(g.A2 k).a=some ⟨b,0,none⟩) :
    ∃cs,CK w g bs.length false a cs/\∀j u,cs[j]?=some u->w.cell? ⟨b,i.toNat*(g.A2 k).oQ+j,none⟩=some u:=by
 unfold atB at h;split at h
 ·rename_i a' hx;injection h with h;subst h;obtain⟨h1,b',cs,e,ha,ho,hh,hr⟩:=H.MR k _ hx;rw[hb]at ha;injection ha with ha;injection ha with ha;subst ha;refine⟨cs.toList,hr,λj u hu=>?_⟩;have:i.toNat=0:=by omega
  rw[this,Nat.zero_mul,AQL,QW hh,<-AQt];exact hu
 ·rename_i e m t xs hx;injection h with h;subst h;obtain⟨Sl,hlen,QT,BX,hr⟩:=H.MR k _ hx;have Bp:=A4 hx;rw[hlen]at hi;rcases hr with ⟨al,_⟩|⟨b',BA,ds,ha,ho,⟨el,Ws,hh⟩,h1,h2,h3,h4,hc⟩
  ·grind
  ·rw[hb]at ha;injection ha with ha;injection ha with ha;subst ha;rw[AK _ _ _ hi,QT];have DW:∀j u,ds[j]?=some u->w.cell? ⟨b,j,none⟩=some u:=by
    intro j u hu;rw[QW hh,<-AQt]
    grind
   cases m with
   |Aw =>
    obtain⟨c0,c,d,e1,hl,hr,_,_⟩:=Bo.A2 (λi x c h=>Kl.len h) hc hi;refine⟨c,⟨au (λj hj=>by grind),aB (hr.rd λb q hq=>.mem (List.mem_singleton.2 rfl) hq)⟩,λj u hu=>?_⟩;refine DW _ u ?_;rw[e1,<-hl,AQn,AQB (by omega),show c0.length+j-c0.length=j by omega,AQC (A4 hu)];exact hu
   |sh ks =>
    obtain⟨c0,c,d,e1,hl,hr,_,_⟩:=CL.A2 (λx c h=>Ii.len h) hc hi;refine⟨c,⟨au Sl,aB hr⟩,λj u hu=>?_⟩;refine DW _ u ?_;rw[e1,<-hl,AQn,AQB (by omega),show c0.length+j-c0.length=j by omega,AQC (A4 hu)];exact hu
 ·grind
theorem Xr(H:Bi w g bs){k:Nat}{i:Int}{p:ATU Nat}{o:Nat}{a:AV}(h:atP bs k i p o=some a)(hi:i.toNat<(g.A2 k).len){b:Nat}(hb:(g.A2 k).a=some ⟨b,0,none⟩) :
    ∃cs,CK w g bs.length false a cs/\∀j u,cs[j]?=some u->w.cell? ⟨b,i.toNat*(g.A2 k).oQ+o+j,none⟩=some u:=by
 unfold atP at h;split at h
 ·rename_i c hc;split at h
  ·rename_i ho;obtain⟨cs,hx,DW⟩:=Afo H hc hi hb;obtain⟨c0,c1,c2,e,x9,k9,_⟩:=S0 p c cs a hx h
   grind
  ·grind
 ·grind
theorem Xb{a:AV}{cs:ATU Value}(h:CK w g n false a cs):a.Dp=false:=by cases a<;>first |rfl |exact h.elim
theorem Ah6(H:Bi w g bs){t:Nat}{ti:TI}(ht:Fy P t ti){x:AV}{u:Value}{K:AV->ATV R}{r:R}(h:br bs ti x K=some r)(hx:B6 w g bs.length x u) :
    ∃z,K z=some r/\Wx P w g bs.length (Instr.loadAt t u) z:=by
 unfold br at h;split at h
 ·split at h
  ·rename_i he;subst he;obtain⟨hk,b,off,ds,rfl,ha,hr,hc⟩:=Z2 hx;obtain⟨v,hv,hs⟩:=T2  ht hr.len hc (λhg=>by rw[hr.len];exact T9 hg);exact⟨_,h,v,by simp[Instr.loadAt,Instr.sureAddr,hv],Bv rfl  ⟨au hk,aB hr⟩ hs⟩
  ·grind
 ·split at h
  ·rename_i a ha;split at h
   ·rename_i hs;obtain⟨hk,h0,h1,b,hb,rfl⟩:=L1 hx;obtain⟨cs,nF,DW⟩:=Xr H ha h1 hb;obtain⟨v,hv,oY⟩:=T2  ht (by rw[nF.len,hs.1]) DW (λhg=>by rw[nF.len,hs.1];exact T9 hg);rw[<-hs.2]at oY;exact⟨_,h,v,by simp[Instr.loadAt,Instr.sureAddr,hv],Bv (Xb nF) nF oY⟩
   ·grind
  ·grind
 ·grind
theorem Amd(H:Bi w g bs){t:Nat}{ti te:TI}(ht:Fy P t ti)(Er:Fy P ti.elem te)(hs:ti.EA=true){x y:AV}{u v:Value}{K:AV->ATV R}{r:R}(h:zB bs te.ty x y K=some r)(hx:B6 w g bs.length x u)(hy:B6 w g bs.length y v) :
    ∃z,K z=some r/\Wx P w g bs.length (Instr.indexAt t u v) z:=by
 have hu:=BD ht hs;unfold zB at h;split at h
 ·rename_i ks t' xs Vb k i;split at h
  ·rename_i he;subst he;split at h
   ·rename_i hi;obtain rfl:=DF hy;obtain⟨hk,ad,cap,ds,rfl,hl,hr,hm⟩:=bQ hx;have Bp:i.toNat<xs.length:=XY hi;rcases hm with hm |⟨b,off,rfl,ha,hc⟩
    ·subst hm;simp at Bp
    ·obtain⟨c0,c,d,e1,jk,gQ,_,_⟩:=CL.A2 (λx c h=>Ii.len h) hr Bp;refine⟨_,h,.pointer (some ⟨b,off+i.toNat*te.ty.size,none⟩),?_,?_⟩
     ·simp[Instr.indexAt,asIntOf,underlying,hu,hi.1,hi.2,D4 Er,aP]
     ·rw[AK _ _ _ Bp];refine fY hk ha gQ λj q hq=>?_;rw[<-jk,ARk];refine hc _ q ?_;rw[e1,AQn,AQB (by omega),show c0.length+j-c0.length=j by omega,AQC (A4 hq)];exact hq
   ·cases h
  ·cases h
 ·rename_i k Vb kk i;split at h
  ·rename_i e m t' xs hb;split at h
   ·rename_i he;subst he;split at h
    ·rename_i hi;obtain rfl:=DF hy;obtain⟨hk,rfl⟩:=FN hx;obtain⟨Sl,hlen,QT,BX,hr⟩:=H.MR k _ hb;have Bp:i.toNat<xs.length:=XY hi;rcases hr with ⟨al,_⟩|⟨b,BA,ds,ha,ho,⟨el,Ws,hh⟩,h1,h2,h3,h4,hc⟩
     ·subst al;simp at Bp
     ·refine⟨_,h,.pointer (some ⟨b,i.toNat*(g.A2 k).oQ+0,none⟩),?_,fX hk hi.1 (by rw[hlen];exact Bp) ha⟩;simp[Instr.indexAt,asIntOf,underlying,hu,hi.1,hi.2,D4 Er,ha,hlen,QT,aP]
    ·cases h
   ·cases h
  ·rename_i e t' xs i' p' hb;split at h
   ·rename_i he;subst he;split at h
    ·rename_i hi;obtain rfl:=DF hy;obtain⟨hk,rfl⟩:=FN hx;obtain⟨hlen,QT,BX,_,_,_,_,_,b,_,_,_,_,_,ha,_⟩:=H.MR k _ hb;have Bp:i.toNat<xs.length:=XY hi;refine⟨_,h,.pointer (some ⟨b,i.toNat*(g.A2 k).oQ+0,none⟩),?_,fX hk hi.1 (by rw[hlen];exact Bp) ha⟩;simp[Instr.indexAt,asIntOf,underlying,hu,hi.1,hi.2,D4 Er,ha,hlen,QT,aP]
    ·cases h
   ·cases h
  ·cases h
 ·cases h
theorem AlG{t:Nat}{ti:TI}(ht:Fy P t ti)(hs:ti.ty=.str){x y:AV}{u v:Value}{K:AV->ATV R}{r:R}(h:qW x y K=some r)(hx:B6 w g n x u)(hy:B6 w g n y v) :
    ∃z,K z=some r/\Wx P w g n (Instr.index t u v) z:=by
 unfold qW at h;split at h
 ·rename_i ks s Vb k i;split at h
  ·rename_i hi;obtain rfl:=DF hy;obtain rfl:=X6 hx;refine⟨_,h,B7 ?_⟩;have Bp :=XY hi;simp[Instr.index,asIntOf,underlying,Tg ht hs,hi.1,C8,Bp]
  ·grind
 ·grind
end
end Go.Va
namespace Go.Va
section
variable {P:Program} {w:World} {g:G} {n:Nat} {R:Type} {bs:ATU Blk}
theorem rD{ty:Ty}:∀{fs:ATU Field} {os:ATU Nat} {i j o:Nat},Qh P ty i fs os=true->os[j]?=some o ->
    ∃fd u inf,fs[j]?=some fd/\fd.offset=o/\V2 ty (i+j)=some o/\mX ty (i+j)=some u/\P.info? fd.type=some inf/\inf.size=u.size/\u.size≠0
 |[],[],_,_,_,_,h=>by grind
 |f::fs,o'::os,i,0,o,h,ho=>by
  simp only[List.getElem?_cons_zero,AQh]at ho;subst ho;simp only[Qh,AQm,ARm]at h;obtain⟨⟨⟨h1,h2⟩,h3⟩,_⟩:=h;split at h3
  ·rename_i u hu;cases hi:P.info? f.type with
   |none=>grind
   |some inf=>grind
  ·grind
 |f::fs,o'::os,i,j+1,o,h,ho=>by
  simp only[Qh,AQm]at h;obtain⟨fd,u,inf,h1,h2,h3,h4,h5⟩:=rD (i:=i+1) h.2 (by simpa using ho)
  grind
 |[],_::_,_,_,_,h,_=>by simp[Qh]at h
 |_::_,[],_,_,_,h,_=>by grind
theorem Yr{t:Nat}{ti:TI}(h:Fy P t ti){f o:Nat}(ho:ti.XQ[f]?=some o) :
    ∃fs,P.underlying t=some (.struct fs)/\Qh P ti.ty 0 fs.toList ti.XQ=true:=by
 rcases h.XQ with ⟨fs,hfs⟩|he
 ·obtain⟨d,hd,hk⟩:=h.iy;rw[hfs]at hd;injection hd with hd;subst hd;simp only[kindOk,AQm]at hk;exact⟨fs,hfs,hk.2⟩
 ·grind
theorem WC{t:Nat}{ti:TI}(h:Fy P t ti){f fo:Nat}(ho:ti.XQ[f]?=some fo)(b o:Nat) :
    (Instr.fieldAt t (.pointer (some ⟨b,o,none⟩)) f).run P w=.ok (.pointer (some ⟨b,o+fo,none⟩)) w/\V2 ti.ty f=some fo/\∃u,mX ti.ty f=some u:=by
 obtain⟨fs,hu,hf⟩:=Yr h ho;obtain⟨fd,u,inf,h1,h2,h3,h4,h5,h6,h7⟩:=rD hf ho;rw[AQL]at h3 h4;refine⟨?_,h3,u,h4⟩;have hfd:fs[f]?=some fd:=by grind
 have NC:(sizeOf fd.type).run P w=.ok u.size w:=by simp[sizeOf,typeInfo,h5,h6]
 simp[Instr.fieldAt,underlying,hu,hfd,Instr.sureAddr,fieldPlace,NC,h7,aP,h2]
theorem AlR{t:Nat}{ti:TI}(ht:Fy P t ti){f:Nat}{x:AV}{u:Value}{K:AV->ATV R}{r:R}(h:ny ti f x K=some r)(hx:B6 w g n x u) :
    ∃z,K z=some r/\Wx P w g n (Instr.fieldAt t u f) z:=by
 unfold ny at h;split at h
 ·split at h
  ·rename_i fo hfo;obtain⟨hk,h0,h1,b,hb,rfl⟩:=L1 hx;refine⟨_,h,_,(WC ht hfo b _).1,?_⟩;rw[ARk];exact fX hk h0 h1 hb
  ·grind
 ·rename_i ks t' y;split at h
  ·rename_i he;obtain⟨rfl,he⟩:=he;split at h
   ·rename_i Vb v z hz;obtain⟨hk,b,off,ds,rfl,ha,hr,hc⟩:=Z2 hx;obtain⟨c0,c1,c2,e,ho,_,⟨u',y',heq,gQ⟩,_⟩:=ag (g:=g) hk f _ y ds _ hr hz;injection heq with _ h2 h3;subst h2;obtain rfl:=eq_of_heq h3;rw[ho]at he;refine⟨_,h,_,(WC ht he.symm b off).1,fY hk ha gQ λj q hq=>?_⟩;rw[ARk];refine hc _ q ?_
    grind
   ·grind
  ·grind
 ·grind
theorem Abc:∀{x:AV} {i:Nat} {z:AV} {vs:ATU Value},Qz x i=some z->CK w g n true x vs->∃v,vs[i]?=some v/\(z.Dp=false->B6 w g n z v)
 |.cons a b,0,z,vs,h,hx=>by
  simp only[Qz,AQh]at h;subst h;obtain⟨v,r,e,h1,_⟩:=hx;subst e;exact⟨v,rfl,λht=>(B6.iff ht).2 h1⟩
 |.cons a b,i+1,z,vs,h,hx=>by
  simp only[Qz]at h;obtain⟨v,r,e,_,h2⟩:=hx;subst e;obtain⟨u,hu,hz⟩:=Abc h h2
  grind
 |.nil,_,_,_,h,_=>by simp[Qz]at h
 |.AB _ _ _,_,_,_,h,_=>by simp[Qz]at h
 |.zs,_,_,_,h,_=>by simp[Qz]at h
 |.AG _,_,_,_,h,_=>by simp[Qz]at h
 |.mp _,_,_,_,h,_=>by simp[Qz]at h
 |.ptr _ _ _ _,_,_,_,h,_=>by simp[Qz]at h
 |.FZ _ _ _,_,_,_,h,_=>by simp[Qz]at h
 |.KQ,_,_,_,h,_=>by simp[Qz]at h
 |.pr _ _,_,_,_,h,_=>by simp[Qz]at h
 |.fn _ _,_,_,_,h,_=>by simp[Qz]at h
 |.Vh _ _ _ _ _,_,_,_,h,_=>by simp[Qz]at h
 |.Xc _ _ _ _ _ _,_,_,_,h,_=>by simp[Qz]at h
 |.un _,_,_,_,h,_=>by simp[Qz]at h
def AeR(w:World)(g:G)(n:Nat):ATV AV->ATV Value->Prop
 |none,none=>True
 |some a,some v=>B6 w g n a v
 |_,_=>False
theorem Zh{x:ATV AV}{v:ATV Value}{d i:Int}(h:bnd x d=some i)(hx:AeR w g n x v):(v=none/\i=d)\/∃k,v=some (.int k i):=by
 unfold bnd at h;split at h
 ·cases v with
  |none=>grind
  |some _=>exact hx.elim
 ·cases v with
  |none=>exact hx.elim
  |some u=>simp at h;subst h;exact .inr ⟨_,congrArg some (DF hx)⟩
 ·grind
theorem SF{isS:Bool}{len cap:Nat}{lo hi:ATV Value}{l h:Int}(hl:(lo=none/\l=0)\/∃k,lo=some (.int k l))(hh:(hi=none/\h=(len:Int))\/∃k,hi=some (.int k h))
    (h0:0<=l) (h1:l<=h) (h2:h<=(len:Int)) (hc:len<=cap):(Instr.sliceBounds isS len cap lo hi none).run P w=.ok (l.toNat,h.toNat,cap) w:=by
 have e1:(h.toNat)=h:=by omega
 have e2:h<=cap:=by omega
 have e3:0<=h:=by omega
 rcases hl with ⟨rfl,rfl⟩|⟨k,rfl⟩<;>rcases hh with ⟨rfl,rfl⟩|⟨k',rfl⟩
 ·simp[Instr.sliceBounds]
 ·simp[Instr.sliceBounds,Instr.sliceBound,asIntOf,e2,e3]
 ·simp[Instr.sliceBounds,Instr.sliceBound,asIntOf,h0,h1]
 ·simp[Instr.sliceBounds,Instr.sliceBound,asIntOf,e2,e3,h0,h1,e1]
theorem LG{t:Nat}{ti:TI}(h:Fy P t ti)(hs:ti.EA=true)(a:ATV Addr)(len cap:Nat)(lo hi mx:ATV Value)(w:World) :
    (Instr.sliceAt t (.slice a len cap) lo hi mx).run P w=(Instr.slice t (.slice a len cap) lo hi mx).run P w:=by
 simp[Instr.sliceAt,underlying,BD h hs]
theorem wZ{t:Nat}{ti:TI}(h:Fy P t ti)(hs:ti.ty=.str)(s:ByteArray)(lo hi mx:ATV Value)(w:World) :
    (Instr.sliceAt t (.string s) lo hi mx).run P w=(Instr.slice t (.string s) lo hi mx).run P w:=by
 simp[Instr.sliceAt,underlying,Tg h hs]
theorem AbI{A:Nat->Prop}{t:Ty}{xs:ATU t.V}{ad:ATV Addr}{cap:Nat}{ds:ATU Value}{l h:Nat}(h1:l<=h)(h2:h<=xs.length)(hc:xs.length<=cap)
    (hr:CL (Ii w A t) xs ds) (hm:xs=[]\/∃b off,ad=some ⟨b,off,none⟩/\A b/\∀j u,ds[j]?=some u->w.cell? ⟨b,off+j,none⟩=some u) :
    Ii w A (.sl t) ((xs.take h).drop l) [.slice (if cap=l then ad else ad.map (·.add (l*t.size))) (h-l) (cap-l)]:=by
 have hlen:((xs.take h).drop l).length=h-l:=by grind
 refine⟨_,cap-l,((ds.take (h*t.size)).drop (l*t.size)),by rw[hlen],by omega,?_,?_⟩
 ·exact CL.AgO (λx c r=>Ii.len r) l (CL.takeN (λx c r=>Ii.len r) h hr)
 ·rcases Nat.eq_or_lt_of_le h1 with e |Bp
  ·grind
  ·rcases hm with hx |⟨b,off,rfl,ha,DW⟩
   ·grind
   ·refine .inr ⟨b,off+l*t.size,?_,ha,λj u hu=>?_⟩
    ·rw[AQy (by omega)];simp[aP]
    grind
theorem AdL(H:Bi w g bs){t:Nat}{ti:TI}(ht:Fy P t ti){te:ATV Ty}(Er:∀u,te=some u->ti.EA=true/\∃mW,mW.ty=u/\Fy P ti.elem mW){x:AV}{lo hi mx:ATV AV}{u:Value}{vlo vhi vmx:ATV Value}
    {K:AV->ATV R} {r:R} (h:Yp bs ti te x lo hi mx K=some r) (hx:B6 w g bs.length x u) (hlo:AeR w g bs.length lo vlo) (hhi:AeR w g bs.length hi vhi) (vK:AeR w g bs.length mx vmx) :
    ∃z,K z=some r/\Wx P w g bs.length (Instr.sliceAt t u vlo vhi vmx) z:=by
 unfold Yp at h;split at h
 ·rename_i ks k m;split at h
  ·rename_i Vb k' hh;split at h
   ·rename_i hz;obtain⟨rfl,rfl,hs⟩:=hz;obtain⟨u',hu'⟩:=Option.isSome_iff_exists.1 hs;obtain⟨hs,mW,rfl,vT⟩:=Er _ hu';obtain rfl:vlo=none:=by cases vlo with |none=>rfl |some _=>exact hlo.elim
    obtain⟨vh,rfl,e1⟩:∃v,vhi=some v/\v=.int k' 0:=by cases vhi with |none=>exact hhi.elim |some v=>exact⟨v,rfl,DF hhi⟩
    obtain⟨vm,rfl,e2⟩:∃v,vmx=some v/\v=.int k 0:=by cases vmx with |none=>exact vK.elim |some v=>exact⟨v,rfl,DF vK⟩
    subst e1;subst e2;have key:∀(a:ATV Addr) (len cap:Nat),(Instr.sliceAt t (.slice a len cap) none (some (.int k' 0)) (some (.int k 0))).run P w=.ok (.slice a 0 0) w:=λa len cap=>by
     rw[LG ht hs];simp[Instr.slice,underlying,BD ht hs,Instr.sliceBounds,Instr.sliceBound,asIntOf,D4 vT]
    split at h
    ·obtain⟨_,ad,cap,ds,rfl,_⟩:=bQ hx;exact⟨_,h,_,key _ _ _,pC _⟩
    ·obtain⟨ad,rfl⟩:=Ze hx;exact⟨_,h,_,key _ _ _,pC _⟩
    ·split at h
     ·obtain⟨_,rfl⟩:=FN hx;exact⟨_,h,_,key _ _ _,pC _⟩
     ·cases h
    ·cases h
   ·cases h
  ·cases h
 ·cases h
 ·split at h
  ·rename_i ks s;split at h
   ·rename_i l hh hl hhh;split at h
    ·rename_i hc;obtain⟨hs,h0,h1,h2⟩:=hc;obtain rfl:=X6 hx;obtain rfl:vmx=none:=by cases vmx with |none=>rfl |some _=>exact vK.elim
     refine⟨_,h,ai ?_⟩;rw[wZ ht hs];have hb:=SF (P:=P) (w:=w) (isS:=false) (cap:=s.size) (Zh hl hlo) (Zh hhh hhi) h0 h1 h2 (AQl _);simp[Instr.slice,underlying,Tg ht hs,hb]
    ·cases h
   ·cases h
  ·rename_i ks t' xs;split at h
   ·rename_i l hh hl hhh;split at h
    ·rename_i he;obtain⟨hs,mW,rfl,vT⟩:=Er _ he;split at h
     ·rename_i hc;obtain⟨h0,h1,h2⟩:=hc;obtain⟨hk,ad,cap,ds,rfl,fL,hr,hm⟩:=bQ hx;obtain rfl:vmx=none:=by cases vmx with |none=>rfl |some _=>exact vK.elim
      refine⟨_,h,?_⟩;have hb:=SF (P:=P) (w:=w) (isS:=true) (cap:=cap) (Zh hl hlo) (Zh hhh hhi) h0 h1 h2 fL;refine⟨.slice (if cap=l.toNat then ad else ad.map (·.add (l.toNat*mW.ty.size))) (hh.toNat-l.toNat) (cap-l.toNat),?_,?_⟩
      ·rw[LG ht hs];simp[Instr.slice,underlying,BD ht hs,hb,D4 vT]
      ·exact Bv rfl (cs:=[_]) ⟨hk,AbI (by omega) (by omega) fL hr hm⟩ (by simp[Cm,AV.isAgg,Ty.isAgg])
     ·cases h
    ·cases h
   ·cases h
  ·rename_i k;split at h
   ·rename_i e m t' xs hb;split at h
    ·rename_i l hh hl hhh;split at h
     ·rename_i he;obtain⟨hs,mW,rfl,vT⟩:=Er _ he;split at h
      ·rename_i hc;obtain⟨h0,h1,h2⟩:=hc;obtain⟨cs,nF,hv⟩:=B4 rfl rfl hx;have nH:=Rx H (.sl mW.ty) (.AG k) xs cs (by simp[rd,hb,JQ]) nF;obtain⟨⟨ad,cap,ds,e1,fL,hr,hm⟩,Abu⟩:=nH;subst e1;have Av4:(AV.AG k).VY bs=k::m.Ck:=by simp[AV.VY,eC,hb]
       rw[Av4]at Abu hr hm;obtain rfl:u=.slice ad xs.length cap:=by simpa [Cm,AV.isAgg]using hv.symm
       obtain rfl:vmx=none:=by cases vmx with |none=>rfl |some _=>exact vK.elim
       refine⟨_,h,?_⟩;have hb:=SF (P:=P) (w:=w) (isS:=true) (cap:=cap) (Zh hl hlo) (Zh hhh hhi) h0 h1 h2 fL;refine⟨.slice (if cap=l.toNat then ad else ad.map (·.add (l.toNat*mW.ty.size))) (hh.toNat-l.toNat) (cap-l.toNat),?_,?_⟩
       ·rw[LG ht hs];simp[Instr.slice,underlying,BD ht hs,hb,D4 vT]
       ·exact Bv rfl (cs:=[_]) ⟨Abu,AbI (by omega) (by omega) fL hr hm⟩ (by simp[Cm,AV.isAgg,Ty.isAgg])
      ·cases h
     ·cases h
    ·cases h
   ·cases h
  ·split at h
   ·rename_i l hh hl hhh;split at h
    ·rename_i hc;obtain⟨hs,rfl,rfl⟩:=hc;obtain⟨u',hu'⟩:=Option.isSome_iff_exists.1 hs;obtain⟨hs,mW,rfl,vT⟩:=Er _ hu';obtain⟨ad,rfl⟩:=Ze hx;obtain rfl:vmx=none:=by cases vmx with |none=>rfl |some _=>exact vK.elim
     have hb:=SF (P:=P) (w:=w) (isS:=true) (len:=0) (cap:=0) (Zh hl hlo) (Zh hhh hhi) (ARs _) (ARs _) (ARs _) (AQl _);refine⟨_,h,.slice ad 0 0,?_,pC _⟩;rw[LG ht hs];simp[Instr.slice,underlying,BD ht hs,hb,D4 vT]
    ·cases h
   ·cases h
  ·cases h
theorem Vx{t:Nat}{ti:TI}{k:IntKind}(h:Fy P t ti)(hs:ti.ty=.int k):P.underlying t=some (.int k):=by
 obtain⟨d,hd,hk⟩:=h.iy;rw[hd];cases d<;>simp[kindOk,hs,Ty.isAgg]at hk;rw[hk]
theorem gD{A:Nat->Prop}:∀{xs:ATU Int} {ds:ATU Value},CL (Ii w A (.int .u8)) xs ds->ds=xs.map (Value.int .u8)
 |[],_,h=>h
 |x::xs,_,⟨c,d,e,h1,h2⟩=>by
  have h1' :=h1;rw[e,h1',gD h2];rfl
theorem AgK(H:Bi w g bs){s t:Nat}{ts ti:TI}(hs:Fy P s ts)(ht:Fy P t ti){te:ATV Ty}(Er:∀u,te=some u->ts.EA=true/\∃mW,mW.ty=u/\Fy P ts.elem mW){x:AV}{u:Value}
    {K:AV->ATV R} {r:R} (h:dm bs te ti.ty x K=some r) (hx:B6 w g bs.length x u) :
    ∃z,K z=some r/\Wx P w g bs.length (convert s t u) z:=by
 obtain⟨ds,hds,_⟩:=hs.iy;unfold dm at h;split at h
 ·rename_i k hk;split at h
  ·obtain rfl:=DF hx;refine⟨_,h,B7 ?_⟩;simp[convert,underlying,hds,Vx ht hk,Conv.intToInt]
  ·cases h
 ·rename_i hk;have hut:=Tg ht hk;split at h
  ·obtain rfl:=X6 hx;refine⟨_,h,ai ?_⟩;simp[convert,underlying,hds,hut]
  ·split at h
   ·rename_i he;obtain⟨Jk,mW,jl,vT⟩:=Er _ he;split at h
    ·rename_i xs hxs;have hu:=Vx vT jl;have hsu:=BD hs Jk;have hnt:x.Dp=false:=by cases x<;>first |rfl |simp[rd]at hxs
     have SJ:x.OV=false:=by cases x<;>first |rfl |simp[rd]at hxs
     have hag:x.isAgg=false:=by
      cases x with
      |AB ks t' y =>
       simp only[rd]at hxs;obtain⟨e,_⟩:=BO hxs;subst e;rfl
      |pr a b=>simp[rd]at hxs
      |_=>rfl
     obtain⟨cs,nF,hv⟩:=B4 hnt SJ hx;obtain⟨⟨ad,cap,dd,e1,fL,hr,hm⟩,_⟩:=Rx H _ _ _ _ hxs nF;subst e1;obtain rfl:u=.slice ad xs.length cap:=by
      rw[hag]at hv;have rU:[_]=[u]:=hv;simpa using rU.symm
     refine⟨_,h,ai ?_⟩;have hdd:=gD hr;have Ep:∀b off,ad=some ⟨b,off,none⟩->(∀i,i<xs.length->w.cell? ⟨b,off+i,none⟩=some (.int .u8 (xs.getD i 0)))->(convert s t (.slice ad xs.length cap)).run P w=.ok (.string (bytesOf xs)) w:=by
      intro b off e hc;subst e;exact run_convert_bytes_arg w s ts.elem hsu hu b off xs.length cap xs rfl hc t hut
     rcases hm with al |⟨b,off,rfl,_,hc⟩
     ·subst al;cases ad with
      |none=>exact run_convert_bytes_nil w s ts.elem hsu hu 0 cap t hut
      |some a0=>simp[convert,underlying,hsu,hut,hu,Conv.bytesToString,loadCells,loadCellsFrom,bytesOf,ByteArray.empty,ByteArray.emptyWithCapacity];rfl
     ·refine Ep b off rfl λi hi=>hc i _ ?_;rw[hdd];simp[List.getD,hi]
    ·cases h
   ·cases h
 ·cases h
end
end Go.Va
namespace Go.Va
section
variable {R:Type}
theorem uy(op:BinOp)(tb:Bool)(x y:AV)(K:AV->ATV R):qJ op tb x y K=(qJ op tb x y some).bind K:=by
 unfold qJ
 repeat' split
 all_goals rfl
theorem AbY(op:UnOp)(x:AV)(K:AV->ATV R):unA op x K=(unA op x some).bind K:=by
 unfold unA
 repeat' split
 all_goals rfl
theorem wu(bs:ATU Blk)(ti:TI)(x:AV)(K:AV->ATV R):sq bs ti x K=(sq bs ti x some).bind K:=by
 unfold sq
 repeat' split
 all_goals rfl
theorem ju(mx:Bool)(x y:AV)(K:AV->ATV R):mmA mx x y K=(mmA mx x y some).bind K:=by
 unfold mmA
 repeat' split
 all_goals rfl
theorem AhU(bs:ATU Blk)(te:Ty)(x y:AV)(K:AV->ATV R):zB bs te x y K=(zB bs te x y some).bind K:=by
 unfold zB
 repeat' split
 all_goals rfl
theorem vX(bs:ATU Blk)(te:Ty)(x y:AV)(K:AV->ATV R):vW bs te x y K=(vW bs te x y some).bind K:=by
 unfold vW;split
 ·repeat' split
  all_goals rfl
 ·exact AhU ..
theorem uQ(x y:AV)(K:AV->ATV R):qW x y K=(qW x y some).bind K:=by
 unfold qW
 repeat' split
 all_goals rfl
theorem vk(ti:TI)(f:Nat)(x:AV)(K:AV->ATV R):ny ti f x K=(ny ti f x some).bind K:=by
 unfold ny
 repeat' split
 all_goals rfl
theorem pj(bs:ATU Blk)(ti:TI)(x:AV)(K:AV->ATV R):br bs ti x K=(br bs ti x some).bind K:=by
 unfold br
 repeat' split
 all_goals rfl
theorem l8(bs:ATU Blk)(ti:TI)(te:ATV Ty)(x:AV)(lo hi mx:ATV AV)(K:AV->ATV R):Yp bs ti te x lo hi mx K=(Yp bs ti te x lo hi mx some).bind K:=by
 unfold Yp
 repeat' split
 all_goals rfl
theorem oG(bs:ATU Blk)(te:ATV Ty)(td:Ty)(a:AV)(K:AV->ATV R):dm bs te td a K=(dm bs te td a some).bind K:=by
 unfold dm
 repeat' split
 all_goals rfl
theorem Aah(bs:ATU Blk)(ti:TI)(x v:AV)(K:Ih->ATV R):gp bs ti x v K=(gp bs ti x v some).bind K:=by
 unfold gp
 repeat' split
 all_goals rfl
theorem Aaf(bs:ATU Blk)(ti:TI)(x:AV)(K:Ih->ATV R):cF bs ti x K=(cF bs ti x some).bind K:=by
 unfold cF
 repeat' split
 all_goals rfl
theorem pn(bs:ATU Blk)(tk te:TI)(ok:Bool)(m x:AV)(K:AV->ATV R):ia bs tk te ok m x K=(ia bs tk te ok m x some).bind K:=by
 unfold ia
 repeat' split
 all_goals first |rfl |(cases ok<;>rfl)
theorem Adn(bs:ATU Blk)(tk te:TI)(m x:AV)(K:Ih->ATV R):po bs tk te m x K=(po bs tk te m x some).bind K:=by
 unfold po
 repeat' split
 all_goals rfl
theorem AkH{c:Bool}{e:Ih}{K:Ih->ATV R}:(bif c then K e else none)=(bif c then some e else none).bind K:=by cases c<;>rfl
theorem mz(bs:ATU Blk)(tk te:TI)(m x v:AV)(K:Ih->ATV R):eR bs tk te m x v K=(eR bs tk te m x v some).bind K:=by
 unfold eR
 repeat' split
 all_goals first |rfl |exact AkH
theorem AgR(bs:ATU Blk)(tk te:TI)(m x:AV)(K:Ih->ATV R):AcP bs tk te m x K=(AcP bs tk te m x some).bind K:=by
 unfold AcP
 repeat' split
 all_goals rfl
theorem AI8{c:Bool}{A:ATV R}{B:ATV Ih}{K:Ih->ATV R}(h:A=B.bind K):(bif c then A else none)=(bif c then B else none).bind K:=by
 cases c
 ·rfl
 ·exact h
theorem AgS(bs:ATU Blk)(tk te:TI)(m j v:AV)(K:Ih->ATV R):AcQ bs tk te m j v K=(AcQ bs tk te m j v some).bind K:=by
 unfold AcQ
 repeat' split
 all_goals first
  |rfl
  |exact AI8 (mz ..)
theorem um(fi:FI)(bs:ATU Blk)(e:Nat)(ti:TI)(x y:AV)(K:Ih->ATV R):ZZ fi bs e ti x y K=(ZZ fi bs e ti x y some).bind K:=by
 unfold ZZ
 repeat' split
 all_goals rfl
theorem uo(fi:FI)(bs:ATU Blk)(e:Nat)(ti:TI)(x y:AV)(K:Ih->ATV R):Z0 fi bs e ti x y K=(Z0 fi bs e ti x y some).bind K:=by
 unfold Z0
 repeat' split
 all_goals rfl
theorem Ado(fi:FI)(bs:ATU Blk)(e:Nat)(ti:TI)(x y:AV)(K:Ih->ATV R):pq fi bs e ti x y K=(pq fi bs e ti x y some).bind K:=by
 unfold pq
 repeat' split
 all_goals rfl
theorem AgL(te:Ty)(bs:ATU Blk)(x:AV)(hi:ATV AV)(K:Ih->ATV R):AcL te bs x hi K=(AcL te bs x hi some).bind K:=by
 unfold AcL
 repeat' split
 all_goals rfl
def jG(c:Callee):Prop:=∀(R:Type) args E (K:AV->ATU Blk->ATV R),c.run R args E K=(c.run (AV×ATU Blk) args E λv b=>some (v,b)).bind λp=>K p.1 p.2
theorem Z4(c:Callee)(hc:jG c)(bs:ATU Blk)(args:ATU AV)(K:Ih->ATV R):Zk c bs args K=(Zk c bs args some).bind K:=by
 unfold Zk;split
 ·rfl
 ·dsimp only
  split
  ·rw[hc R,hc Ih];cases c.run (AV×ATU Blk) _ _ λv b=>some (v,b)with
   |none=>rfl
   |some p=>simp only[AQf];split<;>rfl
  ·rfl
theorem AcC(c:Callee)(hc:jG c)(bs:ATU Blk)(args:ATU AV)(K:Ih->ATV R):kj c bs args K=(kj c bs args some).bind K:=by
 have via:∀(bs:ATU Blk) (args:ATU AV) (F:Ih->ATV R) (F':Ih->ATV Ih),(∀e,F e=(F' e).bind K)->Zk c bs args F=(Zk c bs args F').bind K:=λbs args F F' h=>by
  rw[Z4 c hc bs args F,Z4 c hc bs args F'];cases Zk c bs args some with
  |none=>rfl
  |some e=>exact h e
 unfold kj;split
 ·exact Z4 c hc bs args K
 ·split
  ·split
   ·split
    ·split
     ·refine via _ _ _ _ λe=>?_;split
      ·rfl
      ·split
       ·split
        ·split<;>rfl
        ·rfl
       ·rfl
     ·rfl
    ·rfl
   ·rfl
  ·rfl
theorem iX(f:(R:Type)->(AV->ATV R)->ATV R)(hf:∀(R:Type) (K:AV->ATV R),f R K=(f AV some).bind K)(g:AV->Ih)(K:Ih->ATV R) :
    f R (λv=>K (g v))=(f Ih λv=>some (g v)).bind K:=by
 rw[hf R,hf Ih];cases f AV some<;>rfl
def aN(en:G5):Prop:=∀g c,en.fns g=some c->jG c
theorem ru(en:G5)(he:aN en)(σ:St)(c:Call)(K:Ih->ATV R):XB en σ c K=(XB en σ c some).bind K:=by
 unfold XB;split
 ·split
  ·split
   ·exact iX (λR K=>sq _ _ _ K) (λR K=>wu ..) (λv=>⟨v,_,_⟩) K
   ·rfl
  ·rfl
 ·split
  ·exact iX (λR K=>mmA _ _ _ K) (λR K=>ju ..) (λv=>⟨v,_,_⟩) K
  ·rfl
 ·split
  ·exact iX (λR K=>mmA _ _ _ K) (λR K=>ju ..) (λv=>⟨v,_,_⟩) K
  ·rfl
 ·split
  ·split
   ·split
    ·split
     ·exact um ..
     ·split
      ·exact uo ..
      ·rfl
    ·rfl
   ·rfl
  ·rfl
 ·rfl
 ·split
  ·split
   ·rename_i hg;exact AcC _ (he _ _ hg) ..
   ·rfl
  ·rfl
 ·rfl
theorem NH(en:G5)(he:aN en)(σ:St)(o:Oper)(K:Ih->ATV R):Ss en σ o K=(Ss en σ o some).bind K:=by
 unfold Ss
 dsimp only
 split
 ·rfl
 ·rfl
 ·split
  ·rename_i t _;cases t<;>rfl
  ·rfl
 ·split<;>rfl
 ·split<;>rfl
 ·split
  ·split
   ·rfl
   ·split<;>rfl
  ·rfl
 ·split
  ·split
   ·split
    ·split
     ·split<;>rfl
     ·rfl
    ·rfl
   ·rfl
  ·rfl
 ·split
  ·split
   ·split
    ·exact Aaf ..
    ·rfl
   ·exact iX (λR K=>br _ _ _ K) (λR K=>pj ..) (λv=>⟨v,_,_⟩) K
  ·rfl
 ·split
  ·split
   ·rfl
   ·split
    ·split<;>rfl
    ·rfl
  ·rfl
 ·split
  ·split
   ·split
    ·split
     ·split
      ·rfl
      ·exact Adn ..
     ·exact iX (λR K=>ia _ _ _ _ _ _ K) (λR K=>pn ..) (λv=>⟨v,_,_⟩) K
    ·rfl
   ·rfl
  ·rfl
 ·split
  ·split
   ·split
    ·exact mz ..
    ·rfl
   ·rfl
  ·rfl
 ·split
  ·split
   ·split
    ·exact mz ..
    ·rfl
   ·rfl
  ·rfl
 ·split
  ·split
   ·split
    ·exact AgR ..
    ·rfl
   ·rfl
  ·rfl
 ·split
  ·split
   ·split
    ·exact AgS ..
    ·rfl
   ·rfl
  ·rfl
 ·split
  ·exact Aah ..
  ·rfl
 ·split<;>rfl
 ·split
  ·rfl
  ·exact iX (λR K=>qJ _ _ _ _ K) (λR K=>uy ..) (λv=>⟨v,_,_⟩) K
 ·exact iX (λR K=>unA _ _ K) (λR K=>AbY ..) (λv=>⟨v,_,_⟩) K
 ·split
  ·exact iX (λR K=>dm _ _ _ _ K) (λR K=>oG ..) (λv=>⟨v,_,_⟩) K
  ·rfl
 ·split
  ·split<;>rfl
  ·rfl
 ·split
  ·split
   ·split
    ·exact Ado ..
    ·rfl
   ·rfl
  ·rfl
 ·split
  ·split
   ·split
    ·split
     ·split
      ·exact AgL ..
      ·rfl
     ·rfl
    ·rfl
   ·exact iX (λR K=>Yp _ _ _ _ _ _ _ K) (λR K=>l8 ..) (λv=>⟨v,_,_⟩) K
  ·rfl
 ·split
  ·exact iX (λR K=>ny _ _ _ K) (λR K=>vk ..) (λv=>⟨v,_,_⟩) K
  ·rfl
 ·split
  ·split
   ·split
    ·exact iX (λR K=>vW _ _ _ _ K) (λR K=>vX ..) (λv=>⟨v,_,_⟩) K
    ·rfl
   ·rfl
  ·rfl
 ·split
  ·split
   ·exact iX (λR K=>qW _ _ K) (λR K=>uQ ..) (λv=>⟨v,_,_⟩) K
   ·rfl
  ·rfl
 ·split
  ·split<;>rfl
  ·rfl
 ·exact ru en he ..
 ·rfl
theorem XA(en:G5)(he:aN en)(σ:St)(o:Oper)(K:Ih->ATV R):WB en σ o K=(WB en σ o some).bind K:=by
 unfold WB;split
 ·rfl
 split
 ·rfl
 split
 ·rename_i c _ _;cases c<;>rfl
 split
 ·cases kF en o with
  |false=>exact NH en he σ o K
  |true =>
   simp only[AQv];refine(NH en he σ o _).trans (Eq.symm ?_);refine(congrArg (λx=>Option.bind x K) (NH en he σ o _)).trans ?_;rw[AQw];congr 1
   funext e
   cases AbO σ.Aj.length e<;>rfl
 ·rename_i t _;refine(NH en he σ o _).trans (Eq.symm ?_);refine(congrArg (λx=>Option.bind x K) (NH en he σ o _)).trans ?_;rw[AQw];congr 1
  funext e
  cases AlU σ.Aj.length t e<;>rfl
theorem TK(en:G5)(he:aN en)(σ:St)(o:Oper)(K:Ih->ATV R):exec en σ o K=(exec en σ o some).bind K:=by
 unfold exec;split
 ·split
  ·split
   ·rename_i bs _;rw[XA en he ⟨σ.AU,bs⟩ o,XA en he ⟨σ.AU,bs⟩ o (λe=>if e.BF.isEmpty=true then none else some e),AQw];congr 1
    funext e
    split<;>rfl
   ·rfl
  ·exact XA en he σ o K
 ·exact XA en he σ o K
end
end Go.Va
namespace Go.Va
structure LJ (w:World) (g:G) (σ:St) (a:Act):Prop where
 heap:Bi w g σ.Aj
 len:σ.AU.length=a.tmps.size
 AU:∀(i:Nat) (x:AV),σ.AU[i]?=some x->B6 w g σ.Aj.length x (a.tmps.getD i undef)
structure OL (P:Program) (σ:St) (o:Oper) (e:Ih):Prop where
 grow:σ.Aj.length<=e.Aj.length
 ext:e.BF=[]->∃l,e.Aj=σ.Aj++l
 wp:∀(a:Act) (w:World) (g:G),LJ w g σ a->∀(next:Act->World->Prop) (Q:Exit->Act->World->Prop),
  (∀v w' g',Bi w' g' e.Aj->B6 w' g' e.Aj.length e.val v->Step e.BF σ.Aj.length w g w' g'->next (a.put o.dst v) w')->o.wp P a w next Q
def Qt(P:Program)(σ:St)(o:Oper)(z:AV):Prop :=
 ∀(a:Act) (w:World) (g:G),LJ w g σ a->∃c,(execOp a.eval o).run P w=.ok (.value c) w/\B6 w g σ.Aj.length z c
theorem Z9{BF:ATU Nat}{sl:ATU AV}{i:Nat}{x:AV}(h:(VF BF sl)[i]?=some x):∃y,sl[i]?=some y/\x=y.drop λk=>BF.contains k:=by
 unfold VF at h;split at h
 ·exact⟨x,h,by rw[show(λk=>([]:ATU Nat).contains k)=λ_=>false from funext λ_=>rfl,dx]⟩
 ·rw[AQI]at h;cases hs:sl[i]? with
  |none=>rw[hs]at h;cases h
  |some y=>rw[hs]at h;injection h with h;exact⟨y,rfl,h.symm⟩
theorem oJ(BF:ATU Nat)(sl:ATU AV):(VF BF sl).length=sl.length:=by unfold VF;split<;>simp
theorem eu(d:ATV Nat)(v:AV)(sl:ATU AV):(aW d v sl).length=sl.length:=by unfold aW;split<;>simp
theorem XR(a:Act)(d:ATV Tmp)(v:Value):(a.put d v).tmps.size=a.tmps.size:=by cases d<;>simp[Act.put]
theorem pY{w:World}{g:G}{n:Nat}{sl:ATU AV}{a:Act}(hlen:sl.length=a.tmps.size)(h:∀(i:Nat) (x:AV),sl[i]?=some x->B6 w g n x (a.tmps.getD i undef)){d:ATV Nat}{x:AV}{v:Value}(hv:B6 w g n x v) :
    ∀(i:Nat) (y:AV),(aW d x sl)[i]?=some y->B6 w g n y ((a.put d v).tmps.getD i undef):=by
 intro i y hy;cases d with
 |none=>exact h i y hy
 |some d =>
  simp only[aW]at hy;rw[AQE]at hy;simp only[Act.put];split at hy
  ·rename_i he;subst he;split at hy
   ·rename_i hd;injection hy with hy;subst hy;rw[hlen]at hd;simpa [hd]using hv
   ·cases hy
  ·rename_i LN;have:=h i y hy;simpa [ART LN]using this
theorem LJ.after{w w':World}{g g':G}{σ:St}{a:Act}{e:Ih}{d:ATV Nat}{v:Value}(h:LJ w g σ a)(hg:σ.Aj.length<=e.Aj.length)(hh:Bi w' g' e.Aj)(hv:B6 w' g' e.Aj.length e.val v)
    (hs:Step e.BF σ.Aj.length w g w' g'):LJ w' g' (σ.after d e) (a.put d v) where
 heap:=hh
 len:=by simp only[St.after,eu,oJ,XR];exact h.len
 AU:=pY (by rw[oJ];exact h.len) (λi x hx=>by
  obtain⟨y,hy,rfl⟩:=Z9 hx;exact(h.AU i y hy).step hs hg) hv
section
variable {P:Program} {σ:St} {o:Oper} {en:G5}
theorem OL.Jm{z:AV}(h:Qt P σ o z):OL P σ o ⟨z,σ.Aj,[]⟩ where
 grow:=AQl _
 ext _:=⟨[],(AQU _).symm⟩
 wp a w g hs next Q hn:=by
  obtain⟨c,hc,hz⟩:=h a w g hs;unfold Oper.wp;rw[hc];exact hn c w g hs.heap hz (Step.refl _ _ _ _)
theorem YX{f:(R:Type)->(AV->ATV R)->ATV R}(hf:∀(R:Type) (K:AV->ATV R),f R K=(f AV some).bind K){g:AV->Ih}{e:Ih}(h:f Ih (λv=>some (g v))=some e) :
    ∃z,f AV some=some z/\e=g z:=by
 rw[hf Ih]at h;cases hz:f AV some with
 |none=>rw[hz]at h;cases h
 |some z=>rw[hz]at h;injection h with h;exact⟨z,rfl,h.symm⟩
theorem AgJ{w:World}{g:G}{n:Nat}(v:Value):B6 w g n (rh v) v:=by
 unfold rh;split
 ·exact Aie _ _
 ·exact dX _
 ·exact Aif _
 ·exact pC _
 ·exact Bv rfl (cs:=[_]) rfl (by simp[Cm,AV.isAgg])
 ·exact Sc
theorem AX{w:World}{g:G}{a:Act}(h:LJ w g σ a)(x:Operand):B6 w g σ.Aj.length (σ.Cp x) (a.eval x):=by
 cases x with
 |tmp t =>
  simp only[St.Cp,Act.eval];cases hx:σ.AU[t]? with
  |none=>exact Sc
  |some y=>exact h.AU t y hx
 |const v=>exact AgJ v
 |func f=>exact Bv (a:=.fn f .nil) rfl (cs:=[_]) ⟨[],rfl,rfl⟩ (by simp[Cm,AV.isAgg,Act.eval])
 |global g=>exact Sc
theorem az{w:World}{g:G}{a:Act}(h:LJ w g σ a)(x:ATV Operand):AeR w g σ.Aj.length (x.map σ.Cp) (x.map a.eval):=by
 cases x with
 |none=>trivial
 |some x=>exact AX h x
theorem Ml{z:AV}{s:(Operand->Value)->Sem Value}(he:∀ρ,execOp ρ o=(do pure (.value (<-s ρ))))(h:∀(a:Act) (w:World) (g:G),LJ w g σ a->Wx P w g σ.Aj.length (s a.eval) z):Qt P σ o z:=by
 intro a w g hs;obtain⟨c,hc,hz⟩:=h a w g hs;exact⟨c,by rw[he];simp[hc],hz⟩
theorem cZ{v:Value}{cs:ATU Value}{b:Bool}(h:Cm b cs v)(h1:∀c∈cs,c.oneCell'=true):v.cells=cs.toArray:=by
 cases b with
 |true=>simp only[Cm,AQv]at h;subst h;rfl
 |false =>
  simp only[Cm,AQu]at h;subst h;have:=h1 v (by simp);cases v<;>first |rfl |cases this
theorem cB:∀{a:AV} {f:Nat} {v a':AV},a.UB f v=some a'->a'.isAgg=true:=by
 intro a f v a' h;cases a with
 |AB ks t x =>
  simp only[AV.UB]at h;cases t with
  |AH b c =>
   cases f with
   |zero=>simp only[wX,AQh]at h;subst h;rfl
   |succ f =>
    simp only[wX]at h;split at h
    ·injection h with h;subst h;rfl
    ·cases h
  |_=>cases f<;>simp[wX]at h
 |pr b c =>
  cases f with
  |zero=>simp only[AV.UB,AQh]at h;subst h;rfl
  |succ f =>
   simp only[AV.UB]at h;split at h
   ·injection h with h;subst h;rfl
   ·cases h
 |_=>cases f<;>simp[AV.UB]at h
theorem AbN{c0 c1 c2 vs:ATU Value}(h:vs.length=c1.length):(vs.toArray.zipIdx.foldl (λcs (x:Value×Nat)=>cs.setIfInBounds (c0.length+x.2) x.1) (c0++c1++c2).toArray)=(c0++vs++c2).toArray:=by
 have e:vs.toArray.zipIdx.foldl (λcs (x:Value×Nat)=>cs.setIfInBounds (c0.length+x.2) x.1) (c0++c1++c2).toArray=(vs.zipIdx 0).foldl (λcs (x:Value×Nat)=>cs.setIfInBounds (c0.length+x.2) x.1) (c0++c1++c2).toArray:=by
  rw[<-Array.foldl_toList,Array.toList_zipIdx]
 rw[e];obtain⟨h1,h2⟩:=Great.foldl_set c0.length vs 0 (c0++c1++c2).toArray;apply Array.ext_getElem?;intro k;rw[h2 k];simp only[ASj,ARt,AQj,List.getElem?_toArray];by_cases hk:c0.length<=k/\k<c0.length+vs.length/\k<c0.length+c1.length+c2.length
 ·rw[AQx hk,AQn,AQB hk.1,AQC (by omega)]
 ·rw[AQy hk];rcases AQq k c0.length with h' |h'
  ·rw[AQn,AQn,AQC h',AQC h']
  ·have:c0.length+vs.length<=k:=by omega
   rw[AQB (by simp;omega),AQB (by simp;omega)];simp[h]
theorem pN{ty:Ty}:∀{fs:ATU Field} {os:ATU Nat} {i:Nat},Qh P ty i fs os=true ->
    ∃pl,fs.mapM (λf=>(P.info? f.type).map λi=>(f.offset,i.size))=some pl/\∀j o,os[j]?=some o->∃u,mX ty (i+j)=some u/\pl[j]?=some (o,u.size)
 |[],[],_,_=>⟨[],rfl,λj o h=>by simp at h⟩
 |f::fs,o::os,i,h=>by
  simp only[Qh,AQm,ARm]at h;obtain⟨⟨⟨h1,_⟩,h3⟩,h4⟩:=h;obtain⟨pl,hp,hq⟩:=pN h4;split at h3
  ·rename_i u hu;simp only[AQm,ARm]at h3;cases hi:P.info? f.type with
   |none=>simp[hi]at h3
   |some inf =>
    simp[hi]at h3;refine⟨(f.offset,inf.size)::pl,by simp[List.mapM_cons,hi,hp],λj o' ho=>?_⟩;cases j with
    |zero=>simp at ho;subst ho;exact⟨u,by simpa using hu,by simp[h1,h3.1.1]⟩
    |succ j =>
     obtain⟨u',h5,h6⟩:=hq j o' (by simpa using ho);exact⟨u',by rw[show i+(j+1)=i+1+j by omega];exact h5,by simpa using h6⟩
  ·cases h3
 |[],_::_,_,h=>by simp[Qh]at h
 |_::_,[],_,h=>by simp[Qh]at h
theorem Aaq{v:AV}(h:v.aX=true):v.OV=false/\v.Dp=false:=by cases v<;>simp_all [AV.aX,AV.OV,AV.Dp]
theorem j7{w:World}{g:G}{n:Nat}{ti:TI}{pl:ATU (Nat×Nat)}(vP:∀j o,ti.XQ[j]?=some o->∃u,mX ti.ty j=some u/\pl[j]?=some (o,u.size)){ρ:Operand->AV}{ε:Operand->Value}(hρ:∀x,B6 w g n (ρ x) (ε x)) :
    ∀{ps:ATU (Nat×Operand)} {a z:AV} {cs:ATU Value},Zj ti a (ps.map λp=>(p.1,ρ p.2))=some z->CK w g n false a cs->a.isAgg=true ->
     ∃nj,Instr.fill (pl.toArray[·]?) cs.toArray (ps.map λp=>(p.1,ε p.2))=some nj.toArray/\CK w g n false z nj/\z.isAgg=true
 |[],a,z,cs,h,hx,hg=>by
  simp only[ARN,Zj,AQh]at h;subst h;exact⟨cs,rfl,hx,hg⟩
 |(f,x)::ps,a,z,cs,h,hx,hg=>by
  simp only[AQ0,Zj]at h;split at h
  ·rename_i pH Yf;split at h
   ·rename_i hc;obtain⟨NC,Awm,QQ,jl⟩:=hc;split at h
    ·rename_i a' ha';obtain⟨c0,c1,c2,e,ho,k9,hs⟩:=Zq a f cs pH hx Yf;obtain⟨SJ,Zy⟩:=Aaq Awm;obtain⟨cv,Y1,hv⟩:=B4 Zy SJ (hρ x);have hvc:=cZ hv Y1.one;obtain⟨u,hu,hp⟩:=vP f c0.length (by rw[<-QQ];exact ho);rw[hu]at jl;simp only[Option.map_some,AQh]at jl;have U6:cv.length=c1.length:=by rw[Y1.len,k9.len,NC]
     obtain⟨nj,hf,hz,hza⟩:=j7 vP hρ h (hs _ _ _ ha' Y1) (cB ha');refine⟨nj,?_,hz,hza⟩;simp only[AQ0];unfold Instr.fill;have hp':pl.toArray[f]?=some (c0.length,u.size):=by simpa using hp
     simp only[hp'];have UN:(ε x).cells.size=u.size:=by rw[hvc];simp only[ARt];rw[Y1.len];omega
     have Sj:¬c0.length+(ε x).cells.size>cs.toArray.size:=by
      rw[hvc,e];simp;omega
     simp only[UN,ne_eq,not_true_eq_false,decide_false,ASq];rw[UN]at Sj;simp only[Sj,decide_false,AQ6,ARH];rw[<-hf];congr 1;rw[hvc,e];exact AbN U6
    ·cases h
   ·cases h
  ·cases h
end
end Go.Va
namespace Go.Va
section
variable {P:Program} {σ:St} {o:Oper} {en:G5} {e:Ih}
theorem w9{x:Operand}(ho:o.op=.move x\/o.op=.assign x):OL P σ o ⟨σ.Cp x,σ.Aj,[]⟩ :=
 .Jm λa w g hs=>⟨a.eval x,by rcases ho with ho |ho<;>simp[execOp,ho],AX hs x⟩
theorem Ai7{c x y:Operand}(ho:o.op=.pick c x y){ks:ATU Nat}{t:Bool}(hc:σ.Cp c=.AB ks .bool t):OL P σ o ⟨bif t then σ.Cp x else σ.Cp y,σ.Aj,[]⟩ :=
 .Jm λa w g hs=>by
  have h:=AX hs c;rw[hc]at h;have h:=TG h;refine⟨if t then a.eval x else a.eval y,by simp[execOp,ho,h,asBool],?_⟩;cases t
  ·exact AX hs y
  ·exact AX hs x
theorem eK{x:Operand}(ho:o.op=.nilCheck x)(hp:∀(w:World) (g:G) n v,B6 w g n (σ.Cp x) v->∃a,v=.pointer (some a)):OL P σ o ⟨σ.Cp x,σ.Aj,[]⟩ :=
 .Jm λa w g hs=>by
  obtain⟨ad,h⟩:=hp w g _ _ (AX hs x);exact⟨a.eval x,by simp[execOp,ho,h],AX hs x⟩
theorem AdP{op:BinOp}{t:TypeId}{x y:Operand}{yt:TypeId}(ho:o.op=.binOp op t x y yt){tb:Bool}(htb:tb=true->P.underlying t=some .bool){z:AV}(h:qJ op tb (σ.Cp x) (σ.Cp y) some=some z):OL P σ o ⟨z,σ.Aj,[]⟩ :=
 .Jm <| Ml (s:=λρ=>do eqGuard op t x y (ρ x) (ρ y);binOp op t (ρ x) (ρ y)) (λρ=>by simp[execOp,ho]) λa w g hs=>by
  obtain⟨z',e,hG⟩:=AkI t x y htb h (AX hs x) (AX hs y);injection e with e;subst e;exact hG
theorem Ai8{op:UnOp}{t:TypeId}{x:Operand}(ho:o.op=.unOp op t x){z:AV}(h:unA op (σ.Cp x) some=some z):OL P σ o ⟨z,σ.Aj,[]⟩ :=
 .Jm <| Ml (s:=λρ=>Op.unary op (ρ x)) (λρ=>by simp[execOp,ho]) λa w g hs=>by
  obtain⟨z',e,hG⟩:=AwQ h (AX hs x);injection e with e;subst e;exact hG
theorem w6{s t:TypeId}{x:Operand}(ho:o.op=.convert s t x){ts ti:TI}(hs:Fy P s ts)(ht:Fy P t ti){te:ATV Ty}(Er:∀u,te=some u->ts.EA=true/\∃mW,mW.ty=u/\Fy P ts.elem mW){z:AV}
    (h:dm σ.Aj te ti.ty (σ.Cp x) some=some z):OL P σ o ⟨z,σ.Aj,[]⟩ :=
 .Jm <| Ml (s:=λρ=>convert s t (ρ x)) (λρ=>by simp[execOp,ho]) λa w g BS=>by
  obtain⟨z',e,hG⟩:=AgK BS.heap hs ht Er h (AX BS x);injection e with e;subst e;exact hG
theorem Ai1{t:TypeId}{x:Operand}(ho:o.op=.load t x){ti:TI}(ht:Fy P t ti){z:AV}(h:br σ.Aj ti (σ.Cp x) some=some z):OL P σ o ⟨z,σ.Aj,[]⟩ :=
 .Jm <| Ml (s:=λρ=>Instr.loadAt t (ρ x)) (λρ=>by simp[execOp,ho]) λa w g BS=>by
  obtain⟨z',e,hG⟩:=Ah6 BS.heap ht h (AX BS x);injection e with e;subst e;exact hG
theorem nX{t:TypeId}{x:Operand}{f:Nat}(ho:o.op=.fieldAddr t x f){ti:TI}(ht:Fy P t ti){z:AV}(h:ny ti f (σ.Cp x) some=some z):OL P σ o ⟨z,σ.Aj,[]⟩ :=
 .Jm <| Ml (s:=λρ=>Instr.fieldAt t (ρ x) f) (λρ=>by simp[execOp,ho]) λa w g BS=>by
  obtain⟨z',e,hG⟩:=AlR (n:=σ.Aj.length) ht h (AX BS x);injection e with e;subst e;exact hG
theorem nY{t:TypeId}{x i:Operand}(ho:o.op=.indexAddr t x i){ti te:TI}(ht:Fy P t ti)(Er:Fy P ti.elem te)(Jk:ti.EA=true){z:AV}(h:zB σ.Aj te.ty (σ.Cp x) (σ.Cp i) some=some z):OL P σ o ⟨z,σ.Aj,[]⟩ :=
 .Jm <| Ml (s:=λρ=>Instr.indexAt t (ρ x) (ρ i)) (λρ=>by simp[execOp,ho]) λa w g BS=>by
  obtain⟨z',e,hG⟩:=Amd BS.heap ht Er Jk h (AX BS x) (AX BS i);injection e with e;subst e;exact hG
theorem AdU{t:TypeId}{x i:Operand}(ho:o.op=.index t x i){ti:TI}(ht:Fy P t ti)(hs:ti.ty=.str){z:AV}(h:qW (σ.Cp x) (σ.Cp i) some=some z):OL P σ o ⟨z,σ.Aj,[]⟩ :=
 .Jm <| Ml (s:=λρ=>Instr.index t (ρ x) (ρ i)) (λρ=>by simp[execOp,ho]) λa w g BS=>by
  obtain⟨z',e,hG⟩:=AlG (n:=σ.Aj.length) ht hs h (AX BS x) (AX BS i);injection e with e;subst e;exact hG
theorem AdW{t:TypeId}{x:Operand}{lo hi mx:ATV Operand}(ho:o.op=.slice t x lo hi mx){ti:TI}(ht:Fy P t ti){te:ATV Ty}(Er:∀u,te=some u->ti.EA=true/\∃mW,mW.ty=u/\Fy P ti.elem mW){z:AV}
    (h:Yp σ.Aj ti te (σ.Cp x) (lo.map σ.Cp) (hi.map σ.Cp) (mx.map σ.Cp) some=some z):OL P σ o ⟨z,σ.Aj,[]⟩ :=
 .Jm <| Ml (s:=λρ=>Instr.sliceAt t (ρ x) (lo.map ρ) (hi.map ρ) (mx.map ρ)) (λρ=>by simp[execOp,ho]) λa w g BS=>by
  obtain⟨z',e,hG⟩:=AdL BS.heap ht Er h (AX BS x) (az BS lo) (az BS hi) (az BS mx);injection e with e;subst e;exact hG
theorem w7{x:Operand}{i:Nat}(ho:o.op=.extract x i){z:AV}(h:Qz (σ.Cp x) i=some z)(hz:z.Dp=false):OL P σ o ⟨z,σ.Aj,[]⟩ :=
 .Jm <| Ml (s:=λρ=>Instr.extract (ρ x) i) (λρ=>by simp[execOp,ho]) λa w g BS=>by
  have hx:=AX BS x;cases hq:σ.Cp x with
  |cons b c =>
   rw[hq]at hx h;obtain⟨vs,e,hx⟩:=hx;obtain⟨v,hv,hr⟩:=Abc h hx;exact⟨v,by simp[Instr.extract,e,hv],hr hz⟩
  |_=>rw[hq]at h;simp[Qz]at h
theorem ZV{w:World}{g:G}{n:Nat}:∀{t:Ty},CK w g n false t.bL (Se t)
 |.int k=>⟨λ_ h=>by(cases h),rfl⟩
 |.bool=>⟨λ_ h=>by(cases h),rfl⟩
 |.str=>⟨λ_ h=>by(cases h),rfl⟩
 |.unit=>⟨λ_ h=>by(cases h),rfl⟩
 |.AH a b=>⟨_,_,rfl,ZV,ZV⟩
 |.sl _=>⟨none,rfl⟩
 |.Sp 0=>rfl
 |.Sp 1=>⟨rfl,by simp[Se,Value.oneCell']⟩
 |.Sp (_+2)=>⟨rfl,by simp[Se,Value.oneCell']⟩
theorem qc:∀{t:Ty},t.bL.isAgg=t.isAgg
 |.int _=>rfl
 |.bool=>rfl
 |.str=>rfl
 |.unit=>rfl
 |.AH _ _=>rfl
 |.sl _=>rfl
 |.Sp 0=>rfl
 |.Sp (_+1)=>rfl
theorem AdQ{t:TypeId}{G3:Array (Nat×Operand)}(ho:o.op=.build t G3){ti:TI}(ht:Fy P t ti)(oX:ti.XQ≠[]){z:AV}(h:Zj ti ti.ty.bL (G3.toList.map λp=>(p.1,σ.Cp p.2))=some z):OL P σ o ⟨z,σ.Aj,[]⟩ :=
 .Jm <| Ml (s:=λρ=>Instr.build t (G3.map λ(i,x)=>(i,ρ x))) (λρ=>by simp[execOp,ho]) λa w g BS=>by
  obtain⟨o0,ho0⟩:∃o0,ti.XQ[0]?=some o0:=by
   cases hq:ti.XQ with
   |nil=>exact(oX hq).elim
   |cons o0 r=>exact⟨o0,rfl⟩
  obtain⟨fs,hu,hf⟩:=Yr ht ho0;obtain⟨pl,vP,hp⟩:=pN hf;obtain⟨i,zv,hi,NC,vC,hz,zp,vz⟩:=ht.info;have ha:ti.ty.isAgg=true:=by
   obtain⟨d,hd,hk⟩:=ht.iy;rw[hu]at hd;injection hd with hd;subst hd;simp only[kindOk,AQm]at hk;exact hk.1
  obtain⟨nj,vF,hx,hxa⟩:=j7 (n:=σ.Aj.length) (λj o hj=>by simpa using hp j o hj) (AX BS) h ZV (by rw[qc];exact ha);refine⟨.agg nj.toArray,run_build w t _ _ ?_,Bv (Xb hx) hx (by rw[hxa];rfl)⟩;unfold Program.built;have oZ:zv.cells=(Se ti.ty).toArray:=by rw[<-zp]
  simp only[hi,hu,hz,vP,oZ];simpa using vF
theorem AnE{w:World}{g:G}{n:Nat}{ρ:Operand->AV}{ε:Operand->Value}(hρ:∀x,B6 w g n (ρ x) (ε x)):∀(l:ATU Operand),CK w g n true (X7 (l.map ρ)) (l.map ε)
 |[]=>rfl
 |x::l=>by
  refine⟨ε x,l.map ε,rfl,?_,AnE hρ l⟩;have h:=hρ x;split
  ·exact .inl rfl
  ·rename_i ht;exact(B6.iff (by simpa using ht)).1 h
theorem sS{f:FuncId}{first aQ:Array Operand}(ho:o.op=.makeFunc (.func f) first aQ)(h0:first.size=0):OL P σ o ⟨.fn f (X7 (aQ.toList.map σ.Cp)),σ.Aj,[]⟩ :=
 .Jm λa w g hs=>by
  have hf:first.map a.eval=#[]:=by
   apply Array.eq_empty_of_size_eq_zero;simp[h0]
  have hr:(execOp a.eval o).run P w=.ok (.value (.func (.func f) #[] (aQ.map a.eval))) w:=by simp[execOp,ho,Instr.makeFunc,hf]
  have hv:CK w g σ.Aj.length false (.fn f (X7 (aQ.toList.map σ.Cp))) [.func (.func f) #[] (aQ.map a.eval)]:=⟨aQ.toList.map a.eval,by rw[<-Array.toList_map,Array.toArray_toList],AnE (AX hs) _⟩;exact⟨_,hr,Bv rfl hv (by simp[Cm,AV.isAgg])⟩
theorem sC{k:Nat}{i:Int}{p:ATU Nat}{q:Nat}{w:World}{g:G}{n:Nat}{v:Value}(h:B6 w g n (.ptr k i p q) v):∃a,v=.pointer (some a):=by
 obtain⟨_,_,_,b,_,e⟩:=L1 h;exact⟨_,e⟩
theorem sD{ks:ATU Nat}{t:Ty}{y:t.V}{w:World}{g:G}{n:Nat}{v:Value}(h:B6 w g n (.FZ ks t y) v):∃a,v=.pointer (some a):=by
 obtain⟨_,b,off,_,e,_⟩:=Z2 h;exact⟨_,e⟩
end
end Go.Va
namespace Go.Va
theorem AaN{u:Ty}:∀{n i:Nat},i<n->mX (ux u n) i=some u/\V2 (ux u n) i=some (i*u.size)
 |n+1,0,_=>by simp[ux,mX,V2]
 |n+1,i+1,h=>by
  obtain⟨h1,h2⟩:=AaN (u:=u) (n:=n) (i:=i) (by omega);refine⟨by simpa [ux,mX]using h1,?_⟩;simp only[ux,V2,h2];rw[ARO,Nat.one_mul,Nat.add_comm]
theorem oR{place Aiy:Nat->ATV (Nat×Nat)}(h:∀i p,place i=some p->Aiy i=some p):∀{G3:ATU (Nat×Value)} {cs r:Array Value},Instr.fill place cs G3=some r->Instr.fill Aiy cs G3=some r
 |[],_,_,hf=>hf
 |(i,v)::iU,cs,r,hf=>by
  unfold Instr.fill at hf⊢;split at hf
  ·cases hf
  ·rename_i off size hp;rw[h i _ hp];simp only;split at hf
   ·cases hf
   ·rename_i hc;rw[AQy hc];exact oR h hf
section
variable {P:Program} {σ:St} {o:Oper} {en:G5}
theorem sQ{t:TypeId}{G3:Array (Nat×Operand)}(ho:o.op=.build t G3){ti te:TI}(ht:Fy P t ti)(Er:Fy P ti.elem te)(hn:ti.Ht≠0)(jl:ti.ty=ux te.ty ti.Ht){z:AV}
    (h:Zj (ti.plc te) ti.ty.bL (G3.toList.map λp=>(p.1,σ.Cp p.2))=some z):OL P σ o ⟨z,σ.Aj,[]⟩ :=
 .Jm <| Ml (s:=λρ=>Instr.build t (G3.map λ(i,x)=>(i,ρ x))) (λρ=>by simp[execOp,ho]) λa w g BS=>by
  have hu:=ht.Ht hn;have ha:ti.ty.isAgg=true:=by
   rw[jl];cases hq:ti.Ht with
   |zero=>exact(hn hq).elim
   |succ n=>rfl
  obtain⟨i,zv,hi,NC,vC,hz,zp,vz⟩:=ht.info;obtain⟨nj,vF,hx,hxa⟩:=j7 (ti:=ti.plc te) (pl:=(List.range ti.Ht).map λi=>(i*te.ty.size,te.ty.size)) (n:=σ.Aj.length) (w:=w) (g:=g) (λj o hj=>by
   simp only[TI.plc,AQI,Option.map_eq_some_iff]at hj;obtain⟨q,hq,rfl⟩:=hj;have bj:j<ti.Ht:=by
    have:=A4 hq;simpa using this
   rw[ARW bj]at hq;injection hq with hq;subst hq;refine⟨te.ty,by show mX ti.ty j=_;rw[jl];exact(AaN bj).1,?_⟩;simp[ARW bj]) (AX BS) h ZV (by rw[qc];exact ha)
  refine⟨.agg nj.toArray,?_,Bv (Xb hx) hx (by rw[hxa];rfl)⟩;have oZ:zv.cells=(Se ti.ty).toArray:=by rw[<-zp]
  have AvV:Instr.fill (λi=>some (i*te.ty.size,te.ty.size)) zv.cells (G3.map λ(i,x)=>(i,a.eval x)).toList=some nj.toArray:=by
   rw[oZ];refine oR (λi p hp=>?_) (by simpa using vF);simp only[List.getElem?_toArray,AQI,Option.map_eq_some_iff]at hp;obtain⟨q,hq,rfl⟩:=hp;have bj:i<ti.Ht:=by
    have:=A4 hq;simpa using this
   rw[ARW bj]at hq;injection hq with hq;subst hq;rfl
  have AvW:Instr.fill (λi=>some (i*te.ty.size,te.ty.size)) zv.cells (List.map (λx=>(x.fst,a.eval x.snd)) G3.toList)=some nj.toArray:=by simpa using AvV
  simp[Instr.build,run_underlying hu,zeroValue,typeInfo,hi,hz,D4 Er,AvW]
theorem sR{t:TypeId}{x i:Operand}(ho:o.op=.index t x i){ti te:TI}(ht:Fy P t ti)(Er:Fy P ti.elem te)(hn:ti.Ht≠0){ks:ATU Nat}{kk:IntKind}{j:Int}(hi:σ.Cp i=.AB ks (.int kk) j)
    (hj:0<=j/\j<(ti.Ht:Int)/\(σ.Cp x).off j.toNat=some (j.toNat*te.ty.size)/\(σ.Cp x).isAgg=true/\(σ.Cp x).Dp=false) {v:AV} (hv:(σ.Cp x).b5 j.toNat=some v) (NC:v.size=te.ty.size/\v.isAgg=te.ty.isAgg):OL P σ o ⟨v,σ.Aj,[]⟩ :=
 .Jm <| Ml (s:=λρ=>Instr.index t (ρ x) (ρ i)) (λρ=>by simp[execOp,ho]) λa w g BS=>by
  have hu:=ht.Ht hn;obtain⟨h0,h1,QQ,vz,Zy⟩:=hj;have hix:=AX BS i;rw[hi]at hix;have hie:=DF hix;have YL:=AX BS x;have SJ:(σ.Cp x).OV=false:=by
   cases hq:σ.Cp x<;>rw[hq]at hv<;>first |rfl |simp[AV.b5]at hv
  obtain⟨cs,UN,vV⟩:=B4 Zy SJ YL;rw[vz]at vV;have vV:a.eval x=.agg cs.toArray:=vV;obtain⟨c0,c1,c2,e,x8,k9,_⟩:=Zq _ _ cs v UN hv;rw[QQ]at x8;injection x8 with x8;have U6:c1.length=te.ty.size:=by rw[k9.len,NC.1]
  rw[hie,vV];cases hg:te.ty.isAgg with
  |true =>
   refine⟨.agg c1.toArray,?_,Bv (Xb k9) k9 (by rw[NC.2,hg];rfl)⟩;have hex:cs.toArray.extract (j.toNat*te.ty.size) (j.toNat*te.ty.size+te.ty.size)=c1.toArray:=by
    apply Array.ext';rw[Array.toList_extract,x8,e];simp only[List.extract];rw[show c0.length+te.ty.size-c0.length=c1.length by omega,AQn,List.drop_left,ARX]
   have AvU:List.take te.ty.size (List.drop (j.toNat*te.ty.size) cs)=c1:=by
    rw[x8,e,AQn,List.drop_left,<-U6,ARX]
   simp[Instr.index,asIntOf,run_underlying hu,h0,h1,part,cY Er,hg,D4 Er,AvU]
  |false =>
   have Zt:te.ty.size=1:=T9 hg;obtain⟨u,hu1⟩:∃u,c1=[u]:=by
    cases c1 with
    |nil=>rw[Zt]at U6;cases U6
    |cons u r=>cases r with
     |nil=>exact⟨u,rfl⟩
     |cons _ _=>rw[Zt]at U6;simp at U6
   subst hu1;refine⟨u,?_,Bv (Xb k9) k9 (by rw[NC.2,hg];rfl)⟩;have XF:cs[j.toNat*te.ty.size]?=some u:=by
    rw[x8,e,AQn,AQB (AQl _),ASa];rfl
   simp[Instr.index,asIntOf,run_underlying hu,h0,h1,part,cY Er,hg,D4 Er,XF]
theorem vn{ty:Ty}:∀{fs:ATU Field} {os:ATU Nat} {i j:Nat} {fd:Field} {u:Ty},Qh P ty i fs os=true->fs[j]?=some fd->mX ty (i+j)=some u->∃d,P.underlying fd.type=some d/\AkD d=u.isAgg
 |[],_,_,_,_,_,_,h,_=>by simp at h
 |_::_,[],_,_,_,_,h,_,_=>by simp[Qh]at h
 |f::fs,o'::os,i,0,fd,u,h,hf,hu=>by
  simp only[List.getElem?_cons_zero,AQh]at hf;subst hf;simp only[Qh,AQm]at h;obtain⟨⟨_,h3⟩,_⟩:=h;rw[show mX ty i=some u from hu]at h3;simp only[AQm]at h3;have h4:=h3.2;unfold AEE at h4;cases hd:P.underlying f.type with
  |none=>rw[hd]at h4;cases h4
  |some d=>rw[hd]at h4;exact⟨d,rfl,by simpa using h4⟩
 |f::fs,o'::os,i,j+1,fd,u,h,hf,hu=>by
  simp only[Qh,AQm]at h;exact vn (i:=i+1) h.2 (by simpa using hf) (by rw[show i+1+j=i+(j+1) by omega];exact hu)
theorem Afi{w:World}{t:Nat}{d:TypeDesc}(h:P.underlying t=some d):(isAgg t).run P w=.ok (AkD d) w:=by
 cases d<;>simp[isAgg,underlying,h,AkD]
theorem AdS{t:TypeId}{x:Operand}{f:Nat}(ho:o.op=.field t x f){ti:TI}(ht:Fy P t ti){fo:Nat}(hfo:ti.XQ[f]?=some fo){u:Ty}(hu:mX ti.ty f=some u){v:AV}(hv:(σ.Cp x).b5 f=some v)
    (hc:(σ.Cp x).off f=some fo/\(σ.Cp x).isAgg=true/\(σ.Cp x).Dp=false/\v.size=u.size/\v.isAgg=u.isAgg):OL P σ o ⟨v,σ.Aj,[]⟩ :=
 .Jm <| Ml (s:=λρ=>Instr.field t (ρ x) f) (λρ=>by simp[execOp,ho]) λa w g BS=>by
  obtain⟨QQ,vz,Zy,AKH,AGY⟩:=hc;obtain⟨fs,AG2,hfl⟩:=Yr ht hfo;obtain⟨fd,u',inf,h1,h2,h3,h4,h5,h6,h7⟩:=rD hfl hfo;rw[AQL]at h3 h4;have:u'=u:=by rw[hu]at h4;injection h4 with h4;exact h4.symm
  subst this;obtain⟨d,hd,hda⟩:=vn (i:=0) hfl h1 (by rw[AQL];exact hu);have hfd:fs[f]?=some fd:=by rw[<-AQt];exact h1
  have hsr:(sizeOf fd.type).run P w=.ok u'.size w:=by simp[sizeOf,typeInfo,h5,h6]
  have har:=Afi (w:=w) hd;rw[hda]at har;have YL:=AX BS x;have SJ:(σ.Cp x).OV=false:=by
   cases hq:σ.Cp x<;>rw[hq]at hv<;>first |rfl |simp[AV.b5]at hv
  obtain⟨cs,UN,vV⟩:=B4 Zy SJ YL;rw[vz]at vV;have vV:a.eval x=.agg cs.toArray:=vV;obtain⟨c0,c1,c2,e,x8,k9,_⟩:=Zq _ _ cs v UN hv;rw[QQ]at x8;injection x8 with x8;have U6:c1.length=u'.size:=by rw[k9.len,AKH]
  rw[vV];cases hg:u'.isAgg with
  |true =>
   rw[hg]at har;refine⟨.agg c1.toArray,?_,Bv (Xb k9) k9 (by rw[AGY,hg];rfl)⟩;have AvU:List.take u'.size (List.drop fo cs)=c1:=by
    rw[x8,e,AQn,List.drop_left,<-U6,ARX]
   simp[Instr.field,underlying,AG2,hfd,asAgg,part,har,hsr,h2,AvU]
  |false =>
   rw[hg]at har;have Zt:u'.size=1:=T9 hg;obtain⟨y,hy⟩:∃y,c1=[y]:=by
    cases c1 with
    |nil=>rw[Zt]at U6;cases U6
    |cons y r=>cases r with
     |nil=>exact⟨y,rfl⟩
     |cons _ _=>rw[Zt]at U6;simp at U6
   subst hy;refine⟨y,?_,Bv (Xb k9) k9 (by rw[AGY,hg];rfl)⟩;have XF:cs[fo]?=some y:=by
    rw[x8,e,AQn,AQB (AQl _),ASa];rfl
   simp[Instr.field,underlying,AG2,hfd,asAgg,part,har,h2,XF]
theorem gW{t:TypeId}{w:World}{ti te:TI}(ht:Fy P t ti)(Er:Fy P ti.elem te)(hn:ti.Ht≠0){kk:IntKind}{j:Int}(h0:0<=j)(h1:j<(ti.Ht:Int))(b f:Nat) :
    (Instr.indexAt t (.pointer (some ⟨b,f,none⟩)) (.int kk j)).run P w=.ok (.pointer (some ⟨b,f+j.toNat*te.ty.size,none⟩)) w:=by
 have hu:=ht.Ht hn;simp[Instr.indexAt,asIntOf,run_underlying hu,Instr.sureAddr,h0,h1,D4 Er,aP]
theorem gn{t:TypeId}{x i:Operand}(ho:o.op=.indexAddr t x i){ti te:TI}(ht:Fy P t ti)(Er:Fy P ti.elem te)(hn:ti.Ht≠0){ks:ATU Nat}{kk:IntKind}{j:Int}(hi:σ.Cp i=.AB ks (.int kk) j)
    (h0:0<=j) (h1:j<(ti.Ht:Int)) {v:AV}
    (hv : (match σ.Cp x with
          |.ptr k q p f=>some (.ptr k q (p++[j.toNat]) (f+j.toNat*te.ty.size))
          |.FZ ks t' y=>if V2 t' j.toNat=some (j.toNat*te.ty.size)then match Yb ks t' y j.toNat with |some (.AB _ u z)=>some (.FZ ks u z)|_=>none else none
          |_=>none)=some v):OL P σ o ⟨v,σ.Aj,[]⟩ :=
 .Jm <| Ml (s:=λρ=>Instr.indexAt t (ρ x) (ρ i)) (λρ=>by simp[execOp,ho]) λa w g BS=>by
  have hix:=AX BS i;rw[hi]at hix;have hie:=DF hix;have YL:=AX BS x;rw[hie];split at hv
  ·rename_i k q p f hq;injection hv with hv;subst hv;rw[hq]at YL;obtain⟨hk,g0,g1,b,hb,e⟩:=L1 YL;rw[e];refine⟨_,gW ht Er hn h0 h1 b _,?_⟩;rw[ARk];exact fX hk g0 g1 hb
  ·rename_i ks t' y hq;rw[hq]at YL;split at hv
   ·rename_i QQ;split at hv
    ·rename_i Vb u z hz;injection hv with hv;subst hv;obtain⟨hk,b,off,ds,e0,ha,hr,hc⟩:=Z2 YL;obtain⟨c0,c1,c2,e,x8,_,⟨u',y',heq,gQ⟩,_⟩:=ag (g:=g) hk _ _ y ds _ hr hz;injection heq with _ h2 h3;subst h2;obtain rfl:=eq_of_heq h3;rw[QQ]at x8;injection x8 with x8;rw[e0];refine⟨_,gW ht Er hn h0 h1 b off,fY hk ha gQ λq' u rR=>?_⟩;rw[ARk];refine hc _ u ?_;rw[e,AQn,AQB (by omega),show j.toNat*te.ty.size+q'-c0.length=q' by omega,AQC (A4 rR)];exact rR
    ·cases hv
   ·cases hv
  ·cases hv
end
end Go.Va
namespace Go.Va
def G.add(g:G)(n b:Nat)(i:BI):G:=⟨λq=>if q=b then .BQ n []else g.own q,λk=>if k=n then i else g.A2 k⟩
def G.O4(g:G)(rs:ATU Nat):G:=⟨λq=>match g.own q with |.BQ j r=>if j∈rs then .Jl else .BQ j r |t=>t,g.A2⟩
section
variable {w:World} {g:G} {bs:ATU Blk}
theorem VP(H:Bi w g bs){b:Nat}(h:g.own b≠.no):b<w.heap.size:=by
 rcases AQq b w.heap.size with h' |h'
 ·exact h'
 ·exact(h (H.B3 b h')).elim
theorem Step.add(H:Bi w g bs)(o:Obj)(i:BI):Step [] bs.length w g (w.alloc o) (g.add bs.length w.heap.size i) where
 os:=rfl
 tape:=rfl
 output:=rfl
 size:=by show w.heap.size<=(w.heap.push o).size;simp
 no b hb h:=by
  refine⟨by simp[G.add,h,Nat.ne_of_lt hb],heap_alloc_old w o b hb⟩
 Jl b h:=by
  have hb:=VP H (b:=b) (by rw[h];simp);exact⟨by simp[G.add,h,Nat.ne_of_lt hb],heap_alloc_old w o b hb⟩
 BQ b k p h hk _:=by
  have hb:=VP H (b:=b) (by rw[h];simp);exact⟨by simp[G.add,h,Nat.ne_of_lt hb],heap_alloc_old w o b hb⟩
 A2 k hk:=by simp[G.add,Nat.ne_of_lt hk]
theorem AcW(H:Bi w g bs)(o:Obj)(i:BI):∀b,(w.alloc o).heap.size<=b->(g.add bs.length w.heap.size i).own b=.no:=by
 intro b hb;have NC:(w.alloc o).heap.size=w.heap.size+1:=by show(w.heap.push o).size=_;simp
 have zo:w.heap.size+1<=b:=by omega
 have:b≠w.heap.size:=by omega
 simp[G.add,this,H.B3 b (by omega)]
theorem Bi.new(H:Bi w g bs){o:Obj}{i:BI}{b:Blk}(hb:ND (w.alloc o) (g.add bs.length w.heap.size i) (bs.length+1) bs.length b):Bi (w.alloc o) (g.add bs.length w.heap.size i) (bs++[b]) :=
 H.push (Step.add H o i) (AcW H o i) hb
theorem Step.O4(rs:ATU Nat)(n:Nat)(w:World)(g:G):Step rs n w g w (g.O4 rs) where
 os:=rfl
 tape:=rfl
 output:=rfl
 size:=AQl _
 no b _ h:=⟨by simp[G.O4,h],rfl⟩
 Jl b h:=⟨by simp[G.O4,h],rfl⟩
 BQ b k p h _ hm:=⟨by simp[G.O4,h,hm],rfl⟩
 A2 _ _:=rfl
theorem Bi.cL{w':World}{g':G}{BF:ATU Nat}{HT:ATU Blk}(H:Bi w g bs)(s:Step BF bs.length w g w' g')(hf:∀b,w'.heap.size<=b->g'.own b=.no)(hl:bs.length<=HT.length)
    (hb:∀(j:Nat) (x:Blk),HT[j]?=some x->x=.Bd\/(j∉BF/\∃y,bs[j]?=some y/\x=y.drop λk=>BF.contains k)\/ND w' g' HT.length j x):Bi w' g' HT :=
 ⟨hf,λj x hx=>by
  rcases hb j x hx with h |⟨hm,y,hy,rfl⟩|h
  ·subst h;trivial
  ·exact(H.MR j y hy).step s hl (A4 hy) hm
  ·exact h⟩
theorem Du{BF:ATU Nat}{bs:ATU Blk}{i:Nat}{x:Blk}(h:(Be BF bs)[i]?=some x):∃y,bs[i]?=some y/\x=y.drop λk=>BF.contains k:=by
 unfold Be at h;split at h
 ·exact⟨x,h,by rw[show(λk=>([]:ATU Nat).contains k)=λ_=>false from funext λ_=>rfl,dc]⟩
 ·rw[AQI]at h;cases hs:bs[i]? with
  |none=>rw[hs]at h;cases h
  |some y=>rw[hs]at h;injection h with h;exact⟨y,rfl,h.symm⟩
theorem AJ(BF:ATU Nat)(bs:ATU Blk):(Be BF bs).length=bs.length:=by unfold Be;split<;>simp
theorem Bc:∀(rs:ATU Nat) (bs:ATU Blk),(Blk.Hd bs rs).length=bs.length
 |[],_=>rfl
 |k::r,bs=>by rw[Blk.Hd,Bc r,AQo]
theorem Ln:∀{rs:ATU Nat} {bs:ATU Blk} {j:Nat} {x:Blk},(Blk.Hd bs rs)[j]?=some x->x=.Bd\/(j∉rs/\bs[j]?=some x)
 |[],_,_,_,h=>.inr ⟨by simp,h⟩
 |k::r,bs,j,x,h=>by
  rcases Ln (rs:=r) h with h' |⟨h1,h2⟩
  ·exact .inl h'
  ·rw[AQE]at h2;split at h2
   ·split at h2
    ·injection h2 with h2;exact .inl h2.symm
    ·cases h2
   ·rename_i LN;exact .inr ⟨by simp;exact⟨λe=>LN e.symm,h1⟩,h2⟩
end
section
variable {P:Program} {σ:St} {o:Oper} {en:G5} {e:Ih}
theorem me{x:AV}{el:TypeId}{f:Act->Value}(ho:∀a:Act,∀w:World,∀g:G,LJ w g σ a->(execOp a.eval o).run P w=.ok (.value (.pointer (some ⟨w.heap.size,0,none⟩))) (w.alloc (.cells (f a).cells el))/\∃cs,CK w g σ.Aj.length false x cs/\(f a).cells=cs.toArray) :
    OL P σ o ⟨.ptr σ.Aj.length 0 [] 0,σ.Aj++[.box x],[]⟩ where
 grow:=by simp
 ext _:=⟨_,rfl⟩
 wp a w g hs next Q hn:=by
  obtain⟨hr,cs,UN,hc⟩:=ho a w g hs;unfold Oper.wp;rw[hr];have st:=Step.add hs.heap (.cells (f a).cells el) ⟨some ⟨w.heap.size,0,none⟩,1,1,0⟩;refine hn _ _ (g.add σ.Aj.length w.heap.size ⟨some ⟨w.heap.size,0,none⟩,1,1,0⟩) (hs.heap.new ?_) ?_ st
  ·refine⟨by simp[G.add],w.heap.size,(f a).cells,el,by simp[G.add],by simp[G.add],heap_alloc_new w _,?_⟩;have e1:(f a).cells.toList=cs:=by rw[hc]
   rw[e1];exact UN.Sb st (AQQ _)
  ·have:=fX (w:=w.alloc (.cells (f a).cells el)) (g:=g.add σ.Aj.length w.heap.size ⟨some ⟨w.heap.size,0,none⟩,1,1,0⟩) (n:=(σ.Aj++[Blk.box x]).length) (k:=σ.Aj.length) (i:=0) (p:=[]) (o:=0) (b:=w.heap.size)
     (by simp) (ARs _) (by simp[G.add]) (by simp[G.add])
   simpa using this
theorem AmH{el:TypeId}{x:Operand}(ho:o.op=.box el x)(ht:(σ.Cp x).aX=true):OL P σ o ⟨.ptr σ.Aj.length 0 [] 0,σ.Aj++[.box (σ.Cp x)],[]⟩ :=
 me (el:=el) (f:=λa=>a.eval x) λa w g hs=>by
  obtain⟨h1,h2⟩:=Aaq ht;obtain⟨cs,UN,hv⟩:=B4 h2 h1 (AX hs x);exact⟨by simp[execOp,ho,Instr.box,newVar,newRow],cs,UN,cZ hv UN.one⟩
theorem AdO{el:TypeId}(ho:o.op=.alloc el){ti:TI}(ht:Fy P el ti):OL P σ o ⟨.ptr σ.Aj.length 0 [] 0,σ.Aj++[.box ti.ty.bL],[]⟩:=by
 obtain⟨i,z,hi,_,_,hz,hc,_⟩:=ht.info;refine me (el:=el) (f:=λ_=>z) λa w g hs=>⟨?_,Se ti.ty,ZV,by rw[<-hc]⟩;simp[execOp,ho,Instr.alloc,zeroValue,typeInfo,hi,hz,newVar,newRow]
theorem fT(z:Array Value){s l c:Nat}(hs:z.size=s)(h0:0<s)(hl:l<=c):(madeCells z (c*s)).toList.take (l*s)=(List.replicate l (Value.agg z)).flatMap λv=>v.cells.toList:=by
 apply ARu;intro k;rw[Great.flat_get h0 _ (λv hv=>by rw[List.eq_of_mem_replicate hv];exact hs),ARg];have hm:l*s<=c*s:=AQ8 s hl;by_cases hk:k<l*s
 ·have hd:k/s<l:=(Nat.div_lt_iff_lt_mul h0).2 hk;have hr:k%s<s:=Nat.mod_lt _ h0;rw[AQx hk,List.getElem?_replicate,AQx hd];have X0:k<(madeCells z (c*s)).toList.length:=by simp[madeCells];omega
  rw[ARo X0];have hr':k%s<z.size:=by omega
  simp only[madeCells,Value.cells,hs];simp;rw[AQ3 hr',getElem!_pos z _ hr']
 ·have hd:¬k/s<l:=λh=>hk ((Nat.div_lt_iff_lt_mul h0).1 h);rw[AQy hk,List.getElem?_replicate,AQy hd];rfl
theorem aC{α:Type}{I:Nat->α->ATU Value->Prop}{x:α}{v:Value}(h:∀i,I i x v.cells.toList):∀(l i:Nat),Bo I i (List.replicate l x) ((List.replicate l v).flatMap λv=>v.cells.toList)
 |0,_=>rfl
 |l+1,i=>by
  rw[List.replicate_succ,List.replicate_succ,List.flatMap_cons];exact⟨_,_,rfl,h i,aC h l (i+1)⟩
theorem lY{t:Ty}(h:t.row=true):t.data=true/\0<t.size:=by
 simp only[Ty.row,AQm,ARY]at h;exact⟨h.1,ARQ h.2⟩
theorem qe{w:World}{own:Nat->VC}{k:Nat}{t:Ty}(h:t.data=true){v:Value}(hv:v.cells.toList=Se t)(l:Nat)(fi:FI) :
    uf w own k (fi.mode t) t (List.replicate l t.zero) ((List.replicate l v).flatMap λv=>v.cells.toList):=by
 unfold FI.mode;split
 ·exact aC (λi=>by rw[hv];exact Kl.zero h) l 0
 ·exact IV.2 (aC (I:=λ_=>Ii w (Al own []) t) (λi=>by rw[hv];exact Ii.zero h) l 0)
theorem V1(fi:FI)(t:Ty):(fi.mode t).Ck=[]:=by unfold FI.mode;split<;>rfl
theorem AHc{l c:Int}(h0:0<=l)(h:l<=c)(hm:c<=9223372036854775807):l.toNat<=c.toNat/\c.toNat<=maxLen:=by
 simp only[maxLen];omega
theorem Ai3{t:TypeId}{l c:Operand}(ho:o.op=.makeSlice t l c){fi:FI}{ti te:TI}(ht:Fy P t ti)(Er:Fy P ti.elem te)(Jk:ti.EA=true)
    (h:pq fi σ.Aj ti.elem te (σ.Cp l) (σ.Cp c) some=some e):OL P σ o e:=by
 unfold pq at h;split at h
 ·rename_i x1 x2 ks1 k1 lv ks2 k2 cv hl hc;split at h
  ·rename_i hg;obtain⟨O6,h0,hlc,vC,vK⟩:=hg;injection h with h;subst h;obtain⟨kU,BX⟩:=lY O6;obtain⟨i,z,hi,NC,hbs,hz,oZ,_⟩:=Er.info;refine⟨by simp,λ_=>⟨_,rfl⟩,λa w g hs next Q hn=>?_⟩
   have e1:=AX hs l;rw[hl]at e1;have e1:=DF e1;have e2:=AX hs c;rw[hc]at e2;have e2:=DF e2;have hr:=run_make (P:=P) w t ti.elem i z (BD ht Jk) hi hz k1 k2 lv cv h0 hlc (by rw[hbs];exact vC) vK;unfold Oper.wp;simp only[execOp,ho,e1,e2,Sem.run_bind,hr,Result.andThen_ok];obtain⟨OO,hcm⟩:=AHc h0 hlc vK;have st:=Step.add hs.heap (.cells (madeCells z.cells (cv.toNat*i.size)) ti.elem) ⟨some ⟨w.heap.size,0,none⟩,lv.toNat,cv.toNat,te.ty.size⟩;refine hn _ _ _ (hs.heap.new ?_) ?_ st
   ·refine⟨(by rw[V1];intro j hj;cases hj),by simp[G.add],by simp[G.add],BX,.inr ⟨w.heap.size,_,_,by simp[G.add],by simp[G.add],⟨_,.inr rfl,heap_alloc_new w _⟩,by simpa [G.add]using OO,by simpa [G.add]using hcm,by simp[G.add,size_madeCells,NC],rfl,?_⟩⟩;rw[AQM,NC];rw[fT z.cells (by rw[<-ARh,oZ,Ti]) BX OO];exact qe kU (by show z.cells.toList=_;exact oZ) _ fi
   ·refine Bv (cs:=[_]) rfl ⟨by simp,rfl⟩ ?_;simp[Cm,AV.isAgg,G.add]
  ·cases h
 ·cases h
end
end Go.Va
namespace Go.Va
def G.Wt(g:G)(f:Nat->ATU Nat->VC)(ob:ATV Nat)(n:Nat)(i:BI):G :=
 ⟨λq=>if ob=some q then .BQ n []else match g.own q with |.BQ j r=>f j r |t=>t,λk=>if k=n then i else g.A2 k⟩
section
variable {w w':World} {g:G} {bs:ATU Blk} {f:Nat->ATU Nat->VC} {ob:ATV Nat} {n N:Nat} {i:BI} {BF:ATU Nat}
theorem Step.Wt(fr:∀b,w.heap.size<=b->g.own b=.no)(hos:w'.os=w.os)(hta:w'.tape=w.tape)(hou:w'.output=w.output)(NC:w.heap.size<=w'.heap.size)
    (WE:∀q,q<w.heap.size->(∀k p,g.own q=.BQ k p->k∉BF)->w'.heap[q]?=w.heap[q]?) (zx:∀q,ob=some q->w.heap.size<=q) (hN:n<=N) (hf:∀j r,j<n->j∉BF->f j r=.BQ j r) :
    Step BF n w g w' (g.Wt f ob N i):=by
 have lt:∀b,g.own b≠.no->b<w.heap.size:=λb h=>by
  rcases AQq b w.heap.size with h' |h'
  ·exact h'
  ·exact(h (fr b h')).elim
 have nob:∀b,b<w.heap.size->¬(ob=some b):=λb hb e=>by have:=zx b e;omega
 refine⟨hos,hta,hou,NC,λb hb h=>⟨?_,WE b hb λk p e=>?_⟩,λb h=>⟨?_,WE b (lt b (by rw[h];simp)) λk p e=>?_⟩,λb k p h hk hm=>⟨?_,WE b (lt b (by rw[h];simp)) λk' p' e=>?_⟩,λk hk=>?_⟩
 ·simp[G.Wt,nob b hb,h]
 ·rw[h]at e;cases e
 ·simp[G.Wt,nob b (lt b (by rw[h];simp)),h]
 ·rw[h]at e;cases e
 ·simp[G.Wt,nob b (lt b (by rw[h];simp)),h,hf k p hk hm]
 ·rw[h]at e;injection e with e;subst e;exact hm
 ·have:k≠N:=by omega
  simp[G.Wt,this]
theorem NI(fr:∀b,w.heap.size<=b->g.own b=.no)(NC:w.heap.size<=w'.heap.size)(zx:∀q,ob=some q->q<w'.heap.size):∀b,w'.heap.size<=b->(g.Wt f ob N i).own b=.no:=by
 intro b hb;have h1:¬(ob=some b):=λe=>by have:=zx b e;omega
 simp[G.Wt,h1,fr b (AQJ NC hb)]
end
def Lp:AV->ATU Nat->ATU (Nat×ATU Nat)
 |.AG k,p=>[(k,p)]
 |.pr a b,p=>Lp a (0::p)++Lp b (1::p)
 |_,_=>[]
theorem G4:∀(a:AV) (p:ATU Nat),(Lp a p).map (·.1)=a.Sq
 |.AG k,_=>rfl
 |.mp _,_=>rfl
 |.pr a b,p=>by simp[Lp,AV.Sq,G4 a,G4 b]
 |.AB _ _ _,_=>rfl
 |.zs,_=>rfl
 |.ptr _ _ _ _,_=>rfl
 |.FZ _ _ _,_=>rfl
 |.KQ,_=>rfl
 |.fn _ _,_=>rfl
 |.cons _ _,_=>rfl
 |.nil,_=>rfl
 |.Vh _ _ _ _ _,_=>rfl
 |.Xc _ _ _ _ _ _,_=>rfl
 |.un _,_=>rfl
def lB:ATU (Nat×ATU Nat)->Nat->ATV (ATU Nat)
 |[],_=>none
 |(k,p)::r,j=>if k=j then some p else lB r j
theorem dV:∀{M:ATU (Nat×ATU Nat)},nodup (M.map (·.1))=true->∀{j p},(j,p)∈M->lB M j=some p
 |(k,q)::r,hn,j,p,h=>by
  simp only[AQ0,nodup,AQm,ARC]at hn;simp only[lB];rcases List.mem_cons.1 h with h |h
  ·injection h with h1 h2;subst h1;subst h2;simp
  ·split
   ·rename_i e;subst e;have:k∈r.map (·.1):=List.mem_map.2 ⟨_,h,rfl⟩;simp at hn this;obtain⟨x,hx⟩:=this;exact(hn.1 x hx).elim
   ·exact dV hn.2 h
theorem Vy:∀{M:ATU (Nat×ATU Nat)} {j:Nat},j∉M.map (·.1)->lB M j=none
 |[],_,_=>rfl
 |(k,q)::r,j,h=>by
  simp only[AQ0,ARP,not_or]at h;simp only[lB,AQy (Ne.symm h.1)];exact Vy h.2
section
variable {w:World} {g:G} {bs:ATU Blk}
theorem Ad6(H:Bi w g bs){OX:Nat->VC}{k:Nat}:∀(t:Ty) (v:AV) (y:t.V) (cs:ATU Value) (p:ATU Nat),rd bs t v=some y->v.Zp=true->(∀j∈v.Sq,eC bs j=some .Aw) ->
    (∀jq∈Lp v p,∀b q,g.own b=.BQ jq.1 q->OX b=.BQ k (q++jq.2))->CK w g bs.length false v cs->Kl w OX k t p y cs:=by
 have plain:∀(t:Ty) (ks:ATU Nat) (u:Ty) (y:u.V) (x:t.V) (cs:ATU Value) (p:ATU Nat),JQ u t y=some x->u.BU=true->CK w g bs.length false (.AB ks u y) cs->Kl w OX k t p x cs:=by
  intro t ks u y x cs p h hf hx;obtain⟨e,he⟩:=BO h;subst e;simp only at he;subst he;exact(Kl.BU hf).2 ((Ii.BU hf).1 hx.2)
 intro t;induction t with
 |AH a b iha ihb =>
  intro v y cs p h hf hd hm hx;simp only[rd]at h;split at h
  ·exact plain _ _ _ _ _ _ _ h (by simpa [AV.Zp]using hf) hx
  ·rename_i u z;split at h
   ·rename_i y1 y2 h1 h2;injection h with h;subst h;obtain⟨c,d,e,k9,yd⟩:=hx;simp only[AV.Zp,AQm]at hf;exact⟨c,d,e,iha u y1 c _ h1 hf.1 (λj hj=>hd j (by simp[AV.Sq,hj])) (λjq hj=>hm jq (by simp[Lp,hj])) k9,
     ihb z y2 d _ h2 hf.2 (λj hj=>hd j (by simp[AV.Sq,hj])) (λjq hj=>hm jq (by simp[Lp,hj])) yd⟩
   ·cases h
  ·cases h
 |sl t _ =>
  intro v y cs p h hf hd hm hx;simp only[rd]at h;split at h
  ·exact plain _ _ _ _ _ _ _ h (by simpa [AV.Zp]using hf) hx
  ·injection h with h;subst h;obtain⟨ad,e⟩:=hx;exact⟨ad,0,e,.inl ⟨rfl,rfl⟩⟩
  ·rename_i j;split at h
   ·rename_i el m u ys hb;obtain⟨e',he⟩:=BO h;injection e' with e';subst e';simp only at he;subst he;obtain⟨hk,hc⟩:=hx;have AnN:=hd j (by simp[AV.Sq]);simp only[eC,hb,AQh]at AnN;subst AnN;obtain⟨_,hlen,QT,BX,hr⟩:=H.MR j _ hb;have hmj:=hm (j,p) (by simp[Lp]);rw[hlen]at hc;refine⟨_,_,hc,hr.imp id λ⟨b,BA,ds,ha,Cv,⟨el,_,hh⟩,h1,h2,h3,h4,Ku⟩=>⟨b,el,BA,ds,ha,by simpa using hmj b [] Cv,hh,h1,h2,h3,h4,?_⟩⟩;exact Bo.mono (λi x c r=>r.mono λb q hb=>⟨by simpa using hmj b _ hb,rfl⟩) Ku
   ·cases h
  ·cases h
 |_ =>
  intro v y cs p h hf hd hm hx;simp only[rd]at h;split at h
  ·exact plain _ _ _ _ _ _ _ h (by simpa [AV.Zp]using hf) hx
  ·cases h
theorem cm:∀(v:AV) (j:Nat),j∈v.VY bs->j∈v.Sq\/j∈v.iG\/∃r∈v.Sq,∃l,eC bs r=some (.sh l)/\j∈l
 |.AB ks _ _,j,h=>.inr (.inl h)
 |.AG k,j,h=>by
  simp only[AV.VY]at h;rcases List.mem_cons.1 h with h |h
  ·exact .inl (by simp[AV.Sq,h])
  ·cases hm:eC bs k with
   |none=>rw[hm]at h;cases h
   |some m =>
    rw[hm]at h;cases m with
    |Aw=>cases h
    |sh l=>exact .inr (.inr ⟨k,by simp[AV.Sq],l,hm,h⟩)
 |.pr a b,j,h=>by
  simp only[AV.VY]at h;rcases List.mem_append.1 h with h |h
  ·rcases cm a j h with h |h |⟨r,h,l,hl⟩
   ·exact .inl (by simp[AV.Sq,h])
   ·exact .inr (.inl (by simp[AV.iG,h]))
   ·exact .inr (.inr ⟨r,by simp[AV.Sq,h],l,hl⟩)
  ·rcases cm b j h with h |h |⟨r,h,l,hl⟩
   ·exact .inl (by simp[AV.Sq,h])
   ·exact .inr (.inl (by simp[AV.iG,h]))
   ·exact .inr (.inr ⟨r,by simp[AV.Sq,h],l,hl⟩)
 |.zs,_,h=>by cases h
 |.ptr _ _ _ _,_,h=>by cases h
 |.FZ _ _ _,_,h=>by cases h
 |.KQ,_,h=>by cases h
 |.fn _ _,_,h=>by cases h
 |.cons _ _,_,h=>by cases h
 |.nil,_,h=>by cases h
 |.Vh _ _ _ _ _,_,h=>by cases h
 |.Xc _ _ _ _ _ _,_,h=>by cases h
 |.mp _,_,h=>by cases h
 |.un _,_,h=>by cases h
end
end Go.Va
namespace Go.Va
theorem O3{YG:Nat->Bool}:∀{a:AV},(∀k∈a.Ck,YG k=false)->a.drop YG=a
 |.AB ks t x,h=>by
  simp only[AV.drop];rw[AQy];intro hc;obtain⟨k,hk,hb⟩:=List.any_eq_true.1 hc;rw[h k hk]at hb;cases hb
 |.FZ ks t x,h=>by
  simp only[AV.drop];rw[AQy];intro hc;obtain⟨k,hk,hb⟩:=List.any_eq_true.1 hc;rw[h k hk]at hb;cases hb
 |.pr a b,h=>by
  simp only[AV.drop];rw[O3 λk hk=>h k (by simp[AV.Ck,hk]),O3 λk hk=>h k (by simp[AV.Ck,hk])]
 |.fn g c,h=>by
  simp only[AV.drop];rw[O3 λk hk=>h k (by simpa [AV.Ck]using hk)]
 |.cons a b,h=>by
  simp only[AV.drop];rw[O3 λk hk=>h k (by simp[AV.Ck,hk]),O3 λk hk=>h k (by simp[AV.Ck,hk])]
 |.zs,_=>rfl
 |.AG _,_=>rfl
 |.mp _,_=>rfl
 |.ptr _ _ _ _,_=>rfl
 |.KQ,_=>rfl
 |.nil,_=>rfl
 |.Vh k i p o e,h=>by simp[AV.drop,h k (by simp[AV.Ck])]
 |.Xc k i p o j u,h=>by simp[AV.drop,h k (by simp[AV.Ck])]
 |.un _,_=>rfl
theorem D3{w:World}{own:Nat->VC}{k:Nat}{m:RM}{t:Ty}{xs:ATU t.V}{ds:ATU Value}:uf w own k m t xs ds↔Bo (UW w own k m t) 0 xs ds:=by
 cases m with
 |Aw=>exact Iff.rfl
 |sh ks=>exact IV
theorem UW.len{w:World}{own:Nat->VC}{k:Nat}{m:RM}{t:Ty}{i:Nat}{x:t.V}{cs:ATU Value}(h:UW w own k m t i x cs):cs.length=t.size:=by
 cases m with
 |Aw=>exact Kl.len h
 |sh ks=>exact Ii.len h
open Classical in
theorem UW.on{w w':World}{own OX:Nat->VC}{k k':Nat}{m m':RM}{t:Ty}{i i':Nat}{x:t.V}{cs:ATU Value}(h:UW w own k m t i x cs)
    (hm:match m,m' with
     |.Aw,.Aw=>∀b q,own b=.BQ k (q++[i])->OX b=.BQ k' (q++[i'])/\w'.heap[b]?=w.heap[b]?
     |.sh ks,.sh Vb=>∀b,Al own ks b->Al OX Vb b/\w'.heap[b]?=w.heap[b]?
     |.Aw,.sh Vb=>∀b q,own b=.BQ k (q++[i])->Al OX Vb b/\w'.heap[b]?=w.heap[b]?
     |.sh _,.Aw=>False):UW w' OX k' m' t i' x cs:=by
 cases m with
 |Aw=>cases m' with
  |Aw=>exact Kl.mono (p:=[i]) (p':=[i']) hm h
  |sh Vb =>
   have h1:Kl w' (λb=>if(∃q,own b=.BQ k (q++[i]))then own b else .no) k t [i] x cs :=
    Kl.mono (p:=[i]) (p':=[i]) (λb q hb=>⟨by rw[AQx ⟨q,hb⟩];exact hb,(hm b q hb).2⟩) h
   exact Kl.rd (λb q hb=>by
    split at hb
    ·rename_i hq;obtain⟨q',hq⟩:=hq;exact(hm b q' hq).1
    ·cases hb) h1
 |sh ks=>cases m' with
  |Aw=>exact hm.elim
  |sh Vb=>exact Ii.mono hm h
def Aoi(bs:ATU Blk)(v:AV):ATU Nat:=v.Sq.flatMap (λk=>match eC bs k with |some (.sh l)=>l |_=>[])
theorem QM{bs:ATU Blk}{m m':RM}{t:Ty}{v:AV}{y:t.V}{rs:ATU Nat}(h:take bs m t v=some (y,m',rs)):rd bs t v=some y/\rs=v.Sq/\nodup v.Sq=true /\
    ((m=.Aw/\m'=.Aw/\v.Zp=true/\∀j∈v.Sq,eC bs j=some .Aw)\/∃ks,m=.sh ks/\m'=.sh (ks++v.iG++Aoi bs v)):=by
 unfold take at h;split at h
 ·cases h
 ·rename_i y' hy
  dsimp only at h
  split at h
  ·split at h
   ·rename_i hc;simp only[AQm]at hc;simp only[AQh,AQs]at h;obtain⟨rfl,rfl,rfl⟩:=h;refine⟨hy,rfl,hc.1.2,.inl ⟨rfl,rfl,hc.1.1,λj hj=>?_⟩⟩;have:=List.all_eq_true.1 hc.2 j hj;split at this
    ·assumption
    ·cases this
   ·cases h
  ·split at h
   ·rename_i hc;simp only[AQm]at hc;simp only[AQh,AQs]at h;obtain⟨rfl,rfl,rfl⟩:=h;exact⟨hy,rfl,hc.1,.inr ⟨_,rfl,rfl⟩⟩
   ·cases h
theorem AiL{w:World}{g:G}{bs:ATU Blk}(H:Bi w g bs){v:AV}:∀j∈Aoi bs v,j<bs.length:=by
 intro j hj;obtain⟨r,_,hr⟩:=List.mem_flatMap.1 hj;split at hr
 ·rename_i l hl;unfold eC at hl;split at hl
  ·rename_i e m t xs hb;injection hl with hl;subst hl;exact(H.MR r _ hb).1 j hr
  ·cases hl
 ·cases hr
theorem tf{w:World}{g:G}{bs:ATU Blk}(H:Bi w g bs){m m':RM}{t:Ty}{v:AV}{y:t.V}{rs:ATU Nat}{cs:ATU Value}(h:take bs m t v=some (y,m',rs))(hx:CK w g bs.length false v cs)(hm:∀j∈m.Ck,j<bs.length):∀j∈m'.Ck,j<bs.length:=by
 obtain⟨_,_,_,hc⟩:=QM h;rcases hc with ⟨rfl,rfl,_⟩|⟨ks,rfl,rfl⟩
 ·exact hm
 ·intro j hj;rcases List.mem_append.1 hj with hj |hj
  ·rcases List.mem_append.1 hj with hj |hj
   ·exact hm j hj
   ·exact hx.scope j hj
  ·exact AiL H j hj
theorem eQ{bs:ATU Blk}{m m':RM}{t:Ty}{v:AV}{y:t.V}{rs:ATU Nat}(h:take bs m t v=some (y,m',rs)):(∀j∈m.Ck,j∈m'.Ck)/\(m=.Aw↔m'=.Aw):=by
 obtain⟨_,_,_,hc⟩:=QM h;rcases hc with ⟨rfl,rfl,_⟩|⟨ks,rfl,rfl⟩
 ·exact⟨λ_ h=>h,Iff.rfl⟩
 ·exact⟨λj hj=>AQN _ (AQN _ hj),by simp⟩
theorem XP{ks:ATU Nat}{m:RM}(h:nR ks m=true):∀j∈m.Ck,j∉ks:=λj hj=>by
 have:=List.all_eq_true.1 h j hj;simpa using this
def XZ(m:RM)(k:Nat)(M:ATU (Nat×ATU Nat))(j:Nat)(r:ATU Nat):VC :=
 match lB M j with
 |none=>.BQ j r
 |some path=>match m with |.Aw=>.BQ k (r++path)|.sh _=>.Jl
theorem Qx{m:RM}{k:Nat}{M:ATU (Nat×ATU Nat)}{j:Nat}{r:ATU Nat}(h:j∉M.map (·.1)):XZ m k M j r=.BQ j r:=by simp[XZ,Vy h]
def InR(w:World)(own:Nat->VC)(k:Nat):RM->(t:Ty)->ATU Nat->t.V->ATU Value->Prop
 |.Aw,t,L,x,cs=>Kl w own k t L x cs
 |.sh ks,t,_,x,cs=>Ii w (Al own ks) t x cs
theorem AmG{w:World}{own:Nat->VC}{k:Nat}{m:RM}{u:Ty}{y:u.V}{p:ATU Nat}{t:Ty}{i:Nat}{x x':t.V}{cs:ATU Value}{o:Nat}(hs:T7 u y p t x=some x')(ho:Mk t p=some o)(h:UW w own k m t i x cs) :
    ∃c0 c1 c2,cs=c0++c1++c2/\c0.length=o/\c1.length=u.size/\∀Um,InR w own k m u (VO p [i]) y Um->UW w own k m t i x' (c0++Um++c2):=by
 cases m with
 |Aw=>exact aF (Aog w own k) u y p t [i] x x' cs o hs ho h
 |sh ks=>exact aF (AHh w (Al own ks)) u y p t [i] x x' cs o hs ho h
theorem tc{w w':World}{g:G}{bs:ATU Blk}(H:Bi w g bs){m m':RM}{t:Ty}{v:AV}{y:t.V}{rs:ATU Nat}{cs:ATU Value}(h:take bs m t v=some (y,m',rs))(hx:CK w g bs.length false v cs){k:Nat}{M:ATU (Nat×ATU Nat)}{L:ATU Nat}{OX:Nat->VC}{m'':RM}
    (hM:∀jq∈Lp v L,lB M jq.1=some jq.2) (Sk:∀j∈m'.Ck,j∈m''.Ck) (QQ:∀j∈m''.Ck,lB M j=none) (kV:m=.Aw↔m''=.Aw)
    (Cv:∀b j r,g.own b=.BQ j r->(j∈M.map (·.1)\/j∈m''.Ck)->OX b=XZ m k M j r) (kW:∀b,g.own b=.Jl->OX b=.Jl)
    (Aht:∀b,g.own b=.Jl\/(∃j r,g.own b=.BQ j r/\(j∈M.map (·.1)\/j∈m''.Ck))->w'.heap[b]?=w.heap[b]?):InR w' OX k m'' t L y cs:=by
 obtain⟨hy,rfl,hn,hc⟩:=QM h;have Ah7:∀j p,lB M j=some p->j∈M.map (·.1):=λj p hj=>Classical.byContradiction λhn=>by rw[Vy hn]at hj;cases hj
 have AHi:∀j∈v.Sq,∃p,lB M j=some p:=λj hj=>by
  rw[<-G4 v L]at hj;obtain⟨jq,hjq,rfl⟩:=List.mem_map.1 hj;exact⟨_,hM jq hjq⟩
 rcases hc with ⟨rfl,rfl,hf,hd⟩|⟨ks,rfl,rfl⟩
 ·obtain rfl:=kV.1 rfl;have h1:Kl w (λb=>match g.own b with |.BQ j r=>(match lB M j with |some p=>.BQ k (r++p)|none=>.no)|_=>.no) k t L y cs :=
   Ad6 H t v y cs L hy hf hd (λjq hj b q hb=>by simp[hb,hM jq hj]) hx
  refine Kl.mono (p:=L) (p':=L) (λb q hb=>?_) h1;split at hb
  ·rename_i j r hj;split at hb
   ·rename_i p hp;have hm:=Ah7 j p hp;refine⟨?_,Aht b (.inr ⟨j,r,hj,.inl hm⟩)⟩;rw[Cv b j r hj (.inl hm)];simp only[XZ,hp];exact hb
   ·cases hb
  ·cases hb
 ·obtain ⟨Ah0,rfl⟩:∃l,m''=.sh l:=by
    cases m'' with
    |Aw=>have:=kV.2 rfl;cases this
    |sh l=>exact⟨l,rfl⟩
  have key:∀b j q,g.own b=.BQ j q->(j∈v.Sq\/j∈Ah0)->Al OX Ah0 b:=by
   intro b j q hb hj;rcases hj with hj |hj
   ·obtain⟨p,hp⟩:=AHi j hj;exact .inl (by rw[Cv b j q hb (.inl (Ah7 j p hp))];simp[XZ,hp])
   ·exact .inr ⟨j,hj,q,by rw[Cv b j q hb (.inr hj)];simp[XZ,QQ j hj]⟩
  obtain⟨hr,hl⟩:=Rx H t v y cs hy hx;refine hr.mono λb hb=>?_;rcases hb with hb |⟨j,hj,q,hq⟩
  ·exact⟨.inl (kW b hb),Aht b (.inl hb)⟩
  ·have Sv:j∈v.Sq\/j∈Ah0:=by
     rcases cm v j hj with h |h |⟨r,h,l,hm,bj⟩
     ·exact .inl h
     ·exact .inr (Sk j (AQN _ (AQO _ h)))
     ·exact .inr (Sk j (AQO _ (List.mem_flatMap.2 ⟨r,h,by rw[hm];exact bj⟩)))
   refine⟨key b j q hq Sv,Aht b (.inr ⟨j,q,hq,?_⟩)⟩;rcases Sv with h |h
   ·obtain⟨p,hp⟩:=AHi j h;exact .inl (Ah7 j p hp)
   ·exact .inr h
end Go.Va
namespace Go.Va
section
variable {P:Program} {σ:St} {o:Oper} {en:G5} {e:Ih} {w:World} {g:G}
theorem Vn{t:Nat}{ti:TI}(ht:Fy P t ti){b off:Nat}{BA:Array Value}{el:TypeId}(hh:w.heap[b]?=some (.cells BA el (0,0))){v:Value}{cs:ATU Value}(hv:v.cells=cs.toArray)(hl:cs.length=ti.ty.size)
    (Sj:off+cs.length<=BA.size) (h1:∀c∈cs,c.oneCell'=true) :
    (storeVar t ⟨b,off,none⟩ v).run P w=.ok () (w.setRow b (BA.toList.take off++cs++BA.toList.drop (off+cs.length)).toArray):=by
 have hs:=run_storeCells_at P b off el cs 0 BA w hh (by grind) h1;simp[storeVar,D4 ht,hv,hl,hs]
theorem lp{BF:ATU Nat}{b k:Nat}{cs:Array Value}(ho:g.own b=.BQ k [])(hk:k∈BF):∀q,q<w.heap.size->(∀k p,g.own q=.BQ k p->k∉BF)->(w.setRow b cs).heap[q]?=w.heap[q]?:=by
 intro q _ hq;refine setRow_other w b q cs λe=>?_;subst e;exact hq k [] ho hk
theorem I7{f:Nat->ATU Nat->VC}{ob:ATV Nat}{n:Nat}{i:BI}{b j:Nat}{r:ATU Nat}(zx:ob≠some b)(h:g.own b=.BQ j r):(g.Wt f ob n i).own b=f j r:=by simp[G.Wt,zx,h]
theorem WX{f:Nat->ATU Nat->VC}{ob:ATV Nat}{n:Nat}{i:BI}{b:Nat}(zx:ob≠some b)(h:g.own b=.Jl):(g.Wt f ob n i).own b=.Jl:=by simp[G.Wt,zx,h]
theorem xm(H:Bi w g σ.Aj){t:Nat}{ti:TI}(ht:Fy P t ti){k:Nat}{i:Int}{p:ATU Nat}{of:Nat}{a pH a' v:AV}(hb:σ.Aj[k]?=some (.box a))(hg:a.W2 p=some pH)(hs:a.cC p v=some a')
    (hc:v.aX/\a.Adw p=some of/\pH.size=v.size/\v.size=ti.ty.size/\v.isAgg=ti.ty.isAgg/\a'.Ck.contains k=false) {u vv:Value} (hu:B6 w g σ.Aj.length (.ptr k i p of) u) (hv:B6 w g σ.Aj.length v vv) :
    ∃w' g',(Instr.storeAt t u vv).run P w=.ok () w'/\Bi w' g' ((Be [k] σ.Aj).set k (.box a'))/\Step [k] σ.Aj.length w g w' g':=by
 obtain⟨Awm,oX,NC,BS,vz,Y4⟩:=hc;obtain⟨hk,h0,h1,b,OM,rfl⟩:=L1 hu;obtain⟨hlen,b',cs,el,ha,ho,hh,hx⟩:=H.MR k _ hb;rw[OM]at ha;injection ha with ha;injection ha with ha;subst ha;obtain⟨SJ,Zy⟩:=Aaq Awm;obtain⟨cv,Y1,hvv⟩:=B4 Zy SJ hv;have hvc:=cZ hvv Y1.one;obtain⟨c0,c1,c2,e1,x9,k9,Ie⟩:=S0 p a cs.toList pH hx hg;rw[oX]at x9;injection x9 with x9;have U6:c1.length=cv.length:=by rw[k9.len,Y1.len,NC]
 have hi0:i.toNat=0:=by omega
 have AJW:cs.size=c0.length+c1.length+c2.length:=by rw[<-ARh,e1];simp only[AQj]
 have Ep:=Vn (P:=P) ht (off:=of) hh hvc (by rw[Y1.len,BS]) (by omega) Y1.one;have dP:(cs.toList.take of++cv++cs.toList.drop (of+cv.length))=c0++cv++c2:=by
  grind
 rw[dP]at Ep;have st:Step [k] σ.Aj.length w g (w.setRow b (c0++cv++c2).toArray) g :=
  ⟨rfl,rfl,rfl,by simp,λq hq h=>⟨h,setRow_other w b q _ (λe=>by grind)⟩,λq h=>⟨h,setRow_other w b q _ (λe=>by grind)⟩,
   λq j r h _ hm=>⟨h,setRow_other w b q _ (λe=>by grind)⟩,λ_ _=>rfl⟩
 refine⟨_,g,?_,?_,st⟩
 ·simp only[hi0,Nat.zero_mul,AQL];exact Ep
 ·refine H.cL st (λq hq=>H.B3 q (by simpa using hq)) (by simp[AJ]) λj x hj=>?_;rw[AQE]at hj;split at hj
  ·rename_i hkj;subst hkj;split at hj
   ·injection hj with hj;subst hj;refine .inr (.inr ⟨hlen,b,_,el,OM,ho,setRow_heap w b cs _ el (0,0) hh,?_⟩);have:=CK.step st (AQl _) a' false (Ie v a' cv hs Y1);rw[O3 (λj hj=>by
     grind)]at this
    simpa [AJ]using this
   ·grind
  ·rename_i LN;obtain⟨y,hy,rfl⟩:=Du hj
   grind
theorem Xd{bs:ATU Blk}{t:Ty}{v:AV}{y:t.V}(h:rd bs t v=some y):v.Dp=false/\v.OV=false:=by
 cases v with
 |cons a b=>cases t<;>simp[rd]at h
 |nil=>cases t<;>simp[rd]at h
 |un n=>cases t<;>simp[rd]at h
 |_=>exact⟨rfl,rfl⟩
theorem zj{α:Type}{l:ATU α}{i:Nat}(h:i<l.length)(d:α):l.getD i d=l[i]:=by grind
theorem ZS(H:Bi w g σ.Aj){t:Nat}{ti:TI}(ht:Fy P t ti){k:Nat}{i:Int}{p:ATU Nat}{of e:Nat}{m m':RM}{tr:Ty}{xs:ATU tr.V}{v:AV}{y:ti.ty.V}{x':tr.V}{rs:ATU Nat}(hb:σ.Aj[k]?=some (.row e m tr xs))
    (bk:take σ.Aj m ti.ty v=some (y,m',rs)) (hc:Mk tr p=some of/\tyP tr p=some ti.ty/\nR (k::rs) m'=true/\rs.contains k=false) (Ie:T7 ti.ty y p tr (xs.getD i.toNat tr.zero)=some x')
    {u vv:Value} (hu:B6 w g σ.Aj.length (.ptr k i p of) u) (hv:B6 w g σ.Aj.length v vv) :
    ∃w' g',(Instr.storeAt t u vv).run P w=.ok () w'/\Bi w' g' ((Blk.Hd (Be (k::rs) σ.Aj) rs).set k (.row e m' tr (xs.set i.toNat x')))/\Step (k::rs) σ.Aj.length w g w' g':=by
 obtain⟨oX,jl,QQ,hrk⟩:=hc;obtain⟨hk,h0,h1,b,OM,rfl⟩:=L1 hu;obtain⟨Sl,hlen,QT,BX,hr⟩:=H.MR k _ hb;have Bp:i.toNat<xs.length:=by rw[<-hlen];exact h1
 rcases hr with ⟨al,_⟩|⟨b',BA,ds,ha,Cv,⟨el,Ws,hh⟩,QS,xZ,hc3,hc4,Ku⟩
 ·rw[al]at Bp;simp at Bp
 rw[OM]at ha;injection ha with ha;injection ha with ha;subst ha;obtain⟨hy,hrs,Tn,hmm⟩:=QM bk;obtain⟨Zy,SJ⟩:=Xd hy;obtain⟨cv,Y1,hvv⟩:=B4 Zy SJ hv;have hvc:=cZ hvv Y1.one;have OO:cv.length=ti.ty.size:=(Rx H _ _ _ _ hy Y1).1.len;obtain⟨c0,c,d,e1,jk,hrc,hr0,nH⟩:=Bo.A2 (λi x c h=>UW.len h) (D3.1 Ku) Bp;have AJW:=UW.len hrc;obtain⟨Y2,kV⟩:=eQ bk;have YJ:=XP QQ;have zr:k∉rs:=by simpa using hrk
 let M:=Lp v (VO p [i.toNat])
 have zk:M.map (·.1)=rs:=by rw[hrs];exact G4 v _
 let f:=XZ m k M
 let g':=g.Wt f none σ.Aj.length ⟨none,0,0,0⟩
 let off:=i.toNat*tr.size+of
 let new:=BA.toList.take off++cv++BA.toList.drop (off+cv.length)
 let w':=w.setRow b new.toArray
 have vO:∀b' r,g.own b'=.BQ k r->g'.own b'=.BQ k r:=λb' r h=>by
  have:=I7 (f:=f) (ob:=none) (n:=σ.Aj.length) (i:=⟨none,0,0,0⟩) (by simp) h;rw[this];exact Qx (by rw[zk];exact zr)
 have st:Step (k::rs) σ.Aj.length w g w' g':=Step.Wt H.B3 rfl rfl rfl (by simp[w']) (lp Cv (by simp)) (λq h=>by cases h) (AQl _) λj r _ hm =>
  Qx (by rw[zk];exact λh=>hm (AQH _ h))
 have Ahz:∀b' j r,g.own b'=.BQ j r->j≠k->w'.heap[b']?=w.heap[b']?:=λb' j r h hj=>setRow_other w b b' _ λe=>by subst e;rw[Cv]at h;injection h with h;exact hj h.symm
 have AhA:∀b' q,g.own b'=.BQ k q->q≠[]->w'.heap[b']?=w.heap[b']?:=λb' q h hq=>setRow_other w b b' _ λe=>by subst e;rw[Cv]at h;injection h with _ h;exact hq h.symm
 have vM:∀b',g.own b'=.Jl->w'.heap[b']?=w.heap[b']?:=λb' h=>setRow_other w b b' _ λe=>by subst e;rw[Cv]at h;cases h
 have hon:∀(i':Nat) (x:tr.V) (c:ATU Value),UW w g.own k m tr i' x c->UW w' g'.own k m' tr i' x c:=by
  intro i' x c Ws;refine Ws.on ?_;rcases hmm with ⟨rfl,rfl,_⟩|⟨ks,rfl,rfl⟩
  ·exact λb' q h=>⟨vO b' _ h,AhA b' _ h (by simp)⟩
  ·intro b' h;rcases h with h |⟨j,hj,r,h⟩
   ·exact⟨.inl (WX (by simp) h),vM b' h⟩
   ·have vG:=Y2 j hj;have mV:=YJ j vG;exact⟨.inr ⟨j,vG,r,by
     have:=I7 (f:=f) (ob:=none) (n:=σ.Aj.length) (i:=⟨none,0,0,0⟩) (by simp) h;rw[this];exact Qx (by rw[zk];exact λh=>mV (AQH _ h))⟩,Ahz b' j r h λe=>mV (by simp[e])⟩
 rw[AQL]at hrc;rw[zj Bp]at Ie;obtain⟨d0,d1,d2,e2,hd0,jj,Gq⟩:=AmG Ie oX (hon _ _ _ hrc);have cb:InR w' g'.own k m' ti.ty (VO p [i.toNat]) y cv:=by
  refine tc H bk Y1 (M:=M) (λjq hj=>dV (by rw[G4];exact Tn) hj) (λ_ h=>h) (λj hj=>Vy (by rw[zk];exact λh=>YJ j hj (AQH _ h))) kV
   (λb' j r h _=>I7 (by simp) h) (λb' h=>WX (by simp) h) λb' h=>?_
  rcases h with h |⟨j,r,h,hj⟩
  ·exact vM b' h
  ·refine Ahz b' j r h λe=>?_;subst e;rcases hj with hj |hj
   ·rw[zk]at hj;exact zr hj
   ·exact YJ j hj (by simp)
 have vH:=Bo.join Bp (hr0.mono λi' x c h=>hon i' x c h) (by rw[AQL];exact Gq cv cb) (nH.mono λi' x c h=>hon i' x c h);have AGg:BA.toList=ds++BA.toList.drop (xs.length*tr.size):=by rw[<-hc4,ARp]
 have hds:ds.length=xs.length*tr.size:=by
  have dO:BA.toList.length=BA.size:=ARh;rw[<-hc4,AQA,dO,hc3];exact Nat.min_eq_left (AQ8 _ QS)
 have AhJ:(BA.toList.drop (xs.length*tr.size)).length=BA.size-xs.length*tr.size:=by simp
 have Tl:xs.length*tr.size<=BA.size:=by rw[hc3];exact AQ8 _ QS
 have AOo:c0.length+c.length+d.length=xs.length*tr.size:=by rw[<-hds,e1];simp only[AQj]
 have AOh:d0.length+d1.length+d2.length=c.length:=by rw[e2];simp only[AQj]
 have AnW:off=(c0++d0).length:=by simp only[off,AQj,jk,hd0]
 have AJX:cv.length=d1.length:=by rw[OO,jj]
 have dP:new=(c0++(d0++cv++d2)++d)++BA.toList.drop (xs.length*tr.size):=by
  simp only[new];have rT:BA.toList=(c0++d0)++(d1++(d2++d++BA.toList.drop (xs.length*tr.size))):=by
   conv=>lhs;rw[AGg,e1,e2]
   simp only[AQn]
  generalize BA.toList.drop (xs.length*tr.size)=iU at rT⊢;rw[rT,AnW,AJX,ARX,<-AQj,<-AQn (c0++d0) d1,List.drop_left];simp only[AQn]
 have Ep:(storeVar t ⟨b,off,none⟩ vv).run P w=.ok () w':=Vn (P:=P) ht hh hvc OO (by
  have:off=c0.length+d0.length:=by rw[AnW,AQj]
  omega) Y1.one
 refine⟨w',g',?_,?_,by exact st⟩
 ·simp only[Instr.storeAt,Instr.sureAddr,Sem.run_bind,Sem.run_pure,Result.andThen_ok,QT];exact Ep
 ·refine H.cL st (NI H.B3 (by simp[w']) (λq h=>by cases h)) (by simp[Bc,AJ]) λj x hj=>?_;rw[AQE]at hj;split at hj
  ·rename_i hkj;subst hkj;split at hj
   ·injection hj with hj;subst hj;have SI:g'.A2 k=g.A2 k:=st.A2 k hk;have AGw:((Blk.Hd (Be (k::rs) σ.Aj) rs).set k (.row e m' tr (xs.set i.toNat x'))).length=σ.Aj.length:=by simp[Bc,AJ]
    refine .inr (.inr ⟨by rw[AGw];exact tf H bk Y1 Sl,by rw[SI,AQo];exact hlen,by rw[SI];exact QT,BX,.inr ⟨b,new.toArray,_,by rw[SI];exact OM,vO b [] Cv,⟨el,Ws,setRow_heap w b BA _ el (0,0) hh⟩,by rw[SI,AQo];exact QS,by rw[SI];exact xZ,?_,rfl,?_⟩⟩)
    ·rw[SI,<-hc3,dP];simp only[ARt,AQj];omega
    ·rw[D3,AQo];have:(new.toArray).toList.take (xs.length*tr.size)=c0++(d0++cv++d2)++d:=by
      rw[List.toList_toArray,dP];have dO:(c0++(d0++cv++d2)++d).length=xs.length*tr.size:=by simp only[AQj];omega
      rw[<-dO,ARX]
     rw[this];exact vH
   ·cases hj
  ·rename_i LN;rcases Ln hj with h |⟨rK,h⟩
   ·exact .inl h
   ·obtain⟨y',jo,rfl⟩:=Du h;exact .inr (.inl ⟨by simp only[ARP,not_or];exact⟨λe=>LN e.symm,rK⟩,y',jo,rfl⟩)
theorem z8{f:Nat}{F G:∀u:Ty,u.V->ATV u.V}(h:∀(u:Ty) (x x0:u.V),F u x=some x0->G u x0=G u x):∀{t:Ty} {x x0:t.V},S3 t x f F=some x0->S3 t x0 f G=S3 t x f G:=by
 induction f with
 |zero =>
  intro t x x0 hs;cases t with
  |AH a b =>
   simp only[S3]at hs⊢
   grind
  |_=>simp[S3]at hs
 |succ f ih =>
  intro t x x0 hs;cases t with
  |AH a b =>
   simp only[S3]at hs⊢
   grind
  |_=>simp[S3]at hs
theorem l5{u:Ty}{y z:u.V}:∀(p:ATU Nat) (t:Ty) (x x0:t.V),T7 u z p t x=some x0->T7 u y p t x0=T7 u y p t x
 |[],_,_,_,_=>rfl
 |f::p,_,_,_,h=>z8  (λu' x x0 hx=>l5 p u' x x0 hx) h
theorem AiJ{A:Type}{l:ATU A}{i:Nat}(h:i<l.length)(x d:A):(l.set i x).getD i d=x:=by grind
theorem s8{bs:ATU Blk}(H:Bi w g bs){t:Nat}{ti:TI}(ht:Fy P t ti){k j e ej of:Nat}{i:Int}{p:ATU Nat}{tr u:Ty}{xs:ATU tr.V}{ys:ATU u.V}{x0 x':tr.V}(hb:bs[k]?=some (.Sm e tr xs i p))(hj:bs[j]?=some (.row ej .Aw u ys))
    (al:T7 (.sl u) [] p tr (xs.getD i.toNat tr.zero)=some x0) (vU:T7 (.sl u) ys p tr (xs.getD i.toNat tr.zero)=some x') (hc:ti.ty=.sl u/\Mk tr p=some of/\tyP tr p=some (.sl u)/\j≠k)
    {uu vv:Value} (hu:B6 w g bs.length (.ptr k i p of) uu) (hv:B6 w g bs.length (.AG j) vv) :
    ∃w' g',(Instr.storeAt t uu vv).run P w=.ok () w'/\Bi w' g' ((Blk.Hd (Be [k,j] ((Be [k] bs).set k (.row e .Aw tr (xs.set i.toNat x0)))) [j]).set k (.row e .Aw tr (xs.set i.toNat x')))/\Step [k,j] bs.length w g w' g':=by
 obtain⟨jl,oX,htp,mV⟩:=hc;have rL:=A4 hb;obtain⟨hlen,QT,BX,h0,Bp,u1,o1,x1,b,BA,ds,q1,q2,q3,OM,Cv,⟨el,Ws,hh⟩,QS,xZ,hc3,hc4,Ku⟩:=H.MR k _ hb;rw[oX]at q1;injection q1 with q1;subst q1;rw[htp]at q2;injection q2 with q2;injection q2 with q2;subst q2;rw[al]at q3;injection q3 with q3;subst q3
 let q:=i.toNat*tr.size+of
 let uW:=BA.setIfInBounds q (.slice none 0 0)
 let w0:=w.setRow b uW
 let bs1:=(Be [k] bs).set k (Blk.row e .Aw tr (xs.set i.toNat x0))
 have U6:bs1.length=bs.length:=by simp[bs1,AJ]
 have st:Step [k] bs.length w g w0 g :=
  ⟨rfl,rfl,rfl,by simp[w0],λq hq h=>⟨h,setRow_other w b q _ (λe=>by subst e;rw[Cv]at h;cases h)⟩,λq h=>⟨h,setRow_other w b q _ (λe=>by subst e;rw[Cv]at h;cases h)⟩,
   λq j r h _ hm=>⟨h,setRow_other w b q _ (λe=>by subst e;rw[Cv]at h;injection h with h;exact hm (by simp[h]))⟩,λ_ _=>rfl⟩
 have H1:Bi w0 g bs1:=by
  refine H.cL st (λq hq=>H.B3 q (by simpa [w0]using hq)) (by rw[U6];exact AQl _) λm x hm=>?_;rw[AQE]at hm;split at hm
  ·rename_i hkm;subst hkm;split at hm
   ·injection hm with hm;subst hm;exact .inr (.inr ⟨λj hj=>(by cases hj),by rw[AQo];exact hlen,QT,BX,.inr ⟨b,uW,ds,OM,Cv,⟨el,Ws,setRow_heap w b BA _ el (0,0) hh⟩,by rw[AQo];exact QS,xZ,by rw[<-hc3];simp[uW],by rw[AQo];exact hc4,Ku.mono λi x c r=>r.mono λb' q hb=>⟨hb,setRow_other w b b' _ λe=>by subst e;rw[Cv]at hb;injection hb with _ hb;simp at hb⟩⟩⟩)
   ·cases hm
  ·rename_i LN;obtain⟨y,hy,rfl⟩:=Du hm;exact .inr (.inl ⟨by simpa using λe:m=k=>LN e.symm,y,hy,rfl⟩)
 have hj1:bs1[j]?=some (.row ej .Aw u ys):=by
  simp only[bs1];rw[ASl (Ne.symm mV)];simp[Be,hj,Blk.drop,RM.Ck]
 have hk1:bs1[k]?=some (.row e .Aw tr (xs.set i.toNat x0)):=by
  simp only[bs1];rw[List.getElem?_set_self (by rw[AJ];exact rL)]
 obtain⟨ty,XQ,elem,bytes,Ht,Pn⟩:=ti
 dsimp only at jl
 subst jl;have bk:take bs1 .Aw (.sl u) (.AG j)=some (ys,.Aw,[j]):=by
  simp[take,rd,hj1,JQ,AV.Sq,AV.Zp,nodup,eC]
 have An1:T7 (.sl u) ys p tr ((xs.set i.toNat x0).getD i.toNat tr.zero)=some x':=by
  rw[AiJ Bp,l5 p tr _ _ al,vU]
 have hu1:B6 w0 g bs1.length (.ptr k i p of) uu:=by
  have:=hu.step st (AQl _);rw[U6];exact this
 have jm:B6 w0 g bs1.length (.AG j) vv:=by
  have:=hv.step st (AQl _);rw[U6];exact this
 obtain⟨w',g',Ep,hH,BS⟩:=ZS (σ:=⟨[],bs1⟩) H1 ht hk1 bk ⟨oX,htp,by simp[nR,RM.Ck],by simpa using Ne.symm mV⟩ An1 hu1 jm;obtain⟨_,_,_,b',zo,he⟩:=L1 hu;rw[OM]at zo;injection zo with zo;injection zo with zo;subst zo;obtain⟨_,hvv⟩:=FN hv;have Sj:q+1<=BA.size:=by
  obtain⟨c0,c,d,e1,jk,hrc,hr0,nH⟩:=Bo.A2 (λi x c h=>Kl.len h) Ku (by rw[AQo];exact Bp);obtain⟨a0,a1,a2,e2,ha0,ha1,_⟩:=aF (Aog w g.own k) (.sl u) ys p tr _ _ _ _ of (by rw[<-An1];simp[List.getD,Bp]) oX hrc;have OO:=Kl.len hrc;have h1:c.length=a0.length+a1.length+a2.length:=by rw[e2];simp only[AQj]
  have h2:a1.length=1:=ha1;have h3:(i.toNat+1)*tr.size<=BA.size:=by rw[hc3];exact AQ8 _ (AQJ Bp QS)
  rw[ARO,Nat.one_mul]at h3;simp only[q];omega
 have one:∀c∈[vv],c.oneCell'=true:=λc hc=>by simp at hc;subst hc;rw[hvv];rfl
 have hvc:vv.cells=[vv].toArray:=by rw[hvv];rfl
 have r1:=Vn (P:=P) ht (off:=q) (setRow_heap w b BA uW el (0,0) hh) hvc rfl (by simp[uW];exact Sj) one;have r2:=Vn (P:=P) ht (off:=q) hh hvc rfl (by simpa using Sj) one;have hX:(uW.toList.take q++[vv]++uW.toList.drop (q+[vv].length))=(BA.toList.take q++[vv]++BA.toList.drop (q+[vv].length)):=by
  simp only[uW,Array.toList_setIfInBounds];rw[List.take_set_of_le (AQl _),List.drop_set_of_lt (by simp)]
 rw[hX,setRow_setRow]at r1;have An0:(Instr.storeAt t uu vv).run P w0=.ok () (w.setRow b (BA.toList.take q++[vv]++BA.toList.drop (q+[vv].length)).toArray):=by
  rw[he];simp only[Instr.storeAt,Instr.sureAddr,Sem.run_bind,Sem.run_pure,Result.andThen_ok,QT];exact r1
 have nJ:w'=w.setRow b (BA.toList.take q++[vv]++BA.toList.drop (q+[vv].length)).toArray:=by
  rw[Ep]at An0;injection An0
 refine⟨w',g',?_,?_,(st.trans BS (by rw[U6];exact AQl _)).weaken (by simp) (AQl _)⟩
 ·rw[he,nJ];simp only[Instr.storeAt,Instr.sureAddr,Sem.run_bind,Sem.run_pure,Result.andThen_ok,QT];exact r2
 ·rw[ASk]at hH;exact hH
theorem AdY{t:TypeId}{x v:Operand}(ho:o.op=.store t x v){ti:TI}(ht:Fy P t ti)(h:gp σ.Aj ti (σ.Cp x) (σ.Cp v) some=some e):OL P σ o e:=by
 have Xm:∀(HT:ATU Blk) (BF:ATU Nat),BF≠[]->HT.length=σ.Aj.length ->
     (∀(a:Act) (w:World) (g:G),LJ w g σ a->∃w' g',(Instr.storeAt t (a.eval x) (a.eval v)).run P w=.ok () w'/\Bi w' g' HT/\Step BF σ.Aj.length w g w' g')->OL P σ o ⟨.un 0,HT,BF⟩:=by
  intro HT BF hm hl hh;refine⟨by grind,λh=>(hm h).elim,λa w g hs next Q hn=>?_⟩
  obtain⟨w',g',hr,hH,BS⟩:=hh a w g hs;unfold Oper.wp;simp only[execOp,ho,Sem.run_bind,hr];exact hn undef w' g' hH Sc BS
 unfold gp at h;split at h
 ·rename_i k i p of vv hx;split at h
  ·rename_i a hb;split at h
   ·rename_i pH a' hg Ie;split at h
    ·rename_i hc;injection h with h;subst h;refine Xm _ _ (by simp) (by simp[AJ]) λac w g hs=>?_;have hu:=AX hs x;rw[hx]at hu;exact xm hs.heap ht hb hg Ie hc hu (AX hs v)
    ·grind
   ·grind
  ·rename_i el m tr xs hb;split at h
   ·rename_i y m' rs bk;split at h
    ·rename_i hc;split at h
     ·rename_i x' Ie;injection h with h;subst h;refine Xm _ _ (by simp) (by simp[AJ,Bc]) λac w g hs=>?_;have hu:=AX hs x;rw[hx]at hu;exact ZS hs.heap ht hb bk hc Ie hu (AX hs v)
     ·grind
    ·grind
   ·grind
  ·rename_i el tr xs i' p' hb;split at h
   ·rename_i j hj;split at h
    ·rename_i ej u ys hbj;split at h
     ·rename_i x0 x' al vU;split at h
      ·rename_i hc;split at h
       ·rename_i hi;injection h with h;subst h;subst hi;obtain⟨c1,c2,c3,c4,c5⟩:=hc;subst c4;refine Xm _ _ (by simp) (by simp[AJ,Bc]) λac w g hs=>?_;have hu:=AX hs x;rw[hx]at hu;have hv:=AX hs v;rw[hj]at hv;exact s8 hs.heap ht hb hbj al vU ⟨c1,c2,c3,c5⟩ hu hv
       ·grind
      ·grind
     ·grind
    ·grind
   ·grind
  ·grind
 ·grind
end
end Go.Va
namespace Go.Va
section
variable {P:Program} {σ:St} {o:Oper} {en:G5} {e:Ih}
theorem ZG{bs:ATU Blk}{t:Ty}:∀{ps:ATU (Nat×AV)} {m m':RM} {xs xs':ATU t.V} {rs rs':ATU Nat},SZ bs t m xs rs ps=some (m',xs',rs') ->
    (∀j∈m.Ck,j∈m'.Ck)/\(m=.Aw↔m'=.Aw)/\rs'=rs++ps.flatMap (λp=>p.2.Sq)/\xs'.length=xs.length
 |[],m,m',xs,xs',rs,rs',h=>by
  simp only[SZ,AQh,AQs]at h;obtain⟨rfl,rfl,rfl⟩:=h;exact⟨λ_ h=>h,Iff.rfl,by simp,rfl⟩
 |(i,v)::ps,m,m',xs,xs',rs,rs',h=>by
  simp only[SZ]at h;split at h
  ·rename_i y m1 l ht;split at h
   ·obtain⟨h1,h2,h3,h4⟩:=ZG h;obtain⟨hs,hd⟩:=eQ ht;obtain⟨_,hl,_⟩:=QM ht;exact⟨λj hj=>h1 j (hs j hj),hd.trans h2,by rw[h3,hl];simp,by rw[h4,AQo]⟩
   ·cases h
  ·cases h
theorem lN{t:Ty}{E:Nat->t.V->ATU Value->Prop}(hE:∀i x c,E i x c->c.length=t.size){bs:ATU Blk}{ρ:Operand->AV}{ε:Operand->Value}{m':RM}:∀{ps:ATU (Nat×Operand)} {m:RM} {xs xs':ATU t.V} {rs rs':ATU Nat} {cs:ATU Value},
    SZ bs t m xs rs (ps.map λp=>(p.1,ρ p.2))=some (m',xs',rs')->Bo E 0 xs cs ->
    (∀p∈ps,∀m m1 y rs,take bs m t (ρ p.2)=some (y,m1,rs)->(m=.Aw↔m'=.Aw)->(∀j∈m1.Ck,j∈m'.Ck)->∃cv,(ε p.2).cells=cv.toArray/\E p.1 y cv) ->
    ∃nj,Instr.fill (λi=>some (i*t.size,t.size)) cs.toArray (ps.map λp=>(p.1,ε p.2))=some nj.toArray/\Bo E 0 xs' nj
 |[],m,xs,xs',rs,rs',cs,h,hl,_=>by
  simp only[ARN,SZ,AQh,AQs]at h;obtain⟨rfl,rfl,rfl⟩:=h;exact⟨cs,rfl,hl⟩
 |(i,x)::ps,m,xs,xs',rs,rs',cs,h,hl,hp=>by
  simp only[AQ0,SZ]at h;split at h
  ·rename_i y m1 l ht;split at h
   ·rename_i hi;obtain⟨h1,h2,_⟩:=ZG h;obtain⟨hs,hd⟩:=eQ ht;obtain⟨cv,Y1,hey⟩:=hp (i,x) (by simp) m m1 y l ht (hd.trans h2) h1;obtain⟨c0,c,d,e1,jk,hrc,hr0,nH⟩:=Bo.A2 hE hl hi;have dP:=Bo.join hi hr0 (by rw[AQL];exact hey) nH;obtain⟨nj,hf,zt⟩:=lN hE h dP λp hp'=>hp p (by simp[hp']);refine⟨nj,?_,zt⟩;simp only[AQ0];unfold Instr.fill;have UN:(ε x).cells.size=t.size:=by
     have AvQ:(ε x).cells=cv.toArray:=Y1;rw[AvQ,ARt,hE _ _ _ hey]
    have hc:=hE _ _ _ hrc;have Sj:¬i*t.size+t.size>cs.toArray.size:=by
     rw[ARt,e1,AQj,AQj,jk,hc];omega
    simp only[UN,ne_eq,not_true_eq_false,decide_false,ASq,Sj,AQ6,ARH];rw[<-hf];congr 1;have AvQ:(ε x).cells=cv.toArray:=Y1;rw[AvQ,e1,<-jk];exact AbN (by rw[hE _ _ _ hey,hc])
   ·cases h
  ·cases h
theorem xB{m m':RM}(h:m=.Aw↔m'=.Aw)(k:Nat)(M:ATU (Nat×ATU Nat))(j:Nat)(r:ATU Nat):XZ m k M j r=XZ m' k M j r:=by
 unfold XZ;split
 ·rfl
 ·cases m with
  |Aw=>rw[h.1 rfl]
  |sh _=>cases m' with
   |Aw=>have:=h.2 rfl;cases this
   |sh _=>rfl
def zR(ps:ATU (Nat×AV)):ATU (Nat×ATU Nat):=ps.flatMap λp=>Lp p.2 [p.1]
theorem wM(ps:ATU (Nat×AV)):(zR ps).map (·.1)=ps.flatMap λp=>p.2.Sq:=by
 induction ps with
 |nil=>rfl
 |cons p ps ih =>
  simp only[zR,List.flatMap_cons,AQY]at ih⊢;rw[G4,ih]
theorem gi{w:World}{g:G}{bs:ATU Blk}(H:Bi w g bs){t:Ty}{ρ:Operand->AV}{ε:Operand->Value}(hρ:∀x,B6 w g bs.length (ρ x) (ε x)):∀{ps:ATU (Nat×Operand)} {m m':RM} {xs xs':ATU t.V} {rs rs':ATU Nat},
    SZ bs t m xs rs (ps.map λp=>(p.1,ρ p.2))=some (m',xs',rs')->(∀j∈m.Ck,j<bs.length)->∀j∈m'.Ck,j<bs.length
 |[],m,m',xs,xs',rs,rs',h,hm=>by
  simp only[ARN,SZ,AQh,AQs]at h;obtain⟨rfl,rfl,rfl⟩:=h;exact hm
 |(i,x)::ps,m,m',xs,xs',rs,rs',h,hm=>by
  simp only[AQ0,SZ]at h;split at h
  ·rename_i y m1 l ht;split at h
   ·obtain⟨hy,_⟩:=QM ht;obtain⟨Zy,SJ⟩:=Xd hy;obtain⟨cv,Y1,_⟩:=B4 Zy SJ (hρ x);exact gi H hρ h (tf H ht Y1 hm)
   ·cases h
  ·cases h
theorem ma{t:TypeId}{len:Nat}{G3:Array (Nat×Operand)}(ho:o.op=.buildSlice t len G3){fi:FI}{ti te:TI}(ht:Fy P t ti)(Er:Fy P ti.elem te){m:RM}{xs:ATU te.ty.V}{rs:ATU Nat}
    (hp:SZ σ.Aj te.ty (fi.mode te.ty) (List.replicate len te.ty.zero) [] (G3.toList.map λp=>(p.1,σ.Cp p.2))=some (m,xs,rs))
    (hc:(ti.EA&&te.ty.row&&nR rs m&&nodup rs&&decide (len*te.ty.size<=16777216))=true) :
    (len=0->OL P σ o ⟨.zs,σ.Aj,[]⟩)/\(len≠0->OL P σ o ⟨.AG σ.Aj.length,Blk.Hd (Be rs σ.Aj) rs++[.row ti.elem m te.ty xs],rs⟩):=by
 simp only[AQm,ARv]at hc;obtain⟨⟨⟨⟨Jk,O6⟩,QQ⟩,Tn⟩,Ahj⟩:=hc;have hu:=BD ht Jk;obtain⟨kU,BX⟩:=lY O6;obtain⟨ie,z,hi,NC,vC,hz,oZ,_⟩:=Er.info;obtain⟨_,kV,hrs,hxl⟩:=ZG hp;rw[AQM]at hxl;rw[ARz]at hrs;refine⟨λh0=>?_,λh0=>?_⟩
 ·subst h0;have hps:G3.toList=[]:=by
   cases hq:G3.toList with
   |nil=>rfl
   |cons p r =>
    rw[hq]at hp;simp only[AQ0,SZ]at hp;split at hp
    ·split at hp
     ·rename_i h;simp at h
     ·cases hp
    ·cases hp
  have AKy:G3=#[]:=by apply Array.toList_inj.1;rw[hps]
  refine⟨AQl _,λ_=>⟨[],(AQU _).symm⟩,λa w g hs next Q hn=>?_⟩
  have hr:(execOp a.eval o).run P w=.ok (.value (.slice (some ⟨w.heap.size,0,none⟩) 0 0)) (w.alloc (.cells #[] ti.elem)):=by
   simp[execOp,ho,Instr.buildSlice,run_underlying hu,sizeOf,typeInfo,hi,AKy,Instr.fill,newRow];congr 2;apply Array.eq_empty_of_size_eq_zero;simp
  unfold Oper.wp;rw[hr];have st:Step [] σ.Aj.length w g (w.alloc (.cells #[] ti.elem)) g:=⟨rfl,rfl,rfl,by show w.heap.size<=(w.heap.push _).size;simp,λb hb h=>⟨h,heap_alloc_old w _ b hb⟩,λb h=>⟨h,heap_alloc_old w _ b (VP hs.heap (by rw[h];simp))⟩,
   λb k p h _ _=>⟨h,heap_alloc_old w _ b (VP hs.heap (by rw[h];simp))⟩,λ_ _=>rfl⟩
  refine hn _ _ g (hs.heap.Sb st λb hb=>hs.heap.B3 b (AQJ st.size hb)) (pC _) st
 ·refine⟨by simp[Bc,AJ],λh=>⟨[.row ti.elem m te.ty xs],?_⟩,λa w g hs next Q hn=>?_⟩
  ·have h:rs=[]:=h;rw[h];rfl
  have H:=hs.heap
  let n:=σ.Aj.length
  let M:=zR (G3.toList.map λp=>(p.1,σ.Cp p.2))
  have zk:M.map (·.1)=rs:=by rw[hrs];exact wM _
  let i:BI:=⟨some ⟨w.heap.size,0,none⟩,len,len,te.ty.size⟩
  let g':=g.Wt (XZ m n M) (some w.heap.size) n i
  have Al2:∀b,g.own b≠.no->b≠w.heap.size:=λb h e=>by have:=VP H h;omega
  have key:∀cells:Array Value,∃w':World,w'=w.alloc (.cells cells ti.elem)/\Step rs n w g w' g':=λcells=>⟨_,rfl,Step.Wt H.B3 rfl rfl rfl (by show w.heap.size<=(w.heap.push _).size;simp) (λq hq _=>heap_alloc_old w _ q hq)
   (λq h=>by injection h with h;omega) (AQl _) λj r _ hm=>Qx (by rw[zk];exact hm)⟩
  have WR:∀b j r,g.own b=.BQ j r->g'.own b=XZ m n M j r:=λb j r h=>I7 (by
   intro e;injection e with e;exact Al2 b (by rw[h];simp) e.symm) h
  have dZ:∀b,g.own b=.Jl->g'.own b=.Jl:=λb h=>WX (by
   intro e;injection e with e;exact Al2 b (by rw[h];simp) e.symm) h
  have hzero:Bo (UW w g'.own n m te.ty) 0 (List.replicate len te.ty.zero) ((List.replicate len (Value.agg z.cells)).flatMap λv=>v.cells.toList):=by
   refine aC (λi=>?_) len 0;have AKX:(Value.agg z.cells).cells.toList=Se te.ty:=oZ;rw[AKX];cases m with
   |Aw=>exact Kl.zero kU
   |sh ks=>exact Ii.zero kU
  obtain⟨nj,vF,Ahx⟩:=lN (E:=UW w g'.own n m te.ty) (ε:=a.eval) (λi x c h=>h.len) hp hzero (by
   intro p hpm m0 m1 y rs0 bk hd0 Y2;obtain⟨hy,hr0,hn0,_⟩:=QM bk;obtain⟨Zy,SJ⟩:=Xd hy;obtain⟨cv,Y1,hvv⟩:=B4 Zy SJ (AX hs p.2);refine⟨cv,cZ hvv Y1.one,?_⟩;have Gq:InR w g'.own n m te.ty [p.1] y cv:=by
    refine tc H bk Y1 (M:=M) (λjq hj=>dV (by rw[zk];exact Tn) ?_) Y2 (λj hj=>Vy (by rw[zk];exact XP QQ j hj)) hd0
     (λb j r h _=>by rw[WR b j r h,xB hd0]) dZ λ_ _=>rfl
    exact List.mem_flatMap.2 ⟨(p.1,σ.Cp p.2),List.mem_map.2 ⟨p,hpm,rfl⟩,hj⟩
   cases m with
   |Aw=>exact Gq
   |sh ks=>exact Gq)
  have OO:=Bo.len (λi x c h=>UW.len h) Ahx;rw[hxl]at OO;have hpc:¬len*te.ty.size=0:=by
   have:0<len*te.ty.size:=Nat.mul_pos (ARQ h0) BX;omega
  have AGA:(Array.range (len*ie.size)).map (z.cells[·%z.cells.size]!)=((List.replicate len (Value.agg z.cells)).flatMap λv=>v.cells.toList).toArray:=by
   have h1:=fT z.cells (s:=te.ty.size) (l:=len) (c:=len) (by rw[<-ARh,oZ,Ti]) BX (AQl _);rw[AQp (by rw[ARh,size_madeCells];exact AQl _)]at h1;rw[<-h1,NC];simp only[madeCells,Array.toArray_toList]
  have hr:(execOp a.eval o).run P w=.ok (.value (.slice (some ⟨w.heap.size,0,none⟩) len len)) (w.alloc (.cells nj.toArray ti.elem)):=by
   have:=run_buildSlice (P:=P) w t ti.elem len (G3.map λ(i,x)=>(i,a.eval x)) nj.toArray ie z hu hi hz (by rw[NC];omega) (by rw[NC];exact hpc) (by
    rw[AGA,NC];simpa using vF)
   simp[execOp,ho,this]
  unfold Oper.wp;rw[hr];obtain⟨w',nJ,st⟩:=key nj.toArray;subst nJ;have QP:g'.A2 n=i:=by simp[g',G.Wt]
  refine hn _ _ g' (H.cL st (NI H.B3 st.size (λq h=>by injection h with h;subst h;show w.heap.size<(w.heap.push _).size;simp)) (by simp[Bc,AJ]) λj x hj=>?_) ?_ st
  ·rw[AQF]at hj;split at hj
   ·rcases Ln hj with h |⟨rK,h⟩
    ·exact .inl h
    ·obtain⟨y',jo,rfl⟩:=Du h;exact .inr (.inl ⟨rK,y',jo,rfl⟩)
   ·rename_i hlen;rw[Bc,AJ]at hj hlen;have oU:j-σ.Aj.length=0:=by
     rcases AQD (j-σ.Aj.length)with h |h
     ·exact h
     ·rw[AQT (by simp;omega)]at hj;cases hj
    rw[oU]at hj;obtain rfl:j=n:=by simp only[n];omega
    simp only[List.getElem?_cons_zero,AQh]at hj;subst hj;refine .inr (.inr ⟨λj hj=>?_,by rw[QP,hxl],by rw[QP],BX,.inr ⟨w.heap.size,nj.toArray,_,by rw[QP],by simp[g',G.Wt],⟨_,.inr rfl,heap_alloc_new w _⟩,by rw[QP,hxl];exact AQl _,?_,by rw[QP,ARt,OO],rfl,?_⟩⟩)
    ·have:=gi H (AX hs) hp (by rw[V1];intro j hj;cases hj) j hj;simp[Bc,AJ];omega
    ·rw[QP];have:len<=len*te.ty.size:=ASe _ BX;simp only[maxLen,i];omega
    ·rw[D3,List.toList_toArray,AQp (by rw[OO,hxl];exact AQl _)];refine Ahx.mono λi' x c h=>h.on ?_;have hap:∀b,g.own b≠.no\/g'.own b≠.no/\b≠w.heap.size->(w.alloc (.cells nj.toArray ti.elem)).heap[b]?=w.heap[b]?:=λb hb=>by
      refine heap_alloc_old w _ b ?_;rcases hb with hb |⟨hb,LN⟩
      ·exact VP H hb
      ·rcases AQq b w.heap.size with h' |h'
       ·exact h'
       ·refine(hb ?_).elim;have:=H.B3 b h';simp[g',G.Wt,this,Ne.symm LN]
     cases m with
     |Aw =>
      intro b q hb;refine⟨hb,hap b (.inr ⟨by rw[hb];simp,λe=>?_⟩)⟩;subst e;simp[g',G.Wt]at hb
     |sh ks =>
      intro b hb;refine⟨hb,hap b (.inr ⟨?_,λe=>?_⟩)⟩
      ·rcases hb with hb |⟨j,_,p,hb⟩<;>rw[hb]<;>simp
      ·subst e;rcases hb with hb |⟨j,hj,p,hb⟩
       ·simp[g',G.Wt]at hb
       ·simp[g',G.Wt]at hb;have:=gi H (AX hs) hp (by rw[V1];intro j hj;cases hj) j hj;omega
  ·refine Bv (cs:=[_]) rfl ⟨by simp[Bc,AJ],rfl⟩ ?_;have:g'.A2 σ.Aj.length=i:=QP;simp[Cm,AV.isAgg,this,i]
end
end Go.Va
namespace Go.Va
section
variable {P:Program} {w:World} {g:G} {bs:ATU Blk}
theorem AiF(w:World)(t tx ty e:TypeId)(i:TypeInfo)(ht:P.underlying t=some (.slice e))(hi:P.info? e=some i)
    (b cz z6:Nat) (BA:Array Value) {e0:TypeId} (hg:w.heap[b]?=some (.cells BA e0 (0,0))) (x:Value) (n:Nat) (GU:ATU Value) (hs:Src P i.size tx x n GU w) (Zv:cz+n<=z6) (Sj:cz*i.size+GU.length<=BA.size) :
    (Builtin.append_ #[t,tx] ty #[.slice (some ⟨b,0,none⟩) cz z6,x]).run P w =
     .ok (.slice (some ⟨b,0,none⟩) (cz+n) z6) (w.setRow b (BA.toList.take (cz*i.size)++GU++BA.toList.drop (cz*i.size+GU.length)).toArray):=by
 have BS:=run_storeCells_at P b (cz*i.size) e0 GU 0 BA w hg (by simpa using Sj) hs.one;simp only[ASj]at BS;rcases hs.kind with ⟨e',hk⟩|hk<;>simp[Builtin.append_,run_underlying ht,run_underlying hk,sizeOf,typeInfo,hi,hs.len,Zv,hs.cells,Addr.add_lit,BS]
theorem wG(w:World)(t tx ty e:TypeId)(i:TypeInfo)(ht:P.underlying t=some (.slice e))(hi:P.info? e=some i)(ad:ATV Addr)(x:Value)(GU:ATU Value)(hs:Src P i.size tx x 0 GU w) :
    (Builtin.append_ #[t,tx] ty #[.slice ad 0 0,x]).run P w=.ok (.slice ad 0 0) w:=by
 have hn:GU=[]:=by
  have:=hs.newsLen;simpa using this
 subst hn;cases ad<;>rcases hs.kind with ⟨e',hk⟩|hk<;>simp[Builtin.append_,run_underlying ht,run_underlying hk,sizeOf,typeInfo,hi,hs.len,hs.cells,storeCells]
theorem yV(w:World)(t tx ty e:TypeId)(i:TypeInfo)(z:Value)(ht:P.underlying t=some (.slice e))(hi:P.info? e=some i)(hz:i.zero=some z)(hzs:z.cells.size=i.size)(BX:0<i.size)
    {Pw:Nat->Prop} {Ek:Prop} {ad:ATV Addr} {len cap:Nat} {ds:ATU Value} (Yf:(len=0/\cap=0/\ds=[])\/∃b BA e0,ad=some ⟨b,0,none⟩/\Pw b/\(w.heap[b]?=some (.cells BA e0 (0,0))/\(Ek\/e0=e))/\len<=cap/\cap<=maxLen/\BA.size=cap*i.size/\BA.toList.take (len*i.size)=ds)
    {x:Value} {n:Nat} {GU:ATU Value} (hs:Src P i.size tx x n GU w) (vC:i.bytes≠0) (Sj:(len+n)*i.bytes<=140737488355328) :
    ∃uk TJ w',(Builtin.append_ #[t,tx] ty #[.slice ad len cap,x]).run P w=.ok (.slice uk (len+n) TJ) w'/\w'.os=w.os/\w'.tape=w.tape/\w'.output=w.output/\w.heap.size<=w'.heap.size /\
     ((len+n=0/\TJ=0/\w'=w)\/∃b' QO e1,uk=some ⟨b',0,none⟩/\(w'.heap[b']?=some (.cells QO e1 (0,0))/\(Ek\/e1=e))/\len+n<=TJ/\TJ<=maxLen/\QO.size=TJ*i.size/\QO.toList.take ((len+n)*i.size)=ds++GU /\
      ((∃BA e0,ad=some ⟨b',0,none⟩/\Pw b'/\w.heap[b']?=some (.cells BA e0 (0,0))/\w'=w.setRow b' QO)\/(b'=w.heap.size/\b'<w'.heap.size/\∀q,q<w.heap.size->w'.heap[q]?=w.heap[q]?))):=by
 have Av6:len+n<=140737488355328:=AQJ (ASe _ (ARQ vC)) Sj;have h63:((len+n:Nat):Int)<=9223372036854775807:=by omega
 have rO:len+n<=maxLen:=by simp only[maxLen];omega
 have Zs:ds.length=len*i.size:=by
  rcases Yf with ⟨h1,h2,h3⟩|⟨b,BA,e0,h1,_,h2,h3,h4,h5,h6⟩
  ·subst h1;subst h3;simp
  ·rw[<-h6,AQA,ARh,h5];exact Nat.min_eq_left (AQ8 _ h3)
 by_cases Zv:len+n<=cap
 ·rcases Yf with ⟨rfl,rfl,rfl⟩|⟨b,BA,e0,rfl,hpw,⟨hb,hek⟩,h3,h4,h5,h6⟩
  ·obtain rfl:n=0:=by omega
   exact⟨ad,0,w,wG w t tx ty e i ht hi ad x GU hs,rfl,rfl,rfl,AQl _,.inl ⟨rfl,rfl,rfl⟩⟩
  ·have Tl:len*i.size+GU.length<=BA.size:=by
     rw[hs.newsLen,h5,<-ARO];exact AQ8 _ Zv
   refine⟨_,cap,_,AiF w t tx ty e i ht hi b len cap BA hb x n GU hs Zv Tl,rfl,rfl,rfl,by simp,.inr ⟨b,_,e0,rfl,⟨setRow_heap w b BA _ e0 (0,0) hb,hek⟩,Zv,h4,?_,?_,.inl ⟨BA,e0,rfl,hpw,hb,rfl⟩⟩⟩
   ·simp only[ARt,AQj,AQA,AQP,ARh];omega
   ·rw[List.toList_toArray,h6];have:(len+n)*i.size=(ds++GU).length:=by rw[AQj,Zs,hs.newsLen,ARO]
    rw[this,ARX]
 ·have hgt:cap<len+n:=by omega
  have holds:(Builtin.firstCells i.size len (.slice ad len cap)).run P w.drew=.ok ds.toArray w.drew:=by
   rcases Yf with ⟨rfl,rfl,rfl⟩|⟨b,BA,e0,rfl,hpw,⟨hb,hek⟩,h3,h4,h5,h6⟩
   ·cases ad with
    |none=>exact run_firstCells_none w.drew i.size 0 0 0
    |some a=>exact run_firstCells_some w.drew i.size 0 a 0 0 [] (by simp) (by simp)
   ·refine run_firstCells_some w.drew i.size len _ len cap ds Zs λj u hu=>?_;rw[aP,AQL];show w.cell? ⟨b,j,none⟩=some u;rw[QW hb,<-AQt];rw[<-h6,ARg]at hu;split at hu
    ·exact hu
    ·cases hu
  have hr:=run_append_grow_src (P:=P) w t tx ty e i z ht hi hz ad len cap ds holds x n GU hs hgt h63 (growslice_fits hgt Sj);refine⟨_,_,_,hr,rfl,rfl,rfl,by simp,.inr ⟨w.heap.size,_,e,rfl,⟨heap_alloc_new w.drew _,.inr rfl⟩,grownCap_ge w _ cap e,grownCap_le_maxLen w _ cap e rO,?_,?_,.inr ⟨rfl,by simp,λq hq=>heap_alloc_old w.drew _ q hq⟩⟩⟩
  ·have aS:=grownCap_ge w (len+n) cap e;simp only[Array.size_append,ARt,AQj,size_zeroCells,hzs,Zs,hs.newsLen,<-ARO];congr 1;omega
  ·have:(len+n)*i.size=(ds++GU).length:=by rw[AQj,Zs,hs.newsLen,ARO]
   rw[this,Array.toList_append,List.toList_toArray,ARX]
end
end Go.Va
namespace Go.Va
def aZ(w:World)(g:G)(t:Ty)(m:RM)(rs:ATU Nat)(i:Nat)(x:t.V)(c:ATU Value):Prop :=
 (t.BU=true/\c=Lj t x)\/(∃ks,m=.sh ks/\Ii w (Al g.own ks) t x c)\/∃j,rs=[j]/\UW w g.own j m t i x c
theorem aZ.len{w:World}{g:G}{t:Ty}{m:RM}{rs:ATU Nat}{i:Nat}{x:t.V}{c:ATU Value}(h:aZ w g t m rs i x c):c.length=t.size:=by
 rcases h with ⟨hf,rfl⟩|⟨ks,_,h⟩|⟨j,_,h⟩
 ·exact Ii.len (w:=default) (A:=λ_=>True) ((Ii.BU hf).2 rfl)
 ·exact h.len
 ·exact h.len
theorem aZ.one{w:World}{g:G}{t:Ty}{m:RM}{rs:ATU Nat}{i:Nat}{x:t.V}{c:ATU Value}(h:aZ w g t m rs i x c):∀v∈c,v.oneCell'=true:=by
 rcases h with ⟨hf,rfl⟩|⟨ks,_,h⟩|⟨j,_,h⟩
 ·exact Ii.one (w:=default) (A:=λ_=>True) ((Ii.BU hf).2 rfl)
 ·exact h.one
 ·cases m with
  |Aw=>exact Kl.one h
  |sh ks=>exact Ii.one h
theorem UW.BU{w:World}{own:Nat->VC}{k:Nat}{m:RM}{t:Ty}{i:Nat}{x:t.V}{c:ATU Value}(hf:t.BU=true):UW w own k m t i x c↔c=Lj t x:=by
 cases m with
 |Aw=>exact Kl.BU hf
 |sh ks=>exact Ii.BU hf
section
variable {P:Program} {w:World} {g:G} {bs:ATU Blk}
theorem AgH{ds:ATU Value}{b:Nat}{BA:Array Value}{el:TypeId}{fr:Nat×Nat}{n:Nat}(hh:w.heap[b]?=some (.cells BA el fr))(h4:BA.toList.take n=ds):∀j u,ds[j]?=some u->w.cell? ((⟨b,0,none⟩:Addr).add j)=some u:=by
 intro j u hu;rw[aP,AQL,QW hh,<-AQt]
 grind
theorem Ajk(H:Bi w g bs){t:Ty}{y:AV}{ys:ATU t.V}{m:RM}{rs:ATU Nat}(h:s7 bs t y=some (ys,m,rs)){v:Value}(hv:B6 w g bs.length y v){tx:TypeId}{gv:TI}(yb:Fy P tx gv)(hk:(gv.EA||gv.ty==.str)=true) :
    ∃GU,Src P t.size tx v ys.length GU w/\Bo (aZ w g t m rs) 0 ys GU/\(∀j∈m.Ck,j<bs.length)/\(∀j∈rs,j<bs.length)/\(rs=[]\/∃j,rs=[j]):=by
 have Ahu:(∃e',P.underlying tx=some (.slice e'))\/P.underlying tx=some .string:=by
  rw[ARA]at hk;rcases hk with hk |hk
  ·exact .inl ⟨_,BD yb hk⟩
  ·exact .inr (Tg yb (by grind))
 have Awz:∀(ad:ATV Addr) (c:Nat),Src P t.size tx (.slice ad 0 c) 0 [] w:=λad c =>
  ⟨Ahu,λ_=>rfl,by
   cases ad with
   |none=>exact run_firstCells_none w t.size 0 0 c
   |some a=>exact run_firstCells_some w t.size 0 a 0 c [] (by simp) (by simp),by
   cases ad with
   |none=>exact run_firstCells_none w.drew t.size 0 0 c
   |some a=>exact run_firstCells_some w.drew t.size 0 a 0 c [] (by simp) (by simp),by simp,λ_ h=>by grind⟩
 have AiQ:∀(a:Addr) (n c:Nat) (GU:ATU Value),GU.length=n*t.size->(∀j u,GU[j]?=some u->w.cell? (a.add j)=some u)->(∀u∈GU,u.oneCell'=true)->Src P t.size tx (.slice (some a) n c) n GU w:=λa n c GU hl hn h1 =>
  ⟨Ahu,λ_=>rfl,run_firstCells_some w t.size n a n c GU hl hn,run_firstCells_some w.drew t.size n a n c GU hl (by simpa using hn),hl,h1⟩
 unfold s7 at h;split at h
 ·obtain⟨rfl,rfl,rfl⟩:=h;obtain⟨ad,rfl⟩:=Ze hv;exact⟨[],Awz ad 0,rfl,λj hj=>by(cases hj),λj hj=>by grind,.inl rfl⟩
 ·rename_i ks u xs;split at h
  ·rename_i l hl;obtain⟨e',he⟩:=BO hl;injection e' with e';subst e';subst he;obtain⟨rfl,rfl,rfl⟩:=h;obtain⟨hks,ad,cap,ds,rfl,fL,hr,hm⟩:=bQ hv;have hEl:Bo (aZ w g u (if u.BU=true then RM.Aw else RM.sh ks) []) 0 xs ds:=by
    refine hr.toI λi x c h=>?_;cases hf:u.BU with
    |true=>exact .inl ⟨hf,(Ii.BU hf).1 h⟩
    |false=>exact .inr (.inl ⟨ks,by simp,h⟩)
   refine⟨ds,?_,hEl,λj hj=>?_,λj hj=>by grind,.inl rfl⟩
   ·rcases hm with rfl |⟨b,off,rfl,_,hc⟩
    ·cases hr;exact Awz ad cap
    ·exact AiQ _ _ _ _ (CL.len (λx c h=>Ii.len h) hr) (λj u hu=>by rw[aP];exact hc j u hu) (CL.all (λx c h=>Ii.one h) hr)
   ·cases hf:u.BU with
    |true=>rw[hf]at hj;cases hj
    |false=>rw[hf]at hj;exact hks j hj
  ·grind
 ·rename_i ks s;split at h
  ·rename_i l hl;obtain⟨e',he⟩:=BO hl;injection e' with e';subst e';subst he;obtain⟨rfl,rfl,rfl⟩:=h;obtain rfl:=X6 hv;refine⟨byteCells s,?_,?_,λj hj=>by(cases hj),λj hj=>by grind,.inl rfl⟩
   ·have e1:(s.data.toList.map λb=>(b.toNat:Int)).length=s.size:=by rw[AQr];rfl
    rw[e1];exact⟨Ahu,λ_=>rfl,firstCells_string s w,firstCells_string s w.drew,by rw[byteCells_length];exact(Nat.mul_one _).symm,λu hu=>by
     obtain⟨_,_,rfl⟩:=List.mem_map.1 hu;rfl⟩
   ·have:∀(l:ATU UInt8) (i:Nat),Bo (aZ w g (.int .u8) .Aw []) i (l.map λb=>(b.toNat:Int)) (l.map λb=>Value.int .u8 b.toNat):=by
      intro l;induction l with
      |nil=>exact λ_=>rfl
      |cons b l ih=>exact λi=>⟨[_],_,rfl,.inl ⟨rfl,rfl⟩,ih (i+1)⟩
    exact this _ 0
  ·grind
 ·rename_i j;split at h
  ·rename_i el m1 u xs hb;split at h
   ·rename_i l hl;obtain⟨e',he⟩:=BO hl;injection e' with e';subst e';subst he;obtain⟨rfl,rfl,rfl⟩:=h;obtain⟨hj,rfl⟩:=FN hv;obtain⟨Sl,hlen,QT,BX,hr⟩:=H.MR j _ hb;rw[hlen];have Sk:∀j'∈(if u.BU=true then RM.Aw else m1).Ck,j'<bs.length:=λj' Sv=>by
     split at Sv
     ·cases Sv
     ·grind
    have hrs:∀j'∈(if u.BU=true then[]else[j]),j'<bs.length:=λj' Sv=>by
     grind
    have hsh:(if u.BU=true then[]else[j])=[]\/∃j',(if u.BU=true then[]else[j])=[j']:=by
     grind
    rcases hr with ⟨rfl,Hs⟩|⟨b,BA,ds,ha,Cv,⟨elq,_,hh⟩,h1,h2,h3,h4,Ku⟩
    ·rw[Hs];exact⟨[],Awz _ 0,rfl,Sk,hrs,hsh⟩
    ·rw[ha];have hEl:Bo (aZ w g u (if u.BU=true then RM.Aw else m1) (if u.BU=true then[]else[j])) 0 xs ds:=by
      refine(D3.1 Ku).mono λi x c h=>?_;cases hf:u.BU with
      |true=>exact .inl ⟨hf,(UW.BU hf).1 h⟩
      |false=>exact .inr (.inr ⟨j,by simp,by grind⟩)
     exact⟨ds,AiQ _ _ _ _ (Bo.len (λi x c h=>h.len) hEl) (AgH hh h4) (Bo.all (λi x c h=>h.one) hEl),hEl,Sk,hrs,hsh⟩
   ·grind
  ·grind
 ·grind
def sO(off:Nat):ATU Nat->ATU Nat
 |[]=>[]
 |[i]=>[off+i]
 |a::b::r=>a::sO off (b::r)
theorem iq(off i:Nat):∀(q:ATU Nat),sO off (q++[i])=q++[off+i]
 |[]=>rfl
 |[a]=>rfl
 |a::b::q=>by
  have:=iq off i (b::q);simp only[ASm]at this⊢;simp only[sO,this]
def yU(kk:ATV Nat)(n off:Nat)(m:RM)(rs:ATU Nat)(j:Nat)(r:ATU Nat):VC :=
 if kk=some j then .BQ n r else if j∈rs then(match m with |.Aw=>.BQ n (sO off r)|.sh _=>.Jl)else .BQ j r
theorem lj{m m2 m':RM}(h:Abz m m2=some m'):(∀j,j∈m'.Ck↔j∈m.Ck\/j∈m2.Ck)/\(m=.Aw↔m'=.Aw)/\(m'=.Aw->m2=.Aw):=by
 cases m<;>cases m2<;>simp only[Abz,AQh,reduceCtorEq]at h<;>subst h<;>simp[RM.Ck]
end
section
variable {P:Program} {σ:St} {o:Oper} {en:G5} {e:Ih}
theorem da{w:World}{g:G}{bs:ATU Blk}(H:Bi w g bs){t tx ty:TypeId}{ti te gv:TI}(ht:Fy P t ti)(Er:Fy P ti.elem te)(Jk:ti.EA=true)(yb:Fy P tx gv)(hkx:(gv.EA||gv.ty==.str)=true)(O6:te.ty.row=true)(vC:te.bytes≠0)
    {er:Nat} (her:er=0\/er=ti.elem) {kk:ATV Nat} {m m2 m':RM} {xs ys:ATU te.ty.V} {rs:ATU Nat} {y:AV} (k8:s7 bs te.ty y=some (ys,m2,rs)) {ad:ATV Addr} {cap:Nat}
    (Yf:(xs=[]/\cap=0)\/∃k b BA ds,kk=some k/\ad=some ⟨b,0,none⟩/\g.own b=.BQ k []/\Ww w b er BA/\xs.length<=cap/\cap<=maxLen/\BA.size=cap*te.ty.size/\BA.toList.take (xs.length*te.ty.size)=ds/\uf w g.own k m te.ty xs ds)
    (Xn:∀k,kk=some k->k∉rs/\k∉m'.Ck/\k<bs.length) (Sk:∀j∈m.Ck,j∈m'.Ck/\j<bs.length) (kV:xs≠[]->(m=.Aw↔m'=.Aw)) (hj:(∀j∈m2.Ck,j∈m'.Ck)/\(m'=.Aw->m2=.Aw)) (AKf:∀j∈m'.Ck,j<bs.length) (QQ:∀j∈m'.Ck,j∉rs)
    (Sj:(xs.length+ys.length)*te.bytes<=140737488355328) {v:Value} (hv:B6 w g bs.length y v) {Tk:ATU Blk} (AvN:Tk.length=bs.length) (XF:∀(j:Nat) (x:Blk),Tk[j]?=some x->x=.Bd\/(j∉kk.toList++rs/\∃y,bs[j]?=some y/\x=y.drop λi=>(kk.toList++rs).contains i)) :
    ∃r w' g',(Builtin.append_ #[t,tx] ty #[.slice ad xs.length cap,v]).run P w=.ok r w'/\Bi w' g' (Tk++[.row er m' te.ty (xs++ys)])/\B6 w' g' (bs.length+1) (.AG bs.length) r/\Step (kk.toList++rs) bs.length w g w' g':=by
 obtain⟨kU,BX⟩:=lY O6;obtain⟨i,z,hi,NC,hbi,hz,oZ,_⟩:=Er.info;obtain⟨GU,hs,Ws,Tm,AKB,AOS⟩:=Ajk H k8 hv yb hkx;have hu:=BD ht Jk;have hzs:z.cells.size=i.size:=by rw[<-ARh,oZ,Ti,NC]
 let n:=bs.length
 let f:=yU kk n xs.length m' rs
 obtain ⟨ds,AhF,AhG⟩:∃ds,((xs.length=0/\cap=0/\ds=[])\/∃b BA e0,ad=some ⟨b,0,none⟩/\(∃k,kk=some k/\g.own b=.BQ k [])/\(w.heap[b]?=some (.cells BA e0 (0,0))/\(er=0\/e0=ti.elem))/\xs.length<=cap/\cap<=maxLen/\BA.size=cap*i.size/\BA.toList.take (xs.length*i.size)=ds) /\
     ((xs=[]/\ds=[])\/∃k,kk=some k/\uf w g.own k m te.ty xs ds):=by
  rcases Yf with ⟨rfl,rfl⟩|⟨k,b,BA,ds,h1,h2,h3,⟨e0,he0,h4⟩,h5,h6,h7,h8,h9⟩
  ·exact⟨[],.inl ⟨rfl,rfl,rfl⟩,.inl ⟨rfl,rfl⟩⟩
  ·exact⟨ds,.inr ⟨b,BA,e0,h2,⟨k,h1,h3⟩,⟨h4,by rcases he0 with h |h;exact .inl h;exact her.imp id λh'=>h.trans h'⟩,h5,h6,by rw[NC];exact h7,by rw[NC];exact h8⟩,.inr ⟨k,h1,h9⟩⟩
 obtain⟨uk,TJ,w',Ep,hos,hta,hou,QC,dQ⟩:=yV (P:=P) w t tx ty ti.elem i z hu hi hz hzs (by rw[NC];exact BX) AhF (by rw[NC];exact hs) (by rw[hbi];exact vC) (by rw[hbi];exact Sj)
 let i':BI:=⟨uk,xs.length+ys.length,TJ,te.ty.size⟩
 have lt:∀b,g.own b≠.no->b<w.heap.size:=λb h=>VP H h;obtain ⟨ob,zx,WE,hh,Sw⟩:∃ob:ATV Nat,(∀q,ob=some q->w.heap.size<=q/\q<w'.heap.size) /\
     (∀q,q<w.heap.size->(∀k p,g.own q=.BQ k p->k∉kk.toList++rs)->w'.heap[q]?=w.heap[q]?) /\
     (∀b,(g.own b=.Jl\/∃j r,g.own b=.BQ j r/\(kk≠some j\/r≠[]))->w'.heap[b]?=w.heap[b]?) /\
     ((xs++ys=[]/\TJ=0)\/∃b' QO,uk=some ⟨b',0,none⟩/\Ww w' b' er QO/\xs.length+ys.length<=TJ/\TJ<=maxLen/\QO.size=TJ*te.ty.size/\QO.toList.take ((xs.length+ys.length)*te.ty.size)=ds++GU/\(g.Wt f ob n i').own b'=.BQ n []):=by
  rcases dQ with ⟨h0,Hs,rfl⟩|⟨b',QO,e1,h1,⟨h2,he1⟩,h3,h4,h5,h6,h7⟩
  ·refine⟨none,λq h=>by(cases h),λq _ _=>rfl,λb _=>rfl,.inl ⟨?_,Hs⟩⟩;apply AQ7;rw[AQj];omega
  ·rw[NC]at h5 h6;have h2:Ww w' b' er QO:=⟨e1,by rcases her with h |h;exact .inl h;exact he1.imp id λh'=>h'.trans h.symm,h2⟩;rcases h7 with ⟨BA,e0,_,⟨k,hk,Cv⟩,hb,rfl⟩|⟨rfl,Bp,hkp⟩
   ·have LN:∀b,(g.own b=.Jl\/∃j r,g.own b=.BQ j r/\(kk≠some j\/r≠[]))->b≠b':=λb hq e=>by
      subst e;rcases hq with hq |⟨j,r,hq,hj⟩
      ·rw[Cv]at hq;cases hq
      ·rw[Cv]at hq;injection hq with e1 e2;subst e1;subst e2;rcases hj with hj |hj
       ·exact hj hk
       ·exact hj rfl
    refine⟨none,λq h=>by(cases h),lp Cv (by simp[hk]),λb hb=>setRow_other w b' b QO (LN b hb),.inr ⟨b',QO,h1,h2,h3,h4,h5,h6,?_⟩⟩;rw[I7 (by simp) Cv];simp[f,yU,hk]
   ·refine⟨some w.heap.size,λq h=>by injection h with h;subst h;exact⟨AQl _,Bp⟩,λq hq _=>hkp q hq,λb hb=>hkp b (lt b ?_),.inr ⟨_,QO,h1,h2,h3,h4,h5,h6,by simp[G.Wt]⟩⟩;rcases hb with hb |⟨j,r,hb,_⟩<;>rw[hb]<;>simp
 let g':=g.Wt f ob n i'
 have WR:∀b j r,g.own b=.BQ j r->g'.own b=f j r:=λb j r h=>I7 (λe=>by
  have h1:=(zx b e).1;have h2:=lt b (by rw[h];simp);omega) h
 have dZ:∀b,g.own b=.Jl->g'.own b=.Jl:=λb h=>WX (λe=>by
  have h1:=(zx b e).1;have h2:=lt b (by rw[h];simp);omega) h
 have st:Step (kk.toList++rs) n w g w' g':=Step.Wt H.B3 hos hta hou QC WE (λq h=>(zx q h).1) (AQl _) λj r _ hm=>by
  have h1:kk≠some j:=λe=>hm (by simp[e]);have h2:j∉rs:=λe=>hm (by simp[e]);simp[f,yU,h1,h2]
 have Ag1:∀j r,j∈m'.Ck->f j r=.BQ j r:=λj r hj=>by
  have h1:kk≠some j:=λe=>(Xn j e).2.1 hj;simp[f,yU,h1,QQ j hj]
 have AnX:∀(k i:Nat) (x:te.ty.V) (c:ATU Value),kk=some k->xs≠[]->UW w g.own k m te.ty i x c->UW w' g'.own n m' te.ty i x c:=by
  intro k i x c hk LN Ws;refine Ws.on ?_;have hd:=kV LN;cases m with
  |Aw =>
   have:m'=.Aw:=hd.1 rfl;subst this;intro b q hb;exact⟨by rw[WR b k _ hb];simp[f,yU,hk],hh b (.inr ⟨k,_,hb,.inr (by simp)⟩)⟩
  |sh ks =>
   cases m' with
   |Aw=>have:=hd.2 rfl;cases this
   |sh Vb =>
    intro b hb;rcases hb with hb |⟨j,hj,r,hb⟩
    ·exact⟨.inl (dZ b hb),hh b (.inl hb)⟩
    ·have vG:j∈Vb:=(Sk j hj).1;exact⟨.inr ⟨j,vG,r,by rw[WR b j r hb];exact Ag1 j r vG⟩,hh b (.inr ⟨j,r,hb,.inl λe=>(Xn j e).2.1 vG⟩)⟩
 have AGG:∀(i:Nat) (x:te.ty.V) (c:ATU Value),aZ w g te.ty m2 rs i x c->UW w' g'.own n m' te.ty (xs.length+i) x c:=by
  intro i x c Ws;rcases Ws with ⟨hf,rfl⟩|⟨ks,rfl,hr⟩|⟨j,hrj,hr⟩
  ·exact(UW.BU hf).2 rfl
  ·cases m' with
   |Aw=>have:=hj.2 rfl;cases this
   |sh Vb =>
    refine Ii.mono (λb hb=>?_) hr;rcases hb with hb |⟨j,mV,r,hb⟩
    ·exact⟨.inl (dZ b hb),hh b (.inl hb)⟩
    ·have vG:j∈Vb:=hj.1 j mV;exact⟨.inr ⟨j,vG,r,by rw[WR b j r hb];exact Ag1 j r vG⟩,hh b (.inr ⟨j,r,hb,.inl λe=>(Xn j e).2.1 vG⟩)⟩
  ·have mV:kk≠some j:=λe=>(Xn j e).1 (by simp[hrj]);have rK:j∈rs:=by simp[hrj]
   refine hr.on ?_;cases m2 with
   |Aw =>
    cases m' with
    |Aw =>
     intro b q hb;refine⟨?_,hh b (.inr ⟨j,_,hb,.inl mV⟩)⟩;rw[WR b j _ hb];simp only[f,yU,AQy mV,AQx rK,iq]
    |sh Vb =>
     intro b q hb;exact⟨.inl (by rw[WR b j _ hb];simp only[f,yU,AQy mV,AQx rK]),hh b (.inr ⟨j,_,hb,.inl mV⟩)⟩
   |sh ks =>
    cases m' with
    |Aw=>have:=hj.2 rfl;cases this
    |sh Vb =>
     intro b hb;rcases hb with hb |⟨j',AKa,r,hb⟩
     ·exact⟨.inl (dZ b hb),hh b (.inl hb)⟩
     ·have vG:j'∈Vb:=hj.1 j' AKa;exact⟨.inr ⟨j',vG,r,by rw[WR b j' r hb];exact Ag1 j' r vG⟩,hh b (.inr ⟨j',r,hb,.inl λe=>(Xn j' e).2.1 vG⟩)⟩
 have QP:g'.A2 n=i':=by simp[g',G.Wt]
 refine⟨_,w',g',Ep,H.cL st (NI H.B3 QC λq h=>(zx q h).2) (by simp[AvN]) λj x Sv=>?_,?_,st⟩
 ·rw[AQF]at Sv;split at Sv
  ·rcases XF j x Sv with h |h
   ·exact .inl h
   ·exact .inr (.inl h)
  ·rename_i hlen;rw[AvN]at Sv hlen;have oU:j-bs.length=0:=by
    rcases AQD (j-bs.length)with h |h
    ·exact h
    ·rw[AQT (by simp;omega)]at Sv;cases Sv
   rw[oU]at Sv;obtain rfl:j=n:=by simp only[n];omega
   simp only[List.getElem?_cons_zero,AQh]at Sv;subst Sv;refine .inr (.inr ⟨λj hj=>by have:=AKf j hj;simp[AvN];omega,by rw[QP,AQj],by rw[QP],BX,?_⟩);rw[QP,AQj];refine Sw.imp id λ⟨b',QO,h1,h2,h3,h4,h5,h6,h7⟩=>⟨b',QO,_,h1,h7,h2,h3,h4,h5,h6,?_⟩;rw[D3];refine Bo.append ?_ ?_
   ·rcases AhG with ⟨rfl,rfl⟩|⟨k,hk,Ku⟩
    ·rfl
    ·rcases Classical.em (xs=[])with hx |hx
     ·subst hx;have:ds=[]:=by cases m<;>exact Ku
      subst this;rfl
     ·exact(D3.1 Ku).mono λi x c h=>AnX k i x c hk hx h
   ·rw[AQL];have shift:∀(ys:ATU te.ty.V) (cs:ATU Value) (a b:Nat),Bo (aZ w g te.ty m2 rs) a ys cs->Bo (UW w' g'.own n m' te.ty) (xs.length+a) ys cs:=by
     intro ys;induction ys with
     |nil=>exact λcs a _ h=>h
     |cons y ys ih =>
      intro cs a b ⟨c,d,e,h1,h2⟩;exact⟨c,d,e,AGG a y c h1,ih d (a+1) b h2⟩
    exact shift ys GU 0 0 Ws
 ·refine Bv (cs:=[_]) rfl ⟨AQV _,rfl⟩ ?_;have:g'.A2 bs.length=i':=QP;simp[Cm,AV.isAgg,this,i']
end
end Go.Va
namespace Go.Va
section
variable {P:Program} {σ:St} {o:Oper} {en:G5} {e:Ih} {fi:FI}
theorem AaL{c:Call}{x y:AV}(h:Qr σ c.args=[x,y]):∃a b,c.args=#[a,b]/\σ.Cp a=x/\σ.Cp b=y:=by
 unfold Qr at h;cases hc:c.args with
 |mk l =>
  rw[hc]at h
  match l,h with
  |[a,b],h =>
   grind
  |[],h=>grind
  |[_],h=>grind
  |_::_::_::_,h=>grind
theorem Afm{c:Call}{x:AV}(h:Qr σ c.args=[x]):∃a,c.args=#[a]/\σ.Cp a=x:=by
 unfold Qr at h;cases hc:c.args with
 |mk l =>
  rw[hc]at h
  match l,h with
  |[a],h =>
   grind
  |[],h=>grind
  |_::_::_,h=>grind
theorem Aar{ts:Array TypeId}{t u:TypeId}(h:ts.toList=[t,u]):ts=#[t,u]:=by grind
theorem Ks{c:Call}(ho:o.op=.call c){b:Builtin}(hc:c.callee=.builtin b)(ρ:Operand->Value) :
    execOp ρ o=builtin b c.argTypes o.type (c.args.map λ|.const _=>true |_=>false) (c.args.map ρ):=by
 simp only[execOp,ho,resolve,hc];rfl
theorem AmL{c:Call}(ho:o.op=.call c)(hc:c.callee=.builtin .len){x:AV}(hx:Qr σ c.args=[x]){t:TypeId}{r:ATU TypeId}(bl:c.argTypes.toList=t::r){ti:TI}(ht:Fy P t ti){z:AV}(h:sq σ.Aj ti x some=some z):OL P σ o ⟨z,σ.Aj,[]⟩:=by
 obtain⟨a0,ha,rfl⟩:=Afm hx;refine .Jm <| Ml (s:=λρ=>Builtin.len_ c.argTypes o.type #[ρ a0]) (λρ=>?_) λa w g hs=>?_
 ·rw[Ks ho hc,ha];simp[builtin]
 ·obtain⟨z',e,hG⟩:=Amo (n:=σ.Aj.length) hs.heap ht h (AX hs a0) o.type _ (by rw[<-AQt,bl];rfl)
  grind
theorem Ai4{c:Call}(ho:o.op=.call c){mx:Bool}(hc:c.callee=.builtin (if mx then .max else .min)){x y:AV}(hx:Qr σ c.args=[x,y]){z:AV}(h:mmA mx x y some=some z):OL P σ o ⟨z,σ.Aj,[]⟩:=by
 obtain⟨a0,a1,ha,rfl,rfl⟩:=AaL hx;refine .Jm <| Ml (s:=λρ=>if mx then Builtin.max_ c.argTypes o.type #[ρ a0,ρ a1]else Builtin.min_ c.argTypes o.type #[ρ a0,ρ a1]) (λρ=>?_) λa w g hs=>?_
 ·rw[Ks ho hc,ha];cases mx<;>simp[builtin]
 ·obtain⟨z',e,hG⟩:=Aww  h (AX hs a0) (AX hs a1) _ _;injection e with e;subst e;exact hG
theorem Ajj{w:World}{g:G}{bs:ATU Blk}(H:Bi w g bs){t:Ty}{y:AV}{ys:ATU t.V}{m:RM}{rs:ATU Nat}(h:s7 bs t y=some (ys,m,rs)){v:Value}(hv:B6 w g bs.length y v):(∀j∈m.Ck,j<bs.length):=by
 unfold s7 at h;split at h
 ·obtain⟨rfl,rfl,rfl⟩:=h;intro j hj;cases hj
 ·split at h
  ·obtain⟨rfl,rfl,rfl⟩:=h;intro j hj;split at hj
   ·cases hj
   ·exact(bQ hv).1 j hj
  ·grind
 ·split at h
  ·obtain⟨rfl,rfl,rfl⟩:=h;intro j hj;cases hj
  ·grind
 ·rename_i k;split at h
  ·rename_i el m1 u xs hb;split at h
   ·obtain⟨rfl,rfl,rfl⟩:=h;intro j hj;split at hj
    ·cases hj
    ·exact(H.MR k _ hb).1 j hj
   ·grind
  ·grind
 ·grind
theorem Aab{c:Call}(ho:o.op=.call c)(hc:c.callee=.builtin .append){x y:AV}(hx:Qr σ c.args=[x,y]){t tx:TypeId}(bl:c.argTypes.toList=[t,tx]){ti te gv:TI}(ht:Fy P t ti)(Er:Fy P ti.elem te)(Jk:ti.EA=true)(yb:Fy P tx gv)(hkx:(gv.EA||gv.ty==.str)=true)
    (h:ZZ fi σ.Aj ti.elem te x y some=some e):OL P σ o e:=by
 obtain⟨a0,a1,ha,rfl,rfl⟩:=AaL hx;have Ep:∀(a:Act) (w:World) (r:Value) (w':World),(Builtin.append_ #[t,tx] o.type #[a.eval a0,a.eval a1]).run P w=.ok r w'->(execOp a.eval o).run P w=.ok (.value r) w':=by
  intro a w r w' hr;rw[Ks ho hc,ha,Aar bl];simp[builtin,hr]
 have Xm:∀(HT:ATU Blk) (BF:ATU Nat),σ.Aj.length+1=HT.length->(BF=[]->∃l,HT=σ.Aj++l) ->
     (∀(a:Act) (w:World) (g:G),LJ w g σ a->∃r w' g',(Builtin.append_ #[t,tx] o.type #[a.eval a0,a.eval a1]).run P w=.ok r w'/\Bi w' g' HT/\B6 w' g' (σ.Aj.length+1) (.AG σ.Aj.length) r/\Step BF σ.Aj.length w g w' g')->OL P σ o ⟨.AG σ.Aj.length,HT,BF⟩:=by
  intro HT BF hl hm hh;refine⟨by show σ.Aj.length<=HT.length;omega,hm,λa w g hs next Q hn=>?_⟩
  obtain⟨r,w',g',hr,hH,hv,BS⟩:=hh a w g hs;unfold Oper.wp;rw[Ep a w r w' hr];exact hn r w' g' hH (by show B6 w' g' HT.length _ _;rw[<-hl];exact hv) BS
 have hlen:∀(BF l:ATU Nat),(Blk.Hd (Be BF σ.Aj) l).length=σ.Aj.length:=λBF l=>by rw[Bc,AJ]
 unfold ZZ at h;split at h
 ·rename_i hzs;split at h
  ·cases h
  ·rename_i hr0;have gQ:(te.ty.row&&te.bytes !=0)=true:=by simpa using hr0
   rw[AQm]at gQ;have vC:te.bytes≠0:=by simpa using gQ.2
   split at h
   ·rename_i ys m2 rs k8;split at h
    ·rename_i m' hj;split at h
     ·rename_i QQ;split at h
      ·rename_i Sj;injection h with h;subst h;refine Xm _ _ (by rw[AQj,hlen];rfl) (λh=>⟨[.row ti.elem m' te.ty ys],by have h:rs=[]:=h;rw[h];rfl⟩) λa w g hs=>?_;have hv0:=AX hs a0;rw[hzs]at hv0;obtain⟨ad,hv0⟩:=Ze hv0;rw[hv0];have Zx:(∀j∈m'.Ck,j∈m2.Ck)/\(∀j∈m2.Ck,j∈m'.Ck)/\(m'=.Aw->m2=.Aw):=by
        obtain⟨h1,h2,h3⟩:=lj hj;refine⟨λj hj=>?_,λj hj=>(h1 j).2 (.inr hj),h3⟩;rcases(h1 j).1 hj with h |h
        ·cases m2 with
         |Aw=>rw[V1]at h;cases h
         |sh ks=>exact h
        ·exact h
       have:=da (er:=ti.elem) (her:=.inr rfl) (kk:=none) (m:=.Aw) (xs:=([]:ATU te.ty.V)) (cap:=0) (ad:=ad) (m':=m') (Tk:=Blk.Hd (Be rs σ.Aj) rs) (ty:=o.type) hs.heap ht Er Jk yb hkx gQ.1 vC k8 (.inl ⟨rfl,rfl⟩) (λk hk=>by cases hk) (λj hj=>by cases hj) (λh=>(h rfl).elim) Zx.2
        (λj hj=>Ajj hs.heap k8 (AX hs a1) j (Zx.1 j hj)) (XP QQ) (by simpa using Sj) (AX hs a1) (hlen rs rs) (λj x hx=>by
         rcases Ln hx with h |⟨rK,h⟩
         ·exact .inl h
         ·obtain⟨y',jo,rfl⟩:=Du h;exact .inr ⟨by simpa using rK,y',jo,rfl⟩)
       simpa using this
      ·cases h
     ·cases h
    ·cases h
   ·cases h
 ·rename_i k hk;split at h
  ·cases h
  ·rename_i hr0;have gQ:(te.ty.row&&te.bytes !=0)=true:=by simpa using hr0
   rw[AQm]at gQ;have vC:te.bytes≠0:=by simpa using gQ.2
   split at h
   ·rename_i e' m t' xs0 ys m2 rs hb k8;split at h
    ·rename_i xs m' vD hj;split at h
     ·rename_i vE;split at h
      ·rename_i Sj;injection h with h;subst h;obtain⟨he,hrk,QQ⟩:=vE;obtain⟨ec,hec⟩:=BO vD;injection ec with ec;subst ec;simp only at hec;subst hec;have zr:k∉rs:=by simpa using hrk
       have YJ:=XP QQ;refine Xm _ _ (by rw[AQj,hlen];rfl) (λh=>by cases h) λa w g hs=>?_;have hv0:=AX hs a0;rw[hk]at hv0;obtain⟨gM,hv0⟩:=FN hv0;obtain⟨Sl,hl,QT,BX,hrr⟩:=hs.heap.MR k _ hb;rw[hv0,hl];obtain⟨h1,h2,h3⟩:=lj hj;have Tm:=Ajj hs.heap k8 (AX hs a1);have:=da (er:=e') (her:=he.symm.imp id λh=>h.1.symm) (kk:=some k) (m:=m) (xs:=xs0) (ad:=(g.A2 k).a) (cap:=(g.A2 k).cap) (m':=m') (Tk:=Blk.Hd (Be (k::rs) σ.Aj) (k::rs)) (ty:=o.type) hs.heap ht Er Jk yb hkx gQ.1 vC k8
        (hrr.imp id λ⟨b,BA,ds,p1,p2,p3,p4,p5,p6,p7,p8⟩=>⟨k,b,BA,ds,rfl,p1,p2,p3,p4,p5,p6,p7,p8⟩)
        (λk' X0=>by injection X0 with X0;subst X0;exact⟨zr,λh=>YJ k h (by simp),gM⟩) (λj hj=>⟨(h1 j).2 (.inl hj),Sl j hj⟩) (λ_=>h2) ⟨λj hj=>(h1 j).2 (.inr hj),h3⟩
        (λj hj=>by rcases(h1 j).1 hj with h |h;exact Sl j h;exact Tm j h) (λj hj h=>YJ j hj (AQH _ h)) Sj (AX hs a1) (hlen (k::rs) (k::rs)) (λj x hx=>by
         rcases Ln hx with h |⟨rK,h⟩
         ·exact .inl h
         ·obtain⟨y',jo,rfl⟩:=Du h;exact .inr ⟨by simpa using rK,y',jo,rfl⟩)
       simpa using this
      ·cases h
     ·cases h
    ·cases h
   ·cases h
 ·cases h
theorem AmI{t:TypeId}{x:Operand}{hi:ATV Operand}(ho:o.op=.slice t x none hi none){ti:TI}(ht:Fy P t ti)(Jk:ti.EA=true){te:TI}(Er:Fy P ti.elem te)
    (h:AcL te.ty σ.Aj (σ.Cp x) (hi.map σ.Cp) some=some e):OL P σ o e:=by
 unfold AcL at h;split at h
 ·rename_i k ks kk hv hx hh;split at h
  ·rename_i el m tr xs hb;split at h
   ·rename_i QQ;obtain⟨QQ,htt⟩:=QQ;subst htt;split at h
    ·rename_i hc;injection h with h;subst h;obtain⟨h0,h1⟩:=hc;refine⟨by simp[Bc,AJ],λh=>by(cases h),λa w g hs next Q hn=>?_⟩
     have H:=hs.heap;have hxo:=AX hs x;rw[hx]at hxo;obtain⟨hk,vV⟩:=FN hxo;obtain⟨Sl,hlen,QT,BX,hr⟩:=H.MR k _ hb;have hhi:=az hs hi;rw[hh]at hhi;obtain⟨rU,hve⟩:∃v,hi.map a.eval=some v/\v=.int kk hv:=by
      cases hq:hi.map a.eval with
      |none=>rw[hq]at hhi;exact hhi.elim
      |some v=>rw[hq]at hhi;exact⟨v,rfl,DF hhi⟩
     obtain⟨AKT,AG3⟩:=hve;subst AG3;have fL:(g.A2 k).len<=(g.A2 k).cap:=by
      rw[hlen];rcases hr with ⟨rfl,Hs⟩|⟨b,BA,ds,_,_,_,h1,_⟩
      ·simp
      ·exact h1
     have zm:(if(g.A2 k).cap=0 then(g.A2 k).a else(g.A2 k).a.map (·.add (0*te.ty.size)))=(g.A2 k).a:=by
      split
      ·rfl
      ·rename_i Hs;rcases hr with ⟨_,QS⟩|⟨b,BA,ds,ha,_⟩
       ·exact(Hs QS).elim
       ·rw[ha];simp[aP]
     have Ep:(execOp a.eval o).run P w=.ok (.value (.slice (g.A2 k).a hv.toNat (g.A2 k).cap)) w:=by
      have vA:=SF (P:=P) (w:=w) (isS:=true) (len:=(g.A2 k).len) (cap:=(g.A2 k).cap) (lo:=none) (hi:=some (.int kk hv)) (l:=0) (h:=hv) (.inl ⟨rfl,rfl⟩) (.inr ⟨kk,rfl⟩) (ARs _) h0 (by rw[hlen];exact h1) fL;have:(Instr.sliceAt t (.slice (g.A2 k).a (g.A2 k).len (g.A2 k).cap) none (some (.int kk hv)) none).run P w=.ok (.slice (g.A2 k).a hv.toNat (g.A2 k).cap) w:=by
       rw[LG ht Jk];simp[Instr.slice,underlying,BD ht Jk,vA,D4 Er];simpa using zm
      simp[execOp,ho,vV,AKT,this]
     unfold Oper.wp;rw[Ep]
     let n:=σ.Aj.length
     let i':BI:=⟨(g.A2 k).a,hv.toNat,(g.A2 k).cap,te.ty.size⟩
     let f:Nat->ATU Nat->VC:=λj r=>if j=k then .BQ n r else .BQ j r
     let g':=g.Wt f none n i'
     have st:Step [k] n w g w g':=Step.Wt H.B3 rfl rfl rfl (AQl _) (λ_ _ _=>rfl) (λq h=>by cases h) (AQl _) λj r _ hm=>by
      simp only[AQG]at hm;simp[f,hm]
     have QP:g'.A2 n=i':=by simp[g',G.Wt]
     have hvl:hv.toNat<=xs.length:=by have h1':(hv:Int)<=(xs.length:Int):=h1;exact Int.toNat_le.2 h1'
     have YJ:=XP QQ;refine hn _ w g' (H.cL st (NI H.B3 (AQl _) λq h=>by cases h) (by simp[Bc,AJ]) λj y hj=>?_) ?_ st
     ·rw[AQF]at hj;split at hj
      ·rcases Ln hj with h |⟨rK,h⟩
       ·exact .inl h
       ·obtain⟨y',jo,rfl⟩:=Du h;exact .inr (.inl ⟨rK,y',jo,rfl⟩)
      ·rename_i Bp;rw[Bc,AJ]at hj Bp;have oU:j-σ.Aj.length=0:=by
        rcases AQD (j-σ.Aj.length)with h |h
        ·exact h
        ·rw[AQT (by simp;omega)]at hj;cases hj
       rw[oU]at hj;obtain rfl:j=n:=by simp only[n];omega
       simp only[List.getElem?_cons_zero,AQh]at hj;subst hj;refine .inr (.inr ⟨λj hj=>by have:=Sl j hj;simp[Bc,AJ];omega,by rw[QP,AQA];simp only[i'];omega,by rw[QP],BX,?_⟩);rw[QP];rcases hr with ⟨rfl,Hs⟩|⟨b,BA,ds,ha,Cv,Ahn,p1,p2,p3,p4,Ku⟩
       ·exact .inl ⟨by simp,Hs⟩
       ·refine .inr ⟨b,BA,ds.take (hv.toNat*te.ty.size),ha,by rw[I7 (by simp) Cv];simp[f],Ahn,by rw[AQA];simp only[i'];omega,p2,p3,?_,?_⟩
        ·rw[AQA,Nat.min_eq_left hvl,<-p4,List.take_take,Nat.min_eq_left (AQ8 _ hvl)]
        ·rw[D3];refine(Bo.takeN (λi x c h=>UW.len h) hv.toNat (D3.1 Ku)).mono λi x c Ws=>Ws.on ?_;cases m with
         |Aw=>exact λb q hb=>⟨by rw[I7 (by simp) hb];simp[f],rfl⟩
         |sh ks =>
          intro b hb;rcases hb with hb |⟨j,hj,r,hb⟩
          ·exact⟨.inl (WX (by simp) hb),rfl⟩
          ·refine⟨.inr ⟨j,hj,r,?_⟩,rfl⟩;have:j≠k:=λe=>YJ j hj (by simp[e]);rw[I7 (by simp) hb];simp[f,this]
     ·refine Bv (cs:=[_]) rfl ⟨by simp[Bc,AJ],rfl⟩ ?_;have:g'.A2 σ.Aj.length=i':=QP;simp[Cm,AV.isAgg,this,i']
    ·cases h
   ·cases h
  ·cases h
 ·cases h
theorem Aea(w:World)(t tx ty e:TypeId)(i:TypeInfo)(z:Value)(ht:P.underlying t=some (.slice e)){k':IntKind}(hk:P.underlying tx=some (.int k'))(hi:P.info? e=some i)(hz:i.zero=some z)(ad:ATV Addr)(k:IntKind)(l:Int)(h0:0<=l)(Sj:l*(i.bytes:Int)<=140737488355328)(hb:i.bytes≠0)(hs:i.size≠0) :
    (l=0/\(Builtin.append_ #[t,tx] ty #[.slice ad 0 0,.int k l]).run P w=.ok (.slice ad 0 0) w)\/(0<l /\
     (Builtin.append_ #[t,tx] ty #[.slice ad 0 0,.int k l]).run P w=.ok (.slice (some ⟨w.heap.size,0,none⟩) l.toNat (grownCap w l.toNat 0 e)) (w.drew.alloc (.cells (Builtin.zeroCells z.cells l.toNat++Builtin.zeroCells z.cells (grownCap w l.toNat 0 e-l.toNat)) e))):=by
 have Tl:l<=140737488355328:=by
  have h1:(1:Int)<=(i.bytes:Int):=by omega
  have:=Int.mul_le_mul_of_nonneg_left h1 h0;omega
 have hw:IntKind.i64.wrap l=l:=by rw[IntKind.wrap_i64];omega
 have n1:¬l<0:=by omega
 have n2:¬(281474976710656<l*(i.bytes:Int)):=by omega
 rcases Int.le_iff_lt_or_eq.1 h0 with hp |hp
 ·refine .inr ⟨hp,?_⟩;have hn:¬(l.toNat=0):=by omega
  have hn':¬(l<=0):=by omega
  have hns:¬(l.toNat*i.size=0):=λh=>by rcases Nat.mul_eq_zero.1 h with h |h;exact hn h;exact hs h
  have h48:¬(281474976710656<Builtin.nextslicecap l.toNat 0*i.bytes):=by
   unfold Builtin.nextslicecap;rw[AQx (by omega)];have:((l.toNat*i.bytes:Nat):Int)=l*(i.bytes:Int):=by rw[Int.natCast_mul,Int.toNat_of_nonneg h0]
   omega
  have h63:¬(9223372036854775807<max l 0):=by omega
  have hf:(Builtin.firstCells i.size 0 (.slice ad 0 0)).run P w.drew=.ok #[] w.drew:=by
   cases ad with
   |none=>exact run_firstCells_none w.drew i.size 0 0 0
   |some a=>exact run_firstCells_some w.drew i.size 0 a 0 0 [] (by simp) (by simp)
  simp[Builtin.append_,run_underlying ht,run_underlying hk,sizeOf,typeInfo,zeroValue,asInt,asIntOf,hi,hz,hw,n1,n2,hn',h63,h48,hns,Question.forced,hf,newRow,grownCap]
 ·subst hp;refine .inl ⟨rfl,?_⟩;cases ad<;>simp[Builtin.append_,run_underlying ht,run_underlying hk,sizeOf,typeInfo,asInt,asIntOf,hi,IntKind.wrap_i64,storeCells]
theorem Ad9(l:Int)(b:Nat)(h0:0<=l)(h:l*(b:Int)<=140737488355328)(hb:b≠0):l.toNat<=maxLen:=by
 have h1:1<=(b:Int):=by omega
 have:=Int.mul_le_mul_of_nonneg_left h1 h0;simp only[maxLen];omega
theorem qd(z:Array Value)(n:Nat):Builtin.zeroCells z n=madeCells z (n*z.size):=rfl
theorem w5{c:Call}(ho:o.op=.call c)(hc:c.callee=.builtin .append){x y:AV}(hx:Qr σ c.args=[x,y]){t tx:TypeId}(bl:c.argTypes.toList=[t,tx]){ti te gv:TI}(ht:Fy P t ti)(Er:Fy P ti.elem te)(Jk:ti.EA=true)(yb:Fy P tx gv)(hkx:gv.ty.isInt=true)
    (h:Z0 fi σ.Aj ti.elem te x y some=some e):OL P σ o e:=by
 obtain⟨a0,a1,ha,al,k9⟩:=AaL hx;obtain⟨k',X0⟩:∃k',gv.ty=.int k':=by
  cases hq:gv.ty with
  |int k=>grind
  |_=>rw[hq]at hkx;cases hkx
 unfold Z0 at h;split at h
 ·rename_i ks k l;split at h
  ·rename_i O6;split at h
   ·rename_i hl;injection h with h;subst h;obtain⟨kU,BX⟩:=lY O6.1;obtain⟨i,z,hi,NC,hbs,hz,oZ,_⟩:=Er.info;refine⟨by simp,λ_=>⟨_,rfl⟩,λa w g hs next Q hn=>?_⟩
    have e1:=AX hs a0;rw[al]at e1;obtain⟨ad,e1⟩:=Ze e1;have e2:=AX hs a1;rw[k9]at e2;have e2:=DF e2;have hzz:z.cells.size=i.size:=by rw[NC,<-ARh,oZ,Ti]
    have bg:∀(r:Value) (w':World),(Builtin.append_ #[t,tx] o.type #[.slice ad 0 0,.int k l]).run P w=.ok r w'->(execOp a.eval o).run P w=.ok (.value r) w':=λr w' hr=>by
     rw[Ks ho hc,ha,Aar bl];simp[builtin,e1,e2,hr]
    unfold Oper.wp;rcases Aea (P:=P) w t tx o.type ti.elem i z (BD ht Jk) (Vx yb X0) hi hz ad k l hl.1 (by grind) (by grind) (by omega)with ⟨h0,hr⟩|⟨hp,hr⟩
    ·subst h0;rw[bg _ _ hr]
     let g':G:=⟨g.own,λk=>if k=σ.Aj.length then⟨ad,0,0,te.ty.size⟩else g.A2 k⟩
     have st:Step [] σ.Aj.length w g w g':=⟨rfl,rfl,rfl,AQl _,λ_ _ h=>⟨h,rfl⟩,λ_ h=>⟨h,rfl⟩,λ_ _ _ h _ _=>⟨h,rfl⟩,λk hk=>by grind⟩;have ha0:g'.A2 σ.Aj.length=⟨ad,0,0,te.ty.size⟩:=by grind
     refine hn _ w g' (hs.heap.push st hs.heap.B3 ?_) ?_ st
     ·refine⟨(by rw[V1];intro j hj;cases hj),by grind,by grind,BX,.inl ⟨rfl,by grind⟩⟩
     ·refine Bv (cs:=[_]) rfl ⟨by simp,rfl⟩ ?_;simp[Cm,AV.isAgg,ha0]
    ·rw[bg _ _ hr];have rO:l.toNat<=maxLen:=Ad9 l te.bytes hl.1 hl.2 O6.2;have aS:=grownCap_ge w l.toNat 0 ti.elem;have Tl:=grownCap_le_maxLen w l.toNat 0 ti.elem rO;have st:=(Step.drew [] σ.Aj.length w g).trans (Step.add hs.heap.drew (.cells (Builtin.zeroCells z.cells l.toNat++Builtin.zeroCells z.cells (grownCap w l.toNat 0 ti.elem-l.toNat)) ti.elem) ⟨some ⟨w.heap.size,0,none⟩,l.toNat,grownCap w l.toNat 0 ti.elem,te.ty.size⟩) (AQl _);refine hn _ _ _ (hs.heap.drew.new ?_) ?_ st
     ·refine⟨(by rw[V1];intro j hj;cases hj),by simp[G.add],by simp[G.add],BX,.inr ⟨w.heap.size,_,_,by simp[G.add],by simp[G.add],⟨_,.inr rfl,heap_alloc_new w.drew _⟩,by simpa [G.add]using aS,by simpa [G.add]using Tl,?_,rfl,?_⟩⟩
      ·simp only[G.add,AQ2,Array.size_append,qd,size_madeCells,hzz,<-ARO];congr 1;omega
      ·rw[AQM,Array.toList_append,qd,hzz,NC];have hk:(madeCells z.cells (l.toNat*te.ty.size)).toList.length=l.toNat*te.ty.size:=by rw[ARh,size_madeCells]
       rw[ARl (by grind),fT z.cells (by grind) BX (AQl _)];exact qe kU (by exact oZ) _ fi
     ·refine Bv (cs:=[_]) rfl ⟨by simp,rfl⟩ ?_;simp[Cm,AV.isAgg,G.add]
   ·grind
  ·grind
 ·grind
end
end Go.Va
namespace Go.Va
section
variable {P:Program} {σ:St} {o:Oper}
theorem AiW{t:TypeId}{x lo:Operand}(ho:o.op=.slice t x (some lo) none none){ti te:TI}(ht:Fy P t ti)(Jk:ti.EA=true)(Er:Fy P ti.elem te){k:Nat}{ks:ATU Nat}{kk:IntKind}{l:Int}(hx:σ.Cp x=.AG k)(hlo:σ.Cp lo=.AB ks (.int kk) l)
    {el:Nat} {xs:ATU te.ty.V} (hb:σ.Aj[k]?=some (.tail el te.ty xs)) (h0:0<=l) (h1:l<=(xs.length:Int)) :
    OL P σ o ⟨.AG σ.Aj.length,Blk.Hd (Be [k] σ.Aj) [k]++[.tail el te.ty (xs.drop l.toNat)],[k]⟩:=by
 refine⟨by simp[Bc,AJ],λh=>by(cases h),λa w g hs next Q hn=>?_⟩
 have H:=hs.heap;have hxo:=AX hs x;rw[hx]at hxo;obtain⟨hk,vV⟩:=FN hxo;obtain⟨hf,hlen,QT,BX,hr⟩:=H.MR k _ hb;have hlv:=AX hs lo;rw[hlo]at hlv;have hlv:a.eval lo=.int kk l:=DF hlv;have fL:(g.A2 k).len<=(g.A2 k).cap:=by
  rw[hlen];rcases hr with ⟨rfl,Hs⟩|⟨b,o',BA,ds,_,_,_,h1,_⟩
  ·simp
  ·exact h1
 have hvl:l.toNat<=xs.length:=Int.toNat_le.2 h1;obtain⟨ad,zm⟩:∃ad,ad=(if(g.A2 k).cap=l.toNat then(g.A2 k).a else(g.A2 k).a.map (·.add (l.toNat*te.ty.size))):=⟨_,rfl⟩;have Ep:(execOp a.eval o).run P w=.ok (.value (.slice ad ((g.A2 k).len-l.toNat) ((g.A2 k).cap-l.toNat))) w:=by
  have vA:=SF (P:=P) (w:=w) (isS:=true) (len:=(g.A2 k).len) (cap:=(g.A2 k).cap) (lo:=some (.int kk l)) (hi:=none) (l:=l) (h:=((g.A2 k).len:Int)) (.inr ⟨kk,rfl⟩) (.inl ⟨rfl,rfl⟩) h0 (by rw[hlen];exact h1) (ARs _) fL;have:(Instr.sliceAt t (.slice (g.A2 k).a (g.A2 k).len (g.A2 k).cap) (some (.int kk l)) none none).run P w=.ok (.slice ad ((g.A2 k).len-l.toNat) ((g.A2 k).cap-l.toNat)) w:=by
   rw[LG ht Jk];simp[Instr.slice,underlying,BD ht Jk,vA,D4 Er,zm]
  simp[execOp,ho,vV,hlv,this]
 unfold Oper.wp;rw[Ep]
 let n:=σ.Aj.length
 let i':BI:=⟨ad,(g.A2 k).len-l.toNat,(g.A2 k).cap-l.toNat,te.ty.size⟩
 let f:Nat->ATU Nat->VC:=λj r=>if j=k then .BQ n r else .BQ j r
 let g':=g.Wt f none n i'
 have st:Step [k] n w g w g':=Step.Wt H.B3 rfl rfl rfl (AQl _) (λ_ _ _=>rfl) (λq h=>by cases h) (AQl _) λj r _ hm=>by
  simp only[AQG]at hm;simp[f,hm]
 have QP:g'.A2 n=i':=by simp[g',G.Wt]
 refine hn _ w g' (H.cL st (NI H.B3 (AQl _) λq h=>by cases h) (by simp[Bc,AJ]) λj y hj=>?_) ?_ st
 ·rw[AQF]at hj;split at hj
  ·rcases Ln hj with h |⟨rK,h⟩
   ·exact .inl h
   ·obtain⟨y',jo,rfl⟩:=Du h;exact .inr (.inl ⟨rK,y',jo,rfl⟩)
  ·rename_i Bp;rw[Bc,AJ]at hj Bp;have oU:j-σ.Aj.length=0:=by
    rcases AQD (j-σ.Aj.length)with h |h
    ·exact h
    ·rw[AQT (by simp;omega)]at hj;cases hj
   rw[oU]at hj;obtain rfl:j=n:=by simp only[n];omega
   simp only[List.getElem?_cons_zero,AQh]at hj;subst hj;refine .inr (.inr ⟨hf,by rw[QP,AQP];simp only[i'];omega,by rw[QP],BX,?_⟩);rw[QP];rcases hr with ⟨rfl,Hs⟩|⟨b,off,BA,ds,ha,Cv,Ahn,p1,p2,p3,p4,Ku⟩
   ·exact .inl ⟨by simp,by simp only[i'];omega⟩
   ·rcases AQD ((g.A2 k).cap-l.toNat)with hz |hz
    ·exact .inl ⟨by apply AQ7;rw[AQP];omega,hz⟩
    ·have OO:=congrArg List.length p4;refine .inr ⟨b,off+l.toNat*te.ty.size,BA,ds.drop (l.toNat*te.ty.size),?_,by rw[I7 (by simp) Cv];simp[f],Ahn,by rw[AQP];simp only[i'];omega,by simp only[i'];omega,?_,?_,?_⟩
     ·show ad=_;rw[zm,AQy (by omega),ha];simp[aP]
     ·simp only[i'];rw[p3,ARk,<-ARO];congr 2;omega
     ·rw[AQP,<-p4,<-List.drop_drop,List.drop_take,<-Nat.sub_mul]
     ·rw[D3];have vU:=IV (j:=0).2 ((D3.1 Ku).mono λi x c h=>(UW.BU hf).1 h);exact(IV (j:=0).1 (vU.AgO (s:=te.ty.size) (λx c h=>UW.len (w:=w) (own:=g.own) (k:=k) (m:=.Aw) (i:=0) ((UW.BU hf).2 h)) l.toNat)).mono λi x c h=>(UW.BU hf).2 h
 ·refine Bv (cs:=[_]) rfl ⟨by simp[Bc,AJ],rfl⟩ ?_;have:g'.A2 σ.Aj.length=i':=QP;simp[Cm,AV.isAgg,this,i']
theorem AiZ{t:TypeId}{x y:Operand}(ho:o.op=.indexAddr t x y){ti te:TI}(ht:Fy P t ti)(Jk:ti.EA=true)(Er:Fy P ti.elem te){k:Nat}{ks:ATU Nat}{kk:IntKind}{i:Int}(hx:σ.Cp x=.AG k)(hy:σ.Cp y=.AB ks (.int kk) i)
    {el:Nat} {xs:ATU te.ty.V} (hb:σ.Aj[k]?=some (.tail el te.ty xs)) (h0:0<=i) (h1:i<(xs.length:Int)) :
    OL P σ o ⟨.FZ [k] te.ty (xs.getD i.toNat te.ty.zero),σ.Aj,[]⟩ :=
 .Jm <| Ml (s:=λρ=>Instr.indexAt t (ρ x) (ρ y)) (λρ=>by simp[execOp,ho]) λa w g BS=>by
  have H:=BS.heap;have hxo:=AX BS x;rw[hx]at hxo;obtain⟨hk,vV⟩:=FN hxo;obtain⟨hf,hlen,QT,BX,hr⟩:=H.MR k _ hb;have hyv:=AX BS y;rw[hy]at hyv;have hyv :=DF hyv;have Bp :=XY ⟨h0,h1⟩;have hu:=BD ht Jk;rcases hr with ⟨al,_⟩|⟨b,off,BA,ds,ha,Cv,⟨el',Ws,hh⟩,p1,p2,p3,p4,Ku⟩
  ·grind
  ·have vU:=IV (j:=0).2 ((D3.1 Ku).mono λi x c h=>(UW.BU hf).1 h);obtain⟨c0,c,d,e1,jk,gQ,_,_⟩:=CL.A2  (λx c h=>UW.len (w:=w) (own:=g.own) (k:=k) (m:=.Aw) (i:=0) ((UW.BU hf).2 h)) vU Bp;refine⟨.pointer (some ⟨b,off+i.toNat*te.ty.size,none⟩),?_,?_⟩
   ·rw[vV,hyv];simp[Instr.indexAt,asIntOf,underlying,hu,h0,h1,D4 Er,ha,hlen,aP]
   ·rw[AK _ _ _ Bp];refine fY  (by grind) (.inr ⟨k,by simp,[],Cv⟩) ((Ii.BU hf).2 gQ) λj q hq=>?_;have rR:ds[i.toNat*te.ty.size+j]?=some q:=by
     rw[e1,AQn,AQB (by omega),show i.toNat*te.ty.size+j-c0.length=j by omega,AQC (A4 hq)];exact hq
    rw[<-p4,ARg]at rR;split at rR
    ·rw[List.getElem?_drop]at rR;rw[ARk,QW hh,<-AQt];exact rR
    ·grind
theorem Ai0{c:Call}(ho:o.op=.call c)(hc:c.callee=.builtin .len){k:Nat}(hx:Qr σ c.args=[.AG k]){t:TypeId}(bl:c.argTypes.toList=[t]){ti:TI}(ht:Fy P t ti)(Jk:ti.EA=true)
    {el:Nat} {u:Ty} {xs:ATU u.V} (hb:σ.Aj[k]?=some (.tail el u xs)):OL P σ o ⟨.int .i64 (xs.length:Int),σ.Aj,[]⟩:=by
 obtain⟨a0,ha,hz⟩:=Afm hx;refine .Jm <| Ml (s:=λρ=>Builtin.len_ c.argTypes o.type #[ρ a0]) (λρ=>?_) λa w g hs=>?_
 ·rw[Ks ho hc,ha];simp[builtin]
 ·have hxo:=AX hs a0;rw[hz]at hxo;obtain⟨hk,he⟩:=FN hxo;have hl:=(hs.heap.MR k _ hb).2.1;have AKL:c.argTypes[0]?=some t:=by rw[<-AQt,bl];rfl
  rw[he];exact B7 (by simp[Builtin.len_,AKL,underlying,BD ht Jk,goInt,hl])
theorem AdC(w:World)(t tx ty e:TypeId)(i:TypeInfo)(ht:P.underlying t=some (.slice e))(hi:P.info? e=some i)
    (b off cz z6:Nat) (BA:Array Value) {e0:TypeId} (hg:w.heap[b]?=some (.cells BA e0 (0,0))) (x:Value) (n:Nat) (GU:ATU Value) (hs:Src P i.size tx x n GU w) (Zv:cz+n<=z6) (Sj:off+cz*i.size+GU.length<=BA.size) :
    (Builtin.append_ #[t,tx] ty #[.slice (some ⟨b,off,none⟩) cz z6,x]).run P w =
     .ok (.slice (some ⟨b,off,none⟩) (cz+n) z6) (w.setRow b (BA.toList.take (off+cz*i.size)++GU++BA.toList.drop (off+cz*i.size+GU.length)).toArray):=by
 have BS:=run_storeCells_at P b (off+cz*i.size) e0 GU 0 BA w hg (by simpa using Sj) hs.one;simp only[ASj]at BS;rcases hs.kind with ⟨e',hk⟩|hk<;>simp[Builtin.append_,run_underlying ht,run_underlying hk,sizeOf,typeInfo,hi,hs.len,Zv,hs.cells,aP,BS]
theorem uq(w:World)(t tx ty e:TypeId)(i:TypeInfo)(z:Value)(ht:P.underlying t=some (.slice e))(hi:P.info? e=some i)(hz:i.zero=some z)(hzs:z.cells.size=i.size)(BX:0<i.size)
    {Pw:Nat->Prop} {Ek:Prop} {ad:ATV Addr} {len cap:Nat} {ds:ATU Value} (Yf:(len=0/\cap=0/\ds=[])\/∃b off BA e0,ad=some ⟨b,off,none⟩/\Pw b/\(w.heap[b]?=some (.cells BA e0 (0,0))/\(Ek\/e0=e))/\len<=cap/\cap<=maxLen/\BA.size=off+cap*i.size/\(BA.toList.drop off).take (len*i.size)=ds)
    {x:Value} {n:Nat} {GU:ATU Value} (hs:Src P i.size tx x n GU w) (vC:i.bytes≠0) (Sj:(len+n)*i.bytes<=140737488355328) :
    ∃uk TJ w',(Builtin.append_ #[t,tx] ty #[.slice ad len cap,x]).run P w=.ok (.slice uk (len+n) TJ) w'/\w'.os=w.os/\w'.tape=w.tape/\w'.output=w.output/\w.heap.size<=w'.heap.size /\
     ((len+n=0/\TJ=0/\w'=w)\/∃b' off QO e1,uk=some ⟨b',off,none⟩/\(w'.heap[b']?=some (.cells QO e1 (0,0))/\(Ek\/e1=e))/\len+n<=TJ/\TJ<=maxLen/\QO.size=off+TJ*i.size/\(QO.toList.drop off).take ((len+n)*i.size)=ds++GU /\
      ((Pw b'/\w'=w.setRow b' QO)\/(b'=w.heap.size/\b'<w'.heap.size/\∀q,q<w.heap.size->w'.heap[q]?=w.heap[q]?))):=by
 have Av6:len+n<=140737488355328:=AQJ (ASe _ (ARQ vC)) Sj;have h63:((len+n:Nat):Int)<=9223372036854775807:=by omega
 have rO:len+n<=maxLen:=by simp only[maxLen];omega
 have Zs:ds.length=len*i.size:=by
  rcases Yf with ⟨h1,h2,h3⟩|⟨b,off,BA,e0,h1,_,h2,h3,h4,h5,h6⟩
  ·grind
  ·rw[<-h6,AQA,AQP,ARh,h5,Nat.add_sub_cancel_left];exact Nat.min_eq_left (AQ8 _ h3)
 by_cases Zv:len+n<=cap
 ·rcases Yf with ⟨rfl,rfl,rfl⟩|⟨b,off,BA,e0,rfl,hpw,⟨hb,hek⟩,h3,h4,h5,h6⟩
  ·obtain rfl:n=0:=by omega
   exact⟨ad,0,w,wG w t tx ty e i ht hi ad x GU hs,rfl,rfl,rfl,AQl _,.inl ⟨rfl,rfl,rfl⟩⟩
  ·have Tl:off+len*i.size+GU.length<=BA.size:=by
     rw[hs.newsLen,h5,ARk,<-ARO];exact Nat.add_le_add_left (AQ8 _ Zv) _
   refine⟨_,cap,_,AdC w t tx ty e i ht hi b off len cap BA hb x n GU hs Zv Tl,rfl,rfl,rfl,by simp,.inr ⟨b,off,_,e0,rfl,⟨setRow_heap w b BA _ e0 (0,0) hb,hek⟩,Zv,h4,?_,?_,.inl ⟨hpw,rfl⟩⟩⟩
   ·grind
   ·have e1:BA.toList.take (off+len*i.size)=BA.toList.take off++ds:=by grind
    have:(len+n)*i.size=(ds++GU).length:=by rw[AQj,Zs,hs.newsLen,ARO]
    grind
 ·have hgt:cap<len+n:=by omega
  have holds:(Builtin.firstCells i.size len (.slice ad len cap)).run P w.drew=.ok ds.toArray w.drew:=by
   rcases Yf with ⟨rfl,rfl,rfl⟩|⟨b,off,BA,e0,rfl,hpw,⟨hb,hek⟩,h3,h4,h5,h6⟩
   ·cases ad with
    |none=>exact run_firstCells_none w.drew i.size 0 0 0
    |some a=>exact run_firstCells_some w.drew i.size 0 a 0 0 [] (by simp) (by simp)
   ·refine run_firstCells_some w.drew i.size len _ len cap ds Zs λj u hu=>?_;rw[aP];show w.cell? ⟨b,off+j,none⟩=some u;rw[QW hb,<-AQt];rw[<-h6,ARg]at hu
    grind
  have hr:=run_append_grow_src (P:=P) w t tx ty e i z ht hi hz ad len cap ds holds x n GU hs hgt h63 (growslice_fits hgt Sj);refine⟨_,_,_,hr,rfl,rfl,rfl,by simp,.inr ⟨w.heap.size,0,_,e,rfl,⟨heap_alloc_new w.drew _,.inr rfl⟩,grownCap_ge w _ cap e,grownCap_le_maxLen w _ cap e rO,?_,?_,.inr ⟨rfl,by simp,λq hq=>heap_alloc_old w.drew _ q hq⟩⟩⟩
  ·have aS:=grownCap_ge w (len+n) cap e;simp only[Array.size_append,ARt,AQj,size_zeroCells,hzs,Zs,hs.newsLen,<-ARO,AQL];congr 1;omega
  ·have:(len+n)*i.size=(ds++GU).length:=by rw[AQj,Zs,hs.newsLen,ARO]
   rw[this,AR8,Array.toList_append,ARX]
theorem AiU{c:Call}(ho:o.op=.call c)(hc:c.callee=.builtin .append){k:Nat}{y:AV}(hx:Qr σ c.args=[.AG k,y]){t tx:TypeId}(bl:c.argTypes.toList=[t,tx]){ti te gv:TI}(ht:Fy P t ti)(Er:Fy P ti.elem te)(Jk:ti.EA=true)(yb:Fy P tx gv)(hkx:gv.EA=true)
    (vC:te.bytes≠0) {el:Nat} {xs ys:ATU te.ty.V} (hb:σ.Aj[k]?=some (.tail el te.ty xs)) (Ws:el=ti.elem\/el=0) {m2:RM} {rs:ATU Nat} (k8:s7 σ.Aj te.ty y=some (ys,m2,rs)) (Sj:(xs.length+ys.length)*te.bytes<=140737488355328) :
    OL P σ o ⟨.AG σ.Aj.length,Blk.Hd (Be (k::rs) σ.Aj) (k::rs)++[.tail el te.ty (xs++ys)],k::rs⟩:=by
 obtain⟨a0,a1,ha,hz0,rfl⟩:=AaL hx;refine⟨by simp[Bc,AJ],λh=>by grind,λa w g hs next Q hn=>?_⟩
 have H:=hs.heap;have hxo:=AX hs a0;rw[hz0]at hxo;obtain⟨hk,vV⟩:=FN hxo;obtain⟨hf,hlen,QT,BX,hr⟩:=H.MR k _ hb;obtain⟨i,z,hi,NC,hbi,hz,oZ,_⟩:=Er.info;obtain⟨GU,hS,hEl,_,AKB,_⟩:=Ajk H k8 (AX hs a1) yb (by grind);have hu:=BD ht Jk;have hzs:z.cells.size=i.size:=by rw[<-ARh,oZ,Ti,NC]
 have AJG:Bo (λ_ x c=>c=Lj te.ty x) 0 ys GU:=hEl.mono λi x c h=>by
  rcases h with ⟨_,h⟩|⟨ks,_,h⟩|⟨j,_,h⟩
  ·grind
  ·exact(Ii.BU hf).1 h
  ·exact(UW.BU hf).1 h
 obtain ⟨ds,AhF,AhG⟩:∃ds,((xs.length=0/\(g.A2 k).cap=0/\ds=[])\/∃b off BA e0,(g.A2 k).a=some ⟨b,off,none⟩/\g.own b=.BQ k []/\(w.heap[b]?=some (.cells BA e0 (0,0))/\(el=0\/e0=ti.elem))/\xs.length<=(g.A2 k).cap/\(g.A2 k).cap<=maxLen/\BA.size=off+(g.A2 k).cap*i.size/\(BA.toList.drop off).take (xs.length*i.size)=ds) /\
     Bo (λ_ x c=>c=Lj te.ty x) 0 xs ds:=by
  rcases hr with ⟨rfl,h2⟩|⟨b,off,BA,ds,h2,h3,⟨e0,he0,h4⟩,h5,h6,h7,h8,h9⟩
  ·exact⟨[],.inl ⟨rfl,h2,rfl⟩,rfl⟩
  ·exact⟨ds,.inr ⟨b,off,BA,e0,h2,h3,⟨h4,by grind⟩,h5,h6,by grind,by grind⟩,(D3.1 h9).mono λi x c h=>(UW.BU hf).1 h⟩
 obtain⟨uk,TJ,w',Ep,hos,hta,hou,QC,dQ⟩:=uq (P:=P) w t tx o.type ti.elem i z hu hi hz hzs (by grind) (Pw:=λb=>g.own b=.BQ k []) (Ek:=el=0) AhF (by rw[NC];exact hS) (by grind) (by grind);have bg:(execOp a.eval o).run P w=.ok (.value (.slice uk (xs.length+ys.length) TJ)) w':=by
  rw[Ks ho hc,ha,Aar bl];simp[builtin,vV,hlen,Ep]
 unfold Oper.wp;rw[bg]
 let n:=σ.Aj.length
 let i':BI:=⟨uk,xs.length+ys.length,TJ,te.ty.size⟩
 let f:Nat->ATU Nat->VC:=λj r=>if j=k then .BQ n r else .BQ j r
 obtain ⟨ob,zx,WE,Sw⟩:∃ob:ATV Nat,(∀q,ob=some q->w.heap.size<=q/\q<w'.heap.size) /\
     (∀q,q<w.heap.size->(∀k' p,g.own q=.BQ k' p->k'∉k::rs)->w'.heap[q]?=w.heap[q]?) /\
     ((xs++ys=[]/\TJ=0)\/∃b' off QO,uk=some ⟨b',off,none⟩/\Ww w' b' el QO/\xs.length+ys.length<=TJ/\TJ<=maxLen/\QO.size=off+TJ*te.ty.size/\(QO.toList.drop off).take ((xs.length+ys.length)*te.ty.size)=ds++GU/\(g.Wt f ob n i').own b'=.BQ n []):=by
  rcases dQ with ⟨h0,Hs,rfl⟩|⟨b',off,QO,e1,h1,⟨h2,he1⟩,h3,h4,h5,h6,h7⟩
  ·refine⟨none,λq h=>by grind,λq _ _=>rfl,.inl ⟨?_,Hs⟩⟩;apply AQ7;rw[AQj];omega
  ·rw[NC]at h5 h6;have h2:Ww w' b' el QO:=⟨e1,by grind,h2⟩;rcases h7 with ⟨Cv,rfl⟩|⟨rfl,Bp,hkp⟩
   ·refine⟨none,λq h=>by grind,lp Cv (by simp),.inr ⟨b',off,QO,h1,h2,h3,h4,h5,h6,?_⟩⟩;rw[I7 (by simp) Cv];simp[f]
   ·exact⟨some w.heap.size,λq h=>by injection h with h;subst h;exact⟨AQl _,Bp⟩,λq hq _=>hkp q hq,.inr ⟨_,off,QO,h1,h2,h3,h4,h5,h6,by simp[G.Wt]⟩⟩
 let g':=g.Wt f ob n i'
 have st:Step (k::rs) n w g w' g':=Step.Wt H.B3 hos hta hou QC WE (λq h=>(zx q h).1) (AQl _) λj r _ hm=>by
  have h1:j≠k:=λe=>hm (by simp[e]);simp[f,h1]
 have QP:g'.A2 n=i':=by simp[g',G.Wt]
 refine hn _ w' g' (H.cL st (NI H.B3 QC λq h=>(zx q h).2) (by simp[Bc,AJ]) λj x Sv=>?_) ?_ st
 ·rw[AQF]at Sv;split at Sv
  ·rcases Ln Sv with h |⟨rK,h⟩
   ·exact .inl h
   ·obtain⟨y',jo,rfl⟩:=Du h;exact .inr (.inl ⟨rK,y',jo,rfl⟩)
  ·rename_i Bp;rw[Bc,AJ]at Sv Bp;have oU:j-σ.Aj.length=0:=by
    rcases AQD (j-σ.Aj.length)with h |h
    ·exact h
    ·rw[AQT (by simp;omega)]at Sv;cases Sv
   rw[oU]at Sv;obtain rfl:j=n:=by omega
   simp only[List.getElem?_cons_zero,AQh]at Sv;subst Sv;refine .inr (.inr ⟨hf,by rw[QP,AQj],by rw[QP],BX,?_⟩);rw[QP,AQj];refine Sw.imp id λ⟨b',off,QO,h1,h2,h3,h4,h5,h6,h7⟩=>⟨b',off,QO,_,h1,h7,h2,h3,h4,h5,h6,?_⟩;rw[D3];exact(Bo.append AhG (IV.1 (IV (j:=0).2 AJG))).mono λi x c h=>(UW.BU hf).2 h
 ·refine Bv (cs:=[_]) rfl ⟨by simp[Bc,AJ],rfl⟩ ?_;have:g'.A2 σ.Aj.length=i':=QP;simp[Cm,AV.isAgg,this,i']
end
end Go.Va
