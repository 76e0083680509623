import GoSem.Step
import Derived.Calls
import Derived.Orders
import Derived.Below
import Derived.Laws.AppendOwn
import Derived.Laws.MakeOwn
import Derived.Laws.CopyRow
import Derived.Laws.Tables
import Derived.Deep.MidRow
import Derived.Laws.Small
import Derived.Laws.Cells
import Derived.Laws.BytesArg
import Derived.Great.FillDense
import Derived.Great.BuildSlice
import Derived.Deep.AppendSrc
set_option linter.unusedVariables false
set_option linter.unusedSimpArgs false
namespace Go.Va
abbrev AL7:=List
abbrev AL8:=Option
abbrev AIY:=@Option.bind_some
abbrev AIZ:=@Int.toNat_natCast
abbrev AI0:=@Option.some.injEq
abbrev AI1:=@decide_eq_false
abbrev AI2:=@List.length_append
abbrev AI3:=@decide_eq_true
abbrev AI4:=@Nat.le_refl
abbrev AI5:=@Bool.and_eq_true
abbrev AI6:=@List.append_assoc
abbrev AI7:=@List.length_set
abbrev AI8:=@List.take_of_length_le
abbrev AI9:=@Nat.lt_or_ge
abbrev AJa:=@List.length_map
abbrev AJb:=@Prod.mk.injEq
abbrev AJc:=@Array.getElem?_toList
abbrev AJd:=@cond_false
abbrev AJe:=@cond_true
abbrev AJf:=@Option.bind_assoc
abbrev AJg:=@if_pos
abbrev AJh:=@if_neg
abbrev AJi:=@List.length_singleton
abbrev AJj:=@List.length_take
abbrev AJk:=@List.getElem?_append_right
abbrev AJl:=@List.getElem?_append_left
abbrev AJm:=@Nat.eq_zero_or_pos
abbrev AJn:=@List.getElem?_set
abbrev AJo:=@List.getElem?_append
abbrev AJp:=@List.mem_singleton
abbrev AJq:=@List.mem_cons_of_mem
abbrev AJr:=@List.getElem?_map
abbrev AJs:=@Nat.le_trans
abbrev AJt:=@List.mem_cons_self
abbrev AJu:=@Nat.zero_add
abbrev AJv:=@List.length_replicate
abbrev AJw:=@List.mem_append_left
abbrev AJx:=@List.mem_append_right
abbrev AJy:=@List.length_drop
abbrev AJz:=@Nat.le_succ
abbrev AJA:=@Nat.lt_of_lt_of_le
abbrev AJB:=@Nat.add_sub_cancel
abbrev AJC:=@List.getElem?_eq_none
abbrev AJD:=@List.append_nil
abbrev AJE:=@Nat.lt_succ_self
abbrev AJF:=@List.length_range
abbrev AJG:=@List.getElem_mem
abbrev AJH:=@Bool.not_true
abbrev AJI:=@List.map_cons
abbrev AJJ:=@List.map_append
abbrev AJK:=@if_true
abbrev AJL:=@List.length_cons
abbrev AJM:=@List.getElem?_take
abbrev AJN:=@Bool.false_eq_true
abbrev AJO:=@Sum.elim_inr
abbrev AJP:=@decide_eq_false_iff_not
abbrev AJQ:=@List.map_congr_left
abbrev AJR:=@List.getD_cons_zero
abbrev AJS:=@Array.getElem?_eq_getElem
abbrev AJT:=@List.eq_nil_of_length_eq_zero
abbrev AJU:=@Nat.zero_le
abbrev AJV:=@Array.length_toList
abbrev AJW:=@Option.bind_eq_some_iff
abbrev AJX:=@Nat.mul_le_mul_right
abbrev AJY:=@Bool.or_eq_false_iff
abbrev AJZ:=@List.take_succ_eq_append_getElem
abbrev AJ0:=@Nat.add_assoc
abbrev AJ1:=@Array.getD_eq_getD_getElem?
abbrev AJ2:=@List.mem_append
abbrev AJ3:=@Bool.decide_and
abbrev AJ4:=@List.take_append_of_le_length
abbrev AJ5:=@beq_iff_eq
abbrev AJ6:=@List.getElem?_eq_getElem
abbrev AJ7:=@List.nil_append
abbrev AJ8:=@List.take_append_drop
abbrev AJ9:=@Nat.add_mul
abbrev AKa:=@beq_eq_false_iff_ne
abbrev AKb:=@List.flatMap_append
abbrev AKc:=@List.size_toArray
abbrev AKd:=@Sum.elim_inl
abbrev AKe:=@Bool.or_eq_true
abbrev AKf:=@List.range_succ
abbrev AKg:=@List.getElem_of_mem
abbrev AKh:=@List.eq_nil_or_concat
abbrev AKi:=@List.concat_eq_append
abbrev AKj:=@List.ext_getElem?
abbrev AKk:=@Bool.not_eq_true'
abbrev AKl:=@decide_eq_true_eq
abbrev AKm:=@Bool.false_or
abbrev AKn:=@List.mem_of_mem_take
abbrev AKo:=@List.mem_cons
abbrev AKp:=@List.sum_cons
abbrev AKq:=@decide_eq_true_iff
abbrev AKr:=@List.mem_of_getElem?
abbrev AKs:=@List.ext_getElem
abbrev AKt:=@List.map_nil
abbrev AKu:=@bne_self_eq_false
abbrev AKv:=@if_false
abbrev AKw:=@List.cons.injEq
abbrev AKx:=@List.sum_append
abbrev AKy:=@List.drop_eq_getElem_cons
abbrev AKz:=@List.set_append_right
abbrev AKA:=@Bool.and_eq_false_iff
abbrev AKB:=@beq_self_eq_true
abbrev AKC:=@bne_iff_ne
abbrev AKD:=@List.take_left
abbrev AKE:=@of_decide_eq_true
abbrev AKF:=@Nat.min_eq_left
abbrev AKG:=@bne_eq_false_iff_eq
abbrev AKH:=@List.length_flatten
abbrev AKI:=@Nat.sub_self
abbrev AKJ:=@List.set_set
abbrev AKK:=@decide_eq_decide
abbrev AKL:=@Nat.pos_of_ne_zero
abbrev AKM:=@Array.getElem?_modify
abbrev AKN:=@Array.getElem?_setIfInBounds_ne
abbrev AKO:=@List.nodup_append
abbrev AKP:=@List.foldl_append
abbrev AKQ:=@List.getElem?_range
abbrev AKR:=@List.toList_toArray
abbrev AKS:=@List.take_zero
abbrev AKT:=@Bool.not_false
abbrev AKU:=@List.sum_replicate_nat
abbrev AKV:=@Nat.add_zero
abbrev AKW:=@List.getElem?_drop
abbrev AKX:=@List.map_map
abbrev AKY:=@List.map_replicate
abbrev AKZ:=@List.length_filter_le
abbrev AK0:=@Bool.true_and
abbrev AK1:=@Nat.lt_trichotomy
abbrev AK2:=@List.getElem?_set_ne
abbrev AK3:=@Int.le_refl
abbrev AK4:=@List.cons_append
abbrev AK5:=@List.not_mem_nil
abbrev AK6:=@List.replicate_succ
abbrev AK7:=@List.getElem?_replicate
abbrev AK8:=@Nat.le_mul_of_pos_right
abbrev AK9:=@List.getElem?_cons_succ
abbrev ALa:=@List.filter_append
abbrev ALb:=@Nat.one_mul
abbrev ALc:=@List.getElem?_set_self
abbrev ALd:=@List.flatMap_cons
abbrev ALe:=@List.drop_zero
abbrev ALf:=@List.contains_eq_mem
abbrev ALg:=@List.mem_of_mem_drop
inductive Ty where
 |int (k:IntKind)|bool |str |unit |Au (a b:Ty)|sl (t:Ty)|QG (z:Nat)
 deriving DecidableEq
@[reducible] def Ty.V:Ty->Type
 |.int _=>Int
 |.bool=>Bool
 |.str=>ByteArray
 |.unit=>Unit
 |.Au a b=>a.V×b.V
 |.sl t=>List t.V
 |.QG _=>Unit
def Ty.zero:(t:Ty)->t.V
 |.int _=>0
 |.bool=>false
 |.str=>⟨#[]⟩
 |.unit=>()
 |.Au a b=>(a.zero,b.zero)
 |.sl _=>[]
 |.QG _=>()
def Ty.size:Ty->Nat
 |.unit=>0
 |.Au a b=>a.size+b.size
 |_=>1
def Ty.BA:Ty->Bool
 |.sl _=>false
 |.QG _=>false
 |.Au a b=>a.BA&&b.BA
 |_=>true
def Ty.data:Ty->Bool
 |.QG _=>false
 |.Au a b=>a.data&&b.data
 |.sl t=>t.data
 |_=>true
def Ty.isAgg:Ty->Bool
 |.unit=>true
 |.Au _ _=>true
 |_=>false
def IP(t u:Ty)(x:t.V):AL8 u.V:=if h:t=u then some (h▸x)else none
inductive AV where
 |Ax (ks:List Nat) (t:Ty) (x:t.V)
 |zs
 |Am (k:Nat)
 |ptr (k:Nat) (i:Int) (p:List Nat) (o:Nat)
 |EJ (ks:List Nat) (t:Ty) (x:t.V)
 |LO
 |pr (a b:AV)
 |fn (f:Nat) (X4:AV)
 |cons (a b:AV)
 |nil
 |Tf (k:Nat) (i:Int) (p:List Nat) (o e:Nat)
 |U6 (k:Nat) (i:Int) (p:List Nat) (o:Nat) (j:Int) (u:Ty)
 |mp (k:Nat)
 |un (n:Nat)
inductive RM where
 |Ai |sh (ks:List Nat)
inductive Blk where
 |box (a:AV)
 |row (e:Nat) (m:RM) (t:Ty) (xs:List t.V)
 |map (m:RM) (kt vt:Ty) (es:List (kt.V×vt.V)) (st:Option kt.V)
 |QE (e:Nat) (t:Ty) (xs:List t.V) (i:Int) (p:List Nat)
 |tail (e:Nat) (t:Ty) (xs:List t.V)
 |AK
def AV.size:AV->Nat
 |.Ax _ t _=>t.size
 |.pr a b=>a.size+b.size
 |.un n=>n
 |_=>1
def AV.isAgg:AV->Bool
 |.Ax _ t _=>t.isAgg
 |.pr _ _=>true
 |_=>false
@[reducible] def AV.int (k:IntKind) (n:Int):AV:=.Ax [] (.int k) n
@[reducible] def AV.bool (b:Bool):AV:=.Ax [] .bool b
@[reducible] def AV.str (s:ByteArray):AV:=.Ax [] .str s
@[reducible] def AV.u:AV:=.Ax [] .unit ()
def Ty.Ys:Ty->AV
 |.Au a b=>.pr a.Ys b.Ys
 |.sl _=>.zs
 |.QG 0=>.LO
 |.QG _=>.un 1
 |.int k=>.Ax [] (.int k) (0:Int)
 |.bool=>.Ax [] .bool false
 |.str=>.Ax [] .str ⟨#[]⟩
 |.unit=>.Ax [] .unit ()
def YT(ks:AL7 Nat)(t:Ty):AL7 Nat:=if t.BA then[]else ks
def VZ(ks:AL7 Nat):(t:Ty)->t.V->Nat->AL8 AV
 |.Au a _,x,0=>some (.Ax (YT ks a) a x.1)
 |.Au _ b,x,n+1=>VZ ks b x.2 n
 |_,_,_=>none
def AV.YG:AV->Nat->AL8 AV
 |.Ax ks t x,n=>VZ ks t x n
 |.pr a _,0=>some a
 |.pr _ b,n+1=>b.YG n
 |_,_=>none
def TX:Ty->Nat->AL8 Nat
 |.Au _ _,0=>some 0
 |.Au a b,n+1=>match TX b n with |some o=>some (a.size+o)|none=>none
 |_,_=>none
def AV.off:AV->Nat->AL8 Nat
 |.Ax _ t _,n=>TX t n
 |.pr _ _,0=>some 0
 |.pr a b,n+1=>match b.off n with |some o=>some (a.size+o)|none=>none
 |_,_=>none
def ic:Ty->Nat->AL8 Ty
 |.Au a _,0=>some a
 |.Au _ b,n+1=>ic b n
 |_,_=>none
def tyP:Ty->AL7 Nat->AL8 Ty
 |t,[]=>some t
 |t,f::p=>match ic t f with |some u=>tyP u p |none=>none
def K0:Ty->AL7 Nat->AL8 Nat
 |_,[]=>some 0
 |t,f::p=>match ic t f,TX t f with
  |some u,some o=>match K0 u p with |some o'=>some (o+o')|none=>none
  |_,_=>none
def rK(ks:AL7 Nat):(t:Ty)->t.V->Nat->AV->AL8 AV
 |.Au _ b,x,0,v=>some (.pr v (.Ax (YT ks b) b x.2))
 |.Au a b,x,n+1,v=>match rK ks b x.2 n v with |some r=>some (.pr (.Ax (YT ks a) a x.1) r)|none=>none
 |_,_,_,_=>none
def AV.SB:AV->Nat->AV->AL8 AV
 |.Ax ks t x,n,v=>rK ks t x n v
 |.pr _ b,0,v=>some (.pr v b)
 |.pr a b,n+1,v=>match b.SB n v with |some r=>some (.pr a r)|none=>none
 |_,_,_=>none
def AV.UU:AV->AL7 Nat->AL8 AV
 |a,[]=>some a
 |a,f::p=>match a.YG f with |some b=>b.UU p |none=>none
def AV.yS:AV->AL7 Nat->AL8 Nat
 |_,[]=>some 0
 |a,f::p=>match a.YG f,a.off f with
  |some b,some o=>match b.yS p with |some o'=>some (o+o')|none=>none
  |_,_=>none
def AV.Y2:AV->AL7 Nat->AV->AL8 AV
 |_,[],v=>some v
 |a,f::p,v=>match a.YG f with
  |some b=>match b.Y2 p v with |some r=>a.SB f r |none=>none
  |none=>none
def Ra:(t:Ty)->t.V->Nat->(∀u:Ty,u.V->AL8 u.V)->AL8 t.V
 |.Au a _,x,0,f=>match f a x.1 with |some y=>some (y,x.2)|none=>none
 |.Au _ b,x,n+1,f=>match Ra b x.2 n f with |some y=>some (x.1,y)|none=>none
 |_,_,_,_=>none
def R5(u:Ty)(y:u.V):(p:AL7 Nat)->(t:Ty)->t.V->AL8 t.V
 |[],t,_=>IP u t y
 |f::p,t,x=>Ra t x f (λt' x'=>R5 u y p t' x')
def AV.Cf:AV->AL7 Nat
 |.Ax ks _ _=>ks
 |.EJ ks _ _=>ks
 |.Am k=>[k]
 |.ptr k _ _ _=>[k]
 |.Tf k _ _ _ _=>[k]
 |.U6 k _ _ _ _ _=>[k]
 |.mp k=>[k]
 |.pr a b=>a.Cf++b.Cf
 |.fn _ c=>c.Cf
 |.cons a b=>a.Cf++b.Cf
 |_=>[]
def AV.RL:AV->AL7 Nat
 |.Ax ks _ _=>ks
 |.EJ ks _ _=>ks
 |.Tf k _ _ _ _=>[k]
 |.U6 k _ _ _ _ _=>[k]
 |.pr a b=>a.RL++b.RL
 |.fn _ c=>c.RL
 |.cons a b=>a.RL++b.RL
 |_=>[]
def RM.Cf:RM->AL7 Nat
 |.Ai=>[]
 |.sh ks=>ks
def Blk.Cf:Blk->AL7 Nat
 |.box a=>a.Cf
 |.row _ m _ _=>m.Cf
 |.map m _ _ _ _=>m.Cf
 |.QE _ _ _ _ _=>[]
 |.tail _ _ _=>[]
 |.AK=>[]
def Blk.RL:Blk->AL7 Nat
 |.box a=>a.RL
 |.row _ m _ _=>m.Cf
 |.map m _ _ _ _=>m.Cf
 |.QE _ _ _ _ _=>[]
 |.tail _ _ _=>[]
 |.AK=>[]
def AV.Nm(f:Nat->Nat):AV->AV
 |.Ax ks t x=>.Ax (ks.map f) t x
 |.EJ ks t x=>.EJ (ks.map f) t x
 |.Am k=>.Am (f k)
 |.ptr k i p o=>.ptr (f k) i p o
 |.Tf k i p o e=>.Tf (f k) i p o e
 |.U6 k i p o j u=>.U6 (f k) i p o j u
 |.mp k=>.mp (f k)
 |.pr a b=>.pr (a.Nm f) (b.Nm f)
 |.fn g c=>.fn g (c.Nm f)
 |.cons a b=>.cons (a.Nm f) (b.Nm f)
 |.zs=>.zs
 |.LO=>.LO
 |.nil=>.nil
 |.un n=>.un n
def RM.Nm(f:Nat->Nat):RM->RM
 |.Ai=>.Ai
 |.sh ks=>.sh (ks.map f)
def Blk.Nm(f:Nat->Nat):Blk->Blk
 |.box a=>.box (a.Nm f)
 |.row e m t xs=>.row e (m.Nm f) t xs
 |.map m kt vt es st=>.map (m.Nm f) kt vt es st
 |.QE e t xs i p=>.QE e t xs i p
 |.tail e t xs=>.tail e t xs
 |.AK=>.AK
def Yx(n:Nat)(ks:AL7 Nat):AL7 Nat:=(List.range n).filter λk=>ks.contains k
def AV.DV(n:Nat):AV->AV
 |.Ax ks t x=>.Ax (Yx n ks) t x
 |.EJ ks t x=>.EJ (Yx n ks) t x
 |.pr a b=>.pr (a.DV n) (b.DV n)
 |.fn f c=>.fn f (c.DV n)
 |.cons a b=>.cons (a.DV n) (b.DV n)
 |a=>a
def Blk.DV(n:Nat):Blk->Blk
 |.box a=>.box (a.DV n)
 |.row e (.sh ks) t xs=>.row e (.sh (Yx n ks)) t xs
 |.map (.sh ks) kt vt es st=>.map (.sh (Yx n ks)) kt vt es st
 |b=>b
def AV.drop(Wp:Nat->Bool):AV->AV
 |.Ax ks t x=>if ks.any Wp then .un t.size else .Ax ks t x
 |.EJ ks t x=>if ks.any Wp then .un 1 else .EJ ks t x
 |.Tf k i p o e=>if Wp k then .un 1 else .Tf k i p o e
 |.U6 k i p o j u=>if Wp k then .un 1 else .U6 k i p o j u
 |.pr a b=>.pr (a.drop Wp) (b.drop Wp)
 |.fn g c=>.fn g (c.drop Wp)
 |.cons a b=>.cons (a.drop Wp) (b.drop Wp)
 |a=>a
def Blk.drop(Wp:Nat->Bool):Blk->Blk
 |.box a=>.box (a.drop Wp)
 |.row e m t xs=>if m.Cf.any Wp then .AK else .row e m t xs
 |.map m kt vt es st=>if m.Cf.any Wp then .AK else .map m kt vt es st
 |.QE e t xs i p=>.QE e t xs i p
 |.tail e t xs=>.tail e t xs
 |.AK=>.AK
structure St where
 AF:List AV
 An:List Blk
structure G9 where
 val:AV
 An:List Blk
 Bu:List Nat
structure TI where
 ty:Ty
 VG:List Nat
 elem:Nat
 bytes:Nat
 Gw:Nat:=0
 NK:Nat:=0
 eqs:Bool:=false
def TI.DZ(ti:TI):Bool:=match ti.ty with |.sl _=>true |_=>false
abbrev vA:=List (Nat×TI)
def vA.get:vA->Nat->AL8 TI
 |[],_=>none
 |(k,i)::r,t=>if k==t then some i else vA.get r t
inductive PM where
 |d (t:Ty)|p (t:Ty)|UJ
structure Callee where
 kK:List PM
 run:(R:Type)->List AV->List Blk->(AV->List Blk->Option R)->Option R
 yB:List Nat:=[]
inductive Co where
 |row (p:List Nat) (e:Nat) (t:Ty) (Ai:Bool)
 |Ax (t:Ty)
 |cN (ks:List Nat)
structure SH where
 Bb:List Nat
 mv:List Nat:=[]
 Sj:List (Nat×Bool×Ty):=[]
 Ck:List (Nat×Bool×Co):=[]
 wid:List (Nat×List Nat):=[]
 post:List (Nat×Bool×Co):=[]
 mvp:List (Nat×List Nat):=[]
 VI:Bool:=false
inductive Fi where
 |co (k:Nat) (c:Co)|mv (k:Nat) (p:List Nat)|AK (j:Nat)|mvs (s:Nat) (p:List Nat)
structure FI where
 Ai:Bool:=true
 take:List Nat:=[]
 rl:List (Nat×Nat):=[]
 A1:List (Nat×SH):=[]
 Bv:List (Nat×SH):=[]
 BR:List (Nat×SH):=[]
 X9:List (Nat×SH):=[]
 D2:List (Nat×List Nat):=[]
 ACc:List (Nat×List (Nat×List (List Nat)×Co)):=[]
 UT:List Fi:=[]
 ZA:List (Nat×List Nat):=[]
 tX:List (Nat×Ty):=[]
 AAk:List Nat:=[]
 Sj:List (Nat×Ty):=[]
 dM:List (Nat×Co):=[]
 stl:List Nat:=[]
structure Gd where
 Dm:vA
 fns:Nat->Option Callee
 fi:FI
def mn:Value->AV
 |.int k n=>.int k n
 |.bool b=>.bool b
 |.string s=>.str s
 |.slice none 0 0=>.zs
 |.pointer none=>.LO
 |_=>.un 0
def St.B7(σ:St):Operand->AV
 |.tmp t=>(σ.AF[t]?).getD (.un 0)
 |.const v=>mn v
 |.func f=>.fn f .nil
 |_=>.un 0
def AV.Za:AV->AV
 |.Tf _ _ _ _ _=>.un 1
 |.U6 _ _ _ _ _ _=>.un 1
 |.pr a b=>.pr a.Za b.Za
 |.fn f c=>.fn f c.Za
 |.cons a b=>.cons a.Za b.Za
 |a=>a
def Blk.Za:Blk->Blk
 |.box a=>.box a.Za
 |b=>b
def AV.aO:AV->Bool
 |.Tf _ _ _ _ _=>true
 |.U6 _ _ _ _ _ _=>true
 |.pr a b=>a.aO||b.aO
 |.fn _ c=>c.aO
 |.cons a b=>a.aO||b.aO
 |_=>false
def Blk.aO:Blk->Bool
 |.box a=>a.aO
 |_=>false
def Blk.Gl(bs:AL7 Blk):AL7 Nat->AL7 Blk
 |[]=>bs
 |k::r=>Blk.Gl (bs.set k .AK) r
def Tt(Bu:AL7 Nat)(sl:AL7 AV):AL7 AV:=match Bu with |[]=>sl |m::ms=>sl.map (·.drop λk=>(m::ms).contains k)
def A6(Bu:AL7 Nat)(bs:AL7 Blk):AL7 Blk:=match Bu with |[]=>bs |m::ms=>bs.map (·.drop λk=>(m::ms).contains k)
def ji(Bu:AL7 Nat)(m:RM):Bool:=m.Cf.all λk=>!Bu.contains k
def X7(d:AL8 Nat)(v:AV)(sl:AL7 AV):AL7 AV:=match d with |some d=>sl.set d v |none=>sl
def St.after(σ:St)(d:AL8 Nat)(e:G9):St:={AF:=X7 d e.val (Tt e.Bu σ.AF),An:=e.An}
def AV.C5:AV->Bool
 |.cons _ _=>true
 |.nil=>true
 |_=>false
def AV.ai:AV->Bool
 |.un _=>false
 |.cons _ _=>false
 |.nil=>false
 |_=>true
def rd(bs:AL7 Blk):(t:Ty)->AV->AL8 t.V
 |.Au a b,av=>match av with
  |.Ax _ t x=>IP t (.Au a b) x
  |.pr u v=>match rd bs a u,rd bs b v with |some x,some y=>some (x,y)|_,_=>none
  |_=>none
 |.sl t,av=>match av with
  |.Ax _ u x=>IP u (.sl t) x
  |.zs=>some []
  |.Am k=>match bs[k]? with |some (.row _ _ u xs)=>IP (.sl u) (.sl t) xs |_=>none
  |_=>none
 |t,av=>match av with |.Ax _ u x=>IP u t x |_=>none
def atB(bs:AL7 Blk)(k:Nat)(i:Int):AL8 AV:=match bs[k]? with
 |some (.box a)=>some a
 |some (.row _ m t xs)=>some (.Ax (YT (match m with |.Ai=>[k]|.sh ks=>ks) t) t (xs.getD i.toNat t.zero))
 |_=>none
def atP(bs:AL7 Blk)(k:Nat)(i:Int)(p:AL7 Nat)(o:Nat):AL8 AV:=match atB bs k i with
 |some a=>if a.yS p=some o then a.UU p else none
 |none=>none
def AV.QH:AV->AL7 Nat
 |.Am k=>[k]
 |.pr a b=>a.QH++b.QH
 |_=>[]
def AV.cN:AV->AL7 Nat
 |.Ax ks _ _=>ks
 |.pr a b=>a.cN++b.cN
 |_=>[]
def AV.W3:AV->Bool
 |.Ax _ t _=>t.BA
 |.zs=>true
 |.Am _=>true
 |.pr a b=>a.W3&&b.W3
 |_=>false
def Ty.row(t:Ty):Bool:=t.data&&t.size !=0
def Z0(bs:AL7 Blk)(k:Nat):AL8 RM:=match bs[k]? with |some (.row _ m _ _)=>some m |_=>none
def AV.TS(bs:AL7 Blk):AV->AL7 Nat
 |.Ax ks _ _=>ks
 |.Am k=>k::(match Z0 bs k with |some m=>m.Cf |none=>[])
 |.pr a b=>a.TS bs++b.TS bs
 |_=>[]
def nodup:AL7 Nat->Bool
 |[]=>true
 |k::r=>!r.contains k&&nodup r
def take(bs:AL7 Blk)(m:RM)(t:Ty)(v:AV):AL8 (t.V×RM×AL7 Nat) :=
 match rd bs t v with
 |none=>none
 |some y =>
  let rs:=v.QH
  match m with
  |.Ai=>if v.W3&&nodup rs&&rs.all (λk=>match Z0 bs k with |some .Ai=>true |_=>false)then some (y,.Ai,rs)else none
  |.sh ks=>if nodup rs&&rs.all (λk=>(Z0 bs k).isSome)then
      some (y,.sh (ks++v.cN++rs.flatMap (λk=>match Z0 bs k with |some (.sh l)=>l |_=>[])),rs)else none
def Ao3{A:Type}:(t:Ty)->t.V->Nat->(∀u:Ty,u.V->AL8 A)->AL8 A
 |.Au a _,x,0,f=>f a x.1
 |.Au _ b,x,n+1,f=>Ao3 b x.2 n f
 |_,_,_,_=>none
def fH(u:Ty):(p:AL7 Nat)->(t:Ty)->t.V->AL8 u.V
 |[],t,x=>IP t u x
 |f::p,t,x=>Ao3 t x f (λt' x'=>fH u p t' x')
def Ty.D4:Ty->Bool
 |.int _=>true
 |.str=>true
 |.Au (.int _) (.Au (.int _) .unit)=>true
 |_=>false
def Jj(s t:ByteArray):Bool:=s.toList==t.toList
def A7:(t:Ty)->t.V->t.V->Bool
 |.int _,x,y=>x==y
 |.str,x,y=>Jj x y
 |.Au a b,x,y=>A7 a x.1 y.1&&A7 b x.2 y.2
 |.unit,_,_=>true
 |_,_,_=>false
def PH:(t:Ty)->t.V->t.V->Bool
 |.int _,x,y=>x==y
 |.bool,x,y=>x==y
 |.str,x,y=>Jj x y
 |.Au a b,x,y=>PH a x.1 y.1&&PH b x.2 y.2
 |.unit,_,_=>true
 |_,_,_=>false
def NI(kt vt:Ty):AL7 (kt.V×vt.V)->kt.V->AL8 vt.V
 |[],_=>none
 |x::r,k=>bif A7 kt k x.1 then some x.2 else NI kt vt r k
def Bg(kt vt:Ty)(es:AL7 (kt.V×vt.V))(k:kt.V):vt.V:=(NI kt vt es k).getD vt.zero
def SA(kt vt:Ty)(es:AL7 (kt.V×vt.V))(k:kt.V):Bool:=(NI kt vt es k).isSome
def UZ(kt vt:Ty):AL7 (kt.V×vt.V)->kt.V->Nat
 |[],_=>0
 |x::r,k=>bif A7 kt k x.1 then 0 else UZ kt vt r k+1
def Wz(kt vt:Ty)(es:AL7 (kt.V×vt.V))(k:kt.V):Int:=Int.ofNat (UZ kt vt es k)
def Vq(kt vt:Ty)(es:AL7 (kt.V×vt.V))(k:kt.V)(n:Int):Bool:=n==Wz kt vt es k&&SA kt vt es k
def BV(kt vt:Ty):AL7 (kt.V×vt.V)->kt.V->vt.V->AL7 (kt.V×vt.V)
 |[],k,v=>[(k,v)]
 |x::r,k,v=>bif A7 kt k x.1 then(k,v)::r else x::BV kt vt r k v
def FI.mode(fi:FI)(t:Ty):RM:=if t.BA||fi.Ai then .Ai else .sh []
def SD(k:IntKind)(x y:Int):Int:=x.fdiv (2^(min y.toNat k.bits))
def NL(k:IntKind)(x y:Int):Int:=k.wrap (x*2^(min y.toNat k.bits))
def iF(k:IntKind)(x y:Int):Int:=k.wrap (BitVec.ofInt k.bits x &&& BitVec.ofInt k.bits y).toNat
def de(k:IntKind)(x y:Int):Int:=k.wrap (BitVec.ofInt k.bits x ||| BitVec.ofInt k.bits y).toNat
def Aqc(k:IntKind)(x y:Int):Int:=k.wrap (BitVec.ofInt k.bits x ^^^ BitVec.ofInt k.bits y).toNat
def vD(k:IntKind)(x y:Int):Int:=k.wrap (BitVec.ofInt k.bits x &&& ~~~ BitVec.ofInt k.bits y).toNat
def strLt(s t:ByteArray):Bool:=Op.bytesLess s.toList t.toList
def Cz(s:ByteArray)(i:Int):Int:=((s[i.toNat]?).getD 0).toNat
section
variable {R:Type}
def l5(op:BinOp)(tb:Bool):AV->AV->(AV->AL8 R)->AL8 R
 |.Ax _ (.int k) x,.Ax _ (.int k') y,K =>
  match op with
  |.shl=>if y<0 then none else K (.int k (NL k x y))
  |.shr=>if y<0 then none else K (.int k (SD k x y))
  |op=>if k=k' then match op with
   |.add=>K (.int k (k.wrap (x+y)))
   |.sub=>K (.int k (k.wrap (x-y)))
   |.mul=>K (.int k (k.wrap (x*y)))
   |.quo=>if y=0 then none else K (.int k (k.wrap (x.tdiv y)))
   |.rem=>if y=0 then none else K (.int k (x.tmod y))
   |.and=>K (.int k (iF k x y))
   |.or=>K (.int k (de k x y))
   |.xor=>K (.int k (Aqc k x y))
   |.andNot=>K (.int k (vD k x y))
   |.eql=>K (.bool (x==y))
   |.neq=>K (.bool (x !=y))
   |.lss=>K (.bool (decide (x<y)))
   |.leq=>K (.bool (decide (x<=y)))
   |.gtr=>K (.bool (decide (x>y)))
   |.geq=>K (.bool (decide (x>=y)))
   |_=>none
   else none
 |.Ax _ .str x,.Ax _ .str y,K =>
  match op with
  |.add=>if x.size+y.size<=9223372036854775807 then K (.str (x++y))else none
  |.eql=>K (.bool (Jj x y))
  |.neq=>K (.bool (!Jj x y))
  |.lss=>K (.bool (strLt x y))
  |.leq=>K (.bool (strLt x y||Jj x y))
  |.gtr=>K (.bool (!(strLt x y||Jj x y)))
  |.geq=>K (.bool (!strLt x y))
  |_=>none
 |.Ax _ .bool x,.Ax _ .bool y,K=>if tb then
  match op with
  |.eql=>K (.bool (x==y))
  |.neq=>K (.bool (!(x==y)))
  |_=>none
  else none
 |_,_,_=>none
def unA(op:UnOp):AV->(AV->AL8 R)->AL8 R
 |.Ax _ .bool b,K=>match op with |.not=>K (.bool (!b))|_=>none
 |.Ax _ (.int k) n,K=>match op with
  |.neg=>K (.int k (k.wrap (0-n)))
  |.xor=>K (.int k (Aqc k (if k.signed then -1 else k.max) n))
  |_=>none
 |_,_=>none
def nK(bs:AL7 Blk)(ti:TI):AV->(AV->AL8 R)->AL8 R
 |.Ax _ (.sl _) xs,K=>if ti.DZ then K (.int .i64 (xs.length:Int))else none
 |.Ax _ .str s,K=>if ti.ty=.str then K (.int .i64 (s.size:Int))else none
 |.zs,K=>if ti.DZ then K (.int .i64 0)else none
 |.Am k,K=>match bs[k]? with
  |some (.row _ _ _ xs)=>if ti.DZ then K (.int .i64 (xs.length:Int))else none
  |some (.QE _ _ xs _ _)=>if ti.DZ then K (.int .i64 (xs.length:Int))else none
  |_=>none
 |_,_=>none
def zS(mx:Bool):AV->AV->(AV->AL8 R)->AL8 R
 |.Ax _ (.int k) x,.Ax _ (.int k') y,K=>if k=k' then K (.int k (if mx then(if y>x then y else x)else(if y<x then y else x)))else none
 |_,_,_=>none
def uk(bs:AL7 Blk)(te:Ty):AV->AV->(AV->AL8 R)->AL8 R
 |.Ax ks (.sl t) xs,.Ax _ (.int _) i,K=>if t=te then if 0<=i/\i<(xs.length:Int)then K (.EJ ks t (xs.getD i.toNat t.zero))else none else none
 |.Am k,.Ax _ (.int _) i,K=>match bs[k]? with
  |some (.row _ _ t xs)=>if t=te then if 0<=i/\i<(xs.length:Int)then K (.ptr k i [] 0)else none else none
  |some (.QE _ t xs _ _)=>if t=te then if 0<=i/\i<(xs.length:Int)then K (.ptr k i [] 0)else none else none
  |_=>none
 |_,_,_=>none
def qU(bs:AL7 Blk)(te:Ty):AV->AV->(AV->AL8 R)->AL8 R
 |.Tf k i0 p f _,.Ax _ (.int _) j,K=>match bs[k]? with
  |some (.row _ .Ai tr xs)=>match fH (.sl te) p tr (xs.getD i0.toNat tr.zero),R5 (.sl te) [] p tr (xs.getD i0.toNat tr.zero)with
   |some ys,some _=>if te.size≠0/\K0 tr p=some f then if 0<=j/\j<(ys.length:Int)then K (.U6 k i0 p f j te)else none else none
   |_,_=>none
  |_=>none
 |x,y,K=>uk bs te x y K
def mb:AV->AV->(AV->AL8 R)->AL8 R
 |.Ax _ .str s,.Ax _ (.int _) i,K=>if 0<=i/\i<(s.size:Int)then K (.int .u8 (Cz s i))else none
 |_,_,_=>none
def iM(ti:TI)(f:Nat):AV->(AV->AL8 R)->AL8 R
 |.ptr k i p o,K=>match ti.VG[f]? with |some fo=>K (.ptr k i (p++[f]) (o+fo))|none=>none
 |.EJ ks t x,K=>if t=ti.ty/\TX t f=ti.VG[f]? then match VZ ks t x f with |some (.Ax _ u y)=>K (.EJ ks u y)|_=>none else none
 |_,_=>none
def Yi(bs:AL7 Blk)(ti:TI):AV->(AV->AL8 R)->AL8 R
 |.EJ ks t x,K=>if t=ti.ty then K (.Ax (YT ks t) t x)else none
 |.ptr k i p o,K=>match atP bs k i p o with
  |some v=>if v.size=ti.ty.size/\v.isAgg=ti.ty.isAgg then K v else none
  |none=>none
 |_,_=>none
def bH(bs:AL7 Blk)(ti:TI):AV->AV->(G9->AL8 R)->AL8 R
 |.ptr k i p o,v,K=>match bs[k]? with
  |some (.box a)=>match a.UU p,a.Y2 p v with
   |some jj,some a'=>if v.ai/\a.yS p=some o/\jj.size=v.size/\v.size=ti.ty.size/\v.isAgg=ti.ty.isAgg/\a'.Cf.contains k=false then K ⟨.un 0,(A6 [k] bs).set k (.box a'),[k]⟩else none
   |_,_=>none
  |some (.row e m t xs)=>match take bs m ti.ty v with
   |some (y,m',rs) =>
    if K0 t p=some o/\tyP t p=some ti.ty/\ji (k::rs) m'/\rs.contains k=false then match R5 ti.ty y p t (xs.getD i.toNat t.zero)with
     |some x'=>K ⟨.un 0,(Blk.Gl (A6 (k::rs) bs) rs).set k (.row e m' t (xs.set i.toNat x')),k::rs⟩
     |none=>none
    else none
   |none=>none
  |some (.QE e t xs i' p')=>match v with
   |.Am j=>match bs[j]? with
    |some (.row _ .Ai u ys)=>match R5 (.sl u) [] p t (xs.getD i.toNat t.zero),R5 (.sl u) ys p t (xs.getD i.toNat t.zero)with
     |some x0,some x'=>if ti.ty=.sl u/\K0 t p=some o/\tyP t p=some (.sl u)/\p'=p/\j≠k then
         if i'=i then K ⟨.un 0,(Blk.Gl (A6 [k,j] ((A6 [k] bs).set k (.row e .Ai t (xs.set i.toNat x0)))) [j]).set k (.row e .Ai t (xs.set i.toNat x')),[k,j]⟩else none
      else none
     |_,_=>none
    |_=>none
   |_=>none
  |_=>none
 |_,_,_=>none
def Y5(bs:AL7 Blk)(ti:TI):AV->(G9->AL8 R)->AL8 R
 |.ptr k i p o,K=>match bs[k]? with
  |some (.row e .Ai t xs)=>match tyP t p with
   |some (.sl u)=>match fH (.sl u) p t (xs.getD i.toNat t.zero),R5 (.sl u) [] p t (xs.getD i.toNat t.zero)with
    |some ys,some _=>if ti.ty=.sl u/\K0 t p=some o/\u.size≠0 then
        K ⟨.Am bs.length,(A6 [k] bs).set k (.QE e t xs i p)++[.row 0 .Ai u ys],[k]⟩else none
    |_,_=>none
   |_=>none
  |_=>none
 |_,_=>none
def WU(ti:TI):AV->AL7 (Nat×AV)->AL8 AV
 |a,[]=>some a
 |a,(f,v)::r=>match a.YG f with
  |some jj=>if jj.size=v.size/\v.ai=true/\a.off f=ti.VG[f]?/\(ic ti.ty f).map Ty.size=some v.size then match a.SB f v with |some a'=>WU ti a' r |none=>none else none
  |none=>none
def Q7(bs:AL7 Blk)(t:Ty):RM->AL7 t.V->AL7 Nat->AL7 (Nat×AV)->AL8 (RM×AL7 t.V×AL7 Nat)
 |m,xs,rs,[]=>some (m,xs,rs)
 |m,xs,rs,(i,v)::r=>match take bs m t v with
  |some (y,m',l)=>if i<xs.length then Q7 bs t m' (xs.set i y) (rs++l) r else none
  |none=>none
def oB(bs:AL7 Blk)(t:Ty):AV->AL8 (AL7 t.V×RM×AL7 Nat)
 |.zs=>some ([],.Ai,[])
 |.Ax ks (.sl u) ys=>match IP (.sl u) (.sl t) ys with |some l=>some (l,if t.BA then .Ai else .sh ks,[])|none=>none
 |.Ax _ .str s=>match IP (.sl (.int .u8)) (.sl t) (s.data.toList.map λb=>(b.toNat:Int))with |some l=>some (l,.Ai,[])|none=>none
 |.Am j=>match bs[j]? with
  |some (.row _ m u ys)=>match IP (.sl u) (.sl t) ys with |some l=>some (l,if t.BA then .Ai else m,if t.BA then[]else[j])|none=>none
  |_=>none
 |_=>none
def wW:RM->RM->AL8 RM
 |.Ai,.Ai=>some .Ai
 |.sh a,.sh b=>some (.sh (a++b))
 |.sh a,.Ai=>some (.sh a)
 |.Ai,.sh _=>none
def Xw(fi:FI)(bs:AL7 Blk)(e:Nat)(ti:TI):AV->AV->(G9->AL8 R)->AL8 R
 |.zs,y,K=>if(ti.ty.row&&ti.bytes !=0)=false then none else match oB bs ti.ty y with
  |some (ys,m,rs)=>match wW (match m with |.Ai=>fi.mode ti.ty |m=>m) m with
   |some m'=>if ji rs m' then if ys.length*ti.bytes<=140737488355328 then K ⟨.Am bs.length,Blk.Gl (A6 rs bs) rs++[.row e m' ti.ty ys],rs⟩else none else none
   |none=>none
  |none=>none
 |.Am k,y,K=>if(ti.ty.row&&ti.bytes !=0)=false then none else match bs[k]?,oB bs ti.ty y with
  |some (.row e' m t xs),some (ys,m2,rs)=>match IP (.sl t) (.sl ti.ty) xs,wW m m2 with
   |some xs,some m'=>if(e=e'/\e≠0\/e'=0)/\rs.contains k=false/\ji (k::rs) m' then
       if(xs.length+ys.length)*ti.bytes<=140737488355328 then K ⟨.Am bs.length,Blk.Gl (A6 (k::rs) bs) (k::rs)++[.row e' m' ti.ty (xs++ys)],k::rs⟩else none
    else none
   |_,_=>none
  |_,_=>none
 |_,_,_=>none
def Ty.isInt:Ty->Bool
 |.int _=>true
 |_=>false
def Xx(fi:FI)(bs:AL7 Blk)(e:Nat)(ti:TI):AV->AV->(G9->AL8 R)->AL8 R
 |.zs,.Ax _ (.int _) l,K=>if ti.ty.row=true/\ti.bytes≠0 then if 0<=l/\l*(ti.bytes:Int)<=140737488355328 then K ⟨.Am bs.length,bs++[.row e (fi.mode ti.ty) ti.ty (List.replicate l.toNat ti.ty.zero)],[]⟩else none else none
 |_,_,_=>none
def kE(fi:FI)(bs:AL7 Blk)(e:Nat)(ti:TI):AV->AV->(G9->AL8 R)->AL8 R
 |.Ax _ (.int _) l,.Ax _ (.int _) c,K=>if ti.ty.row/\0<=l/\l<=c/\(ti.bytes:Int)*c<=281474976710656/\c<=9223372036854775807 then
     K ⟨.Am bs.length,bs++[.row e (fi.mode ti.ty) ti.ty (List.replicate l.toNat ti.ty.zero)],[]⟩else none
 |_,_,_=>none
def bnd:AL8 AV->Int->AL8 Int
 |none,d=>some d
 |some (.Ax _ (.int _) i),_=>some i
 |_,_=>none
def Wb(bs:AL7 Blk)(ti:TI)(te:AL8 Ty)(x:AV)(lo hi mx:AL8 AV)(K:AV->AL8 R):AL8 R :=
 match mx with
 |some (.Ax _ (.int _) m)=>match lo,hi with
  |none,some (.Ax _ (.int _) h)=>if h=0/\m=0/\te.isSome then match x with
   |.Ax _ (.sl _) _=>K .zs
   |.zs=>K .zs
   |.Am k=>match bs[k]? with |some (.row _ _ _ _)=>K .zs |_=>none
   |_=>none
   else none
  |_,_=>none
 |some _=>none
 |none=>match x with
  |.Ax _ .str s=>match bnd lo 0,bnd hi (s.size:Int)with
   |some l,some h=>if ti.ty=.str/\0<=l/\l<=h/\h<=(s.size:Int)then K (.str (s.extract l.toNat h.toNat))else none
   |_,_=>none
  |.Ax ks (.sl t) xs=>match bnd lo 0,bnd hi (xs.length:Int)with
   |some l,some h=>if te=some t then if 0<=l/\l<=h/\h<=(xs.length:Int)then K (.Ax ks (.sl t) ((xs.take h.toNat).drop l.toNat))else none else none
   |_,_=>none
  |.Am k=>match bs[k]? with
   |some (.row _ m t xs)=>match bnd lo 0,bnd hi (xs.length:Int)with
    |some l,some h=>if te=some t then if 0<=l/\l<=h/\h<=(xs.length:Int)then K (.Ax (k::m.Cf) (.sl t) ((xs.take h.toNat).drop l.toNat))else none else none
    |_,_=>none
   |_=>none
  |.zs=>match bnd lo 0,bnd hi 0 with
   |some l,some h=>if te.isSome/\l=0/\h=0 then K .zs else none
   |_,_=>none
  |_=>none
def x8(te:Ty)(bs:AL7 Blk)(x:AV)(hi:AL8 AV)(K:G9->AL8 R):AL8 R :=
 match x,hi with
 |.Am k,some (.Ax _ (.int _) h)=>match bs[k]? with
  |some (.row e m t xs)=>if ji [k] m/\t=te then if 0<=h/\h<=(xs.length:Int)then K ⟨.Am bs.length,Blk.Gl (A6 [k] bs) [k]++[.row e m t (xs.take h.toNat)],[k]⟩else none else none
  |_=>none
 |_,_=>none
def bytesOf(xs:AL7 Int):ByteArray:=⟨(xs.map λn=>UInt8.ofNat n.toNat).toArray⟩
def Zu(bs:AL7 Blk)(te:AL8 Ty)(td:Ty)(a:AV)(K:AV->AL8 R):AL8 R :=
 match td with
 |.int k=>match a with |.Ax _ (.int _) n=>K (.int k (k.wrap n))|_=>none
 |.str=>match a with
  |.Ax _ .str s=>K (.str s)
  |a=>if te=some (.int .u8)then match rd bs (.sl (.int .u8)) a with |some xs=>K (.str (bytesOf xs))|none=>none else none
 |_=>none
def RM.own(k:Nat):RM->AL7 Nat
 |.Ai=>[k]
 |.sh ks=>ks
def cm(bs:AL7 Blk)(tk te:TI)(ok:Bool)(m x:AV)(K:AV->AL8 R):AL8 R :=
 match m with
 |.mp k=>match bs[k]? with
  |some (.map md kt vt es none)=>match rd bs kt x with
   |some key=>if kt=tk.ty/\vt=te.ty/\kt.D4=true then
       (bif ok then K (.cons (.Ax (YT (md.own k) vt) vt (Bg kt vt es key)) (.cons (.bool (SA kt vt es key)) .nil))
        else K (.Ax (YT (md.own k) vt) vt (Bg kt vt es key)))else none
   |none=>none
  |_=>none
 |_=>none
def kC(bs:AL7 Blk)(tk te:TI)(m x:AV)(K:G9->AL8 R):AL8 R :=
 match m with
 |.mp k=>match bs[k]? with
  |some (.map .Ai kt (.sl u) es none)=>match rd bs kt x with
   |some key=>if kt=tk.ty/\.sl u=te.ty/\kt.D4=true/\u.size≠0 then
       K ⟨.Am bs.length,(A6 [k] bs).set k (.map .Ai kt (.sl u) es (some key))++[.row 0 .Ai u (Bg kt (.sl u) es key)],[k]⟩else none
   |none=>none
  |_=>none
 |_=>none
def Z8(bs:AL7 Blk)(tk te:TI)(m x v:AV)(K:G9->AL8 R):AL8 R :=
 match m with
 |.mp k=>match bs[k]? with
  |some (.map md kt vt es st)=>match rd bs kt x,take bs md vt v with
   |some key,some (y,m',rs)=>if kt=tk.ty/\vt=te.ty/\kt.D4=true/\ji (k::rs) m'/\rs.contains k=false then
       match st with
       |none=>K ⟨.un 0,(Blk.Gl (A6 (k::rs) bs) rs).set k (.map m' kt vt (BV kt vt es key y) none),k::rs⟩
       |some k0=>bif A7 kt k0 key then K ⟨.un 0,(Blk.Gl (A6 (k::rs) bs) rs).set k (.map m' kt vt (BV kt vt es key y) none),k::rs⟩else none
    else none
   |_,_=>none
  |_=>none
 |_=>none
def yc(bs:AL7 Blk)(tk te:TI)(m x:AV)(K:G9->AL8 R):AL8 R :=
 match m with
 |.mp k=>match bs[k]? with
  |some (.map .Ai kt (.sl u) es none)=>match rd bs kt x with
   |some key=>if kt=tk.ty/\Ty.sl u=te.ty/\kt.D4=true/\u.size≠0 then
       K ⟨.cons (.Am bs.length) (.cons (.int .i64 (Wz kt (.sl u) es key)) .nil),(A6 [k] bs).set k (.map .Ai kt (.sl u) (BV kt (.sl u) es key (Bg kt (.sl u) es key)) (some key))++[.row 0 .Ai u (Bg kt (.sl u) es key)],[k]⟩else none
   |none=>none
  |_=>none
 |_=>none
def yd(bs:AL7 Blk)(tk te:TI)(m j v:AV)(K:G9->AL8 R):AL8 R :=
 match m with
 |.mp k=>match bs[k]? with
  |some (.map _ kt vt es (some key))=>match rd bs (.int .i64) j with
   |some n=>if kt=tk.ty/\kt.D4=true then(bif Vq kt vt es key n then Z8 bs tk te m (.Ax [] kt key) v K else none)else none
   |none=>none
  |_=>none
 |_=>none
def O2:AV->Nat->AL8 AV
 |.cons a _,0=>some a
 |.cons _ b,n+1=>O2 b n
 |_,_=>none
end
def da(l:AL7 Nat):AL7 Nat->AL7 Nat
 |[]=>l
 |k::r=>if l.contains k then da l r else da (l++[k]) r
def kY(bs:AL7 Blk):Nat->AL7 Nat->AL7 Nat
 |0,l=>l
 |f+1,l=>kY bs f (da l (l.flatMap λk=>match bs[k]? with |some b=>b.Cf |none=>[]))
def idxOf(l:AL7 Nat)(k:Nat):Nat:=match l with
 |[]=>0
 |x::r=>if x==k then 0 else idxOf r k+1
def AV.US(KC:AL7 Nat):AV->AV
 |.Ax ks t x=>.Ax (if t.BA then ks else ks++KC) t x
 |.EJ ks t x=>.EJ (ks++KC) t x
 |.pr a b=>.pr (a.US KC) (b.US KC)
 |.fn g c=>.fn g (c.US KC)
 |.cons a b=>.cons (a.US KC) (b.US KC)
 |a=>a
def RM.US(KC:AL7 Nat):RM->RM
 |.Ai=>.Ai
 |.sh ks=>.sh (ks++KC)
def Blk.US(KC:AL7 Nat):Blk->Blk
 |.box a=>.box (a.US KC)
 |.row e m t xs=>.row e (m.US KC) t xs
 |.map m kt vt es st=>.map (m.US KC) kt vt es st
 |.QE e t xs i p=>.QE e t xs i p
 |.tail e t xs=>.tail e t xs
 |.AK=>.AK
def tB(bs:AL7 Blk):PM->AV->AL8 (AV×AL7 Nat)
 |.d t,v=>match rd bs t v with |some x=>some (.Ax [] t x,v.TS bs)|none=>none
 |.p t,.EJ ks u x=>match IP u t x with |some y=>some (.EJ [] t y,ks)|none=>none
 |.p t,.ptr k i p o=>match atP bs k i p o with
  |some a=>match rd bs t a with |some x=>some (.EJ [] t x,k::a.TS bs)|none=>none
  |none=>none
 |.p _,_=>none
 |.UJ,v=>some (v,[])
def AaO:PM->AV->AL7 Nat
 |.UJ,v=>v.Cf
 |_,_=>[]
def eu(bs:AL7 Blk):AL7 PM->AL7 AV->AL8 (AL7 AV×AL7 Nat×AL7 Nat)
 |[],[]=>some ([],[],[])
 |m::ms,v::vs=>match tB bs m v,eu bs ms vs with
  |some (a,l),some (iG,ls,rs)=>some (a::iG,l++ls,AaO m v++rs)
  |_,_=>none
 |_,_=>none
def WS(n:Nat)(π:AL7 Nat)(j:Nat):Nat:=match π[j]? with |some k=>k |none=>n+(j-π.length)
def P5(bs:AL7 Blk):AL7 Nat->AL7 Blk->AL7 Blk
 |k::ks,b::r=>P5 (bs.set k b) ks r
 |_,_=>bs
section
variable {R:Type}
def WV(c:Callee)(bs:AL7 Blk)(args:AL7 AV)(K:G9->AL8 R):AL8 R :=
 match eu bs c.kK args with
 |none=>none
 |some (iG,KC,Yn) =>
  let π:=kY bs bs.length (da [] Yn)
  let n:=bs.length
  let Ut:=π.filter λk=>c.yB.contains (idxOf π k)
  let π1:=π.filter λk=>!Ut.contains k
  if KC.all (λk=>!π.contains k&&decide (k<n))&&nodup π&&Yn.all (λk=>π.contains k)&&π.all (λk=>match bs[k]? with |some b=>b.Cf.all (λj=>π.contains j)&&(Ut.contains k||b.RL.all (λj=>!Ut.contains j))|none=>false)&&(iG.all λa=>a.RL.all λj=>!Ut.contains j)&&(π.isEmpty||!π1.isEmpty)then
   c.run R (iG.map (·.Nm (idxOf π))) (π.map λk=>bif Ut.contains k then .AK else((bs[k]?).getD .AK).Nm (idxOf π)) λav E =>
    let f:=WS n π
    if π.length<=E.length then
     K ⟨(av.Nm f).US KC,P5 (A6 π1 bs) π (List.zipWith (λk b=>bif Ut.contains k then((A6 π1 bs)[k]?).getD .AK else(b.Nm f).US KC) π E)++(E.drop π.length).map (λb=>(b.Nm f).US KC),π1⟩
    else none
  else none
def AV.OU:AV->AL8 (Nat×Int×AL7 Nat×Nat)
 |.Tf k i p o _=>some (k,i,p,o)
 |.pr a b=>match a.OU with |some z=>some z |none=>b.OU
 |_=>none
def AV.YV(n:Nat):AV->AV
 |.Tf _ _ _ _ _=>.Am n
 |.pr a b=>match a.OU with |some _=>.pr (a.YV n) b |none=>.pr a (b.YV n)
 |a=>a
def rz:Nat->AL7 AV->AL8 (Nat×AV×Nat×Int×AL7 Nat×Nat)
 |_,[]=>none
 |j,a::r=>match a.OU with |some (k,i,p,o)=>some (j,a,k,i,p,o)|none=>rz (j+1) r
def Ty.Az8:Ty->Bool
 |.sl _=>true
 |_=>false
def gw(k:Nat)(i:Int)(p:AL7 Nat)(e:Nat):(t:Ty)->t.V->Nat->Nat->AL8 AV
 |.unit,_,_,_=>some .u
 |.Au a b,x,f,o=>match gw k i p e b x.2 (f+1) (o+a.size)with
  |some r=>if a.Az8 then some (.pr (.Tf k i (p++[f]) o e) r)else if a.BA then some (.pr (.Ax [] a x.1) r)else none
  |none=>none
 |_,_,_,_=>none
def eR(c:Callee)(bs:AL7 Blk)(args:AL7 AV)(K:G9->AL8 R):AL8 R :=
 match rz 0 args with
 |none=>WV c bs args K
 |some (j,a0,k,i,p,o)=>match bs[k]? with
  |some (.row ek .Ai t xs)=>match tyP t p with
   |some (.sl u)=>match fH (.sl u) p t (xs.getD i.toNat t.zero)with
    |some ys =>
     if K0 t p=some o/\u.size≠0/\((args.set j (a0.YV bs.length)).all λa=>!a.Cf.contains k)=true then
      WV c ((A6 [k] bs).set k .AK++[.row 0 .Ai u ys]) (args.set j (a0.YV bs.length)) λe =>
       if e.Bu.contains k then none else
       match e.An[bs.length]? with
       |some (.row _ .Ai u' zs)=>match IP (.sl u') (.sl u) zs with
        |some zs=>match R5 (.sl u) zs p t (xs.getD i.toNat t.zero)with
         |some x'=>K ⟨e.val.drop (λq=>[k,bs.length].contains q),((A6 [k,bs.length] e.An).set bs.length .AK).set k (.row ek .Ai t (xs.set i.toNat x')),e.Bu++[k]⟩
         |none=>none
        |none=>none
       |_=>none
     else none
    |none=>none
   |_=>none
  |_=>none
def v8:AV->AL7 AV
 |.cons a b=>a::v8 b
 |_=>[]
def OV(σ:St)(xs:Array Operand):AL7 AV:=xs.toList.map σ.B7
def VT:AL7 AV->AV
 |[]=>.nil
 |a::r=>.cons (if a.C5 then .un 0 else a) (VT r)
def Vt(en:Gd)(σ:St)(c:Call)(K:G9->AL8 R):AL8 R :=
 match c.callee with
 |.builtin .len=>match OV σ c.args,c.argTypes.toList with
  |[x],t::_=>match en.Dm.get t with |some ti=>nK σ.An ti x λv=>K ⟨v,σ.An,[]⟩|none=>none
  |_,_=>none
 |.builtin .min=>match OV σ c.args with |[x,y]=>zS false x y λv=>K ⟨v,σ.An,[]⟩|_=>none
 |.builtin .max=>match OV σ c.args with |[x,y]=>zS true x y λv=>K ⟨v,σ.An,[]⟩|_=>none
 |.builtin .append=>match OV σ c.args,c.argTypes.toList with
  |[x,y],[t,tx]=>match en.Dm.get t,en.Dm.get tx with
   |some ti,some bL=>match en.Dm.get ti.elem with
    |some te=>if ti.DZ&&(bL.DZ||bL.ty==.str)then Xw en.fi σ.An ti.elem te x y K else if ti.DZ&&bL.ty.isInt then Xx en.fi σ.An ti.elem te x y K else none
    |none=>none
   |_,_=>none
  |_,_=>none
 |.builtin _=>none
 |.value f=>match σ.B7 f with
  |.fn g X4=>match en.fns g with
   |some ca=>eR ca σ.An (OV σ c.args++v8 X4) K
   |none=>none
  |_=>none
 |.invoke _ _=>none
def eqS(bs:AL7 Blk)(Dm:vA)(op:BinOp)(t:Nat)(x y:AV):AL8 AV:=match Dm.get t with
 |some ti=>if ti.eqs=true then(match op with
  |.eql=>match rd bs ti.ty x,rd bs ti.ty y with |some u,some v=>some (.bool (PH ti.ty u v))|_,_=>none
  |.neq=>match rd bs ti.ty x,rd bs ti.ty y with |some u,some v=>some (.bool (!PH ti.ty u v))|_,_=>none
  |_=>none)else none
 |none=>none
def Ack(en:Gd)(o:Oper):Bool:=match o.dst with |some d=>en.fi.stl.contains d |none=>false
def YR(Dm:vA)(tk:TI):Bool:=match tk.ty with
 |.Au (.int q) _=>tk.Gw==2&&(match Dm.get tk.elem with |some te=>te.ty==.int q&&tk.ty==.Au (.int q) (.Au (.int q) .unit)|none=>false)
 |_=>true
def QL(en:Gd)(σ:St)(o:Oper)(K:G9->AL8 R):AL8 R :=
 let ρ:=σ.B7
 let bs:=σ.An
 let pure:=λv=>K ⟨v,bs,[]⟩
 match o.op with
 |.move x=>pure (ρ x)
 |.assign x=>pure (ρ x)
 |.pick c a b=>match ρ c with |.Ax _ .bool t=>bif t then pure (ρ a)else pure (ρ b)|_=>none
 |.alloc e=>match en.Dm.get e with
  |some ti=>K ⟨.ptr bs.length 0 [] 0,bs++[.box ti.ty.Ys],[]⟩
  |none=>none
 |.box _ x=>if(ρ x).ai then K ⟨.ptr bs.length 0 [] 0,bs++[.box (ρ x)],[]⟩else none
 |.build t Gb=>match en.Dm.get t with
  |some ti=>if ti.VG.isEmpty then none else match WU ti ti.ty.Ys (Gb.toList.map λp=>(p.1,ρ p.2))with |some v=>pure v |none=>none
  |none=>none
 |.buildSlice t len Gb=>match en.Dm.get t with
  |some ti=>match en.Dm.get ti.elem with
   |some te=>match Q7 bs te.ty (en.fi.mode te.ty) (List.replicate len te.ty.zero) [] (Gb.toList.map λp=>(p.1,ρ p.2))with
    |some (m,xs,rs)=>if ti.DZ&&te.ty.row&&ji rs m&&nodup rs&&len*te.ty.size<=16777216 then(if len=0 then K ⟨.zs,bs,[]⟩else K ⟨.Am bs.length,Blk.Gl (A6 rs bs) rs++[.row ti.elem m te.ty xs],rs⟩)else none
    |none=>none
   |none=>none
  |none=>none
 |.load t x=>match en.Dm.get t with
  |some ti=>if Ack en o=true then(if ti.DZ then Y5 bs ti (ρ x) K else none)else Yi bs ti (ρ x) pure
  |none=>none
 |.makeMap t r=>match en.Dm.get t with
  |some ti=>if r.isSome then none else match en.Dm.get ti.NK,en.Dm.get ti.elem with
   |some tk,some te=>if ti.NK≠0/\tk.ty.D4=true/\te.ty.data=true then K ⟨.mp bs.length,bs++[.map (en.fi.mode te.ty) tk.ty te.ty [] none],[]⟩else none
   |_,_=>none
  |none=>none
 |.lookup t m x ok=>match en.Dm.get t with
  |some ti=>match en.Dm.get ti.NK,en.Dm.get ti.elem with
   |some tk,some te=>if ti.NK≠0/\te.ty.data=true/\YR en.Dm tk=true then
       (if Ack en o=true then(if ok then none else kC bs tk te (ρ m) (ρ x) K)else cm bs tk te ok (ρ m) (ρ x) pure)else none
   |_,_=>none
  |none=>none
 |.mapUpdate t m x v=>match en.Dm.get t with
  |some ti=>match en.Dm.get ti.NK,en.Dm.get ti.elem with
   |some tk,some te=>if ti.NK≠0/\te.ty.data=true/\YR en.Dm tk=true then Z8 bs tk te (ρ m) (ρ x) (ρ v) K else none
   |_,_=>none
  |none=>none
 |.insert t m x v=>match en.Dm.get t with
  |some ti=>match en.Dm.get ti.NK,en.Dm.get ti.elem with
   |some tk,some te=>if ti.NK≠0/\te.ty.data=true/\YR en.Dm tk=true then Z8 bs tk te (ρ m) (ρ x) (ρ v) K else none
   |_,_=>none
  |none=>none
 |.mapEntry t m x=>match en.Dm.get t with
  |some ti=>match en.Dm.get ti.NK,en.Dm.get ti.elem with
   |some tk,some te=>if ti.NK≠0/\YR en.Dm tk=true then yc bs tk te (ρ m) (ρ x) K else none
   |_,_=>none
  |none=>none
 |.entryStore t m j v=>match en.Dm.get t with
  |some ti=>match en.Dm.get ti.NK,en.Dm.get ti.elem with
   |some tk,some te=>if ti.NK≠0/\YR en.Dm tk=true then yd bs tk te (ρ m) (ρ j) (ρ v) K else none
   |_,_=>none
  |none=>none
 |.store t x v=>match en.Dm.get t with |some ti=>bH bs ti (ρ x) (ρ v) K |none=>none
 |.nilCheck x=>match ρ x with
  |.ptr k i p q=>pure (.ptr k i p q)
  |.EJ ks t y=>pure (.EJ ks t y)
  |_=>none
 |.binOp op t x y _=>match eqS bs en.Dm op t (ρ x) (ρ y)with |some z=>pure z |none=>l5 op (match en.Dm.get t with |some ti=>ti.ty==.bool |none=>false) (ρ x) (ρ y) pure
 |.unOp op _ x=>unA op (ρ x) pure
 |.convert s t x=>match en.Dm.get s,en.Dm.get t with
  |some ts,some ti=>Zu bs (match en.Dm.get ts.elem with |some te=>if ts.DZ then some te.ty else none |none=>none) ti.ty (ρ x) pure
  |_,_=>none
 |.makeFunc fn first X4=>match fn with |.func f=>if first.size=0 then pure (.fn f (VT (X4.toList.map ρ)))else none |_=>none
 |.makeSlice t l c=>match en.Dm.get t with
  |some ti=>match en.Dm.get ti.elem with
   |some te=>if ti.DZ then kE en.fi bs ti.elem te (ρ l) (ρ c) K else none
   |none=>none
  |none=>none
 |.slice t x lo hi mx=>match o.dst,en.Dm.get t with
  |some d,some ti =>
   if en.fi.take.contains d then(match lo,mx with
    |none,none=>if ti.DZ then(match en.Dm.get ti.elem with |some te=>x8 te.ty bs (ρ x) (hi.map ρ) K |none=>none)else none
    |_,_=>none)
   else Wb bs ti (match en.Dm.get ti.elem with |some te=>if ti.DZ then some te.ty else none |none=>none) (ρ x) (lo.map ρ) (hi.map ρ) (mx.map ρ) pure
  |_,_=>none
 |.fieldAddr t x f=>match en.Dm.get t with |some ti=>iM ti f (ρ x) pure |none=>none
 |.indexAddr t x i=>match en.Dm.get t with
  |some ti=>match en.Dm.get ti.elem with
   |some te=>if ti.DZ then qU bs te.ty (ρ x) (ρ i) pure else none
   |none=>none
  |none=>none
 |.index t x i=>match en.Dm.get t with |some ti=>if ti.ty=.str then mb (ρ x) (ρ i) pure else none |none=>none
 |.extract x i=>match O2 (ρ x) i with |some v=>if v.C5 then none else pure v |none=>none
 |.call c=>Vt en σ c K
 |_=>none
def NH.{u}{A:Type u}:AL7 (Nat×A)->Nat->AL8 A
 |[],_=>none
 |(k,l)::r,n=>if k==n then some l else NH r n
def AgT(n:Nat)(t:Ty)(e:G9):AL8 G9:=match rd e.An t e.val with
 |some x=>if e.An.all (λb=>!b.aO)then some ⟨.Ax ((e.val.TS e.An).filter λk=>decide (k<n)) t x,Blk.Gl e.An ((e.val.TS e.An).filter λk=>!decide (k<n)),e.Bu⟩else none
 |none=>none
def xh(n:Nat)(e:G9):AL8 G9:=match e.val with
 |.Am k=>if n<=k then match e.An[k]? with
  |some (.row el .Ai t xs)=>some ⟨.Am k,e.An.set k (bif t.BA then .tail el t xs else .row el (.sh []) t xs),e.Bu⟩
  |_=>none
  else none
 |_=>none
def fu(en:Gd)(o:Oper):Bool:=match o.dst with |some d=>en.fi.AAk.contains d |none=>false
def ACe(en:Gd)(o:Oper):AL8 Ty:=match o.dst with |some d=>NH en.fi.tX d |none=>none
def pF(u:Ty):Nat->Ty
 |0=>.unit
 |n+1=>.Au u (pF u n)
def TI.plc(ti te:TI):TI:=⟨ti.ty,(List.range ti.Gw).map (·*te.ty.size),ti.elem,ti.bytes,ti.Gw,ti.NK,ti.eqs⟩
def eB(en:Gd)(σ:St)(o:Oper):AL8 AV:=match o.op with
 |.load t x=>match o.dst with
  |none=>none
  |some d=>match NH en.fi.rl d,en.Dm.get t,σ.B7 x with
   |some e,some ti,.ptr k i p f=>match σ.An[k]?,atP σ.An k i p f with
    |some (.row _ .Ai _ _),some v=>if ti.DZ=true/\v.size=1 then some (.Tf k i p f e)else(match v with
     |.Ax _ t x=>if t=ti.ty then gw k i p e t x 0 f else none
     |_=>none)
    |_,_=>none
   |_,_,_=>none
 |.build t Gb=>match en.Dm.get t with
  |some ti=>if ti.Gw=0 then none else match en.Dm.get ti.elem with
   |some te=>if ti.ty=pF te.ty ti.Gw then WU (ti.plc te) ti.ty.Ys (Gb.toList.map λp=>(p.1,σ.B7 p.2))else none
   |none=>none
  |none=>none
 |.index t x i=>match en.Dm.get t with
  |some ti=>if ti.Gw=0 then none else match en.Dm.get ti.elem with
   |some te=>match σ.B7 i,σ.B7 x with
    |.Ax _ (.int _) j,a=>if 0<=j/\j<(ti.Gw:Int)/\a.off j.toNat=some (j.toNat*te.ty.size)/\a.isAgg=true/\a.C5=false then match a.YG j.toNat with
     |some v=>if v.size=te.ty.size/\v.isAgg=te.ty.isAgg then some v else none
     |none=>none
     else none
    |_,_=>none
   |none=>none
  |none=>none
 |.field t x f=>match en.Dm.get t with
  |some ti=>match ti.VG[f]?,ic ti.ty f,(σ.B7 x).YG f with
   |some fo,some u,some v=>if(σ.B7 x).off f=some fo/\(σ.B7 x).isAgg=true/\(σ.B7 x).C5=false/\v.size=u.size/\v.isAgg=u.isAgg then some v else none
   |_,_,_=>none
  |none=>none
 |.call c=>match c.callee,OV σ c.args,c.argTypes.toList with
  |.builtin .cap,[.zs],t::_=>match en.Dm.get t with |some ti=>if ti.DZ=true then some (.int .i64 0)else none |none=>none
  |_,_,_=>none
 |.indexAddr t x i=>match en.Dm.get t with
  |some ti=>if ti.Gw=0 then none else match en.Dm.get ti.elem with
   |some te=>match σ.B7 i with
    |.Ax _ (.int _) j=>if 0<=j/\j<(ti.Gw:Int)then match σ.B7 x with
     |.ptr k q p f=>some (.ptr k q (p++[j.toNat]) (f+j.toNat*te.ty.size))
     |.EJ ks t' y=>if TX t' j.toNat=some (j.toNat*te.ty.size)then match VZ ks t' y j.toNat with |some (.Ax _ u z)=>some (.EJ ks u z)|_=>none else none
     |_=>none
     else none
    |_=>none
   |none=>none
  |none=>none
 |_=>none
def xY(bs:AL7 Blk):Co->AV->AL8 (AV×AL7 Blk)
 |.row p e t Ai,a=>match a.UU p with
  |some .zs=>if t.row then match a.Y2 p (.Am bs.length)with |some a'=>some (a',[.row e (if t.BA||Ai then .Ai else .sh []) t []])|none=>none else none
  |_=>some (a,[])
 |.Ax t,a=>match rd bs t a with |some x=>some (.Ax (a.TS bs) t x,[])|none=>none
 |.cN ks,a=>match a with
  |.Ax l t x=>if(t.BA||l.all λk=>ks.contains k)&&ks.all (λk=>decide (k<bs.length))then some (.Ax ks t x,[])else none
  |_=>none
def coB(k:Nat)(c:Co)(bs:AL7 Blk):AL8 (AL7 Blk):=match bs[k]? with
 |some (.box a)=>match xY bs c a with |some (a',nb)=>some (bs.set k (.box a')++nb)|none=>none
 |_=>none
def mH:AL7 (Nat×Co)->AL7 Blk->AL8 (AL7 Blk)
 |[],bs=>some bs
 |(k,c)::r,bs=>match coB k c bs with |some Gx=>mH r Gx |none=>none
def Aiv(bs:AL7 Blk):Nat->AL7 (AL7 Nat)->AL8 Nat
 |k,[]=>some k
 |k,q::r=>match bs[k]? with
  |some (.box a)=>match a.UU q with |some (.ptr k' _ _ _)=>Aiv bs k' r |_=>none
  |_=>none
def preB:AL7 (Nat×AL7 (AL7 Nat)×Co)->AL7 AV->AL7 Blk->AL8 (AL7 Blk)
 |[],_,bs=>some bs
 |(j,q,c)::r,args,bs=>match args[j]? with
  |some (.ptr k _ _ _)=>match Aiv bs k q with
   |some k'=>match coB k' c bs with |some Gx=>preB r args Gx |none=>none
   |none=>none
  |_=>none
def uX(bs:AL7 Blk)(ti:TI)(k:Nat)(i:Int)(p:AL7 Nat)(o:Nat)(j:Int)(u:Ty)(v:AV):AL8 G9:=match bs[k]? with
 |some (.row ek .Ai t xs)=>match fH (.sl u) p t (xs.getD i.toNat t.zero)with
  |some ys=>match take ((A6 [k] bs).set k .AK++[.row 0 .Ai u ys]) .Ai ti.ty v with
   |some (y,.Ai,[])=>match R5 ti.ty y [] u (ys.getD j.toNat u.zero)with
    |some y'=>match R5 (.sl u) (ys.set j.toNat y') p t (xs.getD i.toNat t.zero)with
     |some x'=>if tyP t p=some (.sl u)/\K0 t p=some o/\u.size≠0/\tyP u []=some ti.ty/\K0 u []=some 0/\v.Cf.contains k=false then
         some ⟨.un 0,((A6 [k,bs.length] ((Blk.Gl (A6 [bs.length] ((A6 [k] bs).set k .AK++[.row 0 .Ai u ys])) []).set bs.length (.row 0 .Ai u (ys.set j.toNat y')))).set bs.length .AK).set k (.row ek .Ai t (xs.set i.toNat x')),[bs.length]++[k]⟩
      else none
     |none=>none
    |none=>none
   |_=>none
  |none=>none
 |_=>none
def yR(en:Gd)(σ:St)(o:Oper):AL8 G9:=match o.op with
 |.store t x v=>match en.Dm.get t,σ.B7 x with
  |some ti,.U6 k i p f j u=>uX σ.An ti k i p f j u (σ.B7 v)
  |_,_=>none
 |_=>none
def rL(en:Gd)(σ:St)(o:Oper):AL8 G9:=yR en σ o
def tlE(en:Gd)(σ:St)(o:Oper):AL8 (Bool×G9):=match o.op with
 |.slice t x (some lo) none none=>match en.Dm.get t,σ.B7 x,σ.B7 lo with
  |some ti,.Am k,.Ax _ (.int _) l=>match σ.An[k]?,en.Dm.get ti.elem with
   |some (.tail e u xs),some te=>if ti.DZ=true/\u=te.ty then some (decide (0<=l)&&decide (l<=(xs.length:Int)),⟨.Am σ.An.length,Blk.Gl (A6 [k] σ.An) [k]++[.tail e u (xs.drop l.toNat)],[k]⟩)else none
   |_,_=>none
  |_,_,_=>none
 |.indexAddr t x i=>match en.Dm.get t,σ.B7 x,σ.B7 i with
  |some ti,.Am k,.Ax _ (.int _) l=>match σ.An[k]?,en.Dm.get ti.elem with
   |some (.tail _ u xs),some te=>if ti.DZ=true/\u=te.ty then some (decide (0<=l)&&decide (l<(xs.length:Int)),⟨.EJ [k] u (xs.getD l.toNat u.zero),σ.An,[]⟩)else none
   |_,_=>none
  |_,_,_=>none
 |.call c=>match c.callee,OV σ c.args,c.argTypes.toList with
  |.builtin .len,[.Am k],[t]=>match σ.An[k]?,en.Dm.get t with
   |some (.tail _ _ xs),some ti=>if ti.DZ=true then some (true,⟨.int .i64 (xs.length:Int),σ.An,[]⟩)else none
   |_,_=>none
  |.builtin .append,[.Am k,y],[t,tx]=>match σ.An[k]?,en.Dm.get t,en.Dm.get tx with
   |some (.tail e u xs),some ti,some bL=>match en.Dm.get ti.elem with
    |some te=>match IP (.sl u) (.sl te.ty) xs,oB σ.An te.ty y with
     |some xs,some (ys,_,rs)=>if ti.DZ=true/\bL.DZ=true/\te.ty.row=true/\te.bytes≠0/\(e=ti.elem\/e=0)/\rs.contains k=false then
         some (decide ((xs.length+ys.length)*te.bytes<=140737488355328),⟨.Am σ.An.length,Blk.Gl (A6 (k::rs) σ.An) (k::rs)++[.tail e te.ty (xs++ys)],k::rs⟩)else none
     |_,_=>none
    |none=>none
   |_,_,_=>none
  |_,_,_=>none
 |_=>none
def Ur(en:Gd)(σ:St)(o:Oper)(K:G9->AL8 R):AL8 R:=match eB en σ o with
 |some v=>K ⟨v,σ.An,[]⟩
 |none=>match rL en σ o with
 |some e=>K e
 |none=>match tlE en σ o with
 |some (c,e)=>bif c then K e else none
 |none=>match ACe en o with
 |none=>bif fu en o then QL en σ o λe=>match xh σ.An.length e with |some e'=>K e' |none=>none else QL en σ o K
 |some t=>QL en σ o λe=>match AgT σ.An.length t e with |some e'=>K e' |none=>none
def exec(en:Gd)(σ:St)(o:Oper)(K:G9->AL8 R):AL8 R:=match o.op,o.dst with
 |.call c,some d=>match NH en.fi.ACc d with
  |some l=>match preB l (OV σ c.args) σ.An with
   |some bs=>Ur en ⟨σ.AF,bs⟩ o λe=>if e.Bu.isEmpty then none else K e
   |none=>none
  |none=>Ur en σ o K
 |_,_=>Ur en σ o K
def V0(all:AL7 Oper)(σ:St)(o:Oper)(Kt Kf:St->AL8 R):AL8 R :=
 match o.guard with
 |none=>Kt σ
 |some (g,dh) =>
  match (all[g]?).bind (·.dst)with
  |none=>none
  |some d=>match σ.AF[d]? with
   |some (.Ax [] .bool b) =>
    bif b then
     (if dh then Kt {σ with AF:=σ.AF.set d (.bool true)}else Kf {σ with AF:=σ.AF.set d (.bool true)})
    else
     (if dh then Kf {σ with AF:=σ.AF.set d (.bool false)}else Kt {σ with AF:=σ.AF.set d (.bool false)})
   |some .nil=>Kf σ
   |_=>none
def St.skip(σ:St)(d:AL8 Nat):St:={σ with AF:=X7 d .nil σ.AF}
def QK(en:Gd)(all:AL7 Oper):AL7 Nat->St->(St->AL8 R)->AL8 R
 |[],σ,K=>K σ
 |i::is,σ,K =>
  match all[i]? with
  |none=>none
  |some o=>V0 all σ o (λσ=>exec en σ o λe=>QK en all is (σ.after o.dst e) K) (λσ=>QK en all is (σ.skip o.dst) K)
def DU:AL7 (Nat×AL7 Nat)->Nat->AL7 Nat
 |[],_=>[]
 |(k,l)::r,i=>if k==i then l else DU r i
def Ts(all:AL7 Oper)(i:Nat):AL7 Nat:=match all[i]? with
 |some o=>o.after.toList.filterMap λe=>if Region.binds .any e then some e.on else none
 |none=>[]
def WQ(all:AL7 Oper):AL7 Nat->AL7 (Nat×AL7 Nat)->AL7 (Nat×AL7 Nat)
 |[],A=>A
 |i::is,A=>WQ all is ((i,da [] (Ts all i++(Ts all i).flatMap (DU A)))::A)
def ZS(all:AL7 Oper)(A:AL7 (Nat×AL7 Nat)):AL7 Nat->Bool
 |[]=>true
 |i::is=>is.all (λj=>(DU A j).contains i||match all[i]?,all[j]? with |some x,some y=>x.apart all.toArray y |_,_=>false)&&ZS all A is
def Tv(en:Gd)(all:AL7 Oper)(A:AL7 (Nat×AL7 Nat)):AL7 Nat->AL7 Nat->AL7 Nat->St->(St->AL8 R)->AL8 R
 |[],_,_,σ,K=>K σ
 |i::is,done,Np,σ,K =>
  match all[i]? with
  |none=>none
  |some o=>if Np.all (λx=>(DU A i).contains x)then
      V0 all σ o (λσ=>exec en σ o λe =>
       if e.Bu.isEmpty then Tv en all A is (i::done) (if e.An.length=σ.An.length then Np else i::Np) (σ.after o.dst e) K
       else if done.all (λx=>(DU A i).contains x)then Tv en all A is (i::done) (i::Np) (σ.after o.dst e) K else none)
      (λσ=>Tv en all A is (i::done) Np (σ.skip o.dst) K)
   else none
inductive Ex where
 |normal |exit (n:Nat)|ret
inductive To {S T:Type} (f:S->Option (S⊕T)):S->T->Prop
 |done {s:S} {t:T} (h:f s=some (.inr t)):To f s t
 |bh {s s':S} {t:T} (h:f s=some (.inl s')) (k:To f s' t):To f s t
open Classical in
noncomputable def fix{S T:Type}(f:S->AL8 (S⊕T))(s:S):AL8 T:=if h:∃t,To f s t then some h.choose else none
def key:Code->Nat
 |.region i _ _=>i
 |.seq a _=>key a
 |.block _ a=>key a
 |.loop a=>key a
 |.cond _ a _=>key a
 |_=>0
def QO(Bb:AL7 Nat):Nat->AL7 AV->AL7 AV
 |_,[]=>[]
 |i,a::r=>(if Bb.contains i then a else .un 0)::QO Bb (i+1) r
def coS(σ:St)(s:Nat)(box:Bool)(c:Co):AL8 St :=
 match σ.AF[s]? with
 |none=>none
 |some v=>bif box then
     (match v with
      |.ptr k _ _ _=>match σ.An[k]? with
       |some (.box a)=>match xY σ.An c a with |some (a',nb)=>some ⟨σ.AF,σ.An.set k (.box a')++nb⟩|none=>none
       |_=>none
      |_=>none)
  else match xY σ.An c v with |some (v',nb)=>some ⟨σ.AF.set s v',σ.An++nb⟩|none=>none
def Zs:AL7 (Nat×Bool×Co)->St->AL8 St
 |[],σ=>some σ
 |(s,b,c)::r,σ=>match coS σ s b c with |some σ'=>Zs r σ' |none=>none
def AcB(m:Nat)(t:Ty)(v:AV)(bs:AL7 Blk):AL8 (AV×AL7 Blk):=match rd bs t v with
 |some x=>some (.Ax ((v.TS bs).filter λk=>decide (k<m)) t x,(Blk.Gl bs ((v.TS bs).filter λk=>!decide (k<m))).map Blk.Za)
 |none=>none
def mQ(m:Nat):AL7 (Nat×Bool×Ty)->St->AL8 St
 |[],σ=>some σ
 |(s,false,t)::r,σ=>match σ.AF[s]? with
  |some (.un _)=>mQ m r σ
  |some v=>match AcB m t v σ.An with
   |some (v',bs)=>mQ m r ⟨(σ.AF.map AV.Za).set s v',bs⟩
   |none=>none
  |none=>none
 |(s,true,t)::r,σ=>match σ.AF[s]? with
  |some (.ptr k _ _ _)=>match σ.An[k]? with
   |some (.box a)=>match AcB m t a σ.An with
    |some (a',bs)=>match bs[k]? with
     |some (.box _)=>mQ m r ⟨σ.AF.map AV.Za,bs.set k (.box a')⟩
     |_=>none
    |none=>none
   |_=>none
  |_=>mQ m r σ
def mvS(m:Nat):AL7 Nat->St->AL8 St
 |[],σ=>some σ
 |s::r,σ=>match σ.AF[s]? with
  |some (.Am k)=>if k<m then match σ.An[k]? with
      |some (.row e md t xs)=>if md.Cf.contains k then none else mvS m r ⟨(Tt [k] σ.AF).set s (.Am σ.An.length),Blk.Gl (A6 [k] σ.An) [k]++[.row e md t xs]⟩
      |_=>none
   else mvS m r σ
  |_=>mvS m r σ
def mvB(m k:Nat)(p:AL7 Nat)(σ:St):AL8 St:=match σ.An[k]? with
 |some (.box a)=>match a.UU p with
  |some (.Am j)=>if j<m then match σ.An[j]? with
      |some (.row e md t xs)=>if md.Cf.contains j then none else match (a.drop λq=>[j].contains q).UU p,(a.drop λq=>[j].contains q).Y2 p (.Am σ.An.length)with
       |some (.Am j'),some a2=>if j'=j/\k≠j then some ⟨Tt [j] σ.AF,(Blk.Gl (A6 [j] σ.An) [j]++[Blk.row e md t xs]).set k (Blk.box a2)⟩else none
       |_,_=>none
      |_=>none
   else some σ
  |_=>none
 |_=>none
def mvV(m s:Nat)(p:AL7 Nat)(a:AV)(σ:St):AL8 St:=match a.UU p with
 |some (.Am j)=>if j<m then match σ.An[j]? with
     |some (.row e md t xs)=>if md.Cf.contains j then none else match (a.drop λq=>[j].contains q).UU p,(a.drop λq=>[j].contains q).Y2 p (.Am σ.An.length)with
      |some (.Am j'),some a2=>if j'=j then some ⟨(Tt [j] σ.AF).set s a2,Blk.Gl (A6 [j] σ.An) [j]++[Blk.row e md t xs]⟩else none
      |_,_=>none
     |_=>none
  else some σ
 |_=>none
def mvP(m s:Nat)(p:AL7 Nat)(σ:St):AL8 St:=match σ.AF[s]? with
 |some (.ptr k _ _ _)=>mvB m k p σ
 |some a=>mvV m s p a σ
 |none=>none
def AdP(m:Nat):AL7 (Nat×AL7 Nat)->St->AL8 St
 |[],σ=>some σ
 |(s,p)::r,σ=>match mvP m s p σ with |some σ'=>AdP m r σ' |none=>none
def AV.wid(ks:AL7 Nat):AV->AV
 |.Ax l t x=>if t.BA=false/\l.all (λj=>ks.contains j)=true then .Ax ks t x else .Ax l t x
 |.pr a b=>.pr (a.wid ks) (b.wid ks)
 |a=>a
def oR:AL7 (Nat×AL7 Nat)->AL7 Blk->AL8 (AL7 Blk)
 |[],bs=>some bs
 |(k,ks)::r,bs=>match bs[k]? with
  |some (.row e (.sh l) t xs)=>if l.all (λj=>ks.contains j)&&ks.all (λj=>decide (j<bs.length))then oR r (bs.set k (.row e (.sh ks) t xs))else none
  |some (.box a)=>if ks.all (λj=>decide (j<bs.length))then oR r (bs.set k (.box (a.wid ks)))else none
  |_=>none
def yU(bs:AL7 Blk)(m:Nat)(π Cf:AL7 Nat):Bool :=
 π.take m==List.range m&&nodup π&&Cf.all (λj=>π.contains j)&&π.all λk=>match bs[k]? with |some b=>b.Cf.all λj=>π.contains j |none=>false
def St.Av(m:Nat)(Bb:AL7 Nat)(σ:St):AL8 St :=
 let sl:=QO Bb 0 σ.AF
 let π:=kY σ.An σ.An.length (da (List.range m) (sl.flatMap (·.Cf)))
 if yU σ.An m π (sl.flatMap (·.Cf))then
  some {AF:=sl.map (λa=>(a.Nm (idxOf π)).DV π.length),An:=π.map λk=>(((σ.An[k]?).getD .AK).Nm (idxOf π)).DV π.length}
 else none
def turns(en:Gd)(o:Oper):Bool:=match o.op with
 |.alloc _=>true
 |.box _ _=>true
 |.buildSlice _ _ _=>true
 |.store _ _ _=>true
 |.makeSlice _ _ _=>true
 |.makeMap _ _=>true
 |.mapUpdate _ _ _ _=>true
 |.insert _ _ _ _=>true
 |.mapEntry _ _ _=>true
 |.entryStore _ _ _ _=>true
 |.load _ _=>match o.dst with |some d=>en.fi.stl.contains d |none=>false
 |.lookup _ _ _ _=>match o.dst with |some d=>en.fi.stl.contains d |none=>false
 |.slice _ _ _ _ _=>match o.dst with |some d=>en.fi.take.contains d |none=>false
 |.call c=>match c.callee with |.builtin .append=>true |.builtin _=>false |_=>true
 |_=>false
def AgM(all:AL7 Oper)(done:AL7 Nat)(i:Nat):Bool:=(Ts all i).all λx=>done.contains x
def V8(en:Gd)(all:AL7 Oper):Nat->AL7 Nat->AL7 Nat
 |0,done=>done.reverse
 |f+1,done =>
  let rdy:=(List.range all.length).filter λi=>!done.contains i&&AgM all done i
  match rdy.find? (λi=>match all[i]? with |some o=>!turns en o |none=>false)with
  |some i=>V8 en all f (i::done)
  |none=>match rdy with
   |i::_=>V8 en all f (i::done)
   |[]=>done.reverse
def ia(all:AL7 Oper):AL7 Nat->AL7 Nat->Bool
 |[],_=>true
 |i::is,done=>(Ts all i).all (λd=>done.contains d)&&ia all is (i::done)
def AaM(all:AL7 Oper)(L:AL7 Nat):Bool:=nodup L&&(List.range all.length).all (λi=>L.contains i)&&L.all (λi=>decide (i<all.length))&&ZS all (WQ all L []) L&&ia all L []
end
def St.head(h:SH)(m:Nat)(σ:St):AL8 St :=
 match ((mvS m h.mv σ).bind (AdP m h.mvp)).bind (mQ m h.Sj)with
 |none=>none
 |some σ=>match Zs h.Ck σ with
  |none=>none
  |some σ=>match σ.Av m h.Bb with
   |none=>none
   |some σ=>match oR h.wid σ.An with
    |none=>none
    |some bs=>Zs h.post ⟨σ.AF,bs⟩
def AgN(m:Nat)(σ:St):AL8 (AL7 Nat)->AL8 St
 |none=>some σ
 |some l=>σ.head {Bb:=l} m
open Classical in
noncomputable def M4(s t:St):AL8 Unit:=if s=t then some ()else none
def xe(o:Oper):Bool:=match o.op with
 |.move _=>true
 |.assign _=>true
 |.extract _ _=>true
 |.fieldAddr _ _ _=>true
 |.indexAddr _ _ _=>true
 |.build _ _=>true
 |_=>false
def AAh(B4:Array Oper)(listed:Array Bool):AL8 Nat:=(Region.ready .any B4 listed).find? λi=>(match B4[i]? with |some o=>xe o |none=>false)&&Region.free .any B4 listed i
def qo:AL7 (AL8 Unit)->AL8 Unit
 |[]=>some ()
 |[x]=>x
 |x::y::r=>x.bind λ_=>qo (y::r)
noncomputable def xL(en:Gd)(h:SH)(m:Nat)(B4:Array Oper)(σ':St):Nat->Array Bool->St->AL8 Unit
 |0,listed,σ=>if(Region.ready .any B4 listed).isEmpty then match σ.head h m with |some s=>M4 s σ' |none=>none else none
 |k+1,listed,σ=>match AAh B4 listed with
  |some i=>QK en B4.toList [i] σ λσ1=>xL en h m B4 σ' k (listed.setIfInBounds i true) σ1
  |none=>if(Region.ready .any B4 listed).isEmpty then none else
  qo ((Region.ready .any B4 listed).map λi=>QK en B4.toList [i] σ λσ1=>xL en h m B4 σ' k (listed.setIfInBounds i true) σ1)
def uG(QJ:AL7 Blk)(σ:St)(o:Oper):Bool:=xe o||match o.op with
 |.load _ x=>(match σ.B7 x with |.ptr k _ _ _=>(match QJ[k]?,σ.An[k]? with |some (.box _),some (.box _)=>true |_,_=>false)|_=>false)
 |.call c=>(match c.callee,OV σ c.args with |.builtin .len,[.Ax _ (.sl _) _]=>true |.builtin .len,[.zs]=>true |_,_=>false)
 |.binOp op _ x y _=>(match op with |.add=>true |.sub=>true |_=>false)&&(match σ.B7 x,σ.B7 y with |.Ax _ (.int k) _,.Ax _ (.int k') _=>decide (k=k')|_,_=>false)
 |_=>false
def AiV(QJ:AL7 Blk)(σ:St)(B4:Array Oper)(listed:Array Bool):AL8 Nat:=(Region.ready .any B4 listed).find? λi=>(match B4[i]? with |some o=>uG QJ σ o |none=>false)&&Region.free .any B4 listed i
def nbx(QJ:AL7 Blk)(k:Nat):Bool:=match QJ[k]? with |some (.box _)=>false |_=>true
def evQ{R:Type}(en:Gd)(all:AL7 Oper)(QJ:AL7 Blk)(i:Nat)(σ:St)(K:St->AL8 R):AL8 R:=match all[i]? with
 |none=>none
 |some o=>V0 all σ o (λσ=>exec en σ o λe=>if e.Bu.all (nbx QJ)then K (σ.after o.dst e)else none) (λσ=>K (σ.skip o.dst))
noncomputable def tw(en:Gd)(h:SH)(m:Nat)(QJ:AL7 Blk)(B4:Array Oper)(σ':St):Nat->Array Bool->St->AL8 Unit
 |0,listed,σ=>if(Region.ready .any B4 listed).isEmpty then match σ.head h m with |some s=>M4 s σ' |none=>none else none
 |k+1,listed,σ=>match AiV QJ σ B4 listed with
  |some i=>evQ en B4.toList QJ i σ λσ1=>tw en h m QJ B4 σ' k (listed.setIfInBounds i true) σ1
  |none=>if(Region.ready .any B4 listed).isEmpty then none else
  qo ((Region.ready .any B4 listed).map λi=>evQ en B4.toList QJ i σ λσ1=>tw en h m QJ B4 σ' k (listed.setIfInBounds i true) σ1)
noncomputable def AhC(en:Gd)(m:Nat)(h:SH)(B4:Array Oper)(σ:St):AL8 St :=
 if Region.noSelect B4=false then none else QK en B4.toList (List.range B4.size) σ λs=>(s.head h m).bind λσ'=>(bif h.VI then tw en h m σ.An B4 σ' B4.size (Array.replicate B4.size false) σ else xL en h m B4 σ' B4.size (Array.replicate B4.size false) σ).bind λ_=>some σ'
noncomputable def ev(en:Gd)(m:Nat):Code->(R:Type)->St->(Ex->St->AL8 R)->AL8 R
 |.skip,_,σ,K=>K .normal σ
 |.ret,_,σ,K=>K .ret σ
 |.exit n,_,σ,K=>K (.exit n) σ
 |.seq a b,R,σ,K=>match NH en.fi.BR (key b)with
  |none=>ev en m a R σ λe σ=>match e with
   |.normal=>ev en m b R σ K
   |.exit n=>K (.exit n) σ
   |.ret=>K .ret σ
  |some h=>(AgN m σ (NH en.fi.D2 (key b))).bind λσ=>(ev en m a (Ex×St) σ λe σ=>(σ.head h m).bind λσ'=>some (e,σ')).bind λp=>match p.1 with
   |.normal=>ev en m b R p.2 K
   |.exit n=>K (.exit n) p.2
   |.ret=>K .ret p.2
 |.cond c a b,R,σ,K=>match σ.B7 c with |.Ax _ .bool t=>bif t then ev en m a R σ K else ev en m b R σ K |_=>none
 |.block n a,R,σ,K=>ev en m a R σ λe σ=>match e with
  |.normal=>K .normal σ
  |.exit k=>bif k==n then K .normal σ else K (.exit k) σ
  |.ret=>K .ret σ
 |.region _ B4 false,_,σ,K=>QK en B4.toList (List.range B4.size) σ (K .normal)
 |.region id B4 true,_,σ,K=>match NH en.fi.X9 id with
  |some h=>(AgN m σ (NH en.fi.ZA id)).bind λσ=>(AhC en m h B4 σ).bind (K .normal)
  |none=>if AaM B4.toList (V8 en B4.toList B4.toList.length [])then Tv en B4.toList (WQ B4.toList (V8 en B4.toList B4.toList.length []) []) (V8 en B4.toList B4.toList.length []) [] [] σ (K .normal)else none
 |.loop body,R,σ,K=>match NH en.fi.A1 (key body),NH en.fi.Bv (key body)with
  |some h,some ho=>match σ.head h m with
   |none=>none
   |some σ0=>(fix (λs=>ev en m body (St⊕(Ex×St)) s λe s'=>match e with
       |.normal=>(s'.head h m).bind λWE=>some (.inl WE)
       |.exit n=>(s'.head ho m).bind λWE=>some (.inr (.exit n,WE))
       |.ret=>(s'.head ho m).bind λWE=>some (.inr (.ret,WE))) σ0).bind λp=>K p.1 p.2
  |_,_=>none
 |_,_,_,_=>none
def br(Dm:vA)(σ:St):AL7 ResultVar->AL8 (AL7 AV)
 |[]=>some []
 |.tmp t::r=>match σ.AF[t]?,br Dm σ r with |some v,some l=>some (v::l)|_,_=>none
 |.cell a t::r=>match Dm.get t,σ.AF[a]? with
  |some ti,some (.ptr k i p o)=>match atP σ.An k i p o,br Dm σ r with
   |some v,some l=>if v.size=ti.ty.size/\v.isAgg=ti.ty.isAgg then some (v::l)else none
   |_,_=>none
  |_,_=>none
def oc:AL7 AV->AV
 |[a]=>a
 |l=>VT l
def WW:AL7 (Nat×Co)->AL7 AV->AL7 Blk->AL8 (AL7 AV×AL7 Blk)
 |[],l,bs=>some (l,bs)
 |(i,c)::r,l,bs=>match l[i]? with
  |none=>none
  |some v=>match xY bs c v with |some (v',nb)=>WW r (l.set i v') (bs++nb)|none=>none
def fF(m:Nat):AL7 (Nat×Ty)->AL7 AV->AL7 Blk->AL8 (AL7 AV×AL7 Blk)
 |[],l,bs=>some (l,bs)
 |(i,t)::r,l,bs=>match l[i]? with
  |none=>none
  |some v=>match AcB m t v bs with |some (v',Gx)=>fF m r ((l.map AV.Za).set i v') Gx |none=>none
def ck(m:Nat)(bs:AL7 Blk)(v:AV):AL8 (AV×AL7 Blk) :=
 let π:=kY bs bs.length (da (List.range m) v.Cf)
 if yU bs m π v.Cf then some ((v.Nm (idxOf π)).DV π.length,π.map λk=>(((bs[k]?).getD .AK).Nm (idxOf π)).DV π.length)else none
def W2(m:Nat):AL7 Fi->St->AL8 St
 |[],σ=>some σ
 |.co k c::r,σ=>match coB k c σ.An with |some bs=>W2 m r ⟨σ.AF,bs⟩|none=>none
 |.AK j::r,σ=>W2 m r ⟨σ.AF,σ.An.set j .AK⟩
 |.mvs s p::r,σ=>match mvP m s p σ with |some σ'=>W2 m r σ' |none=>none
 |.mv k p::r,σ=>match mvB m k p σ with |some σ'=>W2 m r σ' |none=>none
noncomputable def R4(en:Gd)(fn:Func)(R:Type)(args:AL7 AV)(E:AL7 Blk)(K:AV->AL7 Blk->AL8 R):AL8 R :=
 match fn.body with
 |none=>none
 |some c =>
  if args.length<=fn.ntmps then
   ev en E.length c R ⟨args++List.replicate (fn.ntmps-args.length) (.un 0),E⟩ λe σ=>match e with
    |.exit _=>none
    |_=>match W2 E.length en.fi.UT σ with
     |none=>none
     |some σ=>match br en.Dm σ fn.results.toList with
     |some l=>match fF E.length en.fi.Sj l σ.An with
      |some (l,bs)=>match WW en.fi.dM l bs with
       |some (l',Gx)=>match ck E.length Gx (oc l')with
        |some (v,bs)=>K v bs
        |none=>none
       |none=>none
      |none=>none
     |none=>none
  else none
section
variable {S T X Y:Type}
theorem To.fq{f:S->AL8 (S⊕T)}{s:S}{t u:T}(h:To f s t)(k:To f s u):t=u:=by
 induction h with
 |done h=>cases k with
  |done k=>rw[h]at k;injection k with k;injection k
  |bh k _=>rw[h]at k;injection k with k;cases k
 |bh h _ ih=>cases k with
  |done k=>rw[h]at k;injection k with k;cases k
  |bh k k'=>rw[h]at k;injection k with k;injection k with k;subst k;exact ih k'
theorem Vu{f:S->AL8 (S⊕T)}{s:S}{t:T}:fix f s=some t↔To f s t:=by
 unfold fix;constructor
 ·intro h;split at h
  ·rename_i hx;injection h with h;subst h;exact hx.choose_spec
  ·cases h
 ·intro h;rw[dif_pos ⟨t,h⟩];exact congrArg some (To.fq (Exists.choose_spec ⟨t,h⟩) h)
theorem Acv(f:S->AL8 (S⊕T))(s:S):fix f s=match f s with |none=>none |some (.inl s')=>fix f s' |some (.inr t)=>some t:=by
 apply Option.ext;intro t;rw[Vu];constructor
 ·intro h;cases h with
  |done h=>rw[h]
  |bh h k=>rw[h];exact Vu.2 k
 ·intro h;split at h
  ·cases h
  ·rename_i s' hs;exact .bh hs (Vu.1 h)
  ·rename_i u hs;injection h with h;subst h;exact .done hs
theorem Ki{f:S->AL8 (S⊕T)}{s:S}{t:T}(h:f s=some (.inr t)):fix f s=some t:=by rw[Acv,h]
theorem Ns{f:S->AL8 (S⊕T)}{s s':S}(h:f s=some (.inl s')):fix f s=fix f s':=by rw[Acv,h]
theorem AgP(σ:X->S)(τ:Y->T)(f:S->AL8 (S⊕T))(g:X->AL8 (X⊕Y))(h:∀x,f (σ x)=(g x).map (Sum.map σ τ))(x:X) :
    fix f (σ x)=(fix g x).map τ:=by
 apply Option.ext;intro t;rw[Vu];constructor
 ·intro ht;generalize hs:σ x=s at ht;induction ht generalizing x with
  |@done s t hd =>
   subst hs;rw[h]at hd;cases hg:g x with
   |none=>rw[hg]at hd;cases hd
   |some r=>rw[hg]at hd;cases r with
    |inl x'=>cases hd
    |inr y=>injection hd with hd;injection hd with hd;subst hd;rw[Ki hg];rfl
  |@bh s s' t hd _ ih =>
   subst hs;rw[h]at hd;cases hg:g x with
   |none=>rw[hg]at hd;cases hd
   |some r=>rw[hg]at hd;cases r with
    |inl x'=>injection hd with hd;injection hd with hd;rw[Ns hg];exact ih x' hd
    |inr y=>injection hd with hd;cases hd
 ·intro ht;cases hf:fix g x with
  |none=>rw[hf]at ht;cases ht
  |some y =>
   rw[hf]at ht;injection ht with ht;subst ht;have qQ:=Vu.1 hf;clear hf;induction qQ with
   |done hd=>exact .done (by rw[h,hd];rfl)
   |bh hd _ ih=>exact .bh (by rw[h,hd];rfl) ih
end
theorem AdG{A B:Type}(f:A->B)(c:Bool)(x y:AL8 A):(bif c then x else y).map f=bif c then x.map f else y.map f:=by cases c<;>rfl
theorem Aht{A B:Type}(f:A->B)(c:Prop)[Decidable c](x y:AL8 A):(if c then x else y).map f=if c then x.map f else y.map f:=by split<;>rfl
theorem AdF{A B C:Type}(f:B->C)(x:AL8 A)(k:A->AL8 B):(x.bind k).map f=x.bind λy=>(k y).map f:=by cases x<;>rfl
theorem eF{A B C:Type}(f:A->B)(x:AL8 A)(k:B->AL8 C):(x.map f).bind k=x.bind λy=>k (f y):=by cases x<;>rfl
def sub:Code->AL7 Nat->Code
 |c,[]=>c
 |.seq a b,n::p=>match n with |0=>sub a p |_=>sub b p
 |.cond _ a b,n::p=>match n with |0=>sub a p |_=>sub b p
 |.block _ a,_::p=>sub a p
 |.loop a,_::p=>sub a p
 |_,_=>.skip
noncomputable def yD(en:Gd)(m:Nat)(R:Type):Code->AL7 Nat->(Ex->St->AL8 R)->Ex->St->AL8 R
 |_,[],K=>K
 |.seq a b,n::p,K=>match n with
  |0=>yD en m R a p λe σ=>match e with
   |.normal=>ev en m b R σ K
   |.exit n=>K (.exit n) σ
   |.ret=>K .ret σ
  |_=>yD en m R b p K
 |.cond _ a b,n::p,K=>match n with |0=>yD en m R a p K |_=>yD en m R b p K
 |.block n a,_::p,K=>yD en m R a p λe σ=>match e with
  |.normal=>K .normal σ
  |.exit k=>bif k==n then K .normal σ else K (.exit k) σ
  |.ret=>K .ret σ
 |_,_,_=>λ_ _=>none
noncomputable def AAm(m:Nat)(h ho:SH)(e:Ex)(s':St):AL8 (St⊕(Ex×St)):=match e with
    |.normal=>(s'.head h m).bind λWE=>some (.inl WE)
    |.exit n=>(s'.head ho m).bind λWE=>some (.inr (.exit n,WE))
    |.ret=>(s'.head ho m).bind λWE=>some (.inr (.ret,WE))
noncomputable def Az9(m:Nat)(h:SH)(e:Ex)(σ:St):AL8 (Ex×St):=(σ.head h m).bind λσ'=>some (e,σ')
noncomputable def lg(en:Gd)(m:Nat)(h ho:SH)(body:Code)(s:St):AL8 (St⊕(Ex×St)) :=
 ev en m body (St⊕(Ex×St)) s λe s'=>match e with
  |.normal=>(s'.head h m).bind λWE=>some (.inl WE)
  |.exit n=>(s'.head ho m).bind λWE=>some (.inr (.exit n,WE))
  |.ret=>(s'.head ho m).bind λWE=>some (.inr (.ret,WE))
noncomputable def AAa(en:Gd)(m:Nat)(h:SH)(a:Code)(s:St):AL8 (Ex×St):=ev en m a (Ex×St) s λe σ=>(σ.head h m).bind λσ'=>some (e,σ')
noncomputable def AY(en:Gd)(fn:Func)(m:Nat)(R:Type)(K:AV->AL7 Blk->AL8 R)(e:Ex)(σ:St):AL8 R :=
 match e with
 |.exit _=>none
 |_=>match W2 m en.fi.UT σ with
  |none=>none
  |some σ=>match br en.Dm σ fn.results.toList with
  |some l=>match fF m en.fi.Sj l σ.An with
   |some (l,bs)=>match WW en.fi.dM l bs with
    |some (l',Gx)=>match ck m Gx (oc l')with
     |some (v,bs)=>K v bs
     |none=>none
    |none=>none
   |none=>none
  |none=>none
def mkS:Nat->Nat->AL7 (Nat×AV)->AL7 AV
 |0,_,_=>[]
 |n+1,i,[]=>.un 0::mkS n (i+1) []
 |n+1,i,(j,v)::r=>if i==j then v::mkS n (i+1) r else .un 0::mkS n (i+1) ((j,v)::r)
inductive Tq where
 |no |Ik |BB (k:Nat) (p:List Nat)
structure BI where
 a:Option Addr
 len:Nat
 cap:Nat
 jZ:Nat
structure G where
 own:Nat->Tq
 AQ:Nat->BI
def Ct{α:Type}(R:α->AL7 Value->Prop):AL7 α->AL7 Value->Prop
 |[],cs=>cs=[]
 |x::xs,cs=>∃c d,cs=c++d/\R x c/\Ct R xs d
def Bd{α:Type}(R:Nat->α->AL7 Value->Prop):Nat->AL7 α->AL7 Value->Prop
 |_,[],cs=>cs=[]
 |i,x::xs,cs=>∃c d,cs=c++d/\R i x c/\Bd R (i+1) xs d
def Ha(w:World)(A:Nat->Prop):(t:Ty)->t.V->AL7 Value->Prop
 |.int k,x,cs=>cs=[.int k x]
 |.bool,b,cs=>cs=[.bool b]
 |.str,s,cs=>cs=[.string s]
 |.unit,_,cs=>cs=[]
 |.Au a b,x,cs=>∃c d,cs=c++d/\Ha w A a x.1 c/\Ha w A b x.2 d
 |.sl t,xs,cs=>∃ad cap ds,cs=[.slice ad xs.length cap]/\xs.length<=cap/\Ct (Ha w A t) xs ds /\
     (xs=[]\/∃b off,ad=some ⟨b,off,none⟩/\A b/\∀j u,ds[j]?=some u->w.cell? ⟨b,off+j,none⟩=some u)
 |.QG _,_,_=>False
def Jl(w:World)(own:Nat->Tq)(k:Nat):(t:Ty)->AL7 Nat->t.V->AL7 Value->Prop
 |.int k',_,x,cs=>cs=[.int k' x]
 |.bool,_,b,cs=>cs=[.bool b]
 |.str,_,s,cs=>cs=[.string s]
 |.unit,_,_,cs=>cs=[]
 |.Au a b,p,x,cs=>∃c d,cs=c++d/\Jl w own k a (0::p) x.1 c/\Jl w own k b (1::p) x.2 d
 |.sl t,p,xs,cs=>∃ad cap,cs=[.slice ad xs.length cap]/\((xs=[]/\cap=0)\/∃b e Bp ds,ad=some ⟨b,0,none⟩/\own b=.BB k p /\
     w.heap[b]?=some (.cells Bp e (0,0))/\xs.length<=cap/\cap<=maxLen/\Bp.size=cap*t.size/\Bp.toList.take (xs.length*t.size)=ds/\Bd (λi=>Jl w own k t (i::p)) 0 xs ds)
 |.QG _,_,_,_=>False
def Al(own:Nat->Tq)(ks:AL7 Nat)(b:Nat):Prop:=own b=.Ik\/∃k∈ks,∃p,own b=.BB k p
def AV.Nc:AV->Bool
 |.un _=>true
 |_=>false
def BK(agg:Bool)(cs:AL7 Value)(v:Value):Prop:=bif agg then v=.agg cs.toArray else cs=[v]
def Cs(w:World)(g:G)(n:Nat):Bool->AV->AL7 Value->Prop
 |false,.Ax ks t x,cs=>(∀k∈ks,k<n)/\Ha w (Al g.own ks) t x cs
 |false,.zs,cs=>∃ad,cs=[.slice ad 0 0]
 |false,.Am k,cs=>k<n/\cs=[.slice (g.AQ k).a (g.AQ k).len (g.AQ k).cap]
 |false,.ptr k i _ o,cs=>k<n/\0<=i/\i.toNat<(g.AQ k).len/\∃b,(g.AQ k).a=some ⟨b,0,none⟩/\cs=[.pointer (some ⟨b,i.toNat*(g.AQ k).jZ+o,none⟩)]
 |false,.EJ ks t x,cs=>(∀k∈ks,k<n)/\∃b off ds,cs=[.pointer (some ⟨b,off,none⟩)]/\Al g.own ks b/\Ha w (Al g.own ks) t x ds/\∀j u,ds[j]?=some u->w.cell? ⟨b,off+j,none⟩=some u
 |false,.LO,cs=>cs=[.pointer none]
 |false,.Tf k i _ o _,cs=>k<n/\0<=i/\i.toNat<(g.AQ k).len/\∃b v,(g.AQ k).a=some ⟨b,0,none⟩/\g.own b=.BB k []/\cs=[v]/\v.oneCell'=true/\w.cell? ⟨b,i.toNat*(g.AQ k).jZ+o,none⟩=some v
 |false,.U6 k i _ o j u,cs=>k<n/\0<=i/\i.toNat<(g.AQ k).len/\∃b b' l c,(g.AQ k).a=some ⟨b,0,none⟩/\g.own b=.BB k []/\cs=[.pointer (some ⟨b',j.toNat*u.size,none⟩)]/\(0<=j/\j.toNat<l)/\w.cell? ⟨b,i.toNat*(g.AQ k).jZ+o,none⟩=some (.slice (some ⟨b',0,none⟩) l c)
 |false,.mp k,cs=>k<n/\∃b,(g.AQ k).a=some ⟨b,0,none⟩/\cs=[.map (some b)]
 |false,.pr a b,cs=>∃c d,cs=c++d/\Cs w g n false a c/\Cs w g n false b d
 |false,.fn f c,cs=>∃vs,cs=[.func (.func f) #[] vs.toArray]/\Cs w g n true c vs
 |false,.un k,cs=>cs.length=k/\∀v∈cs,v.oneCell'=true
 |true,.cons a b,vs=>∃v r,vs=v::r/\(a.Nc=true\/∃cs,Cs w g n false a cs/\BK a.isAgg cs v)/\Cs w g n true b r
 |true,.nil,vs=>vs=[]
 |_,_,_=>False
def BS(w:World)(g:G)(n:Nat):AV->Value->Prop
 |.cons a b,v=>∃vs,v=.tuple vs.toArray/\Cs w g n true (.cons a b) vs
 |.nil,v=>v=.tuple #[]
 |a,v=>a.Nc=true\/∃cs,Cs w g n false a cs/\BK a.isAgg cs v
def S6(w:World)(own:Nat->Tq)(k:Nat):RM->(t:Ty)->Nat->t.V->AL7 Value->Prop
 |.Ai,t,i,x,cs=>Jl w own k t [i] x cs
 |.sh ks,t,_,x,cs=>Ha w (Al own ks) t x cs
def pj(w:World)(own:Nat->Tq)(k:Nat):RM->(t:Ty)->AL7 t.V->AL7 Value->Prop
 |.Ai,t,xs,ds=>Bd (λi=>Jl w own k t [i]) 0 xs ds
 |.sh ks,t,xs,ds=>Ct (Ha w (Al own ks) t) xs ds
def Um(w:World)(b e:Nat)(Bp:Array Value):Prop:=∃el,(e=0\/el=e)/\w.heap[b]?=some (.cells Bp el (0,0))
def EO:(t:Ty)->t.V->Value
 |.int k,x=>.int k x
 |.str,s=>.string s
 |.Au (.int q) (.Au (.int q') .unit),x=>.agg #[.int q x.1,.int q' x.2.1]
 |_,_=>.nilIface
def Vh(w:World)(own:Nat->Tq)(k:Nat)(md:RM)(kt vt:Ty)(st:AL8 kt.V):Nat->AL7 (kt.V×vt.V)->AL7 MapEntry->Prop
 |_,[],ms=>ms=[]
 |i,x::xs,ms=>∃m r,ms=m::r/\(m.key=EO kt x.1/\m.born=i)/\(st=some x.1\/∃cs,S6 w own k md vt i x.2 cs/\BK vt.isAgg cs m.val)/\Vh w own k md kt vt st (i+1) xs r
def LZ(w:World)(g:G)(n k:Nat):Blk->Prop
 |.box a=>(g.AQ k).len=1/\∃b cs e,(g.AQ k).a=some ⟨b,0,none⟩/\g.own b=.BB k []/\w.heap[b]?=some (.cells cs e (0,0))/\Cs w g n false a cs.toList
 |.row e m t xs=>(∀j∈m.Cf,j<n)/\(g.AQ k).len=xs.length/\(g.AQ k).jZ=t.size/\0<t.size/\((xs=[]/\(g.AQ k).cap=0)\/∃b Bp ds,(g.AQ k).a=some ⟨b,0,none⟩/\g.own b=.BB k [] /\
     Um w b e Bp/\xs.length<=(g.AQ k).cap/\(g.AQ k).cap<=maxLen/\Bp.size=(g.AQ k).cap*t.size/\Bp.toList.take (xs.length*t.size)=ds/\pj w g.own k m t xs ds)
 |.map md kt vt es st=>(∀j∈md.Cf,j<n)/\∃b Gw Dk,(g.AQ k).a=some ⟨b,0,none⟩/\g.own b=.BB k []/\w.heap[b]?=some (.map Gw Dk)/\((es.map (·.1)).Nodup/\Dk=Gw.size)/\Vh w g.own k md kt vt st 0 es Gw.toList
 |.QE e t xs i p=>(g.AQ k).len=xs.length/\(g.AQ k).jZ=t.size/\0<t.size/\0<=i/\i.toNat<xs.length/\∃u o x0 b Bp ds,K0 t p=some o/\tyP t p=some (.sl u)/\R5 (.sl u) [] p t (xs.getD i.toNat t.zero)=some x0 /\
     (g.AQ k).a=some ⟨b,0,none⟩/\g.own b=.BB k []/\Um w b e Bp/\xs.length<=(g.AQ k).cap/\(g.AQ k).cap<=maxLen/\Bp.size=(g.AQ k).cap*t.size /\
     (Bp.setIfInBounds (i.toNat*t.size+o) (.slice none 0 0)).toList.take (xs.length*t.size)=ds/\Bd (λj=>Jl w g.own k t [j]) 0 (xs.set i.toNat x0) ds
 |.tail e t xs=>t.BA=true/\(g.AQ k).len=xs.length/\(g.AQ k).jZ=t.size/\0<t.size/\((xs=[]/\(g.AQ k).cap=0)\/∃b o Bp ds,(g.AQ k).a=some ⟨b,o,none⟩/\g.own b=.BB k [] /\
     Um w b e Bp/\xs.length<=(g.AQ k).cap/\(g.AQ k).cap<=maxLen/\Bp.size=o+(g.AQ k).cap*t.size/\(Bp.toList.drop o).take (xs.length*t.size)=ds/\pj w g.own k .Ai t xs ds)
 |.AK=>True
structure Ba (w:World) (g:G) (bs:List Blk):Prop where
 BP:∀b,w.heap.size<=b->g.own b=.no
 Ls:∀k x,bs[k]?=some x->LZ w g bs.length k x
structure Step (Bu:List Nat) (n:Nat) (w:World) (g:G) (w':World) (g':G):Prop where
 os:w'.os=w.os
 tape:w'.tape=w.tape
 output:w'.output=w.output
 size:w.heap.size<=w'.heap.size
 no:∀b,b<w.heap.size->g.own b=.no->g'.own b=.no/\w'.heap[b]?=w.heap[b]?
 Ik:∀b,g.own b=.Ik->g'.own b=.Ik/\w'.heap[b]?=w.heap[b]?
 BB:∀b k p,g.own b=.BB k p->k<n->k∉Bu->g'.own b=.BB k p/\w'.heap[b]?=w.heap[b]?
 AQ:∀k,k<n->g'.AQ k=g.AQ k
section
variable {α:Type} {R S:α->AL7 Value->Prop} {I J:Nat->α->AL7 Value->Prop}
theorem Ct.mono(h:∀x c,R x c->S x c):∀{xs cs},Ct R xs cs->Ct S xs cs
 |[],_,hc=>hc
 |_::_,_,⟨c,d,e,r,l⟩=>⟨c,d,e,h _ _ r,l.mono h⟩
theorem Bd.mono(h:∀i x c,I i x c->J i x c):∀{i xs cs},Bd I i xs cs->Bd J i xs cs
 |_,[],_,hc=>hc
 |_,_::_,_,⟨c,d,e,r,l⟩=>⟨c,d,e,h _ _ _ r,l.mono h⟩
theorem Bd.toR(h:∀i x c,I i x c->S x c):∀{i xs cs},Bd I i xs cs->Ct S xs cs
 |_,[],_,hc=>hc
 |_,_::_,_,⟨c,d,e,r,l⟩=>⟨c,d,e,h _ _ _ r,l.toR h⟩
theorem Ct.toI(h:∀i x c,R x c->J i x c):∀{i xs cs},Ct R xs cs->Bd J i xs cs
 |_,[],_,hc=>hc
 |_,_::_,_,⟨c,d,e,r,l⟩=>⟨c,d,e,h _ _ _ r,Ct.toI h l⟩
theorem Ct.append:∀{xs ys cs ds},Ct R xs cs->Ct R ys ds->Ct R (xs++ys) (cs++ds)
 |[],_,_,_,h,k=>by cases h;exact k
 |_::_,_,_,_,⟨c,d,e,r,l⟩,k=>⟨c,d++_,by rw[e,AI6],r,l.append k⟩
theorem Bd.append:∀{i xs ys cs ds},Bd I i xs cs->Bd I (i+xs.length) ys ds->Bd I i (xs++ys) (cs++ds)
 |_,[],_,_,_,h,k=>by cases h;exact k
 |i,_::xs,_,_,ds,⟨c,d,e,r,l⟩,k=>by
  subst e;exact⟨c,d++ds,AI6 ..,r,l.append (by rw[AJL]at k;rw[show i+1+xs.length=i+(xs.length+1) by omega];exact k)⟩
theorem Ct.len{s:Nat}(h:∀x c,R x c->c.length=s):∀{xs cs},Ct R xs cs->cs.length=xs.length*s
 |[],_,hc=>by cases hc;simp
 |_::xs,_,⟨c,d,e,r,l⟩=>by
  have h1:=h _ _ r;have h2:=l.len h;rw[e,AI2,h1,h2,AJL,AJ9,ALb,Nat.add_comm]
theorem Bd.len{s:Nat}(h:∀i x c,I i x c->c.length=s){i xs cs}(l:Bd I i xs cs):cs.length=xs.length*s :=
 Ct.len (R:=λx c=>∃i,I i x c) (λx c ⟨i,r⟩=>h i x c r) (l.toR λi _ _ r=>⟨i,r⟩)
theorem Bd.AQ{s:Nat}(hs:∀i x c,I i x c->c.length=s):∀{j i xs cs},Bd I j xs cs->(hi:i<xs.length) ->
    ∃c0 c d,cs=c0++c++d/\c0.length=i*s/\I (j+i) xs[i] c/\Bd I j (xs.take i) c0/\Bd I (j+i+1) (xs.drop (i+1)) d
 |j,0,x::xs,_,⟨c,d,e,r,l⟩,_=>⟨[],c,d,e,by simp,r,rfl,l⟩
 |j,i+1,x::xs,_,⟨c,d,e,r,l⟩,hi=>by
  obtain⟨c0,c1,d1,e1,hl,hr,ht,hd⟩:=l.AQ hs (i:=i) (by simpa using hi);refine⟨c++c0,c1,d1,by rw[e,e1,AI6,AI6,AI6],?_,?_,⟨c,c0,rfl,r,?_⟩,?_⟩
  ·rw[AI2,hs _ _ _ r,hl,AJ9,ALb,Nat.add_comm]
  ·rw[show j+(i+1)=j+1+i by omega];exact hr
  ·exact ht
  ·rw[show j+(i+1)+1=j+1+i+1 by omega];exact hd
theorem Bd.join:∀{j i:Nat} {xs:AL7 α} {c0 c d:AL7 Value} {x:α},i<xs.length->Bd I j (xs.take i) c0->I (j+i) x c->Bd I (j+i+1) (xs.drop (i+1)) d->Bd I j (xs.set i x) (c0++c++d)
 |j,0,_::xs,c0,c,d,x,_,ht,hr,hd=>by cases ht;exact⟨c,d,rfl,hr,hd⟩
 |j,i+1,y::xs,_,c,d,x,hi,⟨c1,c2,e,r,l⟩,hr,hd=>by
  subst e;refine⟨c1,c2++c++d,by simp only[AI6],r,?_⟩;exact Bd.join (by simpa using hi) l (by rw[show j+1+i=j+(i+1) by omega];exact hr) (by rw[show j+1+i+1=j+(i+1)+1 by omega];exact hd)
theorem HS:∀{j xs cs},Ct R xs cs↔Bd (λ_=>R) j xs cs
 |_,[],_=>Iff.rfl
 |_,_::_,_=>⟨λ⟨c,d,e,r,l⟩=>⟨c,d,e,r,HS.1 l⟩,λ⟨c,d,e,r,l⟩=>⟨c,d,e,r,HS.2 l⟩⟩
theorem Ct.AQ{s:Nat}(hs:∀x c,R x c->c.length=s){i xs cs}(l:Ct R xs cs)(hi:i<xs.length) :
    ∃c0 c d,cs=c0++c++d/\c0.length=i*s/\R xs[i] c/\Ct R (xs.take i) c0/\Ct R (xs.drop (i+1)) d:=by
 obtain⟨c0,c,d,e,hl,hr,ht,hd⟩:=Bd.AQ (I:=λ_=>R) (λ_ x c=>hs x c) (HS (j:=0).1 l) hi;exact⟨c0,c,d,e,hl,hr,HS.2 ht,HS.2 hd⟩
theorem Ct.join{i:Nat}{xs:AL7 α}{c0 c d:AL7 Value}{x:α}(hi:i<xs.length)(ht:Ct R (xs.take i) c0)(hr:R x c)(hd:Ct R (xs.drop (i+1)) d):Ct R (xs.set i x) (c0++c++d) :=
 HS (j:=0).2 (Bd.join hi (HS.1 ht) hr (HS.1 hd))
theorem Bd.takeN{s:Nat}(hs:∀i x c,I i x c->c.length=s):∀{j xs cs} (n:Nat),Bd I j xs cs->Bd I j (xs.take n) (cs.take (n*s))
 |_,[],_,n,h=>by cases h;simp[Bd]
 |_,_::_,_,0,_=>by simp[Bd]
 |j,x::xs,_,n+1,⟨c,d,e,r,l⟩=>by
  subst e;have hc:=hs _ _ _ r;refine⟨c,d.take (n*s),?_,r,l.takeN hs n⟩;rw[List.take_append,hc,AI8 (by rw[hc,AJ9];omega),show(n+1)*s-s=n*s by rw[AJ9,ALb];omega]
theorem Ct.takeN{s:Nat}(hs:∀x c,R x c->c.length=s){xs cs}(n:Nat)(l:Ct R xs cs):Ct R (xs.take n) (cs.take (n*s)) :=
 HS (j:=0).2 (Bd.takeN (λ_ x c=>hs x c) n (HS.1 l))
theorem Ct.Aci{s:Nat}(hs:∀x c,R x c->c.length=s):∀{xs cs} (n:Nat),Ct R xs cs->Ct R (xs.drop n) (cs.drop (n*s))
 |[],_,n,h=>by cases h;simp[Ct]
 |_::_,_,0,h=>by simpa using h
 |x::xs,_,n+1,⟨c,d,e,r,l⟩=>by
  subst e;have hc:=hs _ _ r;have h1:List.drop ((n+1)*s) c=[]:=List.drop_of_length_le (by rw[hc,AJ9];omega);rw[List.drop_append,hc,h1,AJ7,show(n+1)*s-s=n*s by rw[AJ9,ALb];omega,List.drop_succ_cons];exact l.Aci hs n
end
theorem Vo{w w':World}{b o:Nat}(h:w'.heap[b]?=w.heap[b]?):w'.cell? ⟨b,o,none⟩=w.cell? ⟨b,o,none⟩:=by simp[World.cell?,h]
theorem PE{w:World}{b o:Nat}{cs:Array Value}{e:TypeId}{fr:Nat×Nat}(h:w.heap[b]?=some (.cells cs e fr)):w.cell? ⟨b,o,none⟩=cs[o]?:=by simp[World.cell?,h]
theorem Ha.len{w:World}{A:Nat->Prop}:∀{t:Ty} {x:t.V} {cs:AL7 Value},Ha w A t x cs->cs.length=t.size
 |.int _,_,_,h=>by cases h;rfl
 |.bool,_,_,h=>by cases h;rfl
 |.str,_,_,h=>by cases h;rfl
 |.unit,_,_,h=>by cases h;rfl
 |.Au _ _,_,_,⟨_,_,e,h1,h2⟩=>by subst e;rw[AI2,h1.len,h2.len];rfl
 |.sl _,_,_,⟨_,_,_,e,_⟩=>by subst e;rfl
 |.QG _,_,_,h=>h.elim
theorem Jl.len{w:World}{own:Nat->Tq}{k:Nat}:∀{t:Ty} {p:AL7 Nat} {x:t.V} {cs:AL7 Value},Jl w own k t p x cs->cs.length=t.size
 |.int _,_,_,_,h=>by cases h;rfl
 |.bool,_,_,_,h=>by cases h;rfl
 |.str,_,_,_,h=>by cases h;rfl
 |.unit,_,_,_,h=>by cases h;rfl
 |.Au _ _,_,_,_,⟨_,_,e,h1,h2⟩=>by subst e;rw[AI2,h1.len,h2.len];rfl
 |.sl _,_,_,_,⟨_,_,e,_⟩=>by subst e;rfl
 |.QG _,_,_,_,h=>h.elim
theorem Ha.one{w:World}{A:Nat->Prop}:∀{t:Ty} {x:t.V} {cs:AL7 Value},Ha w A t x cs->∀v∈cs,v.oneCell'=true
 |.int _,_,_,h,v,hv=>by cases h;simp at hv;subst hv;rfl
 |.bool,_,_,h,v,hv=>by cases h;simp at hv;subst hv;rfl
 |.str,_,_,h,v,hv=>by cases h;simp at hv;subst hv;rfl
 |.unit,_,_,h,v,hv=>by cases h;simp at hv
 |.Au _ _,_,_,⟨_,_,e,h1,h2⟩,v,hv=>by
  subst e;rcases List.mem_append.1 hv with hv |hv
  ·exact h1.one v hv
  ·exact h2.one v hv
 |.sl _,_,_,⟨_,_,_,e,_⟩,v,hv=>by subst e;simp at hv;subst hv;rfl
 |.QG _,_,_,h,_,_=>h.elim
theorem Jl.one{w:World}{own:Nat->Tq}{k:Nat}:∀{t:Ty} {p:AL7 Nat} {x:t.V} {cs:AL7 Value},Jl w own k t p x cs->∀v∈cs,v.oneCell'=true
 |.int _,_,_,_,h,v,hv=>by cases h;simp at hv;subst hv;rfl
 |.bool,_,_,_,h,v,hv=>by cases h;simp at hv;subst hv;rfl
 |.str,_,_,_,h,v,hv=>by cases h;simp at hv;subst hv;rfl
 |.unit,_,_,_,h,v,hv=>by cases h;simp at hv
 |.Au _ _,_,_,_,⟨_,_,e,h1,h2⟩,v,hv=>by
  subst e;rcases List.mem_append.1 hv with hv |hv
  ·exact h1.one v hv
  ·exact h2.one v hv
 |.sl _,_,_,_,⟨_,_,e,_⟩,v,hv=>by subst e;simp at hv;subst hv;rfl
 |.QG _,_,_,_,h,_,_=>h.elim
theorem Ct.all{α:Type}{R:α->AL7 Value->Prop}{P:Value->Prop}(h:∀x c,R x c->∀v∈c,P v):∀{xs cs},Ct R xs cs->∀v∈cs,P v
 |[],_,hc,v,hv=>by cases hc;simp at hv
 |_::_,_,⟨c,d,e,r,l⟩,v,hv=>by
  subst e;rcases List.mem_append.1 hv with hv |hv
  ·exact h _ _ r v hv
  ·exact l.all h v hv
theorem Bd.all{α:Type}{I:Nat->α->AL7 Value->Prop}{P:Value->Prop}(h:∀i x c,I i x c->∀v∈c,P v){i xs cs}(l:Bd I i xs cs):∀v∈cs,P v :=
 Ct.all (R:=λx c=>∃i,I i x c) (λx c ⟨i,r⟩=>h i x c r) (l.toR λi _ _ r=>⟨i,r⟩)
theorem Ha.mono{w w':World}{A A':Nat->Prop}(h:∀b,A b->A' b/\w'.heap[b]?=w.heap[b]?):∀{t:Ty} {x:t.V} {cs:AL7 Value},Ha w A t x cs->Ha w' A' t x cs
 |.int _,_,_,r=>r
 |.bool,_,_,r=>r
 |.str,_,_,r=>r
 |.unit,_,_,r=>r
 |.Au _ _,_,_,⟨c,d,e,h1,h2⟩=>⟨c,d,e,h1.mono h,h2.mono h⟩
 |.sl _,_,_,⟨ad,cap,ds,e,hl,l,hm⟩=>⟨ad,cap,ds,e,hl,l.mono λ_ _ r=>r.mono h,hm.imp id λ⟨b,off,ha,hA,hc⟩ =>
     ⟨b,off,ha,(h b hA).1,λj u hu=>(Vo (h b hA).2).trans (hc j u hu)⟩⟩
 |.QG _,_,_,r=>r
theorem Jl.mono{w w':World}{own Nj:Nat->Tq}{k k':Nat}:∀{t:Ty} {p p':AL7 Nat} {x:t.V} {cs:AL7 Value},
    (∀b q,own b=.BB k (q++p)->Nj b=.BB k' (q++p')/\w'.heap[b]?=w.heap[b]?)->Jl w own k t p x cs->Jl w' Nj k' t p' x cs
 |.int _,_,_,_,_,_,r=>r
 |.bool,_,_,_,_,_,r=>r
 |.str,_,_,_,_,_,r=>r
 |.unit,_,_,_,_,_,r=>r
 |.Au _ _,p,p',_,_,h,⟨c,d,e,h1,h2⟩=>⟨c,d,e,
     h1.mono (λb q hb=>by have:=h b (q++[0]) (by simpa using hb);simpa using this),
     h2.mono (λb q hb=>by have:=h b (q++[1]) (by simpa using hb);simpa using this)⟩
 |.sl _,p,p',_,_,h,⟨ad,cap,e,hm⟩=>⟨ad,cap,e,hm.imp id λ⟨b,el,Bp,ds,ha,hb,hh,h1,h2,h3,h4,l⟩ =>
     ⟨b,el,Bp,ds,ha,(h b [] hb).1,(h b [] hb).2.trans hh,h1,h2,h3,h4,l.mono λi x c r=>r.mono (λb q hb=>by have:=h b (q++[i]) (by simpa using hb);simpa using this)⟩⟩
 |.QG _,_,_,_,_,_,r=>r
theorem Vh.on{w w':World}{own Nj:Nat->Tq}{k k':Nat}{md md':RM}{kt vt:Ty}{st:AL8 kt.V}(h:∀(i:Nat) (x:vt.V) (cs:AL7 Value),S6 w own k md vt i x cs->S6 w' Nj k' md' vt i x cs):∀{i:Nat} {es:AL7 (kt.V×vt.V)} {ms:AL7 MapEntry},Vh w own k md kt vt st i es ms->Vh w' Nj k' md' kt vt st i es ms
 |_,[],_,r=>r
 |i,x::xs,_,⟨m,r,e,hk,hv,hr⟩=>⟨m,r,e,hk,hv.imp id λ⟨cs,ho,ha⟩=>⟨cs,h i x.2 cs ho,ha⟩,hr.on h⟩
theorem Jl.rd{w:World}{own:Nat->Tq}{k:Nat}{A:Nat->Prop}(h:∀b q,own b=.BB k q->A b):∀{t:Ty} {p:AL7 Nat} {x:t.V} {cs:AL7 Value},Jl w own k t p x cs->Ha w A t x cs
 |.int _,_,_,_,r=>r
 |.bool,_,_,_,r=>r
 |.str,_,_,_,r=>r
 |.unit,_,_,_,r=>r
 |.Au _ _,_,_,_,⟨c,d,e,h1,h2⟩=>⟨c,d,e,h1.rd h,h2.rd h⟩
 |.sl t,_,xs,_,⟨ad,cap,e,hm⟩=>by
  rcases hm with ⟨hx,hc⟩|⟨b,el,Bp,ds,ha,hb,hh,h1,h2,h3,h4,l⟩
  ·subst hx;exact⟨ad,cap,[],e,AJU _,rfl,.inl rfl⟩
  ·refine⟨ad,cap,ds,e,h1,l.toR λi x c r=>r.rd h,.inr ⟨b,0,ha,h b _ hb,λj u hu=>?_⟩⟩;rw[PE hh,AJu,<-AJc];subst h4;rw[AJM]at hu;split at hu
   ·exact hu
   ·cases hu
 |.QG _,_,_,_,r=>r
def Kj:(t:Ty)->t.V->AL7 Value
 |.int k,x=>[.int k x]
 |.bool,b=>[.bool b]
 |.str,s=>[.string s]
 |.unit,_=>[]
 |.Au a b,x=>Kj a x.1++Kj b x.2
 |.sl _,_=>[]
 |.QG _,_=>[]
theorem Ha.BA{w:World}{A:Nat->Prop}:∀{t:Ty} {x:t.V} {cs:AL7 Value},t.BA=true->(Ha w A t x cs↔cs=Kj t x)
 |.int _,_,_,_=>Iff.rfl
 |.bool,_,_,_=>Iff.rfl
 |.str,_,_,_=>Iff.rfl
 |.unit,_,_,_=>Iff.rfl
 |.Au a b,x,cs,h=>by
  simp only[Ty.BA,AI5]at h;constructor
  ·rintro⟨c,d,e,h1,h2⟩
   rw[e,(Ha.BA h.1).1 h1,(Ha.BA h.2).1 h2];rfl
  ·intro e;exact⟨_,_,e,(Ha.BA h.1).2 rfl,(Ha.BA h.2).2 rfl⟩
 |.sl _,_,_,h=>by simp[Ty.BA]at h
 |.QG _,_,_,h=>by simp[Ty.BA]at h
theorem Jl.BA{w:World}{own:Nat->Tq}{k:Nat}:∀{t:Ty} {p:AL7 Nat} {x:t.V} {cs:AL7 Value},t.BA=true->(Jl w own k t p x cs↔cs=Kj t x)
 |.int _,_,_,_,_=>Iff.rfl
 |.bool,_,_,_,_=>Iff.rfl
 |.str,_,_,_,_=>Iff.rfl
 |.unit,_,_,_,_=>Iff.rfl
 |.Au a b,p,x,cs,h=>by
  simp only[Ty.BA,AI5]at h;constructor
  ·rintro⟨c,d,e,h1,h2⟩
   rw[e,(Jl.BA h.1).1 h1,(Jl.BA h.2).1 h2];rfl
  ·intro e;exact⟨_,_,e,(Jl.BA h.1).2 rfl,(Jl.BA h.2).2 rfl⟩
 |.sl _,_,_,_,h=>by simp[Ty.BA]at h
 |.QG _,_,_,_,h=>by simp[Ty.BA]at h
def Qz:Ty->AL7 Value
 |.int k=>[.int k 0]
 |.bool=>[.bool false]
 |.str=>[.string ⟨#[]⟩]
 |.unit=>[]
 |.Au a b=>Qz a++Qz b
 |.sl _=>[.slice none 0 0]
 |.QG 0=>[.pointer none]
 |.QG 1=>[.map none]
 |.QG _=>[.nilFunc]
theorem Rl:∀t:Ty,(Qz t).length=t.size
 |.int _=>rfl
 |.bool=>rfl
 |.str=>rfl
 |.unit=>rfl
 |.Au a b=>by simp[Qz,Rl a,Rl b,Ty.size]
 |.sl _=>rfl
 |.QG 0=>rfl
 |.QG 1=>rfl
 |.QG (_+2)=>rfl
theorem Jl.zero{w:World}{own:Nat->Tq}{k:Nat}:∀{t:Ty} {p:AL7 Nat},t.data=true->Jl w own k t p t.zero (Qz t)
 |.int _,_,_=>rfl
 |.bool,_,_=>rfl
 |.str,_,_=>rfl
 |.unit,_,_=>rfl
 |.Au a b,p,h=>by
  simp only[Ty.data,AI5]at h;exact⟨_,_,rfl,Jl.zero h.1,Jl.zero h.2⟩
 |.sl t,p,_=>⟨none,0,rfl,.inl ⟨rfl,rfl⟩⟩
 |.QG _,_,h=>by simp[Ty.data]at h
theorem Ha.zero{w:World}{A:Nat->Prop}:∀{t:Ty},t.data=true->Ha w A t t.zero (Qz t)
 |.int _,_=>rfl
 |.bool,_=>rfl
 |.str,_=>rfl
 |.unit,_=>rfl
 |.Au a b,h=>by
  simp only[Ty.data,AI5]at h;exact⟨_,_,rfl,Ha.zero h.1,Ha.zero h.2⟩
 |.sl t,_=>⟨none,0,[],rfl,AI4 _,rfl,.inl rfl⟩
 |.QG _,h=>by simp[Ty.data]at h
theorem Al.mono{own:Nat->Tq}{ks Uh:AL7 Nat}(h:∀k∈ks,k∈Uh){b:Nat}(a:Al own ks b):Al own Uh b:=a.imp id λ⟨k,hk,p,hp⟩=>⟨k,h k hk,p,hp⟩
theorem Al.step{Bu:AL7 Nat}{n:Nat}{w w':World}{g g':G}(s:Step Bu n w g w' g'){ks:AL7 Nat}(hn:∀k∈ks,k<n)(hm:∀k∈ks,k∉Bu){b:Nat}(a:Al g.own ks b) :
    Al g'.own ks b/\w'.heap[b]?=w.heap[b]?:=by
 rcases a with a |⟨k,hk,p,hp⟩
 ·exact⟨.inl (s.Ik b a).1,(s.Ik b a).2⟩
 ·have:=s.BB b k p hp (hn k hk) (hm k hk);exact⟨.inr ⟨k,hk,p,this.1⟩,this.2⟩
theorem Step.refl(Bu:AL7 Nat)(n:Nat)(w:World)(g:G):Step Bu n w g w g :=
 ⟨rfl,rfl,rfl,AI4 _,λ_ _ h=>⟨h,rfl⟩,λ_ h=>⟨h,rfl⟩,λ_ _ _ h _ _=>⟨h,rfl⟩,λ_ _=>rfl⟩
theorem Step.trans{m1 m2:AL7 Nat}{n n':Nat}{w w1 w2:World}{g g1 g2:G}(s:Step m1 n w g w1 g1)(t:Step m2 n' w1 g1 w2 g2)(hn:n<=n'):Step (m1++m2) n w g w2 g2 where
 os:=t.os.trans s.os
 tape:=t.tape.trans s.tape
 output:=t.output.trans s.output
 size:=AJs s.size t.size
 no b hb h:=by
  have h1:=s.no b hb h;have h2:=t.no b (AJA hb s.size) h1.1;exact⟨h2.1,h2.2.trans h1.2⟩
 Ik b h:=by
  have h1:=s.Ik b h;have h2:=t.Ik b h1.1;exact⟨h2.1,h2.2.trans h1.2⟩
 BB b k p h hk hm:=by
  have h1:=s.BB b k p h hk (λe=>hm (AJw _ e));have h2:=t.BB b k p h1.1 (AJA hk hn) (λe=>hm (AJx _ e));exact⟨h2.1,h2.2.trans h1.2⟩
 AQ k hk:=(t.AQ k (AJA hk hn)).trans (s.AQ k hk)
theorem Step.weaken{m1 m2:AL7 Nat}{n n':Nat}{w w':World}{g g':G}(s:Step m1 n w g w' g')(hm:∀k∈m1,k∈m2)(hn:n'<=n):Step m2 n' w g w' g' :=
 ⟨s.os,s.tape,s.output,s.size,s.no,s.Ik,λb k p h hk Ve=>s.BB b k p h (AJA hk hn) (λe=>Ve (hm k e)),λk hk=>s.AQ k (AJA hk hn)⟩
theorem Step.drew(Bu:AL7 Nat)(n:Nat)(w:World)(g:G):Step Bu n w g w.drew g :=
 ⟨rfl,rfl,rfl,AI4 _,λ_ _ h=>⟨h,rfl⟩,λ_ h=>⟨h,rfl⟩,λ_ _ _ h _ _=>⟨h,rfl⟩,λ_ _=>rfl⟩
theorem ft(Wp:Nat->Bool)(a:AV):(a.drop Wp).Nc=true\/(a.drop Wp).isAgg=a.isAgg:=by
 cases a with
 |Ax ks t x=>simp only[AV.drop];split;exact .inl rfl;exact .inr rfl
 |EJ ks t x=>simp only[AV.drop];split;exact .inl rfl;exact .inr rfl
 |Tf k i p o e=>simp only[AV.drop];split;exact .inl rfl;exact .inr rfl
 |U6 k i p o j u=>simp only[AV.drop];split;exact .inl rfl;exact .inr rfl
 |_=>exact .inr rfl
theorem wj(Wp:Nat->Bool)(a:AV)(h:a.Nc=true):(a.drop Wp).Nc=true:=by
 cases a<;>simp_all [AV.Nc,AV.drop]
theorem Cs.step{Bu:AL7 Nat}{n n':Nat}{w w':World}{g g':G}(s:Step Bu n w g w' g')(hn:n<=n'):∀(a:AV) (m:Bool) {cs:AL7 Value},Cs w g n m a cs->Cs w' g' n' m (a.drop λk=>Bu.contains k) cs
 |.Ax ks t x,false,cs,⟨hk,r⟩=>by
  simp only[AV.drop];split
  ·exact⟨r.len,r.one⟩
  ·rename_i hb;have hm:∀k∈ks,k∉Bu:=λk hk hc=>hb (List.any_eq_true.2 ⟨k,hk,by simpa using hc⟩);exact⟨λk h=>AJA (hk k h) hn,r.mono λb a=>a.step s hk hm⟩
 |.zs,false,_,h=>h
 |.Am k,false,_,⟨hk,e⟩=>⟨AJA hk hn,by rw[s.AQ k hk];exact e⟩
 |.mp k,false,_,⟨hk,b,hb,e⟩=>⟨AJA hk hn,b,by rw[s.AQ k hk];exact hb,e⟩
 |.ptr k i p o,false,_,⟨hk,h0,h1,b,hb,e⟩=>⟨AJA hk hn,h0,by rw[s.AQ k hk];exact h1,b,by rw[s.AQ k hk];exact hb,by rw[s.AQ k hk];exact e⟩
 |.EJ ks t x,false,cs,⟨hk,b,off,ds,e,ha,r,hc⟩=>by
  simp only[AV.drop];split
  ·subst e;exact⟨rfl,by intro v hv;simp at hv;subst hv;rfl⟩
  ·rename_i hb;have hm:∀k∈ks,k∉Bu:=λk hk hc=>hb (List.any_eq_true.2 ⟨k,hk,by simpa using hc⟩);exact⟨λk h=>AJA (hk k h) hn,b,off,ds,e,(ha.step s hk hm).1,r.mono λb a=>a.step s hk hm,λj u hu=>(Vo (ha.step s hk hm).2).trans (hc j u hu)⟩
 |.LO,false,_,h=>h
 |.pr a b,false,_,⟨c,d,e,h1,h2⟩=>⟨c,d,e,Cs.step s hn a false h1,Cs.step s hn b false h2⟩
 |.fn f c,false,_,⟨vs,e,h⟩=>⟨vs,e,Cs.step s hn c true h⟩
 |.un k,false,_,h=>h
 |.cons a b,true,_,⟨v,r,e,h1,h2⟩=>by
  refine⟨v,r,e,?_,Cs.step s hn b true h2⟩;rcases ft (λk=>Bu.contains k) a with hd |hd
  ·exact .inl hd
  ·exact h1.imp (wj _ a) λ⟨cs,h,hv⟩=>⟨cs,Cs.step s hn a false h,by rw[hd];exact hv⟩
 |.nil,true,_,h=>h
 |.cons _ _,false,_,h=>h.elim
 |.nil,false,_,h=>h.elim
 |.Tf k i p o e,false,_,⟨hk,h0,h1,b,v,ha,ho,e1,e2,hc⟩=>by
  simp only[AV.drop];split
  ·subst e1;exact⟨rfl,by intro u hu;simp at hu;subst hu;exact e2⟩
  ·rename_i hb;have hl:=s.BB b k [] ho hk (by simpa using hb);exact⟨AJA hk hn,h0,by rw[s.AQ k hk];exact h1,b,v,by rw[s.AQ k hk];exact ha,hl.1,e1,e2,by rw[s.AQ k hk];exact(Vo hl.2).trans hc⟩
 |.Tf _ _ _ _ _,true,_,h=>h.elim
 |.U6 k i p o j u,false,_,⟨hk,h0,h1,b,b',l,c,ha,ho,e1,e2,hc⟩=>by
  simp only[AV.drop];split
  ·subst e1;exact⟨rfl,by intro u hu;simp at hu;subst hu;rfl⟩
  ·rename_i hb;have hl:=s.BB b k [] ho hk (by simpa using hb);exact⟨AJA hk hn,h0,by rw[s.AQ k hk];exact h1,b,b',l,c,by rw[s.AQ k hk];exact ha,hl.1,e1,e2,by rw[s.AQ k hk];exact(Vo hl.2).trans hc⟩
 |.U6 _ _ _ _ _ _,true,_,h=>h.elim
 |.Ax _ _ _,true,_,h=>h.elim
 |.zs,true,_,h=>h.elim
 |.Am _,true,_,h=>h.elim
 |.mp _,true,_,h=>h.elim
 |.ptr _ _ _ _,true,_,h=>h.elim
 |.EJ _ _ _,true,_,h=>h.elim
 |.LO,true,_,h=>h.elim
 |.pr _ _,true,_,h=>h.elim
 |.fn _ _,true,_,h=>h.elim
 |.un _,true,_,h=>h.elim
theorem BS.iff{w:World}{g:G}{n:Nat}{a:AV}{v:Value}(h:a.C5=false):BS w g n a v↔(a.Nc=true\/∃cs,Cs w g n false a cs/\BK a.isAgg cs v):=by
 cases a<;>first |exact Iff.rfl |cases h
theorem Acj(Wp:Nat->Bool)(a:AV):(a.drop Wp).C5=a.C5:=by
 cases a with
 |Ax ks t x=>simp only[AV.drop];split<;>rfl
 |EJ ks t x=>simp only[AV.drop];split<;>rfl
 |Tf k i p o e=>simp only[AV.drop];split<;>rfl
 |U6 k i p o j u=>simp only[AV.drop];split<;>rfl
 |_=>rfl
theorem BS.step{Bu:AL7 Nat}{n n':Nat}{w w':World}{g g':G}(s:Step Bu n w g w' g')(hn:n<=n'){a:AV}{v:Value}(h:BS w g n a v):BS w' g' n' (a.drop λk=>Bu.contains k) v:=by
 cases ht:a.C5 with
 |false =>
  rw[BS.iff ht]at h;rw[BS.iff (by rw[Acj];exact ht)];rcases ft (λk=>Bu.contains k) a with hd |hd
  ·exact .inl hd
  ·exact h.imp (wj _ a) λ⟨cs,h,hv⟩=>⟨cs,Cs.step s hn a false h,by rw[hd];exact hv⟩
 |true =>
  cases a with
  |cons a b=>obtain⟨vs,e,h⟩:=h;exact⟨vs,e,Cs.step s hn (.cons a b) true h⟩
  |nil=>exact h
  |_=>cases ht
theorem ZB(a:AV):(a.drop λ_=>false)=a:=by
 induction a with
 |Ax ks t x=>simp[AV.drop]
 |EJ ks t x=>simp[AV.drop]
 |Tf k i p o e=>simp[AV.drop]
 |U6 k i p o j u=>simp[AV.drop]
 |pr a b ha hb=>simp[AV.drop,ha,hb]
 |fn f c h=>simp[AV.drop,h]
 |cons a b ha hb=>simp[AV.drop,ha,hb]
 |_=>rfl
theorem BS.Qx{n n':Nat}{w w':World}{g g':G}(s:Step [] n w g w' g')(hn:n<=n'){a:AV}{v:Value}(h:BS w g n a v):BS w' g' n' a v:=by
 have:=h.step s hn;rwa [show(λk=>([]:AL7 Nat).contains k)=λ_=>false from funext λ_=>rfl,ZB]at this
theorem Cs.Qx{n n':Nat}{w w':World}{g g':G}(s:Step [] n w g w' g')(hn:n<=n'){a:AV}{m:Bool}{cs:AL7 Value}(h:Cs w g n m a cs):Cs w' g' n' m a cs:=by
 have:=Cs.step s hn a m h;rwa [show(λk=>([]:AL7 Nat).contains k)=λ_=>false from funext λ_=>rfl,ZB]at this
theorem Cs.len{w:World}{g:G}{n:Nat}:∀{a:AV} {cs:AL7 Value},Cs w g n false a cs->cs.length=a.size
 |.Ax _ _ _,_,h=>h.2.len
 |.zs,_,⟨_,e⟩=>by subst e;rfl
 |.Am _,_,⟨_,e⟩=>by subst e;rfl
 |.mp _,_,⟨_,_,_,e⟩=>by subst e;rfl
 |.ptr _ _ _ _,_,⟨_,_,_,_,_,e⟩=>by subst e;rfl
 |.EJ _ _ _,_,⟨_,_,_,_,e,_⟩=>by subst e;rfl
 |.LO,_,h=>by cases h;rfl
 |.pr a b,_,⟨_,_,e,h1,h2⟩=>by subst e;rw[AI2,Cs.len h1,Cs.len h2];rfl
 |.fn _ _,_,⟨_,e,_⟩=>by subst e;rfl
 |.un _,_,h=>h.1
 |.cons _ _,_,h=>h.elim
 |.nil,_,h=>h.elim
 |.Tf _ _ _ _ _,_,⟨_,_,_,_,_,_,_,e,_⟩=>by subst e;rfl
 |.U6 _ _ _ _ _ _,_,⟨_,_,_,_,_,_,_,_,_,e,_⟩=>by subst e;rfl
theorem Cs.one{w:World}{g:G}{n:Nat}:∀{a:AV} {cs:AL7 Value},Cs w g n false a cs->∀v∈cs,v.oneCell'=true
 |.Ax _ _ _,_,h=>h.2.one
 |.zs,_,⟨_,e⟩=>by subst e;intro v hv;simp at hv;subst hv;rfl
 |.Am _,_,⟨_,e⟩=>by subst e;intro v hv;simp at hv;subst hv;rfl
 |.mp _,_,⟨_,_,_,e⟩=>by subst e;intro v hv;simp at hv;subst hv;rfl
 |.ptr _ _ _ _,_,⟨_,_,_,_,_,e⟩=>by subst e;intro v hv;simp at hv;subst hv;rfl
 |.EJ _ _ _,_,⟨_,_,_,_,e,_⟩=>by subst e;intro v hv;simp at hv;subst hv;rfl
 |.LO,_,h=>by cases h;intro v hv;simp at hv;subst hv;rfl
 |.pr a b,_,⟨_,_,e,h1,h2⟩=>by
  subst e;intro v hv;rcases List.mem_append.1 hv with hv |hv
  ·exact Cs.one h1 v hv
  ·exact Cs.one h2 v hv
 |.fn _ _,_,⟨_,e,_⟩=>by subst e;intro v hv;simp at hv;subst hv;rfl
 |.un _,_,h=>h.2
 |.cons _ _,_,h=>h.elim
 |.nil,_,h=>h.elim
 |.Tf _ _ _ _ _,_,⟨_,_,_,_,_,_,_,e,h1,_⟩=>by subst e;intro u hu;simp at hu;subst hu;exact h1
 |.U6 _ _ _ _ _ _,_,⟨_,_,_,_,_,_,_,_,_,e,_⟩=>by subst e;intro u hu;simp at hu;subst hu;rfl
theorem Cs.scope{w:World}{g:G}{n:Nat}:∀{a:AV} {m:Bool} {cs:AL7 Value},Cs w g n m a cs->∀k∈a.cN,k<n
 |.Ax _ _ _,false,_,h,k,hk=>h.1 k hk
 |.pr a b,false,_,⟨_,_,_,h1,h2⟩,k,hk=>by
  rcases List.mem_append.1 hk with hk |hk
  ·exact Cs.scope h1 k hk
  ·exact Cs.scope h2 k hk
 |.zs,_,_,_,_,hk=>by cases hk
 |.Am _,_,_,_,_,hk=>by cases hk
 |.mp _,_,_,_,_,hk=>by cases hk
 |.ptr _ _ _ _,_,_,_,_,hk=>by cases hk
 |.EJ _ _ _,_,_,_,_,hk=>by cases hk
 |.LO,_,_,_,_,hk=>by cases hk
 |.fn _ _,_,_,_,_,hk=>by cases hk
 |.un _,_,_,_,_,hk=>by cases hk
 |.cons _ _,_,_,_,_,hk=>by cases hk
 |.nil,_,_,_,_,hk=>by cases hk
 |.Tf _ _ _ _ _,_,_,_,_,hk=>by cases hk
 |.U6 _ _ _ _ _ _,_,_,_,_,hk=>by cases hk
 |.Ax _ _ _,true,_,h,_,_=>h.elim
 |.pr _ _,true,_,h,_,_=>h.elim
section
variable {w:World} {g:G} {n:Nat}
theorem AiW{A A':Nat->Prop}{w:World}{t:Ty}{x:t.V}{cs:AL7 Value}(h:Ha w A t x cs)(ha:t.BA=false->∀b,A b->A' b):Ha w A' t x cs:=by
 cases hf:t.BA with
 |true=>exact(Ha.BA hf).2 ((Ha.BA hf).1 h)
 |false=>exact h.mono λb a=>⟨ha hf b a,rfl⟩
theorem XP{ks:AL7 Nat}{t:Ty}(h:∀k∈ks,k<n):∀k∈YT ks t,k<n:=by
 unfold YT;split
 ·intro k hk;cases hk
 ·exact h
theorem XS{own:Nat->Tq}{ks:AL7 Nat}{w:World}{t:Ty}{x:t.V}{cs:AL7 Value}(h:Ha w (Al own ks) t x cs):Ha w (Al own (YT ks t)) t x cs :=
 AiW h λhf b a=>by unfold YT;rw[AJh (by simp[hf])];exact a
theorem XK{ks:AL7 Nat}(hk:∀k∈ks,k<n):∀(f:Nat) (t:Ty) (x:t.V) (cs:AL7 Value) (v:AV),Ha w (Al g.own ks) t x cs->VZ ks t x f=some v ->
    ∃c0 c1 c2,cs=c0++c1++c2/\TX t f=some c0.length/\Cs w g n false v c1/\(∃u y,v=.Ax (YT ks u) u y/\Ha w (Al g.own ks) u y c1) /\
     ∀v' a' Si,rK ks t x f v'=some a'->Cs w g n false v' Si->Cs w g n false a' (c0++Si++c2)
 |0,.Au a b,x,cs,v,⟨c,d,e,h1,h2⟩,hv=>by
  simp only[VZ,AI0]at hv;subst hv;refine⟨[],c,d,by simpa using e,rfl,⟨XP hk,XS h1⟩,⟨a,x.1,rfl,h1⟩,?_⟩;intro v' a' Si hs o6;simp only[rK,AI0]at hs;subst hs;exact⟨Si,d,rfl,o6,XP hk,XS h2⟩
 |f+1,.Au a b,x,cs,v,⟨c,d,e,h1,h2⟩,hv=>by
  simp only[VZ]at hv;obtain⟨c0,c1,c2,e2,ho,hx,hu,hs⟩:=XK hk f b x.2 d v h2 hv;refine⟨c++c0,c1,c2,by rw[e,e2];simp only[AI6],?_,hx,hu,?_⟩
  ·simp only[TX,ho,AI2,h1.len]
  ·intro v' a' Si ag o6;simp only[rK]at ag;split at ag
   ·rename_i r hr;simp only[AI0]at ag;subst ag;exact⟨c,c0++Si++c2,by simp only[AI6],⟨XP hk,XS h1⟩,hs _ _ _ hr o6⟩
   ·cases ag
 |f,.int _,_,_,_,_,hv=>by simp[VZ]at hv
 |f,.bool,_,_,_,_,hv=>by simp[VZ]at hv
 |f,.str,_,_,_,_,hv=>by simp[VZ]at hv
 |f,.unit,_,_,_,_,hv=>by simp[VZ]at hv
 |f,.sl _,_,_,_,_,hv=>by simp[VZ]at hv
 |f,.QG _,_,_,_,_,hv=>by simp[VZ]at hv
theorem W4:∀(a:AV) (f:Nat) (cs:AL7 Value) (v:AV),Cs w g n false a cs->a.YG f=some v ->
    ∃c0 c1 c2,cs=c0++c1++c2/\a.off f=some c0.length/\Cs w g n false v c1 /\
     ∀v' a' Si,a.SB f v'=some a'->Cs w g n false v' Si->Cs w g n false a' (c0++Si++c2)
 |.Ax ks t x,f,cs,v,⟨hk,h⟩,hv=>by
  obtain⟨c0,c1,c2,e,ho,hx,_,hs⟩:=XK (g:=g) hk f t x cs v h (by simpa [AV.YG]using hv);exact⟨c0,c1,c2,e,by simpa [AV.off]using ho,hx,λv' a' Si h1 h2=>hs v' a' Si (by simpa [AV.SB]using h1) h2⟩
 |.pr a b,0,cs,v,⟨c,d,e,h1,h2⟩,hv=>by
  simp only[AV.YG,AI0]at hv;subst hv;refine⟨[],c,d,by simpa using e,rfl,h1,?_⟩;intro v' a' Si hs o6;simp only[AV.SB,AI0]at hs;subst hs;exact⟨Si,d,rfl,o6,h2⟩
 |.pr a b,f+1,cs,v,⟨c,d,e,h1,h2⟩,hv=>by
  simp only[AV.YG]at hv;obtain⟨c0,c1,c2,e2,ho,hx,hs⟩:=W4 b f d v h2 hv;refine⟨c++c0,c1,c2,by rw[e,e2];simp only[AI6],?_,hx,?_⟩
  ·simp only[AV.off,ho,AI2,h1.len]
  ·intro v' a' Si ag o6;simp only[AV.SB]at ag;split at ag
   ·rename_i r hr;simp only[AI0]at ag;subst ag;exact⟨c,c0++Si++c2,by simp only[AI6],h1,hs _ _ _ hr o6⟩
   ·cases ag
 |.zs,_,_,_,_,hv=>by simp[AV.YG]at hv
 |.Am _,_,_,_,_,hv=>by simp[AV.YG]at hv
 |.mp _,_,_,_,_,hv=>by simp[AV.YG]at hv
 |.ptr _ _ _ _,_,_,_,_,hv=>by simp[AV.YG]at hv
 |.EJ _ _ _,_,_,_,_,hv=>by simp[AV.YG]at hv
 |.LO,_,_,_,_,hv=>by simp[AV.YG]at hv
 |.fn _ _,_,_,_,_,hv=>by simp[AV.YG]at hv
 |.un _,_,_,_,_,hv=>by simp[AV.YG]at hv
 |.cons _ _,_,_,_,h,_=>h.elim
 |.nil,_,_,_,h,_=>h.elim
 |.Tf _ _ _ _ _,_,_,_,_,hv=>by simp[AV.YG]at hv
 |.U6 _ _ _ _ _ _,_,_,_,_,hv=>by simp[AV.YG]at hv
theorem Q8:∀(p:AL7 Nat) (a:AV) (cs:AL7 Value) (v:AV),Cs w g n false a cs->a.UU p=some v ->
    ∃c0 c1 c2,cs=c0++c1++c2/\a.yS p=some c0.length/\Cs w g n false v c1 /\
     ∀v' a' Si,a.Y2 p v'=some a'->Cs w g n false v' Si->Cs w g n false a' (c0++Si++c2)
 |[],a,cs,v,h,hv=>by
  simp only[AV.UU,AI0]at hv;subst hv;refine⟨[],cs,[],by simp,rfl,h,?_⟩;intro v' a' Si hs o6;simp only[AV.Y2,AI0]at hs;subst hs;simpa using o6
 |f::p,a,cs,v,h,hv=>by
  simp only[AV.UU]at hv;split at hv
  ·rename_i b hb;obtain⟨c0,c1,c2,e,ho,hx,hs⟩:=W4 a f cs b h hb;obtain⟨d0,d1,d2,e2,iU,qS,XN⟩:=Q8 p b c1 v hx hv;refine⟨c0++d0,d1,d2++c2,by rw[e,e2];simp only[AI6],?_,qS,?_⟩
   ·simp only[AV.yS,hb,ho,iU,AI2]
   ·intro v' a' Si ag o6;simp only[AV.Y2,hb]at ag;split at ag
    ·rename_i r hr;have:=hs _ _ _ ag (XN _ _ _ hr o6);simpa only[AI6]using this
    ·cases ag
  ·cases hv
end
theorem Bz{t u:Ty}{x:t.V}{y:u.V}(h:IP t u x=some y):∃e:t=u,e▸x=y:=by
 unfold IP at h;split at h
 ·rename_i e;injection h with h;exact⟨e,h⟩
 ·cases h
def je:Nat->AL7 Nat->AL7 Nat
 |0,L=>0::L
 |n+1,L=>je n (1::L)
def TH:AL7 Nat->AL7 Nat->AL7 Nat
 |[],L=>L
 |f::p,L=>TH p (je f L)
structure Rel where
 E:(t:Ty)->List Nat->t.V->List Value->Prop
 Au:∀{a b:Ty} {L:List Nat} {x:(Ty.Au a b).V} {cs:List Value},E (.Au a b) L x cs↔∃c d,cs=c++d/\E a (0::L) x.1 c/\E b (1::L) x.2 d
 len:∀{t:Ty} {L:List Nat} {x:t.V} {cs:List Value},E t L x cs->cs.length=t.size
def AAi(w:World)(A:Nat->Prop):Rel:=⟨λt _ x cs=>Ha w A t x cs,Iff.rfl,Ha.len⟩
def AiU(w:World)(own:Nat->Tq)(k:Nat):Rel:=⟨λt L x cs=>Jl w own k t L x cs,Iff.rfl,Jl.len⟩
section
variable (Q:Rel)
theorem lb(F:∀u:Ty,u.V->AL8 u.V)(iy:Ty->Nat->Prop)(D:AL7 Nat->AL7 Value->Prop)(sz:Nat)
    (hF:∀(u:Ty) (L:AL7 Nat) (x y:u.V) (cs:AL7 Value) (o:Nat),F u x=some y->iy u o->Q.E u L x cs ->
     ∃c0 c1 c2,cs=c0++c1++c2/\c0.length=o/\c1.length=sz/\∀Si,D L Si->Q.E u L y (c0++Si++c2)) :
    ∀(f:Nat) (t:Ty) (L:AL7 Nat) (x x':t.V) (cs:AL7 Value) (u:Ty) (o o':Nat),Ra t x f F=some x'->ic t f=some u->TX t f=some o->iy u o'->Q.E t L x cs ->
     ∃c0 c1 c2,cs=c0++c1++c2/\c0.length=o+o'/\c1.length=sz/\∀Si,D (je f L) Si->Q.E t L x' (c0++Si++c2)
 |0,.Au a b,L,x,x',cs,u,o,o',hs,hu,ho,hc,h=>by
  obtain⟨c,d,e,h1,h2⟩:=Q.Au.1 h;simp only[ic,AI0]at hu;subst hu;simp only[TX,AI0]at ho;subst ho;simp only[Ra]at hs;split at hs
  ·rename_i y hy;injection hs with hs;subst hs;obtain⟨c0,c1,c2,e2,hl,hz,hr⟩:=hF a _ x.1 y c o' hy hc h1;refine⟨c0,c1,c2++d,by rw[e,e2];simp only[AI6],by omega,hz,λSi h=>Q.Au.2 ⟨c0++Si++c2,d,by simp only[AI6],hr Si h,h2⟩⟩
  ·cases hs
 |f+1,.Au a b,L,x,x',cs,u,o,o',hs,hu,ho,hc,h=>by
  obtain⟨c,d,e,h1,h2⟩:=Q.Au.1 h;simp only[ic]at hu;simp only[TX]at ho;split at ho
  ·rename_i o2 iU;injection ho with ho;subst ho;simp only[Ra]at hs;split at hs
   ·rename_i y hy;injection hs with hs;subst hs;obtain⟨c0,c1,c2,e2,hl,hz,hr⟩:=lb F iy D sz hF f b (1::L) x.2 y d u o2 o' hy hu iU hc h2;refine⟨c++c0,c1,c2,by rw[e,e2];simp only[AI6],by rw[AI2,Q.len h1];omega,hz,λSi h=>Q.Au.2 ⟨c,c0++Si++c2,by simp only[AI6],h1,hr Si h⟩⟩
   ·cases hs
  ·cases ho
 |f,.int _,_,_,_,_,_,_,_,hs,_,_,_,_=>by simp[Ra]at hs
 |f,.bool,_,_,_,_,_,_,_,hs,_,_,_,_=>by simp[Ra]at hs
 |f,.str,_,_,_,_,_,_,_,hs,_,_,_,_=>by simp[Ra]at hs
 |f,.unit,_,_,_,_,_,_,_,hs,_,_,_,_=>by simp[Ra]at hs
 |f,.sl _,_,_,_,_,_,_,_,hs,_,_,_,_=>by simp[Ra]at hs
 |f,.QG _,_,_,_,_,_,_,_,hs,_,_,_,_=>by simp[Ra]at hs
theorem XV(u:Ty)(y:u.V):∀(p:AL7 Nat) (t:Ty) (L:AL7 Nat) (x x':t.V) (cs:AL7 Value) (o:Nat),R5 u y p t x=some x'->K0 t p=some o->Q.E t L x cs ->
    ∃c0 c1 c2,cs=c0++c1++c2/\c0.length=o/\c1.length=u.size/\∀Si,Q.E u (TH p L) y Si->Q.E t L x' (c0++Si++c2)
 |[],t,L,x,x',cs,o,hs,ho,h=>by
  simp only[K0,AI0]at ho;subst ho;obtain⟨e,he⟩:=Bz hs;subst e;simp only at he;subst he;exact⟨[],cs,[],by simp,rfl,Q.len h,λSi h'=>by simpa [TH]using h'⟩
 |f::p,t,L,x,x',cs,o,hs,ho,h=>by
  simp only[K0]at ho;split at ho
  ·rename_i t1 o1 h1 h2;split at ho
   ·rename_i o2 h3;injection ho with ho;subst ho;exact lb Q (λt' x'=>R5 u y p t' x') (λv o=>K0 v p=some o) (λL Si=>Q.E u (TH p L) y Si) u.size
     (λv L x1 y1 cs1 o' QN M7 aS=>XV u y p v L x1 y1 cs1 o' QN M7 aS) f t L x x' cs t1 o1 o2 hs h1 h2 h3 h
   ·cases ho
  ·cases ho
end
theorem Al.mem{own:Nat->Tq}{ks:AL7 Nat}{k b:Nat}{p:AL7 Nat}(hk:k∈ks)(h:own b=.BB k p):Al own ks b:=.inr ⟨k,hk,p,h⟩
theorem P4{w:World}{g:G}{bs:AL7 Blk}(H:Ba w g bs):∀(t:Ty) (a:AV) (x:t.V) (cs:AL7 Value),rd bs t a=some x->Cs w g bs.length false a cs ->
    Ha w (Al g.own (a.TS bs)) t x cs/\∀k∈a.TS bs,k<bs.length:=by
 have plain:∀(t:Ty) (ks:AL7 Nat) (u:Ty) (y:u.V) (x:t.V) (cs:AL7 Value),IP u t y=some x->Cs w g bs.length false (.Ax ks u y) cs->Ha w (Al g.own ks) t x cs/\∀k∈ks,k<bs.length:=by
  intro t ks u y x cs h hx;obtain⟨e,he⟩:=Bz h;subst e;simp only at he;subst he;exact⟨hx.2,hx.1⟩
 intro t;induction t with
 |Au a b iha ihb =>
  intro av x cs h hx;simp only[rd]at h;split at h
  ·exact plain _ _ _ _ _ _ h hx
  ·rename_i u v;split at h
   ·rename_i y z hy hz;injection h with h;subst h;obtain⟨c,d,e,h1,h2⟩:=hx;have r1:=iha u y c hy h1;have r2:=ihb v z d hz h2;refine⟨⟨c,d,e,r1.1.mono λq hq=>⟨hq.mono λk hk=>AJw _ hk,rfl⟩,r2.1.mono λq hq=>⟨hq.mono λk hk=>AJx _ hk,rfl⟩⟩,?_⟩;intro k hk;rcases List.mem_append.1 hk with hk |hk
    ·exact r1.2 k hk
    ·exact r2.2 k hk
   ·cases h
  ·cases h
 |sl t _ =>
  intro av x cs h hx;simp only[rd]at h;split at h
  ·exact plain _ _ _ _ _ _ h hx
  ·injection h with h;subst h;obtain⟨ad,e⟩:=hx;exact⟨⟨ad,0,[],e,AI4 _,rfl,.inl rfl⟩,λk hk=>by cases hk⟩
  ·rename_i k;split at h
   ·rename_i e m u ys hb;obtain⟨e',he⟩:=Bz h;injection e' with e';subst e';simp only at he;subst he;obtain⟨hk,hc⟩:=hx;obtain⟨hm,hlen,Pu,BH,hr⟩:=H.Ls k _ hb;have wQ:(AV.Am k).TS bs=k::m.Cf:=by simp[AV.TS,Z0,hb]
    rw[wQ];refine⟨?_,λj hj=>?_⟩
    ·rcases hr with ⟨hy,aP⟩|⟨b,Bp,ds,ha,Ce,⟨el,_,hh⟩,h1,h2,h3,h4,Ps⟩
     ·subst hy;rw[hlen]at hc;exact⟨(g.AQ k).a,(g.AQ k).cap,[],hc,by simp,rfl,.inl rfl⟩
     ·rw[hlen]at hc;refine⟨(g.AQ k).a,(g.AQ k).cap,ds,hc,h1,?_,.inr ⟨b,0,ha,.mem (AJt) Ce,λj q hq=>?_⟩⟩
      ·cases m with
       |Ai=>exact Ps.toR λi y c r=>r.rd λb q hb=>.mem (AJt) hb
       |sh ks=>exact Ps.mono λy c r=>r.mono λb a=>⟨a.mono λj hj=>AJq _ hj,rfl⟩
      ·rw[PE hh,AJu,<-AJc];subst h4;rw[AJM]at hq;split at hq
       ·exact hq
       ·cases hq
    ·rcases List.mem_cons.1 hj with rfl |hj
     ·exact hk
     ·exact hm j hj
   ·cases h
  ·cases h
 |_ =>
  intro av x cs h hx;simp only[rd]at h;split at h
  ·exact plain _ _ _ _ _ _ h hx
  ·cases h
theorem LZ.step{Bu:AL7 Nat}{n n':Nat}{w w':World}{g g':G}(s:Step Bu n w g w' g')(hn:n<=n'){k:Nat}(hk:k<n)(hm:k∉Bu){b:Blk}(h:LZ w g n k b) :
    LZ w' g' n' k (b.drop λj=>Bu.contains j):=by
 cases b with
 |AK=>trivial
 |map m kt vt es st =>
  obtain⟨QA,b,Gw,Dk,ha,ho,hh,Rm,fS⟩:=h;simp only[Blk.drop];split
  ·trivial
  ·rename_i hb;have hd:∀j∈m.Cf,j∉Bu:=λj hj hc=>hb (List.any_eq_true.2 ⟨j,hj,by simpa using hc⟩);have hl:=s.BB b k [] ho hk hm;refine⟨λj hj=>AJA (QA j hj) hn,b,Gw,Dk,by rw[s.AQ k hk];exact ha,hl.1,hl.2.trans hh,Rm,fS.on λi x cs r=>?_⟩;cases m with
   |Ai=>exact Jl.mono (λb q hb=>s.BB b k _ hb hk hm) r
   |sh ks=>exact Ha.mono (λb a=>a.step s QA hd) r
 |QE e t xs i p =>
  obtain⟨h1,h2,h3,h4,h5,u,o,x0,b,Bp,ds,q1,q2,q3,ha,ho,⟨el,Tx,hh⟩,c1,c2,c3,c4,hc⟩:=h;have hl:=s.BB b k [] ho hk hm;refine⟨by rw[s.AQ k hk];exact h1,by rw[s.AQ k hk];exact h2,h3,h4,h5,u,o,x0,b,Bp,ds,q1,q2,q3,?_⟩;rw[s.AQ k hk];exact⟨ha,hl.1,⟨el,Tx,hl.2.trans hh⟩,c1,c2,c3,c4,hc.mono λi x c r=>r.mono λb q hb=>s.BB b k _ hb hk hm⟩
 |tail e t xs =>
  obtain⟨hf,hlen,Pu,BH,hr⟩:=h;refine⟨hf,by rw[s.AQ k hk];exact hlen,by rw[s.AQ k hk];exact Pu,BH,?_⟩;rw[s.AQ k hk];refine hr.imp id λ⟨b,o,Bp,ds,ha,ho,⟨el,Tx,hh⟩,h1,h2,h3,h4,hc⟩=>?_;have hl:=s.BB b k [] ho hk hm;exact⟨b,o,Bp,ds,ha,hl.1,⟨el,Tx,hl.2.trans hh⟩,h1,h2,h3,h4,hc.mono λi x c r=>r.mono λb q hb=>s.BB b k _ hb hk hm⟩
 |box a =>
  obtain⟨h1,b,cs,e,ha,ho,hh,hx⟩:=h;have hl:=s.BB b k [] ho hk hm;refine⟨by rw[s.AQ k hk];exact h1,b,cs,e,by rw[s.AQ k hk];exact ha,hl.1,hl.2.trans hh,Cs.step s hn a false hx⟩
 |row e m t xs =>
  obtain⟨QA,hlen,Pu,BH,hr⟩:=h;simp only[Blk.drop];split
  ·trivial
  ·rename_i hb;have hd:∀j∈m.Cf,j∉Bu:=λj hj hc=>hb (List.any_eq_true.2 ⟨j,hj,by simpa using hc⟩);refine⟨λj hj=>AJA (QA j hj) hn,by rw[s.AQ k hk];exact hlen,by rw[s.AQ k hk];exact Pu,BH,?_⟩;rw[s.AQ k hk];refine hr.imp id λ⟨b,Bp,ds,ha,ho,⟨el,Tx,hh⟩,h1,h2,h3,h4,hc⟩=>?_;have hl:=s.BB b k [] ho hk hm;refine⟨b,Bp,ds,ha,hl.1,⟨el,Tx,hl.2.trans hh⟩,h1,h2,h3,h4,?_⟩;cases m with
   |Ai=>exact hc.mono λi x c r=>r.mono λb q hb=>s.BB b k _ hb hk hm
   |sh ks=>exact hc.mono λx c r=>r.mono λb a=>a.step s QA hd
theorem Zp(b:Blk):(b.drop λ_=>false)=b:=by
 cases b with
 |box a=>simp[Blk.drop,ZB]
 |row e m t xs=>simp[Blk.drop]
 |map m kt vt es st=>simp[Blk.drop]
 |QE e t xs i p=>rfl
 |tail e t xs=>rfl
 |AK=>rfl
theorem LZ.Qx{n n':Nat}{w w':World}{g g':G}(s:Step [] n w g w' g')(hn:n<=n'){k:Nat}(hk:k<n){b:Blk}(h:LZ w g n k b):LZ w' g' n' k b:=by
 have:=h.step s hn hk (by simp);rwa [show(λk=>([]:AL7 Nat).contains k)=λ_=>false from funext λ_=>rfl,Zp]at this
theorem AO{α:Type}{l:AL7 α}{k:Nat}{x:α}(h:l[k]?=some x):k<l.length:=by
 rcases AI9 k l.length with h' |h'
 ·exact h'
 ·rw[AJC h']at h;cases h
theorem Ba.Qx{w w':World}{g g':G}{bs:AL7 Blk}(H:Ba w g bs)(s:Step [] bs.length w g w' g')(hf:∀b,w'.heap.size<=b->g'.own b=.no):Ba w' g' bs :=
 ⟨hf,λk x hx=>(H.Ls k x hx).Qx s (AI4 _) (AO hx)⟩
theorem Ba.drew{w:World}{g:G}{bs:AL7 Blk}(H:Ba w g bs):Ba w.drew g bs:=H.Qx (Step.drew _ _ _ _) H.BP
theorem Ba.push{w w':World}{g g':G}{bs:AL7 Blk}(H:Ba w g bs)(s:Step [] bs.length w g w' g')(hf:∀b,w'.heap.size<=b->g'.own b=.no){b:Blk}(hb:LZ w' g' (bs.length+1) bs.length b) :
    Ba w' g' (bs++[b]) :=
 ⟨hf,λk x hx=>by
  rw[AI2,AJi];rw[AJo]at hx;split at hx
  ·exact(H.Ls k x hx).Qx s (AJz _) (AO hx)
  ·rename_i hk;have:k-bs.length=0:=by
    rcases AJm (k-bs.length)with h |h
    ·exact h
    ·rw[AJC (by simp;omega)]at hx;cases hx
   rw[this]at hx;obtain rfl:k=bs.length:=by omega
   simp only[List.getElem?_cons_zero,AI0]at hx;subst hx;exact hb⟩
def zeroV:Value->Value->Bool
 |.int k n,.int k' m=>k==k'&&n==m
 |.bool a,.bool b=>a==b
 |.string s,.string t=>s.data.toList==t.data.toList
 |.slice none 0 0,.slice none 0 0=>true
 |.pointer none,.pointer none=>true
 |.map none,.map none=>true
 |.nilFunc,.nilFunc=>true
 |_,_=>false
theorem Ae9{a b:Value}(h:zeroV a b=true):a=b:=by
 unfold zeroV at h;split at h
 ·simp at h;rw[h.1,h.2]
 ·simp at h;rw[h]
 ·rename_i s t;simp at h;have:s.data=t.data:=by simpa using h
  cases s;cases t;simp at this;rw[this]
 ·rfl
 ·rfl
 ·rfl
 ·rfl
 ·cases h
def xB:AL7 Value->AL7 Value->Bool
 |[],[]=>true
 |a::r,b::s=>zeroV a b&&xB r s
 |_,_=>false
theorem su:∀{a b:AL7 Value},xB a b=true->a=b
 |[],[],_=>rfl
 |a::r,b::s,h=>by
  simp only[xB,AI5]at h;rw[Ae9 h.1,su h.2]
 |[],_::_,h=>by cases h
 |_::_,[],h=>by cases h
def AfA:TypeDesc->Bool
 |.struct _=>true
 |.array _ _=>true
 |_=>false
def AxG(P:Program)(t:Nat)(u:Ty):Bool:=match P.underlying t with |some d=>AfA d==u.isAgg |none=>false
def M5(P:Program)(ty:Ty):Nat->AL7 Field->AL7 Nat->Bool
 |_,[],[]=>true
 |i,f::fs,o::os=>f.offset==o&&TX ty i==some o&&(match ic ty i with |some u=>(P.info? f.type).map (·.size)==some u.size&&u.size !=0&&AxG P f.type u |none=>false)&&M5 P ty (i+1) fs os
 |_,_,_=>false
def kindOk(P:Program)(ti:TI):TypeDesc->Bool
 |.int k=>ti.ty==.int k
 |.bool=>ti.ty==.bool
 |.string=>ti.ty==.str
 |.slice e=>ti.elem==e&&(match ti.ty with |.sl _=>true |_=>false)
 |.struct fs=>ti.ty.isAgg&&M5 P ti.ty 0 fs.toList ti.VG
 |.array _ _=>ti.ty.isAgg
 |.pointer _=>(match ti.ty with |.QG _=>true |_=>false)
 |.map _ _=>(match ti.ty with |.QG _=>true |_=>false)
 |.func _ _ _=>(match ti.ty with |.QG _=>true |_=>false)
 |_=>false
def Vr(P:Program):Ty->Nat->AL7 Field->Bool
 |.unit,_,[]=>true
 |.Au a b,o,f::fs=>f.name !="_"&&f.offset==o&&(match a,P.underlying f.type with |.int k,some (.int k')=>k==k' |.bool,some .bool=>true |.str,some .string=>true |_,_=>false)&&Vr P b (o+1) fs
 |_,_,_=>false
def Acr(P:Program)(t:Nat)(ty:Ty):Bool:=match P.underlying t with
 |some (.struct fs)=>!P.stoodInHeld t&&!P.eqGuardType P.depth t&&Vr P ty 0 fs.toList
 |_=>false
def Ap6(P:Program)(t:Nat)(ti:TI):Bool :=
 (match P.info? t with
  |some i=>i.size==ti.ty.size&&i.bytes==ti.bytes&&(match i.zero with |some z=>xB z.cells.toList (Qz ti.ty)&&(match z with |.agg _=>ti.ty.isAgg |_=>!ti.ty.isAgg)|none=>false)
  |none=>false) &&
 (match P.underlying t with |some d=>kindOk P ti d&&(match d with |.struct _=>true |_=>ti.VG.isEmpty)&&(match d with |.array n e=>ti.Gw==n&&ti.elem==e |_=>ti.Gw==0)&&(match d with |.map k e=>ti.NK==k&&ti.elem==e |_=>ti.NK==0)&&(!ti.eqs||Acr P t ti.ty)|none=>false)
def cF(P:Program):vA->Bool
 |[]=>true
 |(t,ti)::r=>Ap6 P t ti&&cF P r
theorem xm{P:Program}:∀{Dm:vA} {t:Nat} {ti:TI},cF P Dm=true->Dm.get t=some ti->Ap6 P t ti=true
 |[],_,_,_,h=>by cases h
 |(k,i)::r,t,ti,ho,h=>by
  simp only[cF,AI5]at ho;simp only[vA.get]at h;split at h
  ·rename_i hk;injection h with h;subst h;rw[AJ5]at hk;subst hk;exact ho.1
  ·exact xm ho.2 h
structure EC (P:Program) (t:Nat) (ti:TI):Prop where
 info:∃i z,P.info? t=some i/\i.size=ti.ty.size/\i.bytes=ti.bytes/\i.zero=some z/\z.cells.toList=Qz ti.ty/\((∃c,z=.agg c)↔ti.ty.isAgg=true)
 cJ:∃d,P.underlying t=some d/\kindOk P ti d=true
 VG:(∃fs,P.underlying t=some (.struct fs))\/ti.VG=[]
 Gw:ti.Gw≠0->P.underlying t=some (.array ti.Gw ti.elem)
 eqs:ti.eqs=true->Acr P t ti.ty=true
 mp:ti.NK≠0->P.underlying t=some (.map ti.NK ti.elem)
theorem EC.of{P:Program}{Dm:vA}{t:Nat}{ti:TI}(ho:cF P Dm=true)(h:Dm.get t=some ti):EC P t ti:=by
 have h1:=xm ho h;unfold Ap6 at h1;rw[AI5]at h1;obtain⟨h1,h2⟩:=h1;constructor
 ·split at h1
  ·rename_i i hi;simp only[AI5,AJ5]at h1;obtain⟨⟨h3,h4⟩,h5⟩:=h1;split at h5
   ·rename_i z hz;rw[AI5]at h5;refine⟨i,z,hi,h3,h4,hz,su h5.1,?_⟩;have h6:=h5.2;split at h6
    ·rename_i c;simp[h6]
    ·rename_i hz';simp at h6;exact⟨λ⟨c,hc⟩=>(hz' c hc).elim,λh=>by simp[h6]at h⟩
   ·cases h5
  ·cases h1
 ·split at h2
  ·rename_i d hd;simp only[AI5]at h2;exact⟨d,hd,h2.1.1.1.1⟩
  ·cases h2
 ·split at h2
  ·rename_i d hd;simp only[AI5]at h2;have h3:=h2.1.1.1.2;split at h3
   ·rename_i fs;exact .inl ⟨fs,hd⟩
   ·exact .inr (by simpa using h3)
  ·cases h2
 ·split at h2
  ·rename_i d hd;simp only[AI5]at h2;have h3:=h2.1.1.2;split at h3
   ·rename_i n e;simp only[AI5,AJ5]at h3;intro _;rw[hd,h3.1,h3.2]
   ·intro h;exact(h (by simpa using h3)).elim
  ·cases h2
 ·split at h2
  ·rename_i d hd;simp only[AI5]at h2;intro he;have h3:=h2.2;rw[he]at h3;simpa using h3
  ·cases h2
 ·split at h2
  ·rename_i d hd;simp only[AI5]at h2;have h3:=h2.1.2;split at h3
   ·rename_i n e;simp only[AI5,AJ5]at h3;intro _;rw[hd,h3.1,h3.2]
   ·intro h;exact(h (by simpa using h3)).elim
  ·cases h2
section
variable {w:World} {g:G} {n:Nat} {v:Value}
theorem BQ{a:AV}(ht:a.C5=false)(hu:a.Nc=false)(h:BS w g n a v):∃cs,Cs w g n false a cs/\BK a.isAgg cs v:=by
 rw[BS.iff ht]at h;rcases h with h |h
 ·rw[hu]at h;cases h
 ·exact h
theorem Bl{a:AV}(ht:a.C5=false){cs:AL7 Value}(h:Cs w g n false a cs)(hv:BK a.isAgg cs v):BS w g n a v:=(BS.iff ht).2 (.inr ⟨cs,h,hv⟩)
theorem Di{ks:AL7 Nat}{k:IntKind}{x:Int}(h:BS w g n (.Ax ks (.int k) x) v):v=.int k x:=by
 obtain⟨cs,h,hv⟩:=BQ rfl rfl h;have e:cs=[.int k x]:=h.2;subst e;simpa [BK,AV.isAgg,Ty.isAgg]using hv.symm
theorem RF{ks:AL7 Nat}{x:Bool}(h:BS w g n (.Ax ks .bool x) v):v=.bool x:=by
 obtain⟨cs,h,hv⟩:=BQ rfl rfl h;have e:cs=[.bool x]:=h.2;subst e;simpa [BK,AV.isAgg,Ty.isAgg]using hv.symm
theorem VS{ks:AL7 Nat}{x:ByteArray}(h:BS w g n (.Ax ks .str x) v):v=.string x:=by
 obtain⟨cs,h,hv⟩:=BQ rfl rfl h;have e:cs=[.string x]:=h.2;subst e;simpa [BK,AV.isAgg,Ty.isAgg]using hv.symm
theorem Yu{ks:AL7 Nat}{t:Ty}{xs:AL7 t.V}(h:BS w g n (.Ax ks (.sl t) xs) v):(∀k∈ks,k<n)/\∃ad cap ds,v=.slice ad xs.length cap/\xs.length<=cap/\Ct (Ha w (Al g.own ks) t) xs ds /\
    (xs=[]\/∃b off,ad=some ⟨b,off,none⟩/\Al g.own ks b/\∀j u,ds[j]?=some u->w.cell? ⟨b,off+j,none⟩=some u):=by
 obtain⟨cs,⟨hk,ad,cap,ds,e,h1,h2,h3⟩,hv⟩:=BQ rfl rfl h;subst e;exact⟨hk,ad,cap,ds,by simpa [BK,AV.isAgg,Ty.isAgg]using hv.symm,h1,h2,h3⟩
theorem WR(h:BS w g n .zs v):∃ad,v=.slice ad 0 0:=by
 obtain⟨cs,⟨ad,e⟩,hv⟩:=BQ rfl rfl h;subst e;exact⟨ad,by simpa [BK,AV.isAgg]using hv.symm⟩
theorem EP{k:Nat}(h:BS w g n (.Am k) v):k<n/\v=.slice (g.AQ k).a (g.AQ k).len (g.AQ k).cap:=by
 obtain⟨cs,⟨hk,e⟩,hv⟩:=BQ rfl rfl h;subst e;exact⟨hk,by simpa [BK,AV.isAgg]using hv.symm⟩
theorem KL{k:Nat}{i:Int}{p:AL7 Nat}{o:Nat}(h:BS w g n (.ptr k i p o) v):k<n/\0<=i/\i.toNat<(g.AQ k).len/\∃b,(g.AQ k).a=some ⟨b,0,none⟩/\v=.pointer (some ⟨b,i.toNat*(g.AQ k).jZ+o,none⟩):=by
 obtain⟨cs,⟨hk,h0,h1,b,hb,e⟩,hv⟩:=BQ rfl rfl h;subst e;exact⟨hk,h0,h1,b,hb,by simpa [BK,AV.isAgg]using hv.symm⟩
theorem Xz{ks:AL7 Nat}{t:Ty}{x:t.V}(h:BS w g n (.EJ ks t x) v):(∀k∈ks,k<n)/\∃b off ds,v=.pointer (some ⟨b,off,none⟩)/\Al g.own ks b/\Ha w (Al g.own ks) t x ds/\∀j u,ds[j]?=some u->w.cell? ⟨b,off+j,none⟩=some u:=by
 obtain⟨cs,⟨hk,b,off,ds,e,h1,h2,h3⟩,hv⟩:=BQ rfl rfl h;subst e;exact⟨hk,b,off,ds,by simpa [BK,AV.isAgg]using hv.symm,h1,h2,h3⟩
theorem AdM(k:IntKind)(x:Int):BS w g n (.int k x) (.int k x):=Bl rfl (cs:=[.int k x]) ⟨λ_ h=>by(cases h),rfl⟩ (by simp[BK,AV.isAgg,Ty.isAgg])
theorem ZP(x:Bool):BS w g n (.bool x) (.bool x):=Bl rfl (cs:=[.bool x]) ⟨λ_ h=>by(cases h),rfl⟩ (by simp[BK,AV.isAgg,Ty.isAgg])
theorem AdN(x:ByteArray):BS w g n (.str x) (.string x):=Bl rfl (cs:=[.string x]) ⟨λ_ h=>by(cases h),rfl⟩ (by simp[BK,AV.isAgg,Ty.isAgg])
theorem kJ(ad:AL8 Addr):BS w g n .zs (.slice ad 0 0):=Bl rfl (cs:=[.slice ad 0 0]) ⟨ad,rfl⟩ (by simp[BK,AV.isAgg])
theorem Qy{k:Nat}:BS w g n (.un k) v:=(BS.iff rfl).2 (.inl rfl)
theorem bg{ks:AL7 Nat}{t:Ty}{x:t.V}{b off:Nat}{ds:AL7 Value}(hk:∀k∈ks,k<n)(h1:Al g.own ks b)(h2:Ha w (Al g.own ks) t x ds)(h3:∀j u,ds[j]?=some u->w.cell? ⟨b,off+j,none⟩=some u) :
    BS w g n (.EJ ks t x) (.pointer (some ⟨b,off,none⟩)):=Bl rfl (cs:=[.pointer (some ⟨b,off,none⟩)]) ⟨hk,b,off,ds,rfl,h1,h2,h3⟩ (by simp[BK,AV.isAgg])
theorem bf{k:Nat}{i:Int}{p:AL7 Nat}{o b:Nat}(hk:k<n)(h0:0<=i)(h1:i.toNat<(g.AQ k).len)(hb:(g.AQ k).a=some ⟨b,0,none⟩) :
    BS w g n (.ptr k i p o) (.pointer (some ⟨b,i.toNat*(g.AQ k).jZ+o,none⟩)):=Bl rfl (cs:=[_]) ⟨hk,h0,h1,b,hb,rfl⟩ (by simp[BK,AV.isAgg])
end
section
variable {P:Program} {w:World} {g:G} {n:Nat} {R:Type}
def Un(P:Program)(w:World)(g:G)(n:Nat)(s:Sem Value)(z:AV):Prop:=∃c,s.run P w=.ok c w/\BS w g n z c
theorem BX{s:Sem Value}{k:IntKind}{x:Int}(h:s.run P w=.ok (.int k x) w):Un P w g n s (.int k x):=⟨_,h,AdM k x⟩
theorem C7{s:Sem Value}{x:Bool}(h:s.run P w=.ok (.bool x) w):Un P w g n s (.bool x):=⟨_,h,ZP x⟩
theorem XL{s:Sem Value}{x:ByteArray}(h:s.run P w=.ok (.string x) w):Un P w g n s (.str x):=⟨_,h,AdN x⟩
theorem AfF{op:BinOp}{x y:AV}{u v:Value}{K:AV->AL8 R}{r:R}{tb:Bool}(t:TypeId)(ox oy:Operand)(htb:tb=true->P.underlying t=some .bool)(h:l5 op tb x y K=some r)(hx:BS w g n x u)(hy:BS w g n y v) :
    ∃z,K z=some r/\Un P w g n (do eqGuard op t ox oy u v;binOp op t u v) z:=by
 unfold l5 at h;split at h
 ·rename_i ks k a Uh k' b;obtain rfl:=Di hx;obtain rfl:=Di hy;split at h
  ·split at h
   ·cases h
   ·rename_i hb;exact⟨_,h,BX (by simp[eqGuard,binOp,Op.shift,hb,NL])⟩
  ·split at h
   ·cases h
   ·rename_i hb;exact⟨_,h,BX (by simp[eqGuard,binOp,Op.shift,hb,SD])⟩
  ·split at h
   ·rename_i hk;subst hk;cases op<;>simp only[reduceCtorEq]at h
    case add=>exact⟨_,h,BX (by simp[eqGuard,binOp,Op.intArith])⟩
    case sub=>exact⟨_,h,BX (by simp[eqGuard,binOp,Op.intArith])⟩
    case mul=>exact⟨_,h,BX (by simp[eqGuard,binOp,Op.intArith])⟩
    case quo =>
     split at h
     ·cases h
     ·rename_i hb;exact⟨_,h,BX (by simp[eqGuard,binOp,Op.intDiv,hb])⟩
    case rem =>
     split at h
     ·cases h
     ·rename_i hb;exact⟨_,h,BX (by simp[eqGuard,binOp,Op.intDiv,hb])⟩
    case and=>exact⟨_,h,BX (by simp[eqGuard,binOp,Op.intBits,iF])⟩
    case or=>exact⟨_,h,BX (by simp[eqGuard,binOp,Op.intBits,de])⟩
    case xor=>exact⟨_,h,BX (by simp[eqGuard,binOp,Op.intBits,Aqc])⟩
    case andNot=>exact⟨_,h,BX (by simp[eqGuard,binOp,Op.intBits,vD])⟩
    case eql=>exact⟨_,h,C7 (by simp[eqGuard,binOp,Op.intCmp])⟩
    case neq=>exact⟨_,h,C7 (by simp[eqGuard,binOp,Op.intCmp])⟩
    case lss=>exact⟨_,h,C7 (by simp[eqGuard,binOp,Op.intCmp])⟩
    case leq=>exact⟨_,h,C7 (by simp[eqGuard,binOp,Op.intCmp])⟩
    case gtr=>exact⟨_,h,C7 (by simp[eqGuard,binOp,Op.intCmp])⟩
    case geq=>exact⟨_,h,C7 (by simp[eqGuard,binOp,Op.intCmp])⟩
   ·cases h
 ·rename_i ks a Uh b;obtain rfl:=VS hx;obtain rfl:=VS hy;cases op<;>simp only[reduceCtorEq]at h
  case add =>
   split at h
   ·rename_i hb;refine⟨_,h,XL ?_⟩;have:¬(((a.size+b.size:Nat):Int)>IntKind.i64.max):=by simp[IntKind.max,IntKind.signed,IntKind.bits];omega
    simp[eqGuard,binOp,Op.stringOp];omega
   ·cases h
  case eql=>exact⟨_,h,C7 (by simp[eqGuard,binOp,Op.stringOp,Jj])⟩
  case neq=>exact⟨_,h,C7 (by simp[eqGuard,binOp,Op.stringOp,Jj])⟩
  case lss=>exact⟨_,h,C7 (by simp[eqGuard,binOp,Op.stringOp,strLt])⟩
  case leq=>exact⟨_,h,C7 (by simp[eqGuard,binOp,Op.stringOp,strLt,Jj])⟩
  case gtr=>exact⟨_,h,C7 (by simp[eqGuard,binOp,Op.stringOp,strLt,Jj])⟩
  case geq=>exact⟨_,h,C7 (by simp[eqGuard,binOp,Op.stringOp,strLt])⟩
 ·rename_i ks a Uh b;obtain rfl:=RF hx;obtain rfl:=RF hy;split at h
  ·rename_i hb;have hu:=htb hb;have he:(Op.equal t (.bool a) (.bool b)).run P w=.ok (a==b) w:=run_equal_bool w t a b hu;cases op<;>simp only[reduceCtorEq]at h
   case eql=>exact⟨_,h,C7 (by simp[eqGuard,binOp,he])⟩
   case neq=>exact⟨_,h,C7 (by simp[eqGuard,binOp,he])⟩
  ·cases h
 ·cases h
theorem Ap8{op:UnOp}{x:AV}{u:Value}{K:AV->AL8 R}{r:R}(h:unA op x K=some r)(hx:BS w g n x u) :
    ∃z,K z=some r/\Un P w g n (Op.unary op u) z:=by
 unfold unA at h;split at h
 ·obtain rfl:=RF hx;split at h
  ·exact⟨_,h,C7 (by simp[Op.unary])⟩
  ·cases h
 ·obtain rfl:=Di hx;split at h
  ·exact⟨_,h,BX (by simp[Op.unary,Op.intArith])⟩
  ·exact⟨_,h,BX (by simp only[Op.unary,Op.intBits];rfl)⟩
  ·cases h
 ·cases h
variable {bs:AL7 Blk}
theorem Bs{t:Nat}{ti:TI}(h:EC P t ti)(hs:ti.DZ=true):P.underlying t=some (.slice ti.elem):=by
 obtain⟨d,hd,hk⟩:=h.cJ;unfold TI.DZ at hs;split at hs
 ·rename_i u hu;rw[hd];cases d<;>simp[kindOk,hu,Ty.isAgg]at hk;rename_i e;rw[hk]
 ·cases hs
theorem Rk{t:Nat}{ti:TI}(h:EC P t ti)(hs:ti.ty=.str):P.underlying t=some .string:=by
 obtain⟨d,hd,hk⟩:=h.cJ;rw[hd];cases d<;>simp[kindOk,hs,Ty.isAgg]at hk;rfl
theorem tC{t:Nat}{ti:TI}(h:EC P t ti)(hs:ti.ty=.bool):P.underlying t=some .bool:=by
 obtain⟨d,hd,hk⟩:=h.cJ;rw[hd];cases d<;>simp[kindOk,hs,Ty.isAgg]at hk;rfl
theorem Du{t:Nat}{ti:TI}(h:EC P t ti):(sizeOf t).run P w=.ok ti.ty.size w:=by
 obtain⟨i,z,hi,hs,_⟩:=h.info;simp[sizeOf,typeInfo,hi,hs]
theorem Zk{t:Nat}{ti:TI}(h:EC P t ti):(isAgg t).run P w=.ok ti.ty.isAgg w:=by
 obtain⟨d,hd,hk⟩:=h.cJ;cases d<;>simp[isAgg,underlying,hd,kindOk]at hk⊢
 case int=>rw[hk];rfl
 case bool=>rw[hk];rfl
 case string=>rw[hk];rfl
 case slice =>
  obtain⟨_,hk⟩:=hk;split at hk
  ·rename_i u hu;rw[hu];rfl
  ·cases hk
 case array=>exact hk
 case struct=>exact hk.1
 case pointer =>
  split at hk
  ·rename_i u hu;rw[hu];rfl
  ·cases hk
 case map =>
  split at hk
  ·rename_i u hu;rw[hu];rfl
  ·cases hk
 case func =>
  split at hk
  ·rename_i u hu;rw[hu];rfl
  ·cases hk
theorem Ahr(H:Ba w g bs){t:Nat}{ti:TI}(ht:EC P t ti){x:AV}{u:Value}{K:AV->AL8 R}{r:R}(h:nK bs ti x K=some r)(hx:BS w g bs.length x u)(ty:TypeId)(ts:Array TypeId)(WG:ts[0]?=some t) :
    ∃z,K z=some r/\Un P w g n (Builtin.len_ ts ty #[u]) z:=by
 unfold nK at h;split at h
 ·split at h
  ·rename_i hs;obtain⟨_,ad,cap,ds,rfl,_⟩:=Yu hx;exact⟨_,h,BX (by simp[Builtin.len_,WG,underlying,Bs ht hs,goInt])⟩
  ·cases h
 ·split at h
  ·rename_i hs;obtain rfl:=VS hx;exact⟨_,h,BX (by simp[Builtin.len_,WG,underlying,Rk ht hs,goInt])⟩
  ·cases h
 ·split at h
  ·rename_i hs;obtain⟨ad,rfl⟩:=WR hx;exact⟨_,h,BX (by simp[Builtin.len_,WG,underlying,Bs ht hs,goInt])⟩
  ·cases h
 ·rename_i k;split at h
  ·rename_i e m t' xs hb;split at h
   ·rename_i hs;obtain⟨hk,rfl⟩:=EP hx;have hl:=(H.Ls k _ hb).2.1;exact⟨_,h,BX (by simp[Builtin.len_,WG,underlying,Bs ht hs,goInt,hl])⟩
   ·cases h
  ·rename_i e t' xs i p hb;split at h
   ·rename_i hs;obtain⟨hk,rfl⟩:=EP hx;have hl:=(H.Ls k _ hb).1;exact⟨_,h,BX (by simp[Builtin.len_,WG,underlying,Bs ht hs,goInt,hl])⟩
   ·cases h
  ·cases h
 ·cases h
theorem ApR{mx:Bool}{x y:AV}{u v:Value}{K:AV->AL8 R}{r:R}(h:zS mx x y K=some r)(hx:BS w g n x u)(hy:BS w g n y v)(ty:TypeId)(ts:Array TypeId) :
    ∃z,K z=some r/\Un P w g n (if mx then Builtin.max_ ts ty #[u,v]else Builtin.min_ ts ty #[u,v]) z:=by
 unfold zS at h;split at h
 ·obtain rfl:=Di hx;obtain rfl:=Di hy;split at h
  ·rename_i hk;subst hk;refine⟨_,h,BX ?_⟩;cases mx
   ·simp[Builtin.min_,Builtin.min2]
   ·simp[Builtin.max_,Builtin.max2]
  ·cases h
 ·cases h
theorem VL{i:Int}{n:Nat}(h:0<=i/\i<(n:Int)):i.toNat<n:=by omega
theorem X3(b o i:Nat):(⟨b,o,none⟩:Addr).add i=⟨b,o+i,none⟩:=by unfold Addr.add;split<;>simp_all
theorem RY{t:Nat}{ti:TI}(h:EC P t ti){b off:Nat}{cs:AL7 Value}(hl:cs.length=ti.ty.size)(hc:∀j u,cs[j]?=some u->w.cell? ⟨b,off+j,none⟩=some u)(hs:ti.ty.isAgg=false->cs.length=1) :
    ∃v,(loadVar t ⟨b,off,none⟩).run P w=.ok v w/\BK ti.ty.isAgg cs v:=by
 unfold loadVar;cases ha:ti.ty.isAgg with
 |true =>
  have hr:=run_loadCells_list (P:=P) w ⟨b,off,none⟩ cs (λj u hu=>by rw[X3];exact hc j u hu);rw[hl]at hr;exact⟨.agg cs.toArray,by simp[Zk h,ha,Du h,hr],by simp[BK]⟩
 |false =>
  have h1:=hs ha;obtain⟨c,rfl⟩:∃c,cs=[c]:=by
   cases cs with
   |nil=>simp at h1
   |cons c r=>cases r with
    |nil=>exact⟨c,rfl⟩
    |cons _ _=>simp at h1
  have F6:=hc 0 c rfl;rw[AKV]at F6;exact⟨c,by simp[Zk h,ha,load,Sem.run,F6],by simp[BK]⟩
theorem R6{t:Ty}(h:t.isAgg=false):t.size=1:=by cases t<;>simp_all [Ty.isAgg,Ty.size]
theorem AE{t:Ty}(xs:AL7 t.V)(i:Nat)(z:t.V)(h:i<xs.length):xs.getD i z=xs[i]:=by simp[List.getD,h]
theorem AaR(H:Ba w g bs){k:Nat}{i:Int}{a:AV}(h:atB bs k i=some a)(hi:i.toNat<(g.AQ k).len){b:Nat}(hb:(g.AQ k).a=some ⟨b,0,none⟩) :
    ∃cs,Cs w g bs.length false a cs/\∀j u,cs[j]?=some u->w.cell? ⟨b,i.toNat*(g.AQ k).jZ+j,none⟩=some u:=by
 unfold atB at h;split at h
 ·rename_i a' hx;injection h with h;subst h;obtain⟨h1,b',cs,e,ha,ho,hh,hr⟩:=H.Ls k _ hx;rw[hb]at ha;injection ha with ha;injection ha with ha;subst ha;refine⟨cs.toList,hr,λj u hu=>?_⟩;have:i.toNat=0:=by omega
  rw[this,Nat.zero_mul,AJu,PE hh,<-AJc];exact hu
 ·rename_i e m t xs hx;injection h with h;subst h;obtain⟨QA,hlen,Pu,BH,hr⟩:=H.Ls k _ hx;have Bh:=AO hx;rw[hlen]at hi;rcases hr with ⟨WC,_⟩|⟨b',Bp,ds,ha,ho,⟨el,Tx,hh⟩,h1,h2,h3,h4,hc⟩
  ·subst WC;simp at hi
  ·rw[hb]at ha;injection ha with ha;injection ha with ha;subst ha;rw[AE _ _ _ hi,Pu];have C9:∀j u,ds[j]?=some u->w.cell? ⟨b,j,none⟩=some u:=by
    intro j u hu;rw[PE hh,<-AJc];subst h4;rw[AJM]at hu;split at hu
    ·exact hu
    ·cases hu
   cases m with
   |Ai =>
    obtain⟨c0,c,d,e1,hl,hr,_,_⟩:=Bd.AQ (λi x c h=>Jl.len h) hc hi;refine⟨c,⟨XP (λj hj=>by simp at hj;omega),XS (hr.rd λb q hq=>.mem (List.mem_singleton.2 rfl) hq)⟩,λj u hu=>?_⟩;refine C9 _ u ?_;rw[e1,<-hl,AI6,AJk (by omega),show c0.length+j-c0.length=j by omega,AJl (AO hu)];exact hu
   |sh ks =>
    obtain⟨c0,c,d,e1,hl,hr,_,_⟩:=Ct.AQ (λx c h=>Ha.len h) hc hi;refine⟨c,⟨XP QA,XS hr⟩,λj u hu=>?_⟩;refine C9 _ u ?_;rw[e1,<-hl,AI6,AJk (by omega),show c0.length+j-c0.length=j by omega,AJl (AO hu)];exact hu
 ·cases h
theorem Vj(H:Ba w g bs){k:Nat}{i:Int}{p:AL7 Nat}{o:Nat}{a:AV}(h:atP bs k i p o=some a)(hi:i.toNat<(g.AQ k).len){b:Nat}(hb:(g.AQ k).a=some ⟨b,0,none⟩) :
    ∃cs,Cs w g bs.length false a cs/\∀j u,cs[j]?=some u->w.cell? ⟨b,i.toNat*(g.AQ k).jZ+o+j,none⟩=some u:=by
 unfold atP at h;split at h
 ·rename_i c hc;split at h
  ·rename_i ho;obtain⟨cs,hx,C9⟩:=AaR H hc hi hb;obtain⟨c0,c1,c2,e,iU,cY,_⟩:=Q8 p c cs a hx h;rw[ho]at iU;injection iU with iU;subst iU;refine⟨c1,cY,λj u hu=>?_⟩;rw[AJ0];refine C9 _ u ?_;rw[e,AI6,AJk (by omega),show c0.length+j-c0.length=j by omega,AJl (AO hu)];exact hu
  ·cases h
 ·cases h
theorem U1{a:AV}{cs:AL7 Value}(h:Cs w g n false a cs):a.C5=false:=by cases a<;>first |rfl |exact h.elim
theorem AdD(H:Ba w g bs){t:Nat}{ti:TI}(ht:EC P t ti){x:AV}{u:Value}{K:AV->AL8 R}{r:R}(h:Yi bs ti x K=some r)(hx:BS w g bs.length x u) :
    ∃z,K z=some r/\Un P w g bs.length (Instr.loadAt t u) z:=by
 unfold Yi at h;split at h
 ·rename_i ks t' y;split at h
  ·rename_i he;subst he;obtain⟨hk,b,off,ds,rfl,ha,hr,hc⟩:=Xz hx;obtain⟨v,hv,hs⟩:=RY (w:=w) ht hr.len hc (λhg=>by rw[hr.len];exact R6 hg);exact⟨_,h,v,by simp[Instr.loadAt,Instr.sureAddr,hv],Bl rfl (cs:=ds) ⟨XP hk,XS hr⟩ hs⟩
  ·cases h
 ·rename_i k i p o;split at h
  ·rename_i a ha;split at h
   ·rename_i hs;obtain⟨hk,h0,h1,b,hb,rfl⟩:=KL hx;obtain⟨cs,iP,C9⟩:=Vj H ha h1 hb;obtain⟨v,hv,o5⟩:=RY (w:=w) ht (by rw[iP.len,hs.1]) C9 (λhg=>by rw[iP.len,hs.1];exact R6 hg);rw[<-hs.2]at o5;exact⟨_,h,v,by simp[Instr.loadAt,Instr.sureAddr,hv],Bl (U1 iP) iP o5⟩
   ·cases h
  ·cases h
 ·cases h
theorem Ahg(H:Ba w g bs){t:Nat}{ti te:TI}(ht:EC P t ti)(DY:EC P ti.elem te)(hs:ti.DZ=true){x y:AV}{u v:Value}{K:AV->AL8 R}{r:R}(h:uk bs te.ty x y K=some r)(hx:BS w g bs.length x u)(hy:BS w g bs.length y v) :
    ∃z,K z=some r/\Un P w g bs.length (Instr.indexAt t u v) z:=by
 have hu:=Bs ht hs;unfold uk at h;split at h
 ·rename_i ks t' xs Uh k i;split at h
  ·rename_i he;subst he;split at h
   ·rename_i hi;obtain rfl:=Di hy;obtain⟨hk,ad,cap,ds,rfl,hl,hr,hm⟩:=Yu hx;have Bh:i.toNat<xs.length:=VL hi;rcases hm with hm |⟨b,off,rfl,ha,hc⟩
    ·subst hm;simp at Bh
    ·obtain⟨c0,c,d,e1,dF,aS,_,_⟩:=Ct.AQ (λx c h=>Ha.len h) hr Bh;refine⟨_,h,.pointer (some ⟨b,off+i.toNat*te.ty.size,none⟩),?_,?_⟩
     ·simp[Instr.indexAt,asIntOf,underlying,hu,hi.1,hi.2,Du DY,X3]
     ·rw[AE _ _ _ Bh];refine bg hk ha aS λj q hq=>?_;rw[<-dF,AJ0];refine hc _ q ?_;rw[e1,AI6,AJk (by omega),show c0.length+j-c0.length=j by omega,AJl (AO hq)];exact hq
   ·cases h
  ·cases h
 ·rename_i k Uh kk i;split at h
  ·rename_i e m t' xs hb;split at h
   ·rename_i he;subst he;split at h
    ·rename_i hi;obtain rfl:=Di hy;obtain⟨hk,rfl⟩:=EP hx;obtain⟨QA,hlen,Pu,BH,hr⟩:=H.Ls k _ hb;have Bh:i.toNat<xs.length:=VL hi;rcases hr with ⟨WC,_⟩|⟨b,Bp,ds,ha,ho,⟨el,Tx,hh⟩,h1,h2,h3,h4,hc⟩
     ·subst WC;simp at Bh
     ·refine⟨_,h,.pointer (some ⟨b,i.toNat*(g.AQ k).jZ+0,none⟩),?_,bf hk hi.1 (by rw[hlen];exact Bh) ha⟩;simp[Instr.indexAt,asIntOf,underlying,hu,hi.1,hi.2,Du DY,ha,hlen,Pu,X3]
    ·cases h
   ·cases h
  ·rename_i e t' xs i' p' hb;split at h
   ·rename_i he;subst he;split at h
    ·rename_i hi;obtain rfl:=Di hy;obtain⟨hk,rfl⟩:=EP hx;obtain⟨hlen,Pu,BH,_,_,_,_,_,b,_,_,_,_,_,ha,_⟩:=H.Ls k _ hb;have Bh:i.toNat<xs.length:=VL hi;refine⟨_,h,.pointer (some ⟨b,i.toNat*(g.AQ k).jZ+0,none⟩),?_,bf hk hi.1 (by rw[hlen];exact Bh) ha⟩;simp[Instr.indexAt,asIntOf,underlying,hu,hi.1,hi.2,Du DY,ha,hlen,Pu,X3]
    ·cases h
   ·cases h
  ·cases h
 ·cases h
theorem AgG{t:Nat}{ti:TI}(ht:EC P t ti)(hs:ti.ty=.str){x y:AV}{u v:Value}{K:AV->AL8 R}{r:R}(h:mb x y K=some r)(hx:BS w g n x u)(hy:BS w g n y v) :
    ∃z,K z=some r/\Un P w g n (Instr.index t u v) z:=by
 unfold mb at h;split at h
 ·rename_i ks s Uh k i;split at h
  ·rename_i hi;obtain rfl:=Di hy;obtain rfl:=VS hx;refine⟨_,h,BX ?_⟩;have Bh:i.toNat<s.size:=VL hi;simp[Instr.index,asIntOf,underlying,Rk ht hs,hi.1,Cz,Bh]
  ·cases h
 ·cases h
end
section
variable {P:Program} {w:World} {g:G} {n:Nat} {R:Type} {bs:AL7 Blk}
theorem mL{ty:Ty}:∀{fs:AL7 Field} {os:AL7 Nat} {i j o:Nat},M5 P ty i fs os=true->os[j]?=some o ->
    ∃fd u inf,fs[j]?=some fd/\fd.offset=o/\TX ty (i+j)=some o/\ic ty (i+j)=some u/\P.info? fd.type=some inf/\inf.size=u.size/\u.size≠0
 |[],[],_,_,_,_,h=>by simp at h
 |f::fs,o'::os,i,0,o,h,ho=>by
  simp only[List.getElem?_cons_zero,AI0]at ho;subst ho;simp only[M5,AI5,AJ5]at h;obtain⟨⟨⟨h1,h2⟩,h3⟩,_⟩:=h;split at h3
  ·rename_i u hu;simp only[AI5,AJ5,AKC]at h3;cases hi:P.info? f.type with
   |none=>simp[hi]at h3
   |some inf=>simp[hi]at h3;exact⟨f,u,inf,rfl,h1,by simpa using h2,by simpa using hu,hi,h3.1.1,h3.1.2⟩
  ·cases h3
 |f::fs,o'::os,i,j+1,o,h,ho=>by
  simp only[M5,AI5]at h;obtain⟨fd,u,inf,h1,h2,h3,h4,h5⟩:=mL (i:=i+1) h.2 (by simpa using ho);exact⟨fd,u,inf,by simpa using h1,h2,by rw[show i+(j+1)=i+1+j by omega];exact h3,by rw[show i+(j+1)=i+1+j by omega];exact h4,h5⟩
 |[],_::_,_,_,_,h,_=>by simp[M5]at h
 |_::_,[],_,_,_,h,_=>by simp[M5]at h
theorem Wg{t:Nat}{ti:TI}(h:EC P t ti){f o:Nat}(ho:ti.VG[f]?=some o) :
    ∃fs,P.underlying t=some (.struct fs)/\M5 P ti.ty 0 fs.toList ti.VG=true:=by
 rcases h.VG with ⟨fs,hfs⟩|he
 ·obtain⟨d,hd,hk⟩:=h.cJ;rw[hfs]at hd;injection hd with hd;subst hd;simp only[kindOk,AI5]at hk;exact⟨fs,hfs,hk.2⟩
 ·rw[he]at ho;simp at ho
theorem Us{t:Nat}{ti:TI}(h:EC P t ti){f fo:Nat}(ho:ti.VG[f]?=some fo)(b o:Nat) :
    (Instr.fieldAt t (.pointer (some ⟨b,o,none⟩)) f).run P w=.ok (.pointer (some ⟨b,o+fo,none⟩)) w/\TX ti.ty f=some fo/\∃u,ic ti.ty f=some u:=by
 obtain⟨fs,hu,hf⟩:=Wg h ho;obtain⟨fd,u,inf,h1,h2,h3,h4,h5,h6,h7⟩:=mL hf ho;rw[AJu]at h3 h4;refine⟨?_,h3,u,h4⟩;have hfd:fs[f]?=some fd:=by rw[<-AJc];exact h1
 have KD:(sizeOf fd.type).run P w=.ok u.size w:=by simp[sizeOf,typeInfo,h5,h6]
 simp[Instr.fieldAt,underlying,hu,hfd,Instr.sureAddr,fieldPlace,KD,h7,X3,h2]
theorem AgQ{t:Nat}{ti:TI}(ht:EC P t ti){f:Nat}{x:AV}{u:Value}{K:AV->AL8 R}{r:R}(h:iM ti f x K=some r)(hx:BS w g n x u) :
    ∃z,K z=some r/\Un P w g n (Instr.fieldAt t u f) z:=by
 unfold iM at h;split at h
 ·rename_i k i p o;split at h
  ·rename_i fo hfo;obtain⟨hk,h0,h1,b,hb,rfl⟩:=KL hx;refine⟨_,h,_,(Us ht hfo b _).1,?_⟩;rw[AJ0];exact bf hk h0 h1 hb
  ·cases h
 ·rename_i ks t' y;split at h
  ·rename_i he;obtain⟨rfl,he⟩:=he;split at h
   ·rename_i Uh v z hz;obtain⟨hk,b,off,ds,rfl,ha,hr,hc⟩:=Xz hx;obtain⟨c0,c1,c2,e,ho,_,⟨u',y',heq,aS⟩,_⟩:=XK (g:=g) hk f _ y ds _ hr hz;injection heq with _ h2 h3;subst h2;obtain rfl:=eq_of_heq h3;rw[ho]at he;refine⟨_,h,_,(Us ht he.symm b off).1,bg hk ha aS λj q hq=>?_⟩;rw[AJ0];refine hc _ q ?_;rw[e,AI6,AJk (by omega),show c0.length+j-c0.length=j by omega,AJl (AO hq)];exact hq
   ·cases h
  ·cases h
 ·cases h
theorem wo:∀{x:AV} {i:Nat} {z:AV} {vs:AL7 Value},O2 x i=some z->Cs w g n true x vs->∃v,vs[i]?=some v/\(z.C5=false->BS w g n z v)
 |.cons a b,0,z,vs,h,hx=>by
  simp only[O2,AI0]at h;subst h;obtain⟨v,r,e,h1,_⟩:=hx;subst e;exact⟨v,rfl,λht=>(BS.iff ht).2 h1⟩
 |.cons a b,i+1,z,vs,h,hx=>by
  simp only[O2]at h;obtain⟨v,r,e,_,h2⟩:=hx;subst e;obtain⟨u,hu,hz⟩:=wo h h2;exact⟨u,by simpa using hu,hz⟩
 |.nil,_,_,_,h,_=>by simp[O2]at h
 |.Ax _ _ _,_,_,_,h,_=>by simp[O2]at h
 |.zs,_,_,_,h,_=>by simp[O2]at h
 |.Am _,_,_,_,h,_=>by simp[O2]at h
 |.mp _,_,_,_,h,_=>by simp[O2]at h
 |.ptr _ _ _ _,_,_,_,h,_=>by simp[O2]at h
 |.EJ _ _ _,_,_,_,h,_=>by simp[O2]at h
 |.LO,_,_,_,h,_=>by simp[O2]at h
 |.pr _ _,_,_,_,h,_=>by simp[O2]at h
 |.fn _ _,_,_,_,h,_=>by simp[O2]at h
 |.Tf _ _ _ _ _,_,_,_,h,_=>by simp[O2]at h
 |.U6 _ _ _ _ _ _,_,_,_,h,_=>by simp[O2]at h
 |.un _,_,_,_,h,_=>by simp[O2]at h
def Aaq(w:World)(g:G)(n:Nat):AL8 AV->AL8 Value->Prop
 |none,none=>True
 |some a,some v=>BS w g n a v
 |_,_=>False
theorem WT{x:AL8 AV}{v:AL8 Value}{d i:Int}(h:bnd x d=some i)(hx:Aaq w g n x v):(v=none/\i=d)\/∃k,v=some (.int k i):=by
 unfold bnd at h;split at h
 ·cases v with
  |none=>simp at h;exact .inl ⟨rfl,h.symm⟩
  |some _=>exact hx.elim
 ·cases v with
  |none=>exact hx.elim
  |some u=>simp at h;subst h;exact .inr ⟨_,congrArg some (Di hx)⟩
 ·cases h
theorem QT{isS:Bool}{len cap:Nat}{lo hi:AL8 Value}{l h:Int}(hl:(lo=none/\l=0)\/∃k,lo=some (.int k l))(hh:(hi=none/\h=(len:Int))\/∃k,hi=some (.int k h))
    (h0:0<=l) (h1:l<=h) (h2:h<=(len:Int)) (hc:len<=cap):(Instr.sliceBounds isS len cap lo hi none).run P w=.ok (l.toNat,h.toNat,cap) w:=by
 have e1:((h.toNat:Nat):Int)=h:=by omega
 have e2:h<=(cap:Int):=by omega
 have e3:0<=h:=by omega
 rcases hl with ⟨rfl,rfl⟩|⟨k,rfl⟩<;>rcases hh with ⟨rfl,rfl⟩|⟨k',rfl⟩
 ·simp[Instr.sliceBounds]
 ·simp[Instr.sliceBounds,Instr.sliceBound,asIntOf,e2,e3]
 ·simp[Instr.sliceBounds,Instr.sliceBound,asIntOf,h0,h1]
 ·simp[Instr.sliceBounds,Instr.sliceBound,asIntOf,e2,e3,h0,h1,e1]
theorem KB{t:Nat}{ti:TI}(h:EC P t ti)(hs:ti.DZ=true)(a:AL8 Addr)(len cap:Nat)(lo hi mx:AL8 Value)(w:World) :
    (Instr.sliceAt t (.slice a len cap) lo hi mx).run P w=(Instr.slice t (.slice a len cap) lo hi mx).run P w:=by
 simp[Instr.sliceAt,underlying,Bs h hs]
theorem rM{t:Nat}{ti:TI}(h:EC P t ti)(hs:ti.ty=.str)(s:ByteArray)(lo hi mx:AL8 Value)(w:World) :
    (Instr.sliceAt t (.string s) lo hi mx).run P w=(Instr.slice t (.string s) lo hi mx).run P w:=by
 simp[Instr.sliceAt,underlying,Rk h hs]
theorem xc{A:Nat->Prop}{t:Ty}{xs:AL7 t.V}{ad:AL8 Addr}{cap:Nat}{ds:AL7 Value}{l h:Nat}(h1:l<=h)(h2:h<=xs.length)(hc:xs.length<=cap)
    (hr:Ct (Ha w A t) xs ds) (hm:xs=[]\/∃b off,ad=some ⟨b,off,none⟩/\A b/\∀j u,ds[j]?=some u->w.cell? ⟨b,off+j,none⟩=some u) :
    Ha w A (.sl t) ((xs.take h).drop l) [.slice (if cap=l then ad else ad.map (·.add (l*t.size))) (h-l) (cap-l)]:=by
 have hlen:((xs.take h).drop l).length=h-l:=by simp[AJj];omega
 refine⟨_,cap-l,((ds.take (h*t.size)).drop (l*t.size)),by rw[hlen],by rw[hlen];omega,?_,?_⟩
 ·exact Ct.Aci (λx c r=>Ha.len r) l (Ct.takeN (λx c r=>Ha.len r) h hr)
 ·rcases Nat.eq_or_lt_of_le h1 with e |Bh
  ·subst e;exact .inl (by apply AJT;rw[hlen];omega)
  ·rcases hm with hx |⟨b,off,rfl,ha,C9⟩
   ·subst hx;simp at h2;omega
   ·refine .inr ⟨b,off+l*t.size,?_,ha,λj u hu=>?_⟩
    ·rw[AJh (by omega)];simp[X3]
    ·rw[AKW,AJM]at hu;split at hu
     ·rw[AJ0];exact C9 _ u hu
     ·cases hu
theorem zb(H:Ba w g bs){t:Nat}{ti:TI}(ht:EC P t ti){te:AL8 Ty}(DY:∀u,te=some u->ti.DZ=true/\∃iD,iD.ty=u/\EC P ti.elem iD){x:AV}{lo hi mx:AL8 AV}{u:Value}{vlo vhi zU:AL8 Value}
    {K:AV->AL8 R} {r:R} (h:Wb bs ti te x lo hi mx K=some r) (hx:BS w g bs.length x u) (zM:Aaq w g bs.length lo vlo) (wM:Aaq w g bs.length hi vhi) (qI:Aaq w g bs.length mx zU) :
    ∃z,K z=some r/\Un P w g bs.length (Instr.sliceAt t u vlo vhi zU) z:=by
 unfold Wb at h;split at h
 ·rename_i ks k m;split at h
  ·rename_i Uh k' hh;split at h
   ·rename_i hz;obtain⟨rfl,rfl,hs⟩:=hz;obtain⟨u',zO⟩:=Option.isSome_iff_exists.1 hs;obtain⟨hs,iD,rfl,qQ⟩:=DY _ zO;obtain rfl:vlo=none:=by cases vlo with |none=>rfl |some _=>exact zM.elim
    obtain⟨vh,rfl,e1⟩:∃v,vhi=some v/\v=.int k' 0:=by cases vhi with |none=>exact wM.elim |some v=>exact⟨v,rfl,Di wM⟩
    obtain⟨vm,rfl,e2⟩:∃v,zU=some v/\v=.int k 0:=by cases zU with |none=>exact qI.elim |some v=>exact⟨v,rfl,Di qI⟩
    subst e1;subst e2;have key:∀(a:AL8 Addr) (len cap:Nat),(Instr.sliceAt t (.slice a len cap) none (some (.int k' 0)) (some (.int k 0))).run P w=.ok (.slice a 0 0) w:=λa len cap=>by
     rw[KB ht hs];simp[Instr.slice,underlying,Bs ht hs,Instr.sliceBounds,Instr.sliceBound,asIntOf,Du qQ]
    split at h
    ·obtain⟨_,ad,cap,ds,rfl,_⟩:=Yu hx;exact⟨_,h,_,key _ _ _,kJ _⟩
    ·obtain⟨ad,rfl⟩:=WR hx;exact⟨_,h,_,key _ _ _,kJ _⟩
    ·split at h
     ·obtain⟨_,rfl⟩:=EP hx;exact⟨_,h,_,key _ _ _,kJ _⟩
     ·cases h
    ·cases h
   ·cases h
  ·cases h
 ·cases h
 ·split at h
  ·rename_i ks s;split at h
   ·rename_i l hh hl hhh;split at h
    ·rename_i hc;obtain⟨hs,h0,h1,h2⟩:=hc;obtain rfl:=VS hx;obtain rfl:zU=none:=by cases zU with |none=>rfl |some _=>exact qI.elim
     refine⟨_,h,XL ?_⟩;rw[rM ht hs];have hb:=QT (P:=P) (w:=w) (isS:=false) (cap:=s.size) (WT hl zM) (WT hhh wM) h0 h1 h2 (AI4 _);simp[Instr.slice,underlying,Rk ht hs,hb]
    ·cases h
   ·cases h
  ·rename_i ks t' xs;split at h
   ·rename_i l hh hl hhh;split at h
    ·rename_i he;obtain⟨hs,iD,rfl,qQ⟩:=DY _ he;split at h
     ·rename_i hc;obtain⟨h0,h1,h2⟩:=hc;obtain⟨hk,ad,cap,ds,rfl,aP,hr,hm⟩:=Yu hx;obtain rfl:zU=none:=by cases zU with |none=>rfl |some _=>exact qI.elim
      refine⟨_,h,?_⟩;have hb:=QT (P:=P) (w:=w) (isS:=true) (cap:=cap) (WT hl zM) (WT hhh wM) h0 h1 h2 aP;refine⟨.slice (if cap=l.toNat then ad else ad.map (·.add (l.toNat*iD.ty.size))) (hh.toNat-l.toNat) (cap-l.toNat),?_,?_⟩
      ·rw[KB ht hs];simp[Instr.slice,underlying,Bs ht hs,hb,Du qQ]
      ·exact Bl rfl (cs:=[_]) ⟨hk,xc (by omega) (by omega) aP hr hm⟩ (by simp[BK,AV.isAgg,Ty.isAgg])
     ·cases h
    ·cases h
   ·cases h
  ·rename_i k;split at h
   ·rename_i e m t' xs hb;split at h
    ·rename_i l hh hl hhh;split at h
     ·rename_i he;obtain⟨hs,iD,rfl,qQ⟩:=DY _ he;split at h
      ·rename_i hc;obtain⟨h0,h1,h2⟩:=hc;obtain⟨cs,iP,hv⟩:=BQ rfl rfl hx;have fW:=P4 H (.sl iD.ty) (.Am k) xs cs (by simp[rd,hb,IP]) iP;obtain⟨⟨ad,cap,ds,e1,aP,hr,hm⟩,wQ⟩:=fW;subst e1;have Aps:(AV.Am k).TS bs=k::m.Cf:=by simp[AV.TS,Z0,hb]
       rw[Aps]at wQ hr hm;obtain rfl:u=.slice ad xs.length cap:=by simpa [BK,AV.isAgg]using hv.symm
       obtain rfl:zU=none:=by cases zU with |none=>rfl |some _=>exact qI.elim
       refine⟨_,h,?_⟩;have hb:=QT (P:=P) (w:=w) (isS:=true) (cap:=cap) (WT hl zM) (WT hhh wM) h0 h1 h2 aP;refine⟨.slice (if cap=l.toNat then ad else ad.map (·.add (l.toNat*iD.ty.size))) (hh.toNat-l.toNat) (cap-l.toNat),?_,?_⟩
       ·rw[KB ht hs];simp[Instr.slice,underlying,Bs ht hs,hb,Du qQ]
       ·exact Bl rfl (cs:=[_]) ⟨wQ,xc (by omega) (by omega) aP hr hm⟩ (by simp[BK,AV.isAgg,Ty.isAgg])
      ·cases h
     ·cases h
    ·cases h
   ·cases h
  ·split at h
   ·rename_i l hh hl hhh;split at h
    ·rename_i hc;obtain⟨hs,rfl,rfl⟩:=hc;obtain⟨u',zO⟩:=Option.isSome_iff_exists.1 hs;obtain⟨hs,iD,rfl,qQ⟩:=DY _ zO;obtain⟨ad,rfl⟩:=WR hx;obtain rfl:zU=none:=by cases zU with |none=>rfl |some _=>exact qI.elim
     have hb:=QT (P:=P) (w:=w) (isS:=true) (len:=0) (cap:=0) (WT hl zM) (WT hhh wM) (AK3 _) (AK3 _) (AK3 _) (AI4 _);refine⟨_,h,.slice ad 0 0,?_,kJ _⟩;rw[KB ht hs];simp[Instr.slice,underlying,Bs ht hs,hb,Du qQ]
    ·cases h
   ·cases h
  ·cases h
theorem Tl{t:Nat}{ti:TI}{k:IntKind}(h:EC P t ti)(hs:ti.ty=.int k):P.underlying t=some (.int k):=by
 obtain⟨d,hd,hk⟩:=h.cJ;rw[hd];cases d<;>simp[kindOk,hs,Ty.isAgg]at hk;rw[hk]
theorem bT{A:Nat->Prop}:∀{xs:AL7 Int} {ds:AL7 Value},Ct (Ha w A (.int .u8)) xs ds->ds=xs.map (Value.int .u8)
 |[],_,h=>h
 |x::xs,_,⟨c,d,e,h1,h2⟩=>by
  have h1':c=[.int .u8 x]:=h1;rw[e,h1',bT h2];rfl
theorem Ace(H:Ba w g bs){s t:Nat}{ts ti:TI}(hs:EC P s ts)(ht:EC P t ti){te:AL8 Ty}(DY:∀u,te=some u->ts.DZ=true/\∃iD,iD.ty=u/\EC P ts.elem iD){x:AV}{u:Value}
    {K:AV->AL8 R} {r:R} (h:Zu bs te ti.ty x K=some r) (hx:BS w g bs.length x u) :
    ∃z,K z=some r/\Un P w g bs.length (convert s t u) z:=by
 obtain⟨ds,hds,_⟩:=hs.cJ;unfold Zu at h;split at h
 ·rename_i k hk;split at h
  ·obtain rfl:=Di hx;refine⟨_,h,BX ?_⟩;simp[convert,underlying,hds,Tl ht hk,Conv.intToInt]
  ·cases h
 ·rename_i hk;have hut:=Rk ht hk;split at h
  ·obtain rfl:=VS hx;refine⟨_,h,XL ?_⟩;simp[convert,underlying,hds,hut]
  ·split at h
   ·rename_i he;obtain⟨IR,iD,dG,qQ⟩:=DY _ he;split at h
    ·rename_i xs hxs;have hu:=Tl qQ dG;have hsu:=Bs hs IR;have hnt:x.C5=false:=by cases x<;>first |rfl |simp[rd]at hxs
     have QY:x.Nc=false:=by cases x<;>first |rfl |simp[rd]at hxs
     have hag:x.isAgg=false:=by
      cases x with
      |Ax ks t' y =>
       simp only[rd]at hxs;obtain⟨e,_⟩:=Bz hxs;subst e;rfl
      |pr a b=>simp[rd]at hxs
      |_=>rfl
     obtain⟨cs,iP,hv⟩:=BQ hnt QY hx;obtain⟨⟨ad,cap,dd,e1,aP,hr,hm⟩,_⟩:=P4 H _ _ _ _ hxs iP;subst e1;obtain rfl:u=.slice ad xs.length cap:=by
      rw[hag]at hv;have o6:[_]=[u]:=hv;simpa using o6.symm
     refine⟨_,h,XL ?_⟩;have hdd:=bT hr;have DT:∀b off,ad=some ⟨b,off,none⟩->(∀i,i<xs.length->w.cell? ⟨b,off+i,none⟩=some (.int .u8 (xs.getD i 0)))->(convert s t (.slice ad xs.length cap)).run P w=.ok (.string (bytesOf xs)) w:=by
      intro b off e hc;subst e;exact run_convert_bytes_arg w s ts.elem hsu hu b off xs.length cap xs rfl hc t hut
     rcases hm with WC |⟨b,off,rfl,_,hc⟩
     ·subst WC;cases ad with
      |none=>exact run_convert_bytes_nil w s ts.elem hsu hu 0 cap t hut
      |some a0=>simp[convert,underlying,hsu,hut,hu,Conv.bytesToString,loadCells,loadCellsFrom,bytesOf,ByteArray.empty,ByteArray.emptyWithCapacity];rfl
     ·refine DT b off rfl λi hi=>hc i _ ?_;rw[hdd];simp[List.getD,hi]
    ·cases h
   ·cases h
 ·cases h
end
section
variable {R:Type}
theorem pG(op:BinOp)(tb:Bool)(x y:AV)(K:AV->AL8 R):l5 op tb x y K=(l5 op tb x y some).bind K:=by
 unfold l5
 repeat' split
 all_goals rfl
theorem xr(op:UnOp)(x:AV)(K:AV->AL8 R):unA op x K=(unA op x some).bind K:=by
 unfold unA
 repeat' split
 all_goals rfl
theorem re(bs:AL7 Blk)(ti:TI)(x:AV)(K:AV->AL8 R):nK bs ti x K=(nK bs ti x some).bind K:=by
 unfold nK
 repeat' split
 all_goals rfl
theorem dJ(mx:Bool)(x y:AV)(K:AV->AL8 R):zS mx x y K=(zS mx x y some).bind K:=by
 unfold zS
 repeat' split
 all_goals rfl
theorem Adn(bs:AL7 Blk)(te:Ty)(x y:AV)(K:AV->AL8 R):uk bs te x y K=(uk bs te x y some).bind K:=by
 unfold uk
 repeat' split
 all_goals rfl
theorem qV(bs:AL7 Blk)(te:Ty)(x y:AV)(K:AV->AL8 R):qU bs te x y K=(qU bs te x y some).bind K:=by
 unfold qU;split
 ·repeat' split
  all_goals rfl
 ·exact Adn ..
theorem pU(x y:AV)(K:AV->AL8 R):mb x y K=(mb x y some).bind K:=by
 unfold mb
 repeat' split
 all_goals rfl
theorem qm(ti:TI)(f:Nat)(x:AV)(K:AV->AL8 R):iM ti f x K=(iM ti f x some).bind K:=by
 unfold iM
 repeat' split
 all_goals rfl
theorem kA(bs:AL7 Blk)(ti:TI)(x:AV)(K:AV->AL8 R):Yi bs ti x K=(Yi bs ti x some).bind K:=by
 unfold Yi
 repeat' split
 all_goals rfl
theorem gR(bs:AL7 Blk)(ti:TI)(te:AL8 Ty)(x:AV)(lo hi mx:AL8 AV)(K:AV->AL8 R):Wb bs ti te x lo hi mx K=(Wb bs ti te x lo hi mx some).bind K:=by
 unfold Wb
 repeat' split
 all_goals rfl
theorem jO(bs:AL7 Blk)(te:AL8 Ty)(td:Ty)(a:AV)(K:AV->AL8 R):Zu bs te td a K=(Zu bs te td a some).bind K:=by
 unfold Zu
 repeat' split
 all_goals rfl
theorem uW(bs:AL7 Blk)(ti:TI)(x v:AV)(K:G9->AL8 R):bH bs ti x v K=(bH bs ti x v some).bind K:=by
 unfold bH
 repeat' split
 all_goals rfl
theorem uU(bs:AL7 Blk)(ti:TI)(x:AV)(K:G9->AL8 R):Y5 bs ti x K=(Y5 bs ti x some).bind K:=by
 unfold Y5
 repeat' split
 all_goals rfl
theorem kB(bs:AL7 Blk)(tk te:TI)(ok:Bool)(m x:AV)(K:AV->AL8 R):cm bs tk te ok m x K=(cm bs tk te ok m x some).bind K:=by
 unfold cm
 repeat' split
 all_goals first |rfl |(cases ok<;>rfl)
theorem yK(bs:AL7 Blk)(tk te:TI)(m x:AV)(K:G9->AL8 R):kC bs tk te m x K=(kC bs tk te m x some).bind K:=by
 unfold kC
 repeat' split
 all_goals rfl
theorem AfE{c:Bool}{e:G9}{K:G9->AL8 R}:(bif c then K e else none)=(bif c then some e else none).bind K:=by cases c<;>rfl
theorem ik(bs:AL7 Blk)(tk te:TI)(m x v:AV)(K:G9->AL8 R):Z8 bs tk te m x v K=(Z8 bs tk te m x v some).bind K:=by
 unfold Z8
 repeat' split
 all_goals first |rfl |exact AfE
theorem Acm(bs:AL7 Blk)(tk te:TI)(m x:AV)(K:G9->AL8 R):yc bs tk te m x K=(yc bs tk te m x some).bind K:=by
 unfold yc
 repeat' split
 all_goals rfl
theorem ABX{c:Bool}{A:AL8 R}{B:AL8 G9}{K:G9->AL8 R}(h:A=B.bind K):(bif c then A else none)=(bif c then B else none).bind K:=by
 cases c
 ·rfl
 ·exact h
theorem Acn(bs:AL7 Blk)(tk te:TI)(m j v:AV)(K:G9->AL8 R):yd bs tk te m j v K=(yd bs tk te m j v some).bind K:=by
 unfold yd
 repeat' split
 all_goals first
  |rfl
  |exact ABX (ik ..)
theorem pA(fi:FI)(bs:AL7 Blk)(e:Nat)(ti:TI)(x y:AV)(K:G9->AL8 R):Xw fi bs e ti x y K=(Xw fi bs e ti x y some).bind K:=by
 unfold Xw
 repeat' split
 all_goals rfl
theorem pB(fi:FI)(bs:AL7 Blk)(e:Nat)(ti:TI)(x y:AV)(K:G9->AL8 R):Xx fi bs e ti x y K=(Xx fi bs e ti x y some).bind K:=by
 unfold Xx
 repeat' split
 all_goals rfl
theorem yL(fi:FI)(bs:AL7 Blk)(e:Nat)(ti:TI)(x y:AV)(K:G9->AL8 R):kE fi bs e ti x y K=(kE fi bs e ti x y some).bind K:=by
 unfold kE
 repeat' split
 all_goals rfl
theorem Acf(te:Ty)(bs:AL7 Blk)(x:AV)(hi:AL8 AV)(K:G9->AL8 R):x8 te bs x hi K=(x8 te bs x hi some).bind K:=by
 unfold x8
 repeat' split
 all_goals rfl
def dS(c:Callee):Prop:=∀(R:Type) args E (K:AV->AL7 Blk->AL8 R),c.run R args E K=(c.run (AV×AL7 Blk) args E λv b=>some (v,b)).bind λp=>K p.1 p.2
theorem XB(c:Callee)(hc:dS c)(bs:AL7 Blk)(args:AL7 AV)(K:G9->AL8 R):WV c bs args K=(WV c bs args some).bind K:=by
 unfold WV;split
 ·rfl
 ·dsimp only
  split
  ·rw[hc R,hc G9];cases c.run (AV×AL7 Blk) _ _ λv b=>some (v,b)with
   |none=>rfl
   |some p=>simp only[AIY];split<;>rfl
  ·rfl
theorem xS(c:Callee)(hc:dS c)(bs:AL7 Blk)(args:AL7 AV)(K:G9->AL8 R):eR c bs args K=(eR c bs args some).bind K:=by
 have via:∀(bs:AL7 Blk) (args:AL7 AV) (F:G9->AL8 R) (F':G9->AL8 G9),(∀e,F e=(F' e).bind K)->WV c bs args F=(WV c bs args F').bind K:=λbs args F F' h=>by
  rw[XB c hc bs args F,XB c hc bs args F'];cases WV c bs args some with
  |none=>rfl
  |some e=>exact h e
 unfold eR;split
 ·exact XB c hc bs args K
 ·split
  ·split
   ·split
    ·split
     ·refine via _ _ _ _ λe=>?_;split
      ·rfl
      ·split
       ·split
        ·split<;>rfl
        ·rfl
       ·rfl
     ·rfl
    ·rfl
   ·rfl
  ·rfl
theorem df(f:(R:Type)->(AV->AL8 R)->AL8 R)(hf:∀(R:Type) (K:AV->AL8 R),f R K=(f AV some).bind K)(g:AV->G9)(K:G9->AL8 R) :
    f R (λv=>K (g v))=(f G9 λv=>some (g v)).bind K:=by
 rw[hf R,hf G9];cases f AV some<;>rfl
def X1(en:Gd):Prop:=∀g c,en.fns g=some c->dS c
theorem mG(en:Gd)(he:X1 en)(σ:St)(c:Call)(K:G9->AL8 R):Vt en σ c K=(Vt en σ c some).bind K:=by
 unfold Vt;split
 ·split
  ·split
   ·exact df (λR K=>nK _ _ _ K) (λR K=>re ..) (λv=>⟨v,_,_⟩) K
   ·rfl
  ·rfl
 ·split
  ·exact df (λR K=>zS _ _ _ K) (λR K=>dJ ..) (λv=>⟨v,_,_⟩) K
  ·rfl
 ·split
  ·exact df (λR K=>zS _ _ _ K) (λR K=>dJ ..) (λv=>⟨v,_,_⟩) K
  ·rfl
 ·split
  ·split
   ·split
    ·split
     ·exact pA ..
     ·split
      ·exact pB ..
      ·rfl
    ·rfl
   ·rfl
  ·rfl
 ·rfl
 ·split
  ·split
   ·rename_i hg;exact xS _ (he _ _ hg) ..
   ·rfl
  ·rfl
 ·rfl
theorem L4(en:Gd)(he:X1 en)(σ:St)(o:Oper)(K:G9->AL8 R):QL en σ o K=(QL en σ o some).bind K:=by
 unfold QL
 dsimp only
 split
 ·rfl
 ·rfl
 ·split
  ·rename_i t _;cases t<;>rfl
  ·rfl
 ·split<;>rfl
 ·split<;>rfl
 ·split
  ·split
   ·rfl
   ·split<;>rfl
  ·rfl
 ·split
  ·split
   ·split
    ·split
     ·split<;>rfl
     ·rfl
    ·rfl
   ·rfl
  ·rfl
 ·split
  ·split
   ·split
    ·exact uU ..
    ·rfl
   ·exact df (λR K=>Yi _ _ _ K) (λR K=>kA ..) (λv=>⟨v,_,_⟩) K
  ·rfl
 ·split
  ·split
   ·rfl
   ·split
    ·split<;>rfl
    ·rfl
  ·rfl
 ·split
  ·split
   ·split
    ·split
     ·split
      ·rfl
      ·exact yK ..
     ·exact df (λR K=>cm _ _ _ _ _ _ K) (λR K=>kB ..) (λv=>⟨v,_,_⟩) K
    ·rfl
   ·rfl
  ·rfl
 ·split
  ·split
   ·split
    ·exact ik ..
    ·rfl
   ·rfl
  ·rfl
 ·split
  ·split
   ·split
    ·exact ik ..
    ·rfl
   ·rfl
  ·rfl
 ·split
  ·split
   ·split
    ·exact Acm ..
    ·rfl
   ·rfl
  ·rfl
 ·split
  ·split
   ·split
    ·exact Acn ..
    ·rfl
   ·rfl
  ·rfl
 ·split
  ·exact uW ..
  ·rfl
 ·split<;>rfl
 ·split
  ·rfl
  ·exact df (λR K=>l5 _ _ _ _ K) (λR K=>pG ..) (λv=>⟨v,_,_⟩) K
 ·exact df (λR K=>unA _ _ K) (λR K=>xr ..) (λv=>⟨v,_,_⟩) K
 ·split
  ·exact df (λR K=>Zu _ _ _ _ K) (λR K=>jO ..) (λv=>⟨v,_,_⟩) K
  ·rfl
 ·split
  ·split<;>rfl
  ·rfl
 ·split
  ·split
   ·split
    ·exact yL ..
    ·rfl
   ·rfl
  ·rfl
 ·split
  ·split
   ·split
    ·split
     ·split
      ·exact Acf ..
      ·rfl
     ·rfl
    ·rfl
   ·exact df (λR K=>Wb _ _ _ _ _ _ _ K) (λR K=>gR ..) (λv=>⟨v,_,_⟩) K
  ·rfl
 ·split
  ·exact df (λR K=>iM _ _ _ K) (λR K=>qm ..) (λv=>⟨v,_,_⟩) K
  ·rfl
 ·split
  ·split
   ·split
    ·exact df (λR K=>qU _ _ _ _ K) (λR K=>qV ..) (λv=>⟨v,_,_⟩) K
    ·rfl
   ·rfl
  ·rfl
 ·split
  ·split
   ·exact df (λR K=>mb _ _ K) (λR K=>pU ..) (λv=>⟨v,_,_⟩) K
   ·rfl
  ·rfl
 ·split
  ·split<;>rfl
  ·rfl
 ·exact mG en he ..
 ·rfl
theorem Vs(en:Gd)(he:X1 en)(σ:St)(o:Oper)(K:G9->AL8 R):Ur en σ o K=(Ur en σ o some).bind K:=by
 unfold Ur;split
 ·rfl
 split
 ·rfl
 split
 ·rename_i c _ _;cases c<;>rfl
 split
 ·cases fu en o with
  |false=>exact L4 en he σ o K
  |true =>
   simp only[AJe];refine(L4 en he σ o _).trans (Eq.symm ?_);refine(congrArg (λx=>Option.bind x K) (L4 en he σ o _)).trans ?_;rw[AJf];congr 1
   funext e
   cases xh σ.An.length e<;>rfl
 ·rename_i t _;refine(L4 en he σ o _).trans (Eq.symm ?_);refine(congrArg (λx=>Option.bind x K) (L4 en he σ o _)).trans ?_;rw[AJf];congr 1
  funext e
  cases AgT σ.An.length t e<;>rfl
theorem RI(en:Gd)(he:X1 en)(σ:St)(o:Oper)(K:G9->AL8 R):exec en σ o K=(exec en σ o some).bind K:=by
 unfold exec;split
 ·split
  ·split
   ·rename_i bs _;rw[Vs en he ⟨σ.AF,bs⟩ o,Vs en he ⟨σ.AF,bs⟩ o (λe=>if e.Bu.isEmpty=true then none else some e),AJf];congr 1
    funext e
    split<;>rfl
   ·rfl
  ·exact Vs en he σ o K
 ·exact Vs en he σ o K
end
structure Kg (w:World) (g:G) (σ:St) (a:Act):Prop where
 heap:Ba w g σ.An
 len:σ.AF.length=a.tmps.size
 AF:∀(i:Nat) (x:AV),σ.AF[i]?=some x->BS w g σ.An.length x (a.tmps.getD i undef)
structure M3 (P:Program) (σ:St) (o:Oper) (e:G9):Prop where
 grow:σ.An.length<=e.An.length
 ext:e.Bu=[]->∃l,e.An=σ.An++l
 wp:∀(a:Act) (w:World) (g:G),Kg w g σ a->∀(next:Act->World->Prop) (Q:Exit->Act->World->Prop),
  (∀v w' g',Ba w' g' e.An->BS w' g' e.An.length e.val v->Step e.Bu σ.An.length w g w' g'->next (a.put o.dst v) w')->o.wp P a w next Q
def Qt(P:Program)(σ:St)(o:Oper)(z:AV):Prop :=
 ∀(a:Act) (w:World) (g:G),Kg w g σ a->∃c,(execOp a.eval o).run P w=.ok (.value c) w/\BS w g σ.An.length z c
theorem XH{Bu:AL7 Nat}{sl:AL7 AV}{i:Nat}{x:AV}(h:(Tt Bu sl)[i]?=some x):∃y,sl[i]?=some y/\x=y.drop λk=>Bu.contains k:=by
 unfold Tt at h;split at h
 ·exact⟨x,h,by rw[show(λk=>([]:AL7 Nat).contains k)=λ_=>false from funext λ_=>rfl,ZB]⟩
 ·rw[AJr]at h;cases hs:sl[i]? with
  |none=>rw[hs]at h;cases h
  |some y=>rw[hs]at h;injection h with h;exact⟨y,rfl,h.symm⟩
theorem jS(Bu:AL7 Nat)(sl:AL7 AV):(Tt Bu sl).length=sl.length:=by unfold Tt;split<;>simp
theorem ZX(d:AL8 Nat)(v:AV)(sl:AL7 AV):(X7 d v sl).length=sl.length:=by unfold X7;split<;>simp
theorem VH(a:Act)(d:AL8 Tmp)(v:Value):(a.put d v).tmps.size=a.tmps.size:=by cases d<;>simp[Act.put]
theorem lf{w:World}{g:G}{n:Nat}{sl:AL7 AV}{a:Act}(hlen:sl.length=a.tmps.size)(h:∀(i:Nat) (x:AV),sl[i]?=some x->BS w g n x (a.tmps.getD i undef)){d:AL8 Nat}{x:AV}{v:Value}(hv:BS w g n x v) :
    ∀(i:Nat) (y:AV),(X7 d x sl)[i]?=some y->BS w g n y ((a.put d v).tmps.getD i undef):=by
 intro i y hy;cases d with
 |none=>exact h i y hy
 |some d =>
  simp only[X7]at hy;rw[AJn]at hy;simp only[Act.put];split at hy
  ·rename_i he;subst he;split at hy
   ·rename_i hd;injection hy with hy;subst hy;rw[hlen]at hd;simpa [hd]using hv
   ·cases hy
  ·rename_i Lr;have:=h i y hy;simpa [AKN Lr]using this
theorem Kg.after{w w':World}{g g':G}{σ:St}{a:Act}{e:G9}{d:AL8 Nat}{v:Value}(h:Kg w g σ a)(hg:σ.An.length<=e.An.length)(hh:Ba w' g' e.An)(hv:BS w' g' e.An.length e.val v)
    (hs:Step e.Bu σ.An.length w g w' g'):Kg w' g' (σ.after d e) (a.put d v) where
 heap:=hh
 len:=by simp only[St.after,ZX,jS,VH];exact h.len
 AF:=lf (by rw[jS];exact h.len) (λi x hx=>by
  obtain⟨y,hy,rfl⟩:=XH hx;exact(h.AF i y hy).step hs hg) hv
section
variable {P:Program} {σ:St} {o:Oper} {en:Gd}
theorem M3.Il{z:AV}(h:Qt P σ o z):M3 P σ o ⟨z,σ.An,[]⟩ where
 grow:=AI4 _
 ext _:=⟨[],(AJD _).symm⟩
 wp a w g hs next Q hn:=by
  obtain⟨c,hc,hz⟩:=h a w g hs;unfold Oper.wp;rw[hc];exact hn c w g hs.heap hz (Step.refl _ _ _ _)
theorem WA{f:(R:Type)->(AV->AL8 R)->AL8 R}(hf:∀(R:Type) (K:AV->AL8 R),f R K=(f AV some).bind K){g:AV->G9}{e:G9}(h:f G9 (λv=>some (g v))=some e) :
    ∃z,f AV some=some z/\e=g z:=by
 rw[hf G9]at h;cases hz:f AV some with
 |none=>rw[hz]at h;cases h
 |some z=>rw[hz]at h;injection h with h;exact⟨z,rfl,h.symm⟩
theorem Acd{w:World}{g:G}{n:Nat}(v:Value):BS w g n (mn v) v:=by
 unfold mn;split
 ·exact AdM _ _
 ·exact ZP _
 ·exact AdN _
 ·exact kJ _
 ·exact Bl rfl (cs:=[_]) rfl (by simp[BK,AV.isAgg])
 ·exact Qy
theorem AJ{w:World}{g:G}{a:Act}(h:Kg w g σ a)(x:Operand):BS w g σ.An.length (σ.B7 x) (a.eval x):=by
 cases x with
 |tmp t =>
  simp only[St.B7,Act.eval];cases hx:σ.AF[t]? with
  |none=>exact Qy
  |some y=>exact h.AF t y hx
 |const v=>exact Acd v
 |func f=>exact Bl (a:=.fn f .nil) rfl (cs:=[_]) ⟨[],rfl,rfl⟩ (by simp[BK,AV.isAgg,Act.eval])
 |global g=>exact Qy
theorem XQ{w:World}{g:G}{a:Act}(h:Kg w g σ a)(x:AL8 Operand):Aaq w g σ.An.length (x.map σ.B7) (x.map a.eval):=by
 cases x with
 |none=>trivial
 |some x=>exact AJ h x
theorem K1{z:AV}{s:(Operand->Value)->Sem Value}(he:∀ρ,execOp ρ o=(do pure (.value (<-s ρ))))(h:∀(a:Act) (w:World) (g:G),Kg w g σ a->Un P w g σ.An.length (s a.eval) z):Qt P σ o z:=by
 intro a w g hs;obtain⟨c,hc,hz⟩:=h a w g hs;exact⟨c,by rw[he];simp[hc],hz⟩
theorem Zl{v:Value}{cs:AL7 Value}{b:Bool}(h:BK b cs v)(h1:∀c∈cs,c.oneCell'=true):v.cells=cs.toArray:=by
 cases b with
 |true=>simp only[BK,AJe]at h;subst h;rfl
 |false =>
  simp only[BK,AJd]at h;subst h;have:=h1 v (by simp);cases v<;>first |rfl |cases this
theorem Y1:∀{a:AV} {f:Nat} {v a':AV},a.SB f v=some a'->a'.isAgg=true:=by
 intro a f v a' h;cases a with
 |Ax ks t x =>
  simp only[AV.SB]at h;cases t with
  |Au b c =>
   cases f with
   |zero=>simp only[rK,AI0]at h;subst h;rfl
   |succ f =>
    simp only[rK]at h;split at h
    ·injection h with h;subst h;rfl
    ·cases h
  |_=>cases f<;>simp[rK]at h
 |pr b c =>
  cases f with
  |zero=>simp only[AV.SB,AI0]at h;subst h;rfl
  |succ f =>
   simp only[AV.SB]at h;split at h
   ·injection h with h;subst h;rfl
   ·cases h
 |_=>cases f<;>simp[AV.SB]at h
theorem xg{c0 c1 c2 vs:AL7 Value}(h:vs.length=c1.length):(vs.toArray.zipIdx.foldl (λcs (x:Value×Nat)=>cs.setIfInBounds (c0.length+x.2) x.1) (c0++c1++c2).toArray)=(c0++vs++c2).toArray:=by
 have e:vs.toArray.zipIdx.foldl (λcs (x:Value×Nat)=>cs.setIfInBounds (c0.length+x.2) x.1) (c0++c1++c2).toArray=(vs.zipIdx 0).foldl (λcs (x:Value×Nat)=>cs.setIfInBounds (c0.length+x.2) x.1) (c0++c1++c2).toArray:=by
  rw[<-Array.foldl_toList,Array.toList_zipIdx]
 rw[e];obtain⟨h1,h2⟩:=Great.foldl_set c0.length vs 0 (c0++c1++c2).toArray;apply Array.ext_getElem?;intro k;rw[h2 k];simp only[AKV,AKc,AI2,List.getElem?_toArray];by_cases hk:c0.length<=k/\k<c0.length+vs.length/\k<c0.length+c1.length+c2.length
 ·rw[AJg hk,AI6,AJk hk.1,AJl (by omega)]
 ·rw[AJh hk];rcases AI9 k c0.length with h' |h'
  ·rw[AI6,AI6,AJl h',AJl h']
  ·have:c0.length+vs.length<=k:=by omega
   rw[AJk (by simp;omega),AJk (by simp;omega)];simp[h]
theorem kT{ty:Ty}:∀{fs:AL7 Field} {os:AL7 Nat} {i:Nat},M5 P ty i fs os=true ->
    ∃pl,fs.mapM (λf=>(P.info? f.type).map λi=>(f.offset,i.size))=some pl/\∀j o,os[j]?=some o->∃u,ic ty (i+j)=some u/\pl[j]?=some (o,u.size)
 |[],[],_,_=>⟨[],rfl,λj o h=>by simp at h⟩
 |f::fs,o::os,i,h=>by
  simp only[M5,AI5,AJ5]at h;obtain⟨⟨⟨h1,_⟩,h3⟩,h4⟩:=h;obtain⟨pl,hp,hq⟩:=kT h4;split at h3
  ·rename_i u hu;simp only[AI5,AJ5]at h3;cases hi:P.info? f.type with
   |none=>simp[hi]at h3
   |some inf =>
    simp[hi]at h3;refine⟨(f.offset,inf.size)::pl,by simp[List.mapM_cons,hi,hp],λj o' ho=>?_⟩;cases j with
    |zero=>simp at ho;subst ho;exact⟨u,by simpa using hu,by simp[h1,h3.1.1]⟩
    |succ j =>
     obtain⟨u',h5,h6⟩:=hq j o' (by simpa using ho);exact⟨u',by rw[show i+(j+1)=i+1+j by omega];exact h5,by simpa using h6⟩
  ·cases h3
 |[],_::_,_,h=>by simp[M5]at h
 |_::_,[],_,h=>by simp[M5]at h
theorem ve{v:AV}(h:v.ai=true):v.Nc=false/\v.C5=false:=by cases v<;>simp_all [AV.ai,AV.Nc,AV.C5]
theorem eH{w:World}{g:G}{n:Nat}{ti:TI}{pl:AL7 (Nat×Nat)}(qM:∀j o,ti.VG[j]?=some o->∃u,ic ti.ty j=some u/\pl[j]?=some (o,u.size)){ρ:Operand->AV}{ε:Operand->Value}(hρ:∀x,BS w g n (ρ x) (ε x)) :
    ∀{ps:AL7 (Nat×Operand)} {a z:AV} {cs:AL7 Value},WU ti a (ps.map λp=>(p.1,ρ p.2))=some z->Cs w g n false a cs->a.isAgg=true ->
     ∃iJ,Instr.fill (pl.toArray[·]?) cs.toArray (ps.map λp=>(p.1,ε p.2))=some iJ.toArray/\Cs w g n false z iJ/\z.isAgg=true
 |[],a,z,cs,h,hx,hg=>by
  simp only[AKt,WU,AI0]at h;subst h;exact⟨cs,rfl,hx,hg⟩
 |(f,x)::ps,a,z,cs,h,hx,hg=>by
  simp only[AJI,WU]at h;split at h
  ·rename_i jj Vx;split at h
   ·rename_i hc;obtain⟨KD,ApJ,M8,dG⟩:=hc;split at h
    ·rename_i a' ha';obtain⟨c0,c1,c2,e,ho,cY,hs⟩:=W4 a f cs jj hx Vx;obtain⟨QY,Xb⟩:=ve ApJ;obtain⟨cv,YJ,hv⟩:=BQ Xb QY (hρ x);have hvc:=Zl hv YJ.one;obtain⟨u,hu,hp⟩:=qM f c0.length (by rw[<-M8];exact ho);rw[hu]at dG;simp only[Option.map_some,AI0]at dG;have Tz:cv.length=c1.length:=by rw[YJ.len,cY.len,KD]
     obtain⟨iJ,hf,hz,hza⟩:=eH qM hρ h (hs _ _ _ ha' YJ) (Y1 ha');refine⟨iJ,?_,hz,hza⟩;simp only[AJI];unfold Instr.fill;have zN:pl.toArray[f]?=some (c0.length,u.size):=by simpa using hp
     simp only[zN];have SV:(ε x).cells.size=u.size:=by rw[hvc];simp only[AKc];rw[YJ.len];omega
     have Pv:¬c0.length+(ε x).cells.size>cs.toArray.size:=by
      rw[hvc,e];simp;omega
     simp only[SV,ne_eq,not_true_eq_false,decide_false,AKm];rw[SV]at Pv;simp only[Pv,decide_false,AJN,AKv];rw[<-hf];congr 1;rw[hvc,e];exact xg Tz
    ·cases h
   ·cases h
  ·cases h
end
section
variable {P:Program} {σ:St} {o:Oper} {en:Gd} {e:G9}
theorem rR{x:Operand}(ho:o.op=.move x\/o.op=.assign x):M3 P σ o ⟨σ.B7 x,σ.An,[]⟩ :=
 .Il λa w g hs=>⟨a.eval x,by rcases ho with ho |ho<;>simp[execOp,ho],AJ hs x⟩
theorem AeE{c x y:Operand}(ho:o.op=.pick c x y){ks:AL7 Nat}{t:Bool}(hc:σ.B7 c=.Ax ks .bool t):M3 P σ o ⟨bif t then σ.B7 x else σ.B7 y,σ.An,[]⟩ :=
 .Il λa w g hs=>by
  have h:=AJ hs c;rw[hc]at h;have h:=RF h;refine⟨if t then a.eval x else a.eval y,by simp[execOp,ho,h,asBool],?_⟩;cases t
  ·exact AJ hs y
  ·exact AJ hs x
theorem Z4{x:Operand}(ho:o.op=.nilCheck x)(hp:∀(w:World) (g:G) n v,BS w g n (σ.B7 x) v->∃a,v=.pointer (some a)):M3 P σ o ⟨σ.B7 x,σ.An,[]⟩ :=
 .Il λa w g hs=>by
  obtain⟨ad,h⟩:=hp w g _ _ (AJ hs x);exact⟨a.eval x,by simp[execOp,ho,h],AJ hs x⟩
theorem ze{op:BinOp}{t:TypeId}{x y:Operand}{yt:TypeId}(ho:o.op=.binOp op t x y yt){tb:Bool}(htb:tb=true->P.underlying t=some .bool){z:AV}(h:l5 op tb (σ.B7 x) (σ.B7 y) some=some z):M3 P σ o ⟨z,σ.An,[]⟩ :=
 .Il <| K1 (s:=λρ=>do eqGuard op t x y (ρ x) (ρ y);binOp op t (ρ x) (ρ y)) (λρ=>by simp[execOp,ho]) λa w g hs=>by
  obtain⟨z',e,hG⟩:=AfF t x y htb h (AJ hs x) (AJ hs y);injection e with e;subst e;exact hG
theorem AeF{op:UnOp}{t:TypeId}{x:Operand}(ho:o.op=.unOp op t x){z:AV}(h:unA op (σ.B7 x) some=some z):M3 P σ o ⟨z,σ.An,[]⟩ :=
 .Il <| K1 (s:=λρ=>Op.unary op (ρ x)) (λρ=>by simp[execOp,ho]) λa w g hs=>by
  obtain⟨z',e,hG⟩:=Ap8 h (AJ hs x);injection e with e;subst e;exact hG
theorem rO{s t:TypeId}{x:Operand}(ho:o.op=.convert s t x){ts ti:TI}(hs:EC P s ts)(ht:EC P t ti){te:AL8 Ty}(DY:∀u,te=some u->ts.DZ=true/\∃iD,iD.ty=u/\EC P ts.elem iD){z:AV}
    (h:Zu σ.An te ti.ty (σ.B7 x) some=some z):M3 P σ o ⟨z,σ.An,[]⟩ :=
 .Il <| K1 (s:=λρ=>convert s t (ρ x)) (λρ=>by simp[execOp,ho]) λa w g BJ=>by
  obtain⟨z',e,hG⟩:=Ace BJ.heap hs ht DY h (AJ BJ x);injection e with e;subst e;exact hG
theorem Aey{t:TypeId}{x:Operand}(ho:o.op=.load t x){ti:TI}(ht:EC P t ti){z:AV}(h:Yi σ.An ti (σ.B7 x) some=some z):M3 P σ o ⟨z,σ.An,[]⟩ :=
 .Il <| K1 (s:=λρ=>Instr.loadAt t (ρ x)) (λρ=>by simp[execOp,ho]) λa w g BJ=>by
  obtain⟨z',e,hG⟩:=AdD BJ.heap ht h (AJ BJ x);injection e with e;subst e;exact hG
theorem jm{t:TypeId}{x:Operand}{f:Nat}(ho:o.op=.fieldAddr t x f){ti:TI}(ht:EC P t ti){z:AV}(h:iM ti f (σ.B7 x) some=some z):M3 P σ o ⟨z,σ.An,[]⟩ :=
 .Il <| K1 (s:=λρ=>Instr.fieldAt t (ρ x) f) (λρ=>by simp[execOp,ho]) λa w g BJ=>by
  obtain⟨z',e,hG⟩:=AgQ (n:=σ.An.length) ht h (AJ BJ x);injection e with e;subst e;exact hG
theorem jo{t:TypeId}{x i:Operand}(ho:o.op=.indexAddr t x i){ti te:TI}(ht:EC P t ti)(DY:EC P ti.elem te)(IR:ti.DZ=true){z:AV}(h:uk σ.An te.ty (σ.B7 x) (σ.B7 i) some=some z):M3 P σ o ⟨z,σ.An,[]⟩ :=
 .Il <| K1 (s:=λρ=>Instr.indexAt t (ρ x) (ρ i)) (λρ=>by simp[execOp,ho]) λa w g BJ=>by
  obtain⟨z',e,hG⟩:=Ahg BJ.heap ht DY IR h (AJ BJ x) (AJ BJ i);injection e with e;subst e;exact hG
theorem zj{t:TypeId}{x i:Operand}(ho:o.op=.index t x i){ti:TI}(ht:EC P t ti)(hs:ti.ty=.str){z:AV}(h:mb (σ.B7 x) (σ.B7 i) some=some z):M3 P σ o ⟨z,σ.An,[]⟩ :=
 .Il <| K1 (s:=λρ=>Instr.index t (ρ x) (ρ i)) (λρ=>by simp[execOp,ho]) λa w g BJ=>by
  obtain⟨z',e,hG⟩:=AgG (n:=σ.An.length) ht hs h (AJ BJ x) (AJ BJ i);injection e with e;subst e;exact hG
theorem zl{t:TypeId}{x:Operand}{lo hi mx:AL8 Operand}(ho:o.op=.slice t x lo hi mx){ti:TI}(ht:EC P t ti){te:AL8 Ty}(DY:∀u,te=some u->ti.DZ=true/\∃iD,iD.ty=u/\EC P ti.elem iD){z:AV}
    (h:Wb σ.An ti te (σ.B7 x) (lo.map σ.B7) (hi.map σ.B7) (mx.map σ.B7) some=some z):M3 P σ o ⟨z,σ.An,[]⟩ :=
 .Il <| K1 (s:=λρ=>Instr.sliceAt t (ρ x) (lo.map ρ) (hi.map ρ) (mx.map ρ)) (λρ=>by simp[execOp,ho]) λa w g BJ=>by
  obtain⟨z',e,hG⟩:=zb BJ.heap ht DY h (AJ BJ x) (XQ BJ lo) (XQ BJ hi) (XQ BJ mx);injection e with e;subst e;exact hG
theorem rP{x:Operand}{i:Nat}(ho:o.op=.extract x i){z:AV}(h:O2 (σ.B7 x) i=some z)(hz:z.C5=false):M3 P σ o ⟨z,σ.An,[]⟩ :=
 .Il <| K1 (s:=λρ=>Instr.extract (ρ x) i) (λρ=>by simp[execOp,ho]) λa w g BJ=>by
  have hx:=AJ BJ x;cases hq:σ.B7 x with
  |cons b c =>
   rw[hq]at hx h;obtain⟨vs,e,hx⟩:=hx;obtain⟨v,hv,hr⟩:=wo h hx;exact⟨v,by simp[Instr.extract,e,hv],hr hz⟩
  |_=>rw[hq]at h;simp[O2]at h
theorem Xu{w:World}{g:G}{n:Nat}:∀{t:Ty},Cs w g n false t.Ys (Qz t)
 |.int k=>⟨λ_ h=>by(cases h),rfl⟩
 |.bool=>⟨λ_ h=>by(cases h),rfl⟩
 |.str=>⟨λ_ h=>by(cases h),rfl⟩
 |.unit=>⟨λ_ h=>by(cases h),rfl⟩
 |.Au a b=>⟨_,_,rfl,Xu,Xu⟩
 |.sl _=>⟨none,rfl⟩
 |.QG 0=>rfl
 |.QG 1=>⟨rfl,by simp[Qz,Value.oneCell']⟩
 |.QG (_+2)=>⟨rfl,by simp[Qz,Value.oneCell']⟩
theorem lq:∀{t:Ty},t.Ys.isAgg=t.isAgg
 |.int _=>rfl
 |.bool=>rfl
 |.str=>rfl
 |.unit=>rfl
 |.Au _ _=>rfl
 |.sl _=>rfl
 |.QG 0=>rfl
 |.QG (_+1)=>rfl
theorem zf{t:TypeId}{Gb:Array (Nat×Operand)}(ho:o.op=.build t Gb){ti:TI}(ht:EC P t ti)(kn:ti.VG≠[]){z:AV}(h:WU ti ti.ty.Ys (Gb.toList.map λp=>(p.1,σ.B7 p.2))=some z):M3 P σ o ⟨z,σ.An,[]⟩ :=
 .Il <| K1 (s:=λρ=>Instr.build t (Gb.map λ(i,x)=>(i,ρ x))) (λρ=>by simp[execOp,ho]) λa w g BJ=>by
  obtain⟨o0,ho0⟩:∃o0,ti.VG[0]?=some o0:=by
   cases hq:ti.VG with
   |nil=>exact(kn hq).elim
   |cons o0 r=>exact⟨o0,rfl⟩
  obtain⟨fs,hu,hf⟩:=Wg ht ho0;obtain⟨pl,qM,hp⟩:=kT hf;obtain⟨i,zv,hi,KD,oX,hz,uc,qx⟩:=ht.info;have ha:ti.ty.isAgg=true:=by
   obtain⟨d,hd,hk⟩:=ht.cJ;rw[hu]at hd;injection hd with hd;subst hd;simp only[kindOk,AI5]at hk;exact hk.1
  obtain⟨iJ,qC,hx,hxa⟩:=eH (n:=σ.An.length) (λj o hj=>by simpa using hp j o hj) (AJ BJ) h Xu (by rw[lq];exact ha);refine⟨.agg iJ.toArray,run_build w t _ _ ?_,Bl (U1 hx) hx (by rw[hxa];rfl)⟩;unfold Program.built;have ko:zv.cells=(Qz ti.ty).toArray:=by rw[<-uc]
  simp only[hi,hu,hz,qM,ko];simpa using qC
theorem Aiu{w:World}{g:G}{n:Nat}{ρ:Operand->AV}{ε:Operand->Value}(hρ:∀x,BS w g n (ρ x) (ε x)):∀(l:AL7 Operand),Cs w g n true (VT (l.map ρ)) (l.map ε)
 |[]=>rfl
 |x::l=>by
  refine⟨ε x,l.map ε,rfl,?_,Aiu hρ l⟩;have h:=hρ x;split
  ·exact .inl rfl
  ·rename_i ht;exact(BS.iff (by simpa using ht)).1 h
theorem oq{f:FuncId}{first X4:Array Operand}(ho:o.op=.makeFunc (.func f) first X4)(h0:first.size=0):M3 P σ o ⟨.fn f (VT (X4.toList.map σ.B7)),σ.An,[]⟩ :=
 .Il λa w g hs=>by
  have hf:first.map a.eval=#[]:=by
   apply Array.eq_empty_of_size_eq_zero;simp[h0]
  have hr:(execOp a.eval o).run P w=.ok (.value (.func (.func f) #[] (X4.map a.eval))) w:=by simp[execOp,ho,Instr.makeFunc,hf]
  have hv:Cs w g σ.An.length false (.fn f (VT (X4.toList.map σ.B7))) [.func (.func f) #[] (X4.map a.eval)]:=⟨X4.toList.map a.eval,by rw[<-Array.toList_map,Array.toArray_toList],Aiu (AJ hs) _⟩;exact⟨_,hr,Bl rfl hv (by simp[BK,AV.isAgg])⟩
theorem nS{k:Nat}{i:Int}{p:AL7 Nat}{q:Nat}{w:World}{g:G}{n:Nat}{v:Value}(h:BS w g n (.ptr k i p q) v):∃a,v=.pointer (some a):=by
 obtain⟨_,_,_,b,_,e⟩:=KL h;exact⟨_,e⟩
theorem nT{ks:AL7 Nat}{t:Ty}{y:t.V}{w:World}{g:G}{n:Nat}{v:Value}(h:BS w g n (.EJ ks t y) v):∃a,v=.pointer (some a):=by
 obtain⟨_,b,off,_,e,_⟩:=Xz h;exact⟨_,e⟩
end
theorem vH{u:Ty}:∀{n i:Nat},i<n->ic (pF u n) i=some u/\TX (pF u n) i=some (i*u.size)
 |n+1,0,_=>by simp[pF,ic,TX]
 |n+1,i+1,h=>by
  obtain⟨h1,h2⟩:=vH (u:=u) (n:=n) (i:=i) (by omega);refine⟨by simpa [pF,ic]using h1,?_⟩;simp only[pF,TX,h2];rw[AJ9,ALb,Nat.add_comm]
theorem j6{place Ad8:Nat->AL8 (Nat×Nat)}(h:∀i p,place i=some p->Ad8 i=some p):∀{Gb:AL7 (Nat×Value)} {cs r:Array Value},Instr.fill place cs Gb=some r->Instr.fill Ad8 cs Gb=some r
 |[],_,_,hf=>hf
 |(i,v)::bu,cs,r,hf=>by
  unfold Instr.fill at hf⊢;split at hf
  ·cases hf
  ·rename_i off size hp;rw[h i _ hp];simp only;split at hf
   ·cases hf
   ·rename_i hc;rw[AJh hc];exact j6 h hf
section
variable {P:Program} {σ:St} {o:Oper} {en:Gd}
theorem om{t:TypeId}{Gb:Array (Nat×Operand)}(ho:o.op=.build t Gb){ti te:TI}(ht:EC P t ti)(DY:EC P ti.elem te)(hn:ti.Gw≠0)(dG:ti.ty=pF te.ty ti.Gw){z:AV}
    (h:WU (ti.plc te) ti.ty.Ys (Gb.toList.map λp=>(p.1,σ.B7 p.2))=some z):M3 P σ o ⟨z,σ.An,[]⟩ :=
 .Il <| K1 (s:=λρ=>Instr.build t (Gb.map λ(i,x)=>(i,ρ x))) (λρ=>by simp[execOp,ho]) λa w g BJ=>by
  have hu:=ht.Gw hn;have ha:ti.ty.isAgg=true:=by
   rw[dG];cases hq:ti.Gw with
   |zero=>exact(hn hq).elim
   |succ n=>rfl
  obtain⟨i,zv,hi,KD,oX,hz,uc,qx⟩:=ht.info;obtain⟨iJ,qC,hx,hxa⟩:=eH (ti:=ti.plc te) (pl:=(List.range ti.Gw).map λi=>(i*te.ty.size,te.ty.size)) (n:=σ.An.length) (w:=w) (g:=g) (λj o hj=>by
   simp only[TI.plc,AJr,Option.map_eq_some_iff]at hj;obtain⟨q,hq,rfl⟩:=hj;have X5:j<ti.Gw:=by
    have:=AO hq;simpa using this
   rw[AKQ X5]at hq;injection hq with hq;subst hq;refine⟨te.ty,by show ic ti.ty j=_;rw[dG];exact(vH X5).1,?_⟩;simp[AKQ X5]) (AJ BJ) h Xu (by rw[lq];exact ha)
  refine⟨.agg iJ.toArray,?_,Bl (U1 hx) hx (by rw[hxa];rfl)⟩;have ko:zv.cells=(Qz ti.ty).toArray:=by rw[<-uc]
  have Apg:Instr.fill (λi=>some (i*te.ty.size,te.ty.size)) zv.cells (Gb.map λ(i,x)=>(i,a.eval x)).toList=some iJ.toArray:=by
   rw[ko];refine j6 (λi p hp=>?_) (by simpa using qC);simp only[List.getElem?_toArray,AJr,Option.map_eq_some_iff]at hp;obtain⟨q,hq,rfl⟩:=hp;have X5:i<ti.Gw:=by
    have:=AO hq;simpa using this
   rw[AKQ X5]at hq;injection hq with hq;subst hq;rfl
  have Aph:Instr.fill (λi=>some (i*te.ty.size,te.ty.size)) zv.cells (List.map (λx=>(x.fst,a.eval x.snd)) Gb.toList)=some iJ.toArray:=by simpa using Apg
  simp[Instr.build,run_underlying hu,zeroValue,typeInfo,hi,hz,Du DY,Aph]
theorem oo{t:TypeId}{x i:Operand}(ho:o.op=.index t x i){ti te:TI}(ht:EC P t ti)(DY:EC P ti.elem te)(hn:ti.Gw≠0){ks:AL7 Nat}{kk:IntKind}{j:Int}(hi:σ.B7 i=.Ax ks (.int kk) j)
    (hj:0<=j/\j<(ti.Gw:Int)/\(σ.B7 x).off j.toNat=some (j.toNat*te.ty.size)/\(σ.B7 x).isAgg=true/\(σ.B7 x).C5=false) {v:AV} (hv:(σ.B7 x).YG j.toNat=some v) (KD:v.size=te.ty.size/\v.isAgg=te.ty.isAgg):M3 P σ o ⟨v,σ.An,[]⟩ :=
 .Il <| K1 (s:=λρ=>Instr.index t (ρ x) (ρ i)) (λρ=>by simp[execOp,ho]) λa w g BJ=>by
  have hu:=ht.Gw hn;obtain⟨h0,h1,M8,qx,Xb⟩:=hj;have hix:=AJ BJ i;rw[hi]at hix;have hie:=Di hix;have Wv:=AJ BJ x;have QY:(σ.B7 x).Nc=false:=by
   cases hq:σ.B7 x<;>rw[hq]at hv<;>first |rfl |simp[AV.YG]at hv
  obtain⟨cs,SV,qT⟩:=BQ Xb QY Wv;rw[qx]at qT;have qT:a.eval x=.agg cs.toArray:=qT;obtain⟨c0,c1,c2,e,sE,cY,_⟩:=W4 _ _ cs v SV hv;rw[M8]at sE;injection sE with sE;have Tz:c1.length=te.ty.size:=by rw[cY.len,KD.1]
  rw[hie,qT];cases hg:te.ty.isAgg with
  |true =>
   refine⟨.agg c1.toArray,?_,Bl (U1 cY) cY (by rw[KD.2,hg];rfl)⟩;have hex:cs.toArray.extract (j.toNat*te.ty.size) (j.toNat*te.ty.size+te.ty.size)=c1.toArray:=by
    apply Array.ext';rw[Array.toList_extract,sE,e];simp only[List.extract];rw[show c0.length+te.ty.size-c0.length=c1.length by omega,AI6,List.drop_left,AKD]
   have Apf:List.take te.ty.size (List.drop (j.toNat*te.ty.size) cs)=c1:=by
    rw[sE,e,AI6,List.drop_left,<-Tz,AKD]
   simp[Instr.index,asIntOf,run_underlying hu,h0,h1,part,Zk DY,hg,Du DY,Apf]
  |false =>
   have W6:te.ty.size=1:=R6 hg;obtain⟨u,hu1⟩:∃u,c1=[u]:=by
    cases c1 with
    |nil=>rw[W6]at Tz;cases Tz
    |cons u r=>cases r with
     |nil=>exact⟨u,rfl⟩
     |cons _ _=>rw[W6]at Tz;simp at Tz
   subst hu1;refine⟨u,?_,Bl (U1 cY) cY (by rw[KD.2,hg];rfl)⟩;have Ul:cs[j.toNat*te.ty.size]?=some u:=by
    rw[sE,e,AI6,AJk (AI4 _),AKI];rfl
   simp[Instr.index,asIntOf,run_underlying hu,h0,h1,part,Zk DY,hg,Du DY,Ul]
theorem qn{ty:Ty}:∀{fs:AL7 Field} {os:AL7 Nat} {i j:Nat} {fd:Field} {u:Ty},M5 P ty i fs os=true->fs[j]?=some fd->ic ty (i+j)=some u->∃d,P.underlying fd.type=some d/\AfA d=u.isAgg
 |[],_,_,_,_,_,_,h,_=>by simp at h
 |_::_,[],_,_,_,_,h,_,_=>by simp[M5]at h
 |f::fs,o'::os,i,0,fd,u,h,hf,hu=>by
  simp only[List.getElem?_cons_zero,AI0]at hf;subst hf;simp only[M5,AI5]at h;obtain⟨⟨_,h3⟩,_⟩:=h;rw[show ic ty i=some u from hu]at h3;simp only[AI5]at h3;have h4:=h3.2;unfold AxG at h4;cases hd:P.underlying f.type with
  |none=>rw[hd]at h4;cases h4
  |some d=>rw[hd]at h4;exact⟨d,rfl,by simpa using h4⟩
 |f::fs,o'::os,i,j+1,fd,u,h,hf,hu=>by
  simp only[M5,AI5]at h;exact qn (i:=i+1) h.2 (by simpa using hf) (by rw[show i+1+j=i+(j+1) by omega];exact hu)
theorem AaL{w:World}{t:Nat}{d:TypeDesc}(h:P.underlying t=some d):(isAgg t).run P w=.ok (AfA d) w:=by
 cases d<;>simp[isAgg,underlying,h,AfA]
theorem zh{t:TypeId}{x:Operand}{f:Nat}(ho:o.op=.field t x f){ti:TI}(ht:EC P t ti){fo:Nat}(hfo:ti.VG[f]?=some fo){u:Ty}(hu:ic ti.ty f=some u){v:AV}(hv:(σ.B7 x).YG f=some v)
    (hc:(σ.B7 x).off f=some fo/\(σ.B7 x).isAgg=true/\(σ.B7 x).C5=false/\v.size=u.size/\v.isAgg=u.isAgg):M3 P σ o ⟨v,σ.An,[]⟩ :=
 .Il <| K1 (s:=λρ=>Instr.field t (ρ x) f) (λρ=>by simp[execOp,ho]) λa w g BJ=>by
  obtain⟨M8,qx,Xb,ADt,Az1⟩:=hc;obtain⟨fs,Az4,sC⟩:=Wg ht hfo;obtain⟨fd,u',inf,h1,h2,h3,h4,h5,h6,h7⟩:=mL sC hfo;rw[AJu]at h3 h4;have:u'=u:=by rw[hu]at h4;injection h4 with h4;exact h4.symm
  subst this;obtain⟨d,hd,hda⟩:=qn (i:=0) sC h1 (by rw[AJu];exact hu);have hfd:fs[f]?=some fd:=by rw[<-AJc];exact h1
  have hsr:(sizeOf fd.type).run P w=.ok u'.size w:=by simp[sizeOf,typeInfo,h5,h6]
  have har:=AaL (w:=w) hd;rw[hda]at har;have Wv:=AJ BJ x;have QY:(σ.B7 x).Nc=false:=by
   cases hq:σ.B7 x<;>rw[hq]at hv<;>first |rfl |simp[AV.YG]at hv
  obtain⟨cs,SV,qT⟩:=BQ Xb QY Wv;rw[qx]at qT;have qT:a.eval x=.agg cs.toArray:=qT;obtain⟨c0,c1,c2,e,sE,cY,_⟩:=W4 _ _ cs v SV hv;rw[M8]at sE;injection sE with sE;have Tz:c1.length=u'.size:=by rw[cY.len,ADt]
  rw[qT];cases hg:u'.isAgg with
  |true =>
   rw[hg]at har;refine⟨.agg c1.toArray,?_,Bl (U1 cY) cY (by rw[Az1,hg];rfl)⟩;have Apf:List.take u'.size (List.drop fo cs)=c1:=by
    rw[sE,e,AI6,List.drop_left,<-Tz,AKD]
   simp[Instr.field,underlying,Az4,hfd,asAgg,part,har,hsr,h2,Apf]
  |false =>
   rw[hg]at har;have W6:u'.size=1:=R6 hg;obtain⟨y,hy⟩:∃y,c1=[y]:=by
    cases c1 with
    |nil=>rw[W6]at Tz;cases Tz
    |cons y r=>cases r with
     |nil=>exact⟨y,rfl⟩
     |cons _ _=>rw[W6]at Tz;simp at Tz
   subst hy;refine⟨y,?_,Bl (U1 cY) cY (by rw[Az1,hg];rfl)⟩;have Ul:cs[fo]?=some y:=by
    rw[sE,e,AI6,AJk (AI4 _),AKI];rfl
   simp[Instr.field,underlying,Az4,hfd,asAgg,part,har,h2,Ul]
theorem cf{t:TypeId}{w:World}{ti te:TI}(ht:EC P t ti)(DY:EC P ti.elem te)(hn:ti.Gw≠0){kk:IntKind}{j:Int}(h0:0<=j)(h1:j<(ti.Gw:Int))(b f:Nat) :
    (Instr.indexAt t (.pointer (some ⟨b,f,none⟩)) (.int kk j)).run P w=.ok (.pointer (some ⟨b,f+j.toNat*te.ty.size,none⟩)) w:=by
 have hu:=ht.Gw hn;simp[Instr.indexAt,asIntOf,run_underlying hu,Instr.sureAddr,h0,h1,Du DY,X3]
theorem bG{t:TypeId}{x i:Operand}(ho:o.op=.indexAddr t x i){ti te:TI}(ht:EC P t ti)(DY:EC P ti.elem te)(hn:ti.Gw≠0){ks:AL7 Nat}{kk:IntKind}{j:Int}(hi:σ.B7 i=.Ax ks (.int kk) j)
    (h0:0<=j) (h1:j<(ti.Gw:Int)) {v:AV}
    (hv : (match σ.B7 x with
          |.ptr k q p f=>some (.ptr k q (p++[j.toNat]) (f+j.toNat*te.ty.size))
          |.EJ ks t' y=>if TX t' j.toNat=some (j.toNat*te.ty.size)then match VZ ks t' y j.toNat with |some (.Ax _ u z)=>some (.EJ ks u z)|_=>none else none
          |_=>none)=some v):M3 P σ o ⟨v,σ.An,[]⟩ :=
 .Il <| K1 (s:=λρ=>Instr.indexAt t (ρ x) (ρ i)) (λρ=>by simp[execOp,ho]) λa w g BJ=>by
  have hix:=AJ BJ i;rw[hi]at hix;have hie:=Di hix;have Wv:=AJ BJ x;rw[hie];split at hv
  ·rename_i k q p f hq;injection hv with hv;subst hv;rw[hq]at Wv;obtain⟨hk,g0,g1,b,hb,e⟩:=KL Wv;rw[e];refine⟨_,cf ht DY hn h0 h1 b _,?_⟩;rw[AJ0];exact bf hk g0 g1 hb
  ·rename_i ks t' y hq;rw[hq]at Wv;split at hv
   ·rename_i M8;split at hv
    ·rename_i Uh u z hz;injection hv with hv;subst hv;obtain⟨hk,b,off,ds,e0,ha,hr,hc⟩:=Xz Wv;obtain⟨c0,c1,c2,e,sE,_,⟨u',y',heq,aS⟩,_⟩:=XK (g:=g) hk _ _ y ds _ hr hz;injection heq with _ h2 h3;subst h2;obtain rfl:=eq_of_heq h3;rw[M8]at sE;injection sE with sE;rw[e0];refine⟨_,cf ht DY hn h0 h1 b off,bg hk ha aS λq' u fU=>?_⟩;rw[AJ0];refine hc _ u ?_;rw[e,AI6,AJk (by omega),show j.toNat*te.ty.size+q'-c0.length=q' by omega,AJl (AO fU)];exact fU
    ·cases hv
   ·cases hv
  ·cases hv
end
def G.add(g:G)(n b:Nat)(i:BI):G:=⟨λq=>if q=b then .BB n []else g.own q,λk=>if k=n then i else g.AQ k⟩
def G.Sj(g:G)(rs:AL7 Nat):G:=⟨λq=>match g.own q with |.BB j r=>if j∈rs then .Ik else .BB j r |t=>t,g.AQ⟩
section
variable {w:World} {g:G} {bs:AL7 Blk}
theorem Sx(H:Ba w g bs){b:Nat}(h:g.own b≠.no):b<w.heap.size:=by
 rcases AI9 b w.heap.size with h' |h'
 ·exact h'
 ·exact(h (H.BP b h')).elim
theorem Step.add(H:Ba w g bs)(o:Obj)(i:BI):Step [] bs.length w g (w.alloc o) (g.add bs.length w.heap.size i) where
 os:=rfl
 tape:=rfl
 output:=rfl
 size:=by show w.heap.size<=(w.heap.push o).size;simp
 no b hb h:=by
  refine⟨by simp[G.add,h,Nat.ne_of_lt hb],heap_alloc_old w o b hb⟩
 Ik b h:=by
  have hb:=Sx H (b:=b) (by rw[h];simp);exact⟨by simp[G.add,h,Nat.ne_of_lt hb],heap_alloc_old w o b hb⟩
 BB b k p h hk _:=by
  have hb:=Sx H (b:=b) (by rw[h];simp);exact⟨by simp[G.add,h,Nat.ne_of_lt hb],heap_alloc_old w o b hb⟩
 AQ k hk:=by simp[G.add,Nat.ne_of_lt hk]
theorem yi(H:Ba w g bs)(o:Obj)(i:BI):∀b,(w.alloc o).heap.size<=b->(g.add bs.length w.heap.size i).own b=.no:=by
 intro b hb;have KD:(w.alloc o).heap.size=w.heap.size+1:=by show(w.heap.push o).size=_;simp
 have sB:w.heap.size+1<=b:=by omega
 have:b≠w.heap.size:=by omega
 simp[G.add,this,H.BP b (by omega)]
theorem Ba.new(H:Ba w g bs){o:Obj}{i:BI}{b:Blk}(hb:LZ (w.alloc o) (g.add bs.length w.heap.size i) (bs.length+1) bs.length b):Ba (w.alloc o) (g.add bs.length w.heap.size i) (bs++[b]) :=
 H.push (Step.add H o i) (yi H o i) hb
theorem Step.Sj(rs:AL7 Nat)(n:Nat)(w:World)(g:G):Step rs n w g w (g.Sj rs) where
 os:=rfl
 tape:=rfl
 output:=rfl
 size:=AI4 _
 no b _ h:=⟨by simp[G.Sj,h],rfl⟩
 Ik b h:=⟨by simp[G.Sj,h],rfl⟩
 BB b k p h _ hm:=⟨by simp[G.Sj,h,hm],rfl⟩
 AQ _ _:=rfl
theorem Ba.Y7{w':World}{g':G}{Bu:AL7 Nat}{Gx:AL7 Blk}(H:Ba w g bs)(s:Step Bu bs.length w g w' g')(hf:∀b,w'.heap.size<=b->g'.own b=.no)(hl:bs.length<=Gx.length)
    (hb:∀(j:Nat) (x:Blk),Gx[j]?=some x->x=.AK\/(j∉Bu/\∃y,bs[j]?=some y/\x=y.drop λk=>Bu.contains k)\/LZ w' g' Gx.length j x):Ba w' g' Gx :=
 ⟨hf,λj x hx=>by
  rcases hb j x hx with h |⟨hm,y,hy,rfl⟩|h
  ·subst h;trivial
  ·exact(H.Ls j y hy).step s hl (AO hy) hm
  ·exact h⟩
theorem C8{Bu:AL7 Nat}{bs:AL7 Blk}{i:Nat}{x:Blk}(h:(A6 Bu bs)[i]?=some x):∃y,bs[i]?=some y/\x=y.drop λk=>Bu.contains k:=by
 unfold A6 at h;split at h
 ·exact⟨x,h,by rw[show(λk=>([]:AL7 Nat).contains k)=λ_=>false from funext λ_=>rfl,Zp]⟩
 ·rw[AJr]at h;cases hs:bs[i]? with
  |none=>rw[hs]at h;cases h
  |some y=>rw[hs]at h;injection h with h;exact⟨y,rfl,h.symm⟩
theorem Ay(Bu:AL7 Nat)(bs:AL7 Blk):(A6 Bu bs).length=bs.length:=by unfold A6;split<;>simp
theorem A3:∀(rs:AL7 Nat) (bs:AL7 Blk),(Blk.Gl bs rs).length=bs.length
 |[],_=>rfl
 |k::r,bs=>by rw[Blk.Gl,A3 r,AI7]
theorem Km:∀{rs:AL7 Nat} {bs:AL7 Blk} {j:Nat} {x:Blk},(Blk.Gl bs rs)[j]?=some x->x=.AK\/(j∉rs/\bs[j]?=some x)
 |[],_,_,_,h=>.inr ⟨by simp,h⟩
 |k::r,bs,j,x,h=>by
  rcases Km (rs:=r) h with h' |⟨h1,h2⟩
  ·exact .inl h'
  ·rw[AJn]at h2;split at h2
   ·split at h2
    ·injection h2 with h2;exact .inl h2.symm
    ·cases h2
   ·rename_i Lr;exact .inr ⟨by simp;exact⟨λe=>Lr e.symm,h1⟩,h2⟩
end
section
variable {P:Program} {σ:St} {o:Oper} {en:Gd} {e:G9}
theorem gW{x:AV}{el:TypeId}{f:Act->Value}(ho:∀a:Act,∀w:World,∀g:G,Kg w g σ a->(execOp a.eval o).run P w=.ok (.value (.pointer (some ⟨w.heap.size,0,none⟩))) (w.alloc (.cells (f a).cells el))/\∃cs,Cs w g σ.An.length false x cs/\(f a).cells=cs.toArray) :
    M3 P σ o ⟨.ptr σ.An.length 0 [] 0,σ.An++[.box x],[]⟩ where
 grow:=by simp
 ext _:=⟨_,rfl⟩
 wp a w g hs next Q hn:=by
  obtain⟨hr,cs,SV,hc⟩:=ho a w g hs;unfold Oper.wp;rw[hr];have st:=Step.add hs.heap (.cells (f a).cells el) ⟨some ⟨w.heap.size,0,none⟩,1,1,0⟩;refine hn _ _ (g.add σ.An.length w.heap.size ⟨some ⟨w.heap.size,0,none⟩,1,1,0⟩) (hs.heap.new ?_) ?_ st
  ·refine⟨by simp[G.add],w.heap.size,(f a).cells,el,by simp[G.add],by simp[G.add],heap_alloc_new w _,?_⟩;have e1:(f a).cells.toList=cs:=by rw[hc]
   rw[e1];exact SV.Qx st (AJz _)
  ·have:=bf (w:=w.alloc (.cells (f a).cells el)) (g:=g.add σ.An.length w.heap.size ⟨some ⟨w.heap.size,0,none⟩,1,1,0⟩) (n:=(σ.An++[Blk.box x]).length) (k:=σ.An.length) (i:=0) (p:=[]) (o:=0) (b:=w.heap.size)
     (by simp) (AK3 _) (by simp[G.add]) (by simp[G.add])
   simpa using this
theorem AhH{el:TypeId}{x:Operand}(ho:o.op=.box el x)(ht:(σ.B7 x).ai=true):M3 P σ o ⟨.ptr σ.An.length 0 [] 0,σ.An++[.box (σ.B7 x)],[]⟩ :=
 gW (el:=el) (f:=λa=>a.eval x) λa w g hs=>by
  obtain⟨h1,h2⟩:=ve ht;obtain⟨cs,SV,hv⟩:=BQ h2 h1 (AJ hs x);exact⟨by simp[execOp,ho,Instr.box,newVar,newRow],cs,SV,Zl hv SV.one⟩
theorem zd{el:TypeId}(ho:o.op=.alloc el){ti:TI}(ht:EC P el ti):M3 P σ o ⟨.ptr σ.An.length 0 [] 0,σ.An++[.box ti.ty.Ys],[]⟩:=by
 obtain⟨i,z,hi,_,_,hz,hc,_⟩:=ht.info;refine gW (el:=el) (f:=λ_=>z) λa w g hs=>⟨?_,Qz ti.ty,Xu,by rw[<-hc]⟩;simp[execOp,ho,Instr.alloc,zeroValue,typeInfo,hi,hz,newVar,newRow]
theorem aY(z:Array Value){s l c:Nat}(hs:z.size=s)(h0:0<s)(hl:l<=c):(madeCells z (c*s)).toList.take (l*s)=(List.replicate l (Value.agg z)).flatMap λv=>v.cells.toList:=by
 apply AKj;intro k;rw[Great.flat_get h0 _ (λv hv=>by rw[List.eq_of_mem_replicate hv];exact hs),AJM];have hm:l*s<=c*s:=AJX s hl;by_cases hk:k<l*s
 ·have hd:k/s<l:=(Nat.div_lt_iff_lt_mul h0).2 hk;have hr:k%s<s:=Nat.mod_lt _ h0;rw[AJg hk,AK7,AJg hd];have Ve:k<(madeCells z (c*s)).toList.length:=by simp[madeCells];omega
  rw[AJ6 Ve];have hr':k%s<z.size:=by omega
  simp only[madeCells,Value.cells,hs];simp;rw[AJS hr',getElem!_pos z _ hr']
 ·have hd:¬k/s<l:=λh=>hk ((Nat.div_lt_iff_lt_mul h0).1 h);rw[AJh hk,AK7,AJh hd];rfl
theorem XT{α:Type}{I:Nat->α->AL7 Value->Prop}{x:α}{v:Value}(h:∀i,I i x v.cells.toList):∀(l i:Nat),Bd I i (List.replicate l x) ((List.replicate l v).flatMap λv=>v.cells.toList)
 |0,_=>rfl
 |l+1,i=>by
  rw[AK6,AK6,ALd];exact⟨_,_,rfl,h i,XT h l (i+1)⟩
theorem gM{t:Ty}(h:t.row=true):t.data=true/\0<t.size:=by
 simp only[Ty.row,AI5,AKC]at h;exact⟨h.1,AKL h.2⟩
theorem lu{w:World}{own:Nat->Tq}{k:Nat}{t:Ty}(h:t.data=true){v:Value}(hv:v.cells.toList=Qz t)(l:Nat)(fi:FI) :
    pj w own k (fi.mode t) t (List.replicate l t.zero) ((List.replicate l v).flatMap λv=>v.cells.toList):=by
 unfold FI.mode;split
 ·exact XT (λi=>by rw[hv];exact Jl.zero h) l 0
 ·exact HS.2 (XT (I:=λ_=>Ha w (Al own []) t) (λi=>by rw[hv];exact Ha.zero h) l 0)
theorem TV(fi:FI)(t:Ty):(fi.mode t).Cf=[]:=by unfold FI.mode;split<;>rfl
theorem AAe{l c:Int}(h0:0<=l)(h:l<=c)(hm:c<=9223372036854775807):l.toNat<=c.toNat/\c.toNat<=maxLen:=by
 simp only[maxLen];omega
theorem AeA{t:TypeId}{l c:Operand}(ho:o.op=.makeSlice t l c){fi:FI}{ti te:TI}(ht:EC P t ti)(DY:EC P ti.elem te)(IR:ti.DZ=true)
    (h:kE fi σ.An ti.elem te (σ.B7 l) (σ.B7 c) some=some e):M3 P σ o e:=by
 unfold kE at h;split at h
 ·rename_i x1 x2 ks1 k1 lv ks2 k2 cv hl hc;split at h
  ·rename_i hg;obtain⟨OI,h0,hlc,oX,qI⟩:=hg;injection h with h;subst h;obtain⟨fO,BH⟩:=gM OI;obtain⟨i,z,hi,KD,hbs,hz,ko,_⟩:=DY.info;refine⟨by simp,λ_=>⟨_,rfl⟩,λa w g hs next Q hn=>?_⟩
   have e1:=AJ hs l;rw[hl]at e1;have e1:=Di e1;have e2:=AJ hs c;rw[hc]at e2;have e2:=Di e2;have hr:=run_make (P:=P) w t ti.elem i z (Bs ht IR) hi hz k1 k2 lv cv h0 hlc (by rw[hbs];exact oX) qI;unfold Oper.wp;simp only[execOp,ho,e1,e2,Sem.run_bind,hr,Result.andThen_ok];obtain⟨SU,hcm⟩:=AAe h0 hlc qI;have st:=Step.add hs.heap (.cells (madeCells z.cells (cv.toNat*i.size)) ti.elem) ⟨some ⟨w.heap.size,0,none⟩,lv.toNat,cv.toNat,te.ty.size⟩;refine hn _ _ _ (hs.heap.new ?_) ?_ st
   ·refine⟨(by rw[TV];intro j hj;cases hj),by simp[G.add],by simp[G.add],BH,.inr ⟨w.heap.size,_,_,by simp[G.add],by simp[G.add],⟨_,.inr rfl,heap_alloc_new w _⟩,by simpa [G.add]using SU,by simpa [G.add]using hcm,by simp[G.add,size_madeCells,KD],rfl,?_⟩⟩;rw[AJv,KD];rw[aY z.cells (by rw[<-AJV,ko,Rl]) BH SU];exact lu fO (by show z.cells.toList=_;exact ko) _ fi
   ·refine Bl (cs:=[_]) rfl ⟨by simp,rfl⟩ ?_;simp[BK,AV.isAgg,G.add]
  ·cases h
 ·cases h
end
def G.Ui(g:G)(f:Nat->AL7 Nat->Tq)(ob:AL8 Nat)(n:Nat)(i:BI):G :=
 ⟨λq=>if ob=some q then .BB n []else match g.own q with |.BB j r=>f j r |t=>t,λk=>if k=n then i else g.AQ k⟩
section
variable {w w':World} {g:G} {bs:AL7 Blk} {f:Nat->AL7 Nat->Tq} {ob:AL8 Nat} {n N:Nat} {i:BI} {Bu:AL7 Nat}
theorem Step.Ui(fr:∀b,w.heap.size<=b->g.own b=.no)(hos:w'.os=w.os)(hta:w'.tape=w.tape)(hou:w'.output=w.output)(KD:w.heap.size<=w'.heap.size)
    (Uu:∀q,q<w.heap.size->(∀k p,g.own q=.BB k p->k∉Bu)->w'.heap[q]?=w.heap[q]?) (ui:∀q,ob=some q->w.heap.size<=q) (hN:n<=N) (hf:∀j r,j<n->j∉Bu->f j r=.BB j r) :
    Step Bu n w g w' (g.Ui f ob N i):=by
 have lt:∀b,g.own b≠.no->b<w.heap.size:=λb h=>by
  rcases AI9 b w.heap.size with h' |h'
  ·exact h'
  ·exact(h (fr b h')).elim
 have nob:∀b,b<w.heap.size->¬(ob=some b):=λb hb e=>by have:=ui b e;omega
 refine⟨hos,hta,hou,KD,λb hb h=>⟨?_,Uu b hb λk p e=>?_⟩,λb h=>⟨?_,Uu b (lt b (by rw[h];simp)) λk p e=>?_⟩,λb k p h hk hm=>⟨?_,Uu b (lt b (by rw[h];simp)) λk' p' e=>?_⟩,λk hk=>?_⟩
 ·simp[G.Ui,nob b hb,h]
 ·rw[h]at e;cases e
 ·simp[G.Ui,nob b (lt b (by rw[h];simp)),h]
 ·rw[h]at e;cases e
 ·simp[G.Ui,nob b (lt b (by rw[h];simp)),h,hf k p hk hm]
 ·rw[h]at e;injection e with e;subst e;exact hm
 ·have:k≠N:=by omega
  simp[G.Ui,this]
theorem L5(fr:∀b,w.heap.size<=b->g.own b=.no)(KD:w.heap.size<=w'.heap.size)(ui:∀q,ob=some q->q<w'.heap.size):∀b,w'.heap.size<=b->(g.Ui f ob N i).own b=.no:=by
 intro b hb;have h1:¬(ob=some b):=λe=>by have:=ui b e;omega
 simp[G.Ui,h1,fr b (AJs KD hb)]
end
def Ko:AV->AL7 Nat->AL7 (Nat×AL7 Nat)
 |.Am k,p=>[(k,p)]
 |.pr a b,p=>Ko a (0::p)++Ko b (1::p)
 |_,_=>[]
theorem Gc:∀(a:AV) (p:AL7 Nat),(Ko a p).map (·.1)=a.QH
 |.Am k,_=>rfl
 |.mp _,_=>rfl
 |.pr a b,p=>by simp[Ko,AV.QH,Gc a,Gc b]
 |.Ax _ _ _,_=>rfl
 |.zs,_=>rfl
 |.ptr _ _ _ _,_=>rfl
 |.EJ _ _ _,_=>rfl
 |.LO,_=>rfl
 |.fn _ _,_=>rfl
 |.cons _ _,_=>rfl
 |.nil,_=>rfl
 |.Tf _ _ _ _ _,_=>rfl
 |.U6 _ _ _ _ _ _,_=>rfl
 |.un _,_=>rfl
def gm:AL7 (Nat×AL7 Nat)->Nat->AL8 (AL7 Nat)
 |[],_=>none
 |(k,p)::r,j=>if k=j then some p else gm r j
theorem ZN:∀{M:AL7 (Nat×AL7 Nat)},nodup (M.map (·.1))=true->∀{j p},(j,p)∈M->gm M j=some p
 |(k,q)::r,hn,j,p,h=>by
  simp only[AJI,nodup,AI5,AKk]at hn;simp only[gm];rcases List.mem_cons.1 h with h |h
  ·injection h with h1 h2;subst h1;subst h2;simp
  ·split
   ·rename_i e;subst e;have:k∈r.map (·.1):=List.mem_map.2 ⟨_,h,rfl⟩;simp at hn this;obtain⟨x,hx⟩:=this;exact(hn.1 x hx).elim
   ·exact ZN hn.2 h
theorem Tm:∀{M:AL7 (Nat×AL7 Nat)} {j:Nat},j∉M.map (·.1)->gm M j=none
 |[],_,_=>rfl
 |(k,q)::r,j,h=>by
  simp only[AJI,AKo,not_or]at h;simp only[gm,AJh (Ne.symm h.1)];exact Tm h.2
section
variable {w:World} {g:G} {bs:AL7 Blk}
theorem zy(H:Ba w g bs){Nj:Nat->Tq}{k:Nat}:∀(t:Ty) (v:AV) (y:t.V) (cs:AL7 Value) (p:AL7 Nat),rd bs t v=some y->v.W3=true->(∀j∈v.QH,Z0 bs j=some .Ai) ->
    (∀jq∈Ko v p,∀b q,g.own b=.BB jq.1 q->Nj b=.BB k (q++jq.2))->Cs w g bs.length false v cs->Jl w Nj k t p y cs:=by
 have plain:∀(t:Ty) (ks:AL7 Nat) (u:Ty) (y:u.V) (x:t.V) (cs:AL7 Value) (p:AL7 Nat),IP u t y=some x->u.BA=true->Cs w g bs.length false (.Ax ks u y) cs->Jl w Nj k t p x cs:=by
  intro t ks u y x cs p h hf hx;obtain⟨e,he⟩:=Bz h;subst e;simp only at he;subst he;exact(Jl.BA hf).2 ((Ha.BA hf).1 hx.2)
 intro t;induction t with
 |Au a b iha ihb =>
  intro v y cs p h hf hd hm hx;simp only[rd]at h;split at h
  ·exact plain _ _ _ _ _ _ _ h (by simpa [AV.W3]using hf) hx
  ·rename_i u z;split at h
   ·rename_i y1 y2 h1 h2;injection h with h;subst h;obtain⟨c,d,e,cY,qS⟩:=hx;simp only[AV.W3,AI5]at hf;exact⟨c,d,e,iha u y1 c _ h1 hf.1 (λj hj=>hd j (by simp[AV.QH,hj])) (λjq hj=>hm jq (by simp[Ko,hj])) cY,
     ihb z y2 d _ h2 hf.2 (λj hj=>hd j (by simp[AV.QH,hj])) (λjq hj=>hm jq (by simp[Ko,hj])) qS⟩
   ·cases h
  ·cases h
 |sl t _ =>
  intro v y cs p h hf hd hm hx;simp only[rd]at h;split at h
  ·exact plain _ _ _ _ _ _ _ h (by simpa [AV.W3]using hf) hx
  ·injection h with h;subst h;obtain⟨ad,e⟩:=hx;exact⟨ad,0,e,.inl ⟨rfl,rfl⟩⟩
  ·rename_i j;split at h
   ·rename_i el m u ys hb;obtain⟨e',he⟩:=Bz h;injection e' with e';subst e';simp only at he;subst he;obtain⟨hk,hc⟩:=hx;have Aiy:=hd j (by simp[AV.QH]);simp only[Z0,hb,AI0]at Aiy;subst Aiy;obtain⟨_,hlen,Pu,BH,hr⟩:=H.Ls j _ hb;have hmj:=hm (j,p) (by simp[Ko]);rw[hlen]at hc;refine⟨_,_,hc,hr.imp id λ⟨b,Bp,ds,ha,Ce,⟨el,_,hh⟩,h1,h2,h3,h4,Ps⟩=>⟨b,el,Bp,ds,ha,by simpa using hmj b [] Ce,hh,h1,h2,h3,h4,?_⟩⟩;exact Bd.mono (λi x c r=>r.mono λb q hb=>⟨by simpa using hmj b _ hb,rfl⟩) Ps
   ·cases h
  ·cases h
 |_ =>
  intro v y cs p h hf hd hm hx;simp only[rd]at h;split at h
  ·exact plain _ _ _ _ _ _ _ h (by simpa [AV.W3]using hf) hx
  ·cases h
theorem YU:∀(v:AV) (j:Nat),j∈v.TS bs->j∈v.QH\/j∈v.cN\/∃r∈v.QH,∃l,Z0 bs r=some (.sh l)/\j∈l
 |.Ax ks _ _,j,h=>.inr (.inl h)
 |.Am k,j,h=>by
  simp only[AV.TS]at h;rcases List.mem_cons.1 h with h |h
  ·exact .inl (by simp[AV.QH,h])
  ·cases hm:Z0 bs k with
   |none=>rw[hm]at h;cases h
   |some m =>
    rw[hm]at h;cases m with
    |Ai=>cases h
    |sh l=>exact .inr (.inr ⟨k,by simp[AV.QH],l,hm,h⟩)
 |.pr a b,j,h=>by
  simp only[AV.TS]at h;rcases List.mem_append.1 h with h |h
  ·rcases YU a j h with h |h |⟨r,h,l,hl⟩
   ·exact .inl (by simp[AV.QH,h])
   ·exact .inr (.inl (by simp[AV.cN,h]))
   ·exact .inr (.inr ⟨r,by simp[AV.QH,h],l,hl⟩)
  ·rcases YU b j h with h |h |⟨r,h,l,hl⟩
   ·exact .inl (by simp[AV.QH,h])
   ·exact .inr (.inl (by simp[AV.cN,h]))
   ·exact .inr (.inr ⟨r,by simp[AV.QH,h],l,hl⟩)
 |.zs,_,h=>by cases h
 |.ptr _ _ _ _,_,h=>by cases h
 |.EJ _ _ _,_,h=>by cases h
 |.LO,_,h=>by cases h
 |.fn _ _,_,h=>by cases h
 |.cons _ _,_,h=>by cases h
 |.nil,_,h=>by cases h
 |.Tf _ _ _ _ _,_,h=>by cases h
 |.U6 _ _ _ _ _ _,_,h=>by cases h
 |.mp _,_,h=>by cases h
 |.un _,_,h=>by cases h
end
theorem Nr{Wp:Nat->Bool}:∀{a:AV},(∀k∈a.Cf,Wp k=false)->a.drop Wp=a
 |.Ax ks t x,h=>by
  simp only[AV.drop];rw[AJh];intro hc;obtain⟨k,hk,hb⟩:=List.any_eq_true.1 hc;rw[h k hk]at hb;cases hb
 |.EJ ks t x,h=>by
  simp only[AV.drop];rw[AJh];intro hc;obtain⟨k,hk,hb⟩:=List.any_eq_true.1 hc;rw[h k hk]at hb;cases hb
 |.pr a b,h=>by
  simp only[AV.drop];rw[Nr λk hk=>h k (by simp[AV.Cf,hk]),Nr λk hk=>h k (by simp[AV.Cf,hk])]
 |.fn g c,h=>by
  simp only[AV.drop];rw[Nr λk hk=>h k (by simpa [AV.Cf]using hk)]
 |.cons a b,h=>by
  simp only[AV.drop];rw[Nr λk hk=>h k (by simp[AV.Cf,hk]),Nr λk hk=>h k (by simp[AV.Cf,hk])]
 |.zs,_=>rfl
 |.Am _,_=>rfl
 |.mp _,_=>rfl
 |.ptr _ _ _ _,_=>rfl
 |.LO,_=>rfl
 |.nil,_=>rfl
 |.Tf k i p o e,h=>by simp[AV.drop,h k (by simp[AV.Cf])]
 |.U6 k i p o j u,h=>by simp[AV.drop,h k (by simp[AV.Cf])]
 |.un _,_=>rfl
theorem Dt{w:World}{own:Nat->Tq}{k:Nat}{m:RM}{t:Ty}{xs:AL7 t.V}{ds:AL7 Value}:pj w own k m t xs ds↔Bd (S6 w own k m t) 0 xs ds:=by
 cases m with
 |Ai=>exact Iff.rfl
 |sh ks=>exact HS
theorem S6.len{w:World}{own:Nat->Tq}{k:Nat}{m:RM}{t:Ty}{i:Nat}{x:t.V}{cs:AL7 Value}(h:S6 w own k m t i x cs):cs.length=t.size:=by
 cases m with
 |Ai=>exact Jl.len h
 |sh ks=>exact Ha.len h
open Classical in
theorem S6.on{w w':World}{own Nj:Nat->Tq}{k k':Nat}{m m':RM}{t:Ty}{i i':Nat}{x:t.V}{cs:AL7 Value}(h:S6 w own k m t i x cs)
    (hm:match m,m' with
     |.Ai,.Ai=>∀b q,own b=.BB k (q++[i])->Nj b=.BB k' (q++[i'])/\w'.heap[b]?=w.heap[b]?
     |.sh ks,.sh Uh=>∀b,Al own ks b->Al Nj Uh b/\w'.heap[b]?=w.heap[b]?
     |.Ai,.sh Uh=>∀b q,own b=.BB k (q++[i])->Al Nj Uh b/\w'.heap[b]?=w.heap[b]?
     |.sh _,.Ai=>False):S6 w' Nj k' m' t i' x cs:=by
 cases m with
 |Ai=>cases m' with
  |Ai=>exact Jl.mono (p:=[i]) (p':=[i']) hm h
  |sh Uh =>
   have h1:Jl w' (λb=>if(∃q,own b=.BB k (q++[i]))then own b else .no) k t [i] x cs :=
    Jl.mono (p:=[i]) (p':=[i]) (λb q hb=>⟨by rw[AJg ⟨q,hb⟩];exact hb,(hm b q hb).2⟩) h
   exact Jl.rd (λb q hb=>by
    split at hb
    ·rename_i hq;obtain⟨q',hq⟩:=hq;exact(hm b q' hq).1
    ·cases hb) h1
 |sh ks=>cases m' with
  |Ai=>exact hm.elim
  |sh Uh=>exact Ha.mono hm h
def AiX(bs:AL7 Blk)(v:AV):AL7 Nat:=v.QH.flatMap (λk=>match Z0 bs k with |some (.sh l)=>l |_=>[])
theorem Pq{bs:AL7 Blk}{m m':RM}{t:Ty}{v:AV}{y:t.V}{rs:AL7 Nat}(h:take bs m t v=some (y,m',rs)):rd bs t v=some y/\rs=v.QH/\nodup v.QH=true /\
    ((m=.Ai/\m'=.Ai/\v.W3=true/\∀j∈v.QH,Z0 bs j=some .Ai)\/∃ks,m=.sh ks/\m'=.sh (ks++v.cN++AiX bs v)):=by
 unfold take at h;split at h
 ·cases h
 ·rename_i y' hy
  dsimp only at h
  split at h
  ·split at h
   ·rename_i hc;simp only[AI5]at hc;simp only[AI0,AJb]at h;obtain⟨rfl,rfl,rfl⟩:=h;refine⟨hy,rfl,hc.1.2,.inl ⟨rfl,rfl,hc.1.1,λj hj=>?_⟩⟩;have:=List.all_eq_true.1 hc.2 j hj;split at this
    ·assumption
    ·cases this
   ·cases h
  ·split at h
   ·rename_i hc;simp only[AI5]at hc;simp only[AI0,AJb]at h;obtain⟨rfl,rfl,rfl⟩:=h;exact⟨hy,rfl,hc.1,.inr ⟨_,rfl,rfl⟩⟩
   ·cases h
theorem Aek{w:World}{g:G}{bs:AL7 Blk}(H:Ba w g bs){v:AV}:∀j∈AiX bs v,j<bs.length:=by
 intro j hj;obtain⟨r,_,hr⟩:=List.mem_flatMap.1 hj;split at hr
 ·rename_i l hl;unfold Z0 at hl;split at hl
  ·rename_i e m t xs hb;injection hl with hl;subst hl;exact(H.Ls r _ hb).1 j hr
  ·cases hl
 ·cases hr
theorem oI{w:World}{g:G}{bs:AL7 Blk}(H:Ba w g bs){m m':RM}{t:Ty}{v:AV}{y:t.V}{rs:AL7 Nat}{cs:AL7 Value}(h:take bs m t v=some (y,m',rs))(hx:Cs w g bs.length false v cs)(hm:∀j∈m.Cf,j<bs.length):∀j∈m'.Cf,j<bs.length:=by
 obtain⟨_,_,_,hc⟩:=Pq h;rcases hc with ⟨rfl,rfl,_⟩|⟨ks,rfl,rfl⟩
 ·exact hm
 ·intro j hj;rcases List.mem_append.1 hj with hj |hj
  ·rcases List.mem_append.1 hj with hj |hj
   ·exact hm j hj
   ·exact hx.scope j hj
  ·exact Aek H j hj
theorem Z7{bs:AL7 Blk}{m m':RM}{t:Ty}{v:AV}{y:t.V}{rs:AL7 Nat}(h:take bs m t v=some (y,m',rs)):(∀j∈m.Cf,j∈m'.Cf)/\(m=.Ai↔m'=.Ai):=by
 obtain⟨_,_,_,hc⟩:=Pq h;rcases hc with ⟨rfl,rfl,_⟩|⟨ks,rfl,rfl⟩
 ·exact⟨λ_ h=>h,Iff.rfl⟩
 ·exact⟨λj hj=>AJw _ (AJw _ hj),by simp⟩
theorem VF{ks:AL7 Nat}{m:RM}(h:ji ks m=true):∀j∈m.Cf,j∉ks:=λj hj=>by
 have:=List.all_eq_true.1 h j hj;simpa using this
def VM(m:RM)(k:Nat)(M:AL7 (Nat×AL7 Nat))(j:Nat)(r:AL7 Nat):Tq :=
 match gm M j with
 |none=>.BB j r
 |some path=>match m with |.Ai=>.BB k (r++path)|.sh _=>.Ik
theorem O1{m:RM}{k:Nat}{M:AL7 (Nat×AL7 Nat)}{j:Nat}{r:AL7 Nat}(h:j∉M.map (·.1)):VM m k M j r=.BB j r:=by simp[VM,Tm h]
def InR(w:World)(own:Nat->Tq)(k:Nat):RM->(t:Ty)->AL7 Nat->t.V->AL7 Value->Prop
 |.Ai,t,L,x,cs=>Jl w own k t L x cs
 |.sh ks,t,_,x,cs=>Ha w (Al own ks) t x cs
theorem AhG{w:World}{own:Nat->Tq}{k:Nat}{m:RM}{u:Ty}{y:u.V}{p:AL7 Nat}{t:Ty}{i:Nat}{x x':t.V}{cs:AL7 Value}{o:Nat}(hs:R5 u y p t x=some x')(ho:K0 t p=some o)(h:S6 w own k m t i x cs) :
    ∃c0 c1 c2,cs=c0++c1++c2/\c0.length=o/\c1.length=u.size/\∀Si,InR w own k m u (TH p [i]) y Si->S6 w own k m t i x' (c0++Si++c2):=by
 cases m with
 |Ai=>exact XV (AiU w own k) u y p t [i] x x' cs o hs ho h
 |sh ks=>exact XV (AAi w (Al own ks)) u y p t [i] x x' cs o hs ho h
theorem oH{w w':World}{g:G}{bs:AL7 Blk}(H:Ba w g bs){m m':RM}{t:Ty}{v:AV}{y:t.V}{rs:AL7 Nat}{cs:AL7 Value}(h:take bs m t v=some (y,m',rs))(hx:Cs w g bs.length false v cs){k:Nat}{M:AL7 (Nat×AL7 Nat)}{L:AL7 Nat}{Nj:Nat->Tq}{m'':RM}
    (hM:∀jq∈Ko v L,gm M jq.1=some jq.2) (QD:∀j∈m'.Cf,j∈m''.Cf) (M8:∀j∈m''.Cf,gm M j=none) (iA:m=.Ai↔m''=.Ai)
    (Ce:∀b j r,g.own b=.BB j r->(j∈M.map (·.1)\/j∈m''.Cf)->Nj b=VM m k M j r) (fQ:∀b,g.own b=.Ik->Nj b=.Ik)
    (AcS:∀b,g.own b=.Ik\/(∃j r,g.own b=.BB j r/\(j∈M.map (·.1)\/j∈m''.Cf))->w'.heap[b]?=w.heap[b]?):InR w' Nj k m'' t L y cs:=by
 obtain⟨hy,rfl,hn,hc⟩:=Pq h;have AdE:∀j p,gm M j=some p->j∈M.map (·.1):=λj p hj=>Classical.byContradiction λhn=>by rw[Tm hn]at hj;cases hj
 have AAj:∀j∈v.QH,∃p,gm M j=some p:=λj hj=>by
  rw[<-Gc v L]at hj;obtain⟨jq,hjq,rfl⟩:=List.mem_map.1 hj;exact⟨_,hM jq hjq⟩
 rcases hc with ⟨rfl,rfl,hf,hd⟩|⟨ks,rfl,rfl⟩
 ·obtain rfl:=iA.1 rfl;have h1:Jl w (λb=>match g.own b with |.BB j r=>(match gm M j with |some p=>.BB k (r++p)|none=>.no)|_=>.no) k t L y cs :=
   zy H t v y cs L hy hf hd (λjq hj b q hb=>by simp[hb,hM jq hj]) hx
  refine Jl.mono (p:=L) (p':=L) (λb q hb=>?_) h1;split at hb
  ·rename_i j r hj;split at hb
   ·rename_i p hp;have hm:=AdE j p hp;refine⟨?_,AcS b (.inr ⟨j,r,hj,.inl hm⟩)⟩;rw[Ce b j r hj (.inl hm)];simp only[VM,hp];exact hb
   ·cases hb
  ·cases hb
 ·obtain ⟨ApP,rfl⟩:∃l,m''=.sh l:=by
    cases m'' with
    |Ai=>have:=iA.2 rfl;cases this
    |sh l=>exact⟨l,rfl⟩
  have key:∀b j q,g.own b=.BB j q->(j∈v.QH\/j∈ApP)->Al Nj ApP b:=by
   intro b j q hb hj;rcases hj with hj |hj
   ·obtain⟨p,hp⟩:=AAj j hj;exact .inl (by rw[Ce b j q hb (.inl (AdE j p hp))];simp[VM,hp])
   ·exact .inr ⟨j,hj,q,by rw[Ce b j q hb (.inr hj)];simp[VM,M8 j hj]⟩
  obtain⟨hr,hl⟩:=P4 H t v y cs hy hx;refine hr.mono λb hb=>?_;rcases hb with hb |⟨j,hj,q,hq⟩
  ·exact⟨.inl (fQ b hb),AcS b (.inl hb)⟩
  ·have QW:j∈v.QH\/j∈ApP:=by
     rcases YU v j hj with h |h |⟨r,h,l,hm,X5⟩
     ·exact .inl h
     ·exact .inr (QD j (AJw _ (AJx _ h)))
     ·exact .inr (QD j (AJx _ (List.mem_flatMap.2 ⟨r,h,by rw[hm];exact X5⟩)))
   refine⟨key b j q hq QW,AcS b (.inr ⟨j,q,hq,?_⟩)⟩;rcases QW with h |h
   ·obtain⟨p,hp⟩:=AAj j h;exact .inl (AdE j p hp)
   ·exact .inr h
section
variable {P:Program} {σ:St} {o:Oper} {en:Gd} {e:G9} {w:World} {g:G}
theorem Ti{t:Nat}{ti:TI}(ht:EC P t ti){b off:Nat}{Bp:Array Value}{el:TypeId}(hh:w.heap[b]?=some (.cells Bp el (0,0))){v:Value}{cs:AL7 Value}(hv:v.cells=cs.toArray)(hl:cs.length=ti.ty.size)
    (Pv:off+cs.length<=Bp.size) (h1:∀c∈cs,c.oneCell'=true) :
    (storeVar t ⟨b,off,none⟩ v).run P w=.ok () (w.setRow b (Bp.toList.take off++cs++Bp.toList.drop (off+cs.length)).toArray):=by
 have hs:=run_storeCells_at P b off el cs 0 Bp w hh (by simpa using Pv) h1;simp only[AKV]at hs;simp[storeVar,Du ht,hv,hl,hs]
theorem ga{Bu:AL7 Nat}{b k:Nat}{cs:Array Value}(ho:g.own b=.BB k [])(hk:k∈Bu):∀q,q<w.heap.size->(∀k p,g.own q=.BB k p->k∉Bu)->(w.setRow b cs).heap[q]?=w.heap[q]?:=by
 intro q _ hq;refine setRow_other w b q cs λe=>?_;subst e;exact hq k [] ho hk
theorem Ia{f:Nat->AL7 Nat->Tq}{ob:AL8 Nat}{n:Nat}{i:BI}{b j:Nat}{r:AL7 Nat}(ui:ob≠some b)(h:g.own b=.BB j r):(g.Ui f ob n i).own b=f j r:=by simp[G.Ui,ui,h]
theorem UQ{f:Nat->AL7 Nat->Tq}{ob:AL8 Nat}{n:Nat}{i:BI}{b:Nat}(ui:ob≠some b)(h:g.own b=.Ik):(g.Ui f ob n i).own b=.Ik:=by simp[G.Ui,ui,h]
theorem r6(H:Ba w g σ.An){t:Nat}{ti:TI}(ht:EC P t ti){k:Nat}{i:Int}{p:AL7 Nat}{of:Nat}{a jj a' v:AV}(hb:σ.An[k]?=some (.box a))(hg:a.UU p=some jj)(hs:a.Y2 p v=some a')
    (hc:v.ai/\a.yS p=some of/\jj.size=v.size/\v.size=ti.ty.size/\v.isAgg=ti.ty.isAgg/\a'.Cf.contains k=false) {u vv:Value} (hu:BS w g σ.An.length (.ptr k i p of) u) (hv:BS w g σ.An.length v vv) :
    ∃w' g',(Instr.storeAt t u vv).run P w=.ok () w'/\Ba w' g' ((A6 [k] σ.An).set k (.box a'))/\Step [k] σ.An.length w g w' g':=by
 obtain⟨ApJ,kn,KD,BJ,qx,Ut⟩:=hc;obtain⟨hk,h0,h1,b,M6,rfl⟩:=KL hu;obtain⟨hlen,b',cs,el,ha,ho,hh,hx⟩:=H.Ls k _ hb;rw[M6]at ha;injection ha with ha;injection ha with ha;subst ha;obtain⟨QY,Xb⟩:=ve ApJ;obtain⟨cv,YJ,yz⟩:=BQ Xb QY hv;have hvc:=Zl yz YJ.one;obtain⟨c0,c1,c2,e1,iU,cY,Fx⟩:=Q8 p a cs.toList jj hx hg;rw[kn]at iU;injection iU with iU;have Tz:c1.length=cv.length:=by rw[cY.len,YJ.len,KD]
 have hi0:i.toNat=0:=by omega
 have ACH:cs.size=c0.length+c1.length+c2.length:=by rw[<-AJV,e1];simp only[AI2]
 have DT:=Ti (P:=P) ht (off:=of) hh hvc (by rw[YJ.len,BJ]) (by omega) YJ.one;have ZK:(cs.toList.take of++cv++cs.toList.drop (of+cv.length))=c0++cv++c2:=by
  rw[e1,iU];congr 1
  ·congr 1;rw[AI6,AKD]
  ·rw[<-Tz,<-AI2,List.drop_left]
 rw[ZK]at DT;have st:Step [k] σ.An.length w g (w.setRow b (c0++cv++c2).toArray) g :=
  ⟨rfl,rfl,rfl,by simp,λq hq h=>⟨h,setRow_other w b q _ (λe=>by subst e;rw[ho]at h;cases h)⟩,λq h=>⟨h,setRow_other w b q _ (λe=>by subst e;rw[ho]at h;cases h)⟩,
   λq j r h _ hm=>⟨h,setRow_other w b q _ (λe=>by subst e;rw[ho]at h;injection h with h;exact hm (by simp[h]))⟩,λ_ _=>rfl⟩
 refine⟨_,g,?_,?_,st⟩
 ·simp only[Instr.storeAt,Instr.sureAddr,Sem.run_bind,Sem.run_pure,Result.andThen_ok,hi0,Nat.zero_mul,AJu];exact DT
 ·refine H.Y7 st (λq hq=>H.BP q (by simpa using hq)) (by simp[Ay]) λj x hj=>?_;rw[AJn]at hj;split at hj
  ·rename_i hkj;subst hkj;split at hj
   ·injection hj with hj;subst hj;refine .inr (.inr ⟨hlen,b,_,el,M6,ho,setRow_heap w b cs _ el (0,0) hh,?_⟩);have:=Cs.step st (AI4 _) a' false (Fx v a' cv hs YJ);rw[Nr (λj hj=>by
     cases cP:([k]:AL7 Nat).contains j with
     |false=>rfl
     |true =>
      simp at cP;subst cP;simp at Ut;exact(Ut hj).elim)]at this
    simpa [Ay]using this
   ·cases hj
  ·rename_i Lr;obtain⟨y,hy,rfl⟩:=C8 hj;exact .inr (.inl ⟨by simpa using λe:j=k=>Lr e.symm,y,hy,rfl⟩)
theorem U7{bs:AL7 Blk}{t:Ty}{v:AV}{y:t.V}(h:rd bs t v=some y):v.C5=false/\v.Nc=false:=by
 cases v with
 |cons a b=>cases t<;>simp[rd]at h
 |nil=>cases t<;>simp[rd]at h
 |un n=>cases t<;>simp[rd]at h
 |_=>exact⟨rfl,rfl⟩
theorem tZ{α:Type}{l:AL7 α}{i:Nat}(h:i<l.length)(d:α):l.getD i d=l[i]:=by simp[List.getD,h]
theorem Xo(H:Ba w g σ.An){t:Nat}{ti:TI}(ht:EC P t ti){k:Nat}{i:Int}{p:AL7 Nat}{of e:Nat}{m m':RM}{tr:Ty}{xs:AL7 tr.V}{v:AV}{y:ti.ty.V}{x':tr.V}{rs:AL7 Nat}(hb:σ.An[k]?=some (.row e m tr xs))
    (Ye:take σ.An m ti.ty v=some (y,m',rs)) (hc:K0 tr p=some of/\tyP tr p=some ti.ty/\ji (k::rs) m'=true/\rs.contains k=false) (Fx:R5 ti.ty y p tr (xs.getD i.toNat tr.zero)=some x')
    {u vv:Value} (hu:BS w g σ.An.length (.ptr k i p of) u) (hv:BS w g σ.An.length v vv) :
    ∃w' g',(Instr.storeAt t u vv).run P w=.ok () w'/\Ba w' g' ((Blk.Gl (A6 (k::rs) σ.An) rs).set k (.row e m' tr (xs.set i.toNat x')))/\Step (k::rs) σ.An.length w g w' g':=by
 obtain⟨kn,dG,M8,hrk⟩:=hc;obtain⟨hk,h0,h1,b,M6,rfl⟩:=KL hu;obtain⟨QA,hlen,Pu,BH,hr⟩:=H.Ls k _ hb;have Bh:i.toNat<xs.length:=by rw[<-hlen];exact h1
 rcases hr with ⟨WC,_⟩|⟨b',Bp,ds,ha,Ce,⟨el,Tx,hh⟩,M7,j9,wK,hc4,Ps⟩
 ·rw[WC]at Bh;simp at Bh
 rw[M6]at ha;injection ha with ha;injection ha with ha;subst ha;obtain⟨hy,hrs,Rm,yv⟩:=Pq Ye;obtain⟨Xb,QY⟩:=U7 hy;obtain⟨cv,YJ,yz⟩:=BQ Xb QY hv;have hvc:=Zl yz YJ.one;have SU:cv.length=ti.ty.size:=(P4 H _ _ _ _ hy YJ).1.len;obtain⟨c0,c,d,e1,dF,wT,yx,fW⟩:=Bd.AQ (λi x c h=>S6.len h) (Dt.1 Ps) Bh;have ACH:=S6.len wT;obtain⟨YQ,iA⟩:=Z7 Ye;have Ws:=VF M8;have uf:k∉rs:=by simpa using hrk
 let M:=Ko v (TH p [i.toNat])
 have ua:M.map (·.1)=rs:=by rw[hrs];exact Gc v _
 let f:=VM m k M
 let g':=g.Ui f none σ.An.length ⟨none,0,0,0⟩
 let off:=i.toNat*tr.size+of
 let new:=Bp.toList.take off++cv++Bp.toList.drop (off+cv.length)
 let w':=w.setRow b new.toArray
 have qL:∀b' r,g.own b'=.BB k r->g'.own b'=.BB k r:=λb' r h=>by
  have:=Ia (f:=f) (ob:=none) (n:=σ.An.length) (i:=⟨none,0,0,0⟩) (by simp) h;rw[this];exact O1 (by rw[ua];exact uf)
 have st:Step (k::rs) σ.An.length w g w' g':=Step.Ui H.BP rfl rfl rfl (by simp[w']) (ga Ce (by simp)) (λq h=>by cases h) (AI4 _) λj r _ hm =>
  O1 (by rw[ua];exact λh=>hm (AJq _ h))
 have AcZ:∀b' j r,g.own b'=.BB j r->j≠k->w'.heap[b']?=w.heap[b']?:=λb' j r h hj=>setRow_other w b b' _ λe=>by subst e;rw[Ce]at h;injection h with h;exact hj h.symm
 have Ac0:∀b' q,g.own b'=.BB k q->q≠[]->w'.heap[b']?=w.heap[b']?:=λb' q h hq=>setRow_other w b b' _ λe=>by subst e;rw[Ce]at h;injection h with _ h;exact hq h.symm
 have qJ:∀b',g.own b'=.Ik->w'.heap[b']?=w.heap[b']?:=λb' h=>setRow_other w b b' _ λe=>by subst e;rw[Ce]at h;cases h
 have hon:∀(i':Nat) (x:tr.V) (c:AL7 Value),S6 w g.own k m tr i' x c->S6 w' g'.own k m' tr i' x c:=by
  intro i' x c Tx;refine Tx.on ?_;rcases yv with ⟨rfl,rfl,_⟩|⟨ks,rfl,rfl⟩
  ·exact λb' q h=>⟨qL b' _ h,Ac0 b' _ h (by simp)⟩
  ·intro b' h;rcases h with h |⟨j,hj,r,h⟩
   ·exact⟨.inl (UQ (by simp) h),qJ b' h⟩
   ·have qD:=YQ j hj;have cP:=Ws j qD;exact⟨.inr ⟨j,qD,r,by
     have:=Ia (f:=f) (ob:=none) (n:=σ.An.length) (i:=⟨none,0,0,0⟩) (by simp) h;rw[this];exact O1 (by rw[ua];exact λh=>cP (AJq _ h))⟩,AcZ b' j r h λe=>cP (by simp[e])⟩
 rw[AJu]at wT;rw[tZ Bh]at Fx;obtain⟨d0,d1,d2,e2,hd0,fM,FA⟩:=AhG Fx kn (hon _ _ _ wT);have YO:InR w' g'.own k m' ti.ty (TH p [i.toNat]) y cv:=by
  refine oH H Ye YJ (M:=M) (λjq hj=>ZN (by rw[Gc];exact Rm) hj) (λ_ h=>h) (λj hj=>Tm (by rw[ua];exact λh=>Ws j hj (AJq _ h))) iA
   (λb' j r h _=>Ia (by simp) h) (λb' h=>UQ (by simp) h) λb' h=>?_
  rcases h with h |⟨j,r,h,hj⟩
  ·exact qJ b' h
  ·refine AcZ b' j r h λe=>?_;subst e;rcases hj with hj |hj
   ·rw[ua]at hj;exact uf hj
   ·exact Ws j hj (by simp)
 have qE:=Bd.join Bh (yx.mono λi' x c h=>hon i' x c h) (by rw[AJu];exact FA cv YO) (fW.mono λi' x c h=>hon i' x c h);have Azk:Bp.toList=ds++Bp.toList.drop (xs.length*tr.size):=by rw[<-hc4,AJ8]
 have hds:ds.length=xs.length*tr.size:=by
  have kl:Bp.toList.length=Bp.size:=AJV;rw[<-hc4,AJj,kl,wK];exact AKF (AJX _ M7)
 have Ac9:(Bp.toList.drop (xs.length*tr.size)).length=Bp.size-xs.length*tr.size:=by simp
 have Ug:xs.length*tr.size<=Bp.size:=by rw[wK];exact AJX _ M7
 have AHb:c0.length+c.length+d.length=xs.length*tr.size:=by rw[<-hds,e1];simp only[AI2]
 have AG5:d0.length+d1.length+d2.length=c.length:=by rw[e2];simp only[AI2]
 have AiH:off=(c0++d0).length:=by simp only[off,AI2,dF,hd0]
 have ACI:cv.length=d1.length:=by rw[SU,fM]
 have ZK:new=(c0++(d0++cv++d2)++d)++Bp.toList.drop (xs.length*tr.size):=by
  simp only[new];have nc:Bp.toList=(c0++d0)++(d1++(d2++d++Bp.toList.drop (xs.length*tr.size))):=by
   conv=>lhs;rw[Azk,e1,e2]
   simp only[AI6]
  generalize Bp.toList.drop (xs.length*tr.size)=bu at nc⊢;rw[nc,AiH,ACI,AKD,<-AI2,<-AI6 (c0++d0) d1,List.drop_left];simp only[AI6]
 have DT:(storeVar t ⟨b,off,none⟩ vv).run P w=.ok () w':=Ti (P:=P) ht hh hvc SU (by
  have:off=c0.length+d0.length:=by rw[AiH,AI2]
  omega) YJ.one
 refine⟨w',g',?_,?_,by exact st⟩
 ·simp only[Instr.storeAt,Instr.sureAddr,Sem.run_bind,Sem.run_pure,Result.andThen_ok,Pu];exact DT
 ·refine H.Y7 st (L5 H.BP (by simp[w']) (λq h=>by cases h)) (by simp[A3,Ay]) λj x hj=>?_;rw[AJn]at hj;split at hj
  ·rename_i hkj;subst hkj;split at hj
   ·injection hj with hj;subst hj;have QV:g'.AQ k=g.AQ k:=st.AQ k hk;have AzE:((Blk.Gl (A6 (k::rs) σ.An) rs).set k (.row e m' tr (xs.set i.toNat x'))).length=σ.An.length:=by simp[A3,Ay]
    refine .inr (.inr ⟨by rw[AzE];exact oI H Ye YJ QA,by rw[QV,AI7];exact hlen,by rw[QV];exact Pu,BH,.inr ⟨b,new.toArray,_,by rw[QV];exact M6,qL b [] Ce,⟨el,Tx,setRow_heap w b Bp _ el (0,0) hh⟩,by rw[QV,AI7];exact M7,by rw[QV];exact j9,?_,rfl,?_⟩⟩)
    ·rw[QV,<-wK,ZK];simp only[AKc,AI2];omega
    ·rw[Dt,AI7];have:(new.toArray).toList.take (xs.length*tr.size)=c0++(d0++cv++d2)++d:=by
      rw[AKR,ZK];have kl:(c0++(d0++cv++d2)++d).length=xs.length*tr.size:=by simp only[AI2];omega
      rw[<-kl,AKD]
     rw[this];exact qE
   ·cases hj
  ·rename_i Lr;rcases Km hj with h |⟨kh,h⟩
   ·exact .inl h
   ·obtain⟨y',cZ,rfl⟩:=C8 h;exact .inr (.inl ⟨by simp only[AKo,not_or];exact⟨λe=>Lr e.symm,kh⟩,y',cZ,rfl⟩)
theorem uP{f:Nat}{F G:∀u:Ty,u.V->AL8 u.V}(h:∀(u:Ty) (x x0:u.V),F u x=some x0->G u x0=G u x):∀{t:Ty} {x x0:t.V},Ra t x f F=some x0->Ra t x0 f G=Ra t x f G:=by
 induction f with
 |zero =>
  intro t x x0 hs;cases t with
  |Au a b =>
   simp only[Ra]at hs⊢;split at hs
   ·rename_i y hy;injection hs with hs;subst hs;rw[h _ _ _ hy]
   ·cases hs
  |_=>simp[Ra]at hs
 |succ f ih =>
  intro t x x0 hs;cases t with
  |Au a b =>
   simp only[Ra]at hs⊢;split at hs
   ·rename_i y hy;injection hs with hs;subst hs;rw[ih hy]
   ·cases hs
  |_=>simp[Ra]at hs
theorem gO{u:Ty}{y z:u.V}:∀(p:AL7 Nat) (t:Ty) (x x0:t.V),R5 u z p t x=some x0->R5 u y p t x0=R5 u y p t x
 |[],_,_,_,_=>rfl
 |f::p,_,_,_,h=>uP (f:=f) (λu' x x0 hx=>gO p u' x x0 hx) h
theorem Aei{A:Type}{l:AL7 A}{i:Nat}(h:i<l.length)(x d:A):(l.set i x).getD i d=x:=by simp[List.getD,h]
theorem oC{bs:AL7 Blk}(H:Ba w g bs){t:Nat}{ti:TI}(ht:EC P t ti){k j e ej of:Nat}{i:Int}{p:AL7 Nat}{tr u:Ty}{xs:AL7 tr.V}{ys:AL7 u.V}{x0 x':tr.V}(hb:bs[k]?=some (.QE e tr xs i p))(hj:bs[j]?=some (.row ej .Ai u ys))
    (WC:R5 (.sl u) [] p tr (xs.getD i.toNat tr.zero)=some x0) (qR:R5 (.sl u) ys p tr (xs.getD i.toNat tr.zero)=some x') (hc:ti.ty=.sl u/\K0 tr p=some of/\tyP tr p=some (.sl u)/\j≠k)
    {uu vv:Value} (hu:BS w g bs.length (.ptr k i p of) uu) (hv:BS w g bs.length (.Am j) vv) :
    ∃w' g',(Instr.storeAt t uu vv).run P w=.ok () w'/\Ba w' g' ((Blk.Gl (A6 [k,j] ((A6 [k] bs).set k (.row e .Ai tr (xs.set i.toNat x0)))) [j]).set k (.row e .Ai tr (xs.set i.toNat x')))/\Step [k,j] bs.length w g w' g':=by
 obtain⟨dG,kn,htp,cP⟩:=hc;have iT:=AO hb;obtain⟨hlen,Pu,BH,h0,Bh,u1,o1,x1,b,Bp,ds,q1,q2,q3,M6,Ce,⟨el,Tx,hh⟩,M7,j9,wK,hc4,Ps⟩:=H.Ls k _ hb;rw[kn]at q1;injection q1 with q1;subst q1;rw[htp]at q2;injection q2 with q2;injection q2 with q2;subst q2;rw[WC]at q3;injection q3 with q3;subst q3
 let q:=i.toNat*tr.size+of
 let p9:=Bp.setIfInBounds q (.slice none 0 0)
 let w0:=w.setRow b p9
 let bs1:=(A6 [k] bs).set k (Blk.row e .Ai tr (xs.set i.toNat x0))
 have Tz:bs1.length=bs.length:=by simp[bs1,Ay]
 have st:Step [k] bs.length w g w0 g :=
  ⟨rfl,rfl,rfl,by simp[w0],λq hq h=>⟨h,setRow_other w b q _ (λe=>by subst e;rw[Ce]at h;cases h)⟩,λq h=>⟨h,setRow_other w b q _ (λe=>by subst e;rw[Ce]at h;cases h)⟩,
   λq j r h _ hm=>⟨h,setRow_other w b q _ (λe=>by subst e;rw[Ce]at h;injection h with h;exact hm (by simp[h]))⟩,λ_ _=>rfl⟩
 have H1:Ba w0 g bs1:=by
  refine H.Y7 st (λq hq=>H.BP q (by simpa [w0]using hq)) (by rw[Tz];exact AI4 _) λm x hm=>?_;rw[AJn]at hm;split at hm
  ·rename_i hkm;subst hkm;split at hm
   ·injection hm with hm;subst hm;exact .inr (.inr ⟨λj hj=>(by cases hj),by rw[AI7];exact hlen,Pu,BH,.inr ⟨b,p9,ds,M6,Ce,⟨el,Tx,setRow_heap w b Bp _ el (0,0) hh⟩,by rw[AI7];exact M7,j9,by rw[<-wK];simp[p9],by rw[AI7];exact hc4,Ps.mono λi x c r=>r.mono λb' q hb=>⟨hb,setRow_other w b b' _ λe=>by subst e;rw[Ce]at hb;injection hb with _ hb;simp at hb⟩⟩⟩)
   ·cases hm
  ·rename_i Lr;obtain⟨y,hy,rfl⟩:=C8 hm;exact .inr (.inl ⟨by simpa using λe:m=k=>Lr e.symm,y,hy,rfl⟩)
 have hj1:bs1[j]?=some (.row ej .Ai u ys):=by
  simp only[bs1];rw[AK2 (Ne.symm cP)];simp[A6,hj,Blk.drop,RM.Cf]
 have hk1:bs1[k]?=some (.row e .Ai tr (xs.set i.toNat x0)):=by
  simp only[bs1];rw[ALc (by rw[Ay];exact iT)]
 obtain⟨ty,VG,elem,bytes,Gw,NK⟩:=ti
 dsimp only at dG
 subst dG;have Ye:take bs1 .Ai (.sl u) (.Am j)=some (ys,.Ai,[j]):=by
  simp[take,rd,hj1,IP,AV.QH,AV.W3,nodup,Z0]
 have AiL:R5 (.sl u) ys p tr ((xs.set i.toNat x0).getD i.toNat tr.zero)=some x':=by
  rw[Aei Bh,gO p tr _ _ WC,qR]
 have hu1:BS w0 g bs1.length (.ptr k i p of) uu:=by
  have:=hu.step st (AI4 _);rw[Tz];exact this
 have cT:BS w0 g bs1.length (.Am j) vv:=by
  have:=hv.step st (AI4 _);rw[Tz];exact this
 obtain⟨w',g',DT,hH,BJ⟩:=Xo (σ:=⟨[],bs1⟩) H1 ht hk1 Ye ⟨kn,htp,by simp[ji,RM.Cf],by simpa using Ne.symm cP⟩ AiL hu1 cT;obtain⟨_,_,_,b',sB,he⟩:=KL hu;rw[M6]at sB;injection sB with sB;injection sB with sB;subst sB;obtain⟨_,yz⟩:=EP hv;have Pv:q+1<=Bp.size:=by
  obtain⟨c0,c,d,e1,dF,wT,yx,fW⟩:=Bd.AQ (λi x c h=>Jl.len h) Ps (by rw[AI7];exact Bh);obtain⟨a0,a1,a2,e2,ha0,wE,_⟩:=XV (AiU w g.own k) (.sl u) ys p tr _ _ _ _ of (by rw[<-AiL];simp[List.getD,Bh]) kn wT;have SU:=Jl.len wT;have h1:c.length=a0.length+a1.length+a2.length:=by rw[e2];simp only[AI2]
  have h2:a1.length=1:=wE;have h3:(i.toNat+1)*tr.size<=Bp.size:=by rw[wK];exact AJX _ (AJs Bh M7)
  rw[AJ9,ALb]at h3;simp only[q];omega
 have one:∀c∈[vv],c.oneCell'=true:=λc hc=>by simp at hc;subst hc;rw[yz];rfl
 have hvc:vv.cells=[vv].toArray:=by rw[yz];rfl
 have r1:=Ti (P:=P) ht (off:=q) (setRow_heap w b Bp p9 el (0,0) hh) hvc rfl (by simp[p9];exact Pv) one;have r2:=Ti (P:=P) ht (off:=q) hh hvc rfl (by simpa using Pv) one;have hX:(p9.toList.take q++[vv]++p9.toList.drop (q+[vv].length))=(Bp.toList.take q++[vv]++Bp.toList.drop (q+[vv].length)):=by
  simp only[p9,Array.toList_setIfInBounds];rw[List.take_set_of_le (AI4 _),List.drop_set_of_lt (by simp)]
 rw[hX,setRow_setRow]at r1;have AiK:(Instr.storeAt t uu vv).run P w0=.ok () (w.setRow b (Bp.toList.take q++[vv]++Bp.toList.drop (q+[vv].length)).toArray):=by
  rw[he];simp only[Instr.storeAt,Instr.sureAddr,Sem.run_bind,Sem.run_pure,Result.andThen_ok,Pu];exact r1
 have iX:w'=w.setRow b (Bp.toList.take q++[vv]++Bp.toList.drop (q+[vv].length)).toArray:=by
  rw[DT]at AiK;injection AiK
 refine⟨w',g',?_,?_,(st.trans BJ (by rw[Tz];exact AI4 _)).weaken (by simp) (AI4 _)⟩
 ·rw[he,iX];simp only[Instr.storeAt,Instr.sureAddr,Sem.run_bind,Sem.run_pure,Result.andThen_ok,Pu];exact r2
 ·rw[AKJ]at hH;exact hH
theorem zn{t:TypeId}{x v:Operand}(ho:o.op=.store t x v){ti:TI}(ht:EC P t ti)(h:bH σ.An ti (σ.B7 x) (σ.B7 v) some=some e):M3 P σ o e:=by
 have UT:∀(Gx:AL7 Blk) (Bu:AL7 Nat),Bu≠[]->Gx.length=σ.An.length ->
     (∀(a:Act) (w:World) (g:G),Kg w g σ a->∃w' g',(Instr.storeAt t (a.eval x) (a.eval v)).run P w=.ok () w'/\Ba w' g' Gx/\Step Bu σ.An.length w g w' g')->M3 P σ o ⟨.un 0,Gx,Bu⟩:=by
  intro Gx Bu hm hl hh;refine⟨by simp[hl],λh=>(hm h).elim,λa w g hs next Q hn=>?_⟩
  obtain⟨w',g',hr,hH,BJ⟩:=hh a w g hs;unfold Oper.wp;simp only[execOp,ho,Sem.run_bind,hr,Result.andThen_ok];exact hn undef w' g' hH Qy BJ
 unfold bH at h;split at h
 ·rename_i k i p of vv hx;split at h
  ·rename_i a hb;split at h
   ·rename_i jj a' hg Fx;split at h
    ·rename_i hc;injection h with h;subst h;refine UT _ _ (by simp) (by simp[Ay]) λac w g hs=>?_;have hu:=AJ hs x;rw[hx]at hu;exact r6 hs.heap ht hb hg Fx hc hu (AJ hs v)
    ·cases h
   ·cases h
  ·rename_i el m tr xs hb;split at h
   ·rename_i y m' rs Ye;split at h
    ·rename_i hc;split at h
     ·rename_i x' Fx;injection h with h;subst h;refine UT _ _ (by simp) (by simp[Ay,A3]) λac w g hs=>?_;have hu:=AJ hs x;rw[hx]at hu;exact Xo hs.heap ht hb Ye hc Fx hu (AJ hs v)
     ·cases h
    ·cases h
   ·cases h
  ·rename_i el tr xs i' p' hb;split at h
   ·rename_i j hj;split at h
    ·rename_i ej u ys hbj;split at h
     ·rename_i x0 x' WC qR;split at h
      ·rename_i hc;split at h
       ·rename_i hi;injection h with h;subst h;subst hi;obtain⟨c1,c2,c3,c4,c5⟩:=hc;subst c4;refine UT _ _ (by simp) (by simp[Ay,A3]) λac w g hs=>?_;have hu:=AJ hs x;rw[hx]at hu;have hv:=AJ hs v;rw[hj]at hv;exact oC hs.heap ht hb hbj WC qR ⟨c1,c2,c3,c5⟩ hu hv
       ·cases h
      ·cases h
     ·cases h
    ·cases h
   ·cases h
  ·cases h
 ·cases h
end
section
variable {P:Program} {σ:St} {o:Oper} {en:Gd} {e:G9}
theorem Xj{bs:AL7 Blk}{t:Ty}:∀{ps:AL7 (Nat×AV)} {m m':RM} {xs zD:AL7 t.V} {rs zT:AL7 Nat},Q7 bs t m xs rs ps=some (m',zD,zT) ->
    (∀j∈m.Cf,j∈m'.Cf)/\(m=.Ai↔m'=.Ai)/\zT=rs++ps.flatMap (λp=>p.2.QH)/\zD.length=xs.length
 |[],m,m',xs,zD,rs,zT,h=>by
  simp only[Q7,AI0,AJb]at h;obtain⟨rfl,rfl,rfl⟩:=h;exact⟨λ_ h=>h,Iff.rfl,by simp,rfl⟩
 |(i,v)::ps,m,m',xs,zD,rs,zT,h=>by
  simp only[Q7]at h;split at h
  ·rename_i y m1 l ht;split at h
   ·obtain⟨h1,h2,h3,h4⟩:=Xj h;obtain⟨hs,hd⟩:=Z7 ht;obtain⟨_,hl,_⟩:=Pq ht;exact⟨λj hj=>h1 j (hs j hj),hd.trans h2,by rw[h3,hl];simp,by rw[h4,AI7]⟩
   ·cases h
  ·cases h
theorem gE{t:Ty}{E:Nat->t.V->AL7 Value->Prop}(hE:∀i x c,E i x c->c.length=t.size){bs:AL7 Blk}{ρ:Operand->AV}{ε:Operand->Value}{m':RM}:∀{ps:AL7 (Nat×Operand)} {m:RM} {xs zD:AL7 t.V} {rs zT:AL7 Nat} {cs:AL7 Value},
    Q7 bs t m xs rs (ps.map λp=>(p.1,ρ p.2))=some (m',zD,zT)->Bd E 0 xs cs ->
    (∀p∈ps,∀m m1 y rs,take bs m t (ρ p.2)=some (y,m1,rs)->(m=.Ai↔m'=.Ai)->(∀j∈m1.Cf,j∈m'.Cf)->∃cv,(ε p.2).cells=cv.toArray/\E p.1 y cv) ->
    ∃iJ,Instr.fill (λi=>some (i*t.size,t.size)) cs.toArray (ps.map λp=>(p.1,ε p.2))=some iJ.toArray/\Bd E 0 zD iJ
 |[],m,xs,zD,rs,zT,cs,h,hl,_=>by
  simp only[AKt,Q7,AI0,AJb]at h;obtain⟨rfl,rfl,rfl⟩:=h;exact⟨cs,rfl,hl⟩
 |(i,x)::ps,m,xs,zD,rs,zT,cs,h,hl,hp=>by
  simp only[AJI,Q7]at h;split at h
  ·rename_i y m1 l ht;split at h
   ·rename_i hi;obtain⟨h1,h2,_⟩:=Xj h;obtain⟨hs,hd⟩:=Z7 ht;obtain⟨cv,YJ,hey⟩:=hp (i,x) (by simp) m m1 y l ht (hd.trans h2) h1;obtain⟨c0,c,d,e1,dF,wT,yx,fW⟩:=Bd.AQ hE hl hi;have ZK:=Bd.join hi yx (by rw[AJu];exact hey) fW;obtain⟨iJ,hf,ug⟩:=gE hE h ZK λp zN=>hp p (by simp[zN]);refine⟨iJ,?_,ug⟩;simp only[AJI];unfold Instr.fill;have SV:(ε x).cells.size=t.size:=by
     have Apc:(ε x).cells=cv.toArray:=YJ;rw[Apc,AKc,hE _ _ _ hey]
    have hc:=hE _ _ _ wT;have Pv:¬i*t.size+t.size>cs.toArray.size:=by
     rw[AKc,e1,AI2,AI2,dF,hc];omega
    simp only[SV,ne_eq,not_true_eq_false,decide_false,AKm,Pv,AJN,AKv];rw[<-hf];congr 1;have Apc:(ε x).cells=cv.toArray:=YJ;rw[Apc,e1,<-dF];exact xg (by rw[hE _ _ _ hey,hc])
   ·cases h
  ·cases h
theorem sk{m m':RM}(h:m=.Ai↔m'=.Ai)(k:Nat)(M:AL7 (Nat×AL7 Nat))(j:Nat)(r:AL7 Nat):VM m k M j r=VM m' k M j r:=by
 unfold VM;split
 ·rfl
 ·cases m with
  |Ai=>rw[h.1 rfl]
  |sh _=>cases m' with
   |Ai=>have:=h.2 rfl;cases this
   |sh _=>rfl
def uF(ps:AL7 (Nat×AV)):AL7 (Nat×AL7 Nat):=ps.flatMap λp=>Ko p.2 [p.1]
theorem rB(ps:AL7 (Nat×AV)):(uF ps).map (·.1)=ps.flatMap λp=>p.2.QH:=by
 induction ps with
 |nil=>rfl
 |cons p ps ih =>
  simp only[uF,ALd,AJJ]at ih⊢;rw[Gc,ih]
theorem bn{w:World}{g:G}{bs:AL7 Blk}(H:Ba w g bs){t:Ty}{ρ:Operand->AV}{ε:Operand->Value}(hρ:∀x,BS w g bs.length (ρ x) (ε x)):∀{ps:AL7 (Nat×Operand)} {m m':RM} {xs zD:AL7 t.V} {rs zT:AL7 Nat},
    Q7 bs t m xs rs (ps.map λp=>(p.1,ρ p.2))=some (m',zD,zT)->(∀j∈m.Cf,j<bs.length)->∀j∈m'.Cf,j<bs.length
 |[],m,m',xs,zD,rs,zT,h,hm=>by
  simp only[AKt,Q7,AI0,AJb]at h;obtain⟨rfl,rfl,rfl⟩:=h;exact hm
 |(i,x)::ps,m,m',xs,zD,rs,zT,h,hm=>by
  simp only[AJI,Q7]at h;split at h
  ·rename_i y m1 l ht;split at h
   ·obtain⟨hy,_⟩:=Pq ht;obtain⟨Xb,QY⟩:=U7 hy;obtain⟨cv,YJ,_⟩:=BQ Xb QY (hρ x);exact bn H hρ h (oI H ht YJ hm)
   ·cases h
  ·cases h
theorem gU{t:TypeId}{len:Nat}{Gb:Array (Nat×Operand)}(ho:o.op=.buildSlice t len Gb){fi:FI}{ti te:TI}(ht:EC P t ti)(DY:EC P ti.elem te){m:RM}{xs:AL7 te.ty.V}{rs:AL7 Nat}
    (hp:Q7 σ.An te.ty (fi.mode te.ty) (List.replicate len te.ty.zero) [] (Gb.toList.map λp=>(p.1,σ.B7 p.2))=some (m,xs,rs))
    (hc:(ti.DZ&&te.ty.row&&ji rs m&&nodup rs&&decide (len*te.ty.size<=16777216))=true) :
    (len=0->M3 P σ o ⟨.zs,σ.An,[]⟩)/\(len≠0->M3 P σ o ⟨.Am σ.An.length,Blk.Gl (A6 rs σ.An) rs++[.row ti.elem m te.ty xs],rs⟩):=by
 simp only[AI5,AKl]at hc;obtain⟨⟨⟨⟨IR,OI⟩,M8⟩,Rm⟩,AcJ⟩:=hc;have hu:=Bs ht IR;obtain⟨fO,BH⟩:=gM OI;obtain⟨ie,z,hi,KD,oX,hz,ko,_⟩:=DY.info;obtain⟨_,iA,hrs,hxl⟩:=Xj hp;rw[AJv]at hxl;rw[AJ7]at hrs;refine⟨λh0=>?_,λh0=>?_⟩
 ·subst h0;have hps:Gb.toList=[]:=by
   cases hq:Gb.toList with
   |nil=>rfl
   |cons p r =>
    rw[hq]at hp;simp only[AJI,Q7]at hp;split at hp
    ·split at hp
     ·rename_i h;simp at h
     ·cases hp
    ·cases hp
  have ADj:Gb=#[]:=by apply Array.toList_inj.1;rw[hps]
  refine⟨AI4 _,λ_=>⟨[],(AJD _).symm⟩,λa w g hs next Q hn=>?_⟩
  have hr:(execOp a.eval o).run P w=.ok (.value (.slice (some ⟨w.heap.size,0,none⟩) 0 0)) (w.alloc (.cells #[] ti.elem)):=by
   simp[execOp,ho,Instr.buildSlice,run_underlying hu,sizeOf,typeInfo,hi,ADj,Instr.fill,newRow];congr 2;apply Array.eq_empty_of_size_eq_zero;simp
  unfold Oper.wp;rw[hr];have st:Step [] σ.An.length w g (w.alloc (.cells #[] ti.elem)) g:=⟨rfl,rfl,rfl,by show w.heap.size<=(w.heap.push _).size;simp,λb hb h=>⟨h,heap_alloc_old w _ b hb⟩,λb h=>⟨h,heap_alloc_old w _ b (Sx hs.heap (by rw[h];simp))⟩,
   λb k p h _ _=>⟨h,heap_alloc_old w _ b (Sx hs.heap (by rw[h];simp))⟩,λ_ _=>rfl⟩
  refine hn _ _ g (hs.heap.Qx st λb hb=>hs.heap.BP b (AJs st.size hb)) (kJ _) st
 ·refine⟨by simp[A3,Ay],λh=>⟨[.row ti.elem m te.ty xs],?_⟩,λa w g hs next Q hn=>?_⟩
  ·have h:rs=[]:=h;rw[h];rfl
  have H:=hs.heap
  let n:=σ.An.length
  let M:=uF (Gb.toList.map λp=>(p.1,σ.B7 p.2))
  have ua:M.map (·.1)=rs:=by rw[hrs];exact rB _
  let i:BI:=⟨some ⟨w.heap.size,0,none⟩,len,len,te.ty.size⟩
  let g':=g.Ui (VM m n M) (some w.heap.size) n i
  have Ag1:∀b,g.own b≠.no->b≠w.heap.size:=λb h e=>by have:=Sx H h;omega
  have key:∀cells:Array Value,∃w':World,w'=w.alloc (.cells cells ti.elem)/\Step rs n w g w' g':=λcells=>⟨_,rfl,Step.Ui H.BP rfl rfl rfl (by show w.heap.size<=(w.heap.push _).size;simp) (λq hq _=>heap_alloc_old w _ q hq)
   (λq h=>by injection h with h;omega) (AI4 _) λj r _ hm=>O1 (by rw[ua];exact hm)⟩
  have UG:∀b j r,g.own b=.BB j r->g'.own b=VM m n M j r:=λb j r h=>Ia (by
   intro e;injection e with e;exact Ag1 b (by rw[h];simp) e.symm) h
  have ZR:∀b,g.own b=.Ik->g'.own b=.Ik:=λb h=>UQ (by
   intro e;injection e with e;exact Ag1 b (by rw[h];simp) e.symm) h
  have hzero:Bd (S6 w g'.own n m te.ty) 0 (List.replicate len te.ty.zero) ((List.replicate len (Value.agg z.cells)).flatMap λv=>v.cells.toList):=by
   refine XT (λi=>?_) len 0;have ADL:(Value.agg z.cells).cells.toList=Qz te.ty:=ko;rw[ADL];cases m with
   |Ai=>exact Jl.zero fO
   |sh ks=>exact Ha.zero fO
  obtain⟨iJ,qC,AcX⟩:=gE (E:=S6 w g'.own n m te.ty) (ε:=a.eval) (λi x c h=>h.len) hp hzero (by
   intro p hpm m0 m1 y rs0 Ye hd0 YQ;obtain⟨hy,yx,hn0,_⟩:=Pq Ye;obtain⟨Xb,QY⟩:=U7 hy;obtain⟨cv,YJ,yz⟩:=BQ Xb QY (AJ hs p.2);refine⟨cv,Zl yz YJ.one,?_⟩;have FA:InR w g'.own n m te.ty [p.1] y cv:=by
    refine oH H Ye YJ (M:=M) (λjq hj=>ZN (by rw[ua];exact Rm) ?_) YQ (λj hj=>Tm (by rw[ua];exact VF M8 j hj)) hd0
     (λb j r h _=>by rw[UG b j r h,sk hd0]) ZR λ_ _=>rfl
    exact List.mem_flatMap.2 ⟨(p.1,σ.B7 p.2),List.mem_map.2 ⟨p,hpm,rfl⟩,hj⟩
   cases m with
   |Ai=>exact FA
   |sh ks=>exact FA)
  have SU:=Bd.len (λi x c h=>S6.len h) AcX;rw[hxl]at SU;have hpc:¬len*te.ty.size=0:=by
   have:0<len*te.ty.size:=Nat.mul_pos (AKL h0) BH;omega
  have AzH:(Array.range (len*ie.size)).map (z.cells[·%z.cells.size]!)=((List.replicate len (Value.agg z.cells)).flatMap λv=>v.cells.toList).toArray:=by
   have h1:=aY z.cells (s:=te.ty.size) (l:=len) (c:=len) (by rw[<-AJV,ko,Rl]) BH (AI4 _);rw[AI8 (by rw[AJV,size_madeCells];exact AI4 _)]at h1;rw[<-h1,KD];simp only[madeCells,Array.toArray_toList]
  have hr:(execOp a.eval o).run P w=.ok (.value (.slice (some ⟨w.heap.size,0,none⟩) len len)) (w.alloc (.cells iJ.toArray ti.elem)):=by
   have:=run_buildSlice (P:=P) w t ti.elem len (Gb.map λ(i,x)=>(i,a.eval x)) iJ.toArray ie z hu hi hz (by rw[KD];omega) (by rw[KD];exact hpc) (by
    rw[AzH,KD];simpa using qC)
   simp[execOp,ho,this]
  unfold Oper.wp;rw[hr];obtain⟨w',iX,st⟩:=key iJ.toArray;subst iX;have Nu:g'.AQ n=i:=by simp[g',G.Ui]
  refine hn _ _ g' (H.Y7 st (L5 H.BP st.size (λq h=>by injection h with h;subst h;show w.heap.size<(w.heap.push _).size;simp)) (by simp[A3,Ay]) λj x hj=>?_) ?_ st
  ·rw[AJo]at hj;split at hj
   ·rcases Km hj with h |⟨kh,h⟩
    ·exact .inl h
    ·obtain⟨y',cZ,rfl⟩:=C8 h;exact .inr (.inl ⟨kh,y',cZ,rfl⟩)
   ·rename_i hlen;rw[A3,Ay]at hj hlen;have kg:j-σ.An.length=0:=by
     rcases AJm (j-σ.An.length)with h |h
     ·exact h
     ·rw[AJC (by simp;omega)]at hj;cases hj
    rw[kg]at hj;obtain rfl:j=n:=by simp only[n];omega
    simp only[List.getElem?_cons_zero,AI0]at hj;subst hj;refine .inr (.inr ⟨λj hj=>?_,by rw[Nu,hxl],by rw[Nu],BH,.inr ⟨w.heap.size,iJ.toArray,_,by rw[Nu],by simp[g',G.Ui],⟨_,.inr rfl,heap_alloc_new w _⟩,by rw[Nu,hxl];exact AI4 _,?_,by rw[Nu,AKc,SU],rfl,?_⟩⟩)
    ·have:=bn H (AJ hs) hp (by rw[TV];intro j hj;cases hj) j hj;simp[A3,Ay];omega
    ·rw[Nu];have:len<=len*te.ty.size:=AK8 _ BH;simp only[maxLen,i];omega
    ·rw[Dt,AKR,AI8 (by rw[SU,hxl];exact AI4 _)];refine AcX.mono λi' x c h=>h.on ?_;have hap:∀b,g.own b≠.no\/g'.own b≠.no/\b≠w.heap.size->(w.alloc (.cells iJ.toArray ti.elem)).heap[b]?=w.heap[b]?:=λb hb=>by
      refine heap_alloc_old w _ b ?_;rcases hb with hb |⟨hb,Lr⟩
      ·exact Sx H hb
      ·rcases AI9 b w.heap.size with h' |h'
       ·exact h'
       ·refine(hb ?_).elim;have:=H.BP b h';simp[g',G.Ui,this,Ne.symm Lr]
     cases m with
     |Ai =>
      intro b q hb;refine⟨hb,hap b (.inr ⟨by rw[hb];simp,λe=>?_⟩)⟩;subst e;simp[g',G.Ui]at hb
     |sh ks =>
      intro b hb;refine⟨hb,hap b (.inr ⟨?_,λe=>?_⟩)⟩
      ·rcases hb with hb |⟨j,_,p,hb⟩<;>rw[hb]<;>simp
      ·subst e;rcases hb with hb |⟨j,hj,p,hb⟩
       ·simp[g',G.Ui]at hb
       ·simp[g',G.Ui]at hb;have:=bn H (AJ hs) hp (by rw[TV];intro j hj;cases hj) j hj;omega
  ·refine Bl (cs:=[_]) rfl ⟨by simp[A3,Ay],rfl⟩ ?_;have:g'.AQ σ.An.length=i:=Nu;simp[BK,AV.isAgg,this,i]
end
section
variable {P:Program} {w:World} {g:G} {bs:AL7 Blk}
theorem Aee(w:World)(t tx ty e:TypeId)(i:TypeInfo)(ht:P.underlying t=some (.slice e))(hi:P.info? e=some i)
    (b YZ uN:Nat) (Bp:Array Value) {e0:TypeId} (hg:w.heap[b]?=some (.cells Bp e0 (0,0))) (x:Value) (n:Nat) (FW:AL7 Value) (hs:Src P i.size tx x n FW w) (W9:YZ+n<=uN) (Pv:YZ*i.size+FW.length<=Bp.size) :
    (Builtin.append_ #[t,tx] ty #[.slice (some ⟨b,0,none⟩) YZ uN,x]).run P w =
     .ok (.slice (some ⟨b,0,none⟩) (YZ+n) uN) (w.setRow b (Bp.toList.take (YZ*i.size)++FW++Bp.toList.drop (YZ*i.size+FW.length)).toArray):=by
 have BJ:=run_storeCells_at P b (YZ*i.size) e0 FW 0 Bp w hg (by simpa using Pv) hs.one;simp only[AKV]at BJ;rcases hs.kind with ⟨e',hk⟩|hk<;>simp[Builtin.append_,run_underlying ht,run_underlying hk,sizeOf,typeInfo,hi,hs.len,W9,hs.cells,Addr.add_lit,BJ]
theorem rq(w:World)(t tx ty e:TypeId)(i:TypeInfo)(ht:P.underlying t=some (.slice e))(hi:P.info? e=some i)(ad:AL8 Addr)(x:Value)(FW:AL7 Value)(hs:Src P i.size tx x 0 FW w) :
    (Builtin.append_ #[t,tx] ty #[.slice ad 0 0,x]).run P w=.ok (.slice ad 0 0) w:=by
 have hn:FW=[]:=by
  have:=hs.newsLen;simpa using this
 subst hn;cases ad<;>rcases hs.kind with ⟨e',hk⟩|hk<;>simp[Builtin.append_,run_underlying ht,run_underlying hk,sizeOf,typeInfo,hi,hs.len,hs.cells,storeCells]
theorem tA(w:World)(t tx ty e:TypeId)(i:TypeInfo)(z:Value)(ht:P.underlying t=some (.slice e))(hi:P.info? e=some i)(hz:i.zero=some z)(hzs:z.cells.size=i.size)(BH:0<i.size)
    {Pw:Nat->Prop} {Ek:Prop} {ad:AL8 Addr} {len cap:Nat} {ds:AL7 Value} (Vx:(len=0/\cap=0/\ds=[])\/∃b Bp e0,ad=some ⟨b,0,none⟩/\Pw b/\(w.heap[b]?=some (.cells Bp e0 (0,0))/\(Ek\/e0=e))/\len<=cap/\cap<=maxLen/\Bp.size=cap*i.size/\Bp.toList.take (len*i.size)=ds)
    {x:Value} {n:Nat} {FW:AL7 Value} (hs:Src P i.size tx x n FW w) (oX:i.bytes≠0) (Pv:(len+n)*i.bytes<=140737488355328) :
    ∃pz RH w',(Builtin.append_ #[t,tx] ty #[.slice ad len cap,x]).run P w=.ok (.slice pz (len+n) RH) w'/\w'.os=w.os/\w'.tape=w.tape/\w'.output=w.output/\w.heap.size<=w'.heap.size /\
     ((len+n=0/\RH=0/\w'=w)\/∃b' Pr e1,pz=some ⟨b',0,none⟩/\(w'.heap[b']?=some (.cells Pr e1 (0,0))/\(Ek\/e1=e))/\len+n<=RH/\RH<=maxLen/\Pr.size=RH*i.size/\Pr.toList.take ((len+n)*i.size)=ds++FW /\
      ((∃Bp e0,ad=some ⟨b',0,none⟩/\Pw b'/\w.heap[b']?=some (.cells Bp e0 (0,0))/\w'=w.setRow b' Pr)\/(b'=w.heap.size/\b'<w'.heap.size/\∀q,q<w.heap.size->w'.heap[q]?=w.heap[q]?))):=by
 have Apu:len+n<=140737488355328:=AJs (AK8 _ (AKL oX)) Pv;have h63:((len+n:Nat):Int)<=9223372036854775807:=by omega
 have yu:len+n<=maxLen:=by simp only[maxLen];omega
 have iQ:ds.length=len*i.size:=by
  rcases Vx with ⟨h1,h2,h3⟩|⟨b,Bp,e0,h1,_,h2,h3,h4,h5,h6⟩
  ·subst h1;subst h3;simp
  ·rw[<-h6,AJj,AJV,h5];exact AKF (AJX _ h3)
 by_cases W9:len+n<=cap
 ·rcases Vx with ⟨rfl,rfl,rfl⟩|⟨b,Bp,e0,rfl,hpw,⟨hb,hek⟩,h3,h4,h5,h6⟩
  ·obtain rfl:n=0:=by omega
   exact⟨ad,0,w,rq w t tx ty e i ht hi ad x FW hs,rfl,rfl,rfl,AI4 _,.inl ⟨rfl,rfl,rfl⟩⟩
  ·have Ug:len*i.size+FW.length<=Bp.size:=by
     rw[hs.newsLen,h5,<-AJ9];exact AJX _ W9
   refine⟨_,cap,_,Aee w t tx ty e i ht hi b len cap Bp hb x n FW hs W9 Ug,rfl,rfl,rfl,by simp,.inr ⟨b,_,e0,rfl,⟨setRow_heap w b Bp _ e0 (0,0) hb,hek⟩,W9,h4,?_,?_,.inl ⟨Bp,e0,rfl,hpw,hb,rfl⟩⟩⟩
   ·simp only[AKc,AI2,AJj,AJy,AJV];omega
   ·rw[AKR,h6];have:(len+n)*i.size=(ds++FW).length:=by rw[AI2,iQ,hs.newsLen,AJ9]
    rw[this,AKD]
 ·have zL:cap<len+n:=by omega
  have holds:(Builtin.firstCells i.size len (.slice ad len cap)).run P w.drew=.ok ds.toArray w.drew:=by
   rcases Vx with ⟨rfl,rfl,rfl⟩|⟨b,Bp,e0,rfl,hpw,⟨hb,hek⟩,h3,h4,h5,h6⟩
   ·cases ad with
    |none=>exact run_firstCells_none w.drew i.size 0 0 0
    |some a=>exact run_firstCells_some w.drew i.size 0 a 0 0 [] (by simp) (by simp)
   ·refine run_firstCells_some w.drew i.size len _ len cap ds iQ λj u hu=>?_;rw[X3,AJu];show w.cell? ⟨b,j,none⟩=some u;rw[PE hb,<-AJc];rw[<-h6,AJM]at hu;split at hu
    ·exact hu
    ·cases hu
  have hr:=run_append_grow_src (P:=P) w t tx ty e i z ht hi hz ad len cap ds holds x n FW hs zL h63 (growslice_fits zL Pv);refine⟨_,_,_,hr,rfl,rfl,rfl,by simp,.inr ⟨w.heap.size,_,e,rfl,⟨heap_alloc_new w.drew _,.inr rfl⟩,grownCap_ge w _ cap e,grownCap_le_maxLen w _ cap e yu,?_,?_,.inr ⟨rfl,by simp,λq hq=>heap_alloc_old w.drew _ q hq⟩⟩⟩
  ·have ae:=grownCap_ge w (len+n) cap e;simp only[Array.size_append,AKc,AI2,size_zeroCells,hzs,iQ,hs.newsLen,<-AJ9];congr 1;omega
  ·have:(len+n)*i.size=(ds++FW).length:=by rw[AI2,iQ,hs.newsLen,AJ9]
   rw[this,Array.toList_append,AKR,AKD]
end
def X8(w:World)(g:G)(t:Ty)(m:RM)(rs:AL7 Nat)(i:Nat)(x:t.V)(c:AL7 Value):Prop :=
 (t.BA=true/\c=Kj t x)\/(∃ks,m=.sh ks/\Ha w (Al g.own ks) t x c)\/∃j,rs=[j]/\S6 w g.own j m t i x c
theorem X8.len{w:World}{g:G}{t:Ty}{m:RM}{rs:AL7 Nat}{i:Nat}{x:t.V}{c:AL7 Value}(h:X8 w g t m rs i x c):c.length=t.size:=by
 rcases h with ⟨hf,rfl⟩|⟨ks,_,h⟩|⟨j,_,h⟩
 ·exact Ha.len (w:=default) (A:=λ_=>True) ((Ha.BA hf).2 rfl)
 ·exact h.len
 ·exact h.len
theorem X8.one{w:World}{g:G}{t:Ty}{m:RM}{rs:AL7 Nat}{i:Nat}{x:t.V}{c:AL7 Value}(h:X8 w g t m rs i x c):∀v∈c,v.oneCell'=true:=by
 rcases h with ⟨hf,rfl⟩|⟨ks,_,h⟩|⟨j,_,h⟩
 ·exact Ha.one (w:=default) (A:=λ_=>True) ((Ha.BA hf).2 rfl)
 ·exact h.one
 ·cases m with
  |Ai=>exact Jl.one h
  |sh ks=>exact Ha.one h
theorem S6.BA{w:World}{own:Nat->Tq}{k:Nat}{m:RM}{t:Ty}{i:Nat}{x:t.V}{c:AL7 Value}(hf:t.BA=true):S6 w own k m t i x c↔c=Kj t x:=by
 cases m with
 |Ai=>exact Jl.BA hf
 |sh ks=>exact Ha.BA hf
section
variable {P:Program} {w:World} {g:G} {bs:AL7 Blk}
theorem Aca{ds:AL7 Value}{b:Nat}{Bp:Array Value}{el:TypeId}{fr:Nat×Nat}{n:Nat}(hh:w.heap[b]?=some (.cells Bp el fr))(h4:Bp.toList.take n=ds):∀j u,ds[j]?=some u->w.cell? ((⟨b,0,none⟩:Addr).add j)=some u:=by
 intro j u hu;rw[X3,AJu,PE hh,<-AJc];subst h4;rw[AJM]at hu;split at hu
 ·exact hu
 ·cases hu
theorem AeR(H:Ba w g bs){t:Ty}{y:AV}{ys:AL7 t.V}{m:RM}{rs:AL7 Nat}(h:oB bs t y=some (ys,m,rs)){v:Value}(hv:BS w g bs.length y v){tx:TypeId}{bL:TI}(sH:EC P tx bL)(hk:(bL.DZ||bL.ty==.str)=true) :
    ∃FW,Src P t.size tx v ys.length FW w/\Bd (X8 w g t m rs) 0 ys FW/\(∀j∈m.Cf,j<bs.length)/\(∀j∈rs,j<bs.length)/\(rs=[]\/∃j,rs=[j]):=by
 have AcU:(∃e',P.underlying tx=some (.slice e'))\/P.underlying tx=some .string:=by
  rw[AKe]at hk;rcases hk with hk |hk
  ·exact .inl ⟨_,Bs sH hk⟩
  ·exact .inr (Rk sH (by simpa using hk))
 have ApT:∀(ad:AL8 Addr) (c:Nat),Src P t.size tx (.slice ad 0 c) 0 [] w:=λad c =>
  ⟨AcU,λ_=>rfl,by
   cases ad with
   |none=>exact run_firstCells_none w t.size 0 0 c
   |some a=>exact run_firstCells_some w t.size 0 a 0 c [] (by simp) (by simp),by
   cases ad with
   |none=>exact run_firstCells_none w.drew t.size 0 0 c
   |some a=>exact run_firstCells_some w.drew t.size 0 a 0 c [] (by simp) (by simp),by simp,λ_ h=>by cases h⟩
 have Aen:∀(a:Addr) (n c:Nat) (FW:AL7 Value),FW.length=n*t.size->(∀j u,FW[j]?=some u->w.cell? (a.add j)=some u)->(∀u∈FW,u.oneCell'=true)->Src P t.size tx (.slice (some a) n c) n FW w:=λa n c FW hl hn h1 =>
  ⟨AcU,λ_=>rfl,run_firstCells_some w t.size n a n c FW hl hn,run_firstCells_some w.drew t.size n a n c FW hl (by simpa using hn),hl,h1⟩
 unfold oB at h;split at h
 ·simp only[AI0,AJb]at h;obtain⟨rfl,rfl,rfl⟩:=h;obtain⟨ad,rfl⟩:=WR hv;exact⟨[],ApT ad 0,rfl,λj hj=>by(cases hj),λj hj=>by(cases hj),.inl rfl⟩
 ·rename_i ks u xs;split at h
  ·rename_i l hl;obtain⟨e',he⟩:=Bz hl;injection e' with e';subst e';simp only at he;subst he;simp only[AI0,AJb]at h;obtain⟨rfl,rfl,rfl⟩:=h;obtain⟨hks,ad,cap,ds,rfl,aP,hr,hm⟩:=Yu hv;have zI:Bd (X8 w g u (if u.BA=true then RM.Ai else RM.sh ks) []) 0 xs ds:=by
    refine hr.toI λi x c h=>?_;cases hf:u.BA with
    |true=>exact .inl ⟨hf,(Ha.BA hf).1 h⟩
    |false=>exact .inr (.inl ⟨ks,by simp,h⟩)
   refine⟨ds,?_,zI,λj hj=>?_,λj hj=>by(cases hj),.inl rfl⟩
   ·rcases hm with rfl |⟨b,off,rfl,_,hc⟩
    ·cases hr;exact ApT ad cap
    ·exact Aen _ _ _ _ (Ct.len (λx c h=>Ha.len h) hr) (λj u hu=>by rw[X3];exact hc j u hu) (Ct.all (λx c h=>Ha.one h) hr)
   ·cases hf:u.BA with
    |true=>rw[hf]at hj;cases hj
    |false=>rw[hf]at hj;exact hks j hj
  ·cases h
 ·rename_i ks s;split at h
  ·rename_i l hl;obtain⟨e',he⟩:=Bz hl;injection e' with e';subst e';simp only at he;subst he;simp only[AI0,AJb]at h;obtain⟨rfl,rfl,rfl⟩:=h;obtain rfl:=VS hv;refine⟨byteCells s,?_,?_,λj hj=>by(cases hj),λj hj=>by(cases hj),.inl rfl⟩
   ·have e1:(s.data.toList.map λb=>(b.toNat:Int)).length=s.size:=by rw[AJa,AJV];rfl
    rw[e1];exact⟨AcU,λ_=>rfl,firstCells_string s w,firstCells_string s w.drew,by rw[byteCells_length];exact(Nat.mul_one _).symm,λu hu=>by
     obtain⟨_,_,rfl⟩:=List.mem_map.1 hu;rfl⟩
   ·have:∀(l:AL7 UInt8) (i:Nat),Bd (X8 w g (.int .u8) .Ai []) i (l.map λb=>(b.toNat:Int)) (l.map λb=>Value.int .u8 b.toNat):=by
      intro l;induction l with
      |nil=>exact λ_=>rfl
      |cons b l ih=>exact λi=>⟨[_],_,rfl,.inl ⟨rfl,rfl⟩,ih (i+1)⟩
    exact this _ 0
  ·cases h
 ·rename_i j;split at h
  ·rename_i el m1 u xs hb;split at h
   ·rename_i l hl;obtain⟨e',he⟩:=Bz hl;injection e' with e';subst e';simp only at he;subst he;simp only[AI0,AJb]at h;obtain⟨rfl,rfl,rfl⟩:=h;obtain⟨hj,rfl⟩:=EP hv;obtain⟨QA,hlen,Pu,BH,hr⟩:=H.Ls j _ hb;rw[hlen];have QD:∀j'∈(if u.BA=true then RM.Ai else m1).Cf,j'<bs.length:=λj' QW=>by
     split at QW
     ·cases QW
     ·exact QA j' QW
    have hrs:∀j'∈(if u.BA=true then[]else[j]),j'<bs.length:=λj' QW=>by
     split at QW
     ·cases QW
     ·simp at QW;subst QW;exact hj
    have hsh:(if u.BA=true then[]else[j])=[]\/∃j',(if u.BA=true then[]else[j])=[j']:=by
     cases u.BA with
     |true=>exact .inl rfl
     |false=>exact .inr ⟨j,rfl⟩
    rcases hr with ⟨rfl,F6⟩|⟨b,Bp,ds,ha,Ce,⟨elq,_,hh⟩,h1,h2,h3,h4,Ps⟩
    ·rw[F6];exact⟨[],ApT _ 0,rfl,QD,hrs,hsh⟩
    ·rw[ha];have zI:Bd (X8 w g u (if u.BA=true then RM.Ai else m1) (if u.BA=true then[]else[j])) 0 xs ds:=by
      refine(Dt.1 Ps).mono λi x c h=>?_;cases hf:u.BA with
      |true=>exact .inl ⟨hf,(S6.BA hf).1 h⟩
      |false=>exact .inr (.inr ⟨j,by simp,by simpa using h⟩)
     exact⟨ds,Aen _ _ _ _ (Bd.len (λi x c h=>h.len) zI) (Aca hh h4) (Bd.all (λi x c h=>h.one) zI),zI,QD,hrs,hsh⟩
   ·cases h
  ·cases h
 ·cases h
def og(off:Nat):AL7 Nat->AL7 Nat
 |[]=>[]
 |[i]=>[off+i]
 |a::b::r=>a::og off (b::r)
theorem cz(off i:Nat):∀(q:AL7 Nat),og off (q++[i])=q++[off+i]
 |[]=>rfl
 |[a]=>rfl
 |a::b::q=>by
  have:=cz off i (b::q);simp only[AK4]at this⊢;simp only[og,this]
def tz(kk:AL8 Nat)(n off:Nat)(m:RM)(rs:AL7 Nat)(j:Nat)(r:AL7 Nat):Tq :=
 if kk=some j then .BB n r else if j∈rs then(match m with |.Ai=>.BB n (og off r)|.sh _=>.Ik)else .BB j r
theorem fZ{m m2 m':RM}(h:wW m m2=some m'):(∀j,j∈m'.Cf↔j∈m.Cf\/j∈m2.Cf)/\(m=.Ai↔m'=.Ai)/\(m'=.Ai->m2=.Ai):=by
 cases m<;>cases m2<;>simp only[wW,AI0,reduceCtorEq]at h<;>subst h<;>simp[RM.Cf]
end
section
variable {P:Program} {σ:St} {o:Oper} {en:Gd} {e:G9}
theorem Zn{w:World}{g:G}{bs:AL7 Blk}(H:Ba w g bs){t tx ty:TypeId}{ti te bL:TI}(ht:EC P t ti)(DY:EC P ti.elem te)(IR:ti.DZ=true)(sH:EC P tx bL)(hkx:(bL.DZ||bL.ty==.str)=true)(OI:te.ty.row=true)(oX:te.bytes≠0)
    {er:Nat} (her:er=0\/er=ti.elem) {kk:AL8 Nat} {m m2 m':RM} {xs ys:AL7 te.ty.V} {rs:AL7 Nat} {y:AV} (fX:oB bs te.ty y=some (ys,m2,rs)) {ad:AL8 Addr} {cap:Nat}
    (Vx:(xs=[]/\cap=0)\/∃k b Bp ds,kk=some k/\ad=some ⟨b,0,none⟩/\g.own b=.BB k []/\Um w b er Bp/\xs.length<=cap/\cap<=maxLen/\Bp.size=cap*te.ty.size/\Bp.toList.take (xs.length*te.ty.size)=ds/\pj w g.own k m te.ty xs ds)
    (Vf:∀k,kk=some k->k∉rs/\k∉m'.Cf/\k<bs.length) (QD:∀j∈m.Cf,j∈m'.Cf/\j<bs.length) (iA:xs≠[]->(m=.Ai↔m'=.Ai)) (hj:(∀j∈m2.Cf,j∈m'.Cf)/\(m'=.Ai->m2=.Ai)) (AC1:∀j∈m'.Cf,j<bs.length) (M8:∀j∈m'.Cf,j∉rs)
    (Pv:(xs.length+ys.length)*te.bytes<=140737488355328) {v:Value} (hv:BS w g bs.length y v) {QJ:AL7 Blk} (Ao9:QJ.length=bs.length) (Ul:∀(j:Nat) (x:Blk),QJ[j]?=some x->x=.AK\/(j∉kk.toList++rs/\∃y,bs[j]?=some y/\x=y.drop λi=>(kk.toList++rs).contains i)) :
    ∃r w' g',(Builtin.append_ #[t,tx] ty #[.slice ad xs.length cap,v]).run P w=.ok r w'/\Ba w' g' (QJ++[.row er m' te.ty (xs++ys)])/\BS w' g' (bs.length+1) (.Am bs.length) r/\Step (kk.toList++rs) bs.length w g w' g':=by
 obtain⟨fO,BH⟩:=gM OI;obtain⟨i,z,hi,KD,hbi,hz,ko,_⟩:=DY.info;obtain⟨FW,hs,Tx,RN,ADn,AHJ⟩:=AeR H fX hv sH hkx;have hu:=Bs ht IR;have hzs:z.cells.size=i.size:=by rw[<-AJV,ko,Rl,KD]
 let n:=bs.length
 let f:=tz kk n xs.length m' rs
 obtain ⟨ds,Ac6,Ac7⟩:∃ds,((xs.length=0/\cap=0/\ds=[])\/∃b Bp e0,ad=some ⟨b,0,none⟩/\(∃k,kk=some k/\g.own b=.BB k [])/\(w.heap[b]?=some (.cells Bp e0 (0,0))/\(er=0\/e0=ti.elem))/\xs.length<=cap/\cap<=maxLen/\Bp.size=cap*i.size/\Bp.toList.take (xs.length*i.size)=ds) /\
     ((xs=[]/\ds=[])\/∃k,kk=some k/\pj w g.own k m te.ty xs ds):=by
  rcases Vx with ⟨rfl,rfl⟩|⟨k,b,Bp,ds,h1,h2,h3,⟨e0,he0,h4⟩,h5,h6,h7,h8,h9⟩
  ·exact⟨[],.inl ⟨rfl,rfl,rfl⟩,.inl ⟨rfl,rfl⟩⟩
  ·exact⟨ds,.inr ⟨b,Bp,e0,h2,⟨k,h1,h3⟩,⟨h4,by rcases he0 with h |h;exact .inl h;exact her.imp id λh'=>h.trans h'⟩,h5,h6,by rw[KD];exact h7,by rw[KD];exact h8⟩,.inr ⟨k,h1,h9⟩⟩
 obtain⟨pz,RH,w',DT,hos,hta,hou,O6,W8⟩:=tA (P:=P) w t tx ty ti.elem i z hu hi hz hzs (by rw[KD];exact BH) Ac6 (by rw[KD];exact hs) (by rw[hbi];exact oX) (by rw[hbi];exact Pv)
 let i':BI:=⟨pz,xs.length+ys.length,RH,te.ty.size⟩
 have lt:∀b,g.own b≠.no->b<w.heap.size:=λb h=>Sx H h;obtain ⟨ob,ui,Uu,hh,QM⟩:∃ob:AL8 Nat,(∀q,ob=some q->w.heap.size<=q/\q<w'.heap.size) /\
     (∀q,q<w.heap.size->(∀k p,g.own q=.BB k p->k∉kk.toList++rs)->w'.heap[q]?=w.heap[q]?) /\
     (∀b,(g.own b=.Ik\/∃j r,g.own b=.BB j r/\(kk≠some j\/r≠[]))->w'.heap[b]?=w.heap[b]?) /\
     ((xs++ys=[]/\RH=0)\/∃b' Pr,pz=some ⟨b',0,none⟩/\Um w' b' er Pr/\xs.length+ys.length<=RH/\RH<=maxLen/\Pr.size=RH*te.ty.size/\Pr.toList.take ((xs.length+ys.length)*te.ty.size)=ds++FW/\(g.Ui f ob n i').own b'=.BB n []):=by
  rcases W8 with ⟨h0,F6,rfl⟩|⟨b',Pr,e1,h1,⟨h2,he1⟩,h3,h4,h5,h6,h7⟩
  ·refine⟨none,λq h=>by(cases h),λq _ _=>rfl,λb _=>rfl,.inl ⟨?_,F6⟩⟩;apply AJT;rw[AI2];omega
  ·rw[KD]at h5 h6;have h2:Um w' b' er Pr:=⟨e1,by rcases her with h |h;exact .inl h;exact he1.imp id λh'=>h'.trans h.symm,h2⟩;rcases h7 with ⟨Bp,e0,_,⟨k,hk,Ce⟩,hb,rfl⟩|⟨rfl,Bh,hkp⟩
   ·have Lr:∀b,(g.own b=.Ik\/∃j r,g.own b=.BB j r/\(kk≠some j\/r≠[]))->b≠b':=λb hq e=>by
      subst e;rcases hq with hq |⟨j,r,hq,hj⟩
      ·rw[Ce]at hq;cases hq
      ·rw[Ce]at hq;injection hq with e1 e2;subst e1;subst e2;rcases hj with hj |hj
       ·exact hj hk
       ·exact hj rfl
    refine⟨none,λq h=>by(cases h),ga Ce (by simp[hk]),λb hb=>setRow_other w b' b Pr (Lr b hb),.inr ⟨b',Pr,h1,h2,h3,h4,h5,h6,?_⟩⟩;rw[Ia (by simp) Ce];simp[f,tz,hk]
   ·refine⟨some w.heap.size,λq h=>by injection h with h;subst h;exact⟨AI4 _,Bh⟩,λq hq _=>hkp q hq,λb hb=>hkp b (lt b ?_),.inr ⟨_,Pr,h1,h2,h3,h4,h5,h6,by simp[G.Ui]⟩⟩;rcases hb with hb |⟨j,r,hb,_⟩<;>rw[hb]<;>simp
 let g':=g.Ui f ob n i'
 have UG:∀b j r,g.own b=.BB j r->g'.own b=f j r:=λb j r h=>Ia (λe=>by
  have h1:=(ui b e).1;have h2:=lt b (by rw[h];simp);omega) h
 have ZR:∀b,g.own b=.Ik->g'.own b=.Ik:=λb h=>UQ (λe=>by
  have h1:=(ui b e).1;have h2:=lt b (by rw[h];simp);omega) h
 have st:Step (kk.toList++rs) n w g w' g':=Step.Ui H.BP hos hta hou O6 Uu (λq h=>(ui q h).1) (AI4 _) λj r _ hm=>by
  have h1:kk≠some j:=λe=>hm (by simp[e]);have h2:j∉rs:=λe=>hm (by simp[e]);simp[f,tz,h1,h2]
 have Acw:∀j r,j∈m'.Cf->f j r=.BB j r:=λj r hj=>by
  have h1:kk≠some j:=λe=>(Vf j e).2.1 hj;simp[f,tz,h1,M8 j hj]
 have Ac5:∀(k i:Nat) (x:te.ty.V) (c:AL7 Value),kk=some k->xs≠[]->S6 w g.own k m te.ty i x c->S6 w' g'.own n m' te.ty i x c:=by
  intro k i x c hk Lr Tx;refine Tx.on ?_;have hd:=iA Lr;cases m with
  |Ai =>
   have:m'=.Ai:=hd.1 rfl;subst this;intro b q hb;exact⟨by rw[UG b k _ hb];simp[f,tz,hk],hh b (.inr ⟨k,_,hb,.inr (by simp)⟩)⟩
  |sh ks =>
   cases m' with
   |Ai=>have:=hd.2 rfl;cases this
   |sh Uh =>
    intro b hb;rcases hb with hb |⟨j,hj,r,hb⟩
    ·exact⟨.inl (ZR b hb),hh b (.inl hb)⟩
    ·have qD:j∈Uh:=(QD j hj).1;exact⟨.inr ⟨j,qD,r,by rw[UG b j r hb];exact Acw j r qD⟩,hh b (.inr ⟨j,r,hb,.inl λe=>(Vf j e).2.1 qD⟩)⟩
 have AzL:∀(i:Nat) (x:te.ty.V) (c:AL7 Value),X8 w g te.ty m2 rs i x c->S6 w' g'.own n m' te.ty (xs.length+i) x c:=by
  intro i x c Tx;rcases Tx with ⟨hf,rfl⟩|⟨ks,rfl,hr⟩|⟨j,hrj,hr⟩
  ·exact(S6.BA hf).2 rfl
  ·cases m' with
   |Ai=>have:=hj.2 rfl;cases this
   |sh Uh =>
    refine Ha.mono (λb hb=>?_) hr;rcases hb with hb |⟨j,cP,r,hb⟩
    ·exact⟨.inl (ZR b hb),hh b (.inl hb)⟩
    ·have qD:j∈Uh:=hj.1 j cP;exact⟨.inr ⟨j,qD,r,by rw[UG b j r hb];exact Acw j r qD⟩,hh b (.inr ⟨j,r,hb,.inl λe=>(Vf j e).2.1 qD⟩)⟩
  ·have cP:kk≠some j:=λe=>(Vf j e).1 (by simp[hrj]);have kh:j∈rs:=by simp[hrj]
   refine hr.on ?_;cases m2 with
   |Ai =>
    cases m' with
    |Ai =>
     intro b q hb;refine⟨?_,hh b (.inr ⟨j,_,hb,.inl cP⟩)⟩;rw[UG b j _ hb];simp only[f,tz,AJh cP,AJg kh,cz]
    |sh Uh =>
     intro b q hb;exact⟨.inl (by rw[UG b j _ hb];simp only[f,tz,AJh cP,AJg kh]),hh b (.inr ⟨j,_,hb,.inl cP⟩)⟩
   |sh ks =>
    cases m' with
    |Ai=>have:=hj.2 rfl;cases this
    |sh Uh =>
     intro b hb;rcases hb with hb |⟨j',ACW,r,hb⟩
     ·exact⟨.inl (ZR b hb),hh b (.inl hb)⟩
     ·have qD:j'∈Uh:=hj.1 j' ACW;exact⟨.inr ⟨j',qD,r,by rw[UG b j' r hb];exact Acw j' r qD⟩,hh b (.inr ⟨j',r,hb,.inl λe=>(Vf j' e).2.1 qD⟩)⟩
 have Nu:g'.AQ n=i':=by simp[g',G.Ui]
 refine⟨_,w',g',DT,H.Y7 st (L5 H.BP O6 λq h=>(ui q h).2) (by simp[Ao9]) λj x QW=>?_,?_,st⟩
 ·rw[AJo]at QW;split at QW
  ·rcases Ul j x QW with h |h
   ·exact .inl h
   ·exact .inr (.inl h)
  ·rename_i hlen;rw[Ao9]at QW hlen;have kg:j-bs.length=0:=by
    rcases AJm (j-bs.length)with h |h
    ·exact h
    ·rw[AJC (by simp;omega)]at QW;cases QW
   rw[kg]at QW;obtain rfl:j=n:=by simp only[n];omega
   simp only[List.getElem?_cons_zero,AI0]at QW;subst QW;refine .inr (.inr ⟨λj hj=>by have:=AC1 j hj;simp[Ao9];omega,by rw[Nu,AI2],by rw[Nu],BH,?_⟩);rw[Nu,AI2];refine QM.imp id λ⟨b',Pr,h1,h2,h3,h4,h5,h6,h7⟩=>⟨b',Pr,_,h1,h7,h2,h3,h4,h5,h6,?_⟩;rw[Dt];refine Bd.append ?_ ?_
   ·rcases Ac7 with ⟨rfl,rfl⟩|⟨k,hk,Ps⟩
    ·rfl
    ·rcases Classical.em (xs=[])with hx |hx
     ·subst hx;have:ds=[]:=by cases m<;>exact Ps
      subst this;rfl
     ·exact(Dt.1 Ps).mono λi x c h=>Ac5 k i x c hk hx h
   ·rw[AJu];have shift:∀(ys:AL7 te.ty.V) (cs:AL7 Value) (a b:Nat),Bd (X8 w g te.ty m2 rs) a ys cs->Bd (S6 w' g'.own n m' te.ty) (xs.length+a) ys cs:=by
     intro ys;induction ys with
     |nil=>exact λcs a _ h=>h
     |cons y ys ih =>
      intro cs a b ⟨c,d,e,h1,h2⟩;exact⟨c,d,e,AzL a y c h1,ih d (a+1) b h2⟩
    exact shift ys FW 0 0 Tx
 ·refine Bl (cs:=[_]) rfl ⟨AJE _,rfl⟩ ?_;have:g'.AQ bs.length=i':=Nu;simp[BK,AV.isAgg,this,i']
end
section
variable {P:Program} {σ:St} {o:Oper} {en:Gd} {e:G9} {fi:FI}
theorem vF{c:Call}{x y:AV}(h:OV σ c.args=[x,y]):∃a b,c.args=#[a,b]/\σ.B7 a=x/\σ.B7 b=y:=by
 unfold OV at h;cases hc:c.args with
 |mk l =>
  rw[hc]at h
  match l,h with
  |[a,b],h =>
   simp only[AJI,AKt,AKw,and_true]at h;exact⟨a,b,rfl,h.1,h.2⟩
  |[],h=>simp at h
  |[_],h=>simp at h
  |_::_::_::_,h=>simp at h
theorem AaP{c:Call}{x:AV}(h:OV σ c.args=[x]):∃a,c.args=#[a]/\σ.B7 a=x:=by
 unfold OV at h;cases hc:c.args with
 |mk l =>
  rw[hc]at h
  match l,h with
  |[a],h =>
   simp only[AJI,AKt,AKw,and_true]at h;exact⟨a,rfl,h⟩
  |[],h=>simp at h
  |_::_::_,h=>simp at h
theorem vf{ts:Array TypeId}{t u:TypeId}(h:ts.toList=[t,u]):ts=#[t,u]:=by apply Array.toList_inj.1;rw[h]
theorem Jq{c:Call}(ho:o.op=.call c){b:Builtin}(hc:c.callee=.builtin b)(ρ:Operand->Value) :
    execOp ρ o=builtin b c.argTypes o.type (c.args.map λ|.const _=>true |_=>false) (c.args.map ρ):=by
 simp only[execOp,ho,resolve,hc];rfl
theorem AhL{c:Call}(ho:o.op=.call c)(hc:c.callee=.builtin .len){x:AV}(hx:OV σ c.args=[x]){t:TypeId}{r:AL7 TypeId}(WG:c.argTypes.toList=t::r){ti:TI}(ht:EC P t ti){z:AV}(h:nK σ.An ti x some=some z):M3 P σ o ⟨z,σ.An,[]⟩:=by
 obtain⟨a0,ha,rfl⟩:=AaP hx;refine .Il <| K1 (s:=λρ=>Builtin.len_ c.argTypes o.type #[ρ a0]) (λρ=>?_) λa w g hs=>?_
 ·rw[Jq ho hc,ha];simp[builtin]
 ·obtain⟨z',e,hG⟩:=Ahr (n:=σ.An.length) hs.heap ht h (AJ hs a0) o.type c.argTypes (by rw[<-AJc,WG];rfl);injection e with e;subst e;exact hG
theorem AeB{c:Call}(ho:o.op=.call c){mx:Bool}(hc:c.callee=.builtin (if mx then .max else .min)){x y:AV}(hx:OV σ c.args=[x,y]){z:AV}(h:zS mx x y some=some z):M3 P σ o ⟨z,σ.An,[]⟩:=by
 obtain⟨a0,a1,ha,rfl,rfl⟩:=vF hx;refine .Il <| K1 (s:=λρ=>if mx then Builtin.max_ c.argTypes o.type #[ρ a0,ρ a1]else Builtin.min_ c.argTypes o.type #[ρ a0,ρ a1]) (λρ=>?_) λa w g hs=>?_
 ·rw[Jq ho hc,ha];cases mx<;>simp[builtin]
 ·obtain⟨z',e,hG⟩:=ApR (n:=σ.An.length) h (AJ hs a0) (AJ hs a1) o.type c.argTypes;injection e with e;subst e;exact hG
theorem AeQ{w:World}{g:G}{bs:AL7 Blk}(H:Ba w g bs){t:Ty}{y:AV}{ys:AL7 t.V}{m:RM}{rs:AL7 Nat}(h:oB bs t y=some (ys,m,rs)){v:Value}(hv:BS w g bs.length y v):(∀j∈m.Cf,j<bs.length):=by
 unfold oB at h;split at h
 ·simp only[AI0,AJb]at h;obtain⟨rfl,rfl,rfl⟩:=h;intro j hj;cases hj
 ·rename_i ks u xs;split at h
  ·simp only[AI0,AJb]at h;obtain⟨rfl,rfl,rfl⟩:=h;intro j hj;split at hj
   ·cases hj
   ·exact(Yu hv).1 j hj
  ·cases h
 ·split at h
  ·simp only[AI0,AJb]at h;obtain⟨rfl,rfl,rfl⟩:=h;intro j hj;cases hj
  ·cases h
 ·rename_i k;split at h
  ·rename_i el m1 u xs hb;split at h
   ·simp only[AI0,AJb]at h;obtain⟨rfl,rfl,rfl⟩:=h;intro j hj;split at hj
    ·cases hj
    ·exact(H.Ls k _ hb).1 j hj
   ·cases h
  ·cases h
 ·cases h
theorem uQ{c:Call}(ho:o.op=.call c)(hc:c.callee=.builtin .append){x y:AV}(hx:OV σ c.args=[x,y]){t tx:TypeId}(WG:c.argTypes.toList=[t,tx]){ti te bL:TI}(ht:EC P t ti)(DY:EC P ti.elem te)(IR:ti.DZ=true)(sH:EC P tx bL)(hkx:(bL.DZ||bL.ty==.str)=true)
    (h:Xw fi σ.An ti.elem te x y some=some e):M3 P σ o e:=by
 obtain⟨a0,a1,ha,rfl,rfl⟩:=vF hx;have DT:∀(a:Act) (w:World) (r:Value) (w':World),(Builtin.append_ #[t,tx] o.type #[a.eval a0,a.eval a1]).run P w=.ok r w'->(execOp a.eval o).run P w=.ok (.value r) w':=by
  intro a w r w' hr;rw[Jq ho hc,ha,vf WG];simp[builtin,hr]
 have UT:∀(Gx:AL7 Blk) (Bu:AL7 Nat),σ.An.length+1=Gx.length->(Bu=[]->∃l,Gx=σ.An++l) ->
     (∀(a:Act) (w:World) (g:G),Kg w g σ a->∃r w' g',(Builtin.append_ #[t,tx] o.type #[a.eval a0,a.eval a1]).run P w=.ok r w'/\Ba w' g' Gx/\BS w' g' (σ.An.length+1) (.Am σ.An.length) r/\Step Bu σ.An.length w g w' g')->M3 P σ o ⟨.Am σ.An.length,Gx,Bu⟩:=by
  intro Gx Bu hl hm hh;refine⟨by show σ.An.length<=Gx.length;omega,hm,λa w g hs next Q hn=>?_⟩
  obtain⟨r,w',g',hr,hH,hv,BJ⟩:=hh a w g hs;unfold Oper.wp;rw[DT a w r w' hr];exact hn r w' g' hH (by show BS w' g' Gx.length _ _;rw[<-hl];exact hv) BJ
 have hlen:∀(Bu l:AL7 Nat),(Blk.Gl (A6 Bu σ.An) l).length=σ.An.length:=λBu l=>by rw[A3,Ay]
 unfold Xw at h;split at h
 ·rename_i hzs;split at h
  ·cases h
  ·rename_i yx;have aS:(te.ty.row&&te.bytes !=0)=true:=by simpa using yx
   rw[AI5]at aS;have oX:te.bytes≠0:=by simpa using aS.2
   split at h
   ·rename_i ys m2 rs fX;split at h
    ·rename_i m' hj;split at h
     ·rename_i M8;split at h
      ·rename_i Pv;injection h with h;subst h;refine UT _ _ (by rw[AI2,hlen];rfl) (λh=>⟨[.row ti.elem m' te.ty ys],by have h:rs=[]:=h;rw[h];rfl⟩) λa w g hs=>?_;have zP:=AJ hs a0;rw[hzs]at zP;obtain⟨ad,zP⟩:=WR zP;rw[zP];have Wu:(∀j∈m'.Cf,j∈m2.Cf)/\(∀j∈m2.Cf,j∈m'.Cf)/\(m'=.Ai->m2=.Ai):=by
        obtain⟨h1,h2,h3⟩:=fZ hj;refine⟨λj hj=>?_,λj hj=>(h1 j).2 (.inr hj),h3⟩;rcases(h1 j).1 hj with h |h
        ·cases m2 with
         |Ai=>rw[TV]at h;cases h
         |sh ks=>exact h
        ·exact h
       have:=Zn (er:=ti.elem) (her:=.inr rfl) (kk:=none) (m:=.Ai) (xs:=([]:AL7 te.ty.V)) (cap:=0) (ad:=ad) (m':=m') (QJ:=Blk.Gl (A6 rs σ.An) rs) (ty:=o.type) hs.heap ht DY IR sH hkx aS.1 oX fX (.inl ⟨rfl,rfl⟩) (λk hk=>by cases hk) (λj hj=>by cases hj) (λh=>(h rfl).elim) Wu.2
        (λj hj=>AeQ hs.heap fX (AJ hs a1) j (Wu.1 j hj)) (VF M8) (by simpa using Pv) (AJ hs a1) (hlen rs rs) (λj x hx=>by
         rcases Km hx with h |⟨kh,h⟩
         ·exact .inl h
         ·obtain⟨y',cZ,rfl⟩:=C8 h;exact .inr ⟨by simpa using kh,y',cZ,rfl⟩)
       simpa using this
      ·cases h
     ·cases h
    ·cases h
   ·cases h
 ·rename_i k hk;split at h
  ·cases h
  ·rename_i yx;have aS:(te.ty.row&&te.bytes !=0)=true:=by simpa using yx
   rw[AI5]at aS;have oX:te.bytes≠0:=by simpa using aS.2
   split at h
   ·rename_i e' m t' xs0 ys m2 rs hb fX;split at h
    ·rename_i xs m' qz hj;split at h
     ·rename_i qA;split at h
      ·rename_i Pv;injection h with h;subst h;obtain⟨he,hrk,M8⟩:=qA;obtain⟨ec,hec⟩:=Bz qz;injection ec with ec;subst ec;simp only at hec;subst hec;have uf:k∉rs:=by simpa using hrk
       have Ws:=VF M8;refine UT _ _ (by rw[AI2,hlen];rfl) (λh=>by cases h) λa w g hs=>?_;have zP:=AJ hs a0;rw[hk]at zP;obtain⟨fR,zP⟩:=EP zP;obtain⟨QA,hl,Pu,BH,hrr⟩:=hs.heap.Ls k _ hb;rw[zP,hl];obtain⟨h1,h2,h3⟩:=fZ hj;have RN:=AeQ hs.heap fX (AJ hs a1);have:=Zn (er:=e') (her:=he.symm.imp id λh=>h.1.symm) (kk:=some k) (m:=m) (xs:=xs0) (ad:=(g.AQ k).a) (cap:=(g.AQ k).cap) (m':=m') (QJ:=Blk.Gl (A6 (k::rs) σ.An) (k::rs)) (ty:=o.type) hs.heap ht DY IR sH hkx aS.1 oX fX
        (hrr.imp id λ⟨b,Bp,ds,p1,p2,p3,p4,p5,p6,p7,p8⟩=>⟨k,b,Bp,ds,rfl,p1,p2,p3,p4,p5,p6,p7,p8⟩)
        (λk' Ve=>by injection Ve with Ve;subst Ve;exact⟨uf,λh=>Ws k h (by simp),fR⟩) (λj hj=>⟨(h1 j).2 (.inl hj),QA j hj⟩) (λ_=>h2) ⟨λj hj=>(h1 j).2 (.inr hj),h3⟩
        (λj hj=>by rcases(h1 j).1 hj with h |h;exact QA j h;exact RN j h) (λj hj h=>Ws j hj (AJq _ h)) Pv (AJ hs a1) (hlen (k::rs) (k::rs)) (λj x hx=>by
         rcases Km hx with h |⟨kh,h⟩
         ·exact .inl h
         ·obtain⟨y',cZ,rfl⟩:=C8 h;exact .inr ⟨by simpa using kh,y',cZ,rfl⟩)
       simpa using this
      ·cases h
     ·cases h
    ·cases h
   ·cases h
 ·cases h
theorem AhI{t:TypeId}{x:Operand}{hi:AL8 Operand}(ho:o.op=.slice t x none hi none){ti:TI}(ht:EC P t ti)(IR:ti.DZ=true){te:TI}(DY:EC P ti.elem te)
    (h:x8 te.ty σ.An (σ.B7 x) (hi.map σ.B7) some=some e):M3 P σ o e:=by
 unfold x8 at h;split at h
 ·rename_i k ks kk hv hx hh;split at h
  ·rename_i el m tr xs hb;split at h
   ·rename_i M8;obtain⟨M8,yy⟩:=M8;subst yy;split at h
    ·rename_i hc;injection h with h;subst h;obtain⟨h0,h1⟩:=hc;refine⟨by simp[A3,Ay],λh=>by(cases h),λa w g hs next Q hn=>?_⟩
     have H:=hs.heap;have wV:=AJ hs x;rw[hx]at wV;obtain⟨hk,qT⟩:=EP wV;obtain⟨QA,hlen,Pu,BH,hr⟩:=H.Ls k _ hb;have wM:=XQ hs hi;rw[hh]at wM;obtain⟨o6,hve⟩:∃v,hi.map a.eval=some v/\v=.int kk hv:=by
      cases hq:hi.map a.eval with
      |none=>rw[hq]at wM;exact wM.elim
      |some v=>rw[hq]at wM;exact⟨v,rfl,Di wM⟩
     obtain⟨ADG,Az5⟩:=hve;subst Az5;have aP:(g.AQ k).len<=(g.AQ k).cap:=by
      rw[hlen];rcases hr with ⟨rfl,F6⟩|⟨b,Bp,ds,_,_,_,h1,_⟩
      ·simp
      ·exact h1
     have ub:(if(g.AQ k).cap=0 then(g.AQ k).a else(g.AQ k).a.map (·.add (0*te.ty.size)))=(g.AQ k).a:=by
      split
      ·rfl
      ·rename_i F6;rcases hr with ⟨_,M7⟩|⟨b,Bp,ds,ha,_⟩
       ·exact(F6 M7).elim
       ·rw[ha];simp[X3]
     have DT:(execOp a.eval o).run P w=.ok (.value (.slice (g.AQ k).a hv.toNat (g.AQ k).cap)) w:=by
      have mV:=QT (P:=P) (w:=w) (isS:=true) (len:=(g.AQ k).len) (cap:=(g.AQ k).cap) (lo:=none) (hi:=some (.int kk hv)) (l:=0) (h:=hv) (.inl ⟨rfl,rfl⟩) (.inr ⟨kk,rfl⟩) (AK3 _) h0 (by rw[hlen];exact h1) aP;have:(Instr.sliceAt t (.slice (g.AQ k).a (g.AQ k).len (g.AQ k).cap) none (some (.int kk hv)) none).run P w=.ok (.slice (g.AQ k).a hv.toNat (g.AQ k).cap) w:=by
       rw[KB ht IR];simp[Instr.slice,underlying,Bs ht IR,mV,Du DY];simpa using ub
      simp[execOp,ho,qT,ADG,this]
     unfold Oper.wp;rw[DT]
     let n:=σ.An.length
     let i':BI:=⟨(g.AQ k).a,hv.toNat,(g.AQ k).cap,te.ty.size⟩
     let f:Nat->AL7 Nat->Tq:=λj r=>if j=k then .BB n r else .BB j r
     let g':=g.Ui f none n i'
     have st:Step [k] n w g w g':=Step.Ui H.BP rfl rfl rfl (AI4 _) (λ_ _ _=>rfl) (λq h=>by cases h) (AI4 _) λj r _ hm=>by
      simp only[AJp]at hm;simp[f,hm]
     have Nu:g'.AQ n=i':=by simp[g',G.Ui]
     have hvl:hv.toNat<=xs.length:=by have h1':(hv:Int)<=(xs.length:Int):=h1;exact Int.toNat_le.2 h1'
     have Ws:=VF M8;refine hn _ w g' (H.Y7 st (L5 H.BP (AI4 _) λq h=>by cases h) (by simp[A3,Ay]) λj y hj=>?_) ?_ st
     ·rw[AJo]at hj;split at hj
      ·rcases Km hj with h |⟨kh,h⟩
       ·exact .inl h
       ·obtain⟨y',cZ,rfl⟩:=C8 h;exact .inr (.inl ⟨kh,y',cZ,rfl⟩)
      ·rename_i Bh;rw[A3,Ay]at hj Bh;have kg:j-σ.An.length=0:=by
        rcases AJm (j-σ.An.length)with h |h
        ·exact h
        ·rw[AJC (by simp;omega)]at hj;cases hj
       rw[kg]at hj;obtain rfl:j=n:=by simp only[n];omega
       simp only[List.getElem?_cons_zero,AI0]at hj;subst hj;refine .inr (.inr ⟨λj hj=>by have:=QA j hj;simp[A3,Ay];omega,by rw[Nu,AJj];simp only[i'];omega,by rw[Nu],BH,?_⟩);rw[Nu];rcases hr with ⟨rfl,F6⟩|⟨b,Bp,ds,ha,Ce,AcL,p1,p2,p3,p4,Ps⟩
       ·exact .inl ⟨by simp,F6⟩
       ·refine .inr ⟨b,Bp,ds.take (hv.toNat*te.ty.size),ha,by rw[Ia (by simp) Ce];simp[f],AcL,by rw[AJj];simp only[i'];omega,p2,p3,?_,?_⟩
        ·rw[AJj,AKF hvl,<-p4,List.take_take,AKF (AJX _ hvl)]
        ·rw[Dt];refine(Bd.takeN (λi x c h=>S6.len h) hv.toNat (Dt.1 Ps)).mono λi x c Tx=>Tx.on ?_;cases m with
         |Ai=>exact λb q hb=>⟨by rw[Ia (by simp) hb];simp[f],rfl⟩
         |sh ks =>
          intro b hb;rcases hb with hb |⟨j,hj,r,hb⟩
          ·exact⟨.inl (UQ (by simp) hb),rfl⟩
          ·refine⟨.inr ⟨j,hj,r,?_⟩,rfl⟩;have:j≠k:=λe=>Ws j hj (by simp[e]);rw[Ia (by simp) hb];simp[f,this]
     ·refine Bl (cs:=[_]) rfl ⟨by simp[A3,Ay],rfl⟩ ?_;have:g'.AQ σ.An.length=i':=Nu;simp[BK,AV.isAgg,this,i']
    ·cases h
   ·cases h
  ·cases h
 ·cases h
theorem zF(w:World)(t tx ty e:TypeId)(i:TypeInfo)(z:Value)(ht:P.underlying t=some (.slice e)){k':IntKind}(hk:P.underlying tx=some (.int k'))(hi:P.info? e=some i)(hz:i.zero=some z)(ad:AL8 Addr)(k:IntKind)(l:Int)(h0:0<=l)(Pv:l*(i.bytes:Int)<=140737488355328)(hb:i.bytes≠0)(hs:i.size≠0) :
    (l=0/\(Builtin.append_ #[t,tx] ty #[.slice ad 0 0,.int k l]).run P w=.ok (.slice ad 0 0) w)\/(0<l /\
     (Builtin.append_ #[t,tx] ty #[.slice ad 0 0,.int k l]).run P w=.ok (.slice (some ⟨w.heap.size,0,none⟩) l.toNat (grownCap w l.toNat 0 e)) (w.drew.alloc (.cells (Builtin.zeroCells z.cells l.toNat++Builtin.zeroCells z.cells (grownCap w l.toNat 0 e-l.toNat)) e))):=by
 have Ug:l<=140737488355328:=by
  have h1:(1:Int)<=(i.bytes:Int):=by omega
  have:=Int.mul_le_mul_of_nonneg_left h1 h0;omega
 have hw:IntKind.i64.wrap l=l:=by rw[IntKind.wrap_i64];omega
 have n1:¬l<0:=by omega
 have n2:¬(281474976710656<l*(i.bytes:Int)):=by omega
 rcases Int.le_iff_lt_or_eq.1 h0 with hp |hp
 ·refine .inr ⟨hp,?_⟩;have hn:¬(l.toNat=0):=by omega
  have hn':¬(l<=0):=by omega
  have hns:¬(l.toNat*i.size=0):=λh=>by rcases Nat.mul_eq_zero.1 h with h |h;exact hn h;exact hs h
  have h48:¬(281474976710656<Builtin.nextslicecap l.toNat 0*i.bytes):=by
   unfold Builtin.nextslicecap;rw[AJg (by omega)];have:((l.toNat*i.bytes:Nat):Int)=l*(i.bytes:Int):=by rw[Int.natCast_mul,Int.toNat_of_nonneg h0]
   omega
  have h63:¬(9223372036854775807<max l 0):=by omega
  have hf:(Builtin.firstCells i.size 0 (.slice ad 0 0)).run P w.drew=.ok #[] w.drew:=by
   cases ad with
   |none=>exact run_firstCells_none w.drew i.size 0 0 0
   |some a=>exact run_firstCells_some w.drew i.size 0 a 0 0 [] (by simp) (by simp)
  simp[Builtin.append_,run_underlying ht,run_underlying hk,sizeOf,typeInfo,zeroValue,asInt,asIntOf,hi,hz,hw,n1,n2,hn',h63,h48,hns,Question.forced,hf,newRow,grownCap]
 ·subst hp;refine .inl ⟨rfl,?_⟩;cases ad<;>simp[Builtin.append_,run_underlying ht,run_underlying hk,sizeOf,typeInfo,asInt,asIntOf,hi,IntKind.wrap_i64,storeCells]
theorem zE(l:Int)(b:Nat)(h0:0<=l)(h:l*(b:Int)<=140737488355328)(hb:b≠0):l.toNat<=maxLen:=by
 have h1:(1:Int)<=(b:Int):=by omega
 have:=Int.mul_le_mul_of_nonneg_left h1 h0;simp only[maxLen];omega
theorem lr(z:Array Value)(n:Nat):Builtin.zeroCells z n=madeCells z (n*z.size):=rfl
theorem rN{c:Call}(ho:o.op=.call c)(hc:c.callee=.builtin .append){x y:AV}(hx:OV σ c.args=[x,y]){t tx:TypeId}(WG:c.argTypes.toList=[t,tx]){ti te bL:TI}(ht:EC P t ti)(DY:EC P ti.elem te)(IR:ti.DZ=true)(sH:EC P tx bL)(hkx:bL.ty.isInt=true)
    (h:Xx fi σ.An ti.elem te x y some=some e):M3 P σ o e:=by
 obtain⟨a0,a1,ha,WC,cY⟩:=vF hx;obtain⟨k',Ve⟩:∃k',bL.ty=.int k':=by
  cases hq:bL.ty with
  |int k=>exact⟨k,rfl⟩
  |_=>rw[hq]at hkx;cases hkx
 unfold Xx at h;split at h
 ·rename_i ks k l;split at h
  ·rename_i OI;split at h
   ·rename_i hl;injection h with h;subst h;obtain⟨fO,BH⟩:=gM OI.1;obtain⟨i,z,hi,KD,hbs,hz,ko,_⟩:=DY.info;refine⟨by simp,λ_=>⟨_,rfl⟩,λa w g hs next Q hn=>?_⟩
    have e1:=AJ hs a0;rw[WC]at e1;obtain⟨ad,e1⟩:=WR e1;have e2:=AJ hs a1;rw[cY]at e2;have e2:=Di e2;have hzz:z.cells.size=i.size:=by rw[KD,<-AJV,ko,Rl]
    have Yc:∀(r:Value) (w':World),(Builtin.append_ #[t,tx] o.type #[.slice ad 0 0,.int k l]).run P w=.ok r w'->(execOp a.eval o).run P w=.ok (.value r) w':=λr w' hr=>by
     rw[Jq ho hc,ha,vf WG];simp[builtin,e1,e2,hr]
    unfold Oper.wp;rcases zF (P:=P) w t tx o.type ti.elem i z (Bs ht IR) (Tl sH Ve) hi hz ad k l hl.1 (by rw[hbs];exact hl.2) (by rw[hbs];exact OI.2) (by omega)with ⟨h0,hr⟩|⟨hp,hr⟩
    ·subst h0;rw[Yc _ _ hr]
     let g':G:=⟨g.own,λk=>if k=σ.An.length then⟨ad,0,0,te.ty.size⟩else g.AQ k⟩
     have st:Step [] σ.An.length w g w g':=⟨rfl,rfl,rfl,AI4 _,λ_ _ h=>⟨h,rfl⟩,λ_ h=>⟨h,rfl⟩,λ_ _ _ h _ _=>⟨h,rfl⟩,λk hk=>by simp only[g'];rw[AJh (by omega)]⟩;have ha0:g'.AQ σ.An.length=⟨ad,0,0,te.ty.size⟩:=by simp[g']
     refine hn _ w g' (hs.heap.push st hs.heap.BP ?_) ?_ st
     ·refine⟨(by rw[TV];intro j hj;cases hj),by rw[ha0];rfl,by rw[ha0],BH,.inl ⟨rfl,by rw[ha0]⟩⟩
     ·refine Bl (cs:=[_]) rfl ⟨by simp,rfl⟩ ?_;simp[BK,AV.isAgg,ha0]
    ·rw[Yc _ _ hr];have yu:l.toNat<=maxLen:=zE l te.bytes hl.1 hl.2 OI.2;have ae:=grownCap_ge w l.toNat 0 ti.elem;have Ug:=grownCap_le_maxLen w l.toNat 0 ti.elem yu;have st:=(Step.drew [] σ.An.length w g).trans (Step.add hs.heap.drew (.cells (Builtin.zeroCells z.cells l.toNat++Builtin.zeroCells z.cells (grownCap w l.toNat 0 ti.elem-l.toNat)) ti.elem) ⟨some ⟨w.heap.size,0,none⟩,l.toNat,grownCap w l.toNat 0 ti.elem,te.ty.size⟩) (AI4 _);refine hn _ _ _ (hs.heap.drew.new ?_) ?_ st
     ·refine⟨(by rw[TV];intro j hj;cases hj),by simp[G.add],by simp[G.add],BH,.inr ⟨w.heap.size,_,_,by simp[G.add],by simp[G.add],⟨_,.inr rfl,heap_alloc_new w.drew _⟩,by simpa [G.add]using ae,by simpa [G.add]using Ug,?_,rfl,?_⟩⟩
      ·simp only[G.add,AJK,Array.size_append,lr,size_madeCells,hzz,KD,<-AJ9];congr 1;omega
      ·rw[AJv,Array.toList_append,lr,hzz,KD];have hk:(madeCells z.cells (l.toNat*te.ty.size)).toList.length=l.toNat*te.ty.size:=by rw[AJV,size_madeCells]
       rw[AJ4 (by rw[hk];exact AI4 _),aY z.cells (by rw[hzz,KD]) BH (AI4 _)];exact lu fO (by show z.cells.toList=_;exact ko) _ fi
     ·refine Bl (cs:=[_]) rfl ⟨by simp,rfl⟩ ?_;simp[BK,AV.isAgg,G.add]
   ·cases h
  ·cases h
 ·cases h
end
section
variable {P:Program} {σ:St} {o:Oper}
theorem Aet{t:TypeId}{x lo:Operand}(ho:o.op=.slice t x (some lo) none none){ti te:TI}(ht:EC P t ti)(IR:ti.DZ=true)(DY:EC P ti.elem te){k:Nat}{ks:AL7 Nat}{kk:IntKind}{l:Int}(hx:σ.B7 x=.Am k)(zM:σ.B7 lo=.Ax ks (.int kk) l)
    {el:Nat} {xs:AL7 te.ty.V} (hb:σ.An[k]?=some (.tail el te.ty xs)) (h0:0<=l) (h1:l<=(xs.length:Int)) :
    M3 P σ o ⟨.Am σ.An.length,Blk.Gl (A6 [k] σ.An) [k]++[.tail el te.ty (xs.drop l.toNat)],[k]⟩:=by
 refine⟨by simp[A3,Ay],λh=>by(cases h),λa w g hs next Q hn=>?_⟩
 have H:=hs.heap;have wV:=AJ hs x;rw[hx]at wV;obtain⟨hk,qT⟩:=EP wV;obtain⟨hf,hlen,Pu,BH,hr⟩:=H.Ls k _ hb;have yq:=AJ hs lo;rw[zM]at yq;have yq:a.eval lo=.int kk l:=Di yq;have aP:(g.AQ k).len<=(g.AQ k).cap:=by
  rw[hlen];rcases hr with ⟨rfl,F6⟩|⟨b,o',Bp,ds,_,_,_,h1,_⟩
  ·simp
  ·exact h1
 have hvl:l.toNat<=xs.length:=Int.toNat_le.2 h1;obtain⟨ad,ub⟩:∃ad,ad=(if(g.AQ k).cap=l.toNat then(g.AQ k).a else(g.AQ k).a.map (·.add (l.toNat*te.ty.size))):=⟨_,rfl⟩;have DT:(execOp a.eval o).run P w=.ok (.value (.slice ad ((g.AQ k).len-l.toNat) ((g.AQ k).cap-l.toNat))) w:=by
  have mV:=QT (P:=P) (w:=w) (isS:=true) (len:=(g.AQ k).len) (cap:=(g.AQ k).cap) (lo:=some (.int kk l)) (hi:=none) (l:=l) (h:=((g.AQ k).len:Int)) (.inr ⟨kk,rfl⟩) (.inl ⟨rfl,rfl⟩) h0 (by rw[hlen];exact h1) (AK3 _) aP;have:(Instr.sliceAt t (.slice (g.AQ k).a (g.AQ k).len (g.AQ k).cap) (some (.int kk l)) none none).run P w=.ok (.slice ad ((g.AQ k).len-l.toNat) ((g.AQ k).cap-l.toNat)) w:=by
   rw[KB ht IR];simp[Instr.slice,underlying,Bs ht IR,mV,Du DY,ub]
  simp[execOp,ho,qT,yq,this]
 unfold Oper.wp;rw[DT]
 let n:=σ.An.length
 let i':BI:=⟨ad,(g.AQ k).len-l.toNat,(g.AQ k).cap-l.toNat,te.ty.size⟩
 let f:Nat->AL7 Nat->Tq:=λj r=>if j=k then .BB n r else .BB j r
 let g':=g.Ui f none n i'
 have st:Step [k] n w g w g':=Step.Ui H.BP rfl rfl rfl (AI4 _) (λ_ _ _=>rfl) (λq h=>by cases h) (AI4 _) λj r _ hm=>by
  simp only[AJp]at hm;simp[f,hm]
 have Nu:g'.AQ n=i':=by simp[g',G.Ui]
 refine hn _ w g' (H.Y7 st (L5 H.BP (AI4 _) λq h=>by cases h) (by simp[A3,Ay]) λj y hj=>?_) ?_ st
 ·rw[AJo]at hj;split at hj
  ·rcases Km hj with h |⟨kh,h⟩
   ·exact .inl h
   ·obtain⟨y',cZ,rfl⟩:=C8 h;exact .inr (.inl ⟨kh,y',cZ,rfl⟩)
  ·rename_i Bh;rw[A3,Ay]at hj Bh;have kg:j-σ.An.length=0:=by
    rcases AJm (j-σ.An.length)with h |h
    ·exact h
    ·rw[AJC (by simp;omega)]at hj;cases hj
   rw[kg]at hj;obtain rfl:j=n:=by simp only[n];omega
   simp only[List.getElem?_cons_zero,AI0]at hj;subst hj;refine .inr (.inr ⟨hf,by rw[Nu,AJy];simp only[i'];omega,by rw[Nu],BH,?_⟩);rw[Nu];rcases hr with ⟨rfl,F6⟩|⟨b,off,Bp,ds,ha,Ce,AcL,p1,p2,p3,p4,Ps⟩
   ·exact .inl ⟨by simp,by simp only[i'];omega⟩
   ·rcases AJm ((g.AQ k).cap-l.toNat)with hz |hz
    ·exact .inl ⟨by apply AJT;rw[AJy];omega,hz⟩
    ·have SU:=congrArg List.length p4;refine .inr ⟨b,off+l.toNat*te.ty.size,Bp,ds.drop (l.toNat*te.ty.size),?_,by rw[Ia (by simp) Ce];simp[f],AcL,by rw[AJy];simp only[i'];omega,by simp only[i'];omega,?_,?_,?_⟩
     ·show ad=_;rw[ub,AJh (by omega),ha];simp[X3]
     ·simp only[i'];rw[p3,AJ0,<-AJ9];congr 2;omega
     ·rw[AJy,<-p4,<-List.drop_drop,List.drop_take,<-Nat.sub_mul]
     ·rw[Dt];have qR:=HS (j:=0).2 ((Dt.1 Ps).mono λi x c h=>(S6.BA hf).1 h);exact(HS (j:=0).1 (qR.Aci (s:=te.ty.size) (λx c h=>S6.len (w:=w) (own:=g.own) (k:=k) (m:=.Ai) (i:=0) ((S6.BA hf).2 h)) l.toNat)).mono λi x c h=>(S6.BA hf).2 h
 ·refine Bl (cs:=[_]) rfl ⟨by simp[A3,Ay],rfl⟩ ?_;have:g'.AQ σ.An.length=i':=Nu;simp[BK,AV.isAgg,this,i']
theorem Aew{t:TypeId}{x y:Operand}(ho:o.op=.indexAddr t x y){ti te:TI}(ht:EC P t ti)(IR:ti.DZ=true)(DY:EC P ti.elem te){k:Nat}{ks:AL7 Nat}{kk:IntKind}{i:Int}(hx:σ.B7 x=.Am k)(hy:σ.B7 y=.Ax ks (.int kk) i)
    {el:Nat} {xs:AL7 te.ty.V} (hb:σ.An[k]?=some (.tail el te.ty xs)) (h0:0<=i) (h1:i<(xs.length:Int)) :
    M3 P σ o ⟨.EJ [k] te.ty (xs.getD i.toNat te.ty.zero),σ.An,[]⟩ :=
 .Il <| K1 (s:=λρ=>Instr.indexAt t (ρ x) (ρ y)) (λρ=>by simp[execOp,ho]) λa w g BJ=>by
  have H:=BJ.heap;have wV:=AJ BJ x;rw[hx]at wV;obtain⟨hk,qT⟩:=EP wV;obtain⟨hf,hlen,Pu,BH,hr⟩:=H.Ls k _ hb;have hyv:=AJ BJ y;rw[hy]at hyv;have hyv:a.eval y=.int kk i:=Di hyv;have Bh:i.toNat<xs.length:=VL ⟨h0,h1⟩;have hu:=Bs ht IR;rcases hr with ⟨WC,_⟩|⟨b,off,Bp,ds,ha,Ce,⟨el',Tx,hh⟩,p1,p2,p3,p4,Ps⟩
  ·subst WC;simp at Bh
  ·have qR:=HS (j:=0).2 ((Dt.1 Ps).mono λi x c h=>(S6.BA hf).1 h);obtain⟨c0,c,d,e1,dF,aS,_,_⟩:=Ct.AQ (s:=te.ty.size) (λx c h=>S6.len (w:=w) (own:=g.own) (k:=k) (m:=.Ai) (i:=0) ((S6.BA hf).2 h)) qR Bh;refine⟨.pointer (some ⟨b,off+i.toNat*te.ty.size,none⟩),?_,?_⟩
   ·rw[qT,hyv];simp[Instr.indexAt,asIntOf,underlying,hu,h0,h1,Du DY,ha,hlen,X3]
   ·rw[AE _ _ _ Bh];refine bg (ks:=[k]) (by simpa using hk) (.inr ⟨k,by simp,[],Ce⟩) ((Ha.BA hf).2 aS) λj q hq=>?_;have fU:ds[i.toNat*te.ty.size+j]?=some q:=by
     rw[e1,AI6,AJk (by omega),show i.toNat*te.ty.size+j-c0.length=j by omega,AJl (AO hq)];exact hq
    rw[<-p4,AJM]at fU;split at fU
    ·rw[AKW]at fU;rw[AJ0,PE hh,<-AJc];exact fU
    ·cases fU
theorem Aex{c:Call}(ho:o.op=.call c)(hc:c.callee=.builtin .len){k:Nat}(hx:OV σ c.args=[.Am k]){t:TypeId}(WG:c.argTypes.toList=[t]){ti:TI}(ht:EC P t ti)(IR:ti.DZ=true)
    {el:Nat} {u:Ty} {xs:AL7 u.V} (hb:σ.An[k]?=some (.tail el u xs)):M3 P σ o ⟨.int .i64 (xs.length:Int),σ.An,[]⟩:=by
 obtain⟨a0,ha,hz⟩:=AaP hx;refine .Il <| K1 (s:=λρ=>Builtin.len_ c.argTypes o.type #[ρ a0]) (λρ=>?_) λa w g hs=>?_
 ·rw[Jq ho hc,ha];simp[builtin]
 ·have wV:=AJ hs a0;rw[hz]at wV;obtain⟨hk,he⟩:=EP wV;have hl:=(hs.heap.Ls k _ hb).2.1;have ADx:c.argTypes[0]?=some t:=by rw[<-AJc,WG];rfl
  rw[he];exact BX (by simp[Builtin.len_,ADx,underlying,Bs ht IR,goInt,hl])
theorem yY(w:World)(t tx ty e:TypeId)(i:TypeInfo)(ht:P.underlying t=some (.slice e))(hi:P.info? e=some i)
    (b off YZ uN:Nat) (Bp:Array Value) {e0:TypeId} (hg:w.heap[b]?=some (.cells Bp e0 (0,0))) (x:Value) (n:Nat) (FW:AL7 Value) (hs:Src P i.size tx x n FW w) (W9:YZ+n<=uN) (Pv:off+YZ*i.size+FW.length<=Bp.size) :
    (Builtin.append_ #[t,tx] ty #[.slice (some ⟨b,off,none⟩) YZ uN,x]).run P w =
     .ok (.slice (some ⟨b,off,none⟩) (YZ+n) uN) (w.setRow b (Bp.toList.take (off+YZ*i.size)++FW++Bp.toList.drop (off+YZ*i.size+FW.length)).toArray):=by
 have BJ:=run_storeCells_at P b (off+YZ*i.size) e0 FW 0 Bp w hg (by simpa using Pv) hs.one;simp only[AKV]at BJ;rcases hs.kind with ⟨e',hk⟩|hk<;>simp[Builtin.append_,run_underlying ht,run_underlying hk,sizeOf,typeInfo,hi,hs.len,W9,hs.cells,X3,BJ]
theorem pC(w:World)(t tx ty e:TypeId)(i:TypeInfo)(z:Value)(ht:P.underlying t=some (.slice e))(hi:P.info? e=some i)(hz:i.zero=some z)(hzs:z.cells.size=i.size)(BH:0<i.size)
    {Pw:Nat->Prop} {Ek:Prop} {ad:AL8 Addr} {len cap:Nat} {ds:AL7 Value} (Vx:(len=0/\cap=0/\ds=[])\/∃b off Bp e0,ad=some ⟨b,off,none⟩/\Pw b/\(w.heap[b]?=some (.cells Bp e0 (0,0))/\(Ek\/e0=e))/\len<=cap/\cap<=maxLen/\Bp.size=off+cap*i.size/\(Bp.toList.drop off).take (len*i.size)=ds)
    {x:Value} {n:Nat} {FW:AL7 Value} (hs:Src P i.size tx x n FW w) (oX:i.bytes≠0) (Pv:(len+n)*i.bytes<=140737488355328) :
    ∃pz RH w',(Builtin.append_ #[t,tx] ty #[.slice ad len cap,x]).run P w=.ok (.slice pz (len+n) RH) w'/\w'.os=w.os/\w'.tape=w.tape/\w'.output=w.output/\w.heap.size<=w'.heap.size /\
     ((len+n=0/\RH=0/\w'=w)\/∃b' off Pr e1,pz=some ⟨b',off,none⟩/\(w'.heap[b']?=some (.cells Pr e1 (0,0))/\(Ek\/e1=e))/\len+n<=RH/\RH<=maxLen/\Pr.size=off+RH*i.size/\(Pr.toList.drop off).take ((len+n)*i.size)=ds++FW /\
      ((Pw b'/\w'=w.setRow b' Pr)\/(b'=w.heap.size/\b'<w'.heap.size/\∀q,q<w.heap.size->w'.heap[q]?=w.heap[q]?))):=by
 have Apu:len+n<=140737488355328:=AJs (AK8 _ (AKL oX)) Pv;have h63:((len+n:Nat):Int)<=9223372036854775807:=by omega
 have yu:len+n<=maxLen:=by simp only[maxLen];omega
 have iQ:ds.length=len*i.size:=by
  rcases Vx with ⟨h1,h2,h3⟩|⟨b,off,Bp,e0,h1,_,h2,h3,h4,h5,h6⟩
  ·subst h1;subst h3;simp
  ·rw[<-h6,AJj,AJy,AJV,h5,Nat.add_sub_cancel_left];exact AKF (AJX _ h3)
 by_cases W9:len+n<=cap
 ·rcases Vx with ⟨rfl,rfl,rfl⟩|⟨b,off,Bp,e0,rfl,hpw,⟨hb,hek⟩,h3,h4,h5,h6⟩
  ·obtain rfl:n=0:=by omega
   exact⟨ad,0,w,rq w t tx ty e i ht hi ad x FW hs,rfl,rfl,rfl,AI4 _,.inl ⟨rfl,rfl,rfl⟩⟩
  ·have Ug:off+len*i.size+FW.length<=Bp.size:=by
     rw[hs.newsLen,h5,AJ0,<-AJ9];exact Nat.add_le_add_left (AJX _ W9) _
   refine⟨_,cap,_,yY w t tx ty e i ht hi b off len cap Bp hb x n FW hs W9 Ug,rfl,rfl,rfl,by simp,.inr ⟨b,off,_,e0,rfl,⟨setRow_heap w b Bp _ e0 (0,0) hb,hek⟩,W9,h4,?_,?_,.inl ⟨hpw,rfl⟩⟩⟩
   ·simp only[AKc,AI2,AJj,AJy,AJV];omega
   ·rw[AKR];have e1:Bp.toList.take (off+len*i.size)=Bp.toList.take off++ds:=by rw[<-h6,List.take_add]
    have:(len+n)*i.size=(ds++FW).length:=by rw[AI2,iQ,hs.newsLen,AJ9]
    rw[e1,AI6,AI6,List.drop_left' (by rw[AJj,AJV];omega),<-AI6,this,AKD]
 ·have zL:cap<len+n:=by omega
  have holds:(Builtin.firstCells i.size len (.slice ad len cap)).run P w.drew=.ok ds.toArray w.drew:=by
   rcases Vx with ⟨rfl,rfl,rfl⟩|⟨b,off,Bp,e0,rfl,hpw,⟨hb,hek⟩,h3,h4,h5,h6⟩
   ·cases ad with
    |none=>exact run_firstCells_none w.drew i.size 0 0 0
    |some a=>exact run_firstCells_some w.drew i.size 0 a 0 0 [] (by simp) (by simp)
   ·refine run_firstCells_some w.drew i.size len _ len cap ds iQ λj u hu=>?_;rw[X3];show w.cell? ⟨b,off+j,none⟩=some u;rw[PE hb,<-AJc];rw[<-h6,AJM]at hu;split at hu
    ·rw[AKW]at hu;exact hu
    ·cases hu
  have hr:=run_append_grow_src (P:=P) w t tx ty e i z ht hi hz ad len cap ds holds x n FW hs zL h63 (growslice_fits zL Pv);refine⟨_,_,_,hr,rfl,rfl,rfl,by simp,.inr ⟨w.heap.size,0,_,e,rfl,⟨heap_alloc_new w.drew _,.inr rfl⟩,grownCap_ge w _ cap e,grownCap_le_maxLen w _ cap e yu,?_,?_,.inr ⟨rfl,by simp,λq hq=>heap_alloc_old w.drew _ q hq⟩⟩⟩
  ·have ae:=grownCap_ge w (len+n) cap e;simp only[Array.size_append,AKc,AI2,size_zeroCells,hzs,iQ,hs.newsLen,<-AJ9,AJu];congr 1;omega
  ·have:(len+n)*i.size=(ds++FW).length:=by rw[AI2,iQ,hs.newsLen,AJ9]
   rw[this,ALe,Array.toList_append,AKR,AKD]
theorem Aer{c:Call}(ho:o.op=.call c)(hc:c.callee=.builtin .append){k:Nat}{y:AV}(hx:OV σ c.args=[.Am k,y]){t tx:TypeId}(WG:c.argTypes.toList=[t,tx]){ti te bL:TI}(ht:EC P t ti)(DY:EC P ti.elem te)(IR:ti.DZ=true)(sH:EC P tx bL)(hkx:bL.DZ=true)
    (oX:te.bytes≠0) {el:Nat} {xs ys:AL7 te.ty.V} (hb:σ.An[k]?=some (.tail el te.ty xs)) (Tx:el=ti.elem\/el=0) {m2:RM} {rs:AL7 Nat} (fX:oB σ.An te.ty y=some (ys,m2,rs)) (Pv:(xs.length+ys.length)*te.bytes<=140737488355328) :
    M3 P σ o ⟨.Am σ.An.length,Blk.Gl (A6 (k::rs) σ.An) (k::rs)++[.tail el te.ty (xs++ys)],k::rs⟩:=by
 obtain⟨a0,a1,ha,hz0,rfl⟩:=vF hx;refine⟨by simp[A3,Ay],λh=>by(cases h),λa w g hs next Q hn=>?_⟩
 have H:=hs.heap;have wV:=AJ hs a0;rw[hz0]at wV;obtain⟨hk,qT⟩:=EP wV;obtain⟨hf,hlen,Pu,BH,hr⟩:=H.Ls k _ hb;obtain⟨i,z,hi,KD,hbi,hz,ko,_⟩:=DY.info;obtain⟨FW,hS,zI,_,ADn,_⟩:=AeR H fX (AJ hs a1) sH (by rw[hkx];rfl);have hu:=Bs ht IR;have hzs:z.cells.size=i.size:=by rw[<-AJV,ko,Rl,KD]
 have ACr:Bd (λ_ x c=>c=Kj te.ty x) 0 ys FW:=zI.mono λi x c h=>by
  rcases h with ⟨_,h⟩|⟨ks,_,h⟩|⟨j,_,h⟩
  ·exact h
  ·exact(Ha.BA hf).1 h
  ·exact(S6.BA hf).1 h
 obtain ⟨ds,Ac6,Ac7⟩:∃ds,((xs.length=0/\(g.AQ k).cap=0/\ds=[])\/∃b off Bp e0,(g.AQ k).a=some ⟨b,off,none⟩/\g.own b=.BB k []/\(w.heap[b]?=some (.cells Bp e0 (0,0))/\(el=0\/e0=ti.elem))/\xs.length<=(g.AQ k).cap/\(g.AQ k).cap<=maxLen/\Bp.size=off+(g.AQ k).cap*i.size/\(Bp.toList.drop off).take (xs.length*i.size)=ds) /\
     Bd (λ_ x c=>c=Kj te.ty x) 0 xs ds:=by
  rcases hr with ⟨rfl,h2⟩|⟨b,off,Bp,ds,h2,h3,⟨e0,he0,h4⟩,h5,h6,h7,h8,h9⟩
  ·exact⟨[],.inl ⟨rfl,h2,rfl⟩,rfl⟩
  ·exact⟨ds,.inr ⟨b,off,Bp,e0,h2,h3,⟨h4,by rcases he0 with h |h;exact .inl h;rcases Tx with h' |h';exact .inr (h.trans h');exact .inl h'⟩,h5,h6,by rw[KD];exact h7,by rw[KD];exact h8⟩,(Dt.1 h9).mono λi x c h=>(S6.BA hf).1 h⟩
 obtain⟨pz,RH,w',DT,hos,hta,hou,O6,W8⟩:=pC (P:=P) w t tx o.type ti.elem i z hu hi hz hzs (by rw[KD];exact BH) (Pw:=λb=>g.own b=.BB k []) (Ek:=el=0) Ac6 (by rw[KD];exact hS) (by rw[hbi];exact oX) (by rw[hbi];exact Pv);have Yc:(execOp a.eval o).run P w=.ok (.value (.slice pz (xs.length+ys.length) RH)) w':=by
  rw[Jq ho hc,ha,vf WG];simp[builtin,qT,hlen,DT]
 unfold Oper.wp;rw[Yc]
 let n:=σ.An.length
 let i':BI:=⟨pz,xs.length+ys.length,RH,te.ty.size⟩
 let f:Nat->AL7 Nat->Tq:=λj r=>if j=k then .BB n r else .BB j r
 have lt:∀b,g.own b≠.no->b<w.heap.size:=λb h=>Sx H h;obtain ⟨ob,ui,Uu,QM⟩:∃ob:AL8 Nat,(∀q,ob=some q->w.heap.size<=q/\q<w'.heap.size) /\
     (∀q,q<w.heap.size->(∀k' p,g.own q=.BB k' p->k'∉k::rs)->w'.heap[q]?=w.heap[q]?) /\
     ((xs++ys=[]/\RH=0)\/∃b' off Pr,pz=some ⟨b',off,none⟩/\Um w' b' el Pr/\xs.length+ys.length<=RH/\RH<=maxLen/\Pr.size=off+RH*te.ty.size/\(Pr.toList.drop off).take ((xs.length+ys.length)*te.ty.size)=ds++FW/\(g.Ui f ob n i').own b'=.BB n []):=by
  rcases W8 with ⟨h0,F6,rfl⟩|⟨b',off,Pr,e1,h1,⟨h2,he1⟩,h3,h4,h5,h6,h7⟩
  ·refine⟨none,λq h=>by(cases h),λq _ _=>rfl,.inl ⟨?_,F6⟩⟩;apply AJT;rw[AI2];omega
  ·rw[KD]at h5 h6;have h2:Um w' b' el Pr:=⟨e1,by rcases Tx with h |h;exact he1.imp id λh'=>h'.trans h.symm;exact .inl h,h2⟩;rcases h7 with ⟨Ce,rfl⟩|⟨rfl,Bh,hkp⟩
   ·refine⟨none,λq h=>by(cases h),ga Ce (by simp),.inr ⟨b',off,Pr,h1,h2,h3,h4,h5,h6,?_⟩⟩;rw[Ia (by simp) Ce];simp[f]
   ·exact⟨some w.heap.size,λq h=>by injection h with h;subst h;exact⟨AI4 _,Bh⟩,λq hq _=>hkp q hq,.inr ⟨_,off,Pr,h1,h2,h3,h4,h5,h6,by simp[G.Ui]⟩⟩
 let g':=g.Ui f ob n i'
 have st:Step (k::rs) n w g w' g':=Step.Ui H.BP hos hta hou O6 Uu (λq h=>(ui q h).1) (AI4 _) λj r _ hm=>by
  have h1:j≠k:=λe=>hm (by simp[e]);simp[f,h1]
 have Nu:g'.AQ n=i':=by simp[g',G.Ui]
 refine hn _ w' g' (H.Y7 st (L5 H.BP O6 λq h=>(ui q h).2) (by simp[A3,Ay]) λj x QW=>?_) ?_ st
 ·rw[AJo]at QW;split at QW
  ·rcases Km QW with h |⟨kh,h⟩
   ·exact .inl h
   ·obtain⟨y',cZ,rfl⟩:=C8 h;exact .inr (.inl ⟨kh,y',cZ,rfl⟩)
  ·rename_i Bh;rw[A3,Ay]at QW Bh;have kg:j-σ.An.length=0:=by
    rcases AJm (j-σ.An.length)with h |h
    ·exact h
    ·rw[AJC (by simp;omega)]at QW;cases QW
   rw[kg]at QW;obtain rfl:j=n:=by simp only[n];omega
   simp only[List.getElem?_cons_zero,AI0]at QW;subst QW;refine .inr (.inr ⟨hf,by rw[Nu,AI2],by rw[Nu],BH,?_⟩);rw[Nu,AI2];refine QM.imp id λ⟨b',off,Pr,h1,h2,h3,h4,h5,h6,h7⟩=>⟨b',off,Pr,_,h1,h7,h2,h3,h4,h5,h6,?_⟩;rw[Dt];exact(Bd.append Ac7 (HS.1 (HS (j:=0).2 ACr))).mono λi x c h=>(S6.BA hf).2 h
 ·refine Bl (cs:=[_]) rfl ⟨by simp[A3,Ay],rfl⟩ ?_;have:g'.AQ σ.An.length=i':=Nu;simp[BK,AV.isAgg,this,i']
end
end Go.Va
