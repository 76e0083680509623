import GoSem.Step
import Derived.Calls
import Derived.Orders
import Derived.Below
import Derived.Laws.AppendOwn
import Derived.Laws.MakeOwn
import Derived.Laws.CopyRow
import Derived.Laws.Tables
import Derived.Deep.MidRow
import Derived.Laws.Small
import Derived.Laws.Cells
import Derived.Laws.BytesArg
import Derived.Great.FillDense
import Derived.Great.BuildSlice
import Derived.Deep.AppendSrc
set_option linter.unusedVariables false
set_option linter.unusedSimpArgs false
namespace Go.Va
abbrev APH:=List
abbrev APJ:=Option
abbrev AL6:=@Option.bind_some
abbrev AL7:=@Int.toNat_natCast
abbrev AL8:=@Option.some.injEq
abbrev AL9:=@decide_eq_false
abbrev AMa:=@List.length_append
abbrev AMb:=@decide_eq_true
abbrev AMc:=@Nat.le_refl
abbrev AMd:=@Bool.and_eq_true
abbrev AMe:=@List.append_assoc
abbrev AMf:=@List.length_set
abbrev AMg:=@List.take_of_length_le
abbrev AMh:=@Nat.lt_or_ge
abbrev AMi:=@List.length_map
abbrev AMj:=@Prod.mk.injEq
abbrev AMk:=@Array.getElem?_toList
abbrev AMl:=@cond_false
abbrev AMm:=@cond_true
abbrev AMn:=@Option.bind_assoc
abbrev AMo:=@if_pos
abbrev AMp:=@if_neg
abbrev AMq:=@List.length_singleton
abbrev AMr:=@List.length_take
abbrev AMs:=@List.getElem?_append_right
abbrev AMt:=@List.getElem?_append_left
abbrev AMu:=@Nat.eq_zero_or_pos
abbrev AMv:=@List.getElem?_set
abbrev AMw:=@List.getElem?_append
abbrev AMx:=@List.mem_singleton
abbrev AMy:=@List.mem_cons_of_mem
abbrev AMz:=@List.getElem?_map
abbrev AMA:=@Nat.le_trans
abbrev AMB:=@List.mem_cons_self
abbrev AMC:=@Nat.zero_add
abbrev AMD:=@List.length_replicate
abbrev AME:=@List.mem_append_left
abbrev AMF:=@List.mem_append_right
abbrev AMG:=@List.length_drop
abbrev AMH:=@Nat.le_succ
abbrev AMI:=@Nat.lt_of_lt_of_le
abbrev AMJ:=@Nat.add_sub_cancel
abbrev AMK:=@List.getElem?_eq_none
abbrev AML:=@List.append_nil
abbrev AMM:=@Nat.lt_succ_self
abbrev AMN:=@List.length_range
abbrev AMO:=@List.getElem_mem
abbrev AMP:=@Bool.not_true
abbrev AMQ:=@List.map_append
abbrev AMR:=@if_true
abbrev AMS:=@Nat.zero_le
abbrev AMT:=@List.map_cons
abbrev AMU:=@Bool.false_eq_true
abbrev AMV:=@List.map_congr_left
abbrev AMW:=@decide_eq_false_iff_not
abbrev AMX:=@Option.bind_eq_some_iff
abbrev AMY:=@Array.getElem?_eq_getElem
abbrev AMZ:=@List.eq_nil_of_length_eq_zero
abbrev AM0:=@Array.getD_eq_getD_getElem?
abbrev AM1:=@List.ext_getElem
abbrev AM2:=@Bool.decide_and
abbrev AM3:=@Array.length_toList
abbrev AM4:=@Sum.elim_inr
abbrev AM5:=@List.getElem_of_mem
abbrev AM6:=@List.take_succ_eq_append_getElem
abbrev AM7:=@Nat.mul_le_mul_right
abbrev AM8:=@Bool.or_eq_false_iff
abbrev AM9:=@List.getElem?_take
abbrev ANa:=@Nat.add_assoc
abbrev ANb:=@List.take_append_of_le_length
abbrev ANc:=@List.range_succ
abbrev ANd:=@List.getElem?_eq_getElem
abbrev ANe:=@List.length_cons
abbrev ANf:=@beq_iff_eq
abbrev ANg:=@List.eq_nil_or_concat
abbrev ANh:=@List.concat_eq_append
abbrev ANi:=@List.ext_getElem?
abbrev ANj:=@decide_eq_true_eq
abbrev ANk:=@List.nil_append
abbrev ANl:=@List.getD_cons_zero
abbrev ANm:=@List.take_append_drop
abbrev ANn:=@Sum.elim_inl
abbrev ANo:=@Bool.not_false
abbrev ANp:=@Bool.or_eq_true
abbrev ANq:=@List.mem_of_mem_take
abbrev ANr:=@List.mem_append
abbrev ANs:=@List.set_append_right
abbrev ANt:=@List.mem_of_getElem?
abbrev ANu:=@Bool.not_eq_true'
abbrev ANv:=@bne_eq_false_iff_eq
abbrev ANw:=@List.length_flatten
abbrev ANx:=@Int.le_refl
abbrev ANy:=@bne_iff_ne
abbrev ANz:=@if_false
abbrev ANA:=@Array.getElem?_modify
abbrev ANB:=@Bool.and_eq_false_iff
abbrev ANC:=@Array.getElem?_setIfInBounds_ne
abbrev ANE:=@Nat.add_mul
abbrev ANF:=@Bool.eq_iff_iff
abbrev ANG:=@bne_self_eq_false
abbrev ANH:=@List.mem_cons
abbrev ANI:=@List.flatMap_append
abbrev ANJ:=@beq_eq_false_iff_ne
abbrev ANK:=@beq_self_eq_true
abbrev ANL:=@decide_eq_decide
abbrev ANM:=@List.take_length
abbrev ANN:=@List.sum_replicate_nat
abbrev ANO:=@Nat.pos_of_ne_zero
abbrev ANP:=@List.map_replicate
abbrev ANQ:=@decide_eq_true_iff
abbrev ANR:=@List.cons.injEq
abbrev ANS:=@List.sum_append
abbrev ANT:=@List.length_nil
abbrev ANU:=@List.countP_mono_left
abbrev ANV:=@List.length_filter_le
abbrev ANW:=@List.foldl_append
abbrev ANX:=@List.drop_eq_getElem_cons
abbrev ANY:=@List.take_left
abbrev ANZ:=@List.take_zero
abbrev AN0:=@List.map_nil
abbrev AN1:=@List.cons_append
abbrev AN2:=@List.map_map
abbrev AN3:=@List.getElem?_range
abbrev AN4:=@Nat.le_mul_of_pos_right
abbrev AN5:=@Bool.true_and
abbrev AN6:=@List.getElem?_drop
abbrev AN7:=@List.filter_append
abbrev AN8:=@List.size_toArray
abbrev AN9:=@List.nodup_append
abbrev AOa:=@Nat.add_zero
abbrev AOb:=@List.drop_zero
abbrev AOc:=@List.getElem?_set_ne
abbrev AOd:=@List.not_mem_nil
abbrev AOe:=@List.mem_of_mem_drop
abbrev AOf:=@List.replicate_succ'
abbrev AOg:=@Bool.false_or
abbrev AOh:=@List.sum_cons
inductive Ty where
 |int (k:IntKind)|bool |str |unit |AE (a b:Ty)|sl (t:Ty)|QV (z:Nat)
 deriving DecidableEq
@[reducible] def Ty.V:Ty->Type
 |.int _=>Int
 |.bool=>Bool
 |.str=>ByteArray
 |.unit=>Unit
 |.AE a b=>a.V×b.V
 |.sl t=>List t.V
 |.QV _=>Unit
def Ty.zero:(t:Ty)->t.V
 |.int _=>0
 |.bool=>false
 |.str=>⟨#[]⟩
 |.unit=>()
 |.AE a b=>(a.zero,b.zero)
 |.sl _=>[]
 |.QV _=>()
def Ty.size:Ty->Nat
 |.unit=>0
 |.AE a b=>a.size+b.size
 |_=>1
def Ty.BP:Ty->Bool
 |.sl _=>false
 |.QV _=>false
 |.AE a b=>a.BP&&b.BP
 |_=>true
def Ty.data:Ty->Bool
 |.QV _=>false
 |.AE a b=>a.data&&b.data
 |.sl t=>t.data
 |_=>true
def Ty.isAgg:Ty->Bool
 |.unit=>true
 |.AE _ _=>true
 |_=>false
def IU(t u:Ty)(x:t.V):APJ u.V:=if h:t=u then some (h▸x)else none
inductive AV where
 |AB (ks:List Nat) (t:Ty) (x:t.V)
 |zs
 |AG (k:Nat)
 |ptr (k:Nat) (i:Int) (p:List Nat) (o:Nat)
 |Fv (ks:List Nat) (t:Ty) (x:t.V)
 |JU
 |pr (a b:AV)
 |fn (f:Nat) (Zy:AV)
 |cons (a b:AV)
 |nil
 |TA (k:Nat) (i:Int) (p:List Nat) (o e:Nat)
 |Vs (k:Nat) (i:Int) (p:List Nat) (o:Nat) (j:Int) (u:Ty)
 |mp (k:Nat)
 |un (n:Nat)
inductive RM where
 |Aw |sh (ks:List Nat)
inductive Blk where
 |box (a:AV)
 |row (e:Nat) (m:RM) (t:Ty) (xs:List t.V)
 |map (m:RM) (kt vt:Ty) (es:List (kt.V×vt.V)) (st:Option kt.V)
 |QU (e:Nat) (t:Ty) (xs:List t.V) (i:Int) (p:List Nat)
 |tail (e:Nat) (t:Ty) (xs:List t.V)
 |A9
def AV.size:AV->Nat
 |.AB _ t _=>t.size
 |.pr a b=>a.size+b.size
 |.un n=>n
 |_=>1
def AV.isAgg:AV->Bool
 |.AB _ t _=>t.isAgg
 |.pr _ _=>true
 |_=>false
@[reducible] def AV.int (k:IntKind) (n:Int):AV:=.AB [] (.int k) n
@[reducible] def AV.bool (b:Bool):AV:=.AB [] .bool b
@[reducible] def AV.str (s:ByteArray):AV:=.AB [] .str s
@[reducible] def AV.u:AV:=.AB [] .unit ()
def Ty.Zq:Ty->AV
 |.AE a b=>.pr a.Zq b.Zq
 |.sl _=>.zs
 |.QV 0=>.JU
 |.QV _=>.un 1
 |.int k=>.AB [] (.int k) (0:Int)
 |.bool=>.AB [] .bool false
 |.str=>.AB [] .str ⟨#[]⟩
 |.unit=>.AB [] .unit ()
def ZO(ks:APH Nat)(t:Ty):APH Nat:=if t.BP then[]else ks
def Xl(ks:APH Nat):(t:Ty)->t.V->Nat->APJ AV
 |.AE a _,x,0=>some (.AB (ZO ks a) a x.1)
 |.AE _ b,x,n+1=>Xl ks b x.2 n
 |_,_,_=>none
def AV.Z6:AV->Nat->APJ AV
 |.AB ks t x,n=>Xl ks t x n
 |.pr a _,0=>some a
 |.pr _ b,n+1=>b.Z6 n
 |_,_=>none
def Ug:Ty->Nat->APJ Nat
 |.AE _ _,0=>some 0
 |.AE a b,n+1=>match Ug b n with |some o=>some (a.size+o)|none=>none
 |_,_=>none
def AV.off:AV->Nat->APJ Nat
 |.AB _ t _,n=>Ug t n
 |.pr _ _,0=>some 0
 |.pr a b,n+1=>match b.off n with |some o=>some (a.size+o)|none=>none
 |_,_=>none
def lb:Ty->Nat->APJ Ty
 |.AE a _,0=>some a
 |.AE _ b,n+1=>lb b n
 |_,_=>none
def tyP:Ty->APH Nat->APJ Ty
 |t,[]=>some t
 |t,f::p=>match lb t f with |some u=>tyP u p |none=>none
def Lg:Ty->APH Nat->APJ Nat
 |_,[]=>some 0
 |t,f::p=>match lb t f,Ug t f with
  |some u,some o=>match Lg u p with |some o'=>some (o+o')|none=>none
  |_,_=>none
def uf(ks:APH Nat):(t:Ty)->t.V->Nat->AV->APJ AV
 |.AE _ b,x,0,v=>some (.pr v (.AB (ZO ks b) b x.2))
 |.AE a b,x,n+1,v=>match uf ks b x.2 n v with |some r=>some (.pr (.AB (ZO ks a) a x.1) r)|none=>none
 |_,_,_,_=>none
def AV.S7:AV->Nat->AV->APJ AV
 |.AB ks t x,n,v=>uf ks t x n v
 |.pr _ b,0,v=>some (.pr v b)
 |.pr a b,n+1,v=>match b.S7 n v with |some r=>some (.pr a r)|none=>none
 |_,_,_=>none
def AV.Vj:AV->APH Nat->APJ AV
 |a,[]=>some a
 |a,f::p=>match a.Z6 f with |some b=>b.Vj p |none=>none
def AV.Abs:AV->APH Nat->APJ Nat
 |_,[]=>some 0
 |a,f::p=>match a.Z6 f,a.off f with
  |some b,some o=>match b.Abs p with |some o'=>some (o+o')|none=>none
  |_,_=>none
def AV.ZX:AV->APH Nat->AV->APJ AV
 |_,[],v=>some v
 |a,f::p,v=>match a.Z6 f with
  |some b=>match b.ZX p v with |some r=>a.S7 f r |none=>none
  |none=>none
def Rn:(t:Ty)->t.V->Nat->(∀u:Ty,u.V->APJ u.V)->APJ t.V
 |.AE a _,x,0,f=>match f a x.1 with |some y=>some (y,x.2)|none=>none
 |.AE _ b,x,n+1,f=>match Rn b x.2 n f with |some y=>some (x.1,y)|none=>none
 |_,_,_,_=>none
def Ss(u:Ty)(y:u.V):(p:APH Nat)->(t:Ty)->t.V->APJ t.V
 |[],t,_=>IU u t y
 |f::p,t,x=>Rn t x f (λt' x'=>Ss u y p t' x')
def AV.Ct:AV->APH Nat
 |.AB ks _ _=>ks
 |.Fv ks _ _=>ks
 |.AG k=>[k]
 |.ptr k _ _ _=>[k]
 |.TA k _ _ _ _=>[k]
 |.Vs k _ _ _ _ _=>[k]
 |.mp k=>[k]
 |.pr a b=>a.Ct++b.Ct
 |.fn _ c=>c.Ct
 |.cons a b=>a.Ct++b.Ct
 |_=>[]
def AV.R8:AV->APH Nat
 |.AB ks _ _=>ks
 |.Fv ks _ _=>ks
 |.TA k _ _ _ _=>[k]
 |.Vs k _ _ _ _ _=>[k]
 |.pr a b=>a.R8++b.R8
 |.fn _ c=>c.R8
 |.cons a b=>a.R8++b.R8
 |_=>[]
def RM.Ct:RM->APH Nat
 |.Aw=>[]
 |.sh ks=>ks
def Blk.Ct:Blk->APH Nat
 |.box a=>a.Ct
 |.row _ m _ _=>m.Ct
 |.map m _ _ _ _=>m.Ct
 |.QU _ _ _ _ _=>[]
 |.tail _ _ _=>[]
 |.A9=>[]
def Blk.R8:Blk->APH Nat
 |.box a=>a.R8
 |.row _ m _ _=>m.Ct
 |.map m _ _ _ _=>m.Ct
 |.QU _ _ _ _ _=>[]
 |.tail _ _ _=>[]
 |.A9=>[]
def AV.NI(f:Nat->Nat):AV->AV
 |.AB ks t x=>.AB (ks.map f) t x
 |.Fv ks t x=>.Fv (ks.map f) t x
 |.AG k=>.AG (f k)
 |.ptr k i p o=>.ptr (f k) i p o
 |.TA k i p o e=>.TA (f k) i p o e
 |.Vs k i p o j u=>.Vs (f k) i p o j u
 |.mp k=>.mp (f k)
 |.pr a b=>.pr (a.NI f) (b.NI f)
 |.fn g c=>.fn g (c.NI f)
 |.cons a b=>.cons (a.NI f) (b.NI f)
 |.zs=>.zs
 |.JU=>.JU
 |.nil=>.nil
 |.un n=>.un n
def RM.NI(f:Nat->Nat):RM->RM
 |.Aw=>.Aw
 |.sh ks=>.sh (ks.map f)
def Blk.NI(f:Nat->Nat):Blk->Blk
 |.box a=>.box (a.NI f)
 |.row e m t xs=>.row e (m.NI f) t xs
 |.map m kt vt es st=>.map (m.NI f) kt vt es st
 |.QU e t xs i p=>.QU e t xs i p
 |.tail e t xs=>.tail e t xs
 |.A9=>.A9
def Zx(n:Nat)(ks:APH Nat):APH Nat:=(List.range n).filter λk=>ks.contains k
def AV.Ec(n:Nat):AV->AV
 |.AB ks t x=>.AB (Zx n ks) t x
 |.Fv ks t x=>.Fv (Zx n ks) t x
 |.pr a b=>.pr (a.Ec n) (b.Ec n)
 |.fn f c=>.fn f (c.Ec n)
 |.cons a b=>.cons (a.Ec n) (b.Ec n)
 |a=>a
def Blk.Ec(n:Nat):Blk->Blk
 |.box a=>.box (a.Ec n)
 |.row e (.sh ks) t xs=>.row e (.sh (Zx n ks)) t xs
 |.map (.sh ks) kt vt es st=>.map (.sh (Zx n ks)) kt vt es st
 |b=>b
def AV.drop(W1:Nat->Bool):AV->AV
 |.AB ks t x=>if ks.any W1 then .un t.size else .AB ks t x
 |.Fv ks t x=>if ks.any W1 then .un 1 else .Fv ks t x
 |.TA k i p o e=>if W1 k then .un 1 else .TA k i p o e
 |.Vs k i p o j u=>if W1 k then .un 1 else .Vs k i p o j u
 |.pr a b=>.pr (a.drop W1) (b.drop W1)
 |.fn g c=>.fn g (c.drop W1)
 |.cons a b=>.cons (a.drop W1) (b.drop W1)
 |a=>a
def Blk.drop(W1:Nat->Bool):Blk->Blk
 |.box a=>.box (a.drop W1)
 |.row e m t xs=>if m.Ct.any W1 then .A9 else .row e m t xs
 |.map m kt vt es st=>if m.Ct.any W1 then .A9 else .map m kt vt es st
 |.QU e t xs i p=>.QU e t xs i p
 |.tail e t xs=>.tail e t xs
 |.A9=>.A9
structure St where
 AO:List AV
 Aj:List Blk
structure HO where
 val:AV
 Aj:List Blk
 Bz:List Nat
structure TI where
 ty:Ty
 V8:List Nat
 elem:Nat
 bytes:Nat
 He:Nat:=0
 N5:Nat:=0
 eqs:Bool:=false
def TI.Eh(ti:TI):Bool:=match ti.ty with |.sl _=>true |_=>false
abbrev yg:=List (Nat×TI)
def yg.get:yg->Nat->APJ TI
 |[],_=>none
 |(k,i)::r,t=>if k==t then some i else yg.get r t
inductive PM where
 |d (t:Ty)|p (t:Ty)|WH
structure Callee where
 mA:List PM
 run:(R:Type)->List AV->List Blk->(AV->List Blk->Option R)->Option R
 Abb:List Nat:=[]
inductive Co where
 |row (p:List Nat) (e:Nat) (t:Ty) (Aw:Bool)
 |AB (t:Ty)
 |fb (ks:List Nat)
structure SH where
 Bb:List Nat
 mv:List Nat:=[]
 RF:List (Nat×Bool×Ty):=[]
 Cg:List (Nat×Bool×Co):=[]
 wid:List (Nat×List Nat):=[]
 post:List (Nat×Bool×Co):=[]
 mvp:List (Nat×List Nat):=[]
 X3:Bool:=false
inductive Fi where
 |co (k:Nat) (c:Co)|mv (k:Nat) (p:List Nat)|A9 (j:Nat)|mvs (s:Nat) (p:List Nat)
structure FI where
 Aw:Bool:=true
 take:List Nat:=[]
 Af4:List (Nat×Nat):=[]
 A8:List (Nat×SH):=[]
 BW:List (Nat×SH):=[]
 BS:List (Nat×SH):=[]
 aJ:List (Nat×SH):=[]
 DD:List (Nat×List Nat):=[]
 AE7:List (Nat×List (Nat×List (List Nat)×Co)):=[]
 VC:List Fi:=[]
 dL:List (Nat×List Nat):=[]
 cQ:List (Nat×Ty):=[]
 AC6:List Nat:=[]
 RF:List (Nat×Ty):=[]
 jw:List (Nat×Co):=[]
 stl:List Nat:=[]
structure Gx where
 DU:yg
 fns:Nat->Option Callee
 fi:FI
def oF:Value->AV
 |.int k n=>.int k n
 |.bool b=>.bool b
 |.string s=>.str s
 |.slice none 0 0=>.zs
 |.pointer none=>.JU
 |_=>.un 0
def St.Ci(σ:St):Operand->AV
 |.tmp t=>(σ.AO[t]?).getD (.un 0)
 |.const v=>oF v
 |.func f=>.fn f .nil
 |_=>.un 0
def AV.ae:AV->AV
 |.TA _ _ _ _ _=>.un 1
 |.Vs _ _ _ _ _ _=>.un 1
 |.pr a b=>.pr a.ae b.ae
 |.fn f c=>.fn f c.ae
 |.cons a b=>.cons a.ae b.ae
 |a=>a
def Blk.ae:Blk->Blk
 |.box a=>.box a.ae
 |b=>b
def AV.cT:AV->Bool
 |.TA _ _ _ _ _=>true
 |.Vs _ _ _ _ _ _=>true
 |.pr a b=>a.cT||b.cT
 |.fn _ c=>c.cT
 |.cons a b=>a.cT||b.cT
 |_=>false
def Blk.cT:Blk->Bool
 |.box a=>a.cT
 |_=>false
def Blk.GF(bs:APH Blk):APH Nat->APH Blk
 |[]=>bs
 |k::r=>Blk.GF (bs.set k .A9) r
def TV(Bz:APH Nat)(sl:APH AV):APH AV:=match Bz with |[]=>sl |m::ms=>sl.map (·.drop λk=>(m::ms).contains k)
def Ba(Bz:APH Nat)(bs:APH Blk):APH Blk:=match Bz with |[]=>bs |m::ms=>bs.map (·.drop λk=>(m::ms).contains k)
def kO(Bz:APH Nat)(m:RM):Bool:=m.Ct.all λk=>!Bz.contains k
def Y3(d:APJ Nat)(v:AV)(sl:APH AV):APH AV:=match d with |some d=>sl.set d v |none=>sl
def St.after(σ:St)(d:APJ Nat)(e:HO):St:={AO:=Y3 d e.val (TV e.Bz σ.AO),Aj:=e.Aj}
def AV.Dj:AV->Bool
 |.cons _ _=>true
 |.nil=>true
 |_=>false
def AV.Xg:AV->Bool
 |.un _=>false
 |.cons _ _=>false
 |.nil=>false
 |_=>true
def rd(bs:APH Blk):(t:Ty)->AV->APJ t.V
 |.AE a b,av=>match av with
  |.AB _ t x=>IU t (.AE a b) x
  |.pr u v=>match rd bs a u,rd bs b v with |some x,some y=>some (x,y)|_,_=>none
  |_=>none
 |.sl t,av=>match av with
  |.AB _ u x=>IU u (.sl t) x
  |.zs=>some []
  |.AG k=>match bs[k]? with |some (.row _ _ u xs)=>IU (.sl u) (.sl t) xs |_=>none
  |_=>none
 |t,av=>match av with |.AB _ u x=>IU u t x |_=>none
def atB(bs:APH Blk)(k:Nat)(i:Int):APJ AV:=match bs[k]? with
 |some (.box a)=>some a
 |some (.row _ m t xs)=>some (.AB (ZO (match m with |.Aw=>[k]|.sh ks=>ks) t) t (xs.getD i.toNat t.zero))
 |_=>none
def atP(bs:APH Blk)(k:Nat)(i:Int)(p:APH Nat)(o:Nat):APJ AV:=match atB bs k i with
 |some a=>if a.Abs p=some o then a.Vj p else none
 |none=>none
def AV.QW:AV->APH Nat
 |.AG k=>[k]
 |.pr a b=>a.QW++b.QW
 |_=>[]
def AV.fb:AV->APH Nat
 |.AB ks _ _=>ks
 |.pr a b=>a.fb++b.fb
 |_=>[]
def AV.XG:AV->Bool
 |.AB _ t _=>t.BP
 |.zs=>true
 |.AG _=>true
 |.pr a b=>a.XG&&b.XG
 |_=>false
def Ty.row(t:Ty):Bool:=t.data&&t.size !=0
def bR(bs:APH Blk)(k:Nat):APJ RM:=match bs[k]? with |some (.row _ m _ _)=>some m |_=>none
def AV.Ua(bs:APH Blk):AV->APH Nat
 |.AB ks _ _=>ks
 |.AG k=>k::(match bR bs k with |some m=>m.Ct |none=>[])
 |.pr a b=>a.Ua bs++b.Ua bs
 |_=>[]
def nodup:APH Nat->Bool
 |[]=>true
 |k::r=>!r.contains k&&nodup r
def take(bs:APH Blk)(m:RM)(t:Ty)(v:AV):APJ (t.V×RM×APH Nat) :=
 match rd bs t v with
 |none=>none
 |some y =>
  let rs:=v.QW
  match m with
  |.Aw=>if v.XG&&nodup rs&&rs.all (λk=>match bR bs k with |some .Aw=>true |_=>false)then some (y,.Aw,rs)else none
  |.sh ks=>if nodup rs&&rs.all (λk=>(bR bs k).isSome)then
      some (y,.sh (ks++v.fb++rs.flatMap (λk=>match bR bs k with |some (.sh l)=>l |_=>[])),rs)else none
def ArS{A:Type}:(t:Ty)->t.V->Nat->(∀u:Ty,u.V->APJ A)->APJ A
 |.AE a _,x,0,f=>f a x.1
 |.AE _ b,x,n+1,f=>ArS b x.2 n f
 |_,_,_,_=>none
def iG(u:Ty):(p:APH Nat)->(t:Ty)->t.V->APJ u.V
 |[],t,x=>IU t u x
 |f::p,t,x=>ArS t x f (λt' x'=>iG u p t' x')
def Ty.El:Ty->Bool
 |.int _=>true
 |.str=>true
 |.AE (.int _) (.AE (.int _) .unit)=>true
 |_=>false
def Iu(s t:ByteArray):Bool:=s.toList==t.toList
def Bd:(t:Ty)->t.V->t.V->Bool
 |.int _,x,y=>x==y
 |.str,x,y=>Iu x y
 |.AE a b,x,y=>Bd a x.1 y.1&&Bd b x.2 y.2
 |.unit,_,_=>true
 |_,_,_=>false
def Ns:(t:Ty)->t.V->t.V->Bool
 |.int _,x,y=>x==y
 |.bool,x,y=>x==y
 |.str,x,y=>Iu x y
 |.AE a b,x,y=>Ns a x.1 y.1&&Ns b x.2 y.2
 |.unit,_,_=>true
 |_,_,_=>false
def N4(kt vt:Ty):APH (kt.V×vt.V)->kt.V->APJ vt.V
 |[],_=>none
 |x::r,k=>bif Bd kt k x.1 then some x.2 else N4 kt vt r k
def Bn(kt vt:Ty)(es:APH (kt.V×vt.V))(k:kt.V):vt.V:=(N4 kt vt es k).getD vt.zero
def S5(kt vt:Ty)(es:APH (kt.V×vt.V))(k:kt.V):Bool:=(N4 kt vt es k).isSome
def Xo(kt vt:Ty):APH (kt.V×vt.V)->kt.V->Nat
 |[],_=>0
 |x::r,k=>bif Bd kt k x.1 then 0 else Xo kt vt r k+1
def Xc(kt vt:Ty)(es:APH (kt.V×vt.V))(k:kt.V):Int:=Int.ofNat (Xo kt vt es k)
def VP(kt vt:Ty)(es:APH (kt.V×vt.V))(k:kt.V)(n:Int):Bool:=n==Xc kt vt es k&&S5 kt vt es k
def Ch(kt vt:Ty):APH (kt.V×vt.V)->kt.V->vt.V->APH (kt.V×vt.V)
 |[],k,v=>[(k,v)]
 |x::r,k,v=>bif Bd kt k x.1 then(k,v)::r else x::Ch kt vt r k v
def FI.mode(fi:FI)(t:Ty):RM:=if t.BP||fi.Aw then .Aw else .sh []
def Ro(k:IntKind)(x y:Int):Int:=x.fdiv (2^(min y.toNat k.bits))
def N6(k:IntKind)(x y:Int):Int:=k.wrap (x*2^(min y.toNat k.bits))
def fa(k:IntKind)(x y:Int):Int:=k.wrap (BitVec.ofInt k.bits x &&& BitVec.ofInt k.bits y).toNat
def fq(k:IntKind)(x y:Int):Int:=k.wrap (BitVec.ofInt k.bits x ||| BitVec.ofInt k.bits y).toNat
def As7(k:IntKind)(x y:Int):Int:=k.wrap (BitVec.ofInt k.bits x ^^^ BitVec.ofInt k.bits y).toNat
def yj(k:IntKind)(x y:Int):Int:=k.wrap (BitVec.ofInt k.bits x &&& ~~~ BitVec.ofInt k.bits y).toNat
def strLt(s t:ByteArray):Bool:=Op.bytesLess s.toList t.toList
def C5(s:ByteArray)(i:Int):Int:=((s[i.toNat]?).getD 0).toNat
section
variable {R:Type}
def od(op:BinOp)(tb:Bool):AV->AV->(AV->APJ R)->APJ R
 |.AB _ (.int k) x,.AB _ (.int k') y,K =>
  match op with
  |.shl=>if y<0 then none else K (.int k (N6 k x y))
  |.shr=>if y<0 then none else K (.int k (Ro k x y))
  |op=>if k=k' then match op with
   |.add=>K (.int k (k.wrap (x+y)))
   |.sub=>K (.int k (k.wrap (x-y)))
   |.mul=>K (.int k (k.wrap (x*y)))
   |.quo=>if y=0 then none else K (.int k (k.wrap (x.tdiv y)))
   |.rem=>if y=0 then none else K (.int k (x.tmod y))
   |.and=>K (.int k (fa k x y))
   |.or=>K (.int k (fq k x y))
   |.xor=>K (.int k (As7 k x y))
   |.andNot=>K (.int k (yj k x y))
   |.eql=>K (.bool (x==y))
   |.neq=>K (.bool (x !=y))
   |.lss=>K (.bool (decide (x<y)))
   |.leq=>K (.bool (decide (x<=y)))
   |.gtr=>K (.bool (decide (x>y)))
   |.geq=>K (.bool (decide (x>=y)))
   |_=>none
   else none
 |.AB _ .str x,.AB _ .str y,K =>
  match op with
  |.add=>if x.size+y.size<=9223372036854775807 then K (.str (x++y))else none
  |.eql=>K (.bool (Iu x y))
  |.neq=>K (.bool (!Iu x y))
  |.lss=>K (.bool (strLt x y))
  |.leq=>K (.bool (strLt x y||Iu x y))
  |.gtr=>K (.bool (!(strLt x y||Iu x y)))
  |.geq=>K (.bool (!strLt x y))
  |_=>none
 |.AB _ .bool x,.AB _ .bool y,K=>if tb then
  match op with
  |.eql=>K (.bool (x==y))
  |.neq=>K (.bool (!(x==y)))
  |_=>none
  else none
 |_,_,_=>none
def unA(op:UnOp):AV->(AV->APJ R)->APJ R
 |.AB _ .bool b,K=>match op with |.not=>K (.bool (!b))|_=>none
 |.AB _ (.int k) n,K=>match op with
  |.neg=>K (.int k (k.wrap (0-n)))
  |.xor=>K (.int k (As7 k (if k.signed then -1 else k.max) n))
  |_=>none
 |_,_=>none
def pM(bs:APH Blk)(ti:TI):AV->(AV->APJ R)->APJ R
 |.AB _ (.sl _) xs,K=>if ti.Eh then K (.int .i64 (xs.length:Int))else none
 |.AB _ .str s,K=>if ti.ty=.str then K (.int .i64 (s.size:Int))else none
 |.zs,K=>if ti.Eh then K (.int .i64 0)else none
 |.AG k,K=>match bs[k]? with
  |some (.row _ _ _ xs)=>if ti.Eh then K (.int .i64 (xs.length:Int))else none
  |some (.QU _ _ xs _ _)=>if ti.Eh then K (.int .i64 (xs.length:Int))else none
  |_=>none
 |_,_=>none
def mmA(mx:Bool):AV->AV->(AV->APJ R)->APJ R
 |.AB _ (.int k) x,.AB _ (.int k') y,K=>if k=k' then K (.int k (if mx then(if y>x then y else x)else(if y<x then y else x)))else none
 |_,_,_=>none
def wW(bs:APH Blk)(te:Ty):AV->AV->(AV->APJ R)->APJ R
 |.AB ks (.sl t) xs,.AB _ (.int _) i,K=>if t=te then if 0<=i/\i<(xs.length:Int)then K (.Fv ks t (xs.getD i.toNat t.zero))else none else none
 |.AG k,.AB _ (.int _) i,K=>match bs[k]? with
  |some (.row _ _ t xs)=>if t=te then if 0<=i/\i<(xs.length:Int)then K (.ptr k i [] 0)else none else none
  |some (.QU _ t xs _ _)=>if t=te then if 0<=i/\i<(xs.length:Int)then K (.ptr k i [] 0)else none else none
  |_=>none
 |_,_,_=>none
def tg(bs:APH Blk)(te:Ty):AV->AV->(AV->APJ R)->APJ R
 |.TA k i0 p f _,.AB _ (.int _) j,K=>match bs[k]? with
  |some (.row _ .Aw tr xs)=>match iG (.sl te) p tr (xs.getD i0.toNat tr.zero),Ss (.sl te) [] p tr (xs.getD i0.toNat tr.zero)with
   |some ys,some _=>if te.size≠0/\Lg tr p=some f then if 0<=j/\j<(ys.length:Int)then K (.Vs k i0 p f j te)else none else none
   |_,_=>none
  |_=>none
 |x,y,K=>wW bs te x y K
def ov:AV->AV->(AV->APJ R)->APJ R
 |.AB _ .str s,.AB _ (.int _) i,K=>if 0<=i/\i<(s.size:Int)then K (.int .u8 (C5 s i))else none
 |_,_,_=>none
def ky(ti:TI)(f:Nat):AV->(AV->APJ R)->APJ R
 |.ptr k i p o,K=>match ti.V8[f]? with |some fo=>K (.ptr k i (p++[f]) (o+fo))|none=>none
 |.Fv ks t x,K=>if t=ti.ty/\Ug t f=ti.V8[f]? then match Xl ks t x f with |some (.AB _ u y)=>K (.Fv ks u y)|_=>none else none
 |_,_=>none
def Zi(bs:APH Blk)(ti:TI):AV->(AV->APJ R)->APJ R
 |.Fv ks t x,K=>if t=ti.ty then K (.AB (ZO ks t) t x)else none
 |.ptr k i p o,K=>match atP bs k i p o with
  |some v=>if v.size=ti.ty.size/\v.isAgg=ti.ty.isAgg then K v else none
  |none=>none
 |_,_=>none
def dA(bs:APH Blk)(ti:TI):AV->AV->(HO->APJ R)->APJ R
 |.ptr k i p o,v,K=>match bs[k]? with
  |some (.box a)=>match a.Vj p,a.ZX p v with
   |some mJ,some a'=>if v.Xg/\a.Abs p=some o/\mJ.size=v.size/\v.size=ti.ty.size/\v.isAgg=ti.ty.isAgg/\a'.Ct.contains k=false then K ⟨.un 0,(Ba [k] bs).set k (.box a'),[k]⟩else none
   |_,_=>none
  |some (.row e m t xs)=>match take bs m ti.ty v with
   |some (y,m',rs) =>
    if Lg t p=some o/\tyP t p=some ti.ty/\kO (k::rs) m'/\rs.contains k=false then match Ss ti.ty y p t (xs.getD i.toNat t.zero)with
     |some x'=>K ⟨.un 0,(Blk.GF (Ba (k::rs) bs) rs).set k (.row e m' t (xs.set i.toNat x')),k::rs⟩
     |none=>none
    else none
   |none=>none
  |some (.QU e t xs i' p')=>match v with
   |.AG j=>match bs[j]? with
    |some (.row _ .Aw u ys)=>match Ss (.sl u) [] p t (xs.getD i.toNat t.zero),Ss (.sl u) ys p t (xs.getD i.toNat t.zero)with
     |some x0,some x'=>if ti.ty=.sl u/\Lg t p=some o/\tyP t p=some (.sl u)/\p'=p/\j≠k then
         if i'=i then K ⟨.un 0,(Blk.GF (Ba [k,j] ((Ba [k] bs).set k (.row e .Aw t (xs.set i.toNat x0)))) [j]).set k (.row e .Aw t (xs.set i.toNat x')),[k,j]⟩else none
      else none
     |_,_=>none
    |_=>none
   |_=>none
  |_=>none
 |_,_,_=>none
def Z0(bs:APH Blk)(ti:TI):AV->(HO->APJ R)->APJ R
 |.ptr k i p o,K=>match bs[k]? with
  |some (.row e .Aw t xs)=>match tyP t p with
   |some (.sl u)=>match iG (.sl u) p t (xs.getD i.toNat t.zero),Ss (.sl u) [] p t (xs.getD i.toNat t.zero)with
    |some ys,some _=>if ti.ty=.sl u/\Lg t p=some o/\u.size≠0 then
        K ⟨.AG bs.length,(Ba [k] bs).set k (.QU e t xs i p)++[.row 0 .Aw u ys],[k]⟩else none
    |_,_=>none
   |_=>none
  |_=>none
 |_,_=>none
def XB(ti:TI):AV->APH (Nat×AV)->APJ AV
 |a,[]=>some a
 |a,(f,v)::r=>match a.Z6 f with
  |some mJ=>if mJ.size=v.size/\v.Xg=true/\a.off f=ti.V8[f]?/\(lb ti.ty f).map Ty.size=some v.size then match a.S7 f v with |some a'=>XB ti a' r |none=>none else none
  |none=>none
def Vt(bs:APH Blk)(t:Ty):RM->APH t.V->APH Nat->APH (Nat×AV)->APJ (RM×APH t.V×APH Nat)
 |m,xs,rs,[]=>some (m,xs,rs)
 |m,xs,rs,(i,v)::r=>match take bs m t v with
  |some (y,m',l)=>if i<xs.length then Vt bs t m' (xs.set i y) (rs++l) r else none
  |none=>none
def qs(bs:APH Blk)(t:Ty):AV->APJ (APH t.V×RM×APH Nat)
 |.zs=>some ([],.Aw,[])
 |.AB ks (.sl u) ys=>match IU (.sl u) (.sl t) ys with |some l=>some (l,if t.BP then .Aw else .sh ks,[])|none=>none
 |.AB _ .str s=>match IU (.sl (.int .u8)) (.sl t) (s.data.toList.map λb=>(b.toNat:Int))with |some l=>some (l,.Aw,[])|none=>none
 |.AG j=>match bs[j]? with
  |some (.row _ m u ys)=>match IU (.sl u) (.sl t) ys with |some l=>some (l,if t.BP then .Aw else m,if t.BP then[]else[j])|none=>none
  |_=>none
 |_=>none
def zn:RM->RM->APJ RM
 |.Aw,.Aw=>some .Aw
 |.sh a,.sh b=>some (.sh (a++b))
 |.sh a,.Aw=>some (.sh a)
 |.Aw,.sh _=>none
def Yh(fi:FI)(bs:APH Blk)(e:Nat)(ti:TI):AV->AV->(HO->APJ R)->APJ R
 |.zs,y,K=>if(ti.ty.row&&ti.bytes !=0)=false then none else match qs bs ti.ty y with
  |some (ys,m,rs)=>match zn (match m with |.Aw=>fi.mode ti.ty |m=>m) m with
   |some m'=>if kO rs m' then if ys.length*ti.bytes<=140737488355328 then K ⟨.AG bs.length,Blk.GF (Ba rs bs) rs++[.row e m' ti.ty ys],rs⟩else none else none
   |none=>none
  |none=>none
 |.AG k,y,K=>if(ti.ty.row&&ti.bytes !=0)=false then none else match bs[k]?,qs bs ti.ty y with
  |some (.row e' m t xs),some (ys,m2,rs)=>match IU (.sl t) (.sl ti.ty) xs,zn m m2 with
   |some xs,some m'=>if(e=e'/\e≠0\/e'=0)/\rs.contains k=false/\kO (k::rs) m' then
       if(xs.length+ys.length)*ti.bytes<=140737488355328 then K ⟨.AG bs.length,Blk.GF (Ba (k::rs) bs) (k::rs)++[.row e' m' ti.ty (xs++ys)],k::rs⟩else none
    else none
   |_,_=>none
  |_,_=>none
 |_,_,_=>none
def Ty.isInt:Ty->Bool
 |.int _=>true
 |_=>false
def Yi(fi:FI)(bs:APH Blk)(e:Nat)(ti:TI):AV->AV->(HO->APJ R)->APJ R
 |.zs,.AB _ (.int _) l,K=>if ti.ty.row=true/\ti.bytes≠0 then if 0<=l/\l*(ti.bytes:Int)<=140737488355328 then K ⟨.AG bs.length,bs++[.row e (fi.mode ti.ty) ti.ty (List.replicate l.toNat ti.ty.zero)],[]⟩else none else none
 |_,_,_=>none
def mn(fi:FI)(bs:APH Blk)(e:Nat)(ti:TI):AV->AV->(HO->APJ R)->APJ R
 |.AB _ (.int _) l,.AB _ (.int _) c,K=>if ti.ty.row/\0<=l/\l<=c/\(ti.bytes:Int)*c<=281474976710656/\c<=9223372036854775807 then
     K ⟨.AG bs.length,bs++[.row e (fi.mode ti.ty) ti.ty (List.replicate l.toNat ti.ty.zero)],[]⟩else none
 |_,_,_=>none
def bnd:APJ AV->Int->APJ Int
 |none,d=>some d
 |some (.AB _ (.int _) i),_=>some i
 |_,_=>none
def WI(bs:APH Blk)(ti:TI)(te:APJ Ty)(x:AV)(lo hi mx:APJ AV)(K:AV->APJ R):APJ R :=
 match mx with
 |some (.AB _ (.int _) m)=>match lo,hi with
  |none,some (.AB _ (.int _) h)=>if h=0/\m=0/\te.isSome then match x with
   |.AB _ (.sl _) _=>K .zs
   |.zs=>K .zs
   |.AG k=>match bs[k]? with |some (.row _ _ _ _)=>K .zs |_=>none
   |_=>none
   else none
  |_,_=>none
 |some _=>none
 |none=>match x with
  |.AB _ .str s=>match bnd lo 0,bnd hi (s.size:Int)with
   |some l,some h=>if ti.ty=.str/\0<=l/\l<=h/\h<=(s.size:Int)then K (.str (s.extract l.toNat h.toNat))else none
   |_,_=>none
  |.AB ks (.sl t) xs=>match bnd lo 0,bnd hi (xs.length:Int)with
   |some l,some h=>if te=some t then if 0<=l/\l<=h/\h<=(xs.length:Int)then K (.AB ks (.sl t) ((xs.take h.toNat).drop l.toNat))else none else none
   |_,_=>none
  |.AG k=>match bs[k]? with
   |some (.row _ m t xs)=>match bnd lo 0,bnd hi (xs.length:Int)with
    |some l,some h=>if te=some t then if 0<=l/\l<=h/\h<=(xs.length:Int)then K (.AB (k::m.Ct) (.sl t) ((xs.take h.toNat).drop l.toNat))else none else none
    |_,_=>none
   |_=>none
  |.zs=>match bnd lo 0,bnd hi 0 with
   |some l,some h=>if te.isSome/\l=0/\h=0 then K .zs else none
   |_,_=>none
  |_=>none
def AaG(te:Ty)(bs:APH Blk)(x:AV)(hi:APJ AV)(K:HO->APJ R):APJ R :=
 match x,hi with
 |.AG k,some (.AB _ (.int _) h)=>match bs[k]? with
  |some (.row e m t xs)=>if kO [k] m/\t=te then if 0<=h/\h<=(xs.length:Int)then K ⟨.AG bs.length,Blk.GF (Ba [k] bs) [k]++[.row e m t (xs.take h.toNat)],[k]⟩else none else none
  |_=>none
 |_,_=>none
def bytesOf(xs:APH Int):ByteArray:=⟨(xs.map λn=>UInt8.ofNat n.toNat).toArray⟩
def aE(bs:APH Blk)(te:APJ Ty)(td:Ty)(a:AV)(K:AV->APJ R):APJ R :=
 match td with
 |.int k=>match a with |.AB _ (.int _) n=>K (.int k (k.wrap n))|_=>none
 |.str=>match a with
  |.AB _ .str s=>K (.str s)
  |a=>if te=some (.int .u8)then match rd bs (.sl (.int .u8)) a with |some xs=>K (.str (bytesOf xs))|none=>none else none
 |_=>none
def RM.own(k:Nat):RM->APH Nat
 |.Aw=>[k]
 |.sh ks=>ks
def ei(bs:APH Blk)(tk te:TI)(ok:Bool)(m x:AV)(K:AV->APJ R):APJ R :=
 match m with
 |.mp k=>match bs[k]? with
  |some (.map md kt vt es none)=>match rd bs kt x with
   |some key=>if kt=tk.ty/\vt=te.ty/\kt.El=true then
       (bif ok then K (.cons (.AB (ZO (md.own k) vt) vt (Bn kt vt es key)) (.cons (.bool (S5 kt vt es key)) .nil))
        else K (.AB (ZO (md.own k) vt) vt (Bn kt vt es key)))else none
   |none=>none
  |_=>none
 |_=>none
def mj(bs:APH Blk)(tk te:TI)(m x:AV)(K:HO->APJ R):APJ R :=
 match m with
 |.mp k=>match bs[k]? with
  |some (.map .Aw kt (.sl u) es none)=>match rd bs kt x with
   |some key=>if kt=tk.ty/\.sl u=te.ty/\kt.El=true/\u.size≠0 then
       K ⟨.AG bs.length,(Ba [k] bs).set k (.map .Aw kt (.sl u) es (some key))++[.row 0 .Aw u (Bn kt (.sl u) es key)],[k]⟩else none
   |none=>none
  |_=>none
 |_=>none
def b7(bs:APH Blk)(tk te:TI)(m x v:AV)(K:HO->APJ R):APJ R :=
 match m with
 |.mp k=>match bs[k]? with
  |some (.map md kt vt es st)=>match rd bs kt x,take bs md vt v with
   |some key,some (y,m',rs)=>if kt=tk.ty/\vt=te.ty/\kt.El=true/\kO (k::rs) m'/\rs.contains k=false then
       match st with
       |none=>K ⟨.un 0,(Blk.GF (Ba (k::rs) bs) rs).set k (.map m' kt vt (Ch kt vt es key y) none),k::rs⟩
       |some k0=>bif Bd kt k0 key then K ⟨.un 0,(Blk.GF (Ba (k::rs) bs) rs).set k (.map m' kt vt (Ch kt vt es key y) none),k::rs⟩else none
    else none
   |_,_=>none
  |_=>none
 |_=>none
def AaL(bs:APH Blk)(tk te:TI)(m x:AV)(K:HO->APJ R):APJ R :=
 match m with
 |.mp k=>match bs[k]? with
  |some (.map .Aw kt (.sl u) es none)=>match rd bs kt x with
   |some key=>if kt=tk.ty/\Ty.sl u=te.ty/\kt.El=true/\u.size≠0 then
       K ⟨.cons (.AG bs.length) (.cons (.int .i64 (Xc kt (.sl u) es key)) .nil),(Ba [k] bs).set k (.map .Aw kt (.sl u) (Ch kt (.sl u) es key (Bn kt (.sl u) es key)) (some key))++[.row 0 .Aw u (Bn kt (.sl u) es key)],[k]⟩else none
   |none=>none
  |_=>none
 |_=>none
def AaM(bs:APH Blk)(tk te:TI)(m j v:AV)(K:HO->APJ R):APJ R :=
 match m with
 |.mp k=>match bs[k]? with
  |some (.map _ kt vt es (some key))=>match rd bs (.int .i64) j with
   |some n=>if kt=tk.ty/\kt.El=true then(bif VP kt vt es key n then b7 bs tk te m (.AB [] kt key) v K else none)else none
   |none=>none
  |_=>none
 |_=>none
def O9:AV->Nat->APJ AV
 |.cons a _,0=>some a
 |.cons _ b,n+1=>O9 b n
 |_,_=>none
end
def fl(l:APH Nat):APH Nat->APH Nat
 |[]=>l
 |k::r=>if l.contains k then fl l r else fl (l++[k]) r
def mX(bs:APH Blk):Nat->APH Nat->APH Nat
 |0,l=>l
 |f+1,l=>mX bs f (fl l (l.flatMap λk=>match bs[k]? with |some b=>b.Ct |none=>[]))
def idxOf(l:APH Nat)(k:Nat):Nat:=match l with
 |[]=>0
 |x::r=>if x==k then 0 else idxOf r k+1
def AV.Vi(KP:APH Nat):AV->AV
 |.AB ks t x=>.AB (if t.BP then ks else ks++KP) t x
 |.Fv ks t x=>.Fv (ks++KP) t x
 |.pr a b=>.pr (a.Vi KP) (b.Vi KP)
 |.fn g c=>.fn g (c.Vi KP)
 |.cons a b=>.cons (a.Vi KP) (b.Vi KP)
 |a=>a
def RM.Vi(KP:APH Nat):RM->RM
 |.Aw=>.Aw
 |.sh ks=>.sh (ks++KP)
def Blk.Vi(KP:APH Nat):Blk->Blk
 |.box a=>.box (a.Vi KP)
 |.row e m t xs=>.row e (m.Vi KP) t xs
 |.map m kt vt es st=>.map (m.Vi KP) kt vt es st
 |.QU e t xs i p=>.QU e t xs i p
 |.tail e t xs=>.tail e t xs
 |.A9=>.A9
def Aau(bs:APH Blk):PM->AV->APJ (AV×APH Nat)
 |.d t,v=>match rd bs t v with |some x=>some (.AB [] t x,v.Ua bs)|none=>none
 |.p t,.Fv ks u x=>match IU u t x with |some y=>some (.Fv [] t y,ks)|none=>none
 |.p t,.ptr k i p o=>match atP bs k i p o with
  |some a=>match rd bs t a with |some x=>some (.Fv [] t x,k::a.Ua bs)|none=>none
  |none=>none
 |.p _,_=>none
 |.WH,v=>some (v,[])
def Ade:PM->AV->APH Nat
 |.WH,v=>v.Ct
 |_,_=>[]
def lu(bs:APH Blk):APH PM->APH AV->APJ (APH AV×APH Nat×APH Nat)
 |[],[]=>some ([],[],[])
 |m::ms,v::vs=>match Aau bs m v,lu bs ms vs with
  |some (a,l),some (kp,ls,rs)=>some (a::kp,l++ls,Ade m v++rs)
  |_,_=>none
 |_,_=>none
def Xz(n:Nat)(π:APH Nat)(j:Nat):Nat:=match π[j]? with |some k=>k |none=>n+(j-π.length)
def Qf(bs:APH Blk):APH Nat->APH Blk->APH Blk
 |k::ks,b::r=>Qf (bs.set k b) ks r
 |_,_=>bs
section
variable {R:Type}
def XC(c:Callee)(bs:APH Blk)(args:APH AV)(K:HO->APJ R):APJ R :=
 match lu bs c.mA args with
 |none=>none
 |some (kp,KP,Zm) =>
  let π:=mX bs bs.length (fl [] Zm)
  let n:=bs.length
  let Z7:=π.filter λk=>c.Abb.contains (idxOf π k)
  let π1:=π.filter λk=>!Z7.contains k
  if KP.all (λk=>!π.contains k&&decide (k<n))&&nodup π&&Zm.all (λk=>π.contains k)&&π.all (λk=>match bs[k]? with |some b=>b.Ct.all (λj=>π.contains j)&&(Z7.contains k||b.R8.all (λj=>!Z7.contains j))|none=>false)&&(kp.all λa=>a.R8.all λj=>!Z7.contains j)&&(π.isEmpty||!π1.isEmpty)then
   c.run R (kp.map (·.NI (idxOf π))) (π.map λk=>bif Z7.contains k then .A9 else((bs[k]?).getD .A9).NI (idxOf π)) λav E =>
    let f:=Xz n π
    if π.length<=E.length then
     K ⟨(av.NI f).Vi KP,Qf (Ba π1 bs) π (List.zipWith (λk b=>bif Z7.contains k then((Ba π1 bs)[k]?).getD .A9 else(b.NI f).Vi KP) π E)++(E.drop π.length).map (λb=>(b.NI f).Vi KP),π1⟩
    else none
  else none
def AV.Qd:AV->APJ (Nat×Int×APH Nat×Nat)
 |.TA k i p o _=>some (k,i,p,o)
 |.pr a b=>match a.Qd with |some z=>some z |none=>b.Qd
 |_=>none
def AV.ZQ(n:Nat):AV->AV
 |.TA _ _ _ _ _=>.AG n
 |.pr a b=>match a.Qd with |some _=>.pr (a.ZQ n) b |none=>.pr a (b.ZQ n)
 |a=>a
def tQ:Nat->APH AV->APJ (Nat×AV×Nat×Int×APH Nat×Nat)
 |_,[]=>none
 |j,a::r=>match a.Qd with |some (k,i,p,o)=>some (j,a,k,i,p,o)|none=>tQ (j+1) r
def Ty.ACS:Ty->Bool
 |.sl _=>true
 |_=>false
def jk(k:Nat)(i:Int)(p:APH Nat)(e:Nat):(t:Ty)->t.V->Nat->Nat->APJ AV
 |.unit,_,_,_=>some .u
 |.AE a b,x,f,o=>match jk k i p e b x.2 (f+1) (o+a.size)with
  |some r=>if a.ACS then some (.pr (.TA k i (p++[f]) o e) r)else if a.BP then some (.pr (.AB [] a x.1) r)else none
  |none=>none
 |_,_,_,_=>none
def gU(c:Callee)(bs:APH Blk)(args:APH AV)(K:HO->APJ R):APJ R :=
 match tQ 0 args with
 |none=>XC c bs args K
 |some (j,a0,k,i,p,o)=>match bs[k]? with
  |some (.row ek .Aw t xs)=>match tyP t p with
   |some (.sl u)=>match iG (.sl u) p t (xs.getD i.toNat t.zero)with
    |some ys =>
     if Lg t p=some o/\u.size≠0/\((args.set j (a0.ZQ bs.length)).all λa=>!a.Ct.contains k)=true then
      XC c ((Ba [k] bs).set k .A9++[.row 0 .Aw u ys]) (args.set j (a0.ZQ bs.length)) λe =>
       if e.Bz.contains k then none else
       match e.Aj[bs.length]? with
       |some (.row _ .Aw u' zs)=>match IU (.sl u') (.sl u) zs with
        |some zs=>match Ss (.sl u) zs p t (xs.getD i.toNat t.zero)with
         |some x'=>K ⟨e.val.drop (λq=>[k,bs.length].contains q),((Ba [k,bs.length] e.Aj).set bs.length .A9).set k (.row ek .Aw t (xs.set i.toNat x')),e.Bz++[k]⟩
         |none=>none
        |none=>none
       |_=>none
     else none
    |none=>none
   |_=>none
  |_=>none
def yI:AV->APH AV
 |.cons a b=>a::yI b
 |_=>[]
def O2(σ:St)(xs:Array Operand):APH AV:=xs.toList.map σ.Ci
def Yn:APH AV->AV
 |[]=>.nil
 |a::r=>.cons (if a.Dj then .un 0 else a) (Yn r)
def VS(en:Gx)(σ:St)(c:Call)(K:HO->APJ R):APJ R :=
 match c.callee with
 |.builtin .len=>match O2 σ c.args,c.argTypes.toList with
  |[x],t::_=>match en.DU.get t with |some ti=>pM σ.Aj ti x λv=>K ⟨v,σ.Aj,[]⟩|none=>none
  |_,_=>none
 |.builtin .min=>match O2 σ c.args with |[x,y]=>mmA false x y λv=>K ⟨v,σ.Aj,[]⟩|_=>none
 |.builtin .max=>match O2 σ c.args with |[x,y]=>mmA true x y λv=>K ⟨v,σ.Aj,[]⟩|_=>none
 |.builtin .append=>match O2 σ c.args,c.argTypes.toList with
  |[x,y],[t,tx]=>match en.DU.get t,en.DU.get tx with
   |some ti,some dF=>match en.DU.get ti.elem with
    |some te=>if ti.Eh&&(dF.Eh||dF.ty==.str)then Yh en.fi σ.Aj ti.elem te x y K else if ti.Eh&&dF.ty.isInt then Yi en.fi σ.Aj ti.elem te x y K else none
    |none=>none
   |_,_=>none
  |_,_=>none
 |.builtin _=>none
 |.value f=>match σ.Ci f with
  |.fn g Zy=>match en.fns g with
   |some ca=>gU ca σ.Aj (O2 σ c.args++yI Zy) K
   |none=>none
  |_=>none
 |.invoke _ _=>none
def eqS(bs:APH Blk)(DU:yg)(op:BinOp)(t:Nat)(x y:AV):APJ AV:=match DU.get t with
 |some ti=>if ti.eqs=true then(match op with
  |.eql=>match rd bs ti.ty x,rd bs ti.ty y with |some u,some v=>some (.bool (Ns ti.ty u v))|_,_=>none
  |.neq=>match rd bs ti.ty x,rd bs ti.ty y with |some u,some v=>some (.bool (!Ns ti.ty u v))|_,_=>none
  |_=>none)else none
 |none=>none
def AeF(en:Gx)(o:Oper):Bool:=match o.dst with |some d=>en.fi.stl.contains d |none=>false
def ZM(DU:yg)(tk:TI):Bool:=match tk.ty with
 |.AE (.int q) _=>tk.He==2&&(match DU.get tk.elem with |some te=>te.ty==.int q&&tk.ty==.AE (.int q) (.AE (.int q) .unit)|none=>false)
 |_=>true
def QY(en:Gx)(σ:St)(o:Oper)(K:HO->APJ R):APJ R :=
 let ρ:=σ.Ci
 let bs:=σ.Aj
 let pure:=λv=>K ⟨v,bs,[]⟩
 match o.op with
 |.move x=>pure (ρ x)
 |.assign x=>pure (ρ x)
 |.pick c a b=>match ρ c with |.AB _ .bool t=>bif t then pure (ρ a)else pure (ρ b)|_=>none
 |.alloc e=>match en.DU.get e with
  |some ti=>K ⟨.ptr bs.length 0 [] 0,bs++[.box ti.ty.Zq],[]⟩
  |none=>none
 |.box _ x=>if(ρ x).Xg then K ⟨.ptr bs.length 0 [] 0,bs++[.box (ρ x)],[]⟩else none
 |.build t G3=>match en.DU.get t with
  |some ti=>if ti.V8.isEmpty then none else match XB ti ti.ty.Zq (G3.toList.map λp=>(p.1,ρ p.2))with |some v=>pure v |none=>none
  |none=>none
 |.buildSlice t len G3=>match en.DU.get t with
  |some ti=>match en.DU.get ti.elem with
   |some te=>match Vt bs te.ty (en.fi.mode te.ty) (List.replicate len te.ty.zero) [] (G3.toList.map λp=>(p.1,ρ p.2))with
    |some (m,xs,rs)=>if ti.Eh&&te.ty.row&&kO rs m&&nodup rs&&len*te.ty.size<=16777216 then(if len=0 then K ⟨.zs,bs,[]⟩else K ⟨.AG bs.length,Blk.GF (Ba rs bs) rs++[.row ti.elem m te.ty xs],rs⟩)else none
    |none=>none
   |none=>none
  |none=>none
 |.load t x=>match en.DU.get t with
  |some ti=>if AeF en o=true then(if ti.Eh then Z0 bs ti (ρ x) K else none)else Zi bs ti (ρ x) pure
  |none=>none
 |.makeMap t r=>match en.DU.get t with
  |some ti=>if r.isSome then none else match en.DU.get ti.N5,en.DU.get ti.elem with
   |some tk,some te=>if ti.N5≠0/\tk.ty.El=true/\te.ty.data=true then K ⟨.mp bs.length,bs++[.map (en.fi.mode te.ty) tk.ty te.ty [] none],[]⟩else none
   |_,_=>none
  |none=>none
 |.lookup t m x ok=>match en.DU.get t with
  |some ti=>match en.DU.get ti.N5,en.DU.get ti.elem with
   |some tk,some te=>if ti.N5≠0/\te.ty.data=true/\ZM en.DU tk=true then
       (if AeF en o=true then(if ok then none else mj bs tk te (ρ m) (ρ x) K)else ei bs tk te ok (ρ m) (ρ x) pure)else none
   |_,_=>none
  |none=>none
 |.mapUpdate t m x v=>match en.DU.get t with
  |some ti=>match en.DU.get ti.N5,en.DU.get ti.elem with
   |some tk,some te=>if ti.N5≠0/\te.ty.data=true/\ZM en.DU tk=true then b7 bs tk te (ρ m) (ρ x) (ρ v) K else none
   |_,_=>none
  |none=>none
 |.insert t m x v=>match en.DU.get t with
  |some ti=>match en.DU.get ti.N5,en.DU.get ti.elem with
   |some tk,some te=>if ti.N5≠0/\te.ty.data=true/\ZM en.DU tk=true then b7 bs tk te (ρ m) (ρ x) (ρ v) K else none
   |_,_=>none
  |none=>none
 |.mapEntry t m x=>match en.DU.get t with
  |some ti=>match en.DU.get ti.N5,en.DU.get ti.elem with
   |some tk,some te=>if ti.N5≠0/\ZM en.DU tk=true then AaL bs tk te (ρ m) (ρ x) K else none
   |_,_=>none
  |none=>none
 |.entryStore t m j v=>match en.DU.get t with
  |some ti=>match en.DU.get ti.N5,en.DU.get ti.elem with
   |some tk,some te=>if ti.N5≠0/\ZM en.DU tk=true then AaM bs tk te (ρ m) (ρ j) (ρ v) K else none
   |_,_=>none
  |none=>none
 |.store t x v=>match en.DU.get t with |some ti=>dA bs ti (ρ x) (ρ v) K |none=>none
 |.nilCheck x=>match ρ x with
  |.ptr k i p q=>pure (.ptr k i p q)
  |.Fv ks t y=>pure (.Fv ks t y)
  |_=>none
 |.binOp op t x y _=>match eqS bs en.DU op t (ρ x) (ρ y)with |some z=>pure z |none=>od op (match en.DU.get t with |some ti=>ti.ty==.bool |none=>false) (ρ x) (ρ y) pure
 |.unOp op _ x=>unA op (ρ x) pure
 |.convert s t x=>match en.DU.get s,en.DU.get t with
  |some ts,some ti=>aE bs (match en.DU.get ts.elem with |some te=>if ts.Eh then some te.ty else none |none=>none) ti.ty (ρ x) pure
  |_,_=>none
 |.makeFunc fn first Zy=>match fn with |.func f=>if first.size=0 then pure (.fn f (Yn (Zy.toList.map ρ)))else none |_=>none
 |.makeSlice t l c=>match en.DU.get t with
  |some ti=>match en.DU.get ti.elem with
   |some te=>if ti.Eh then mn en.fi bs ti.elem te (ρ l) (ρ c) K else none
   |none=>none
  |none=>none
 |.slice t x lo hi mx=>match o.dst,en.DU.get t with
  |some d,some ti =>
   if en.fi.take.contains d then(match lo,mx with
    |none,none=>if ti.Eh then(match en.DU.get ti.elem with |some te=>AaG te.ty bs (ρ x) (hi.map ρ) K |none=>none)else none
    |_,_=>none)
   else WI bs ti (match en.DU.get ti.elem with |some te=>if ti.Eh then some te.ty else none |none=>none) (ρ x) (lo.map ρ) (hi.map ρ) (mx.map ρ) pure
  |_,_=>none
 |.fieldAddr t x f=>match en.DU.get t with |some ti=>ky ti f (ρ x) pure |none=>none
 |.indexAddr t x i=>match en.DU.get t with
  |some ti=>match en.DU.get ti.elem with
   |some te=>if ti.Eh then tg bs te.ty (ρ x) (ρ i) pure else none
   |none=>none
  |none=>none
 |.index t x i=>match en.DU.get t with |some ti=>if ti.ty=.str then ov (ρ x) (ρ i) pure else none |none=>none
 |.extract x i=>match O9 (ρ x) i with |some v=>if v.Dj then none else pure v |none=>none
 |.call c=>VS en σ c K
 |_=>none
def N3.{u}{A:Type u}:APH (Nat×A)->Nat->APJ A
 |[],_=>none
 |(k,l)::r,n=>if k==n then some l else N3 r n
def ArR(n:Nat)(t:Ty)(e:HO):APJ HO:=match rd e.Aj t e.val with
 |some x=>if e.Aj.all (λb=>!b.cT)then some ⟨.AB ((e.val.Ua e.Aj).filter λk=>decide (k<n)) t x,Blk.GF e.Aj ((e.val.Ua e.Aj).filter λk=>!decide (k<n)),e.Bz⟩else none
 |none=>none
def Agx(n:Nat)(e:HO):APJ HO:=match e.val with
 |.AG k=>if n<=k then match e.Aj[k]? with
  |some (.row el .Aw t xs)=>some ⟨.AG k,e.Aj.set k (bif t.BP then .tail el t xs else .row el (.sh []) t xs),e.Bz⟩
  |_=>none
  else none
 |_=>none
def ix(en:Gx)(o:Oper):Bool:=match o.dst with |some d=>en.fi.AC6.contains d |none=>false
def AE9(en:Gx)(o:Oper):APJ Ty:=match o.dst with |some d=>N3 en.fi.cQ d |none=>none
def rz(u:Ty):Nat->Ty
 |0=>.unit
 |n+1=>.AE u (rz u n)
def TI.plc(ti te:TI):TI:=⟨ti.ty,(List.range ti.He).map (·*te.ty.size),ti.elem,ti.bytes,ti.He,ti.N5,ti.eqs⟩
def gE(en:Gx)(σ:St)(o:Oper):APJ AV:=match o.op with
 |.load t x=>match o.dst with
  |none=>none
  |some d=>match N3 en.fi.Af4 d,en.DU.get t,σ.Ci x with
   |some e,some ti,.ptr k i p f=>match σ.Aj[k]?,atP σ.Aj k i p f with
    |some (.row _ .Aw _ _),some v=>if ti.Eh=true/\v.size=1 then some (.TA k i p f e)else(match v with
     |.AB _ t x=>if t=ti.ty then jk k i p e t x 0 f else none
     |_=>none)
    |_,_=>none
   |_,_,_=>none
 |.build t G3=>match en.DU.get t with
  |some ti=>if ti.He=0 then none else match en.DU.get ti.elem with
   |some te=>if ti.ty=rz te.ty ti.He then XB (ti.plc te) ti.ty.Zq (G3.toList.map λp=>(p.1,σ.Ci p.2))else none
   |none=>none
  |none=>none
 |.index t x i=>match en.DU.get t with
  |some ti=>if ti.He=0 then none else match en.DU.get ti.elem with
   |some te=>match σ.Ci i,σ.Ci x with
    |.AB _ (.int _) j,a=>if 0<=j/\j<(ti.He:Int)/\a.off j.toNat=some (j.toNat*te.ty.size)/\a.isAgg=true/\a.Dj=false then match a.Z6 j.toNat with
     |some v=>if v.size=te.ty.size/\v.isAgg=te.ty.isAgg then some v else none
     |none=>none
     else none
    |_,_=>none
   |none=>none
  |none=>none
 |.field t x f=>match en.DU.get t with
  |some ti=>match ti.V8[f]?,lb ti.ty f,(σ.Ci x).Z6 f with
   |some fo,some u,some v=>if(σ.Ci x).off f=some fo/\(σ.Ci x).isAgg=true/\(σ.Ci x).Dj=false/\v.size=u.size/\v.isAgg=u.isAgg then some v else none
   |_,_,_=>none
  |none=>none
 |.call c=>match c.callee,O2 σ c.args,c.argTypes.toList with
  |.builtin .cap,[.zs],t::_=>match en.DU.get t with |some ti=>if ti.Eh=true then some (.int .i64 0)else none |none=>none
  |_,_,_=>none
 |.indexAddr t x i=>match en.DU.get t with
  |some ti=>if ti.He=0 then none else match en.DU.get ti.elem with
   |some te=>match σ.Ci i with
    |.AB _ (.int _) j=>if 0<=j/\j<(ti.He:Int)then match σ.Ci x with
     |.ptr k q p f=>some (.ptr k q (p++[j.toNat]) (f+j.toNat*te.ty.size))
     |.Fv ks t' y=>if Ug t' j.toNat=some (j.toNat*te.ty.size)then match Xl ks t' y j.toNat with |some (.AB _ u z)=>some (.Fv ks u z)|_=>none else none
     |_=>none
     else none
    |_=>none
   |none=>none
  |none=>none
 |_=>none
def coV(bs:APH Blk):Co->AV->APJ (AV×APH Blk)
 |.row p e t Aw,a=>match a.Vj p with
  |some .zs=>if t.row then match a.ZX p (.AG bs.length)with |some a'=>some (a',[.row e (if t.BP||Aw then .Aw else .sh []) t []])|none=>none else none
  |_=>some (a,[])
 |.AB t,a=>match rd bs t a with |some x=>some (.AB (a.Ua bs) t x,[])|none=>none
 |.fb ks,a=>match a with
  |.AB l t x=>if(t.BP||l.all λk=>ks.contains k)&&ks.all (λk=>decide (k<bs.length))then some (.AB ks t x,[])else none
  |_=>none
def coB(k:Nat)(c:Co)(bs:APH Blk):APJ (APH Blk):=match bs[k]? with
 |some (.box a)=>match coV bs c a with |some (a',nb)=>some (bs.set k (.box a')++nb)|none=>none
 |_=>none
def oP:APH (Nat×Co)->APH Blk->APJ (APH Blk)
 |[],bs=>some bs
 |(k,c)::r,bs=>match coB k c bs with |some Ga=>oP r Ga |none=>none
def Ale(bs:APH Blk):Nat->APH (APH Nat)->APJ Nat
 |k,[]=>some k
 |k,q::r=>match bs[k]? with
  |some (.box a)=>match a.Vj q with |some (.ptr k' _ _ _)=>Ale bs k' r |_=>none
  |_=>none
def preB:APH (Nat×APH (APH Nat)×Co)->APH AV->APH Blk->APJ (APH Blk)
 |[],_,bs=>some bs
 |(j,q,c)::r,args,bs=>match args[j]? with
  |some (.ptr k _ _ _)=>match Ale bs k q with
   |some k'=>match coB k' c bs with |some Ga=>preB r args Ga |none=>none
   |none=>none
  |_=>none
def xK(bs:APH Blk)(ti:TI)(k:Nat)(i:Int)(p:APH Nat)(o:Nat)(j:Int)(u:Ty)(v:AV):APJ HO:=match bs[k]? with
 |some (.row ek .Aw t xs)=>match iG (.sl u) p t (xs.getD i.toNat t.zero)with
  |some ys=>match take ((Ba [k] bs).set k .A9++[.row 0 .Aw u ys]) .Aw ti.ty v with
   |some (y,.Aw,[])=>match Ss ti.ty y [] u (ys.getD j.toNat u.zero)with
    |some y'=>match Ss (.sl u) (ys.set j.toNat y') p t (xs.getD i.toNat t.zero)with
     |some x'=>if tyP t p=some (.sl u)/\Lg t p=some o/\u.size≠0/\tyP u []=some ti.ty/\Lg u []=some 0/\v.Ct.contains k=false then
         some ⟨.un 0,((Ba [k,bs.length] ((Blk.GF (Ba [bs.length] ((Ba [k] bs).set k .A9++[.row 0 .Aw u ys])) []).set bs.length (.row 0 .Aw u (ys.set j.toNat y')))).set bs.length .A9).set k (.row ek .Aw t (xs.set i.toNat x')),[bs.length]++[k]⟩
      else none
     |none=>none
    |none=>none
   |_=>none
  |none=>none
 |_=>none
def Abr(en:Gx)(σ:St)(o:Oper):APJ HO:=match o.op with
 |.store t x v=>match en.DU.get t,σ.Ci x with
  |some ti,.Vs k i p f j u=>xK σ.Aj ti k i p f j u (σ.Ci v)
  |_,_=>none
 |_=>none
def ug(en:Gx)(σ:St)(o:Oper):APJ HO:=Abr en σ o
def tlE(en:Gx)(σ:St)(o:Oper):APJ (Bool×HO):=match o.op with
 |.slice t x (some lo) none none=>match en.DU.get t,σ.Ci x,σ.Ci lo with
  |some ti,.AG k,.AB _ (.int _) l=>match σ.Aj[k]?,en.DU.get ti.elem with
   |some (.tail e u xs),some te=>if ti.Eh=true/\u=te.ty then some (decide (0<=l)&&decide (l<=(xs.length:Int)),⟨.AG σ.Aj.length,Blk.GF (Ba [k] σ.Aj) [k]++[.tail e u (xs.drop l.toNat)],[k]⟩)else none
   |_,_=>none
  |_,_,_=>none
 |.indexAddr t x i=>match en.DU.get t,σ.Ci x,σ.Ci i with
  |some ti,.AG k,.AB _ (.int _) l=>match σ.Aj[k]?,en.DU.get ti.elem with
   |some (.tail _ u xs),some te=>if ti.Eh=true/\u=te.ty then some (decide (0<=l)&&decide (l<(xs.length:Int)),⟨.Fv [k] u (xs.getD l.toNat u.zero),σ.Aj,[]⟩)else none
   |_,_=>none
  |_,_,_=>none
 |.call c=>match c.callee,O2 σ c.args,c.argTypes.toList with
  |.builtin .len,[.AG k],[t]=>match σ.Aj[k]?,en.DU.get t with
   |some (.tail _ _ xs),some ti=>if ti.Eh=true then some (true,⟨.int .i64 (xs.length:Int),σ.Aj,[]⟩)else none
   |_,_=>none
  |.builtin .append,[.AG k,y],[t,tx]=>match σ.Aj[k]?,en.DU.get t,en.DU.get tx with
   |some (.tail e u xs),some ti,some dF=>match en.DU.get ti.elem with
    |some te=>match IU (.sl u) (.sl te.ty) xs,qs σ.Aj te.ty y with
     |some xs,some (ys,_,rs)=>if ti.Eh=true/\dF.Eh=true/\te.ty.row=true/\te.bytes≠0/\(e=ti.elem\/e=0)/\rs.contains k=false then
         some (decide ((xs.length+ys.length)*te.bytes<=140737488355328),⟨.AG σ.Aj.length,Blk.GF (Ba (k::rs) σ.Aj) (k::rs)++[.tail e te.ty (xs++ys)],k::rs⟩)else none
     |_,_=>none
    |none=>none
   |_,_,_=>none
  |_,_,_=>none
 |_=>none
def UQ(en:Gx)(σ:St)(o:Oper)(K:HO->APJ R):APJ R:=match gE en σ o with
 |some v=>K ⟨v,σ.Aj,[]⟩
 |none=>match ug en σ o with
 |some e=>K e
 |none=>match tlE en σ o with
 |some (c,e)=>bif c then K e else none
 |none=>match AE9 en o with
 |none=>bif ix en o then QY en σ o λe=>match Agx σ.Aj.length e with |some e'=>K e' |none=>none else QY en σ o K
 |some t=>QY en σ o λe=>match ArR σ.Aj.length t e with |some e'=>K e' |none=>none
def exec(en:Gx)(σ:St)(o:Oper)(K:HO->APJ R):APJ R:=match o.op,o.dst with
 |.call c,some d=>match N3 en.fi.AE7 d with
  |some l=>match preB l (O2 σ c.args) σ.Aj with
   |some bs=>UQ en ⟨σ.AO,bs⟩ o λe=>if e.Bz.isEmpty then none else K e
   |none=>none
  |none=>UQ en σ o K
 |_,_=>UQ en σ o K
def Wt(all:APH Oper)(σ:St)(o:Oper)(Kt Kf:St->APJ R):APJ R :=
 match o.guard with
 |none=>Kt σ
 |some (g,fy) =>
  match (all[g]?).bind (·.dst)with
  |none=>none
  |some d=>match σ.AO[d]? with
   |some (.AB [] .bool b) =>
    bif b then
     (if fy then Kt {σ with AO:=σ.AO.set d (.bool true)}else Kf {σ with AO:=σ.AO.set d (.bool true)})
    else
     (if fy then Kf {σ with AO:=σ.AO.set d (.bool false)}else Kt {σ with AO:=σ.AO.set d (.bool false)})
   |some .nil=>Kf σ
   |_=>none
def St.skip(σ:St)(d:APJ Nat):St:={σ with AO:=Y3 d .nil σ.AO}
def QX(en:Gx)(all:APH Oper):APH Nat->St->(St->APJ R)->APJ R
 |[],σ,K=>K σ
 |i::is,σ,K =>
  match all[i]? with
  |none=>none
  |some o=>Wt all σ o (λσ=>exec en σ o λe=>QX en all is (σ.after o.dst e) K) (λσ=>QX en all is (σ.skip o.dst) K)
def Eb:APH (Nat×APH Nat)->Nat->APH Nat
 |[],_=>[]
 |(k,l)::r,i=>if k==i then l else Eb r i
def TU(all:APH Oper)(i:Nat):APH Nat:=match all[i]? with
 |some o=>o.after.toList.filterMap λe=>if Region.binds .any e then some e.on else none
 |none=>[]
def Xx(all:APH Oper):APH Nat->APH (Nat×APH Nat)->APH (Nat×APH Nat)
 |[],A=>A
 |i::is,A=>Xx all is ((i,fl [] (TU all i++(TU all i).flatMap (Eb A)))::A)
def bD(all:APH Oper)(A:APH (Nat×APH Nat)):APH Nat->Bool
 |[]=>true
 |i::is=>is.all (λj=>(Eb A j).contains i||match all[i]?,all[j]? with |some x,some y=>x.apart all.toArray y |_,_=>false)&&bD all A is
def TW(en:Gx)(all:APH Oper)(A:APH (Nat×APH Nat)):APH Nat->APH Nat->APH Nat->St->(St->APJ R)->APJ R
 |[],_,_,σ,K=>K σ
 |i::is,done,NL,σ,K =>
  match all[i]? with
  |none=>none
  |some o=>if NL.all (λx=>(Eb A i).contains x)then
      Wt all σ o (λσ=>exec en σ o λe =>
       if e.Bz.isEmpty then TW en all A is (i::done) (if e.Aj.length=σ.Aj.length then NL else i::NL) (σ.after o.dst e) K
       else if done.all (λx=>(Eb A i).contains x)then TW en all A is (i::done) (i::NL) (σ.after o.dst e) K else none)
      (λσ=>TW en all A is (i::done) NL (σ.skip o.dst) K)
   else none
inductive Ex where
 |normal |exit (n:Nat)|ret
inductive To {S T:Type} (f:S->Option (S⊕T)):S->T->Prop
 |done {s:S} {t:T} (h:f s=some (.inr t)):To f s t
 |dk {s s':S} {t:T} (h:f s=some (.inl s')) (k:To f s' t):To f s t
open Classical in
noncomputable def fix{S T:Type}(f:S->APJ (S⊕T))(s:S):APJ T:=if h:∃t,To f s t then some h.choose else none
def key:Code->Nat
 |.region i _ _=>i
 |.seq a _=>key a
 |.block _ a=>key a
 |.loop a=>key a
 |.cond _ a _=>key a
 |_=>0
def Q2(Bb:APH Nat):Nat->APH AV->APH AV
 |_,[]=>[]
 |i,a::r=>(if Bb.contains i then a else .un 0)::Q2 Bb (i+1) r
def coS(σ:St)(s:Nat)(box:Bool)(c:Co):APJ St :=
 match σ.AO[s]? with
 |none=>none
 |some v=>bif box then
     (match v with
      |.ptr k _ _ _=>match σ.Aj[k]? with
       |some (.box a)=>match coV σ.Aj c a with |some (a',nb)=>some ⟨σ.AO,σ.Aj.set k (.box a')++nb⟩|none=>none
       |_=>none
      |_=>none)
  else match coV σ.Aj c v with |some (v',nb)=>some ⟨σ.AO.set s v',σ.Aj++nb⟩|none=>none
def aB:APH (Nat×Bool×Co)->St->APJ St
 |[],σ=>some σ
 |(s,b,c)::r,σ=>match coS σ s b c with |some σ'=>aB r σ' |none=>none
def AeV(m:Nat)(t:Ty)(v:AV)(bs:APH Blk):APJ (AV×APH Blk):=match rd bs t v with
 |some x=>some (.AB ((v.Ua bs).filter λk=>decide (k<m)) t x,(Blk.GF bs ((v.Ua bs).filter λk=>!decide (k<m))).map Blk.ae)
 |none=>none
def oV(m:Nat):APH (Nat×Bool×Ty)->St->APJ St
 |[],σ=>some σ
 |(s,false,t)::r,σ=>match σ.AO[s]? with
  |some (.un _)=>oV m r σ
  |some v=>match AeV m t v σ.Aj with
   |some (v',bs)=>oV m r ⟨(σ.AO.map AV.ae).set s v',bs⟩
   |none=>none
  |none=>none
 |(s,true,t)::r,σ=>match σ.AO[s]? with
  |some (.ptr k _ _ _)=>match σ.Aj[k]? with
   |some (.box a)=>match AeV m t a σ.Aj with
    |some (a',bs)=>match bs[k]? with
     |some (.box _)=>oV m r ⟨σ.AO.map AV.ae,bs.set k (.box a')⟩
     |_=>none
    |none=>none
   |_=>none
  |_=>oV m r σ
def mvS(m:Nat):APH Nat->St->APJ St
 |[],σ=>some σ
 |s::r,σ=>match σ.AO[s]? with
  |some (.AG k)=>if k<m then match σ.Aj[k]? with
      |some (.row e md t xs)=>if md.Ct.contains k then none else mvS m r ⟨(TV [k] σ.AO).set s (.AG σ.Aj.length),Blk.GF (Ba [k] σ.Aj) [k]++[.row e md t xs]⟩
      |_=>none
   else mvS m r σ
  |_=>mvS m r σ
def mvB(m k:Nat)(p:APH Nat)(σ:St):APJ St:=match σ.Aj[k]? with
 |some (.box a)=>match a.Vj p with
  |some (.AG j)=>if j<m then match σ.Aj[j]? with
      |some (.row e md t xs)=>if md.Ct.contains j then none else match (a.drop λq=>[j].contains q).Vj p,(a.drop λq=>[j].contains q).ZX p (.AG σ.Aj.length)with
       |some (.AG j'),some a2=>if j'=j/\k≠j then some ⟨TV [j] σ.AO,(Blk.GF (Ba [j] σ.Aj) [j]++[Blk.row e md t xs]).set k (Blk.box a2)⟩else none
       |_,_=>none
      |_=>none
   else some σ
  |_=>none
 |_=>none
def mvV(m s:Nat)(p:APH Nat)(a:AV)(σ:St):APJ St:=match a.Vj p with
 |some (.AG j)=>if j<m then match σ.Aj[j]? with
     |some (.row e md t xs)=>if md.Ct.contains j then none else match (a.drop λq=>[j].contains q).Vj p,(a.drop λq=>[j].contains q).ZX p (.AG σ.Aj.length)with
      |some (.AG j'),some a2=>if j'=j then some ⟨(TV [j] σ.AO).set s a2,Blk.GF (Ba [j] σ.Aj) [j]++[Blk.row e md t xs]⟩else none
      |_,_=>none
     |_=>none
  else some σ
 |_=>none
def mvP(m s:Nat)(p:APH Nat)(σ:St):APJ St:=match σ.AO[s]? with
 |some (.ptr k _ _ _)=>mvB m k p σ
 |some a=>mvV m s p a σ
 |none=>none
def Af1(m:Nat):APH (Nat×APH Nat)->St->APJ St
 |[],σ=>some σ
 |(s,p)::r,σ=>match mvP m s p σ with |some σ'=>Af1 m r σ' |none=>none
def AV.wid(ks:APH Nat):AV->AV
 |.AB l t x=>if t.BP=false/\l.all (λj=>ks.contains j)=true then .AB ks t x else .AB l t x
 |.pr a b=>.pr (a.wid ks) (b.wid ks)
 |a=>a
def qE:APH (Nat×APH Nat)->APH Blk->APJ (APH Blk)
 |[],bs=>some bs
 |(k,ks)::r,bs=>match bs[k]? with
  |some (.row e (.sh l) t xs)=>if l.all (λj=>ks.contains j)&&ks.all (λj=>decide (j<bs.length))then qE r (bs.set k (.row e (.sh ks) t xs))else none
  |some (.box a)=>if ks.all (λj=>decide (j<bs.length))then qE r (bs.set k (.box (a.wid ks)))else none
  |_=>none
def Abu(bs:APH Blk)(m:Nat)(π Ct:APH Nat):Bool :=
 π.take m==List.range m&&nodup π&&Ct.all (λj=>π.contains j)&&π.all λk=>match bs[k]? with |some b=>b.Ct.all λj=>π.contains j |none=>false
def St.Ax(m:Nat)(Bb:APH Nat)(σ:St):APJ St :=
 let sl:=Q2 Bb 0 σ.AO
 let π:=mX σ.Aj σ.Aj.length (fl (List.range m) (sl.flatMap (·.Ct)))
 if Abu σ.Aj m π (sl.flatMap (·.Ct))then
  some {AO:=sl.map (λa=>(a.NI (idxOf π)).Ec π.length),Aj:=π.map λk=>(((σ.Aj[k]?).getD .A9).NI (idxOf π)).Ec π.length}
 else none
def turns(en:Gx)(o:Oper):Bool:=match o.op with
 |.alloc _=>true
 |.box _ _=>true
 |.buildSlice _ _ _=>true
 |.store _ _ _=>true
 |.makeSlice _ _ _=>true
 |.makeMap _ _=>true
 |.mapUpdate _ _ _ _=>true
 |.insert _ _ _ _=>true
 |.mapEntry _ _ _=>true
 |.entryStore _ _ _ _=>true
 |.load _ _=>match o.dst with |some d=>en.fi.stl.contains d |none=>false
 |.lookup _ _ _ _=>match o.dst with |some d=>en.fi.stl.contains d |none=>false
 |.slice _ _ _ _ _=>match o.dst with |some d=>en.fi.take.contains d |none=>false
 |.call c=>match c.callee with |.builtin .append=>true |.builtin _=>false |_=>true
 |_=>false
def Aju(all:APH Oper)(done:APH Nat)(i:Nat):Bool:=(TU all i).all λx=>done.contains x
def WE(en:Gx)(all:APH Oper):Nat->APH Nat->APH Nat
 |0,done=>done.reverse
 |f+1,done =>
  let rdy:=(List.range all.length).filter λi=>!done.contains i&&Aju all done i
  match rdy.find? (λi=>match all[i]? with |some o=>!turns en o |none=>false)with
  |some i=>WE en all f (i::done)
  |none=>match rdy with
   |i::_=>WE en all f (i::done)
   |[]=>done.reverse
def jQ(all:APH Oper):APH Nat->APH Nat->Bool
 |[],_=>true
 |i::is,done=>(TU all i).all (λd=>done.contains d)&&jQ all is (i::done)
def Adb(all:APH Oper)(L:APH Nat):Bool:=nodup L&&(List.range all.length).all (λi=>L.contains i)&&L.all (λi=>decide (i<all.length))&&bD all (Xx all L []) L&&jQ all L []
end
def St.head(h:SH)(m:Nat)(σ:St):APJ St :=
 match ((mvS m h.mv σ).bind (Af1 m h.mvp)).bind (oV m h.RF)with
 |none=>none
 |some σ=>match aB h.Cg σ with
  |none=>none
  |some σ=>match σ.Ax m h.Bb with
   |none=>none
   |some σ=>match qE h.wid σ.Aj with
    |none=>none
    |some bs=>aB h.post ⟨σ.AO,bs⟩
def Ajv(m:Nat)(σ:St):APJ (APH Nat)->APJ St
 |none=>some σ
 |some l=>σ.head {Bb:=l} m
open Classical in
noncomputable def kx(s t:St):APJ Unit:=if s=t then some ()else none
def zB(o:Oper):Bool:=match o.op with
 |.move _=>true
 |.assign _=>true
 |.extract _ _=>true
 |.fieldAddr _ _ _=>true
 |.indexAddr _ _ _=>true
 |.build _ _=>true
 |_=>false
def AC4(B9:Array Oper)(listed:Array Bool):APJ Nat:=(Region.ready .any B9 listed).find? λi=>(match B9[i]? with |some o=>zB o |none=>false)&&Region.free .any B9 listed i
def su:APH (APJ Unit)->APJ Unit
 |[]=>some ()
 |[x]=>x
 |x::y::r=>x.bind λ_=>su (y::r)
noncomputable def Aat(en:Gx)(h:SH)(m:Nat)(B9:Array Oper)(σ':St):Nat->Array Bool->St->APJ Unit
 |0,listed,σ=>if(Region.ready .any B9 listed).isEmpty then match σ.head h m with |some s=>kx s σ' |none=>none else none
 |k+1,listed,σ=>match AC4 B9 listed with
  |some i=>QX en B9.toList [i] σ λσ1=>Aat en h m B9 σ' k (listed.setIfInBounds i true) σ1
  |none=>if(Region.ready .any B9 listed).isEmpty then none else
  su ((Region.ready .any B9 listed).map λi=>QX en B9.toList [i] σ λσ1=>Aat en h m B9 σ' k (listed.setIfInBounds i true) σ1)
def xn(RE:APH Blk)(σ:St)(o:Oper):Bool:=zB o||match o.op with
 |.load _ x=>(match σ.Ci x with |.ptr k _ _ _=>(match RE[k]?,σ.Aj[k]? with |some (.box _),some (.box _)=>true |_,_=>false)|_=>false)
 |.call c=>(match c.callee,O2 σ c.args with |.builtin .len,[.AB _ (.sl _) _]=>true |.builtin .len,[.zs]=>true |_,_=>false)
 |.binOp op _ x y _=>(match op with |.add=>true |.sub=>true |_=>false)&&(match σ.Ci x,σ.Ci y with |.AB _ (.int k) _,.AB _ (.int k') _=>decide (k=k')|_,_=>false)
 |_=>false
def AC3(RE:APH Blk)(σ:St)(B9:Array Oper)(listed:Array Bool):APJ Nat:=(Region.ready .any B9 listed).find? λi=>(match B9[i]? with |some o=>xn RE σ o |none=>false)&&Region.free .any B9 listed i
def nbx(RE:APH Blk)(k:Nat):Bool:=match RE[k]? with |some (.box _)=>false |_=>true
def evQ{R:Type}(en:Gx)(all:APH Oper)(RE:APH Blk)(i:Nat)(σ:St)(K:St->APJ R):APJ R:=match all[i]? with
 |none=>none
 |some o=>Wt all σ o (λσ=>exec en σ o λe=>if e.Bz.all (nbx RE)then K (σ.after o.dst e)else none) (λσ=>K (σ.skip o.dst))
noncomputable def wi(en:Gx)(h:SH)(m:Nat)(RE:APH Blk)(B9:Array Oper)(σ':St):Nat->Array Bool->St->APJ Unit
 |0,listed,σ=>if(Region.ready .any B9 listed).isEmpty then match σ.head h m with |some s=>kx s σ' |none=>none else none
 |k+1,listed,σ=>match AC3 RE σ B9 listed with
  |some i=>evQ en B9.toList RE i σ λσ1=>wi en h m RE B9 σ' k (listed.setIfInBounds i true) σ1
  |none=>if(Region.ready .any B9 listed).isEmpty then none else
  su ((Region.ready .any B9 listed).map λi=>evQ en B9.toList RE i σ λσ1=>wi en h m RE B9 σ' k (listed.setIfInBounds i true) σ1)
noncomputable def Akj(en:Gx)(m:Nat)(h:SH)(B9:Array Oper)(σ:St):APJ St :=
 if Region.noSelect B9=false then none else QX en B9.toList (List.range B9.size) σ λs=>(s.head h m).bind λσ'=>(bif h.X3 then wi en h m σ.Aj B9 σ' B9.size (Array.replicate B9.size false) σ else Aat en h m B9 σ' B9.size (Array.replicate B9.size false) σ).bind λ_=>some σ'
noncomputable def ev(en:Gx)(m:Nat):Code->(R:Type)->St->(Ex->St->APJ R)->APJ R
 |.skip,_,σ,K=>K .normal σ
 |.ret,_,σ,K=>K .ret σ
 |.exit n,_,σ,K=>K (.exit n) σ
 |.seq a b,R,σ,K=>match N3 en.fi.BS (key b)with
  |none=>ev en m a R σ λe σ=>match e with
   |.normal=>ev en m b R σ K
   |.exit n=>K (.exit n) σ
   |.ret=>K .ret σ
  |some h=>(Ajv m σ (N3 en.fi.DD (key b))).bind λσ=>(ev en m a (Ex×St) σ λe σ=>(σ.head h m).bind λσ'=>some (e,σ')).bind λp=>match p.1 with
   |.normal=>ev en m b R p.2 K
   |.exit n=>K (.exit n) p.2
   |.ret=>K .ret p.2
 |.cond c a b,R,σ,K=>match σ.Ci c with |.AB _ .bool t=>bif t then ev en m a R σ K else ev en m b R σ K |_=>none
 |.block n a,R,σ,K=>ev en m a R σ λe σ=>match e with
  |.normal=>K .normal σ
  |.exit k=>bif k==n then K .normal σ else K (.exit k) σ
  |.ret=>K .ret σ
 |.region _ B9 false,_,σ,K=>QX en B9.toList (List.range B9.size) σ (K .normal)
 |.region id B9 true,_,σ,K=>match N3 en.fi.aJ id with
  |some h=>(Ajv m σ (N3 en.fi.dL id)).bind λσ=>(Akj en m h B9 σ).bind (K .normal)
  |none=>if Adb B9.toList (WE en B9.toList B9.toList.length [])then TW en B9.toList (Xx B9.toList (WE en B9.toList B9.toList.length []) []) (WE en B9.toList B9.toList.length []) [] [] σ (K .normal)else none
 |.loop body,R,σ,K=>match N3 en.fi.A8 (key body),N3 en.fi.BW (key body)with
  |some h,some ho=>match σ.head h m with
   |none=>none
   |some σ0=>(fix (λs=>ev en m body (St⊕(Ex×St)) s λe s'=>match e with
       |.normal=>(s'.head h m).bind λYJ=>some (.inl YJ)
       |.exit n=>(s'.head ho m).bind λYJ=>some (.inr (.exit n,YJ))
       |.ret=>(s'.head ho m).bind λYJ=>some (.inr (.ret,YJ))) σ0).bind λp=>K p.1 p.2
  |_,_=>none
 |_,_,_,_=>none
def ft(DU:yg)(σ:St):APH ResultVar->APJ (APH AV)
 |[]=>some []
 |.tmp t::r=>match σ.AO[t]?,ft DU σ r with |some v,some l=>some (v::l)|_,_=>none
 |.cell a t::r=>match DU.get t,σ.AO[a]? with
  |some ti,some (.ptr k i p o)=>match atP σ.Aj k i p o,ft DU σ r with
   |some v,some l=>if v.size=ti.ty.size/\v.isAgg=ti.ty.isAgg then some (v::l)else none
   |_,_=>none
  |_,_=>none
def uc:APH AV->AV
 |[a]=>a
 |l=>Yn l
def aC:APH (Nat×Co)->APH AV->APH Blk->APJ (APH AV×APH Blk)
 |[],l,bs=>some (l,bs)
 |(i,c)::r,l,bs=>match l[i]? with
  |none=>none
  |some v=>match coV bs c v with |some (v',nb)=>aC r (l.set i v') (bs++nb)|none=>none
def oU(m:Nat):APH (Nat×Ty)->APH AV->APH Blk->APJ (APH AV×APH Blk)
 |[],l,bs=>some (l,bs)
 |(i,t)::r,l,bs=>match l[i]? with
  |none=>none
  |some v=>match AeV m t v bs with |some (v',Ga)=>oU m r ((l.map AV.ae).set i v') Ga |none=>none
def jc(m:Nat)(bs:APH Blk)(v:AV):APJ (AV×APH Blk) :=
 let π:=mX bs bs.length (fl (List.range m) v.Ct)
 if Abu bs m π v.Ct then some ((v.NI (idxOf π)).Ec π.length,π.map λk=>(((bs[k]?).getD .A9).NI (idxOf π)).Ec π.length)else none
def YZ(m:Nat):APH Fi->St->APJ St
 |[],σ=>some σ
 |.co k c::r,σ=>match coB k c σ.Aj with |some bs=>YZ m r ⟨σ.AO,bs⟩|none=>none
 |.A9 j::r,σ=>YZ m r ⟨σ.AO,σ.Aj.set j .A9⟩
 |.mvs s p::r,σ=>match mvP m s p σ with |some σ'=>YZ m r σ' |none=>none
 |.mv k p::r,σ=>match mvB m k p σ with |some σ'=>YZ m r σ' |none=>none
noncomputable def Sr(en:Gx)(fn:Func)(R:Type)(args:APH AV)(E:APH Blk)(K:AV->APH Blk->APJ R):APJ R :=
 match fn.body with
 |none=>none
 |some c =>
  if args.length<=fn.ntmps then
   ev en E.length c R ⟨args++List.replicate (fn.ntmps-args.length) (.un 0),E⟩ λe σ=>match e with
    |.exit _=>none
    |_=>match YZ E.length en.fi.VC σ with
     |none=>none
     |some σ=>match ft en.DU σ fn.results.toList with
     |some l=>match oU E.length en.fi.RF l σ.Aj with
      |some (l,bs)=>match aC en.fi.jw l bs with
       |some (l',Ga)=>match jc E.length Ga (uc l')with
        |some (v,bs)=>K v bs
        |none=>none
       |none=>none
      |none=>none
     |none=>none
  else none
section
variable {S T X Y:Type}
theorem To.iq{f:S->APJ (S⊕T)}{s:S}{t u:T}(h:To f s t)(k:To f s u):t=u:=by
 induction h with
 |done h=>cases k with
  |done k=>rw[h]at k;injection k with k;injection k
  |dk k _=>rw[h]at k;injection k with k;cases k
 |dk h _ ih=>cases k with
  |done k=>rw[h]at k;injection k with k;cases k
  |dk k k'=>rw[h]at k;injection k with k;injection k with k;subst k;exact ih k'
theorem VT{f:S->APJ (S⊕T)}{s:S}{t:T}:fix f s=some t↔To f s t:=by
 unfold fix;constructor
 ·intro h;split at h
  ·rename_i hx;injection h with h;subst h;exact hx.choose_spec
  ·cases h
 ·intro h;rw[dif_pos ⟨t,h⟩];exact congrArg some (To.iq (Exists.choose_spec ⟨t,h⟩) h)
theorem AeP(f:S->APJ (S⊕T))(s:S):fix f s=match f s with |none=>none |some (.inl s')=>fix f s' |some (.inr t)=>some t:=by
 apply Option.ext;intro t;rw[VT];constructor
 ·intro h;cases h with
  |done h=>rw[h]
  |dk h k=>rw[h];exact VT.2 k
 ·intro h;split at h
  ·cases h
  ·rename_i s' hs;exact .dk hs (VT.1 h)
  ·rename_i u hs;injection h with h;subst h;exact .done hs
theorem LV{f:S->APJ (S⊕T)}{s:S}{t:T}(h:f s=some (.inr t)):fix f s=some t:=by rw[AeP,h]
theorem PN{f:S->APJ (S⊕T)}{s s':S}(h:f s=some (.inl s')):fix f s=fix f s':=by rw[AeP,h]
theorem Ajw(σ:X->S)(τ:Y->T)(f:S->APJ (S⊕T))(g:X->APJ (X⊕Y))(h:∀x,f (σ x)=(g x).map (Sum.map σ τ))(x:X) :
    fix f (σ x)=(fix g x).map τ:=by
 apply Option.ext;intro t;rw[VT];constructor
 ·intro ht;generalize hs:σ x=s at ht;induction ht generalizing x with
  |@done s t hd =>
   subst hs;rw[h]at hd;cases hg:g x with
   |none=>rw[hg]at hd;cases hd
   |some r=>rw[hg]at hd;cases r with
    |inl x'=>cases hd
    |inr y=>injection hd with hd;injection hd with hd;subst hd;rw[LV hg];rfl
  |@dk s s' t hd _ ih =>
   subst hs;rw[h]at hd;cases hg:g x with
   |none=>rw[hg]at hd;cases hd
   |some r=>rw[hg]at hd;cases r with
    |inl x'=>injection hd with hd;injection hd with hd;rw[PN hg];exact ih x' hd
    |inr y=>injection hd with hd;cases hd
 ·intro ht;cases hf:fix g x with
  |none=>rw[hf]at ht;cases ht
  |some y =>
   rw[hf]at ht;injection ht with ht;subst ht;have ta:=VT.1 hf;clear hf;induction ta with
   |done hd=>exact .done (by rw[h,hd];rfl)
   |dk hd _ ih=>exact .dk (by rw[h,hd];rfl) ih
end
theorem AfT{A B:Type}(f:A->B)(c:Bool)(x y:APJ A):(bif c then x else y).map f=bif c then x.map f else y.map f:=by cases c<;>rfl
theorem Aka{A B:Type}(f:A->B)(c:Prop)[Decidable c](x y:APJ A):(if c then x else y).map f=if c then x.map f else y.map f:=by split<;>rfl
theorem AfS{A B C:Type}(f:B->C)(x:APJ A)(k:A->APJ B):(x.bind k).map f=x.bind λy=>(k y).map f:=by cases x<;>rfl
theorem gJ{A B C:Type}(f:A->B)(x:APJ A)(k:B->APJ C):(x.map f).bind k=x.bind λy=>k (f y):=by cases x<;>rfl
def sub:Code->APH Nat->Code
 |c,[]=>c
 |.seq a b,n::p=>match n with |0=>sub a p |_=>sub b p
 |.cond _ a b,n::p=>match n with |0=>sub a p |_=>sub b p
 |.block _ a,_::p=>sub a p
 |.loop a,_::p=>sub a p
 |_,_=>.skip
noncomputable def Abd(en:Gx)(m:Nat)(R:Type):Code->APH Nat->(Ex->St->APJ R)->Ex->St->APJ R
 |_,[],K=>K
 |.seq a b,n::p,K=>match n with
  |0=>Abd en m R a p λe σ=>match e with
   |.normal=>ev en m b R σ K
   |.exit n=>K (.exit n) σ
   |.ret=>K .ret σ
  |_=>Abd en m R b p K
 |.cond _ a b,n::p,K=>match n with |0=>Abd en m R a p K |_=>Abd en m R b p K
 |.block n a,_::p,K=>Abd en m R a p λe σ=>match e with
  |.normal=>K .normal σ
  |.exit k=>bif k==n then K .normal σ else K (.exit k) σ
  |.ret=>K .ret σ
 |_,_,_=>λ_ _=>none
noncomputable def ADa(m:Nat)(h ho:SH)(e:Ex)(s':St):APJ (St⊕(Ex×St)):=match e with
    |.normal=>(s'.head h m).bind λYJ=>some (.inl YJ)
    |.exit n=>(s'.head ho m).bind λYJ=>some (.inr (.exit n,YJ))
    |.ret=>(s'.head ho m).bind λYJ=>some (.inr (.ret,YJ))
noncomputable def ACT(m:Nat)(h:SH)(e:Ex)(σ:St):APJ (Ex×St):=(σ.head h m).bind λσ'=>some (e,σ')
noncomputable def np(en:Gx)(m:Nat)(h ho:SH)(body:Code)(s:St):APJ (St⊕(Ex×St)) :=
 ev en m body (St⊕(Ex×St)) s λe s'=>match e with
  |.normal=>(s'.head h m).bind λYJ=>some (.inl YJ)
  |.exit n=>(s'.head ho m).bind λYJ=>some (.inr (.exit n,YJ))
  |.ret=>(s'.head ho m).bind λYJ=>some (.inr (.ret,YJ))
noncomputable def ACU(en:Gx)(m:Nat)(h:SH)(a:Code)(s:St):APJ (Ex×St):=ev en m a (Ex×St) s λe σ=>(σ.head h m).bind λσ'=>some (e,σ')
noncomputable def A2(en:Gx)(fn:Func)(m:Nat)(R:Type)(K:AV->APH Blk->APJ R)(e:Ex)(σ:St):APJ R :=
 match e with
 |.exit _=>none
 |_=>match YZ m en.fi.VC σ with
  |none=>none
  |some σ=>match ft en.DU σ fn.results.toList with
  |some l=>match oU m en.fi.RF l σ.Aj with
   |some (l,bs)=>match aC en.fi.jw l bs with
    |some (l',Ga)=>match jc m Ga (uc l')with
     |some (v,bs)=>K v bs
     |none=>none
    |none=>none
   |none=>none
  |none=>none
def mkS:Nat->Nat->APH (Nat×AV)->APH AV
 |0,_,_=>[]
 |n+1,i,[]=>.un 0::mkS n (i+1) []
 |n+1,i,(j,v)::r=>if i==j then v::mkS n (i+1) r else .un 0::mkS n (i+1) ((j,v)::r)
inductive TT where
 |no |Ir |BO (k:Nat) (p:List Nat)
structure BI where
 a:Option Addr
 len:Nat
 cap:Nat
 lQ:Nat
structure G where
 own:Nat->TT
 AZ:Nat->BI
def CH{α:Type}(R:α->APH Value->Prop):APH α->APH Value->Prop
 |[],cs=>cs=[]
 |x::xs,cs=>∃c d,cs=c++d/\R x c/\CH R xs d
def Bi{α:Type}(R:Nat->α->APH Value->Prop):Nat->APH α->APH Value->Prop
 |_,[],cs=>cs=[]
 |i,x::xs,cs=>∃c d,cs=c++d/\R i x c/\Bi R (i+1) xs d
def HE(w:World)(A:Nat->Prop):(t:Ty)->t.V->APH Value->Prop
 |.int k,x,cs=>cs=[.int k x]
 |.bool,b,cs=>cs=[.bool b]
 |.str,s,cs=>cs=[.string s]
 |.unit,_,cs=>cs=[]
 |.AE a b,x,cs=>∃c d,cs=c++d/\HE w A a x.1 c/\HE w A b x.2 d
 |.sl t,xs,cs=>∃ad cap ds,cs=[.slice ad xs.length cap]/\xs.length<=cap/\CH (HE w A t) xs ds /\
     (xs=[]\/∃b off,ad=some ⟨b,off,none⟩/\A b/\∀j u,ds[j]?=some u->w.cell? ⟨b,off+j,none⟩=some u)
 |.QV _,_,_=>False
def Jo(w:World)(own:Nat->TT)(k:Nat):(t:Ty)->APH Nat->t.V->APH Value->Prop
 |.int k',_,x,cs=>cs=[.int k' x]
 |.bool,_,b,cs=>cs=[.bool b]
 |.str,_,s,cs=>cs=[.string s]
 |.unit,_,_,cs=>cs=[]
 |.AE a b,p,x,cs=>∃c d,cs=c++d/\Jo w own k a (0::p) x.1 c/\Jo w own k b (1::p) x.2 d
 |.sl t,p,xs,cs=>∃ad cap,cs=[.slice ad xs.length cap]/\((xs=[]/\cap=0)\/∃b e BA ds,ad=some ⟨b,0,none⟩/\own b=.BO k p /\
     w.heap[b]?=some (.cells BA e (0,0))/\xs.length<=cap/\cap<=maxLen/\BA.size=cap*t.size/\BA.toList.take (xs.length*t.size)=ds/\Bi (λi=>Jo w own k t (i::p)) 0 xs ds)
 |.QV _,_,_,_=>False
def Al(own:Nat->TT)(ks:APH Nat)(b:Nat):Prop:=own b=.Ir\/∃k∈ks,∃p,own b=.BO k p
def AV.NC:AV->Bool
 |.un _=>true
 |_=>false
def Cr(agg:Bool)(cs:APH Value)(v:Value):Prop:=bif agg then v=.agg cs.toArray else cs=[v]
def CG(w:World)(g:G)(n:Nat):Bool->AV->APH Value->Prop
 |false,.AB ks t x,cs=>(∀k∈ks,k<n)/\HE w (Al g.own ks) t x cs
 |false,.zs,cs=>∃ad,cs=[.slice ad 0 0]
 |false,.AG k,cs=>k<n/\cs=[.slice (g.AZ k).a (g.AZ k).len (g.AZ k).cap]
 |false,.ptr k i _ o,cs=>k<n/\0<=i/\i.toNat<(g.AZ k).len/\∃b,(g.AZ k).a=some ⟨b,0,none⟩/\cs=[.pointer (some ⟨b,i.toNat*(g.AZ k).lQ+o,none⟩)]
 |false,.Fv ks t x,cs=>(∀k∈ks,k<n)/\∃b off ds,cs=[.pointer (some ⟨b,off,none⟩)]/\Al g.own ks b/\HE w (Al g.own ks) t x ds/\∀j u,ds[j]?=some u->w.cell? ⟨b,off+j,none⟩=some u
 |false,.JU,cs=>cs=[.pointer none]
 |false,.TA k i _ o _,cs=>k<n/\0<=i/\i.toNat<(g.AZ k).len/\∃b v,(g.AZ k).a=some ⟨b,0,none⟩/\g.own b=.BO k []/\cs=[v]/\v.oneCell'=true/\w.cell? ⟨b,i.toNat*(g.AZ k).lQ+o,none⟩=some v
 |false,.Vs k i _ o j u,cs=>k<n/\0<=i/\i.toNat<(g.AZ k).len/\∃b b' l c,(g.AZ k).a=some ⟨b,0,none⟩/\g.own b=.BO k []/\cs=[.pointer (some ⟨b',j.toNat*u.size,none⟩)]/\(0<=j/\j.toNat<l)/\w.cell? ⟨b,i.toNat*(g.AZ k).lQ+o,none⟩=some (.slice (some ⟨b',0,none⟩) l c)
 |false,.mp k,cs=>k<n/\∃b,(g.AZ k).a=some ⟨b,0,none⟩/\cs=[.map (some b)]
 |false,.pr a b,cs=>∃c d,cs=c++d/\CG w g n false a c/\CG w g n false b d
 |false,.fn f c,cs=>∃vs,cs=[.func (.func f) #[] vs.toArray]/\CG w g n true c vs
 |false,.un k,cs=>cs.length=k/\∀v∈cs,v.oneCell'=true
 |true,.cons a b,vs=>∃v r,vs=v::r/\(a.NC=true\/∃cs,CG w g n false a cs/\Cr a.isAgg cs v)/\CG w g n true b r
 |true,.nil,vs=>vs=[]
 |_,_,_=>False
def B4(w:World)(g:G)(n:Nat):AV->Value->Prop
 |.cons a b,v=>∃vs,v=.tuple vs.toArray/\CG w g n true (.cons a b) vs
 |.nil,v=>v=.tuple #[]
 |a,v=>a.NC=true\/∃cs,CG w g n false a cs/\Cr a.isAgg cs v
def Tn(w:World)(own:Nat->TT)(k:Nat):RM->(t:Ty)->Nat->t.V->APH Value->Prop
 |.Aw,t,i,x,cs=>Jo w own k t [i] x cs
 |.sh ks,t,_,x,cs=>HE w (Al own ks) t x cs
def Aao(w:World)(own:Nat->TT)(k:Nat):RM->(t:Ty)->APH t.V->APH Value->Prop
 |.Aw,t,xs,ds=>Bi (λi=>Jo w own k t [i]) 0 xs ds
 |.sh ks,t,xs,ds=>CH (HE w (Al own ks) t) xs ds
def UL(w:World)(b e:Nat)(BA:Array Value):Prop:=∃el,(e=0\/el=e)/\w.heap[b]?=some (.cells BA el (0,0))
def Fc:(t:Ty)->t.V->Value
 |.int k,x=>.int k x
 |.str,s=>.string s
 |.AE (.int q) (.AE (.int q') .unit),x=>.agg #[.int q x.1,.int q' x.2.1]
 |_,_=>.nilIface
def VI(w:World)(own:Nat->TT)(k:Nat)(md:RM)(kt vt:Ty)(st:APJ kt.V):Nat->APH (kt.V×vt.V)->APH MapEntry->Prop
 |_,[],ms=>ms=[]
 |i,x::xs,ms=>∃m r,ms=m::r/\(m.key=Fc kt x.1/\m.born=i)/\(st=some x.1\/∃cs,Tn w own k md vt i x.2 cs/\Cr vt.isAgg cs m.val)/\VI w own k md kt vt st (i+1) xs r
def Mn(w:World)(g:G)(n k:Nat):Blk->Prop
 |.box a=>(g.AZ k).len=1/\∃b cs e,(g.AZ k).a=some ⟨b,0,none⟩/\g.own b=.BO k []/\w.heap[b]?=some (.cells cs e (0,0))/\CG w g n false a cs.toList
 |.row e m t xs=>(∀j∈m.Ct,j<n)/\(g.AZ k).len=xs.length/\(g.AZ k).lQ=t.size/\0<t.size/\((xs=[]/\(g.AZ k).cap=0)\/∃b BA ds,(g.AZ k).a=some ⟨b,0,none⟩/\g.own b=.BO k [] /\
     UL w b e BA/\xs.length<=(g.AZ k).cap/\(g.AZ k).cap<=maxLen/\BA.size=(g.AZ k).cap*t.size/\BA.toList.take (xs.length*t.size)=ds/\Aao w g.own k m t xs ds)
 |.map md kt vt es st=>(∀j∈md.Ct,j<n)/\∃b He DC,(g.AZ k).a=some ⟨b,0,none⟩/\g.own b=.BO k []/\w.heap[b]?=some (.map He DC)/\((es.map (·.1)).Nodup/\DC=He.size)/\VI w g.own k md kt vt st 0 es He.toList
 |.QU e t xs i p=>(g.AZ k).len=xs.length/\(g.AZ k).lQ=t.size/\0<t.size/\0<=i/\i.toNat<xs.length/\∃u o x0 b BA ds,Lg t p=some o/\tyP t p=some (.sl u)/\Ss (.sl u) [] p t (xs.getD i.toNat t.zero)=some x0 /\
     (g.AZ k).a=some ⟨b,0,none⟩/\g.own b=.BO k []/\UL w b e BA/\xs.length<=(g.AZ k).cap/\(g.AZ k).cap<=maxLen/\BA.size=(g.AZ k).cap*t.size /\
     (BA.setIfInBounds (i.toNat*t.size+o) (.slice none 0 0)).toList.take (xs.length*t.size)=ds/\Bi (λj=>Jo w g.own k t [j]) 0 (xs.set i.toNat x0) ds
 |.tail e t xs=>t.BP=true/\(g.AZ k).len=xs.length/\(g.AZ k).lQ=t.size/\0<t.size/\((xs=[]/\(g.AZ k).cap=0)\/∃b o BA ds,(g.AZ k).a=some ⟨b,o,none⟩/\g.own b=.BO k [] /\
     UL w b e BA/\xs.length<=(g.AZ k).cap/\(g.AZ k).cap<=maxLen/\BA.size=o+(g.AZ k).cap*t.size/\(BA.toList.drop o).take (xs.length*t.size)=ds/\Aao w g.own k .Aw t xs ds)
 |.A9=>True
structure Bf (w:World) (g:G) (bs:List Blk):Prop where
 BZ:∀b,w.heap.size<=b->g.own b=.no
 LP:∀k x,bs[k]?=some x->Mn w g bs.length k x
structure Step (Bz:List Nat) (n:Nat) (w:World) (g:G) (w':World) (g':G):Prop where
 os:w'.os=w.os
 tape:w'.tape=w.tape
 output:w'.output=w.output
 size:w.heap.size<=w'.heap.size
 no:∀b,b<w.heap.size->g.own b=.no->g'.own b=.no/\w'.heap[b]?=w.heap[b]?
 Ir:∀b,g.own b=.Ir->g'.own b=.Ir/\w'.heap[b]?=w.heap[b]?
 BO:∀b k p,g.own b=.BO k p->k<n->k∉Bz->g'.own b=.BO k p/\w'.heap[b]?=w.heap[b]?
 AZ:∀k,k<n->g'.AZ k=g.AZ k
section
variable {α:Type} {R S:α->APH Value->Prop} {I J:Nat->α->APH Value->Prop}
theorem CH.mono(h:∀x c,R x c->S x c):∀{xs cs},CH R xs cs->CH S xs cs
 |[],_,hc=>hc
 |_::_,_,⟨c,d,e,r,l⟩=>⟨c,d,e,h _ _ r,l.mono h⟩
theorem Bi.mono(h:∀i x c,I i x c->J i x c):∀{i xs cs},Bi I i xs cs->Bi J i xs cs
 |_,[],_,hc=>hc
 |_,_::_,_,⟨c,d,e,r,l⟩=>⟨c,d,e,h _ _ _ r,l.mono h⟩
theorem Bi.toR(h:∀i x c,I i x c->S x c):∀{i xs cs},Bi I i xs cs->CH S xs cs
 |_,[],_,hc=>hc
 |_,_::_,_,⟨c,d,e,r,l⟩=>⟨c,d,e,h _ _ _ r,l.toR h⟩
theorem CH.toI(h:∀i x c,R x c->J i x c):∀{i xs cs},CH R xs cs->Bi J i xs cs
 |_,[],_,hc=>hc
 |_,_::_,_,⟨c,d,e,r,l⟩=>⟨c,d,e,h _ _ _ r,CH.toI h l⟩
theorem CH.append:∀{xs ys cs ds},CH R xs cs->CH R ys ds->CH R (xs++ys) (cs++ds)
 |[],_,_,_,h,k=>by cases h;exact k
 |_::_,_,_,_,⟨c,d,e,r,l⟩,k=>⟨c,d++_,by grind,r,l.append k⟩
theorem Bi.append:∀{i xs ys cs ds},Bi I i xs cs->Bi I (i+xs.length) ys ds->Bi I i (xs++ys) (cs++ds)
 |_,[],_,_,_,h,k=>by cases h;exact k
 |i,_::xs,_,_,ds,⟨c,d,e,r,l⟩,k=>by
  subst e;exact⟨c,d++ds,AMe ..,r,l.append (by grind)⟩
theorem CH.len{s:Nat}(h:∀x c,R x c->c.length=s):∀{xs cs},CH R xs cs->cs.length=xs.length*s
 |[],_,hc=>by cases hc;simp
 |_::xs,_,⟨c,d,e,r,l⟩=>by
  have h1:=h _ _ r;have h2:=l.len h
  grind
theorem Bi.len{s:Nat}(h:∀i x c,I i x c->c.length=s){i xs cs}(l:Bi I i xs cs):cs.length=xs.length*s :=
 CH.len (R:=λx c=>∃i,I i x c) (λx c ⟨i,r⟩=>h i x c r) (l.toR λi _ _ r=>⟨i,r⟩)
theorem Bi.AZ{s:Nat}(hs:∀i x c,I i x c->c.length=s):∀{j i xs cs},Bi I j xs cs->(hi:i<xs.length) ->
    ∃c0 c d,cs=c0++c++d/\c0.length=i*s/\I (j+i) xs[i] c/\Bi I j (xs.take i) c0/\Bi I (j+i+1) (xs.drop (i+1)) d
 |j,0,x::xs,_,⟨c,d,e,r,l⟩,_=>⟨[],c,d,e,by simp,r,rfl,l⟩
 |j,i+1,x::xs,_,⟨c,d,e,r,l⟩,hi=>by
  obtain⟨c0,c1,d1,e1,hl,hr,ht,hd⟩:=l.AZ hs (i:=i) (by grind);refine⟨c++c0,c1,d1,by grind,?_,?_,⟨c,c0,rfl,r,?_⟩,?_⟩
  ·grind
  ·grind
  ·grind
  grind
theorem Bi.join:∀{j i:Nat} {xs:APH α} {c0 c d:APH Value} {x:α},i<xs.length->Bi I j (xs.take i) c0->I (j+i) x c->Bi I (j+i+1) (xs.drop (i+1)) d->Bi I j (xs.set i x) (c0++c++d)
 |j,0,_::xs,c0,c,d,x,_,ht,hr,hd=>by cases ht;exact⟨c,d,rfl,hr,hd⟩
 |j,i+1,y::xs,_,c,d,x,hi,⟨c1,c2,e,r,l⟩,hr,hd=>by
  subst e;refine⟨c1,c2++c++d,by grind,r,?_⟩;exact Bi.join (by grind) l (by grind) (by grind)
theorem HZ:∀{j xs cs},CH R xs cs↔Bi (λ_=>R) j xs cs
 |_,[],_=>Iff.rfl
 |_,_::_,_=>⟨λ⟨c,d,e,r,l⟩=>⟨c,d,e,r,HZ.1 l⟩,λ⟨c,d,e,r,l⟩=>⟨c,d,e,r,HZ.2 l⟩⟩
theorem CH.AZ{s:Nat}(hs:∀x c,R x c->c.length=s){i xs cs}(l:CH R xs cs)(hi:i<xs.length) :
    ∃c0 c d,cs=c0++c++d/\c0.length=i*s/\R xs[i] c/\CH R (xs.take i) c0/\CH R (xs.drop (i+1)) d:=by
 obtain⟨c0,c,d,e,hl,hr,ht,hd⟩:=Bi.AZ  (λ_ x c=>hs x c) (HZ (j:=0).1 l) hi;exact⟨c0,c,d,e,hl,hr,HZ.2 ht,HZ.2 hd⟩
theorem CH.join{i:Nat}{xs:APH α}{c0 c d:APH Value}{x:α}(hi:i<xs.length)(ht:CH R (xs.take i) c0)(hr:R x c)(hd:CH R (xs.drop (i+1)) d):CH R (xs.set i x) (c0++c++d) :=
 HZ (j:=0).2 (Bi.join hi (HZ.1 ht) hr (HZ.1 hd))
theorem Bi.takeN{s:Nat}(hs:∀i x c,I i x c->c.length=s):∀{j xs cs} (n:Nat),Bi I j xs cs->Bi I j (xs.take n) (cs.take (n*s))
 |_,[],_,n,h=>by cases h;simp[Bi]
 |_,_::_,_,0,_=>by simp[Bi]
 |j,x::xs,_,n+1,⟨c,d,e,r,l⟩=>by
  subst e;have hc:=hs _ _ _ r;refine⟨c,d.take _,?_,r,l.takeN hs n⟩;rw[List.take_append,hc,AMg (by grind),show(n+1)*s-s=n*s by grind]
theorem CH.takeN{s:Nat}(hs:∀x c,R x c->c.length=s){xs cs}(n:Nat)(l:CH R xs cs):CH R (xs.take n) (cs.take (n*s)) :=
 HZ (j:=0).2 (Bi.takeN (λ_ x c=>hs x c) n (HZ.1 l))
theorem CH.AeD{s:Nat}(hs:∀x c,R x c->c.length=s):∀{xs cs} (n:Nat),CH R xs cs->CH R (xs.drop n) (cs.drop (n*s))
 |[],_,n,h=>by cases h;simp[CH]
 |_::_,_,0,h=>by grind
 |x::xs,_,n+1,⟨c,d,e,r,l⟩=>by
  subst e;have hc:=hs _ _ r;have h1:List.drop ((n+1)*s) c=[]:=List.drop_of_length_le (by grind);rw[List.drop_append,hc,h1,show(n+1)*s-s=n*s by grind];exact l.AeD hs n
end
theorem VO{w w':World}{b o:Nat}(h:w'.heap[b]?=w.heap[b]?):w'.cell? ⟨b,o,none⟩=w.cell? ⟨b,o,none⟩:=by simp[World.cell?,h]
theorem PI{w:World}{b o:Nat}{cs:Array Value}{e:TypeId}{fr:Nat×Nat}(h:w.heap[b]?=some (.cells cs e fr)):w.cell? ⟨b,o,none⟩=cs[o]?:=by simp[World.cell?,h]
theorem HE.len{w:World}{A:Nat->Prop}:∀{t:Ty} {x:t.V} {cs:APH Value},HE w A t x cs->cs.length=t.size
 |.int _,_,_,h=>by cases h;rfl
 |.bool,_,_,h=>by cases h;rfl
 |.str,_,_,h=>by cases h;rfl
 |.unit,_,_,h=>by cases h;rfl
 |.AE _ _,_,_,⟨_,_,e,h1,h2⟩=>by subst e;rw[AMa,h1.len,h2.len];rfl
 |.sl _,_,_,⟨_,_,_,e,_⟩=>by subst e;rfl
 |.QV _,_,_,h=>h.elim
theorem Jo.len{w:World}{own:Nat->TT}{k:Nat}:∀{t:Ty} {p:APH Nat} {x:t.V} {cs:APH Value},Jo w own k t p x cs->cs.length=t.size
 |.int _,_,_,_,h=>by cases h;rfl
 |.bool,_,_,_,h=>by cases h;rfl
 |.str,_,_,_,h=>by cases h;rfl
 |.unit,_,_,_,h=>by cases h;rfl
 |.AE _ _,_,_,_,⟨_,_,e,h1,h2⟩=>by subst e;rw[AMa,h1.len,h2.len];rfl
 |.sl _,_,_,_,⟨_,_,e,_⟩=>by subst e;rfl
 |.QV _,_,_,_,h=>h.elim
theorem HE.one{w:World}{A:Nat->Prop}:∀{t:Ty} {x:t.V} {cs:APH Value},HE w A t x cs->∀v∈cs,v.oneCell'=true
 |.int _,_,_,h,v,hv=>by cases h;simp at hv;subst hv;rfl
 |.bool,_,_,h,v,hv=>by cases h;simp at hv;subst hv;rfl
 |.str,_,_,h,v,hv=>by cases h;simp at hv;subst hv;rfl
 |.unit,_,_,h,v,hv=>by cases h;simp at hv
 |.AE _ _,_,_,⟨_,_,e,h1,h2⟩,v,hv=>by
  subst e;rcases List.mem_append.1 hv with hv |hv
  ·exact h1.one v hv
  ·exact h2.one v hv
 |.sl _,_,_,⟨_,_,_,e,_⟩,v,hv=>by subst e;simp at hv;subst hv;rfl
 |.QV _,_,_,h,_,_=>h.elim
theorem Jo.one{w:World}{own:Nat->TT}{k:Nat}:∀{t:Ty} {p:APH Nat} {x:t.V} {cs:APH Value},Jo w own k t p x cs->∀v∈cs,v.oneCell'=true
 |.int _,_,_,_,h,v,hv=>by cases h;simp at hv;subst hv;rfl
 |.bool,_,_,_,h,v,hv=>by cases h;simp at hv;subst hv;rfl
 |.str,_,_,_,h,v,hv=>by cases h;simp at hv;subst hv;rfl
 |.unit,_,_,_,h,v,hv=>by cases h;simp at hv
 |.AE _ _,_,_,_,⟨_,_,e,h1,h2⟩,v,hv=>by
  subst e;rcases List.mem_append.1 hv with hv |hv
  ·exact h1.one v hv
  ·exact h2.one v hv
 |.sl _,_,_,_,⟨_,_,e,_⟩,v,hv=>by subst e;simp at hv;subst hv;rfl
 |.QV _,_,_,_,h,_,_=>h.elim
theorem CH.all{α:Type}{R:α->APH Value->Prop}{P:Value->Prop}(h:∀x c,R x c->∀v∈c,P v):∀{xs cs},CH R xs cs->∀v∈cs,P v
 |[],_,hc,v,hv=>by cases hc;simp at hv
 |_::_,_,⟨c,d,e,r,l⟩,v,hv=>by
  subst e;rcases List.mem_append.1 hv with hv |hv
  ·grind
  ·exact l.all h v hv
theorem Bi.all{α:Type}{I:Nat->α->APH Value->Prop}{P:Value->Prop}(h:∀i x c,I i x c->∀v∈c,P v){i xs cs}(l:Bi I i xs cs):∀v∈cs,P v :=
 CH.all (R:=λx c=>∃i,I i x c) (λx c ⟨i,r⟩=>h i x c r) (l.toR λi _ _ r=>⟨i,r⟩)
theorem HE.mono{w w':World}{A A':Nat->Prop}(h:∀b,A b->A' b/\w'.heap[b]?=w.heap[b]?):∀{t:Ty} {x:t.V} {cs:APH Value},HE w A t x cs->HE w' A' t x cs
 |.int _,_,_,r=>r
 |.bool,_,_,r=>r
 |.str,_,_,r=>r
 |.unit,_,_,r=>r
 |.AE _ _,_,_,⟨c,d,e,h1,h2⟩=>⟨c,d,e,h1.mono h,h2.mono h⟩
 |.sl _,_,_,⟨ad,cap,ds,e,hl,l,hm⟩=>⟨ad,cap,ds,e,hl,l.mono λ_ _ r=>r.mono h,hm.imp id λ⟨b,off,ha,hA,hc⟩ =>
     ⟨b,off,ha,(h b hA).1,λj u hu=>(VO (h b hA).2).trans (hc j u hu)⟩⟩
 |.QV _,_,_,r=>r
theorem Jo.mono{w w':World}{own ND:Nat->TT}{k k':Nat}:∀{t:Ty} {p p':APH Nat} {x:t.V} {cs:APH Value},
    (∀b q,own b=.BO k (q++p)->ND b=.BO k' (q++p')/\w'.heap[b]?=w.heap[b]?)->Jo w own k t p x cs->Jo w' ND k' t p' x cs
 |.int _,_,_,_,_,_,r=>r
 |.bool,_,_,_,_,_,r=>r
 |.str,_,_,_,_,_,r=>r
 |.unit,_,_,_,_,_,r=>r
 |.AE _ _,p,p',_,_,h,⟨c,d,e,h1,h2⟩=>⟨c,d,e,
     h1.mono (λb q hb=>by have:=h b (q++[0]) (by grind);simpa using this),
     h2.mono (λb q hb=>by have:=h b (q++[1]) (by grind);simpa using this)⟩
 |.sl _,p,p',_,_,h,⟨ad,cap,e,hm⟩=>⟨ad,cap,e,hm.imp id λ⟨b,el,BA,ds,ha,hb,hh,h1,h2,h3,h4,l⟩ =>
     ⟨b,el,BA,ds,ha,(h b [] hb).1,(h b [] hb).2.trans hh,h1,h2,h3,h4,l.mono λi x c r=>r.mono (λb q hb=>by have:=h b (q++[i]) (by grind);simpa using this)⟩⟩
 |.QV _,_,_,_,_,_,r=>r
theorem VI.on{w w':World}{own ND:Nat->TT}{k k':Nat}{md md':RM}{kt vt:Ty}{st:APJ kt.V}(h:∀(i:Nat) (x:vt.V) (cs:APH Value),Tn w own k md vt i x cs->Tn w' ND k' md' vt i x cs):∀{i:Nat} {es:APH (kt.V×vt.V)} {ms:APH MapEntry},VI w own k md kt vt st i es ms->VI w' ND k' md' kt vt st i es ms
 |_,[],_,r=>r
 |i,x::xs,_,⟨m,r,e,hk,hv,hr⟩=>⟨m,r,e,hk,hv.imp id λ⟨cs,ho,ha⟩=>⟨cs,h i x.2 cs ho,ha⟩,hr.on h⟩
theorem Jo.rd{w:World}{own:Nat->TT}{k:Nat}{A:Nat->Prop}(h:∀b q,own b=.BO k q->A b):∀{t:Ty} {p:APH Nat} {x:t.V} {cs:APH Value},Jo w own k t p x cs->HE w A t x cs
 |.int _,_,_,_,r=>r
 |.bool,_,_,_,r=>r
 |.str,_,_,_,r=>r
 |.unit,_,_,_,r=>r
 |.AE _ _,_,_,_,⟨c,d,e,h1,h2⟩=>⟨c,d,e,h1.rd h,h2.rd h⟩
 |.sl t,_,xs,_,⟨ad,cap,e,hm⟩=>by
  rcases hm with ⟨hx,hc⟩|⟨b,el,BA,ds,ha,hb,hh,h1,h2,h3,h4,l⟩
  ·subst hx;exact⟨ad,cap,[],e,AMS _,rfl,.inl rfl⟩
  ·refine⟨ad,cap,ds,e,h1,l.toR λi x c r=>r.rd h,.inr ⟨b,0,ha,h b _ hb,λj u hu=>?_⟩⟩;rw[PI hh,AMC,<-AMk]
   grind
 |.QV _,_,_,_,r=>r
def Ko:(t:Ty)->t.V->APH Value
 |.int k,x=>[.int k x]
 |.bool,b=>[.bool b]
 |.str,s=>[.string s]
 |.unit,_=>[]
 |.AE a b,x=>Ko a x.1++Ko b x.2
 |.sl _,_=>[]
 |.QV _,_=>[]
theorem HE.BP{w:World}{A:Nat->Prop}:∀{t:Ty} {x:t.V} {cs:APH Value},t.BP=true->(HE w A t x cs↔cs=Ko t x)
 |.int _,_,_,_=>Iff.rfl
 |.bool,_,_,_=>Iff.rfl
 |.str,_,_,_=>Iff.rfl
 |.unit,_,_,_=>Iff.rfl
 |.AE a b,x,cs,h=>by
  simp only[Ty.BP,AMd]at h;constructor
  ·rintro⟨c,d,e,h1,h2⟩
   rw[e,(HE.BP h.1).1 h1,(HE.BP h.2).1 h2];rfl
  ·intro e;exact⟨_,_,e,(HE.BP h.1).2 rfl,(HE.BP h.2).2 rfl⟩
 |.sl _,_,_,h=>by simp[Ty.BP]at h
 |.QV _,_,_,h=>by simp[Ty.BP]at h
theorem Jo.BP{w:World}{own:Nat->TT}{k:Nat}:∀{t:Ty} {p:APH Nat} {x:t.V} {cs:APH Value},t.BP=true->(Jo w own k t p x cs↔cs=Ko t x)
 |.int _,_,_,_,_=>Iff.rfl
 |.bool,_,_,_,_=>Iff.rfl
 |.str,_,_,_,_=>Iff.rfl
 |.unit,_,_,_,_=>Iff.rfl
 |.AE a b,p,x,cs,h=>by
  simp only[Ty.BP,AMd]at h;constructor
  ·rintro⟨c,d,e,h1,h2⟩
   rw[e,(Jo.BP h.1).1 h1,(Jo.BP h.2).1 h2];rfl
  ·intro e;exact⟨_,_,e,(Jo.BP h.1).2 rfl,(Jo.BP h.2).2 rfl⟩
 |.sl _,_,_,_,h=>by simp[Ty.BP]at h
 |.QV _,_,_,_,h=>by simp[Ty.BP]at h
def QM:Ty->APH Value
 |.int k=>[.int k 0]
 |.bool=>[.bool false]
 |.str=>[.string ⟨#[]⟩]
 |.unit=>[]
 |.AE a b=>QM a++QM b
 |.sl _=>[.slice none 0 0]
 |.QV 0=>[.pointer none]
 |.QV 1=>[.map none]
 |.QV _=>[.nilFunc]
theorem RB:∀t:Ty,(QM t).length=t.size
 |.int _=>rfl
 |.bool=>rfl
 |.str=>rfl
 |.unit=>rfl
 |.AE a b=>by simp[QM,RB a,RB b,Ty.size]
 |.sl _=>rfl
 |.QV 0=>rfl
 |.QV 1=>rfl
 |.QV (_+2)=>rfl
theorem Jo.zero{w:World}{own:Nat->TT}{k:Nat}:∀{t:Ty} {p:APH Nat},t.data=true->Jo w own k t p t.zero (QM t)
 |.int _,_,_=>rfl
 |.bool,_,_=>rfl
 |.str,_,_=>rfl
 |.unit,_,_=>rfl
 |.AE a b,p,h=>by
  simp only[Ty.data,AMd]at h;exact⟨_,_,rfl,Jo.zero h.1,Jo.zero h.2⟩
 |.sl t,p,_=>⟨none,0,rfl,.inl ⟨rfl,rfl⟩⟩
 |.QV _,_,h=>by simp[Ty.data]at h
theorem HE.zero{w:World}{A:Nat->Prop}:∀{t:Ty},t.data=true->HE w A t t.zero (QM t)
 |.int _,_=>rfl
 |.bool,_=>rfl
 |.str,_=>rfl
 |.unit,_=>rfl
 |.AE a b,h=>by
  simp only[Ty.data,AMd]at h;exact⟨_,_,rfl,HE.zero h.1,HE.zero h.2⟩
 |.sl t,_=>⟨none,0,[],rfl,AMc _,rfl,.inl rfl⟩
 |.QV _,h=>by simp[Ty.data]at h
theorem Al.mono{own:Nat->TT}{ks Tv:APH Nat}(h:∀k∈ks,k∈Tv){b:Nat}(a:Al own ks b):Al own Tv b:=a.imp id λ⟨k,hk,p,hp⟩=>⟨k,h k hk,p,hp⟩
theorem Al.step{Bz:APH Nat}{n:Nat}{w w':World}{g g':G}(s:Step Bz n w g w' g'){ks:APH Nat}(hn:∀k∈ks,k<n)(hm:∀k∈ks,k∉Bz){b:Nat}(a:Al g.own ks b) :
    Al g'.own ks b/\w'.heap[b]?=w.heap[b]?:=by
 rcases a with a |⟨k,hk,p,hp⟩
 ·exact⟨.inl (s.Ir b a).1,(s.Ir b a).2⟩
 ·have:=s.BO b k p hp (hn k hk) (hm k hk);exact⟨.inr ⟨k,hk,p,this.1⟩,this.2⟩
theorem Step.refl(Bz:APH Nat)(n:Nat)(w:World)(g:G):Step Bz n w g w g :=
 ⟨rfl,rfl,rfl,AMc _,λ_ _ h=>⟨h,rfl⟩,λ_ h=>⟨h,rfl⟩,λ_ _ _ h _ _=>⟨h,rfl⟩,λ_ _=>rfl⟩
theorem Step.trans{m1 m2:APH Nat}{n n':Nat}{w w1 w2:World}{g g1 g2:G}(s:Step m1 n w g w1 g1)(t:Step m2 n' w1 g1 w2 g2)(hn:n<=n'):Step (m1++m2) n w g w2 g2 where
 os:=t.os.trans s.os
 tape:=t.tape.trans s.tape
 output:=t.output.trans s.output
 size:=AMA s.size t.size
 no b hb h:=by
  have h1:=s.no b hb h;have h2:=t.no b (AMI hb s.size) h1.1;exact⟨h2.1,h2.2.trans h1.2⟩
 Ir b h:=by
  have h1:=s.Ir b h;have h2:=t.Ir b h1.1;exact⟨h2.1,h2.2.trans h1.2⟩
 BO b k p h hk hm:=by
  have h1:=s.BO b k p h hk (λe=>hm (AME _ e));have h2:=t.BO b k p h1.1 (AMI hk hn) (λe=>hm (AMF _ e));exact⟨h2.1,h2.2.trans h1.2⟩
 AZ k hk:=(t.AZ k (AMI hk hn)).trans (s.AZ k hk)
theorem Step.weaken{m1 m2:APH Nat}{n n':Nat}{w w':World}{g g':G}(s:Step m1 n w g w' g')(hm:∀k∈m1,k∈m2)(hn:n'<=n):Step m2 n' w g w' g' :=
 ⟨s.os,s.tape,s.output,s.size,s.no,s.Ir,λb k p h hk Xp=>s.BO b k p h (AMI hk hn) (λe=>Xp (hm k e)),λk hk=>s.AZ k (AMI hk hn)⟩
theorem Step.drew(Bz:APH Nat)(n:Nat)(w:World)(g:G):Step Bz n w g w.drew g :=
 ⟨rfl,rfl,rfl,AMc _,λ_ _ h=>⟨h,rfl⟩,λ_ h=>⟨h,rfl⟩,λ_ _ _ h _ _=>⟨h,rfl⟩,λ_ _=>rfl⟩
theorem iw(W1:Nat->Bool)(a:AV):(a.drop W1).NC=true\/(a.drop W1).isAgg=a.isAgg:=by
 cases a with
 |AB ks t x=>simp only[AV.drop];split;exact .inl rfl;exact .inr rfl
 |Fv ks t x=>simp only[AV.drop];split;exact .inl rfl;exact .inr rfl
 |TA k i p o e=>simp only[AV.drop];split;exact .inl rfl;exact .inr rfl
 |Vs k i p o j u=>simp only[AV.drop];split;exact .inl rfl;exact .inr rfl
 |_=>exact .inr rfl
theorem yL(W1:Nat->Bool)(a:AV)(h:a.NC=true):(a.drop W1).NC=true:=by
 cases a<;>simp_all [AV.NC,AV.drop]
theorem CG.step{Bz:APH Nat}{n n':Nat}{w w':World}{g g':G}(s:Step Bz n w g w' g')(hn:n<=n'):∀(a:AV) (m:Bool) {cs:APH Value},CG w g n m a cs->CG w' g' n' m (a.drop λk=>Bz.contains k) cs
 |.AB ks t x,false,cs,⟨hk,r⟩=>by
  simp only[AV.drop];split
  ·exact⟨r.len,r.one⟩
  ·rename_i hb;have hm:∀k∈ks,k∉Bz:=λk hk hc=>hb (List.any_eq_true.2 ⟨k,hk,by grind⟩);exact⟨λk h=>AMI (hk k h) hn,r.mono λb a=>a.step s hk hm⟩
 |.zs,false,_,h=>h
 |.AG k,false,_,⟨hk,e⟩=>⟨AMI hk hn,by rw[s.AZ k hk];exact e⟩
 |.mp k,false,_,⟨hk,b,hb,e⟩=>⟨AMI hk hn,b,by rw[s.AZ k hk];exact hb,e⟩
 |.ptr k i p o,false,_,⟨hk,h0,h1,b,hb,e⟩=>⟨AMI hk hn,h0,by rw[s.AZ k hk];exact h1,b,by rw[s.AZ k hk];exact hb,by rw[s.AZ k hk];exact e⟩
 |.Fv ks t x,false,cs,⟨hk,b,off,ds,e,ha,r,hc⟩=>by
  simp only[AV.drop];split
  ·subst e;exact⟨rfl,by intro v hv;simp at hv;subst hv;rfl⟩
  ·rename_i hb;have hm:∀k∈ks,k∉Bz:=λk hk hc=>hb (List.any_eq_true.2 ⟨k,hk,by grind⟩);exact⟨λk h=>AMI (hk k h) hn,b,off,ds,e,(ha.step s hk hm).1,r.mono λb a=>a.step s hk hm,λj u hu=>(VO (ha.step s hk hm).2).trans (hc j u hu)⟩
 |.JU,false,_,h=>h
 |.pr a b,false,_,⟨c,d,e,h1,h2⟩=>⟨c,d,e,CG.step s hn a _ h1,CG.step s hn b _ h2⟩
 |.fn f c,false,_,⟨vs,e,h⟩=>⟨vs,e,CG.step s hn c true h⟩
 |.un k,false,_,h=>h
 |.cons a b,true,_,⟨v,r,e,h1,h2⟩=>by
  refine⟨v,r,e,?_,CG.step s hn b true h2⟩;rcases iw (λk=>Bz.contains k) a with hd |hd
  ·grind
  ·exact h1.imp (yL _ a) λ⟨cs,h,hv⟩=>⟨cs,CG.step s hn a _ h,by grind⟩
 |.nil,true,_,h=>h
 |.cons _ _,false,_,h=>h.elim
 |.nil,false,_,h=>h.elim
 |.TA k i p o e,false,_,⟨hk,h0,h1,b,v,ha,ho,e1,e2,hc⟩=>by
  simp only[AV.drop];split
  ·subst e1;exact⟨rfl,by grind⟩
  ·rename_i hb;have hl:=s.BO b k [] ho hk (by grind);exact⟨AMI hk hn,h0,by rw[s.AZ k hk];exact h1,b,v,by rw[s.AZ k hk];exact ha,hl.1,e1,e2,by rw[s.AZ k hk];exact(VO hl.2).trans hc⟩
 |.TA _ _ _ _ _,true,_,h=>h.elim
 |.Vs k i p o j u,false,_,⟨hk,h0,h1,b,b',l,c,ha,ho,e1,e2,hc⟩=>by
  simp only[AV.drop];split
  ·subst e1;exact⟨rfl,by intro u hu;simp at hu;subst hu;rfl⟩
  ·rename_i hb;have hl:=s.BO b k [] ho hk (by grind);exact⟨AMI hk hn,h0,by rw[s.AZ k hk];exact h1,b,b',l,c,by rw[s.AZ k hk];exact ha,hl.1,e1,e2,by rw[s.AZ k hk];exact(VO hl.2).trans hc⟩
 |.Vs _ _ _ _ _ _,true,_,h=>h.elim
 |.AB _ _ _,true,_,h=>h.elim
 |.zs,true,_,h=>h.elim
 |.AG _,true,_,h=>h.elim
 |.mp _,true,_,h=>h.elim
 |.ptr _ _ _ _,true,_,h=>h.elim
 |.Fv _ _ _,true,_,h=>h.elim
 |.JU,true,_,h=>h.elim
 |.pr _ _,true,_,h=>h.elim
 |.fn _ _,true,_,h=>h.elim
 |.un _,true,_,h=>h.elim
theorem B4.iff{w:World}{g:G}{n:Nat}{a:AV}{v:Value}(h:a.Dj=false):B4 w g n a v↔(a.NC=true\/∃cs,CG w g n false a cs/\Cr a.isAgg cs v):=by
 cases a<;>first |exact Iff.rfl |cases h
theorem AeE(W1:Nat->Bool)(a:AV):(a.drop W1).Dj=a.Dj:=by
 cases a with
 |AB ks t x=>simp only[AV.drop];split<;>rfl
 |Fv ks t x=>simp only[AV.drop];split<;>rfl
 |TA k i p o e=>simp only[AV.drop];split<;>rfl
 |Vs k i p o j u=>simp only[AV.drop];split<;>rfl
 |_=>rfl
theorem B4.step{Bz:APH Nat}{n n':Nat}{w w':World}{g g':G}(s:Step Bz n w g w' g')(hn:n<=n'){a:AV}{v:Value}(h:B4 w g n a v):B4 w' g' n' (a.drop λk=>Bz.contains k) v:=by
 cases ht:a.Dj with
 |false =>
  rw[B4.iff ht]at h;rw[B4.iff (by rw[AeE];exact ht)];rcases iw (λk=>Bz.contains k) a with hd |hd
  ·grind
  ·exact h.imp (yL _ a) λ⟨cs,h,hv⟩=>⟨cs,CG.step s hn a _ h,by grind⟩
 |true =>
  cases a with
  |cons a b=>obtain⟨vs,e,h⟩:=h;exact⟨vs,e,CG.step s hn _ true h⟩
  |nil=>exact h
  |_=>cases ht
theorem aK(a:AV):(a.drop λ_=>false)=a:=by
 induction a with
 |AB ks t x=>simp[AV.drop]
 |Fv ks t x=>simp[AV.drop]
 |TA k i p o e=>simp[AV.drop]
 |Vs k i p o j u=>simp[AV.drop]
 |pr a b ha hb=>simp[AV.drop,ha,hb]
 |fn f c h=>simp[AV.drop,h]
 |cons a b ha hb=>simp[AV.drop,ha,hb]
 |_=>rfl
theorem B4.QJ{n n':Nat}{w w':World}{g g':G}(s:Step [] n w g w' g')(hn:n<=n'){a:AV}{v:Value}(h:B4 w g n a v):B4 w' g' n' a v:=by
 have:=h.step s hn;rwa [show(λk=>[].contains k)=λ_=>false from funext λ_=>rfl,aK]at this
theorem CG.QJ{n n':Nat}{w w':World}{g g':G}(s:Step [] n w g w' g')(hn:n<=n'){a:AV}{m:Bool}{cs:APH Value}(h:CG w g n m a cs):CG w' g' n' m a cs:=by
 have:=CG.step s hn a m h;rwa [show(λk=>[].contains k)=λ_=>false from funext λ_=>rfl,aK]at this
theorem CG.len{w:World}{g:G}{n:Nat}:∀{a:AV} {cs:APH Value},CG w g n false a cs->cs.length=a.size
 |.AB _ _ _,_,h=>h.2.len
 |.zs,_,⟨_,e⟩=>by subst e;rfl
 |.AG _,_,⟨_,e⟩=>by subst e;rfl
 |.mp _,_,⟨_,_,_,e⟩=>by subst e;rfl
 |.ptr _ _ _ _,_,⟨_,_,_,_,_,e⟩=>by subst e;rfl
 |.Fv _ _ _,_,⟨_,_,_,_,e,_⟩=>by subst e;rfl
 |.JU,_,h=>by cases h;rfl
 |.pr a b,_,⟨_,_,e,h1,h2⟩=>by subst e;rw[AMa,CG.len h1,CG.len h2];rfl
 |.fn _ _,_,⟨_,e,_⟩=>by subst e;rfl
 |.un _,_,h=>h.1
 |.cons _ _,_,h=>h.elim
 |.nil,_,h=>h.elim
 |.TA _ _ _ _ _,_,⟨_,_,_,_,_,_,_,e,_⟩=>by subst e;rfl
 |.Vs _ _ _ _ _ _,_,⟨_,_,_,_,_,_,_,_,_,e,_⟩=>by subst e;rfl
theorem CG.one{w:World}{g:G}{n:Nat}:∀{a:AV} {cs:APH Value},CG w g n false a cs->∀v∈cs,v.oneCell'=true
 |.AB _ _ _,_,h=>h.2.one
 |.zs,_,⟨_,e⟩=>by subst e;intro v hv;simp at hv;subst hv;rfl
 |.AG _,_,⟨_,e⟩=>by subst e;intro v hv;simp at hv;subst hv;rfl
 |.mp _,_,⟨_,_,_,e⟩=>by subst e;intro v hv;simp at hv;subst hv;rfl
 |.ptr _ _ _ _,_,⟨_,_,_,_,_,e⟩=>by subst e;intro v hv;simp at hv;subst hv;rfl
 |.Fv _ _ _,_,⟨_,_,_,_,e,_⟩=>by subst e;intro v hv;simp at hv;subst hv;rfl
 |.JU,_,h=>by cases h;intro v hv;simp at hv;subst hv;rfl
 |.pr a b,_,⟨_,_,e,h1,h2⟩=>by
  subst e;intro v hv;rcases List.mem_append.1 hv with hv |hv
  ·exact CG.one h1 v hv
  ·exact CG.one h2 v hv
 |.fn _ _,_,⟨_,e,_⟩=>by subst e;intro v hv;simp at hv;subst hv;rfl
 |.un _,_,h=>h.2
 |.cons _ _,_,h=>h.elim
 |.nil,_,h=>h.elim
 |.TA _ _ _ _ _,_,⟨_,_,_,_,_,_,_,e,h1,_⟩=>by grind
 |.Vs _ _ _ _ _ _,_,⟨_,_,_,_,_,_,_,_,_,e,_⟩=>by subst e;intro u hu;simp at hu;subst hu;rfl
theorem CG.scope{w:World}{g:G}{n:Nat}:∀{a:AV} {m:Bool} {cs:APH Value},CG w g n m a cs->∀k∈a.fb,k<n
 |.AB _ _ _,false,_,h,k,hk=>h.1 k hk
 |.pr a b,false,_,⟨_,_,_,h1,h2⟩,k,hk=>by
  rcases List.mem_append.1 hk with hk |hk
  ·exact CG.scope h1 k hk
  ·exact CG.scope h2 k hk
 |.zs,_,_,_,_,hk=>by cases hk
 |.AG _,_,_,_,_,hk=>by cases hk
 |.mp _,_,_,_,_,hk=>by cases hk
 |.ptr _ _ _ _,_,_,_,_,hk=>by cases hk
 |.Fv _ _ _,_,_,_,_,hk=>by cases hk
 |.JU,_,_,_,_,hk=>by cases hk
 |.fn _ _,_,_,_,_,hk=>by cases hk
 |.un _,_,_,_,_,hk=>by cases hk
 |.cons _ _,_,_,_,_,hk=>by cases hk
 |.nil,_,_,_,_,hk=>by cases hk
 |.TA _ _ _ _ _,_,_,_,_,hk=>by cases hk
 |.Vs _ _ _ _ _ _,_,_,_,_,hk=>by cases hk
 |.AB _ _ _,true,_,h,_,_=>h.elim
 |.pr _ _,true,_,h,_,_=>h.elim
section
variable {w:World} {g:G} {n:Nat}
theorem AlQ{A A':Nat->Prop}{w:World}{t:Ty}{x:t.V}{cs:APH Value}(h:HE w A t x cs)(ha:t.BP=false->∀b,A b->A' b):HE w A' t x cs:=by
 cases hf:t.BP with
 |true=>exact(HE.BP hf).2 ((HE.BP hf).1 h)
 |false=>exact h.mono λb a=>⟨ha hf b a,rfl⟩
theorem YE{ks:APH Nat}{t:Ty}(h:∀k∈ks,k<n):∀k∈ZO ks t,k<n:=by
 unfold ZO;grind
theorem YG{own:Nat->TT}{ks:APH Nat}{w:World}{t:Ty}{x:t.V}{cs:APH Value}(h:HE w (Al own ks) t x cs):HE w (Al own (ZO ks t)) t x cs :=
 AlQ h λhf b a=>by unfold ZO;rw[AMp (by grind)];exact a
theorem Yz{ks:APH Nat}(hk:∀k∈ks,k<n):∀(f:Nat) (t:Ty) (x:t.V) (cs:APH Value) (v:AV),HE w (Al g.own ks) t x cs->Xl ks t x f=some v ->
    ∃c0 c1 c2,cs=c0++c1++c2/\Ug t f=some c0.length/\CG w g n false v c1/\(∃u y,v=.AB (ZO ks u) u y/\HE w (Al g.own ks) u y c1) /\
     ∀v' a' SN,uf ks t x f v'=some a'->CG w g n false v' SN->CG w g n false a' (c0++SN++c2)
 |0,.AE a b,x,cs,v,⟨c,d,e,h1,h2⟩,hv=>by
  simp only[Xl,AL8]at hv;subst hv;refine⟨[],c,d,by grind,rfl,⟨YE hk,YG h1⟩,⟨a,x.1,rfl,h1⟩,?_⟩;intro v' a' SN hs tc;simp only[uf,AL8]at hs;subst hs;exact⟨SN,d,rfl,tc,YE hk,YG h2⟩
 |f+1,.AE a b,x,cs,v,⟨c,d,e,h1,h2⟩,hv=>by
  obtain⟨c0,c1,c2,e2,ho,hx,hu,hs⟩:=Yz hk f b x.2 d v h2 hv;refine⟨c++c0,c1,c2,by grind,?_,hx,hu,?_⟩
  ·simp only[Ug,ho,AMa,h1.len]
  ·intro v' a' SN fL tc;simp only[uf]at fL;split at fL
   ·rename_i r hr;simp only[AL8]at fL;subst fL;exact⟨c,c0++SN++c2,by grind,⟨YE hk,YG h1⟩,hs _ _ _ hr tc⟩
   ·grind
 |f,.int _,_,_,_,_,hv=>by simp[Xl]at hv
 |f,.bool,_,_,_,_,hv=>by simp[Xl]at hv
 |f,.str,_,_,_,_,hv=>by simp[Xl]at hv
 |f,.unit,_,_,_,_,hv=>by simp[Xl]at hv
 |f,.sl _,_,_,_,_,hv=>by simp[Xl]at hv
 |f,.QV _,_,_,_,_,hv=>by simp[Xl]at hv
theorem XH:∀(a:AV) (f:Nat) (cs:APH Value) (v:AV),CG w g n false a cs->a.Z6 f=some v ->
    ∃c0 c1 c2,cs=c0++c1++c2/\a.off f=some c0.length/\CG w g n false v c1 /\
     ∀v' a' SN,a.S7 f v'=some a'->CG w g n false v' SN->CG w g n false a' (c0++SN++c2)
 |.AB ks t x,f,cs,v,⟨hk,h⟩,hv=>by
  obtain⟨c0,c1,c2,e,ho,hx,_,hs⟩:=Yz  hk f t x cs v h (by simpa [AV.Z6]using hv);exact⟨c0,c1,c2,e,by simpa [AV.off]using ho,hx,λv' a' SN h1 h2=>hs v' a' SN (by simpa [AV.S7]using h1) h2⟩
 |.pr a b,0,cs,v,⟨c,d,e,h1,h2⟩,hv=>by
  simp only[AV.Z6,AL8]at hv;subst hv;refine⟨[],c,d,by grind,rfl,h1,?_⟩;intro v' a' SN hs tc;simp only[AV.S7,AL8]at hs;subst hs;exact⟨SN,d,rfl,tc,h2⟩
 |.pr a b,f+1,cs,v,⟨c,d,e,h1,h2⟩,hv=>by
  obtain⟨c0,c1,c2,e2,ho,hx,hs⟩:=XH b f d v h2 hv;refine⟨c++c0,c1,c2,by grind,?_,hx,?_⟩
  ·simp only[AV.off,ho,AMa,h1.len]
  ·intro v' a' SN fL tc;simp only[AV.S7]at fL;split at fL
   ·rename_i r hr;simp only[AL8]at fL;subst fL;exact⟨c,c0++SN++c2,by grind,h1,hs _ _ _ hr tc⟩
   ·grind
 |.zs,_,_,_,_,hv=>by simp[AV.Z6]at hv
 |.AG _,_,_,_,_,hv=>by simp[AV.Z6]at hv
 |.mp _,_,_,_,_,hv=>by simp[AV.Z6]at hv
 |.ptr _ _ _ _,_,_,_,_,hv=>by simp[AV.Z6]at hv
 |.Fv _ _ _,_,_,_,_,hv=>by simp[AV.Z6]at hv
 |.JU,_,_,_,_,hv=>by simp[AV.Z6]at hv
 |.fn _ _,_,_,_,_,hv=>by simp[AV.Z6]at hv
 |.un _,_,_,_,_,hv=>by simp[AV.Z6]at hv
 |.cons _ _,_,_,_,h,_=>h.elim
 |.nil,_,_,_,h,_=>h.elim
 |.TA _ _ _ _ _,_,_,_,_,hv=>by simp[AV.Z6]at hv
 |.Vs _ _ _ _ _ _,_,_,_,_,hv=>by simp[AV.Z6]at hv
theorem Rm:∀(p:APH Nat) (a:AV) (cs:APH Value) (v:AV),CG w g n false a cs->a.Vj p=some v ->
    ∃c0 c1 c2,cs=c0++c1++c2/\a.Abs p=some c0.length/\CG w g n false v c1 /\
     ∀v' a' SN,a.ZX p v'=some a'->CG w g n false v' SN->CG w g n false a' (c0++SN++c2)
 |[],a,cs,v,h,hv=>by
  simp only[AV.Vj,AL8]at hv;subst hv;refine⟨[],cs,[],by simp,rfl,h,?_⟩;intro v' a' SN hs tc;simp only[AV.ZX,AL8]at hs;subst hs;simpa using tc
 |f::p,a,cs,v,h,hv=>by
  simp only[AV.Vj]at hv;split at hv
  ·rename_i b hb;obtain⟨c0,c1,c2,e,ho,hx,hs⟩:=XH a f cs b h hb;obtain⟨d0,d1,d2,e2,zj,vq,Y1⟩:=Rm p b c1 v hx hv;refine⟨c0++d0,d1,d2++c2,by grind,?_,vq,?_⟩
   ·simp only[AV.Abs,hb,ho,zj,AMa]
   ·intro v' a' SN fL tc;simp only[AV.ZX,hb]at fL;split at fL
    ·grind
    ·grind
  ·grind
end
theorem BJ{t u:Ty}{x:t.V}{y:u.V}(h:IU t u x=some y):∃e:t=u,e▸x=y:=by
 unfold IU at h
 grind
def pK:Nat->APH Nat->APH Nat
 |0,L=>0::L
 |n+1,L=>pK n (1::L)
def UI:APH Nat->APH Nat->APH Nat
 |[],L=>L
 |f::p,L=>UI p (pK f L)
structure Rel where
 E:(t:Ty)->List Nat->t.V->List Value->Prop
 AE:∀{a b:Ty} {L:List Nat} {x:(Ty.AE a b).V} {cs:List Value},E (.AE a b) L x cs↔∃c d,cs=c++d/\E a (0::L) x.1 c/\E b (1::L) x.2 d
 len:∀{t:Ty} {L:List Nat} {x:t.V} {cs:List Value},E t L x cs->cs.length=t.size
def AC5(w:World)(A:Nat->Prop):Rel:=⟨λt _ x cs=>HE w A t x cs,Iff.rfl,HE.len⟩
def AlP(w:World)(own:Nat->TT)(k:Nat):Rel:=⟨λt L x cs=>Jo w own k t L x cs,Iff.rfl,Jo.len⟩
section
variable (Q:Rel)
theorem ng(F:∀u:Ty,u.V->APJ u.V)(kh:Ty->Nat->Prop)(D:APH Nat->APH Value->Prop)(sz:Nat)
    (hF:∀(u:Ty) (L:APH Nat) (x y:u.V) (cs:APH Value) (o:Nat),F u x=some y->kh u o->Q.E u L x cs ->
     ∃c0 c1 c2,cs=c0++c1++c2/\c0.length=o/\c1.length=sz/\∀SN,D L SN->Q.E u L y (c0++SN++c2)) :
    ∀(f:Nat) (t:Ty) (L:APH Nat) (x x':t.V) (cs:APH Value) (u:Ty) (o o':Nat),Rn t x f F=some x'->lb t f=some u->Ug t f=some o->kh u o'->Q.E t L x cs ->
     ∃c0 c1 c2,cs=c0++c1++c2/\c0.length=o+o'/\c1.length=sz/\∀SN,D (pK f L) SN->Q.E t L x' (c0++SN++c2)
 |0,.AE a b,L,x,x',cs,u,o,o',hs,hu,ho,hc,h=>by
  obtain⟨c,d,e,h1,h2⟩:=Q.AE.1 h;simp only[lb,AL8]at hu;subst hu;simp only[Ug,AL8]at ho;simp only[Rn]at hs;split at hs
  ·rename_i y hy;injection hs with hs;subst hs;obtain⟨c0,c1,c2,e2,hl,hz,hr⟩:=hF a _ x.1 y c o' hy hc h1;refine⟨c0,c1,c2++d,by grind,by omega,hz,λSN h=>Q.AE.2 ⟨c0++SN++c2,d,by grind,hr SN h,h2⟩⟩
  ·grind
 |f+1,.AE a b,L,x,x',cs,u,o,o',hs,hu,ho,hc,h=>by
  obtain⟨c,d,e,h1,h2⟩:=Q.AE.1 h;simp only[Ug]at ho;split at ho
  ·rename_i o2 zj;injection ho with ho;simp only[Rn]at hs;split at hs
   ·rename_i y hy;injection hs with hs;subst hs;obtain⟨c0,c1,c2,e2,hl,hz,hr⟩:=ng F kh D sz hF f b _ x.2 y d u o2 o' hy hu zj hc h2;refine⟨c++c0,c1,c2,by grind,by rw[AMa,Q.len h1];omega,hz,λSN h=>Q.AE.2 ⟨c,c0++SN++c2,by grind,h1,hr SN h⟩⟩
   ·grind
  ·grind
 |f,.int _,_,_,_,_,_,_,_,hs,_,_,_,_=>by simp[Rn]at hs
 |f,.bool,_,_,_,_,_,_,_,hs,_,_,_,_=>by simp[Rn]at hs
 |f,.str,_,_,_,_,_,_,_,hs,_,_,_,_=>by simp[Rn]at hs
 |f,.unit,_,_,_,_,_,_,_,hs,_,_,_,_=>by simp[Rn]at hs
 |f,.sl _,_,_,_,_,_,_,_,hs,_,_,_,_=>by simp[Rn]at hs
 |f,.QV _,_,_,_,_,_,_,_,hs,_,_,_,_=>by simp[Rn]at hs
theorem YL(u:Ty)(y:u.V):∀(p:APH Nat) (t:Ty) (L:APH Nat) (x x':t.V) (cs:APH Value) (o:Nat),Ss u y p t x=some x'->Lg t p=some o->Q.E t L x cs ->
    ∃c0 c1 c2,cs=c0++c1++c2/\c0.length=o/\c1.length=u.size/\∀SN,Q.E u (UI p L) y SN->Q.E t L x' (c0++SN++c2)
 |[],t,L,x,x',cs,o,hs,ho,h=>by
  simp only[Lg,AL8]at ho;subst ho;obtain⟨e,he⟩:=BJ hs;subst e;subst he;exact⟨[],cs,[],by simp,rfl,Q.len h,λSN h'=>by simpa [UI]using h'⟩
 |f::p,t,L,x,x',cs,o,hs,ho,h=>by
  simp only[Lg]at ho;split at ho
  ·rename_i t1 o1 h1 h2;split at ho
   ·rename_i o2 h3;injection ho with ho;subst ho;exact ng Q (λt' x'=>Ss u y p t' x') (λv o=>Lg v p=some o) (λL SN=>Q.E u _ y SN) _
     (λv L x1 y1 cs1 o' Q1 PQ dT=>YL u y p v L x1 y1 cs1 o' Q1 PQ dT) f t L x x' cs t1 o1 o2 hs h1 h2 h3 h
   ·grind
  ·grind
end
theorem Al.mem{own:Nat->TT}{ks:APH Nat}{k b:Nat}{p:APH Nat}(hk:k∈ks)(h:own b=.BO k p):Al own ks b:=.inr ⟨k,hk,p,h⟩
theorem Qe{w:World}{g:G}{bs:APH Blk}(H:Bf w g bs):∀(t:Ty) (a:AV) (x:t.V) (cs:APH Value),rd bs t a=some x->CG w g bs.length false a cs ->
    HE w (Al g.own (a.Ua bs)) t x cs/\∀k∈a.Ua bs,k<bs.length:=by
 have plain:∀(t:Ty) (ks:APH Nat) (u:Ty) (y:u.V) (x:t.V) (cs:APH Value),IU u t y=some x->CG w g bs.length false (.AB ks u y) cs->HE w (Al g.own ks) t x cs/\∀k∈ks,k<bs.length:=by
  intro t ks u y x cs h hx;obtain⟨e,he⟩:=BJ h;subst e;simp only at he;subst he;exact⟨hx.2,hx.1⟩
 intro t;induction t with
 |AE a b iha ihb =>
  intro av x cs h hx;simp only[rd]at h;split at h
  ·exact plain _ _ _ _ _ _ h hx
  ·rename_i u v;split at h
   ·rename_i y z hy hz;injection h with h;subst h;obtain⟨c,d,e,h1,h2⟩:=hx;have r1:=iha u y c hy h1;have r2:=ihb v z d hz h2;refine⟨⟨c,d,e,r1.1.mono λq hq=>⟨hq.mono λk hk=>AME _ hk,rfl⟩,r2.1.mono λq hq=>⟨hq.mono λk hk=>AMF _ hk,rfl⟩⟩,?_⟩;intro k hk;rcases List.mem_append.1 hk with hk |hk
    ·exact r1.2 k hk
    ·exact r2.2 k hk
   ·cases h
  ·cases h
 |sl t _ =>
  intro av x cs h hx;simp only[rd]at h;split at h
  ·exact plain _ _ _ _ _ _ h hx
  ·injection h with h;subst h;obtain⟨ad,e⟩:=hx;exact⟨⟨ad,0,[],e,AMc _,rfl,.inl rfl⟩,λk hk=>by cases hk⟩
  ·rename_i k;split at h
   ·rename_i e m u ys hb;obtain⟨e',he⟩:=BJ h;injection e' with e';subst e';simp only at he;subst he;obtain⟨hk,hc⟩:=hx;obtain⟨hm,hlen,PE,BU,hr⟩:=H.LP k _ hb;have zg:(AV.AG k).Ua bs=k::m.Ct:=by simp[AV.Ua,bR,hb]
    rw[zg];refine⟨?_,λj hj=>?_⟩
    ·rcases hr with ⟨hy,cW⟩|⟨b,BA,ds,ha,Cs,⟨el,_,hh⟩,h1,h2,h3,h4,NQ⟩
     ·subst hy;rw[hlen]at hc;exact⟨(g.AZ k).a,(g.AZ k).cap,[],hc,by simp,rfl,.inl rfl⟩
     ·rw[hlen]at hc;refine⟨(g.AZ k).a,(g.AZ k).cap,ds,hc,h1,?_,.inr ⟨b,0,ha,.mem (AMB) Cs,λj q hq=>?_⟩⟩
      ·cases m with
       |Aw=>exact NQ.toR λi y c r=>r.rd λb q hb=>.mem (AMB) hb
       |sh ks=>exact NQ.mono λy c r=>r.mono λb a=>⟨a.mono λj hj=>AMy _ hj,rfl⟩
      ·rw[PI hh,AMC,<-AMk];subst h4;rw[AM9]at hq;split at hq
       ·exact hq
       ·cases hq
    ·rcases List.mem_cons.1 hj with rfl |hj
     ·exact hk
     ·exact hm j hj
   ·cases h
  ·cases h
 |_ =>
  intro av x cs h hx;simp only[rd]at h;split at h
  ·exact plain _ _ _ _ _ _ h hx
  ·cases h
theorem Mn.step{Bz:APH Nat}{n n':Nat}{w w':World}{g g':G}(s:Step Bz n w g w' g')(hn:n<=n'){k:Nat}(hk:k<n)(hm:k∉Bz){b:Blk}(h:Mn w g n k b) :
    Mn w' g' n' k (b.drop λj=>Bz.contains j):=by
 cases b with
 |A9=>trivial
 |map m kt vt es st =>
  obtain⟨QT,b,He,DC,ha,ho,hh,RH,iN⟩:=h;simp only[Blk.drop];split
  ·trivial
  ·rename_i hb;have hd:∀j∈m.Ct,j∉Bz:=λj hj hc=>hb (List.any_eq_true.2 ⟨j,hj,by grind⟩);have hl:=s.BO b k [] ho hk hm;refine⟨λj hj=>AMI (QT j hj) hn,b,He,DC,by rw[s.AZ k hk];exact ha,hl.1,hl.2.trans hh,RH,iN.on λi x cs r=>?_⟩;cases m with
   |Aw=>exact Jo.mono (λb q hb=>s.BO b k _ hb hk hm) r
   |sh ks=>exact HE.mono (λb a=>a.step s QT hd) r
 |QU e t xs i p =>
  obtain⟨h1,h2,h3,h4,h5,u,o,x0,b,BA,ds,q1,q2,q3,ha,ho,⟨el,UF,hh⟩,c1,c2,c3,c4,hc⟩:=h;have hl:=s.BO b k [] ho hk hm;refine⟨by rw[s.AZ k hk];exact h1,by rw[s.AZ k hk];exact h2,h3,h4,h5,u,o,x0,b,BA,ds,q1,q2,q3,?_⟩;rw[s.AZ k hk];exact⟨ha,hl.1,⟨el,UF,hl.2.trans hh⟩,c1,c2,c3,c4,hc.mono λi x c r=>r.mono λb q hb=>s.BO b k _ hb hk hm⟩
 |tail e t xs =>
  obtain⟨hf,hlen,PE,BU,hr⟩:=h;refine⟨hf,by rw[s.AZ k hk];exact hlen,by rw[s.AZ k hk];exact PE,BU,?_⟩;rw[s.AZ k hk];refine hr.imp id λ⟨b,o,BA,ds,ha,ho,⟨el,UF,hh⟩,h1,h2,h3,h4,hc⟩=>?_;have hl:=s.BO b k [] ho hk hm;exact⟨b,o,BA,ds,ha,hl.1,⟨el,UF,hl.2.trans hh⟩,h1,h2,h3,h4,hc.mono λi x c r=>r.mono λb q hb=>s.BO b k _ hb hk hm⟩
 |box a =>
  obtain⟨h1,b,cs,e,ha,ho,hh,hx⟩:=h;have hl:=s.BO b k [] ho hk hm;refine⟨by rw[s.AZ k hk];exact h1,b,cs,e,by rw[s.AZ k hk];exact ha,hl.1,hl.2.trans hh,CG.step s hn a _ hx⟩
 |row e m t xs =>
  obtain⟨QT,hlen,PE,BU,hr⟩:=h;simp only[Blk.drop];split
  ·trivial
  ·rename_i hb;have hd:∀j∈m.Ct,j∉Bz:=λj hj hc=>hb (List.any_eq_true.2 ⟨j,hj,by grind⟩);refine⟨λj hj=>AMI (QT j hj) hn,by rw[s.AZ k hk];exact hlen,by rw[s.AZ k hk];exact PE,BU,?_⟩;rw[s.AZ k hk];refine hr.imp id λ⟨b,BA,ds,ha,ho,⟨el,UF,hh⟩,h1,h2,h3,h4,hc⟩=>?_;have hl:=s.BO b k [] ho hk hm;refine⟨b,BA,ds,ha,hl.1,⟨el,UF,hl.2.trans hh⟩,h1,h2,h3,h4,?_⟩;cases m with
   |Aw=>exact hc.mono λi x c r=>r.mono λb q hb=>s.BO b k _ hb hk hm
   |sh ks=>exact hc.mono λx c r=>r.mono λb a=>a.step s QT hd
theorem au(b:Blk):(b.drop λ_=>false)=b:=by
 cases b with
 |box a=>simp[Blk.drop,aK]
 |row e m t xs=>simp[Blk.drop]
 |map m kt vt es st=>simp[Blk.drop]
 |QU e t xs i p=>rfl
 |tail e t xs=>rfl
 |A9=>rfl
theorem Mn.QJ{n n':Nat}{w w':World}{g g':G}(s:Step [] n w g w' g')(hn:n<=n'){k:Nat}(hk:k<n){b:Blk}(h:Mn w g n k b):Mn w' g' n' k b:=by
 have:=h.step s hn hk (by simp);rwa [show(λk=>[].contains k)=λ_=>false from funext λ_=>rfl,au]at this
theorem A3{α:Type}{l:APH α}{k:Nat}{x:α}(h:l[k]?=some x):k<l.length:=by
 grind
theorem Bf.QJ{w w':World}{g g':G}{bs:APH Blk}(H:Bf w g bs)(s:Step [] bs.length w g w' g')(hf:∀b,w'.heap.size<=b->g'.own b=.no):Bf w' g' bs :=
 ⟨hf,λk x hx=>(H.LP k x hx).QJ s (AMc _) (A3 hx)⟩
theorem Bf.drew{w:World}{g:G}{bs:APH Blk}(H:Bf w g bs):Bf w.drew g bs:=H.QJ (Step.drew _ _ _ _) H.BZ
theorem Bf.push{w w':World}{g g':G}{bs:APH Blk}(H:Bf w g bs)(s:Step [] bs.length w g w' g')(hf:∀b,w'.heap.size<=b->g'.own b=.no){b:Blk}(hb:Mn w' g' (bs.length+1) bs.length b) :
    Bf w' g' (bs++[b]) :=
 ⟨hf,λk x hx=>by
  rw[AMa];rw[AMw]at hx;split at hx
  ·exact(H.LP k x hx).QJ s (AMH _) (A3 hx)
  grind⟩
def zeroV:Value->Value->Bool
 |.int k n,.int k' m=>k==k'&&n==m
 |.bool a,.bool b=>a==b
 |.string s,.string t=>s.data.toList==t.data.toList
 |.slice none 0 0,.slice none 0 0=>true
 |.pointer none,.pointer none=>true
 |.map none,.map none=>true
 |.nilFunc,.nilFunc=>true
 |_,_=>false
theorem Ahr{a b:Value}(h:zeroV a b=true):a=b:=by
 unfold zeroV at h;split at h
 ·grind
 ·grind
 ·rename_i s t;have :=by simpa using h
  cases s;simp at this;rw[this]
 ·rfl
 ·rfl
 ·rfl
 ·rfl
 ·grind
def zX:APH Value->APH Value->Bool
 |[],[]=>true
 |a::r,b::s=>zeroV a b&&zX r s
 |_,_=>false
theorem uQ:∀{a b:APH Value},zX a b=true->a=b
 |[],[],_=>rfl
 |a::r,b::s,h=>by
  simp only[zX,AMd]at h;rw[Ahr h.1,uQ h.2]
 |[],_::_,h=>by cases h
 |_::_,[],h=>by cases h
def Aio:TypeDesc->Bool
 |.struct _=>true
 |.array _ _=>true
 |_=>false
def AAy(P:Program)(t:Nat)(u:Ty):Bool:=match P.underlying t with |some d=>Aio d==u.isAgg |none=>false
def OU(P:Program)(ty:Ty):Nat->APH Field->APH Nat->Bool
 |_,[],[]=>true
 |i,f::fs,o::os=>f.offset==o&&Ug ty i==some o&&(match lb ty i with |some u=>(P.info? f.type).map (·.size)==some u.size&&u.size !=0&&AAy P f.type u |none=>false)&&OU P ty (i+1) fs os
 |_,_,_=>false
def kindOk(P:Program)(ti:TI):TypeDesc->Bool
 |.int k=>ti.ty==.int k
 |.bool=>ti.ty==.bool
 |.string=>ti.ty==.str
 |.slice e=>ti.elem==e&&(match ti.ty with |.sl _=>true |_=>false)
 |.struct fs=>ti.ty.isAgg&&OU P ti.ty 0 fs.toList ti.V8
 |.array _ _=>ti.ty.isAgg
 |.pointer _=>(match ti.ty with |.QV _=>true |_=>false)
 |.map _ _=>(match ti.ty with |.QV _=>true |_=>false)
 |.func _ _ _=>(match ti.ty with |.QV _=>true |_=>false)
 |_=>false
def VQ(P:Program):Ty->Nat->APH Field->Bool
 |.unit,_,[]=>true
 |.AE a b,o,f::fs=>f.name !="_"&&f.offset==o&&(match a,P.underlying f.type with |.int k,some (.int k')=>k==k' |.bool,some .bool=>true |.str,some .string=>true |_,_=>false)&&VQ P b (o+1) fs
 |_,_,_=>false
def AeL(P:Program)(t:Nat)(ty:Ty):Bool:=match P.underlying t with
 |some (.struct fs)=>!P.stoodInHeld t&&!P.eqGuardType P.depth t&&VQ P ty 0 fs.toList
 |_=>false
def As0(P:Program)(t:Nat)(ti:TI):Bool :=
 (match P.info? t with
  |some i=>i.size==ti.ty.size&&i.bytes==ti.bytes&&(match i.zero with |some z=>zX z.cells.toList (QM ti.ty)&&(match z with |.agg _=>ti.ty.isAgg |_=>!ti.ty.isAgg)|none=>false)
  |none=>false) &&
 (match P.underlying t with |some d=>kindOk P ti d&&(match d with |.struct _=>true |_=>ti.V8.isEmpty)&&(match d with |.array n e=>ti.He==n&&ti.elem==e |_=>ti.He==0)&&(match d with |.map k e=>ti.N5==k&&ti.elem==e |_=>ti.N5==0)&&(!ti.eqs||AeL P t ti.ty)|none=>false)
def eH(P:Program):yg->Bool
 |[]=>true
 |(t,ti)::r=>As0 P t ti&&eH P r
theorem zK{P:Program}:∀{DU:yg} {t:Nat} {ti:TI},eH P DU=true->DU.get t=some ti->As0 P t ti=true
 |[],_,_,_,h=>by cases h
 |(k,i)::r,t,ti,ho,h=>by
  simp only[eH,AMd]at ho;simp only[yg.get]at h;split at h
  ·grind
  ·exact zK ho.2 h
structure ES (P:Program) (t:Nat) (ti:TI):Prop where
 info:∃i z,P.info? t=some i/\i.size=ti.ty.size/\i.bytes=ti.bytes/\i.zero=some z/\z.cells.toList=QM ti.ty/\((∃c,z=.agg c)↔ti.ty.isAgg=true)
 eM:∃d,P.underlying t=some d/\kindOk P ti d=true
 V8:(∃fs,P.underlying t=some (.struct fs))\/ti.V8=[]
 He:ti.He≠0->P.underlying t=some (.array ti.He ti.elem)
 eqs:ti.eqs=true->AeL P t ti.ty=true
 mp:ti.N5≠0->P.underlying t=some (.map ti.N5 ti.elem)
theorem ES.of{P:Program}{DU:yg}{t:Nat}{ti:TI}(ho:eH P DU=true)(h:DU.get t=some ti):ES P t ti:=by
 have h1:=zK ho h;unfold As0 at h1;rw[AMd]at h1;obtain⟨h1,h2⟩:=h1;constructor
 ·split at h1
  ·rename_i i hi;simp only[AMd,ANf]at h1;obtain⟨⟨h3,h4⟩,h5⟩:=h1;split at h5
   ·rename_i z hz;rw[AMd]at h5;refine⟨i,z,hi,h3,h4,hz,uQ h5.1,?_⟩
    grind
   ·grind
  ·grind
 ·grind
 ·grind
 ·grind
 ·grind
 grind
section
variable {w:World} {g:G} {n:Nat} {v:Value}
theorem B3{a:AV}(ht:a.Dj=false)(hu:a.NC=false)(h:B4 w g n a v):∃cs,CG w g n false a cs/\Cr a.isAgg cs v:=by
 rw[B4.iff ht]at h
 grind
theorem Bs{a:AV}(ht:a.Dj=false){cs:APH Value}(h:CG w g n false a cs)(hv:Cr a.isAgg cs v):B4 w g n a v:=(B4.iff ht).2 (.inr ⟨cs,h,hv⟩)
theorem Dx{ks:APH Nat}{k:IntKind}{x:Int}(h:B4 w g n (.AB ks (.int k) x) v):v=.int k x:=by
 obtain⟨cs,h,hv⟩:=B3 rfl rfl h;have e :=h.2;subst e;simpa [Ty.isAgg]using hv.symm
theorem R3{ks:APH Nat}{x:Bool}(h:B4 w g n (.AB ks .bool x) v):v=.bool x:=by
 obtain⟨cs,h,hv⟩:=B3 rfl rfl h;have e :=h.2;subst e;simpa [Ty.isAgg]using hv.symm
theorem Wp{ks:APH Nat}{x:ByteArray}(h:B4 w g n (.AB ks .str x) v):v=.string x:=by
 obtain⟨cs,h,hv⟩:=B3 rfl rfl h;have e :=h.2;subst e;simpa [Ty.isAgg]using hv.symm
theorem Zu{ks:APH Nat}{t:Ty}{xs:APH t.V}(h:B4 w g n (.AB ks (.sl t) xs) v):(∀k∈ks,k<n)/\∃ad cap ds,v=.slice ad xs.length cap/\xs.length<=cap/\CH (HE w (Al g.own ks) t) xs ds /\
    (xs=[]\/∃b off,ad=some ⟨b,off,none⟩/\Al g.own ks b/\∀j u,ds[j]?=some u->w.cell? ⟨b,off+j,none⟩=some u):=by
 obtain⟨cs,⟨hk,ad,cap,ds,e,h1,h2,h3⟩,hv⟩:=B3 rfl rfl h;subst e;exact⟨hk,ad,cap,ds,by simpa [Ty.isAgg]using hv.symm,h1,h2,h3⟩
theorem Xy(h:B4 w g n .zs v):∃ad,v=.slice ad 0 0:=by
 obtain⟨cs,⟨ad,e⟩,hv⟩:=B3 rfl rfl h;subst e;exact⟨ad,by simpa [AV.isAgg]using hv.symm⟩
theorem Fe{k:Nat}(h:B4 w g n (.AG k) v):k<n/\v=.slice (g.AZ k).a (g.AZ k).len (g.AZ k).cap:=by
 obtain⟨cs,⟨hk,e⟩,hv⟩:=B3 rfl rfl h;subst e;exact⟨hk,by simpa [AV.isAgg]using hv.symm⟩
theorem K1{k:Nat}{i:Int}{p:APH Nat}{o:Nat}(h:B4 w g n (.ptr k i p o) v):k<n/\0<=i/\i.toNat<(g.AZ k).len/\∃b,(g.AZ k).a=some ⟨b,0,none⟩/\v=.pointer (some ⟨b,i.toNat*(g.AZ k).lQ+o,none⟩):=by
 obtain⟨cs,⟨hk,h0,h1,b,hb,e⟩,hv⟩:=B3 rfl rfl h;subst e;exact⟨hk,h0,h1,b,hb,by simpa [AV.isAgg]using hv.symm⟩
theorem Yk{ks:APH Nat}{t:Ty}{x:t.V}(h:B4 w g n (.Fv ks t x) v):(∀k∈ks,k<n)/\∃b off ds,v=.pointer (some ⟨b,off,none⟩)/\Al g.own ks b/\HE w (Al g.own ks) t x ds/\∀j u,ds[j]?=some u->w.cell? ⟨b,off+j,none⟩=some u:=by
 obtain⟨cs,⟨hk,b,off,ds,e,h1,h2,h3⟩,hv⟩:=B3 rfl rfl h;subst e;exact⟨hk,b,off,ds,by simpa [AV.isAgg]using hv.symm,h1,h2,h3⟩
theorem AfZ(k:IntKind)(x:Int):B4 w g n (.int k x) (.int k x):=Bs rfl  ⟨λ_ h=>by grind,rfl⟩ (by simp[Cr,AV.isAgg,Ty.isAgg])
theorem bu(x:Bool):B4 w g n (.bool x) (.bool x):=Bs rfl  ⟨λ_ h=>by grind,rfl⟩ (by simp[Cr,AV.isAgg,Ty.isAgg])
theorem Af0(x:ByteArray):B4 w g n (.str x) (.string x):=Bs rfl  ⟨λ_ h=>by grind,rfl⟩ (by simp[Cr,AV.isAgg,Ty.isAgg])
theorem mz(ad:APJ Addr):B4 w g n .zs (.slice ad 0 0):=Bs rfl  ⟨ad,rfl⟩ (by simp[Cr,AV.isAgg])
theorem QK{k:Nat}:B4 w g n (.un k) v:=(B4.iff rfl).2 (.inl rfl)
theorem dj{ks:APH Nat}{t:Ty}{x:t.V}{b off:Nat}{ds:APH Value}(hk:∀k∈ks,k<n)(h1:Al g.own ks b)(h2:HE w (Al g.own ks) t x ds)(h3:∀j u,ds[j]?=some u->w.cell? ⟨b,off+j,none⟩=some u) :
    B4 w g n (.Fv ks t x) (.pointer (some ⟨b,off,none⟩)):=Bs rfl  ⟨hk,b,off,ds,rfl,h1,h2,h3⟩ (by simp[Cr,AV.isAgg])
theorem di{k:Nat}{i:Int}{p:APH Nat}{o b:Nat}(hk:k<n)(h0:0<=i)(h1:i.toNat<(g.AZ k).len)(hb:(g.AZ k).a=some ⟨b,0,none⟩) :
    B4 w g n (.ptr k i p o) (.pointer (some ⟨b,i.toNat*(g.AZ k).lQ+o,none⟩)):=Bs rfl  ⟨hk,h0,h1,b,hb,rfl⟩ (by simp[Cr,AV.isAgg])
end
section
variable {P:Program} {w:World} {g:G} {n:Nat} {R:Type}
def UM(P:Program)(w:World)(g:G)(n:Nat)(s:Sem Value)(z:AV):Prop:=∃c,s.run P w=.ok c w/\B4 w g n z c
theorem B7{s:Sem Value}{k:IntKind}{x:Int}(h:s.run P w=.ok (.int k x) w):UM P w g n s (.int k x):=⟨_,h,AfZ k x⟩
theorem Dl{s:Sem Value}{x:Bool}(h:s.run P w=.ok (.bool x) w):UM P w g n s (.bool x):=⟨_,h,bu x⟩
theorem YA{s:Sem Value}{x:ByteArray}(h:s.run P w=.ok (.string x) w):UM P w g n s (.str x):=⟨_,h,Af0 x⟩
theorem Ais{op:BinOp}{x y:AV}{u v:Value}{K:AV->APJ R}{r:R}{tb:Bool}(t:TypeId)(ox oy:Operand)(htb:tb=true->P.underlying t=some .bool)(h:od op tb x y K=some r)(hx:B4 w g n x u)(hy:B4 w g n y v) :
    ∃z,K z=some r/\UM P w g n (do eqGuard op t ox oy u v;binOp op t u v) z:=by
 unfold od at h;split at h
 ·rename_i ks k a Tv k' b;obtain rfl:=Dx hx;obtain rfl:=Dx hy;split at h
  ·split at h
   ·cases h
   ·rename_i hb;exact⟨_,h,B7 (by simp[eqGuard,binOp,Op.shift,hb,N6])⟩
  ·split at h
   ·cases h
   ·rename_i hb;exact⟨_,h,B7 (by simp[eqGuard,binOp,Op.shift,hb,Ro])⟩
  ·split at h
   ·rename_i hk;subst hk;cases op<;>simp only[reduceCtorEq]at h
    case add=>exact⟨_,h,B7 (by simp[eqGuard,binOp,Op.intArith])⟩
    case sub=>exact⟨_,h,B7 (by simp[eqGuard,binOp,Op.intArith])⟩
    case mul=>exact⟨_,h,B7 (by simp[eqGuard,binOp,Op.intArith])⟩
    case quo =>
     split at h
     ·cases h
     ·rename_i hb;exact⟨_,h,B7 (by simp[eqGuard,binOp,Op.intDiv,hb])⟩
    case rem =>
     split at h
     ·cases h
     ·rename_i hb;exact⟨_,h,B7 (by simp[eqGuard,binOp,Op.intDiv,hb])⟩
    case and=>exact⟨_,h,B7 (by simp[eqGuard,binOp,Op.intBits,fa])⟩
    case or=>exact⟨_,h,B7 (by simp[eqGuard,binOp,Op.intBits,fq])⟩
    case xor=>exact⟨_,h,B7 (by simp[eqGuard,binOp,Op.intBits,As7])⟩
    case andNot=>exact⟨_,h,B7 (by simp[eqGuard,binOp,Op.intBits,yj])⟩
    case eql=>exact⟨_,h,Dl (by simp[eqGuard,binOp,Op.intCmp])⟩
    case neq=>exact⟨_,h,Dl (by simp[eqGuard,binOp,Op.intCmp])⟩
    case lss=>exact⟨_,h,Dl (by simp[eqGuard,binOp,Op.intCmp])⟩
    case leq=>exact⟨_,h,Dl (by simp[eqGuard,binOp,Op.intCmp])⟩
    case gtr=>exact⟨_,h,Dl (by simp[eqGuard,binOp,Op.intCmp])⟩
    case geq=>exact⟨_,h,Dl (by simp[eqGuard,binOp,Op.intCmp])⟩
   ·cases h
 ·rename_i ks a Tv b;obtain rfl:=Wp hx;obtain rfl:=Wp hy;cases op<;>simp only[reduceCtorEq]at h
  case add =>
   split at h
   ·rename_i hb;refine⟨_,h,YA ?_⟩;have:¬(((a.size+b.size:Nat):Int)>IntKind.i64.max):=by simp[IntKind.max,IntKind.signed,IntKind.bits];omega
    simp[eqGuard,binOp,Op.stringOp];omega
   ·cases h
  case eql=>exact⟨_,h,Dl (by simp[eqGuard,binOp,Op.stringOp,Iu])⟩
  case neq=>exact⟨_,h,Dl (by simp[eqGuard,binOp,Op.stringOp,Iu])⟩
  case lss=>exact⟨_,h,Dl (by simp[eqGuard,binOp,Op.stringOp,strLt])⟩
  case leq=>exact⟨_,h,Dl (by simp[eqGuard,binOp,Op.stringOp,strLt,Iu])⟩
  case gtr=>exact⟨_,h,Dl (by simp[eqGuard,binOp,Op.stringOp,strLt,Iu])⟩
  case geq=>exact⟨_,h,Dl (by simp[eqGuard,binOp,Op.stringOp,strLt])⟩
 ·rename_i ks a Tv b;obtain rfl:=R3 hx;obtain rfl:=R3 hy;split at h
  ·rename_i hb;have hu:=htb hb;have he:(Op.equal t (.bool a) (.bool b)).run P w=.ok (a==b) w:=run_equal_bool w t a b hu;cases op<;>simp only[reduceCtorEq]at h
   case eql=>exact⟨_,h,Dl (by simp[eqGuard,binOp,he])⟩
   case neq=>exact⟨_,h,Dl (by simp[eqGuard,binOp,he])⟩
  ·cases h
 ·cases h
theorem As2{op:UnOp}{x:AV}{u:Value}{K:AV->APJ R}{r:R}(h:unA op x K=some r)(hx:B4 w g n x u) :
    ∃z,K z=some r/\UM P w g n (Op.unary op u) z:=by
 unfold unA at h;split at h
 ·obtain rfl:=R3 hx;split at h
  ·exact⟨_,h,Dl (by simp[Op.unary])⟩
  ·grind
 ·obtain rfl:=Dx hx;split at h
  ·exact⟨_,h,B7 (by simp[Op.unary,Op.intArith])⟩
  ·exact⟨_,h,B7 (by rfl)⟩
  ·grind
 ·grind
variable {bs:APH Blk}
theorem Bw{t:Nat}{ti:TI}(h:ES P t ti)(hs:ti.Eh=true):P.underlying t=some (.slice ti.elem):=by
 obtain⟨d,hd,hk⟩:=h.eM;unfold TI.Eh at hs;split at hs
 ·rename_i u hu;rw[hd];cases d<;>simp[kindOk,hu,Ty.isAgg]at hk;rw[hk]
 ·grind
theorem RA{t:Nat}{ti:TI}(h:ES P t ti)(hs:ti.ty=.str):P.underlying t=some .string:=by
 obtain⟨d,hd,hk⟩:=h.eM;rw[hd];cases d<;>simp[kindOk,hs,Ty.isAgg]at hk;rfl
theorem wo{t:Nat}{ti:TI}(h:ES P t ti)(hs:ti.ty=.bool):P.underlying t=some .bool:=by
 obtain⟨d,hd,hk⟩:=h.eM;rw[hd];cases d<;>simp[kindOk,hs,Ty.isAgg]at hk;rfl
theorem DL{t:Nat}{ti:TI}(h:ES P t ti):(sizeOf t).run P w=.ok ti.ty.size w:=by
 obtain⟨i,z,hi,hs,_⟩:=h.info;simp[sizeOf,typeInfo,hi,hs]
theorem ai{t:Nat}{ti:TI}(h:ES P t ti):(isAgg t).run P w=.ok ti.ty.isAgg w:=by
 obtain⟨d,hd,hk⟩:=h.eM;cases d<;>simp[isAgg,underlying,hd,kindOk]at hk⊢
 case int=>rw[hk];rfl
 case bool=>rw[hk];rfl
 case string=>rw[hk];rfl
 case slice =>
  obtain⟨_,hk⟩:=hk;split at hk
  ·rename_i u hu;rw[hu];rfl
  ·grind
 case array=>grind
 case struct=>grind
 case pointer =>
  split at hk
  ·rename_i u hu;rw[hu];rfl
  ·grind
 case map =>
  split at hk
  ·rename_i u hu;rw[hu];rfl
  ·grind
 case func =>
  split at hk
  ·rename_i u hu;rw[hu];rfl
  ·grind
theorem Aj7(H:Bf w g bs){t:Nat}{ti:TI}(ht:ES P t ti){x:AV}{u:Value}{K:AV->APJ R}{r:R}(h:pM bs ti x K=some r)(hx:B4 w g bs.length x u)(ty:TypeId)(ts:Array TypeId)(Zc:ts[0]?=some t) :
    ∃z,K z=some r/\UM P w g n (Builtin.len_ ts ty #[u]) z:=by
 unfold pM at h;split at h
 ·split at h
  ·rename_i hs;obtain⟨_,ad,cap,ds,rfl,_⟩:=Zu hx;exact⟨_,h,B7 (by simp[Builtin.len_,Zc,underlying,Bw ht hs,goInt])⟩
  ·cases h
 ·split at h
  ·rename_i hs;obtain rfl:=Wp hx;exact⟨_,h,B7 (by simp[Builtin.len_,Zc,underlying,RA ht hs,goInt])⟩
  ·cases h
 ·split at h
  ·rename_i hs;obtain⟨ad,rfl⟩:=Xy hx;exact⟨_,h,B7 (by simp[Builtin.len_,Zc,underlying,Bw ht hs,goInt])⟩
  ·cases h
 ·rename_i k;split at h
  ·rename_i e m t' xs hb;split at h
   ·rename_i hs;obtain⟨hk,rfl⟩:=Fe hx;have hl:=(H.LP k _ hb).2.1;exact⟨_,h,B7 (by simp[Builtin.len_,Zc,underlying,Bw ht hs,goInt,hl])⟩
   ·cases h
  ·rename_i e t' xs i p hb;split at h
   ·rename_i hs;obtain⟨hk,rfl⟩:=Fe hx;have hl:=(H.LP k _ hb).1;exact⟨_,h,B7 (by simp[Builtin.len_,Zc,underlying,Bw ht hs,goInt,hl])⟩
   ·cases h
  ·cases h
 ·cases h
theorem AsJ{mx:Bool}{x y:AV}{u v:Value}{K:AV->APJ R}{r:R}(h:mmA mx x y K=some r)(hx:B4 w g n x u)(hy:B4 w g n y v)(ty:TypeId)(ts:Array TypeId) :
    ∃z,K z=some r/\UM P w g n (if mx then Builtin.max_ ts ty #[u,v]else Builtin.min_ ts ty #[u,v]) z:=by
 unfold mmA at h;split at h
 ·obtain rfl:=Dx hx;obtain rfl:=Dx hy;split at h
  ·rename_i hk;refine⟨_,h,B7 ?_⟩;cases mx
   ·simp[Builtin.min_,Builtin.min2]
   ·simp[Builtin.max_,Builtin.max2]
  ·grind
 ·grind
theorem Wk{i:Int}{n:Nat}(h:0<=i/\i<(n:Int)):i.toNat<n:=by omega
theorem YY(b o i:Nat):(⟨b,o,none⟩:Addr).add i=⟨b,o+i,none⟩:=by unfold Addr.add;split<;>simp_all
theorem Sm{t:Nat}{ti:TI}(h:ES P t ti){b off:Nat}{cs:APH Value}(hl:cs.length=ti.ty.size)(hc:∀j u,cs[j]?=some u->w.cell? ⟨b,off+j,none⟩=some u)(hs:ti.ty.isAgg=false->cs.length=1) :
    ∃v,(loadVar t ⟨b,off,none⟩).run P w=.ok v w/\Cr ti.ty.isAgg cs v:=by
 unfold loadVar;cases ha:ti.ty.isAgg with
 |true =>
  have hr:=run_loadCells_list (P:=P) w _ cs (λj u hu=>by rw[YY];exact hc j u hu);rw[hl]at hr;exact⟨.agg cs.toArray,by simp[ai h,ha,DL h,hr],by simp[Cr]⟩
 |false =>
  have h1:=hs ha;obtain⟨c,rfl⟩:∃c,cs=[c]:=by
   cases cs with
   |nil=>grind
   |cons c r=>grind
  have Hf:=hc 0 c rfl;rw[AOa]at Hf;exact⟨c,by simp[ai h,ha,Hf],by simp[Cr]⟩
theorem Sv{t:Ty}(h:t.isAgg=false):t.size=1:=by cases t<;>simp_all [Ty.isAgg,Ty.size]
theorem AJ{t:Ty}(xs:APH t.V)(i:Nat)(z:t.V)(h:i<xs.length):xs.getD i z=xs[i]:=by grind
theorem Adi(H:Bf w g bs){k:Nat}{i:Int}{a:AV}(h:atB bs k i=some a)(hi:i.toNat<(g.AZ k).len){b:Nat}(hb:(g.AZ k).a=some ⟨b,0,none⟩) :
    ∃cs,CG w g bs.length false a cs/\∀j u,cs[j]?=some u->w.cell? ⟨b,i.toNat*(g.AZ k).lQ+j,none⟩=some u:=by
 unfold atB at h;split at h
 ·rename_i a' hx;injection h with h;subst h;obtain⟨h1,b',cs,e,ha,ho,hh,hr⟩:=H.LP k _ hx;rw[hb]at ha;injection ha with ha;injection ha with ha;subst ha;refine⟨cs.toList,hr,λj u hu=>?_⟩;have:i.toNat=0:=by omega
  rw[this,Nat.zero_mul,AMC,PI hh,<-AMk];exact hu
 ·rename_i e m t xs hx;injection h with h;subst h;obtain⟨QT,hlen,PE,BU,hr⟩:=H.LP k _ hx;have Bm:=A3 hx;rw[hlen]at hi;rcases hr with ⟨Zd,_⟩|⟨b',BA,ds,ha,ho,⟨el,UF,hh⟩,h1,h2,h3,h4,hc⟩
  ·grind
  ·rw[hb]at ha;injection ha with ha;injection ha with ha;subst ha;rw[AJ _ _ _ hi,PE];have DF:∀j u,ds[j]?=some u->w.cell? ⟨b,j,none⟩=some u:=by
    intro j u hu;rw[PI hh,<-AMk]
    grind
   cases m with
   |Aw =>
    obtain⟨c0,c,d,e1,hl,hr,_,_⟩:=Bi.AZ (λi x c h=>Jo.len h) hc hi;refine⟨c,⟨YE (λj hj=>by grind),YG (hr.rd λb q hq=>.mem (List.mem_singleton.2 rfl) hq)⟩,λj u hu=>?_⟩;refine DF _ u ?_;rw[e1,<-hl,AMe,AMs (by omega),show c0.length+j-c0.length=j by omega,AMt (A3 hu)];exact hu
   |sh ks =>
    obtain⟨c0,c,d,e1,hl,hr,_,_⟩:=CH.AZ (λx c h=>HE.len h) hc hi;refine⟨c,⟨YE QT,YG hr⟩,λj u hu=>?_⟩;refine DF _ u ?_;rw[e1,<-hl,AMe,AMs (by omega),show c0.length+j-c0.length=j by omega,AMt (A3 hu)];exact hu
 ·grind
theorem VK(H:Bf w g bs){k:Nat}{i:Int}{p:APH Nat}{o:Nat}{a:AV}(h:atP bs k i p o=some a)(hi:i.toNat<(g.AZ k).len){b:Nat}(hb:(g.AZ k).a=some ⟨b,0,none⟩) :
    ∃cs,CG w g bs.length false a cs/\∀j u,cs[j]?=some u->w.cell? ⟨b,i.toNat*(g.AZ k).lQ+o+j,none⟩=some u:=by
 unfold atP at h;split at h
 ·rename_i c hc;split at h
  ·rename_i ho;obtain⟨cs,hx,DF⟩:=Adi H hc hi hb;obtain⟨c0,c1,c2,e,zj,iR,_⟩:=Rm p c cs a hx h
   grind
  ·grind
 ·grind
theorem Vr{a:AV}{cs:APH Value}(h:CG w g n false a cs):a.Dj=false:=by cases a<;>first |rfl |exact h.elim
theorem AfR(H:Bf w g bs){t:Nat}{ti:TI}(ht:ES P t ti){x:AV}{u:Value}{K:AV->APJ R}{r:R}(h:Zi bs ti x K=some r)(hx:B4 w g bs.length x u) :
    ∃z,K z=some r/\UM P w g bs.length (Instr.loadAt t u) z:=by
 unfold Zi at h;split at h
 ·split at h
  ·rename_i he;subst he;obtain⟨hk,b,off,ds,rfl,ha,hr,hc⟩:=Yk hx;obtain⟨v,hv,hs⟩:=Sm  ht hr.len hc (λhg=>by rw[hr.len];exact Sv hg);exact⟨_,h,v,by simp[Instr.loadAt,Instr.sureAddr,hv],Bs rfl  ⟨YE hk,YG hr⟩ hs⟩
  ·grind
 ·split at h
  ·rename_i a ha;split at h
   ·rename_i hs;obtain⟨hk,h0,h1,b,hb,rfl⟩:=K1 hx;obtain⟨cs,kC,DF⟩:=VK H ha h1 hb;obtain⟨v,hv,qT⟩:=Sm  ht (by rw[kC.len,hs.1]) DF (λhg=>by rw[kC.len,hs.1];exact Sv hg);rw[<-hs.2]at qT;exact⟨_,h,v,by simp[Instr.loadAt,Instr.sureAddr,hv],Bs (Vr kC) kC qT⟩
   ·grind
  ·grind
 ·grind
theorem AjW(H:Bf w g bs){t:Nat}{ti te:TI}(ht:ES P t ti)(D9:ES P ti.elem te)(hs:ti.Eh=true){x y:AV}{u v:Value}{K:AV->APJ R}{r:R}(h:wW bs te.ty x y K=some r)(hx:B4 w g bs.length x u)(hy:B4 w g bs.length y v) :
    ∃z,K z=some r/\UM P w g bs.length (Instr.indexAt t u v) z:=by
 have hu:=Bw ht hs;unfold wW at h;split at h
 ·rename_i ks t' xs Tv k i;split at h
  ·rename_i he;subst he;split at h
   ·rename_i hi;obtain rfl:=Dx hy;obtain⟨hk,ad,cap,ds,rfl,hl,hr,hm⟩:=Zu hx;have Bm:i.toNat<xs.length:=Wk hi;rcases hm with hm |⟨b,off,rfl,ha,hc⟩
    ·subst hm;simp at Bm
    ·obtain⟨c0,c,d,e1,iM,dT,_,_⟩:=CH.AZ (λx c h=>HE.len h) hr Bm;refine⟨_,h,.pointer (some ⟨b,off+i.toNat*te.ty.size,none⟩),?_,?_⟩
     ·simp[Instr.indexAt,asIntOf,underlying,hu,hi.1,hi.2,DL D9,YY]
     ·rw[AJ _ _ _ Bm];refine dj hk ha dT λj q hq=>?_;rw[<-iM,ANa];refine hc _ q ?_;rw[e1,AMe,AMs (by omega),show c0.length+j-c0.length=j by omega,AMt (A3 hq)];exact hq
   ·cases h
  ·cases h
 ·rename_i k Tv kk i;split at h
  ·rename_i e m t' xs hb;split at h
   ·rename_i he;subst he;split at h
    ·rename_i hi;obtain rfl:=Dx hy;obtain⟨hk,rfl⟩:=Fe hx;obtain⟨QT,hlen,PE,BU,hr⟩:=H.LP k _ hb;have Bm:i.toNat<xs.length:=Wk hi;rcases hr with ⟨Zd,_⟩|⟨b,BA,ds,ha,ho,⟨el,UF,hh⟩,h1,h2,h3,h4,hc⟩
     ·subst Zd;simp at Bm
     ·refine⟨_,h,.pointer (some ⟨b,i.toNat*(g.AZ k).lQ+0,none⟩),?_,di hk hi.1 (by rw[hlen];exact Bm) ha⟩;simp[Instr.indexAt,asIntOf,underlying,hu,hi.1,hi.2,DL D9,ha,hlen,PE,YY]
    ·cases h
   ·cases h
  ·rename_i e t' xs i' p' hb;split at h
   ·rename_i he;subst he;split at h
    ·rename_i hi;obtain rfl:=Dx hy;obtain⟨hk,rfl⟩:=Fe hx;obtain⟨hlen,PE,BU,_,_,_,_,_,b,_,_,_,_,_,ha,_⟩:=H.LP k _ hb;have Bm:i.toNat<xs.length:=Wk hi;refine⟨_,h,.pointer (some ⟨b,i.toNat*(g.AZ k).lQ+0,none⟩),?_,di hk hi.1 (by rw[hlen];exact Bm) ha⟩;simp[Instr.indexAt,asIntOf,underlying,hu,hi.1,hi.2,DL D9,ha,hlen,PE,YY]
    ·cases h
   ·cases h
  ·cases h
 ·cases h
theorem Ajn{t:Nat}{ti:TI}(ht:ES P t ti)(hs:ti.ty=.str){x y:AV}{u v:Value}{K:AV->APJ R}{r:R}(h:ov x y K=some r)(hx:B4 w g n x u)(hy:B4 w g n y v) :
    ∃z,K z=some r/\UM P w g n (Instr.index t u v) z:=by
 unfold ov at h;split at h
 ·rename_i ks s Tv k i;split at h
  ·rename_i hi;obtain rfl:=Dx hy;obtain rfl:=Wp hx;refine⟨_,h,B7 ?_⟩;have Bm :=Wk hi;simp[Instr.index,asIntOf,underlying,RA ht hs,hi.1,C5,Bm]
  ·grind
 ·grind
end
section
variable {P:Program} {w:World} {g:G} {n:Nat} {R:Type} {bs:APH Blk}
theorem oS{ty:Ty}:∀{fs:APH Field} {os:APH Nat} {i j o:Nat},OU P ty i fs os=true->os[j]?=some o ->
    ∃fd u inf,fs[j]?=some fd/\fd.offset=o/\Ug ty (i+j)=some o/\lb ty (i+j)=some u/\P.info? fd.type=some inf/\inf.size=u.size/\u.size≠0
 |[],[],_,_,_,_,h=>by grind
 |f::fs,o'::os,i,0,o,h,ho=>by
  simp only[List.getElem?_cons_zero,AL8]at ho;subst ho;simp only[OU,AMd,ANf]at h;obtain⟨⟨⟨h1,h2⟩,h3⟩,_⟩:=h;split at h3
  ·rename_i u hu;cases hi:P.info? f.type with
   |none=>grind
   |some inf=>grind
  ·grind
 |f::fs,o'::os,i,j+1,o,h,ho=>by
  simp only[OU,AMd]at h;obtain⟨fd,u,inf,h1,h2,h3,h4,h5⟩:=oS (i:=i+1) h.2 (by simpa using ho)
  grind
 |[],_::_,_,_,_,h,_=>by simp[OU]at h
 |_::_,[],_,_,_,h,_=>by grind
theorem WL{t:Nat}{ti:TI}(h:ES P t ti){f o:Nat}(ho:ti.V8[f]?=some o) :
    ∃fs,P.underlying t=some (.struct fs)/\OU P ti.ty 0 fs.toList ti.V8=true:=by
 rcases h.V8 with ⟨fs,hfs⟩|he
 ·obtain⟨d,hd,hk⟩:=h.eM;rw[hfs]at hd;injection hd with hd;subst hd;simp only[kindOk,AMd]at hk;exact⟨fs,hfs,hk.2⟩
 ·grind
theorem UR{t:Nat}{ti:TI}(h:ES P t ti){f fo:Nat}(ho:ti.V8[f]?=some fo)(b o:Nat) :
    (Instr.fieldAt t (.pointer (some ⟨b,o,none⟩)) f).run P w=.ok (.pointer (some ⟨b,o+fo,none⟩)) w/\Ug ti.ty f=some fo/\∃u,lb ti.ty f=some u:=by
 obtain⟨fs,hu,hf⟩:=WL h ho;obtain⟨fd,u,inf,h1,h2,h3,h4,h5,h6,h7⟩:=oS hf ho;rw[AMC]at h3 h4;refine⟨?_,h3,u,h4⟩;have hfd:fs[f]?=some fd:=by grind
 have Mv:(sizeOf fd.type).run P w=.ok u.size w:=by simp[sizeOf,typeInfo,h5,h6]
 simp[Instr.fieldAt,underlying,hu,hfd,Instr.sureAddr,fieldPlace,Mv,h7,YY,h2]
theorem Ajx{t:Nat}{ti:TI}(ht:ES P t ti){f:Nat}{x:AV}{u:Value}{K:AV->APJ R}{r:R}(h:ky ti f x K=some r)(hx:B4 w g n x u) :
    ∃z,K z=some r/\UM P w g n (Instr.fieldAt t u f) z:=by
 unfold ky at h;split at h
 ·split at h
  ·rename_i fo hfo;obtain⟨hk,h0,h1,b,hb,rfl⟩:=K1 hx;refine⟨_,h,_,(UR ht hfo b _).1,?_⟩;rw[ANa];exact di hk h0 h1 hb
  ·grind
 ·rename_i ks t' y;split at h
  ·rename_i he;obtain⟨rfl,he⟩:=he;split at h
   ·rename_i Tv v z hz;obtain⟨hk,b,off,ds,rfl,ha,hr,hc⟩:=Yk hx;obtain⟨c0,c1,c2,e,ho,_,⟨u',y',heq,dT⟩,_⟩:=Yz (g:=g) hk f _ y ds _ hr hz;injection heq with _ h2 h3;subst h2;obtain rfl:=eq_of_heq h3;rw[ho]at he;refine⟨_,h,_,(UR ht he.symm b off).1,dj hk ha dT λj q hq=>?_⟩;rw[ANa];refine hc _ q ?_
    grind
   ·grind
  ·grind
 ·grind
theorem yP:∀{x:AV} {i:Nat} {z:AV} {vs:APH Value},O9 x i=some z->CG w g n true x vs->∃v,vs[i]?=some v/\(z.Dj=false->B4 w g n z v)
 |.cons a b,0,z,vs,h,hx=>by
  simp only[O9,AL8]at h;subst h;obtain⟨v,r,e,h1,_⟩:=hx;subst e;exact⟨v,rfl,λht=>(B4.iff ht).2 h1⟩
 |.cons a b,i+1,z,vs,h,hx=>by
  simp only[O9]at h;obtain⟨v,r,e,_,h2⟩:=hx;subst e;obtain⟨u,hu,hz⟩:=yP h h2
  grind
 |.nil,_,_,_,h,_=>by simp[O9]at h
 |.AB _ _ _,_,_,_,h,_=>by simp[O9]at h
 |.zs,_,_,_,h,_=>by simp[O9]at h
 |.AG _,_,_,_,h,_=>by simp[O9]at h
 |.mp _,_,_,_,h,_=>by simp[O9]at h
 |.ptr _ _ _ _,_,_,_,h,_=>by simp[O9]at h
 |.Fv _ _ _,_,_,_,h,_=>by simp[O9]at h
 |.JU,_,_,_,h,_=>by simp[O9]at h
 |.pr _ _,_,_,_,h,_=>by simp[O9]at h
 |.fn _ _,_,_,_,h,_=>by simp[O9]at h
 |.TA _ _ _ _ _,_,_,_,h,_=>by simp[O9]at h
 |.Vs _ _ _ _ _ _,_,_,_,h,_=>by simp[O9]at h
 |.un _,_,_,_,h,_=>by simp[O9]at h
def AcO(w:World)(g:G)(n:Nat):APJ AV->APJ Value->Prop
 |none,none=>True
 |some a,some v=>B4 w g n a v
 |_,_=>False
theorem XA{x:APJ AV}{v:APJ Value}{d i:Int}(h:bnd x d=some i)(hx:AcO w g n x v):(v=none/\i=d)\/∃k,v=some (.int k i):=by
 unfold bnd at h;split at h
 ·cases v with
  |none=>grind
  |some _=>exact hx.elim
 ·cases v with
  |none=>exact hx.elim
  |some u=>simp at h;subst h;exact .inr ⟨_,congrArg some (Dx hx)⟩
 ·grind
theorem Q8{isS:Bool}{len cap:Nat}{lo hi:APJ Value}{l h:Int}(hl:(lo=none/\l=0)\/∃k,lo=some (.int k l))(hh:(hi=none/\h=(len:Int))\/∃k,hi=some (.int k h))
    (h0:0<=l) (h1:l<=h) (h2:h<=(len:Int)) (hc:len<=cap):(Instr.sliceBounds isS len cap lo hi none).run P w=.ok (l.toNat,h.toNat,cap) w:=by
 have e1:(h.toNat)=h:=by omega
 have e2:h<=cap:=by omega
 have e3:0<=h:=by omega
 rcases hl with ⟨rfl,rfl⟩|⟨k,rfl⟩<;>rcases hh with ⟨rfl,rfl⟩|⟨k',rfl⟩
 ·simp[Instr.sliceBounds]
 ·simp[Instr.sliceBounds,Instr.sliceBound,asIntOf,e2,e3]
 ·simp[Instr.sliceBounds,Instr.sliceBound,asIntOf,h0,h1]
 ·simp[Instr.sliceBounds,Instr.sliceBound,asIntOf,e2,e3,h0,h1,e1]
theorem KL{t:Nat}{ti:TI}(h:ES P t ti)(hs:ti.Eh=true)(a:APJ Addr)(len cap:Nat)(lo hi mx:APJ Value)(w:World) :
    (Instr.sliceAt t (.slice a len cap) lo hi mx).run P w=(Instr.slice t (.slice a len cap) lo hi mx).run P w:=by
 simp[Instr.sliceAt,underlying,Bw h hs]
theorem uh{t:Nat}{ti:TI}(h:ES P t ti)(hs:ti.ty=.str)(s:ByteArray)(lo hi mx:APJ Value)(w:World) :
    (Instr.sliceAt t (.string s) lo hi mx).run P w=(Instr.slice t (.string s) lo hi mx).run P w:=by
 simp[Instr.sliceAt,underlying,RA h hs]
theorem zy{A:Nat->Prop}{t:Ty}{xs:APH t.V}{ad:APJ Addr}{cap:Nat}{ds:APH Value}{l h:Nat}(h1:l<=h)(h2:h<=xs.length)(hc:xs.length<=cap)
    (hr:CH (HE w A t) xs ds) (hm:xs=[]\/∃b off,ad=some ⟨b,off,none⟩/\A b/\∀j u,ds[j]?=some u->w.cell? ⟨b,off+j,none⟩=some u) :
    HE w A (.sl t) ((xs.take h).drop l) [.slice (if cap=l then ad else ad.map (·.add (l*t.size))) (h-l) (cap-l)]:=by
 have hlen:((xs.take h).drop l).length=h-l:=by grind
 refine⟨_,cap-l,((ds.take (h*t.size)).drop (l*t.size)),by rw[hlen],by omega,?_,?_⟩
 ·exact CH.AeD (λx c r=>HE.len r) l (CH.takeN (λx c r=>HE.len r) h hr)
 ·rcases Nat.eq_or_lt_of_le h1 with e |Bm
  ·grind
  ·rcases hm with hx |⟨b,off,rfl,ha,DF⟩
   ·grind
   ·refine .inr ⟨b,off+l*t.size,?_,ha,λj u hu=>?_⟩
    ·rw[AMp (by omega)];simp[YY]
    grind
theorem AbG(H:Bf w g bs){t:Nat}{ti:TI}(ht:ES P t ti){te:APJ Ty}(D9:∀u,te=some u->ti.Eh=true/\∃kn,kn.ty=u/\ES P ti.elem kn){x:AV}{lo hi mx:APJ AV}{u:Value}{vlo vhi vmx:APJ Value}
    {K:AV->APJ R} {r:R} (h:WI bs ti te x lo hi mx K=some r) (hx:B4 w g bs.length x u) (hlo:AcO w g bs.length lo vlo) (zc:AcO w g bs.length hi vhi) (sP:AcO w g bs.length mx vmx) :
    ∃z,K z=some r/\UM P w g bs.length (Instr.sliceAt t u vlo vhi vmx) z:=by
 unfold WI at h;split at h
 ·rename_i ks k m;split at h
  ·rename_i Tv k' hh;split at h
   ·rename_i hz;obtain⟨rfl,rfl,hs⟩:=hz;obtain⟨u',hu'⟩:=Option.isSome_iff_exists.1 hs;obtain⟨hs,kn,rfl,ta⟩:=D9 _ hu';obtain rfl:vlo=none:=by cases vlo with |none=>rfl |some _=>exact hlo.elim
    obtain⟨vh,rfl,e1⟩:∃v,vhi=some v/\v=.int k' 0:=by cases vhi with |none=>exact zc.elim |some v=>exact⟨v,rfl,Dx zc⟩
    obtain⟨vm,rfl,e2⟩:∃v,vmx=some v/\v=.int k 0:=by cases vmx with |none=>exact sP.elim |some v=>exact⟨v,rfl,Dx sP⟩
    subst e1;subst e2;have key:∀(a:APJ Addr) (len cap:Nat),(Instr.sliceAt t (.slice a len cap) none (some (.int k' 0)) (some (.int k 0))).run P w=.ok (.slice a 0 0) w:=λa len cap=>by
     rw[KL ht hs];simp[Instr.slice,underlying,Bw ht hs,Instr.sliceBounds,Instr.sliceBound,asIntOf,DL ta]
    split at h
    ·obtain⟨_,ad,cap,ds,rfl,_⟩:=Zu hx;exact⟨_,h,_,key _ _ _,mz _⟩
    ·obtain⟨ad,rfl⟩:=Xy hx;exact⟨_,h,_,key _ _ _,mz _⟩
    ·split at h
     ·obtain⟨_,rfl⟩:=Fe hx;exact⟨_,h,_,key _ _ _,mz _⟩
     ·cases h
    ·cases h
   ·cases h
  ·cases h
 ·cases h
 ·split at h
  ·rename_i ks s;split at h
   ·rename_i l hh hl hhh;split at h
    ·rename_i hc;obtain⟨hs,h0,h1,h2⟩:=hc;obtain rfl:=Wp hx;obtain rfl:vmx=none:=by cases vmx with |none=>rfl |some _=>exact sP.elim
     refine⟨_,h,YA ?_⟩;rw[uh ht hs];have hb:=Q8 (P:=P) (w:=w) (isS:=false) (cap:=s.size) (XA hl hlo) (XA hhh zc) h0 h1 h2 (AMc _);simp[Instr.slice,underlying,RA ht hs,hb]
    ·cases h
   ·cases h
  ·rename_i ks t' xs;split at h
   ·rename_i l hh hl hhh;split at h
    ·rename_i he;obtain⟨hs,kn,rfl,ta⟩:=D9 _ he;split at h
     ·rename_i hc;obtain⟨h0,h1,h2⟩:=hc;obtain⟨hk,ad,cap,ds,rfl,cW,hr,hm⟩:=Zu hx;obtain rfl:vmx=none:=by cases vmx with |none=>rfl |some _=>exact sP.elim
      refine⟨_,h,?_⟩;have hb:=Q8 (P:=P) (w:=w) (isS:=true) (cap:=cap) (XA hl hlo) (XA hhh zc) h0 h1 h2 cW;refine⟨.slice (if cap=l.toNat then ad else ad.map (·.add (l.toNat*kn.ty.size))) (hh.toNat-l.toNat) (cap-l.toNat),?_,?_⟩
      ·rw[KL ht hs];simp[Instr.slice,underlying,Bw ht hs,hb,DL ta]
      ·exact Bs rfl (cs:=[_]) ⟨hk,zy (by omega) (by omega) cW hr hm⟩ (by simp[Cr,AV.isAgg,Ty.isAgg])
     ·cases h
    ·cases h
   ·cases h
  ·rename_i k;split at h
   ·rename_i e m t' xs hb;split at h
    ·rename_i l hh hl hhh;split at h
     ·rename_i he;obtain⟨hs,kn,rfl,ta⟩:=D9 _ he;split at h
      ·rename_i hc;obtain⟨h0,h1,h2⟩:=hc;obtain⟨cs,kC,hv⟩:=B3 rfl rfl hx;have kF:=Qe H (.sl kn.ty) (.AG k) xs cs (by simp[rd,hb,IU]) kC;obtain⟨⟨ad,cap,ds,e1,cW,hr,hm⟩,zg⟩:=kF;subst e1;have Ash:(AV.AG k).Ua bs=k::m.Ct:=by simp[AV.Ua,bR,hb]
       rw[Ash]at zg hr hm;obtain rfl:u=.slice ad xs.length cap:=by simpa [Cr,AV.isAgg]using hv.symm
       obtain rfl:vmx=none:=by cases vmx with |none=>rfl |some _=>exact sP.elim
       refine⟨_,h,?_⟩;have hb:=Q8 (P:=P) (w:=w) (isS:=true) (cap:=cap) (XA hl hlo) (XA hhh zc) h0 h1 h2 cW;refine⟨.slice (if cap=l.toNat then ad else ad.map (·.add (l.toNat*kn.ty.size))) (hh.toNat-l.toNat) (cap-l.toNat),?_,?_⟩
       ·rw[KL ht hs];simp[Instr.slice,underlying,Bw ht hs,hb,DL ta]
       ·exact Bs rfl (cs:=[_]) ⟨zg,zy (by omega) (by omega) cW hr hm⟩ (by simp[Cr,AV.isAgg,Ty.isAgg])
      ·cases h
     ·cases h
    ·cases h
   ·cases h
  ·split at h
   ·rename_i l hh hl hhh;split at h
    ·rename_i hc;obtain⟨hs,rfl,rfl⟩:=hc;obtain⟨u',hu'⟩:=Option.isSome_iff_exists.1 hs;obtain⟨hs,kn,rfl,ta⟩:=D9 _ hu';obtain⟨ad,rfl⟩:=Xy hx;obtain rfl:vmx=none:=by cases vmx with |none=>rfl |some _=>exact sP.elim
     have hb:=Q8 (P:=P) (w:=w) (isS:=true) (len:=0) (cap:=0) (XA hl hlo) (XA hhh zc) (ANx _) (ANx _) (ANx _) (AMc _);refine⟨_,h,.slice ad 0 0,?_,mz _⟩;rw[KL ht hs];simp[Instr.slice,underlying,Bw ht hs,hb,DL ta]
    ·cases h
   ·cases h
  ·cases h
theorem TN{t:Nat}{ti:TI}{k:IntKind}(h:ES P t ti)(hs:ti.ty=.int k):P.underlying t=some (.int k):=by
 obtain⟨d,hd,hk⟩:=h.eM;rw[hd];cases d<;>simp[kindOk,hs,Ty.isAgg]at hk;rw[hk]
theorem dJ{A:Nat->Prop}:∀{xs:APH Int} {ds:APH Value},CH (HE w A (.int .u8)) xs ds->ds=xs.map (Value.int .u8)
 |[],_,h=>h
 |x::xs,_,⟨c,d,e,h1,h2⟩=>by
  have sA :=h1;rw[e,sA,dJ h2];rfl
theorem Aez(H:Bf w g bs){s t:Nat}{ts ti:TI}(hs:ES P s ts)(ht:ES P t ti){te:APJ Ty}(D9:∀u,te=some u->ts.Eh=true/\∃kn,kn.ty=u/\ES P ts.elem kn){x:AV}{u:Value}
    {K:AV->APJ R} {r:R} (h:aE bs te ti.ty x K=some r) (hx:B4 w g bs.length x u) :
    ∃z,K z=some r/\UM P w g bs.length (convert s t u) z:=by
 obtain⟨ds,hds,_⟩:=hs.eM;unfold aE at h;split at h
 ·rename_i k hk;split at h
  ·obtain rfl:=Dx hx;refine⟨_,h,B7 ?_⟩;simp[convert,underlying,hds,TN ht hk,Conv.intToInt]
  ·cases h
 ·rename_i hk;have hut:=RA ht hk;split at h
  ·obtain rfl:=Wp hx;refine⟨_,h,YA ?_⟩;simp[convert,underlying,hds,hut]
  ·split at h
   ·rename_i he;obtain⟨Iw,kn,fM,ta⟩:=D9 _ he;split at h
    ·rename_i xs hxs;have hu:=TN ta fM;have hsu:=Bw hs Iw;have hnt:x.Dj=false:=by cases x<;>first |rfl |simp[rd]at hxs
     have Rb:x.NC=false:=by cases x<;>first |rfl |simp[rd]at hxs
     have hag:x.isAgg=false:=by
      cases x with
      |AB ks t' y =>
       simp only[rd]at hxs;obtain⟨e,_⟩:=BJ hxs;subst e;rfl
      |pr a b=>simp[rd]at hxs
      |_=>rfl
     obtain⟨cs,kC,hv⟩:=B3 hnt Rb hx;obtain⟨⟨ad,cap,dd,e1,cW,hr,hm⟩,_⟩:=Qe H _ _ _ _ hxs kC;subst e1;obtain rfl:u=.slice ad xs.length cap:=by
      rw[hag]at hv;have tc:[_]=[u]:=hv;simpa using tc.symm
     refine⟨_,h,YA ?_⟩;have hdd:=dJ hr;have D8:∀b off,ad=some ⟨b,off,none⟩->(∀i,i<xs.length->w.cell? ⟨b,off+i,none⟩=some (.int .u8 (xs.getD i 0)))->(convert s t (.slice ad xs.length cap)).run P w=.ok (.string (bytesOf xs)) w:=by
      intro b off e hc;subst e;exact run_convert_bytes_arg w s ts.elem hsu hu b off xs.length cap xs rfl hc t hut
     rcases hm with Zd |⟨b,off,rfl,_,hc⟩
     ·subst Zd;cases ad with
      |none=>exact run_convert_bytes_nil w s ts.elem hsu hu 0 cap t hut
      |some a0=>simp[convert,underlying,hsu,hut,hu,Conv.bytesToString,loadCells,loadCellsFrom,bytesOf,ByteArray.empty,ByteArray.emptyWithCapacity];rfl
     ·refine D8 b off rfl λi hi=>hc i _ ?_;rw[hdd];simp[List.getD,hi]
    ·cases h
   ·cases h
 ·cases h
end
section
variable {R:Type}
theorem rA(op:BinOp)(tb:Bool)(x y:AV)(K:AV->APJ R):od op tb x y K=(od op tb x y some).bind K:=by
 unfold od
 repeat' split
 all_goals rfl
theorem zP(op:UnOp)(x:AV)(K:AV->APJ R):unA op x K=(unA op x some).bind K:=by
 unfold unA
 repeat' split
 all_goals rfl
theorem tF(bs:APH Blk)(ti:TI)(x:AV)(K:AV->APJ R):pM bs ti x K=(pM bs ti x some).bind K:=by
 unfold pM
 repeat' split
 all_goals rfl
theorem fT(mx:Bool)(x y:AV)(K:AV->APJ R):mmA mx x y K=(mmA mx x y some).bind K:=by
 unfold mmA
 repeat' split
 all_goals rfl
theorem AfE(bs:APH Blk)(te:Ty)(x y:AV)(K:AV->APJ R):wW bs te x y K=(wW bs te x y some).bind K:=by
 unfold wW
 repeat' split
 all_goals rfl
theorem tj(bs:APH Blk)(te:Ty)(x y:AV)(K:AV->APJ R):tg bs te x y K=(tg bs te x y some).bind K:=by
 unfold tg;split
 ·grind
 ·exact AfE ..
theorem rQ(x y:AV)(K:AV->APJ R):ov x y K=(ov x y some).bind K:=by
 unfold ov
 repeat' split
 all_goals rfl
theorem sq(ti:TI)(f:Nat)(x:AV)(K:AV->APJ R):ky ti f x K=(ky ti f x some).bind K:=by
 unfold ky
 repeat' split
 all_goals rfl
theorem mg(bs:APH Blk)(ti:TI)(x:AV)(K:AV->APJ R):Zi bs ti x K=(Zi bs ti x some).bind K:=by
 unfold Zi
 repeat' split
 all_goals rfl
theorem jI(bs:APH Blk)(ti:TI)(te:APJ Ty)(x:AV)(lo hi mx:APJ AV)(K:AV->APJ R):WI bs ti te x lo hi mx K=(WI bs ti te x lo hi mx some).bind K:=by
 unfold WI
 repeat' split
 all_goals rfl
theorem lH(bs:APH Blk)(te:APJ Ty)(td:Ty)(a:AV)(K:AV->APJ R):aE bs te td a K=(aE bs te td a some).bind K:=by
 unfold aE
 repeat' split
 all_goals rfl
theorem xJ(bs:APH Blk)(ti:TI)(x v:AV)(K:HO->APJ R):dA bs ti x v K=(dA bs ti x v some).bind K:=by
 unfold dA
 repeat' split
 all_goals rfl
theorem xH(bs:APH Blk)(ti:TI)(x:AV)(K:HO->APJ R):Z0 bs ti x K=(Z0 bs ti x some).bind K:=by
 unfold Z0
 repeat' split
 all_goals rfl
theorem mh(bs:APH Blk)(tk te:TI)(ok:Bool)(m x:AV)(K:AV->APJ R):ei bs tk te ok m x K=(ei bs tk te ok m x some).bind K:=by
 unfold ei
 grind
theorem Abk(bs:APH Blk)(tk te:TI)(m x:AV)(K:HO->APJ R):mj bs tk te m x K=(mj bs tk te m x some).bind K:=by
 unfold mj
 repeat' split
 all_goals rfl
theorem jT(bs:APH Blk)(tk te:TI)(m x v:AV)(K:HO->APJ R):b7 bs tk te m x v K=(b7 bs tk te m x v some).bind K:=by
 unfold b7
 repeat' split
 all_goals grind
theorem AeH(bs:APH Blk)(tk te:TI)(m x:AV)(K:HO->APJ R):AaL bs tk te m x K=(AaL bs tk te m x some).bind K:=by
 unfold AaL
 repeat' split
 all_goals rfl
theorem AEQ{c:Bool}{A:APJ R}{B:APJ HO}{K:HO->APJ R}(h:A=B.bind K):(bif c then A else none)=(bif c then B else none).bind K:=by
 grind
theorem AeI(bs:APH Blk)(tk te:TI)(m j v:AV)(K:HO->APJ R):AaM bs tk te m j v K=(AaM bs tk te m j v some).bind K:=by
 unfold AaM
 repeat' split
 all_goals first
  |rfl
  |exact AEQ (jT ..)
theorem rl(fi:FI)(bs:APH Blk)(e:Nat)(ti:TI)(x y:AV)(K:HO->APJ R):Yh fi bs e ti x y K=(Yh fi bs e ti x y some).bind K:=by
 unfold Yh
 repeat' split
 all_goals rfl
theorem rm(fi:FI)(bs:APH Blk)(e:Nat)(ti:TI)(x y:AV)(K:HO->APJ R):Yi fi bs e ti x y K=(Yi fi bs e ti x y some).bind K:=by
 unfold Yi
 repeat' split
 all_goals rfl
theorem Abl(fi:FI)(bs:APH Blk)(e:Nat)(ti:TI)(x y:AV)(K:HO->APJ R):mn fi bs e ti x y K=(mn fi bs e ti x y some).bind K:=by
 unfold mn
 repeat' split
 all_goals rfl
theorem AeA(te:Ty)(bs:APH Blk)(x:AV)(hi:APJ AV)(K:HO->APJ R):AaG te bs x hi K=(AaG te bs x hi some).bind K:=by
 unfold AaG
 repeat' split
 all_goals rfl
def gk(c:Callee):Prop:=∀(R:Type) args E (K:AV->APH Blk->APJ R),c.run R args E K=(c.run (AV×APH Blk) args E λv b=>some (v,b)).bind λp=>K p.1 p.2
theorem cG(c:Callee)(hc:gk c)(bs:APH Blk)(args:APH AV)(K:HO->APJ R):XC c bs args K=(XC c bs args some).bind K:=by
 unfold XC;split
 ·rfl
 ·dsimp only
  split
  ·rw[hc R,hc HO]
   grind
  ·rfl
theorem Aaz(c:Callee)(hc:gk c)(bs:APH Blk)(args:APH AV)(K:HO->APJ R):gU c bs args K=(gU c bs args some).bind K:=by
 have via:∀(bs:APH Blk) (args:APH AV) (F:HO->APJ R) (F':HO->APJ HO),(∀e,F e=(F' e).bind K)->XC c bs args F=(XC c bs args F').bind K:=λbs args F F' h=>by
  rw[cG c hc bs args F,cG c hc bs args F'];cases XC c bs args some with
  |none=>rfl
  |some e=>grind
 unfold gU;split
 ·grind
 ·split
  ·split
   ·split
    ·grind
    ·rfl
   ·rfl
  ·rfl
theorem fw(f:(R:Type)->(AV->APJ R)->APJ R)(hf:∀(R:Type) (K:AV->APJ R),f R K=(f AV some).bind K)(g:AV->HO)(K:HO->APJ R) :
    f R (λv=>K (g v))=(f HO λv=>some (g v)).bind K:=by
 rw[hf R,hf HO];cases f AV some<;>rfl
def YW(en:Gx):Prop:=∀g c,en.fns g=some c->gk c
theorem oN(en:Gx)(he:YW en)(σ:St)(c:Call)(K:HO->APJ R):VS en σ c K=(VS en σ c some).bind K:=by
 unfold VS;split
 ·split
  ·split
   ·exact fw (λR K=>pM _ _ _ K) (λR K=>tF ..) (λv=>⟨v,_,_⟩) K
   ·rfl
  ·rfl
 ·split
  ·exact fw (λR K=>mmA _ _ _ K) (λR K=>fT ..) (λv=>⟨v,_,_⟩) K
  ·rfl
 ·split
  ·exact fw (λR K=>mmA _ _ _ K) (λR K=>fT ..) (λv=>⟨v,_,_⟩) K
  ·rfl
 ·split
  ·split
   ·split
    ·split
     ·exact rl ..
     ·split
      ·exact rm ..
      ·rfl
    ·rfl
   ·rfl
  ·rfl
 ·rfl
 ·split
  ·split
   ·rename_i hg;exact Aaz _ (he _ _ hg) ..
   ·rfl
  ·rfl
 ·rfl
theorem Mt(en:Gx)(he:YW en)(σ:St)(o:Oper)(K:HO->APJ R):QY en σ o K=(QY en σ o some).bind K:=by
 unfold QY
 dsimp only
 split
 ·rfl
 ·rfl
 ·split
  ·rename_i t _;cases t<;>rfl
  ·rfl
 ·split<;>rfl
 ·split<;>rfl
 ·split
  ·split
   ·rfl
   ·split<;>rfl
  ·rfl
 ·split
  ·split
   ·split
    ·split
     ·split<;>rfl
     ·rfl
    ·rfl
   ·rfl
  ·rfl
 ·split
  ·split
   ·split
    ·exact xH ..
    ·rfl
   ·exact fw (λR K=>Zi _ _ _ K) (λR K=>mg ..) (λv=>⟨v,_,_⟩) K
  ·rfl
 ·split
  ·split
   ·rfl
   ·split
    ·split<;>rfl
    ·rfl
  ·rfl
 ·split
  ·split
   ·split
    ·split
     ·split
      ·rfl
      ·exact Abk ..
     ·exact fw (λR K=>ei _ _ _ _ _ _ K) (λR K=>mh ..) (λv=>⟨v,_,_⟩) K
    ·rfl
   ·rfl
  ·rfl
 ·split
  ·split
   ·split
    ·exact jT ..
    ·rfl
   ·rfl
  ·rfl
 ·split
  ·split
   ·split
    ·exact jT ..
    ·rfl
   ·rfl
  ·rfl
 ·split
  ·split
   ·split
    ·exact AeH ..
    ·rfl
   ·rfl
  ·rfl
 ·split
  ·split
   ·split
    ·exact AeI ..
    ·rfl
   ·rfl
  ·rfl
 ·split
  ·exact xJ ..
  ·rfl
 ·split<;>rfl
 ·split
  ·rfl
  ·exact fw (λR K=>od _ _ _ _ K) (λR K=>rA ..) (λv=>⟨v,_,_⟩) K
 ·exact fw (λR K=>unA _ _ K) (λR K=>zP ..) (λv=>⟨v,_,_⟩) K
 ·split
  ·exact fw (λR K=>aE _ _ _ _ K) (λR K=>lH ..) (λv=>⟨v,_,_⟩) K
  ·rfl
 ·split
  ·split<;>rfl
  ·rfl
 ·split
  ·split
   ·split
    ·exact Abl ..
    ·rfl
   ·rfl
  ·rfl
 ·split
  ·split
   ·split
    ·split
     ·split
      ·exact AeA ..
      ·rfl
     ·rfl
    ·rfl
   ·exact fw (λR K=>WI _ _ _ _ _ _ _ K) (λR K=>jI ..) (λv=>⟨v,_,_⟩) K
  ·rfl
 ·split
  ·exact fw (λR K=>ky _ _ _ K) (λR K=>sq ..) (λv=>⟨v,_,_⟩) K
  ·rfl
 ·split
  ·split
   ·split
    ·exact fw (λR K=>tg _ _ _ _ K) (λR K=>tj ..) (λv=>⟨v,_,_⟩) K
    ·rfl
   ·rfl
  ·rfl
 ·split
  ·split
   ·exact fw (λR K=>ov _ _ K) (λR K=>rQ ..) (λv=>⟨v,_,_⟩) K
   ·rfl
  ·rfl
 ·split
  ·split<;>rfl
  ·rfl
 ·exact oN en he ..
 ·rfl
theorem VR(en:Gx)(he:YW en)(σ:St)(o:Oper)(K:HO->APJ R):UQ en σ o K=(UQ en σ o some).bind K:=by
 unfold UQ;split
 ·rfl
 split
 ·rfl
 split
 ·grind
 split
 ·cases ix en o with
  |false=>exact Mt en he σ o K
  |true =>
   simp;refine(Mt en he σ o _).trans (Eq.symm ?_);refine(congrArg (λx=>Option.bind x K) (Mt en he σ o _)).trans ?_
   grind
 ·rename_i t _;refine(Mt en he σ o _).trans (Eq.symm ?_);refine(congrArg (λx=>Option.bind x K) (Mt en he σ o _)).trans ?_
  grind
theorem R5(en:Gx)(he:YW en)(σ:St)(o:Oper)(K:HO->APJ R):exec en σ o K=(exec en σ o some).bind K:=by
 unfold exec;split
 ·split
  ·split
   ·rename_i bs _;rw[VR en he _ o,VR en he _ o (λe=>if e.Bz.isEmpty=true then none else some e),AMn]
    grind
   ·rfl
  ·exact VR en he σ o K
 ·exact VR en he σ o K
end
structure KO (w:World) (g:G) (σ:St) (a:Act):Prop where
 heap:Bf w g σ.Aj
 len:σ.AO.length=a.tmps.size
 AO:∀(i:Nat) (x:AV),σ.AO[i]?=some x->B4 w g σ.Aj.length x (a.tmps.getD i undef)
structure Nr (P:Program) (σ:St) (o:Oper) (e:HO):Prop where
 grow:σ.Aj.length<=e.Aj.length
 ext:e.Bz=[]->∃l,e.Aj=σ.Aj++l
 wp:∀(a:Act) (w:World) (g:G),KO w g σ a->∀(next:Act->World->Prop) (Q:Exit->Act->World->Prop),
  (∀v w' g',Bf w' g' e.Aj->B4 w' g' e.Aj.length e.val v->Step e.Bz σ.Aj.length w g w' g'->next (a.put o.dst v) w')->o.wp P a w next Q
def Qt(P:Program)(σ:St)(o:Oper)(z:AV):Prop :=
 ∀(a:Act) (w:World) (g:G),KO w g σ a->∃c,(execOp a.eval o).run P w=.ok (.value c) w/\B4 w g σ.Aj.length z c
theorem Yt{Bz:APH Nat}{sl:APH AV}{i:Nat}{x:AV}(h:(TV Bz sl)[i]?=some x):∃y,sl[i]?=some y/\x=y.drop λk=>Bz.contains k:=by
 unfold TV at h;split at h
 ·exact⟨x,h,by rw[show(λk=>[].contains k)=λ_=>false from funext λ_=>rfl,aK]⟩
 grind
theorem lJ(Bz:APH Nat)(sl:APH AV):(TV Bz sl).length=sl.length:=by unfold TV;split<;>simp
theorem bK(d:APJ Nat)(v:AV)(sl:APH AV):(Y3 d v sl).length=sl.length:=by unfold Y3;split<;>simp
theorem Wa(a:Act)(d:APJ Tmp)(v:Value):(a.put d v).tmps.size=a.tmps.size:=by cases d<;>simp[Act.put]
theorem ni{w:World}{g:G}{n:Nat}{sl:APH AV}{a:Act}(hlen:sl.length=a.tmps.size)(h:∀(i:Nat) (x:AV),sl[i]?=some x->B4 w g n x (a.tmps.getD i undef)){d:APJ Nat}{x:AV}{v:Value}(hv:B4 w g n x v) :
    ∀(i:Nat) (y:AV),(Y3 d x sl)[i]?=some y->B4 w g n y ((a.put d v).tmps.getD i undef):=by
 intro i y hy;cases d with
 |none=>exact h i y hy
 |some d =>
  simp only[Y3]at hy;rw[AMv]at hy;simp only[Act.put];split at hy
  ·rename_i he;subst he;split at hy
   ·rename_i hd;injection hy with hy;subst hy;rw[hlen]at hd;simpa [hd]using hv
   ·grind
  ·rename_i Nk;have:=h i y hy;simpa [ANC Nk]using this
theorem KO.after{w w':World}{g g':G}{σ:St}{a:Act}{e:HO}{d:APJ Nat}{v:Value}(h:KO w g σ a)(hg:σ.Aj.length<=e.Aj.length)(hh:Bf w' g' e.Aj)(hv:B4 w' g' e.Aj.length e.val v)
    (hs:Step e.Bz σ.Aj.length w g w' g'):KO w' g' (σ.after d e) (a.put d v) where
 heap:=hh
 len:=by simp only[St.after,bK,lJ,Wa];exact h.len
 AO:=ni (by rw[lJ];exact h.len) (λi x hx=>by
  obtain⟨y,hy,rfl⟩:=Yt hx;exact(h.AO i y hy).step hs hg) hv
section
variable {P:Program} {σ:St} {o:Oper} {en:Gx}
theorem Nr.Is{z:AV}(h:Qt P σ o z):Nr P σ o ⟨z,σ.Aj,[]⟩ where
 grow:=AMc _
 ext _:=⟨[],(AML _).symm⟩
 wp a w g hs next Q hn:=by
  obtain⟨c,hc,hz⟩:=h a w g hs;unfold Oper.wp;rw[hc];exact hn c w g hs.heap hz (Step.refl _ _ _ _)
theorem Xh{f:(R:Type)->(AV->APJ R)->APJ R}(hf:∀(R:Type) (K:AV->APJ R),f R K=(f AV some).bind K){g:AV->HO}{e:HO}(h:f HO (λv=>some (g v))=some e) :
    ∃z,f AV some=some z/\e=g z:=by
 rw[hf HO]at h;cases hz:f AV some with
 |none=>grind
 |some z=>grind
theorem Aey{w:World}{g:G}{n:Nat}(v:Value):B4 w g n (oF v) v:=by
 unfold oF;split
 ·exact AfZ _ _
 ·exact bu _
 ·exact Af0 _
 ·exact mz _
 ·exact Bs rfl  rfl (by simp[Cr,AV.isAgg])
 ·exact QK
theorem AQ{w:World}{g:G}{a:Act}(h:KO w g σ a)(x:Operand):B4 w g σ.Aj.length (σ.Ci x) (a.eval x):=by
 cases x with
 |tmp t =>
  simp only[St.Ci];cases hx:σ.AO[t]? with
  |none=>exact QK
  |some y=>exact h.AO t y hx
 |const v=>exact Aey v
 |func f=>exact Bs (a:=.fn f .nil) rfl  ⟨[],rfl,rfl⟩ (by simp[Cr,AV.isAgg,Act.eval])
 |global g=>exact QK
theorem YF{w:World}{g:G}{a:Act}(h:KO w g σ a)(x:APJ Operand):AcO w g σ.Aj.length (x.map σ.Ci) (x.map a.eval):=by
 cases x with
 |none=>trivial
 |some x=>exact AQ h x
theorem Lh{z:AV}{s:(Operand->Value)->Sem Value}(he:∀ρ,execOp ρ o=(do pure (.value (<-s ρ))))(h:∀(a:Act) (w:World) (g:G),KO w g σ a->UM P w g σ.Aj.length (s a.eval) z):Qt P σ o z:=by
 intro a w g hs;obtain⟨c,hc,hz⟩:=h a w g hs;exact⟨c,by rw[he];simp[hc],hz⟩
theorem aj{v:Value}{cs:APH Value}{b:Bool}(h:Cr b cs v)(h1:∀c∈cs,c.oneCell'=true):v.cells=cs.toArray:=by
 cases b with
 |true=>subst h;rfl
 |false =>
  subst h;have:=h1 v (by simp);cases v<;>first |rfl |cases this
theorem ZW:∀{a:AV} {f:Nat} {v a':AV},a.S7 f v=some a'->a'.isAgg=true:=by
 intro a f v a' h;cases a with
 |AB ks t x =>
  simp only[AV.S7]at h;cases t with
  |AE b c =>
   cases f with
   |zero=>simp only[uf,AL8]at h;subst h;rfl
   |succ f =>
    simp only[uf]at h;split at h
    ·injection h with h;subst h;rfl
    ·grind
  |_=>cases f<;>simp[uf]at h
 |pr b c =>
  cases f with
  |zero=>simp only[AV.S7,AL8]at h;subst h;rfl
  |succ f =>
   simp only[AV.S7]at h;split at h
   ·injection h with h;subst h;rfl
   ·grind
 |_=>cases f<;>simp[AV.S7]at h
theorem zE{c0 c1 c2 vs:APH Value}(h:vs.length=c1.length):(vs.toArray.zipIdx.foldl (λcs (x:Value×Nat)=>cs.setIfInBounds (c0.length+x.2) x.1) (c0++c1++c2).toArray)=(c0++vs++c2).toArray:=by
 have e:vs.toArray.zipIdx.foldl (λcs (x:Value×Nat)=>cs.setIfInBounds (c0.length+x.2) x.1) (c0++c1++c2).toArray=(vs.zipIdx 0).foldl (λcs (x:Value×Nat)=>cs.setIfInBounds (c0.length+x.2) x.1) (c0++c1++c2).toArray:=by
  grind
 rw[e];obtain⟨h1,h2⟩:=Great.foldl_set c0.length vs 0 (c0++c1++c2).toArray
 grind
theorem mR{ty:Ty}:∀{fs:APH Field} {os:APH Nat} {i:Nat},OU P ty i fs os=true ->
    ∃pl,fs.mapM (λf=>(P.info? f.type).map λi=>(f.offset,i.size))=some pl/\∀j o,os[j]?=some o->∃u,lb ty (i+j)=some u/\pl[j]?=some (o,u.size)
 |[],[],_,_=>⟨[],rfl,λj o h=>by grind⟩
 |f::fs,o::os,i,h=>by
  simp only[OU,AMd,ANf]at h;obtain⟨⟨⟨h1,_⟩,h3⟩,h4⟩:=h;obtain⟨pl,hp,hq⟩:=mR h4;split at h3
  ·rename_i u hu;cases hi:P.info? f.type with
   |none=>grind
   |some inf =>
    simp[hi]at h3;refine⟨(f.offset,inf.size)::pl,by simp[hi,hp],λj o' ho=>?_⟩
    grind
  ·grind
 |[],_::_,_,h=>by simp[OU]at h
 |_::_,[],_,h=>by simp[OU]at h
theorem xT{v:AV}(h:v.Xg=true):v.NC=false/\v.Dj=false:=by cases v<;>simp_all [AV.Xg,AV.NC,AV.Dj]
theorem gN{w:World}{g:G}{n:Nat}{ti:TI}{pl:APH (Nat×Nat)}(sX:∀j o,ti.V8[j]?=some o->∃u,lb ti.ty j=some u/\pl[j]?=some (o,u.size)){ρ:Operand->AV}{ε:Operand->Value}(hρ:∀x,B4 w g n (ρ x) (ε x)) :
    ∀{ps:APH (Nat×Operand)} {a z:AV} {cs:APH Value},XB ti a (ps.map λp=>(p.1,ρ p.2))=some z->CG w g n false a cs->a.isAgg=true ->
     ∃qP,Instr.fill (pl.toArray[·]?) cs.toArray (ps.map λp=>(p.1,ε p.2))=some qP.toArray/\CG w g n false z qP/\z.isAgg=true
 |[],a,z,cs,h,hx,hg=>by
  simp only[AN0,XB,AL8]at h;subst h;exact⟨cs,rfl,hx,hg⟩
 |(f,x)::ps,a,z,cs,h,hx,hg=>by
  simp only[AMT,XB]at h;split at h
  ·rename_i mJ Y0;split at h
   ·rename_i hc;obtain⟨Mv,AsB,PS,fM⟩:=hc;split at h
    ·rename_i a' ha';obtain⟨c0,c1,c2,e,ho,iR,hs⟩:=XH a f cs mJ hx Y0;obtain⟨Rb,XP⟩:=xT AsB;obtain⟨cv,XK,hv⟩:=B3 XP Rb (hρ x);have hvc:=aj hv XK.one;obtain⟨u,hu,hp⟩:=sX f c0.length (by grind);rw[hu]at fM;simp only[Option.map_some,AL8]at fM;have UG:cv.length=c1.length:=by rw[XK.len,iR.len,Mv]
     obtain⟨qP,hf,hz,hza⟩:=gN sX hρ h (hs _ _ _ ha' XK) (ZW ha');refine⟨qP,?_,hz,hza⟩;simp only[AMT];unfold Instr.fill;have hp':pl.toArray[f]?=some (c0.length,u.size):=by grind
     simp only[hp'];have SI:(ε x).cells.size=u.size:=by rw[hvc];simp;rw[XK.len];omega
     have QR:¬c0.length+(ε x).cells.size>cs.toArray.size:=by
      grind
     simp only[SI,ne_eq,not_true_eq_false,decide_false,AOg];rw[SI]at QR;simp only[QR,decide_false,AMU,ANz];rw[<-hf];congr 1;rw[hvc,e];exact zE UG
    ·grind
   ·grind
  ·grind
end
section
variable {P:Program} {σ:St} {o:Oper} {en:Gx} {e:HO}
theorem uo{x:Operand}(ho:o.op=.move x\/o.op=.assign x):Nr P σ o ⟨σ.Ci x,σ.Aj,[]⟩ :=
 .Is λa w g hs=>⟨a.eval x,by rcases ho with ho |ho<;>simp[execOp,ho],AQ hs x⟩
theorem AgU{c x y:Operand}(ho:o.op=.pick c x y){ks:APH Nat}{t:Bool}(hc:σ.Ci c=.AB ks .bool t):Nr P σ o ⟨bif t then σ.Ci x else σ.Ci y,σ.Aj,[]⟩ :=
 .Is λa w g hs=>by
  have h:=AQ hs c;rw[hc]at h;have h:=R3 h;refine⟨if t then a.eval x else a.eval y,by simp[execOp,ho,h,asBool],?_⟩;cases t
  ·exact AQ hs y
  ·exact AQ hs x
theorem bX{x:Operand}(ho:o.op=.nilCheck x)(hp:∀(w:World) (g:G) n v,B4 w g n (σ.Ci x) v->∃a,v=.pointer (some a)):Nr P σ o ⟨σ.Ci x,σ.Aj,[]⟩ :=
 .Is λa w g hs=>by
  obtain⟨ad,h⟩:=hp w g _ _ (AQ hs x);exact⟨a.eval x,by simp[execOp,ho,h],AQ hs x⟩
theorem AbJ{op:BinOp}{t:TypeId}{x y:Operand}{yt:TypeId}(ho:o.op=.binOp op t x y yt){tb:Bool}(htb:tb=true->P.underlying t=some .bool){z:AV}(h:od op tb (σ.Ci x) (σ.Ci y) some=some z):Nr P σ o ⟨z,σ.Aj,[]⟩ :=
 .Is <| Lh (s:=λρ=>do eqGuard op t x y (ρ x) (ρ y);binOp op t (ρ x) (ρ y)) (λρ=>by simp[execOp,ho]) λa w g hs=>by
  obtain⟨z',e,hG⟩:=Ais t x y htb h (AQ hs x) (AQ hs y)
  grind
theorem AgV{op:UnOp}{t:TypeId}{x:Operand}(ho:o.op=.unOp op t x){z:AV}(h:unA op (σ.Ci x) some=some z):Nr P σ o ⟨z,σ.Aj,[]⟩ :=
 .Is <| Lh (s:=λρ=>Op.unary op (ρ x)) (λρ=>by simp[execOp,ho]) λa w g hs=>by
  obtain⟨z',e,hG⟩:=As2 h (AQ hs x);injection e with e;subst e;exact hG
theorem uj{s t:TypeId}{x:Operand}(ho:o.op=.convert s t x){ts ti:TI}(hs:ES P s ts)(ht:ES P t ti){te:APJ Ty}(D9:∀u,te=some u->ts.Eh=true/\∃kn,kn.ty=u/\ES P ts.elem kn){z:AV}
    (h:aE σ.Aj te ti.ty (σ.Ci x) some=some z):Nr P σ o ⟨z,σ.Aj,[]⟩ :=
 .Is <| Lh (s:=λρ=>convert s t (ρ x)) (λρ=>by simp[execOp,ho]) λa w g BH=>by
  obtain⟨z',e,hG⟩:=Aez BH.heap hs ht D9 h (AQ BH x)
  grind
theorem AgO{t:TypeId}{x:Operand}(ho:o.op=.load t x){ti:TI}(ht:ES P t ti){z:AV}(h:Zi σ.Aj ti (σ.Ci x) some=some z):Nr P σ o ⟨z,σ.Aj,[]⟩ :=
 .Is <| Lh (s:=λρ=>Instr.loadAt t (ρ x)) (λρ=>by simp[execOp,ho]) λa w g BH=>by
  obtain⟨z',e,hG⟩:=AfR BH.heap ht h (AQ BH x)
  grind
theorem kU{t:TypeId}{x:Operand}{f:Nat}(ho:o.op=.fieldAddr t x f){ti:TI}(ht:ES P t ti){z:AV}(h:ky ti f (σ.Ci x) some=some z):Nr P σ o ⟨z,σ.Aj,[]⟩ :=
 .Is <| Lh (s:=λρ=>Instr.fieldAt t (ρ x) f) (λρ=>by simp[execOp,ho]) λa w g BH=>by
  obtain⟨z',e,hG⟩:=Ajx  ht h (AQ BH x)
  grind
theorem kV{t:TypeId}{x i:Operand}(ho:o.op=.indexAddr t x i){ti te:TI}(ht:ES P t ti)(D9:ES P ti.elem te)(Iw:ti.Eh=true){z:AV}(h:wW σ.Aj te.ty (σ.Ci x) (σ.Ci i) some=some z):Nr P σ o ⟨z,σ.Aj,[]⟩ :=
 .Is <| Lh (s:=λρ=>Instr.indexAt t (ρ x) (ρ i)) (λρ=>by simp[execOp,ho]) λa w g BH=>by
  obtain⟨z',e,hG⟩:=AjW BH.heap ht D9 Iw h (AQ BH x) (AQ BH i)
  grind
theorem AbO{t:TypeId}{x i:Operand}(ho:o.op=.index t x i){ti:TI}(ht:ES P t ti)(hs:ti.ty=.str){z:AV}(h:ov (σ.Ci x) (σ.Ci i) some=some z):Nr P σ o ⟨z,σ.Aj,[]⟩ :=
 .Is <| Lh (s:=λρ=>Instr.index t (ρ x) (ρ i)) (λρ=>by simp[execOp,ho]) λa w g BH=>by
  obtain⟨z',e,hG⟩:=Ajn  ht hs h (AQ BH x) (AQ BH i)
  grind
theorem AbQ{t:TypeId}{x:Operand}{lo hi mx:APJ Operand}(ho:o.op=.slice t x lo hi mx){ti:TI}(ht:ES P t ti){te:APJ Ty}(D9:∀u,te=some u->ti.Eh=true/\∃kn,kn.ty=u/\ES P ti.elem kn){z:AV}
    (h:WI σ.Aj ti te (σ.Ci x) (lo.map σ.Ci) (hi.map σ.Ci) (mx.map σ.Ci) some=some z):Nr P σ o ⟨z,σ.Aj,[]⟩ :=
 .Is <| Lh (s:=λρ=>Instr.sliceAt t (ρ x) (lo.map ρ) (hi.map ρ) (mx.map ρ)) (λρ=>by simp[execOp,ho]) λa w g BH=>by
  obtain⟨z',e,hG⟩:=AbG BH.heap ht D9 h (AQ BH x) (YF BH lo) (YF BH hi) (YF BH mx)
  grind
theorem uk{x:Operand}{i:Nat}(ho:o.op=.extract x i){z:AV}(h:O9 (σ.Ci x) i=some z)(hz:z.Dj=false):Nr P σ o ⟨z,σ.Aj,[]⟩ :=
 .Is <| Lh (s:=λρ=>Instr.extract (ρ x) i) (λρ=>by simp[execOp,ho]) λa w g BH=>by
  have hx:=AQ BH x;cases hq:σ.Ci x with
  |cons b c =>
   rw[hq]at hx h;obtain⟨vs,e,hx⟩:=hx;obtain⟨v,hv,hr⟩:=yP h hx;exact⟨v,by simp[Instr.extract,e,hv],hr hz⟩
  |_=>rw[hq]at h;simp[O9]at h
theorem Ye{w:World}{g:G}{n:Nat}:∀{t:Ty},CG w g n false t.Zq (QM t)
 |.int k=>⟨λ_ h=>by grind,rfl⟩
 |.bool=>⟨λ_ h=>by grind,rfl⟩
 |.str=>⟨λ_ h=>by grind,rfl⟩
 |.unit=>⟨λ_ h=>by grind,rfl⟩
 |.AE a b=>⟨_,_,rfl,Ye,Ye⟩
 |.sl _=>⟨none,rfl⟩
 |.QV 0=>rfl
 |.QV 1=>⟨rfl,by simp[QM,Value.oneCell']⟩
 |.QV (_+2)=>⟨rfl,by simp[QM,Value.oneCell']⟩
theorem nt:∀{t:Ty},t.Zq.isAgg=t.isAgg
 |.int _=>rfl
 |.bool=>rfl
 |.str=>rfl
 |.unit=>rfl
 |.AE _ _=>rfl
 |.sl _=>rfl
 |.QV 0=>rfl
 |.QV (_+1)=>rfl
theorem AbK{t:TypeId}{G3:Array (Nat×Operand)}(ho:o.op=.build t G3){ti:TI}(ht:ES P t ti)(pg:ti.V8≠[]){z:AV}(h:XB ti ti.ty.Zq (G3.toList.map λp=>(p.1,σ.Ci p.2))=some z):Nr P σ o ⟨z,σ.Aj,[]⟩ :=
 .Is <| Lh (s:=λρ=>Instr.build t (G3.map λ(i,x)=>(i,ρ x))) (λρ=>by simp[execOp,ho]) λa w g BH=>by
  obtain⟨o0,ho0⟩:∃o0,ti.V8[0]?=some o0:=by
   cases hq:ti.V8 with
   |nil=>grind
   |cons o0 r=>exact⟨o0,rfl⟩
  obtain⟨fs,hu,hf⟩:=WL ht ho0;obtain⟨pl,sX,hp⟩:=mR hf;obtain⟨i,zv,hi,Mv,vk,hz,Ar0,sE⟩:=ht.info;have ha:ti.ty.isAgg=true:=by
   obtain⟨d,hd,hk⟩:=ht.eM;rw[hu]at hd;injection hd with hd;subst hd;simp only[kindOk,AMd]at hk;exact hk.1
  obtain⟨qP,sI,hx,hxa⟩:=gN  (λj o hj=>by simpa using hp j o hj) (AQ BH) h Ye (by rw[nt];exact ha);refine⟨.agg _,run_build w t _ _ ?_,Bs (Vr hx) hx (by rw[hxa];rfl)⟩;unfold Program.built;have lY:zv.cells=(QM ti.ty).toArray:=by grind
  simp only[hi,hu,hz,sX,lY];simpa using sI
theorem Ald{w:World}{g:G}{n:Nat}{ρ:Operand->AV}{ε:Operand->Value}(hρ:∀x,B4 w g n (ρ x) (ε x)):∀(l:APH Operand),CG w g n true (Yn (l.map ρ)) (l.map ε)
 |[]=>rfl
 |x::l=>by
  refine⟨ε x,l.map ε,rfl,?_,Ald hρ l⟩;have h:=hρ x;split
  ·exact .inl rfl
  ·rename_i ht;exact(B4.iff (by grind)).1 h
theorem qm{f:FuncId}{first Zy:Array Operand}(ho:o.op=.makeFunc (.func f) first Zy)(h0:first.size=0):Nr P σ o ⟨.fn f (Yn (Zy.toList.map σ.Ci)),σ.Aj,[]⟩ :=
 .Is λa w g hs=>by
  have hf:first.map a.eval=#[]:=by
   grind
  have hr:(execOp a.eval o).run P w=.ok (.value (.func (.func f) #[] (Zy.map a.eval))) w:=by simp[execOp,ho,Instr.makeFunc,hf]
  have hv:CG w g _ false (.fn f _) [.func _ #[] (Zy.map _)]:=⟨Zy.toList.map _,by rw[<-Array.toList_map],Ald (AQ hs) _⟩;exact⟨_,hr,Bs rfl hv (by simp[Cr,AV.isAgg])⟩
theorem pU{k:Nat}{i:Int}{p:APH Nat}{q:Nat}{w:World}{g:G}{n:Nat}{v:Value}(h:B4 w g n (.ptr k i p q) v):∃a,v=.pointer (some a):=by
 obtain⟨_,_,_,b,_,e⟩:=K1 h;exact⟨_,e⟩
theorem pV{ks:APH Nat}{t:Ty}{y:t.V}{w:World}{g:G}{n:Nat}{v:Value}(h:B4 w g n (.Fv ks t y) v):∃a,v=.pointer (some a):=by
 obtain⟨_,b,off,_,e,_⟩:=Yk h;exact⟨_,e⟩
end
theorem yn{u:Ty}:∀{n i:Nat},i<n->lb (rz u n) i=some u/\Ug (rz u n) i=some (i*u.size)
 |n+1,0,_=>by simp[rz,lb,Ug]
 |n+1,i+1,h=>by
  obtain⟨h1,h2⟩:=yn  (n:=n) (i:=i) (by omega);refine⟨by simpa [rz,lb]using h1,?_⟩;simp only[rz,Ug,h2]
  grind
theorem lR{place Agk:Nat->APJ (Nat×Nat)}(h:∀i p,place i=some p->Agk i=some p):∀{G3:APH (Nat×Value)} {cs r:Array Value},Instr.fill place cs G3=some r->Instr.fill Agk cs G3=some r
 |[],_,_,hf=>hf
 |(i,v)::fu,cs,r,hf=>by
  unfold Instr.fill at hf⊢;split at hf
  ·grind
  ·rename_i off size hp;rw[h i _ hp];simp only;split at hf
   ·grind
   ·rename_i hc;rw[AMp hc];exact lR h hf
section
variable {P:Program} {σ:St} {o:Oper} {en:Gx}
theorem qk{t:TypeId}{G3:Array (Nat×Operand)}(ho:o.op=.build t G3){ti te:TI}(ht:ES P t ti)(D9:ES P ti.elem te)(hn:ti.He≠0)(fM:ti.ty=rz te.ty ti.He){z:AV}
    (h:XB (ti.plc te) ti.ty.Zq (G3.toList.map λp=>(p.1,σ.Ci p.2))=some z):Nr P σ o ⟨z,σ.Aj,[]⟩ :=
 .Is <| Lh (s:=λρ=>Instr.build t (G3.map λ(i,x)=>(i,ρ x))) (λρ=>by simp[execOp,ho]) λa w g BH=>by
  have hu:=ht.He hn;have ha:ti.ty.isAgg=true:=by
   rw[fM];cases hq:ti.He with
   |zero=>grind
   |succ n=>rfl
  obtain⟨i,zv,hi,Mv,vk,hz,Ar0,sE⟩:=ht.info;obtain⟨qP,sI,hx,hxa⟩:=gN  (pl:=(List.range ti.He).map λi=>(i*te.ty.size,te.ty.size))    (λj o hj=>by
   simp only[TI.plc,AMz,Option.map_eq_some_iff]at hj;obtain⟨q,hq,rfl⟩:=hj;have cw:j<ti.He:=by
    grind
   rw[AN3 cw]at hq;injection hq with hq;subst hq;refine⟨te.ty,by show lb ti.ty j=_;rw[fM];exact(yn cw).1,?_⟩;simp[AN3 cw]) (AQ BH) h Ye (by rw[nt];exact ha)
  refine⟨.agg _,?_,Bs (Vr hx) hx (by rw[hxa];rfl)⟩;have lY:zv.cells=(QM ti.ty).toArray:=by grind
  have Ar6:Instr.fill (λi=>some (i*te.ty.size,te.ty.size)) zv.cells (G3.map λ(i,x)=>(i,a.eval x)).toList=some qP.toArray:=by
   rw[lY];refine lR (λi p hp=>?_) (by simpa using sI)
   grind
  have Ar7 :=by simpa using Ar6
  simp[Instr.build,run_underlying hu,zeroValue,typeInfo,hi,hz,DL D9,Ar7]
theorem ql{t:TypeId}{x i:Operand}(ho:o.op=.index t x i){ti te:TI}(ht:ES P t ti)(D9:ES P ti.elem te)(hn:ti.He≠0){ks:APH Nat}{kk:IntKind}{j:Int}(hi:σ.Ci i=.AB ks (.int kk) j)
    (hj:0<=j/\j<(ti.He:Int)/\(σ.Ci x).off j.toNat=some (j.toNat*te.ty.size)/\(σ.Ci x).isAgg=true/\(σ.Ci x).Dj=false) {v:AV} (hv:(σ.Ci x).Z6 j.toNat=some v) (Mv:v.size=te.ty.size/\v.isAgg=te.ty.isAgg):Nr P σ o ⟨v,σ.Aj,[]⟩ :=
 .Is <| Lh (s:=λρ=>Instr.index t (ρ x) (ρ i)) (λρ=>by simp[execOp,ho]) λa w g BH=>by
  have hu:=ht.He hn;obtain⟨h0,h1,PS,sE,XP⟩:=hj;have hix:=AQ BH i;rw[hi]at hix;have hie:=Dx hix;have W6:=AQ BH x;have Rb:(σ.Ci x).NC=false:=by
   cases hq:σ.Ci x<;>rw[hq]at hv<;>first |rfl |simp[AV.Z6]at hv
  obtain⟨cs,SI,wV⟩:=B3 XP Rb W6;rw[sE]at wV;have wV:a.eval x=.agg cs.toArray:=wV;obtain⟨c0,c1,c2,e,zi,iR,_⟩:=XH _ _ cs v SI hv;rw[PS]at zi;injection zi with zi;have UG:c1.length=te.ty.size:=by rw[iR.len,Mv.1]
  rw[hie,wV];cases hg:te.ty.isAgg with
  |true =>
   refine⟨.agg c1.toArray,?_,Bs (Vr iR) iR (by rw[Mv.2,hg];rfl)⟩;have hex:cs.toArray.extract (j.toNat*te.ty.size) (j.toNat*te.ty.size+te.ty.size)=c1.toArray:=by
    apply Array.ext';rw[Array.toList_extract,zi,e];simp only[List.extract];rw[show c0.length+te.ty.size-c0.length=c1.length by omega,AMe,List.drop_left,ANY]
   have Ar5:List.take te.ty.size (List.drop (j.toNat*te.ty.size) cs)=c1:=by
    rw[zi,e,AMe,List.drop_left,<-UG,ANY]
   simp[Instr.index,asIntOf,run_underlying hu,h0,h1,part,ai D9,hg,DL D9,Ar5]
  |false =>
   have ZJ:te.ty.size=1:=Sv hg;obtain⟨u,hu1⟩:∃u,c1=[u]:=by
    cases c1 with
    |nil=>rw[ZJ]at UG;cases UG
    |cons u r=>cases r with
     |nil=>exact⟨u,rfl⟩
     |cons _ _=>rw[ZJ]at UG;simp at UG
   subst hu1;refine⟨u,?_,Bs (Vr iR) iR (by rw[Mv.2,hg];rfl)⟩;have VY:cs[j.toNat*te.ty.size]?=some u:=by
    rw[zi,e,AMe,AMs (AMc _),Nat.sub_self];rfl
   simp[Instr.index,asIntOf,run_underlying hu,h0,h1,part,ai D9,hg,DL D9,VY]
theorem sr{ty:Ty}:∀{fs:APH Field} {os:APH Nat} {i j:Nat} {fd:Field} {u:Ty},OU P ty i fs os=true->fs[j]?=some fd->lb ty (i+j)=some u->∃d,P.underlying fd.type=some d/\Aio d=u.isAgg
 |[],_,_,_,_,_,_,h,_=>by grind
 |_::_,[],_,_,_,_,h,_,_=>by simp[OU]at h
 |f::fs,o'::os,i,0,fd,u,h,hf,hu=>by
  simp only[List.getElem?_cons_zero,AL8]at hf;subst hf;simp only[OU,AMd]at h;obtain⟨⟨_,h3⟩,_⟩:=h;rw[show lb ty i=some u from hu]at h3;simp only[AMd]at h3;have h4:=h3.2;unfold AAy at h4
  grind
 |f::fs,o'::os,i,j+1,fd,u,h,hf,hu=>by
  simp only[OU,AMd]at h;exact sr  h.2 (by simpa using hf) (by grind)
theorem Ada{w:World}{t:Nat}{d:TypeDesc}(h:P.underlying t=some d):(isAgg t).run P w=.ok (Aio d) w:=by
 cases d<;>simp[isAgg,underlying,h,Aio]
theorem AbM{t:TypeId}{x:Operand}{f:Nat}(ho:o.op=.field t x f){ti:TI}(ht:ES P t ti){fo:Nat}(hfo:ti.V8[f]?=some fo){u:Ty}(hu:lb ti.ty f=some u){v:AV}(hv:(σ.Ci x).Z6 f=some v)
    (hc:(σ.Ci x).off f=some fo/\(σ.Ci x).isAgg=true/\(σ.Ci x).Dj=false/\v.size=u.size/\v.isAgg=u.isAgg):Nr P σ o ⟨v,σ.Aj,[]⟩ :=
 .Is <| Lh (s:=λρ=>Instr.field t (ρ x) f) (λρ=>by simp[execOp,ho]) λa w g BH=>by
  obtain⟨PS,sE,XP,AGo,ACK⟩:=hc;obtain⟨fs,ACP,hfl⟩:=WL ht hfo;obtain⟨fd,u',inf,h1,h2,h3,h4,h5,h6,h7⟩:=oS hfl hfo;rw[AMC]at h3 h4;have:u'=u:=by grind
  subst this;obtain⟨d,hd,hda⟩:=sr (i:=0) hfl h1 (by rw[AMC];exact hu);have hfd:fs[f]?=some fd:=by grind
  have hsr:(sizeOf fd.type).run P w=.ok u'.size w:=by simp[sizeOf,typeInfo,h5,h6]
  have har:=Ada (w:=w) hd;rw[hda]at har;have W6:=AQ BH x;have Rb:(σ.Ci x).NC=false:=by
   cases hq:σ.Ci x<;>rw[hq]at hv<;>first |rfl |simp[AV.Z6]at hv
  obtain⟨cs,SI,wV⟩:=B3 XP Rb W6;rw[sE]at wV;obtain⟨c0,c1,c2,e,zi,iR,_⟩:=XH _ _ cs v SI hv;rw[PS]at zi;injection zi with zi;have UG:c1.length=u'.size:=by rw[iR.len,AGo]
  rw[wV];cases hg:u'.isAgg with
  |true =>
   rw[hg]at har;refine⟨.agg c1.toArray,?_,Bs (Vr iR) iR (by rw[ACK,hg];rfl)⟩;have Ar5:List.take u'.size (List.drop fo cs)=c1:=by
    grind
   simp[Instr.field,underlying,ACP,hfd,asAgg,part,har,hsr,h2,Ar5]
  |false =>
   rw[hg]at har;have ZJ:u'.size=1:=Sv hg;obtain⟨y,hy⟩:∃y,c1=[y]:=by
    cases c1 with
    |nil=>grind
    |cons y r=>grind
   subst hy;refine⟨y,?_,Bs (Vr iR) iR (by rw[ACK,hg];rfl)⟩;have VY:cs[fo]?=some y:=by
    grind
   simp[Instr.field,underlying,ACP,hfd,asAgg,part,har,h2,VY]
theorem dY{t:TypeId}{w:World}{ti te:TI}(ht:ES P t ti)(D9:ES P ti.elem te)(hn:ti.He≠0){kk:IntKind}{j:Int}(h0:0<=j)(h1:j<(ti.He:Int))(b f:Nat) :
    (Instr.indexAt t (.pointer (some ⟨b,f,none⟩)) (.int kk j)).run P w=.ok (.pointer (some ⟨b,f+j.toNat*te.ty.size,none⟩)) w:=by
 have hu:=ht.He hn;simp[Instr.indexAt,asIntOf,run_underlying hu,Instr.sureAddr,h0,h1,DL D9,YY]
theorem dz{t:TypeId}{x i:Operand}(ho:o.op=.indexAddr t x i){ti te:TI}(ht:ES P t ti)(D9:ES P ti.elem te)(hn:ti.He≠0){ks:APH Nat}{kk:IntKind}{j:Int}(hi:σ.Ci i=.AB ks (.int kk) j)
    (h0:0<=j) (h1:j<(ti.He:Int)) {v:AV}
    (hv : (match σ.Ci x with
          |.ptr k q p f=>some (.ptr k q (p++[j.toNat]) (f+j.toNat*te.ty.size))
          |.Fv ks t' y=>if Ug t' j.toNat=some (j.toNat*te.ty.size)then match Xl ks t' y j.toNat with |some (.AB _ u z)=>some (.Fv ks u z)|_=>none else none
          |_=>none)=some v):Nr P σ o ⟨v,σ.Aj,[]⟩ :=
 .Is <| Lh (s:=λρ=>Instr.indexAt t (ρ x) (ρ i)) (λρ=>by simp[execOp,ho]) λa w g BH=>by
  have hix:=AQ BH i;rw[hi]at hix;have hie:=Dx hix;have W6:=AQ BH x;rw[hie];split at hv
  ·rename_i k q p f hq;injection hv with hv;subst hv;rw[hq]at W6;obtain⟨hk,g0,g1,b,hb,e⟩:=K1 W6;rw[e];refine⟨_,dY ht D9 hn h0 h1 b _,?_⟩;rw[ANa];exact di hk g0 g1 hb
  ·rename_i ks t' y hq;rw[hq]at W6;split at hv
   ·rename_i PS;split at hv
    ·rename_i Tv u z hz;injection hv with hv;subst hv;obtain⟨hk,b,off,ds,e0,ha,hr,hc⟩:=Yk W6;obtain⟨c0,c1,c2,e,zi,_,⟨u',y',heq,dT⟩,_⟩:=Yz (g:=g) hk _ _ y ds _ hr hz;injection heq with _ h2 h3;subst h2;obtain rfl:=eq_of_heq h3;rw[PS]at zi;injection zi with zi;rw[e0];refine⟨_,dY ht D9 hn h0 h1 b off,dj hk ha dT λq' u sY=>?_⟩;rw[ANa];refine hc _ u ?_
     grind
    ·grind
   ·cases hv
  ·grind
end
def G.add(g:G)(n b:Nat)(i:BI):G:=⟨λq=>if q=b then .BO n []else g.own q,λk=>if k=n then i else g.AZ k⟩
def G.RF(g:G)(rs:APH Nat):G:=⟨λq=>match g.own q with |.BO j r=>if j∈rs then .Ir else .BO j r |t=>t,g.AZ⟩
section
variable {w:World} {g:G} {bs:APH Blk}
theorem T2(H:Bf w g bs){b:Nat}(h:g.own b≠.no):b<w.heap.size:=by
 rcases AMh b w.heap.size with h' |h'
 ·grind
 ·exact(h (H.BZ b h')).elim
theorem Step.add(H:Bf w g bs)(o:Obj)(i:BI):Step [] bs.length w g (w.alloc o) (g.add bs.length w.heap.size i) where
 os:=rfl
 tape:=rfl
 output:=rfl
 size:=by simp
 no b hb h:=by
  refine⟨by simp[G.add,h,Nat.ne_of_lt hb],heap_alloc_old w o b hb⟩
 Ir b h:=by
  have hb:=T2 H (b:=b) (by grind);exact⟨by simp[G.add,h,Nat.ne_of_lt hb],heap_alloc_old w o b hb⟩
 BO b k p h hk _:=by
  have hb:=T2 H (b:=b) (by grind);exact⟨by simp[G.add,h,Nat.ne_of_lt hb],heap_alloc_old w o b hb⟩
 AZ k hk:=by simp[G.add,Nat.ne_of_lt hk]
theorem AaS(H:Bf w g bs)(o:Obj)(i:BI):∀b,(w.alloc o).heap.size<=b->(g.add bs.length w.heap.size i).own b=.no:=by
 intro b hb;have Mv:(w.alloc o).heap.size=w.heap.size+1:=by simp
 have:b≠w.heap.size:=by omega
 simp[G.add,this,H.BZ b (by omega)]
theorem Bf.new(H:Bf w g bs){o:Obj}{i:BI}{b:Blk}(hb:Mn (w.alloc o) (g.add bs.length w.heap.size i) (bs.length+1) bs.length b):Bf (w.alloc o) (g.add bs.length w.heap.size i) (bs++[b]) :=
 H.push (Step.add H o i) (AaS H o i) hb
theorem Step.RF(rs:APH Nat)(n:Nat)(w:World)(g:G):Step rs n w g w (g.RF rs) where
 os:=rfl
 tape:=rfl
 output:=rfl
 size:=AMc _
 no b _ h:=⟨by simp[G.RF,h],rfl⟩
 Ir b h:=⟨by simp[G.RF,h],rfl⟩
 BO b k p h _ hm:=⟨by simp[G.RF,h,hm],rfl⟩
 AZ _ _:=rfl
theorem Bf.Z4{w':World}{g':G}{Bz:APH Nat}{Ga:APH Blk}(H:Bf w g bs)(s:Step Bz bs.length w g w' g')(hf:∀b,w'.heap.size<=b->g'.own b=.no)(hl:bs.length<=Ga.length)
    (hb:∀(j:Nat) (x:Blk),Ga[j]?=some x->x=.A9\/(j∉Bz/\∃y,bs[j]?=some y/\x=y.drop λk=>Bz.contains k)\/Mn w' g' Ga.length j x):Bf w' g' Ga :=
 ⟨hf,λj x hx=>by
  rcases hb j x hx with h |⟨hm,y,hy,rfl⟩|h
  ·subst h;trivial
  ·exact(H.LP j y hy).step s hl (A3 hy) hm
  ·grind⟩
theorem Dq{Bz:APH Nat}{bs:APH Blk}{i:Nat}{x:Blk}(h:(Ba Bz bs)[i]?=some x):∃y,bs[i]?=some y/\x=y.drop λk=>Bz.contains k:=by
 unfold Ba at h;split at h
 ·exact⟨x,h,by rw[show(λk=>[].contains k)=λ_=>false from funext λ_=>rfl,au]⟩
 grind
theorem AF(Bz:APH Nat)(bs:APH Blk):(Ba Bz bs).length=bs.length:=by unfold Ba;split<;>simp
theorem A7:∀(rs:APH Nat) (bs:APH Blk),(Blk.GF bs rs).length=bs.length
 |[],_=>rfl
 |k::r,bs=>by rw[Blk.GF,A7 r,AMf]
theorem Ks:∀{rs:APH Nat} {bs:APH Blk} {j:Nat} {x:Blk},(Blk.GF bs rs)[j]?=some x->x=.A9\/(j∉rs/\bs[j]?=some x)
 |[],_,_,_,h=>.inr ⟨by simp,h⟩
 |k::r,bs,j,x,h=>by
  rcases Ks (rs:=r) h with h' |⟨h1,h2⟩
  ·grind
  grind
end
section
variable {P:Program} {σ:St} {o:Oper} {en:Gx} {e:HO}
theorem jM{x:AV}{el:TypeId}{f:Act->Value}(ho:∀a:Act,∀w:World,∀g:G,KO w g σ a->(execOp a.eval o).run P w=.ok (.value (.pointer (some ⟨w.heap.size,0,none⟩))) (w.alloc (.cells (f a).cells el))/\∃cs,CG w g σ.Aj.length false x cs/\(f a).cells=cs.toArray) :
    Nr P σ o ⟨.ptr σ.Aj.length 0 [] 0,σ.Aj++[.box x],[]⟩ where
 grow:=by simp
 ext _:=⟨_,rfl⟩
 wp a w g hs next Q hn:=by
  obtain⟨hr,cs,SI,hc⟩:=ho a w g hs;unfold Oper.wp;rw[hr];have st:=Step.add hs.heap (.cells (f a).cells el) ⟨some ⟨w.heap.size,0,none⟩,1,1,0⟩;refine hn _ _ _ (hs.heap.new ?_) ?_ st
  ·refine⟨by simp[G.add],w.heap.size,(f a).cells,el,by simp[G.add],by simp[G.add],heap_alloc_new w _,?_⟩;have e1:(f a).cells.toList=cs:=by grind
   rw[e1];exact SI.QJ st (AMH _)
  ·have:=di (w:=w.alloc (.cells (f a).cells el)) (g:=g.add σ.Aj.length w.heap.size ⟨some ⟨w.heap.size,0,none⟩,1,1,0⟩) (n:=(σ.Aj++[Blk.box x]).length) (k:=σ.Aj.length)  (p:=[]) (o:=0) (b:=w.heap.size)
     (by simp) (ANx _) (by simp[G.add]) (by simp[G.add])
   simpa using this
theorem Akm{el:TypeId}{x:Operand}(ho:o.op=.box el x)(ht:(σ.Ci x).Xg=true):Nr P σ o ⟨.ptr σ.Aj.length 0 [] 0,σ.Aj++[.box (σ.Ci x)],[]⟩ :=
 jM (el:=el)  λa w g hs=>by
  obtain⟨h1,h2⟩:=xT ht;obtain⟨cs,SI,hv⟩:=B3 h2 h1 (AQ hs x);exact⟨by simp[execOp,ho,Instr.box,newVar,newRow],cs,SI,aj hv SI.one⟩
theorem AbI{el:TypeId}(ho:o.op=.alloc el){ti:TI}(ht:ES P el ti):Nr P σ o ⟨.ptr σ.Aj.length 0 [] 0,σ.Aj++[.box ti.ty.Zq],[]⟩:=by
 obtain⟨i,z,hi,_,_,hz,hc,_⟩:=ht.info;refine jM (el:=el) (f:=λ_=>z) λa w g hs=>⟨?_,QM _,Ye,by grind⟩;simp[execOp,ho,Instr.alloc,zeroValue,typeInfo,hi,hz,newVar,newRow]
theorem de(z:Array Value){s l c:Nat}(hs:z.size=s)(h0:0<s)(hl:l<=c):(madeCells z (c*s)).toList.take (l*s)=(List.replicate l (Value.agg z)).flatMap λv=>v.cells.toList:=by
 apply ANi;intro k;rw[Great.flat_get h0 _ (λv hv=>by rw[List.eq_of_mem_replicate hv];exact hs),AM9];have hm :=AM7 s hl;by_cases hk:k<l*s
 ·have hd :=(Nat.div_lt_iff_lt_mul h0).2 hk;have hr:k%s<s:=Nat.mod_lt _ h0;rw[AMo hk,List.getElem?_replicate,AMo hd];have Xp:k<(madeCells z (c*s)).toList.length:=by simp[madeCells];omega
  rw[ANd Xp];have hr' :=by omega
  simp only[madeCells,Value.cells,hs]
  grind
 ·have hd :=λh=>hk ((Nat.div_lt_iff_lt_mul h0).1 h)
  grind
theorem YH{α:Type}{I:Nat->α->APH Value->Prop}{x:α}{v:Value}(h:∀i,I i x v.cells.toList):∀(l i:Nat),Bi I i (List.replicate l x) ((List.replicate l v).flatMap λv=>v.cells.toList)
 |0,_=>rfl
 |l+1,i=>by
  exact⟨_,_,rfl,h i,YH h l _⟩
theorem jC{t:Ty}(h:t.row=true):t.data=true/\0<t.size:=by
 simp only[Ty.row,AMd,ANy]at h
 grind
theorem nz{w:World}{own:Nat->TT}{k:Nat}{t:Ty}(h:t.data=true){v:Value}(hv:v.cells.toList=QM t)(l:Nat)(fi:FI) :
    Aao w own k (fi.mode t) t (List.replicate l t.zero) ((List.replicate l v).flatMap λv=>v.cells.toList):=by
 unfold FI.mode;split
 ·exact YH (λi=>by rw[hv];exact Jo.zero h) l 0
 ·exact HZ.2 (YH  (λi=>by rw[hv];exact HE.zero h) l 0)
theorem Uf(fi:FI)(t:Ty):(fi.mode t).Ct=[]:=by unfold FI.mode;split<;>rfl
theorem AC0{l c:Int}(h0:0<=l)(h:l<=c)(hm:c<=9223372036854775807):l.toNat<=c.toNat/\c.toNat<=maxLen:=by
 simp only[maxLen];omega
theorem AgQ{t:TypeId}{l c:Operand}(ho:o.op=.makeSlice t l c){fi:FI}{ti te:TI}(ht:ES P t ti)(D9:ES P ti.elem te)(Iw:ti.Eh=true)
    (h:mn fi σ.Aj ti.elem te (σ.Ci l) (σ.Ci c) some=some e):Nr P σ o e:=by
 unfold mn at h;split at h
 ·rename_i x1 x2 ks1 k1 lv ks2 k2 cv hl hc;split at h
  ·rename_i hg;obtain⟨NR,h0,hlc,vk,sP⟩:=hg;injection h with h;subst h;obtain⟨iJ,BU⟩:=jC NR;obtain⟨i,z,hi,Mv,hbs,hz,lY,_⟩:=D9.info;refine⟨by simp,λ_=>⟨_,rfl⟩,λa w g hs next Q hn=>?_⟩
   have e1:=AQ hs l;rw[hl]at e1;have e1:=Dx e1;have e2:=AQ hs c;rw[hc]at e2;have e2:=Dx e2;have hr:=run_make  w t _ i z (Bw ht Iw) hi hz k1 k2 lv cv h0 hlc (by grind) sP;unfold Oper.wp;simp only[execOp,ho,e1,e2,Sem.run_bind,hr];obtain⟨HQ,hcm⟩:=AC0 h0 hlc sP;have st:=Step.add hs.heap (.cells (madeCells z.cells (cv.toNat*i.size)) ti.elem) ⟨some ⟨w.heap.size,0,none⟩,lv.toNat,cv.toNat,te.ty.size⟩;refine hn _ _ _ (hs.heap.new ?_) ?_ st
   ·refine⟨(by rw[Uf];intro j hj;cases hj),by simp[G.add],by simp[G.add],BU,.inr ⟨w.heap.size,_,_,by simp[G.add],by simp[G.add],⟨_,.inr rfl,heap_alloc_new w _⟩,by simpa [G.add]using HQ,by simpa [G.add]using hcm,by simp[G.add,size_madeCells,Mv],rfl,?_⟩⟩;rw[AMD,Mv];rw[de _ (by rw[<-AM3,lY,RB]) BU HQ];exact nz iJ (by exact lY) _ fi
   ·refine Bs  rfl ⟨by simp,rfl⟩ ?_;simp[Cr,AV.isAgg,G.add]
  ·grind
 ·grind
end
def G.UE(g:G)(f:Nat->APH Nat->TT)(ob:APJ Nat)(n:Nat)(i:BI):G :=
 ⟨λq=>if ob=some q then .BO n []else match g.own q with |.BO j r=>f j r |t=>t,λk=>if k=n then i else g.AZ k⟩
section
variable {w w':World} {g:G} {bs:APH Blk} {f:Nat->APH Nat->TT} {ob:APJ Nat} {n N:Nat} {i:BI} {Bz:APH Nat}
theorem Step.UE(fr:∀b,w.heap.size<=b->g.own b=.no)(hos:w'.os=w.os)(hta:w'.tape=w.tape)(hou:w'.output=w.output)(Mv:w.heap.size<=w'.heap.size)
    (US:∀q,q<w.heap.size->(∀k p,g.own q=.BO k p->k∉Bz)->w'.heap[q]?=w.heap[q]?) (wS:∀q,ob=some q->w.heap.size<=q) (hN:n<=N) (hf:∀j r,j<n->j∉Bz->f j r=.BO j r) :
    Step Bz n w g w' (g.UE f ob N i):=by
 have lt:∀b,g.own b≠.no->b<w.heap.size:=λb h=>by
  rcases AMh b w.heap.size with h' |h'
  ·exact h'
  ·exact(h (fr b h')).elim
 have nob:∀b,b<w.heap.size->¬(ob=some b):=λb hb e=>by have:=wS b e;omega
 refine⟨hos,hta,hou,Mv,λb hb h=>⟨?_,US b hb λk p e=>?_⟩,λb h=>⟨?_,US b (lt b (by rw[h];simp)) λk p e=>?_⟩,λb k p h hk hm=>⟨?_,US b (lt b (by rw[h];simp)) λk' p' e=>?_⟩,λk hk=>?_⟩
 ·simp[G.UE,nob b hb,h]
 ·rw[h]at e;cases e
 ·simp[G.UE,nob b (lt b (by rw[h];simp)),h]
 ·rw[h]at e;cases e
 ·simp[G.UE,nob b (lt b (by rw[h];simp)),h,hf k p hk hm]
 ·rw[h]at e;injection e with e;subst e;exact hm
 ·have:k≠N:=by omega
  simp[G.UE,this]
theorem Mu(fr:∀b,w.heap.size<=b->g.own b=.no)(Mv:w.heap.size<=w'.heap.size)(wS:∀q,ob=some q->q<w'.heap.size):∀b,w'.heap.size<=b->(g.UE f ob N i).own b=.no:=by
 intro b hb;have h1:¬(ob=some b):=λe=>by have:=wS b e;omega
 simp[G.UE,h1,fr b (AMA Mv hb)]
end
def Ku:AV->APH Nat->APH (Nat×APH Nat)
 |.AG k,p=>[(k,p)]
 |.pr a b,p=>Ku a (0::p)++Ku b (1::p)
 |_,_=>[]
theorem Gv:∀(a:AV) (p:APH Nat),(Ku a p).map (·.1)=a.QW
 |.AG k,_=>rfl
 |.mp _,_=>rfl
 |.pr a b,p=>by simp[Ku,AV.QW,Gv a,Gv b]
 |.AB _ _ _,_=>rfl
 |.zs,_=>rfl
 |.ptr _ _ _ _,_=>rfl
 |.Fv _ _ _,_=>rfl
 |.JU,_=>rfl
 |.fn _ _,_=>rfl
 |.cons _ _,_=>rfl
 |.nil,_=>rfl
 |.TA _ _ _ _ _,_=>rfl
 |.Vs _ _ _ _ _ _,_=>rfl
 |.un _,_=>rfl
def jd:APH (Nat×APH Nat)->Nat->APJ (APH Nat)
 |[],_=>none
 |(k,p)::r,j=>if k=j then some p else jd r j
theorem bl:∀{M:APH (Nat×APH Nat)},nodup (M.map (·.1))=true->∀{j p},(j,p)∈M->jd M j=some p
 |(k,q)::r,hn,j,p,h=>by
  simp only[AMT,nodup,AMd,ANu]at hn;simp only[jd];rcases List.mem_cons.1 h with h |h
  ·injection h with h1 h2;subst h1;subst h2;simp
  ·split
   ·rename_i e;subst e;have:k∈r.map (·.1):=List.mem_map.2 ⟨_,h,rfl⟩;simp at hn this;obtain⟨x,hx⟩:=this;exact(hn.1 x hx).elim
   ·exact bl hn.2 h
theorem TP:∀{M:APH (Nat×APH Nat)} {j:Nat},j∉M.map (·.1)->jd M j=none
 |[],_,_=>rfl
 |(k,q)::r,j,h=>by
  simp only[AMT,ANH,not_or]at h;simp only[jd,AMp (Ne.symm h.1)];exact TP h.2
section
variable {w:World} {g:G} {bs:APH Blk}
theorem Ab0(H:Bf w g bs){ND:Nat->TT}{k:Nat}:∀(t:Ty) (v:AV) (y:t.V) (cs:APH Value) (p:APH Nat),rd bs t v=some y->v.XG=true->(∀j∈v.QW,bR bs j=some .Aw) ->
    (∀jq∈Ku v p,∀b q,g.own b=.BO jq.1 q->ND b=.BO k (q++jq.2))->CG w g bs.length false v cs->Jo w ND k t p y cs:=by
 have plain:∀(t:Ty) (ks:APH Nat) (u:Ty) (y:u.V) (x:t.V) (cs:APH Value) (p:APH Nat),IU u t y=some x->u.BP=true->CG w g bs.length false (.AB ks u y) cs->Jo w ND k t p x cs:=by
  intro t ks u y x cs p h hf hx;obtain⟨e,he⟩:=BJ h;subst e;simp only at he;subst he;exact(Jo.BP hf).2 ((HE.BP hf).1 hx.2)
 intro t;induction t with
 |AE a b iha ihb =>
  intro v y cs p h hf hd hm hx;simp only[rd]at h;split at h
  ·exact plain _ _ _ _ _ _ _ h (by simpa [AV.XG]using hf) hx
  ·rename_i u z;split at h
   ·rename_i y1 y2 h1 h2;injection h with h;subst h;obtain⟨c,d,e,iR,vq⟩:=hx;simp only[AV.XG,AMd]at hf;exact⟨c,d,e,iha u y1 c _ h1 hf.1 (λj hj=>hd j (by simp[AV.QW,hj])) (λjq hj=>hm jq (by simp[Ku,hj])) iR,
     ihb z y2 d _ h2 hf.2 (λj hj=>hd j (by simp[AV.QW,hj])) (λjq hj=>hm jq (by simp[Ku,hj])) vq⟩
   ·cases h
  ·cases h
 |sl t _ =>
  intro v y cs p h hf hd hm hx;simp only[rd]at h;split at h
  ·exact plain _ _ _ _ _ _ _ h (by simpa [AV.XG]using hf) hx
  ·injection h with h;subst h;obtain⟨ad,e⟩:=hx;exact⟨ad,0,e,.inl ⟨rfl,rfl⟩⟩
  ·rename_i j;split at h
   ·rename_i el m u ys hb;obtain⟨e',he⟩:=BJ h;injection e' with e';subst e';simp only at he;subst he;obtain⟨hk,hc⟩:=hx;have Aln:=hd j (by simp[AV.QW]);simp only[bR,hb,AL8]at Aln;subst Aln;obtain⟨_,hlen,PE,BU,hr⟩:=H.LP j _ hb;have hmj:=hm (j,p) (by simp[Ku]);rw[hlen]at hc;refine⟨_,_,hc,hr.imp id λ⟨b,BA,ds,ha,Cs,⟨el,_,hh⟩,h1,h2,h3,h4,NQ⟩=>⟨b,el,BA,ds,ha,by simpa using hmj b [] Cs,hh,h1,h2,h3,h4,?_⟩⟩;exact Bi.mono (λi x c r=>r.mono λb q hb=>⟨by simpa using hmj b _ hb,rfl⟩) NQ
   ·cases h
  ·cases h
 |_ =>
  intro v y cs p h hf hd hm hx;simp only[rd]at h;split at h
  ·exact plain _ _ _ _ _ _ _ h (by simpa [AV.XG]using hf) hx
  ·cases h
theorem ZP:∀(v:AV) (j:Nat),j∈v.Ua bs->j∈v.QW\/j∈v.fb\/∃r∈v.QW,∃l,bR bs r=some (.sh l)/\j∈l
 |.AB ks _ _,j,h=>.inr (.inl h)
 |.AG k,j,h=>by
  simp only[AV.Ua]at h;rcases List.mem_cons.1 h with h |h
  ·exact .inl (by simp[AV.QW,h])
  ·cases hm:bR bs k with
   |none=>rw[hm]at h;cases h
   |some m =>
    rw[hm]at h;cases m with
    |Aw=>cases h
    |sh l=>exact .inr (.inr ⟨k,by simp[AV.QW],l,hm,h⟩)
 |.pr a b,j,h=>by
  simp only[AV.Ua]at h;rcases List.mem_append.1 h with h |h
  ·rcases ZP a j h with h |h |⟨r,h,l,hl⟩
   ·exact .inl (by simp[AV.QW,h])
   ·exact .inr (.inl (by simp[AV.fb,h]))
   ·exact .inr (.inr ⟨r,by simp[AV.QW,h],l,hl⟩)
  ·rcases ZP b j h with h |h |⟨r,h,l,hl⟩
   ·exact .inl (by simp[AV.QW,h])
   ·exact .inr (.inl (by simp[AV.fb,h]))
   ·exact .inr (.inr ⟨r,by simp[AV.QW,h],l,hl⟩)
 |.zs,_,h=>by cases h
 |.ptr _ _ _ _,_,h=>by cases h
 |.Fv _ _ _,_,h=>by cases h
 |.JU,_,h=>by cases h
 |.fn _ _,_,h=>by cases h
 |.cons _ _,_,h=>by cases h
 |.nil,_,h=>by cases h
 |.TA _ _ _ _ _,_,h=>by cases h
 |.Vs _ _ _ _ _ _,_,h=>by cases h
 |.mp _,_,h=>by cases h
 |.un _,_,h=>by cases h
end
theorem NN{W1:Nat->Bool}:∀{a:AV},(∀k∈a.Ct,W1 k=false)->a.drop W1=a
 |.AB ks t x,h=>by
  simp only[AV.drop];rw[AMp];intro hc;obtain⟨k,hk,hb⟩:=List.any_eq_true.1 hc;rw[h k hk]at hb;cases hb
 |.Fv ks t x,h=>by
  simp only[AV.drop];rw[AMp];intro hc;obtain⟨k,hk,hb⟩:=List.any_eq_true.1 hc;rw[h k hk]at hb;cases hb
 |.pr a b,h=>by
  simp only[AV.drop];rw[NN λk hk=>h k (by simp[AV.Ct,hk]),NN λk hk=>h k (by simp[AV.Ct,hk])]
 |.fn g c,h=>by
  simp only[AV.drop];rw[NN λk hk=>h k (by simpa [AV.Ct]using hk)]
 |.cons a b,h=>by
  simp only[AV.drop];rw[NN λk hk=>h k (by simp[AV.Ct,hk]),NN λk hk=>h k (by simp[AV.Ct,hk])]
 |.zs,_=>rfl
 |.AG _,_=>rfl
 |.mp _,_=>rfl
 |.ptr _ _ _ _,_=>rfl
 |.JU,_=>rfl
 |.nil,_=>rfl
 |.TA k i p o e,h=>by simp[AV.drop,h k (by simp[AV.Ct])]
 |.Vs k i p o j u,h=>by simp[AV.drop,h k (by simp[AV.Ct])]
 |.un _,_=>rfl
theorem DK{w:World}{own:Nat->TT}{k:Nat}{m:RM}{t:Ty}{xs:APH t.V}{ds:APH Value}:Aao w own k m t xs ds↔Bi (Tn w own k m t) 0 xs ds:=by
 cases m with
 |Aw=>exact Iff.rfl
 |sh ks=>exact HZ
theorem Tn.len{w:World}{own:Nat->TT}{k:Nat}{m:RM}{t:Ty}{i:Nat}{x:t.V}{cs:APH Value}(h:Tn w own k m t i x cs):cs.length=t.size:=by
 cases m with
 |Aw=>exact Jo.len h
 |sh ks=>exact HE.len h
open Classical in
theorem Tn.on{w w':World}{own ND:Nat->TT}{k k':Nat}{m m':RM}{t:Ty}{i i':Nat}{x:t.V}{cs:APH Value}(h:Tn w own k m t i x cs)
    (hm:match m,m' with
     |.Aw,.Aw=>∀b q,own b=.BO k (q++[i])->ND b=.BO k' (q++[i'])/\w'.heap[b]?=w.heap[b]?
     |.sh ks,.sh Tv=>∀b,Al own ks b->Al ND Tv b/\w'.heap[b]?=w.heap[b]?
     |.Aw,.sh Tv=>∀b q,own b=.BO k (q++[i])->Al ND Tv b/\w'.heap[b]?=w.heap[b]?
     |.sh _,.Aw=>False):Tn w' ND k' m' t i' x cs:=by
 cases m with
 |Aw=>cases m' with
  |Aw=>exact Jo.mono (p:=[i]) (p':=[i']) hm h
  |sh Tv =>
   have h1:Jo w' (λb=>if(∃q,own b=.BO k (q++[i]))then own b else .no) k t [i] x cs :=
    Jo.mono (p:=[i]) (p':=[i]) (λb q hb=>⟨by rw[AMo ⟨q,hb⟩];exact hb,(hm b q hb).2⟩) h
   exact Jo.rd (λb q hb=>by
    split at hb
    ·rename_i hq;obtain⟨q',hq⟩:=hq;exact(hm b q' hq).1
    ·cases hb) h1
 |sh ks=>cases m' with
  |Aw=>exact hm.elim
  |sh Tv=>exact HE.mono hm h
def AlR(bs:APH Blk)(v:AV):APH Nat:=v.QW.flatMap (λk=>match bR bs k with |some (.sh l)=>l |_=>[])
theorem Pu{bs:APH Blk}{m m':RM}{t:Ty}{v:AV}{y:t.V}{rs:APH Nat}(h:take bs m t v=some (y,m',rs)):rd bs t v=some y/\rs=v.QW/\nodup v.QW=true /\
    ((m=.Aw/\m'=.Aw/\v.XG=true/\∀j∈v.QW,bR bs j=some .Aw)\/∃ks,m=.sh ks/\m'=.sh (ks++v.fb++AlR bs v)):=by
 unfold take at h;split at h
 ·grind
 ·rename_i y' hy
  dsimp only at h
  split at h
  ·grind
  ·split at h
   ·rename_i hc;simp only[AMd]at hc;obtain⟨rfl,rfl,rfl⟩:=h;exact⟨hy,rfl,hc.1,.inr ⟨_,rfl,rfl⟩⟩
   ·grind
theorem Agw{w:World}{g:G}{bs:APH Blk}(H:Bf w g bs){v:AV}:∀j∈AlR bs v,j<bs.length:=by
 intro j hj;obtain⟨r,_,hr⟩:=List.mem_flatMap.1 hj;split at hr
 ·rename_i l hl;unfold bR at hl;split at hl
  ·rename_i e m t xs hb;injection hl with hl;subst hl;exact(H.LP r _ hb).1 j hr
  ·grind
 ·grind
theorem qx{w:World}{g:G}{bs:APH Blk}(H:Bf w g bs){m m':RM}{t:Ty}{v:AV}{y:t.V}{rs:APH Nat}{cs:APH Value}(h:take bs m t v=some (y,m',rs))(hx:CG w g bs.length false v cs)(hm:∀j∈m.Ct,j<bs.length):∀j∈m'.Ct,j<bs.length:=by
 obtain⟨_,_,_,hc⟩:=Pu h;rcases hc with ⟨rfl,rfl,_⟩|⟨ks,rfl,rfl⟩
 ·grind
 ·intro j hj;rcases List.mem_append.1 hj with hj |hj
  ·rcases List.mem_append.1 hj with hj |hj
   ·exact hm j hj
   ·exact hx.scope j hj
  ·exact Agw H j hj
theorem b6{bs:APH Blk}{m m':RM}{t:Ty}{v:AV}{y:t.V}{rs:APH Nat}(h:take bs m t v=some (y,m',rs)):(∀j∈m.Ct,j∈m'.Ct)/\(m=.Aw↔m'=.Aw):=by
 obtain⟨_,_,_,hc⟩:=Pu h;rcases hc with ⟨rfl,rfl,_⟩|⟨ks,rfl,rfl⟩
 ·grind
 ·exact⟨λj hj=>AME _ (AME _ hj),by simp⟩
theorem V7{ks:APH Nat}{m:RM}(h:kO ks m=true):∀j∈m.Ct,j∉ks:=λj hj=>by
 have:=List.all_eq_true.1 h j hj;simpa using this
def Wl(m:RM)(k:Nat)(M:APH (Nat×APH Nat))(j:Nat)(r:APH Nat):TT :=
 match jd M j with
 |none=>.BO j r
 |some path=>match m with |.Aw=>.BO k (r++path)|.sh _=>.Ir
theorem O8{m:RM}{k:Nat}{M:APH (Nat×APH Nat)}{j:Nat}{r:APH Nat}(h:j∉M.map (·.1)):Wl m k M j r=.BO j r:=by simp[Wl,TP h]
def InR(w:World)(own:Nat->TT)(k:Nat):RM->(t:Ty)->APH Nat->t.V->APH Value->Prop
 |.Aw,t,L,x,cs=>Jo w own k t L x cs
 |.sh ks,t,_,x,cs=>HE w (Al own ks) t x cs
theorem Akl{w:World}{own:Nat->TT}{k:Nat}{m:RM}{u:Ty}{y:u.V}{p:APH Nat}{t:Ty}{i:Nat}{x x':t.V}{cs:APH Value}{o:Nat}(hs:Ss u y p t x=some x')(ho:Lg t p=some o)(h:Tn w own k m t i x cs) :
    ∃c0 c1 c2,cs=c0++c1++c2/\c0.length=o/\c1.length=u.size/\∀SN,InR w own k m u (UI p [i]) y SN->Tn w own k m t i x' (c0++SN++c2):=by
 cases m with
 |Aw=>exact YL (AlP w own k) u y p t [i] x x' cs o hs ho h
 |sh ks=>exact YL (AC5 w _) u y p t [i] x x' cs o hs ho h
theorem qw{w w':World}{g:G}{bs:APH Blk}(H:Bf w g bs){m m':RM}{t:Ty}{v:AV}{y:t.V}{rs:APH Nat}{cs:APH Value}(h:take bs m t v=some (y,m',rs))(hx:CG w g bs.length false v cs){k:Nat}{M:APH (Nat×APH Nat)}{L:APH Nat}{ND:Nat->TT}{m'':RM}
    (hM:∀jq∈Ku v L,jd M jq.1=some jq.2) (QS:∀j∈m'.Ct,j∈m''.Ct) (PS:∀j∈m''.Ct,jd M j=none) (fI:m=.Aw↔m''=.Aw)
    (Cs:∀b j r,g.own b=.BO j r->(j∈M.map (·.1)\/j∈m''.Ct)->ND b=Wl m k M j r) (iK:∀b,g.own b=.Ir->ND b=.Ir)
    (Afe:∀b,g.own b=.Ir\/(∃j r,g.own b=.BO j r/\(j∈M.map (·.1)\/j∈m''.Ct))->w'.heap[b]?=w.heap[b]?):InR w' ND k m'' t L y cs:=by
 obtain⟨hy,rfl,hn,hc⟩:=Pu h;have AlM:∀j p,jd M j=some p->j∈M.map (·.1):=λj p hj=>Classical.byContradiction λhn=>by rw[TP hn]at hj;cases hj
 have AGO:∀j∈v.QW,∃p,jd M j=some p:=λj hj=>by
  rw[<-Gv v L]at hj
  grind
 rcases hc with ⟨rfl,rfl,hf,hd⟩|⟨ks,rfl,rfl⟩
 ·obtain rfl:=fI.1 rfl;have h1:Jo w (λb=>match g.own b with |.BO j r=>(match jd M j with |some p=>.BO k (r++p)|none=>.no)|_=>.no) k t L y cs :=
   Ab0 H t v y cs L hy hf hd (λjq hj b q hb=>by grind) hx
  refine Jo.mono (p:=L) (p':=L) (λb q hb=>?_) h1;split at hb
  ·rename_i j r hj;split at hb
   ·rename_i p hp;have hm:=AlM j p hp;refine⟨?_,Afe b (.inr ⟨j,r,hj,.inl hm⟩)⟩;rw[Cs b j r hj (.inl hm)];simp only[Wl,hp];exact hb
   ·grind
  ·grind
 ·obtain ⟨AfK,rfl⟩:∃l,m''=.sh l:=by
    cases m'' with
    |Aw=>grind
    |sh l=>grind
  have key:∀b j q,g.own b=.BO j q->(j∈v.QW\/j∈AfK)->Al ND AfK b:=by
   intro b j q hb hj;rcases hj with hj |hj
   ·obtain⟨p,hp⟩:=AGO j hj;exact .inl (by rw[Cs b j q hb (.inl (AlM j p hp))];simp[Wl,hp])
   ·exact .inr ⟨j,hj,q,by rw[Cs b j q hb (.inr hj)];simp[Wl,PS j hj]⟩
  obtain⟨hr,hl⟩:=Qe H t v y cs hy hx;refine hr.mono λb hb=>?_;rcases hb with hb |⟨j,hj,q,hq⟩
  ·exact⟨.inl (iK b hb),Afe b (.inl hb)⟩
  ·have QZ:j∈v.QW\/j∈AfK:=by
     rcases ZP v j hj with h |h |⟨r,h,l,hm,cw⟩
     ·grind
     ·exact .inr (QS j (AME _ (AMF _ h)))
     ·exact .inr (QS j (AMF _ (List.mem_flatMap.2 ⟨r,h,by grind⟩)))
   refine⟨key b j q hq QZ,Afe b (.inr ⟨j,q,hq,?_⟩)⟩;rcases QZ with h |h
   ·grind
   ·exact .inr h
section
variable {P:Program} {σ:St} {o:Oper} {en:Gx} {e:HO} {w:World} {g:G}
theorem TE{t:Nat}{ti:TI}(ht:ES P t ti){b off:Nat}{BA:Array Value}{el:TypeId}(hh:w.heap[b]?=some (.cells BA el (0,0))){v:Value}{cs:APH Value}(hv:v.cells=cs.toArray)(hl:cs.length=ti.ty.size)
    (QR:off+cs.length<=BA.size) (h1:∀c∈cs,c.oneCell'=true) :
    (storeVar t ⟨b,off,none⟩ v).run P w=.ok () (w.setRow b (BA.toList.take off++cs++BA.toList.drop (off+cs.length)).toArray):=by
 have hs:=run_storeCells_at P b off el cs 0 BA w hh (by grind) h1;simp[storeVar,DL ht,hv,hl,hs]
theorem iW{Bz:APH Nat}{b k:Nat}{cs:Array Value}(ho:g.own b=.BO k [])(hk:k∈Bz):∀q,q<w.heap.size->(∀k p,g.own q=.BO k p->k∉Bz)->(w.setRow b cs).heap[q]?=w.heap[q]?:=by
 intro q _ hq;refine setRow_other w b q cs λe=>?_;subst e;exact hq k [] ho hk
theorem Ih{f:Nat->APH Nat->TT}{ob:APJ Nat}{n:Nat}{i:BI}{b j:Nat}{r:APH Nat}(wS:ob≠some b)(h:g.own b=.BO j r):(g.UE f ob n i).own b=f j r:=by simp[G.UE,wS,h]
theorem Vg{f:Nat->APH Nat->TT}{ob:APJ Nat}{n:Nat}{i:BI}{b:Nat}(wS:ob≠some b)(h:g.own b=.Ir):(g.UE f ob n i).own b=.Ir:=by simp[G.UE,wS,h]
theorem uE(H:Bf w g σ.Aj){t:Nat}{ti:TI}(ht:ES P t ti){k:Nat}{i:Int}{p:APH Nat}{of:Nat}{a mJ a' v:AV}(hb:σ.Aj[k]?=some (.box a))(hg:a.Vj p=some mJ)(hs:a.ZX p v=some a')
    (hc:v.Xg/\a.Abs p=some of/\mJ.size=v.size/\v.size=ti.ty.size/\v.isAgg=ti.ty.isAgg/\a'.Ct.contains k=false) {u vv:Value} (hu:B4 w g σ.Aj.length (.ptr k i p of) u) (hv:B4 w g σ.Aj.length v vv) :
    ∃w' g',(Instr.storeAt t u vv).run P w=.ok () w'/\Bf w' g' ((Ba [k] σ.Aj).set k (.box a'))/\Step [k] σ.Aj.length w g w' g':=by
 obtain⟨AsB,pg,Mv,BH,sE,Z7⟩:=hc;obtain⟨hk,h0,h1,b,Nt,rfl⟩:=K1 hu;obtain⟨hlen,b',cs,el,ha,ho,hh,hx⟩:=H.LP k _ hb;rw[Nt]at ha;injection ha with ha;injection ha with ha;subst ha;obtain⟨Rb,XP⟩:=xT AsB;obtain⟨cv,XK,hvv⟩:=B3 XP Rb hv;have hvc:=aj hvv XK.one;obtain⟨c0,c1,c2,e1,zj,iR,Hu⟩:=Rm p a cs.toList mJ hx hg;rw[pg]at zj;injection zj with zj;have UG:c1.length=cv.length:=by rw[iR.len,XK.len,Mv]
 have hi0:i.toNat=0:=by omega
 have AFC:cs.size=c0.length+c1.length+c2.length:=by rw[<-AM3,e1];simp only[AMa]
 have D8:=TE (P:=P) ht (off:=of) hh hvc (by rw[XK.len,BH]) (by omega) XK.one;have aZ:(cs.toList.take of++cv++cs.toList.drop (of+cv.length))=c0++cv++c2:=by
  grind
 rw[aZ]at D8;have st:Step [k] σ.Aj.length w g (w.setRow b (c0++cv++c2).toArray) g :=
  ⟨rfl,rfl,rfl,by simp,λq hq h=>⟨h,setRow_other w b q _ (λe=>by grind)⟩,λq h=>⟨h,setRow_other w b q _ (λe=>by grind)⟩,
   λq j r h _ hm=>⟨h,setRow_other w b q _ (λe=>by grind)⟩,λ_ _=>rfl⟩
 refine⟨_,g,?_,?_,st⟩
 ·simp only[hi0,Nat.zero_mul,AMC];exact D8
 ·refine H.Z4 st (λq hq=>H.BZ q (by simpa using hq)) (by simp[AF]) λj x hj=>?_;rw[AMv]at hj;split at hj
  ·rename_i hkj;subst hkj;split at hj
   ·injection hj with hj;subst hj;refine .inr (.inr ⟨hlen,b,_,el,Nt,ho,setRow_heap w b cs _ el (0,0) hh,?_⟩);have:=CG.step st (AMc _) a' false (Hu v a' cv hs XK);rw[NN (λj hj=>by
     grind)]at this
    simpa [AF]using this
   ·grind
  ·rename_i Nk;obtain⟨y,hy,rfl⟩:=Dq hj
   grind
theorem Vu{bs:APH Blk}{t:Ty}{v:AV}{y:t.V}(h:rd bs t v=some y):v.Dj=false/\v.NC=false:=by
 cases v with
 |cons a b=>cases t<;>simp[rd]at h
 |nil=>cases t<;>simp[rd]at h
 |un n=>cases t<;>simp[rd]at h
 |_=>exact⟨rfl,rfl⟩
theorem wG{α:Type}{l:APH α}{i:Nat}(h:i<l.length)(d:α):l.getD i d=l[i]:=by grind
theorem Yb(H:Bf w g σ.Aj){t:Nat}{ti:TI}(ht:ES P t ti){k:Nat}{i:Int}{p:APH Nat}{of e:Nat}{m m':RM}{tr:Ty}{xs:APH tr.V}{v:AV}{y:ti.ty.V}{x':tr.V}{rs:APH Nat}(hb:σ.Aj[k]?=some (.row e m tr xs))
    (Zb:take σ.Aj m ti.ty v=some (y,m',rs)) (hc:Lg tr p=some of/\tyP tr p=some ti.ty/\kO (k::rs) m'=true/\rs.contains k=false) (Hu:Ss ti.ty y p tr (xs.getD i.toNat tr.zero)=some x')
    {u vv:Value} (hu:B4 w g σ.Aj.length (.ptr k i p of) u) (hv:B4 w g σ.Aj.length v vv) :
    ∃w' g',(Instr.storeAt t u vv).run P w=.ok () w'/\Bf w' g' ((Blk.GF (Ba (k::rs) σ.Aj) rs).set k (.row e m' tr (xs.set i.toNat x')))/\Step (k::rs) σ.Aj.length w g w' g':=by
 obtain⟨pg,fM,PS,hrk⟩:=hc;obtain⟨hk,h0,h1,b,Nt,rfl⟩:=K1 hu;obtain⟨QT,hlen,PE,BU,hr⟩:=H.LP k _ hb;have Bm:i.toNat<xs.length:=by rw[<-hlen];exact h1
 rcases hr with ⟨Zd,_⟩|⟨b',BA,ds,ha,Cs,⟨el,UF,hh⟩,PQ,vn,hc3,hc4,NQ⟩
 ·rw[Zd]at Bm;simp at Bm
 rw[Nt]at ha;injection ha with ha;injection ha with ha;subst ha;obtain⟨hy,hrs,RH,hmm⟩:=Pu Zb;obtain⟨XP,Rb⟩:=Vu hy;obtain⟨cv,XK,hvv⟩:=B3 XP Rb hv;have hvc:=aj hvv XK.one;have HQ:cv.length=ti.ty.size:=(Qe H _ _ _ _ hy XK).1.len;obtain⟨c0,c,d,e1,iM,zk,hr0,kF⟩:=Bi.AZ (λi x c h=>Tn.len h) (DK.1 NQ) Bm;have AFC:=Tn.len zk;obtain⟨ZL,fI⟩:=b6 Zb;have W4:=V7 PS;have wM:k∉rs:=by simpa using hrk
 let M:=Ku v (UI p [i.toNat])
 have wH:M.map (·.1)=rs:=by rw[hrs];exact Gv v _
 let f:=Wl m k M
 let g':=g.UE f none σ.Aj.length ⟨none,0,0,0⟩
 let off:=i.toNat*tr.size+of
 let new:=BA.toList.take off++cv++BA.toList.drop (off+cv.length)
 let w':=w.setRow b new.toArray
 have sW:∀b' r,g.own b'=.BO k r->g'.own b'=.BO k r:=λb' r h=>by
  have:=Ih (f:=f) (ob:=none) (n:=σ.Aj.length) (i:=⟨none,0,0,0⟩) (by simp) h;rw[this];exact O8 (by rw[wH];exact wM)
 have st:Step (k::rs) σ.Aj.length w g w' g':=Step.UE H.BZ rfl rfl rfl (by simp[w']) (iW Cs (by simp)) (λq h=>by cases h) (AMc _) λj r _ hm =>
  O8 (by rw[wH];exact λh=>hm (AMy _ h))
 have Afk:∀b' j r,g.own b'=.BO j r->j≠k->w'.heap[b']?=w.heap[b']?:=λb' j r h hj=>setRow_other w b b' _ λe=>by subst e;rw[Cs]at h;injection h with h;exact hj h.symm
 have Afl:∀b' q,g.own b'=.BO k q->q≠[]->w'.heap[b']?=w.heap[b']?:=λb' q h hq=>setRow_other w b b' _ λe=>by subst e;rw[Cs]at h;injection h with _ h;exact hq h.symm
 have sR:∀b',g.own b'=.Ir->w'.heap[b']?=w.heap[b']?:=λb' h=>setRow_other w b b' _ λe=>by subst e;rw[Cs]at h;cases h
 have hon:∀(i':Nat) (x:tr.V) (c:APH Value),Tn w g.own k m tr i' x c->Tn w' g'.own k m' tr i' x c:=by
  intro i' x c UF;refine UF.on ?_;rcases hmm with ⟨rfl,rfl,_⟩|⟨ks,rfl,rfl⟩
  ·exact λb' q h=>⟨sW b' _ h,Afl b' _ h (by simp)⟩
  ·intro b' h;rcases h with h |⟨j,hj,r,h⟩
   ·exact⟨.inl (Vg (by simp) h),sR b' h⟩
   ·have sL:=ZL j hj;have kl:=W4 j sL;exact⟨.inr ⟨j,sL,r,by
     have:=Ih (f:=f) (ob:=none) (n:=σ.Aj.length) (i:=⟨none,0,0,0⟩) (by simp) h;rw[this];exact O8 (by rw[wH];exact λh=>kl (AMy _ h))⟩,Afk b' j r h λe=>kl (by simp[e])⟩
 rw[AMC]at zk;rw[wG Bm]at Hu;obtain⟨d0,d1,d2,e2,hd0,kD,FR⟩:=Akl Hu pg (hon _ _ _ zk);have ZK:InR w' g'.own k m' ti.ty (UI p [i.toNat]) y cv:=by
  refine qw H Zb XK (M:=M) (λjq hj=>bl (by rw[Gv];exact RH) hj) (λ_ h=>h) (λj hj=>TP (by rw[wH];exact λh=>W4 j hj (AMy _ h))) fI
   (λb' j r h _=>Ih (by simp) h) (λb' h=>Vg (by simp) h) λb' h=>?_
  rcases h with h |⟨j,r,h,hj⟩
  ·exact sR b' h
  ·refine Afk b' j r h λe=>?_;subst e;rcases hj with hj |hj
   ·rw[wH]at hj;exact wM hj
   ·exact W4 j hj (by simp)
 have sM:=Bi.join Bm (hr0.mono λi' x c h=>hon i' x c h) (by rw[AMC];exact FR cv ZK) (kF.mono λi' x c h=>hon i' x c h);have AB5:BA.toList=ds++BA.toList.drop (xs.length*tr.size):=by rw[<-hc4,ANm]
 have hds:ds.length=xs.length*tr.size:=by
  have fK:BA.toList.length=BA.size:=AM3;rw[<-hc4,AMr,fK,hc3];exact Nat.min_eq_left (AM7 _ PQ)
 have Aft:(BA.toList.drop (xs.length*tr.size)).length=BA.size-xs.length*tr.size:=by simp
 have PR:xs.length*tr.size<=BA.size:=by rw[hc3];exact AM7 _ PQ
 have AJ7:c0.length+c.length+d.length=xs.length*tr.size:=by rw[<-hds,e1];simp only[AMa]
 have AJ0:d0.length+d1.length+d2.length=c.length:=by rw[e2];simp only[AMa]
 have Alx:off=(c0++d0).length:=by simp only[off,AMa,iM,hd0]
 have AFE:cv.length=d1.length:=by rw[HQ,kD]
 have aZ:new=(c0++(d0++cv++d2)++d)++BA.toList.drop (xs.length*tr.size):=by
  simp only[new];have pq:BA.toList=(c0++d0)++(d1++(d2++d++BA.toList.drop (xs.length*tr.size))):=by
   conv=>lhs;rw[AB5,e1,e2]
   simp only[AMe]
  generalize BA.toList.drop (xs.length*tr.size)=fu at pq⊢;rw[pq,Alx,AFE,ANY,<-AMa,<-AMe (c0++d0) d1,List.drop_left];simp only[AMe]
 have D8:(storeVar t ⟨b,off,none⟩ vv).run P w=.ok () w':=TE (P:=P) ht hh hvc HQ (by
  have:off=c0.length+d0.length:=by rw[Alx,AMa]
  omega) XK.one
 refine⟨w',g',?_,?_,by exact st⟩
 ·simp only[Instr.storeAt,Instr.sureAddr,Sem.run_bind,Sem.run_pure,Result.andThen_ok,PE];exact D8
 ·refine H.Z4 st (Mu H.BZ (by simp[w']) (λq h=>by cases h)) (by simp[A7,AF]) λj x hj=>?_;rw[AMv]at hj;split at hj
  ·rename_i hkj;subst hkj;split at hj
   ·injection hj with hj;subst hj;have Ra:g'.AZ k=g.AZ k:=st.AZ k hk;have ACm:((Blk.GF (Ba (k::rs) σ.Aj) rs).set k (.row e m' tr (xs.set i.toNat x'))).length=σ.Aj.length:=by simp[A7,AF]
    refine .inr (.inr ⟨by rw[ACm];exact qx H Zb XK QT,by rw[Ra,AMf];exact hlen,by rw[Ra];exact PE,BU,.inr ⟨b,new.toArray,_,by rw[Ra];exact Nt,sW b [] Cs,⟨el,UF,setRow_heap w b BA _ el (0,0) hh⟩,by rw[Ra,AMf];exact PQ,by rw[Ra];exact vn,?_,rfl,?_⟩⟩)
    ·rw[Ra,<-hc3,aZ];simp only[AN8,AMa];omega
    ·rw[DK,AMf];have:(new.toArray).toList.take (xs.length*tr.size)=c0++(d0++cv++d2)++d:=by
      rw[List.toList_toArray,aZ];have fK:(c0++(d0++cv++d2)++d).length=xs.length*tr.size:=by simp only[AMa];omega
      rw[<-fK,ANY]
     rw[this];exact sM
   ·cases hj
  ·rename_i Nk;rcases Ks hj with h |⟨o8,h⟩
   ·exact .inl h
   ·obtain⟨y',fQ,rfl⟩:=Dq h;exact .inr (.inl ⟨by simp only[ANH,not_or];exact⟨λe=>Nk e.symm,o8⟩,y',fQ,rfl⟩)
theorem xA{f:Nat}{F G:∀u:Ty,u.V->APJ u.V}(h:∀(u:Ty) (x x0:u.V),F u x=some x0->G u x0=G u x):∀{t:Ty} {x x0:t.V},Rn t x f F=some x0->Rn t x0 f G=Rn t x f G:=by
 induction f with
 |zero =>
  intro t x x0 hs;cases t with
  |AE a b =>
   simp only[Rn]at hs⊢
   grind
  |_=>simp[Rn]at hs
 |succ f ih =>
  intro t x x0 hs;cases t with
  |AE a b =>
   simp only[Rn]at hs⊢
   grind
  |_=>simp[Rn]at hs
theorem jE{u:Ty}{y z:u.V}:∀(p:APH Nat) (t:Ty) (x x0:t.V),Ss u z p t x=some x0->Ss u y p t x0=Ss u y p t x
 |[],_,_,_,_=>rfl
 |f::p,_,_,_,h=>xA  (λu' x x0 hx=>jE p u' x x0 hx) h
theorem Agu{A:Type}{l:APH A}{i:Nat}(h:i<l.length)(x d:A):(l.set i x).getD i d=x:=by grind
theorem qt{bs:APH Blk}(H:Bf w g bs){t:Nat}{ti:TI}(ht:ES P t ti){k j e ej of:Nat}{i:Int}{p:APH Nat}{tr u:Ty}{xs:APH tr.V}{ys:APH u.V}{x0 x':tr.V}(hb:bs[k]?=some (.QU e tr xs i p))(hj:bs[j]?=some (.row ej .Aw u ys))
    (Zd:Ss (.sl u) [] p tr (xs.getD i.toNat tr.zero)=some x0) (tf:Ss (.sl u) ys p tr (xs.getD i.toNat tr.zero)=some x') (hc:ti.ty=.sl u/\Lg tr p=some of/\tyP tr p=some (.sl u)/\j≠k)
    {uu vv:Value} (hu:B4 w g bs.length (.ptr k i p of) uu) (hv:B4 w g bs.length (.AG j) vv) :
    ∃w' g',(Instr.storeAt t uu vv).run P w=.ok () w'/\Bf w' g' ((Blk.GF (Ba [k,j] ((Ba [k] bs).set k (.row e .Aw tr (xs.set i.toNat x0)))) [j]).set k (.row e .Aw tr (xs.set i.toNat x')))/\Step [k,j] bs.length w g w' g':=by
 obtain⟨fM,pg,htp,kl⟩:=hc;have o9:=A3 hb;obtain⟨hlen,PE,BU,h0,Bm,u1,o1,x1,b,BA,ds,q1,q2,q3,Nt,Cs,⟨el,UF,hh⟩,PQ,vn,hc3,hc4,NQ⟩:=H.LP k _ hb;rw[pg]at q1;injection q1 with q1;subst q1;rw[htp]at q2;injection q2 with q2;injection q2 with q2;subst q2;rw[Zd]at q3;injection q3 with q3;subst q3
 let q:=i.toNat*tr.size+of
 let rV:=BA.setIfInBounds q (.slice none 0 0)
 let w0:=w.setRow b rV
 let bs1:=(Ba [k] bs).set k (Blk.row e .Aw tr (xs.set i.toNat x0))
 have UG:bs1.length=bs.length:=by simp[bs1,AF]
 have st:Step [k] bs.length w g w0 g :=
  ⟨rfl,rfl,rfl,by simp[w0],λq hq h=>⟨h,setRow_other w b q _ (λe=>by subst e;rw[Cs]at h;cases h)⟩,λq h=>⟨h,setRow_other w b q _ (λe=>by subst e;rw[Cs]at h;cases h)⟩,
   λq j r h _ hm=>⟨h,setRow_other w b q _ (λe=>by subst e;rw[Cs]at h;injection h with h;exact hm (by simp[h]))⟩,λ_ _=>rfl⟩
 have H1:Bf w0 g bs1:=by
  refine H.Z4 st (λq hq=>H.BZ q (by simpa [w0]using hq)) (by rw[UG];exact AMc _) λm x hm=>?_;rw[AMv]at hm;split at hm
  ·rename_i hkm;subst hkm;split at hm
   ·injection hm with hm;subst hm;exact .inr (.inr ⟨λj hj=>(by cases hj),by rw[AMf];exact hlen,PE,BU,.inr ⟨b,rV,ds,Nt,Cs,⟨el,UF,setRow_heap w b BA _ el (0,0) hh⟩,by rw[AMf];exact PQ,vn,by rw[<-hc3];simp[rV],by rw[AMf];exact hc4,NQ.mono λi x c r=>r.mono λb' q hb=>⟨hb,setRow_other w b b' _ λe=>by subst e;rw[Cs]at hb;injection hb with _ hb;simp at hb⟩⟩⟩)
   ·cases hm
  ·rename_i Nk;obtain⟨y,hy,rfl⟩:=Dq hm;exact .inr (.inl ⟨by simpa using λe:m=k=>Nk e.symm,y,hy,rfl⟩)
 have hj1:bs1[j]?=some (.row ej .Aw u ys):=by
  simp only[bs1];rw[AOc (Ne.symm kl)];simp[Ba,hj,Blk.drop,RM.Ct]
 have hk1:bs1[k]?=some (.row e .Aw tr (xs.set i.toNat x0)):=by
  simp only[bs1];rw[List.getElem?_set_self (by rw[AF];exact o9)]
 obtain⟨ty,V8,elem,bytes,He,N5⟩:=ti
 dsimp only at fM
 subst fM;have Zb:take bs1 .Aw (.sl u) (.AG j)=some (ys,.Aw,[j]):=by
  simp[take,rd,hj1,IU,AV.QW,AV.XG,nodup,bR]
 have AlB:Ss (.sl u) ys p tr ((xs.set i.toNat x0).getD i.toNat tr.zero)=some x':=by
  rw[Agu Bm,jE p tr _ _ Zd,tf]
 have hu1:B4 w0 g bs1.length (.ptr k i p of) uu:=by
  have:=hu.step st (AMc _);rw[UG];exact this
 have fO:B4 w0 g bs1.length (.AG j) vv:=by
  have:=hv.step st (AMc _);rw[UG];exact this
 obtain⟨w',g',D8,hH,BH⟩:=Yb (σ:=⟨[],bs1⟩) H1 ht hk1 Zb ⟨pg,htp,by simp[kO,RM.Ct],by simpa using Ne.symm kl⟩ AlB hu1 fO;obtain⟨_,_,_,b',za,he⟩:=K1 hu;rw[Nt]at za;injection za with za;injection za with za;subst za;obtain⟨_,hvv⟩:=Fe hv;have QR:q+1<=BA.size:=by
  obtain⟨c0,c,d,e1,iM,zk,hr0,kF⟩:=Bi.AZ (λi x c h=>Jo.len h) NQ (by rw[AMf];exact Bm);obtain⟨a0,a1,a2,e2,ha0,yZ,_⟩:=YL (AlP w g.own k) (.sl u) ys p tr _ _ _ _ of (by rw[<-AlB];simp[List.getD,Bm]) pg zk;have HQ:=Jo.len zk;have h1:c.length=a0.length+a1.length+a2.length:=by rw[e2];simp only[AMa]
  have h2:a1.length=1:=yZ;have h3:(i.toNat+1)*tr.size<=BA.size:=by rw[hc3];exact AM7 _ (AMA Bm PQ)
  rw[ANE,Nat.one_mul]at h3;simp only[q];omega
 have one:∀c∈[vv],c.oneCell'=true:=λc hc=>by simp at hc;subst hc;rw[hvv];rfl
 have hvc:vv.cells=[vv].toArray:=by rw[hvv];rfl
 have r1:=TE (P:=P) ht (off:=q) (setRow_heap w b BA rV el (0,0) hh) hvc rfl (by simp[rV];exact QR) one;have r2:=TE (P:=P) ht (off:=q) hh hvc rfl (by simpa using QR) one;have hX:(rV.toList.take q++[vv]++rV.toList.drop (q+[vv].length))=(BA.toList.take q++[vv]++BA.toList.drop (q+[vv].length)):=by
  simp only[rV,Array.toList_setIfInBounds];rw[List.take_set_of_le (AMc _),List.drop_set_of_lt (by simp)]
 rw[hX,setRow_setRow]at r1;have AlA:(Instr.storeAt t uu vv).run P w0=.ok () (w.setRow b (BA.toList.take q++[vv]++BA.toList.drop (q+[vv].length)).toArray):=by
  rw[he];simp only[Instr.storeAt,Instr.sureAddr,Sem.run_bind,Sem.run_pure,Result.andThen_ok,PE];exact r1
 have kH:w'=w.setRow b (BA.toList.take q++[vv]++BA.toList.drop (q+[vv].length)).toArray:=by
  rw[D8]at AlA;injection AlA
 refine⟨w',g',?_,?_,(st.trans BH (by rw[UG];exact AMc _)).weaken (by simp) (AMc _)⟩
 ·rw[he,kH];simp only[Instr.storeAt,Instr.sureAddr,Sem.run_bind,Sem.run_pure,Result.andThen_ok,PE];exact r2
 ·rw[List.set_set]at hH;exact hH
theorem AbS{t:TypeId}{x v:Operand}(ho:o.op=.store t x v){ti:TI}(ht:ES P t ti)(h:dA σ.Aj ti (σ.Ci x) (σ.Ci v) some=some e):Nr P σ o e:=by
 have VC:∀(Ga:APH Blk) (Bz:APH Nat),Bz≠[]->Ga.length=σ.Aj.length ->
     (∀(a:Act) (w:World) (g:G),KO w g σ a->∃w' g',(Instr.storeAt t (a.eval x) (a.eval v)).run P w=.ok () w'/\Bf w' g' Ga/\Step Bz σ.Aj.length w g w' g')->Nr P σ o ⟨.un 0,Ga,Bz⟩:=by
  intro Ga Bz hm hl hh;refine⟨by grind,λh=>(hm h).elim,λa w g hs next Q hn=>?_⟩
  obtain⟨w',g',hr,hH,BH⟩:=hh a w g hs;unfold Oper.wp;simp only[execOp,ho,Sem.run_bind,hr];exact hn undef w' g' hH QK BH
 unfold dA at h;split at h
 ·rename_i k i p of vv hx;split at h
  ·rename_i a hb;split at h
   ·rename_i mJ a' hg Hu;split at h
    ·rename_i hc;injection h with h;subst h;refine VC _ _ (by simp) (by simp[AF]) λac w g hs=>?_;have hu:=AQ hs x;rw[hx]at hu;exact uE hs.heap ht hb hg Hu hc hu (AQ hs v)
    ·grind
   ·grind
  ·rename_i el m tr xs hb;split at h
   ·rename_i y m' rs Zb;split at h
    ·rename_i hc;split at h
     ·rename_i x' Hu;injection h with h;subst h;refine VC _ _ (by simp) (by simp[AF,A7]) λac w g hs=>?_;have hu:=AQ hs x;rw[hx]at hu;exact Yb hs.heap ht hb Zb hc Hu hu (AQ hs v)
     ·grind
    ·grind
   ·grind
  ·rename_i el tr xs i' p' hb;split at h
   ·rename_i j hj;split at h
    ·rename_i ej u ys hbj;split at h
     ·rename_i x0 x' Zd tf;split at h
      ·rename_i hc;split at h
       ·rename_i hi;injection h with h;subst h;subst hi;obtain⟨c1,c2,c3,c4,c5⟩:=hc;subst c4;refine VC _ _ (by simp) (by simp[AF,A7]) λac w g hs=>?_;have hu:=AQ hs x;rw[hx]at hu;have hv:=AQ hs v;rw[hj]at hv;exact qt hs.heap ht hb hbj Zd tf ⟨c1,c2,c3,c5⟩ hu hv
       ·grind
      ·grind
     ·grind
    ·grind
   ·grind
  ·grind
 ·grind
end
section
variable {P:Program} {σ:St} {o:Oper} {en:Gx} {e:HO}
theorem XW{bs:APH Blk}{t:Ty}:∀{ps:APH (Nat×AV)} {m m':RM} {xs xs':APH t.V} {rs rs':APH Nat},Vt bs t m xs rs ps=some (m',xs',rs') ->
    (∀j∈m.Ct,j∈m'.Ct)/\(m=.Aw↔m'=.Aw)/\rs'=rs++ps.flatMap (λp=>p.2.QW)/\xs'.length=xs.length
 |[],m,m',xs,xs',rs,rs',h=>by
  obtain⟨rfl,rfl,rfl⟩:=h
  grind
 |(i,v)::ps,m,m',xs,xs',rs,rs',h=>by
  simp only[Vt]at h;split at h
  ·rename_i y m1 l ht;split at h
   ·obtain⟨h1,h2,h3,h4⟩:=XW h;obtain⟨hs,hd⟩:=b6 ht;obtain⟨_,hl,_⟩:=Pu ht
    grind
   ·grind
  ·grind
theorem jr{t:Ty}{E:Nat->t.V->APH Value->Prop}(hE:∀i x c,E i x c->c.length=t.size){bs:APH Blk}{ρ:Operand->AV}{ε:Operand->Value}{m':RM}:∀{ps:APH (Nat×Operand)} {m:RM} {xs xs':APH t.V} {rs rs':APH Nat} {cs:APH Value},
    Vt bs t m xs rs (ps.map λp=>(p.1,ρ p.2))=some (m',xs',rs')->Bi E 0 xs cs ->
    (∀p∈ps,∀m m1 y rs,take bs m t (ρ p.2)=some (y,m1,rs)->(m=.Aw↔m'=.Aw)->(∀j∈m1.Ct,j∈m'.Ct)->∃cv,(ε p.2).cells=cv.toArray/\E p.1 y cv) ->
    ∃qP,Instr.fill (λi=>some (i*t.size,t.size)) cs.toArray (ps.map λp=>(p.1,ε p.2))=some qP.toArray/\Bi E 0 xs' qP
 |[],m,xs,xs',rs,rs',cs,h,hl,_=>by
  obtain⟨rfl,rfl,rfl⟩:=h;exact⟨cs,rfl,hl⟩
 |(i,x)::ps,m,xs,xs',rs,rs',cs,h,hl,hp=>by
  simp only[AMT,Vt]at h;split at h
  ·rename_i y m1 l ht;split at h
   ·rename_i hi;obtain⟨h1,h2,_⟩:=XW h;obtain⟨hs,hd⟩:=b6 ht;obtain⟨cv,XK,hey⟩:=hp (i,x) (by simp) m m1 y l ht (hd.trans h2) h1;obtain⟨c0,c,d,e1,iM,zk,hr0,kF⟩:=Bi.AZ hE hl hi;have aZ:=Bi.join hi hr0 (by rw[AMC];exact hey) kF;obtain⟨qP,hf,wN⟩:=jr hE h aZ λp hp'=>hp p (by grind);refine⟨qP,?_,wN⟩;simp only[AMT];unfold Instr.fill;have SI:(ε x).cells.size=t.size:=by
     grind
    have hc:=hE _ _ _ zk;have QR:¬i*t.size+t.size>cs.toArray.size:=by
     grind
    simp only[SI,ne_eq,not_true_eq_false,decide_false,AOg,QR,AMU,ANz];rw[<-hf];congr 1;have AFD:(ε x).cells=cv.toArray:=XK;rw[AFD,e1,<-iM];exact zE (by grind)
   ·grind
  ·grind
theorem uN{m m':RM}(h:m=.Aw↔m'=.Aw)(k:Nat)(M:APH (Nat×APH Nat))(j:Nat)(r:APH Nat):Wl m k M j r=Wl m' k M j r:=by
 unfold Wl
 grind
def xm(ps:APH (Nat×AV)):APH (Nat×APH Nat):=ps.flatMap λp=>Ku p.2 [p.1]
theorem tV(ps:APH (Nat×AV)):(xm ps).map (·.1)=ps.flatMap λp=>p.2.QW:=by
 induction ps with
 |nil=>rfl
 |cons p ps ih =>
  simp only[xm,List.flatMap_cons,AMQ]at ih⊢;rw[Gv,ih]
theorem dq{w:World}{g:G}{bs:APH Blk}(H:Bf w g bs){t:Ty}{ρ:Operand->AV}{ε:Operand->Value}(hρ:∀x,B4 w g bs.length (ρ x) (ε x)):∀{ps:APH (Nat×Operand)} {m m':RM} {xs xs':APH t.V} {rs rs':APH Nat},
    Vt bs t m xs rs (ps.map λp=>(p.1,ρ p.2))=some (m',xs',rs')->(∀j∈m.Ct,j<bs.length)->∀j∈m'.Ct,j<bs.length
 |[],m,m',xs,xs',rs,rs',h,hm=>by
  obtain⟨rfl,rfl,rfl⟩:=h;exact hm
 |(i,x)::ps,m,m',xs,xs',rs,rs',h,hm=>by
  simp only[AMT,Vt]at h;split at h
  ·rename_i y m1 l ht;split at h
   ·obtain⟨hy,_⟩:=Pu ht;obtain⟨XP,Rb⟩:=Vu hy;obtain⟨cv,XK,_⟩:=B3 XP Rb (hρ x);exact dq H hρ h (qx H ht XK hm)
   ·grind
  ·grind
theorem jK{t:TypeId}{len:Nat}{G3:Array (Nat×Operand)}(ho:o.op=.buildSlice t len G3){fi:FI}{ti te:TI}(ht:ES P t ti)(D9:ES P ti.elem te){m:RM}{xs:APH te.ty.V}{rs:APH Nat}
    (hp:Vt σ.Aj te.ty (fi.mode te.ty) (List.replicate len te.ty.zero) [] (G3.toList.map λp=>(p.1,σ.Ci p.2))=some (m,xs,rs))
    (hc:(ti.Eh&&te.ty.row&&kO rs m&&nodup rs&&decide (len*te.ty.size<=16777216))=true) :
    (len=0->Nr P σ o ⟨.zs,σ.Aj,[]⟩)/\(len≠0->Nr P σ o ⟨.AG σ.Aj.length,Blk.GF (Ba rs σ.Aj) rs++[.row ti.elem m te.ty xs],rs⟩):=by
 simp only[AMd,ANj]at hc;obtain⟨⟨⟨⟨Iw,NR⟩,PS⟩,RH⟩,AjB⟩:=hc;have hu:=Bw ht Iw;obtain⟨iJ,BU⟩:=jC NR;obtain⟨ie,z,hi,Mv,vk,hz,lY,_⟩:=D9.info;obtain⟨_,fI,hrs,hxl⟩:=XW hp;rw[AMD]at hxl;rw[ANk]at hrs;refine⟨λh0=>?_,λh0=>?_⟩
 ·subst h0;have hps:G3.toList=[]:=by
   cases hq:G3.toList with
   |nil=>rfl
   |cons p r =>
    rw[hq]at hp;simp only[AMT,Vt]at hp;split at hp
    ·split at hp
     ·rename_i h;simp at h
     ·cases hp
    ·cases hp
  have AGf:G3=#[]:=by apply Array.toList_inj.1;rw[hps]
  refine⟨AMc _,λ_=>⟨[],(AML _).symm⟩,λa w g hs next Q hn=>?_⟩
  have hr:(execOp a.eval o).run P w=.ok (.value (.slice (some ⟨w.heap.size,0,none⟩) 0 0)) (w.alloc (.cells #[] ti.elem)):=by
   simp[execOp,ho,Instr.buildSlice,run_underlying hu,sizeOf,typeInfo,hi,AGf,Instr.fill,newRow];congr 2;apply Array.eq_empty_of_size_eq_zero;simp
  unfold Oper.wp;rw[hr];have st:Step [] σ.Aj.length w g (w.alloc (.cells #[] ti.elem)) g:=⟨rfl,rfl,rfl,by show w.heap.size<=(w.heap.push _).size;simp,λb hb h=>⟨h,heap_alloc_old w _ b hb⟩,λb h=>⟨h,heap_alloc_old w _ b (T2 hs.heap (by rw[h];simp))⟩,
   λb k p h _ _=>⟨h,heap_alloc_old w _ b (T2 hs.heap (by rw[h];simp))⟩,λ_ _=>rfl⟩
  refine hn _ _ g (hs.heap.QJ st λb hb=>hs.heap.BZ b (AMA st.size hb)) (mz _) st
 ·refine⟨by simp[A7,AF],λh=>⟨[.row ti.elem m te.ty xs],?_⟩,λa w g hs next Q hn=>?_⟩
  ·have h:rs=[]:=h;rw[h];rfl
  have H:=hs.heap
  let n:=σ.Aj.length
  let M:=xm (G3.toList.map λp=>(p.1,σ.Ci p.2))
  have wH:M.map (·.1)=rs:=by rw[hrs];exact tV _
  let i:BI:=⟨some ⟨w.heap.size,0,none⟩,len,len,te.ty.size⟩
  let g':=g.UE (Wl m n M) (some w.heap.size) n i
  have AjI:∀b,g.own b≠.no->b≠w.heap.size:=λb h e=>by have:=T2 H h;omega
  have key:∀cells:Array Value,∃w':World,w'=w.alloc (.cells cells ti.elem)/\Step rs n w g w' g':=λcells=>⟨_,rfl,Step.UE H.BZ rfl rfl rfl (by show w.heap.size<=(w.heap.push _).size;simp) (λq hq _=>heap_alloc_old w _ q hq)
   (λq h=>by injection h with h;omega) (AMc _) λj r _ hm=>O8 (by rw[wH];exact hm)⟩
  have U7:∀b j r,g.own b=.BO j r->g'.own b=Wl m n M j r:=λb j r h=>Ih (by
   intro e;injection e with e;exact AjI b (by rw[h];simp) e.symm) h
  have bB:∀b,g.own b=.Ir->g'.own b=.Ir:=λb h=>Vg (by
   intro e;injection e with e;exact AjI b (by rw[h];simp) e.symm) h
  have hzero:Bi (Tn w g'.own n m te.ty) 0 (List.replicate len te.ty.zero) ((List.replicate len (Value.agg z.cells)).flatMap λv=>v.cells.toList):=by
   refine YH (λi=>?_) len 0;have AGF:(Value.agg z.cells).cells.toList=QM te.ty:=lY;rw[AGF];cases m with
   |Aw=>exact Jo.zero iJ
   |sh ks=>exact HE.zero iJ
  obtain⟨qP,sI,Afi⟩:=jr (E:=Tn w g'.own n m te.ty) (ε:=a.eval) (λi x c h=>h.len) hp hzero (by
   intro p hpm m0 m1 y rs0 Zb hd0 ZL;obtain⟨hy,hr0,hn0,_⟩:=Pu Zb;obtain⟨XP,Rb⟩:=Vu hy;obtain⟨cv,XK,hvv⟩:=B3 XP Rb (AQ hs p.2);refine⟨cv,aj hvv XK.one,?_⟩;have FR:InR w g'.own n m te.ty [p.1] y cv:=by
    refine qw H Zb XK (M:=M) (λjq hj=>bl (by rw[wH];exact RH) ?_) ZL (λj hj=>TP (by rw[wH];exact V7 PS j hj)) hd0
     (λb j r h _=>by rw[U7 b j r h,uN hd0]) bB λ_ _=>rfl
    exact List.mem_flatMap.2 ⟨(p.1,σ.Ci p.2),List.mem_map.2 ⟨p,hpm,rfl⟩,hj⟩
   cases m with
   |Aw=>exact FR
   |sh ks=>exact FR)
  have HQ:=Bi.len (λi x c h=>Tn.len h) Afi;rw[hxl]at HQ;have hpc:¬len*te.ty.size=0:=by
   have:0<len*te.ty.size:=Nat.mul_pos (ANO h0) BU;omega
  have ACp:(Array.range (len*ie.size)).map (z.cells[·%z.cells.size]!)=((List.replicate len (Value.agg z.cells)).flatMap λv=>v.cells.toList).toArray:=by
   have h1:=de z.cells (s:=te.ty.size) (l:=len) (c:=len) (by rw[<-AM3,lY,RB]) BU (AMc _);rw[AMg (by rw[AM3,size_madeCells];exact AMc _)]at h1;rw[<-h1,Mv];simp only[madeCells,Array.toArray_toList]
  have hr:(execOp a.eval o).run P w=.ok (.value (.slice (some ⟨w.heap.size,0,none⟩) len len)) (w.alloc (.cells qP.toArray ti.elem)):=by
   have:=run_buildSlice (P:=P) w t ti.elem len (G3.map λ(i,x)=>(i,a.eval x)) qP.toArray ie z hu hi hz (by rw[Mv];omega) (by rw[Mv];exact hpc) (by
    rw[ACp,Mv];simpa using sI)
   simp[execOp,ho,this]
  unfold Oper.wp;rw[hr];obtain⟨w',kH,st⟩:=key qP.toArray;subst kH;have Py:g'.AZ n=i:=by simp[g',G.UE]
  refine hn _ _ g' (H.Z4 st (Mu H.BZ st.size (λq h=>by injection h with h;subst h;show w.heap.size<(w.heap.push _).size;simp)) (by simp[A7,AF]) λj x hj=>?_) ?_ st
  ·rw[AMw]at hj;split at hj
   ·rcases Ks hj with h |⟨o8,h⟩
    ·exact .inl h
    ·obtain⟨y',fQ,rfl⟩:=Dq h;exact .inr (.inl ⟨o8,y',fQ,rfl⟩)
   ·rename_i hlen;rw[A7,AF]at hj hlen;have lV:j-σ.Aj.length=0:=by
     rcases AMu (j-σ.Aj.length)with h |h
     ·exact h
     ·rw[AMK (by simp;omega)]at hj;cases hj
    rw[lV]at hj;obtain rfl:j=n:=by simp only[n];omega
    simp only[List.getElem?_cons_zero,AL8]at hj;subst hj;refine .inr (.inr ⟨λj hj=>?_,by rw[Py,hxl],by rw[Py],BU,.inr ⟨w.heap.size,qP.toArray,_,by rw[Py],by simp[g',G.UE],⟨_,.inr rfl,heap_alloc_new w _⟩,by rw[Py,hxl];exact AMc _,?_,by rw[Py,AN8,HQ],rfl,?_⟩⟩)
    ·have:=dq H (AQ hs) hp (by rw[Uf];intro j hj;cases hj) j hj;simp[A7,AF];omega
    ·rw[Py];have:len<=len*te.ty.size:=AN4 _ BU;simp only[maxLen,i];omega
    ·rw[DK,List.toList_toArray,AMg (by rw[HQ,hxl];exact AMc _)];refine Afi.mono λi' x c h=>h.on ?_;have hap:∀b,g.own b≠.no\/g'.own b≠.no/\b≠w.heap.size->(w.alloc (.cells qP.toArray ti.elem)).heap[b]?=w.heap[b]?:=λb hb=>by
      refine heap_alloc_old w _ b ?_;rcases hb with hb |⟨hb,Nk⟩
      ·exact T2 H hb
      ·rcases AMh b w.heap.size with h' |h'
       ·exact h'
       ·refine(hb ?_).elim;have:=H.BZ b h';simp[g',G.UE,this,Ne.symm Nk]
     cases m with
     |Aw =>
      intro b q hb;refine⟨hb,hap b (.inr ⟨by rw[hb];simp,λe=>?_⟩)⟩;subst e;simp[g',G.UE]at hb
     |sh ks =>
      intro b hb;refine⟨hb,hap b (.inr ⟨?_,λe=>?_⟩)⟩
      ·rcases hb with hb |⟨j,_,p,hb⟩<;>rw[hb]<;>simp
      ·subst e;rcases hb with hb |⟨j,hj,p,hb⟩
       ·simp[g',G.UE]at hb
       ·simp[g',G.UE]at hb;have:=dq H (AQ hs) hp (by rw[Uf];intro j hj;cases hj) j hj;omega
  ·refine Bs (cs:=[_]) rfl ⟨by simp[A7,AF],rfl⟩ ?_;have:g'.AZ σ.Aj.length=i:=Py;simp[Cr,AV.isAgg,this,i]
end
section
variable {P:Program} {w:World} {g:G} {bs:APH Blk}
theorem Agq(w:World)(t tx ty e:TypeId)(i:TypeInfo)(ht:P.underlying t=some (.slice e))(hi:P.info? e=some i)
    (b ZU xx:Nat) (BA:Array Value) {e0:TypeId} (hg:w.heap[b]?=some (.cells BA e0 (0,0))) (x:Value) (n:Nat) (Gj:APH Value) (hs:Src P i.size tx x n Gj w) (XM:ZU+n<=xx) (QR:ZU*i.size+Gj.length<=BA.size) :
    (Builtin.append_ #[t,tx] ty #[.slice (some ⟨b,0,none⟩) ZU xx,x]).run P w =
     .ok (.slice (some ⟨b,0,none⟩) (ZU+n) xx) (w.setRow b (BA.toList.take (ZU*i.size)++Gj++BA.toList.drop (ZU*i.size+Gj.length)).toArray):=by
 have BH:=run_storeCells_at P b (ZU*i.size) e0 Gj 0 BA w hg (by simpa using QR) hs.one;simp only[AOa]at BH;rcases hs.kind with ⟨e',hk⟩|hk<;>simp[Builtin.append_,run_underlying ht,run_underlying hk,sizeOf,typeInfo,hi,hs.len,XM,hs.cells,Addr.add_lit,BH]
theorem tN(w:World)(t tx ty e:TypeId)(i:TypeInfo)(ht:P.underlying t=some (.slice e))(hi:P.info? e=some i)(ad:APJ Addr)(x:Value)(Gj:APH Value)(hs:Src P i.size tx x 0 Gj w) :
    (Builtin.append_ #[t,tx] ty #[.slice ad 0 0,x]).run P w=.ok (.slice ad 0 0) w:=by
 have hn:Gj=[]:=by
  have:=hs.newsLen;simpa using this
 subst hn;cases ad<;>rcases hs.kind with ⟨e',hk⟩|hk<;>simp[Builtin.append_,run_underlying ht,run_underlying hk,sizeOf,typeInfo,hi,hs.len,hs.cells,storeCells]
theorem wm(w:World)(t tx ty e:TypeId)(i:TypeInfo)(z:Value)(ht:P.underlying t=some (.slice e))(hi:P.info? e=some i)(hz:i.zero=some z)(hzs:z.cells.size=i.size)(BU:0<i.size)
    {Pw:Nat->Prop} {Ek:Prop} {ad:APJ Addr} {len cap:Nat} {ds:APH Value} (Y0:(len=0/\cap=0/\ds=[])\/∃b BA e0,ad=some ⟨b,0,none⟩/\Pw b/\(w.heap[b]?=some (.cells BA e0 (0,0))/\(Ek\/e0=e))/\len<=cap/\cap<=maxLen/\BA.size=cap*i.size/\BA.toList.take (len*i.size)=ds)
    {x:Value} {n:Nat} {Gj:APH Value} (hs:Src P i.size tx x n Gj w) (vk:i.bytes≠0) (QR:(len+n)*i.bytes<=140737488355328) :
    ∃vg R4 w',(Builtin.append_ #[t,tx] ty #[.slice ad len cap,x]).run P w=.ok (.slice vg (len+n) R4) w'/\w'.os=w.os/\w'.tape=w.tape/\w'.output=w.output/\w.heap.size<=w'.heap.size /\
     ((len+n=0/\R4=0/\w'=w)\/∃b' Px e1,vg=some ⟨b',0,none⟩/\(w'.heap[b']?=some (.cells Px e1 (0,0))/\(Ek\/e1=e))/\len+n<=R4/\R4<=maxLen/\Px.size=R4*i.size/\Px.toList.take ((len+n)*i.size)=ds++Gj /\
      ((∃BA e0,ad=some ⟨b',0,none⟩/\Pw b'/\w.heap[b']?=some (.cells BA e0 (0,0))/\w'=w.setRow b' Px)\/(b'=w.heap.size/\b'<w'.heap.size/\∀q,q<w.heap.size->w'.heap[q]?=w.heap[q]?))):=by
 have Asj:len+n<=140737488355328:=AMA (AN4 _ (ANO vk)) QR;have h63:((len+n:Nat):Int)<=9223372036854775807:=by omega
 have wR:len+n<=maxLen:=by simp only[maxLen];omega
 have cX:ds.length=len*i.size:=by
  rcases Y0 with ⟨h1,h2,h3⟩|⟨b,BA,e0,h1,_,h2,h3,h4,h5,h6⟩
  ·subst h1;subst h3;simp
  ·rw[<-h6,AMr,AM3,h5];exact Nat.min_eq_left (AM7 _ h3)
 by_cases XM:len+n<=cap
 ·rcases Y0 with ⟨rfl,rfl,rfl⟩|⟨b,BA,e0,rfl,hpw,⟨hb,hek⟩,h3,h4,h5,h6⟩
  ·obtain rfl:n=0:=by omega
   exact⟨ad,0,w,tN w t tx ty e i ht hi ad x Gj hs,rfl,rfl,rfl,AMc _,.inl ⟨rfl,rfl,rfl⟩⟩
  ·have PR:len*i.size+Gj.length<=BA.size:=by
     rw[hs.newsLen,h5,<-ANE];exact AM7 _ XM
   refine⟨_,cap,_,Agq w t tx ty e i ht hi b len cap BA hb x n Gj hs XM PR,rfl,rfl,rfl,by simp,.inr ⟨b,_,e0,rfl,⟨setRow_heap w b BA _ e0 (0,0) hb,hek⟩,XM,h4,?_,?_,.inl ⟨BA,e0,rfl,hpw,hb,rfl⟩⟩⟩
   ·simp only[AN8,AMa,AMr,AMG,AM3];omega
   ·rw[List.toList_toArray,h6];have:(len+n)*i.size=(ds++Gj).length:=by rw[AMa,cX,hs.newsLen,ANE]
    rw[this,ANY]
 ·have hgt:cap<len+n:=by omega
  have holds:(Builtin.firstCells i.size len (.slice ad len cap)).run P w.drew=.ok ds.toArray w.drew:=by
   rcases Y0 with ⟨rfl,rfl,rfl⟩|⟨b,BA,e0,rfl,hpw,⟨hb,hek⟩,h3,h4,h5,h6⟩
   ·cases ad with
    |none=>exact run_firstCells_none w.drew i.size 0 0 0
    |some a=>exact run_firstCells_some w.drew i.size 0 a 0 0 [] (by simp) (by simp)
   ·refine run_firstCells_some w.drew i.size len _ len cap ds cX λj u hu=>?_;rw[YY,AMC];show w.cell? ⟨b,j,none⟩=some u;rw[PI hb,<-AMk];rw[<-h6,AM9]at hu;split at hu
    ·exact hu
    ·cases hu
  have hr:=run_append_grow_src (P:=P) w t tx ty e i z ht hi hz ad len cap ds holds x n Gj hs hgt h63 (growslice_fits hgt QR);refine⟨_,_,_,hr,rfl,rfl,rfl,by simp,.inr ⟨w.heap.size,_,e,rfl,⟨heap_alloc_new w.drew _,.inr rfl⟩,grownCap_ge w _ cap e,grownCap_le_maxLen w _ cap e wR,?_,?_,.inr ⟨rfl,by simp,λq hq=>heap_alloc_old w.drew _ q hq⟩⟩⟩
  ·have YC:=grownCap_ge w (len+n) cap e;simp only[Array.size_append,AN8,AMa,size_zeroCells,hzs,cX,hs.newsLen,<-ANE];congr 1;omega
  ·have:(len+n)*i.size=(ds++Gj).length:=by rw[AMa,cX,hs.newsLen,ANE]
   rw[this,Array.toList_append,List.toList_toArray,ANY]
end
def Y7(w:World)(g:G)(t:Ty)(m:RM)(rs:APH Nat)(i:Nat)(x:t.V)(c:APH Value):Prop :=
 (t.BP=true/\c=Ko t x)\/(∃ks,m=.sh ks/\HE w (Al g.own ks) t x c)\/∃j,rs=[j]/\Tn w g.own j m t i x c
theorem Y7.len{w:World}{g:G}{t:Ty}{m:RM}{rs:APH Nat}{i:Nat}{x:t.V}{c:APH Value}(h:Y7 w g t m rs i x c):c.length=t.size:=by
 rcases h with ⟨hf,rfl⟩|⟨ks,_,h⟩|⟨j,_,h⟩
 ·exact HE.len (w:=default) (A:=λ_=>True) ((HE.BP hf).2 rfl)
 ·exact h.len
 ·exact h.len
theorem Y7.one{w:World}{g:G}{t:Ty}{m:RM}{rs:APH Nat}{i:Nat}{x:t.V}{c:APH Value}(h:Y7 w g t m rs i x c):∀v∈c,v.oneCell'=true:=by
 rcases h with ⟨hf,rfl⟩|⟨ks,_,h⟩|⟨j,_,h⟩
 ·exact HE.one (w:=default) (A:=λ_=>True) ((HE.BP hf).2 rfl)
 ·exact h.one
 ·cases m with
  |Aw=>exact Jo.one h
  |sh ks=>exact HE.one h
theorem Tn.BP{w:World}{own:Nat->TT}{k:Nat}{m:RM}{t:Ty}{i:Nat}{x:t.V}{c:APH Value}(hf:t.BP=true):Tn w own k m t i x c↔c=Ko t x:=by
 cases m with
 |Aw=>exact Jo.BP hf
 |sh ks=>exact HE.BP hf
section
variable {P:Program} {w:World} {g:G} {bs:APH Blk}
theorem Aew{ds:APH Value}{b:Nat}{BA:Array Value}{el:TypeId}{fr:Nat×Nat}{n:Nat}(hh:w.heap[b]?=some (.cells BA el fr))(h4:BA.toList.take n=ds):∀j u,ds[j]?=some u->w.cell? ((⟨b,0,none⟩:Addr).add j)=some u:=by
 intro j u hu;rw[YY,AMC,PI hh,<-AMk]
 grind
theorem Ag6(H:Bf w g bs){t:Ty}{y:AV}{ys:APH t.V}{m:RM}{rs:APH Nat}(h:qs bs t y=some (ys,m,rs)){v:Value}(hv:B4 w g bs.length y v){tx:TypeId}{dF:TI}(vp:ES P tx dF)(hk:(dF.Eh||dF.ty==.str)=true) :
    ∃Gj,Src P t.size tx v ys.length Gj w/\Bi (Y7 w g t m rs) 0 ys Gj/\(∀j∈m.Ct,j<bs.length)/\(∀j∈rs,j<bs.length)/\(rs=[]\/∃j,rs=[j]):=by
 have Aff:(∃e',P.underlying tx=some (.slice e'))\/P.underlying tx=some .string:=by
  rw[ANp]at hk;rcases hk with hk |hk
  ·exact .inl ⟨_,Bw vp hk⟩
  ·exact .inr (RA vp (by grind))
 have AsM:∀(ad:APJ Addr) (c:Nat),Src P t.size tx (.slice ad 0 c) 0 [] w:=λad c =>
  ⟨Aff,λ_=>rfl,by
   cases ad with
   |none=>exact run_firstCells_none w t.size 0 0 c
   |some a=>exact run_firstCells_some w t.size 0 a 0 c [] (by simp) (by simp),by
   cases ad with
   |none=>exact run_firstCells_none w.drew t.size 0 0 c
   |some a=>exact run_firstCells_some w.drew t.size 0 a 0 c [] (by simp) (by simp),by simp,λ_ h=>by grind⟩
 have AgD:∀(a:Addr) (n c:Nat) (Gj:APH Value),Gj.length=n*t.size->(∀j u,Gj[j]?=some u->w.cell? (a.add j)=some u)->(∀u∈Gj,u.oneCell'=true)->Src P t.size tx (.slice (some a) n c) n Gj w:=λa n c Gj hl hn h1 =>
  ⟨Aff,λ_=>rfl,run_firstCells_some w t.size n a n c Gj hl hn,run_firstCells_some w.drew t.size n a n c Gj hl (by simpa using hn),hl,h1⟩
 unfold qs at h;split at h
 ·obtain⟨rfl,rfl,rfl⟩:=h;obtain⟨ad,rfl⟩:=Xy hv;exact⟨[],AsM ad 0,rfl,λj hj=>by(cases hj),λj hj=>by grind,.inl rfl⟩
 ·rename_i ks u xs;split at h
  ·rename_i l hl;obtain⟨e',he⟩:=BJ hl;injection e' with e';subst e';subst he;obtain⟨rfl,rfl,rfl⟩:=h;obtain⟨hks,ad,cap,ds,rfl,cW,hr,hm⟩:=Zu hv;have hEl:Bi (Y7 w g u (if u.BP=true then RM.Aw else RM.sh ks) []) 0 xs ds:=by
    refine hr.toI λi x c h=>?_;cases hf:u.BP with
    |true=>exact .inl ⟨hf,(HE.BP hf).1 h⟩
    |false=>exact .inr (.inl ⟨ks,by simp,h⟩)
   refine⟨ds,?_,hEl,λj hj=>?_,λj hj=>by grind,.inl rfl⟩
   ·rcases hm with rfl |⟨b,off,rfl,_,hc⟩
    ·cases hr;exact AsM ad cap
    ·exact AgD _ _ _ _ (CH.len (λx c h=>HE.len h) hr) (λj u hu=>by rw[YY];exact hc j u hu) (CH.all (λx c h=>HE.one h) hr)
   ·cases hf:u.BP with
    |true=>rw[hf]at hj;cases hj
    |false=>rw[hf]at hj;exact hks j hj
  ·grind
 ·rename_i ks s;split at h
  ·rename_i l hl;obtain⟨e',he⟩:=BJ hl;injection e' with e';subst e';subst he;obtain⟨rfl,rfl,rfl⟩:=h;obtain rfl:=Wp hv;refine⟨byteCells s,?_,?_,λj hj=>by(cases hj),λj hj=>by grind,.inl rfl⟩
   ·have e1:(s.data.toList.map λb=>(b.toNat:Int)).length=s.size:=by rw[AMi];rfl
    rw[e1];exact⟨Aff,λ_=>rfl,firstCells_string s w,firstCells_string s w.drew,by rw[byteCells_length];exact(Nat.mul_one _).symm,λu hu=>by
     obtain⟨_,_,rfl⟩:=List.mem_map.1 hu;rfl⟩
   ·have:∀(l:APH UInt8) (i:Nat),Bi (Y7 w g (.int .u8) .Aw []) i (l.map λb=>(b.toNat:Int)) (l.map λb=>Value.int .u8 b.toNat):=by
      intro l;induction l with
      |nil=>exact λ_=>rfl
      |cons b l ih=>exact λi=>⟨[_],_,rfl,.inl ⟨rfl,rfl⟩,ih (i+1)⟩
    exact this _ 0
  ·grind
 ·rename_i j;split at h
  ·rename_i el m1 u xs hb;split at h
   ·rename_i l hl;obtain⟨e',he⟩:=BJ hl;injection e' with e';subst e';subst he;obtain⟨rfl,rfl,rfl⟩:=h;obtain⟨hj,rfl⟩:=Fe hv;obtain⟨QT,hlen,PE,BU,hr⟩:=H.LP j _ hb;rw[hlen];have QS:∀j'∈(if u.BP=true then RM.Aw else m1).Ct,j'<bs.length:=λj' QZ=>by
     split at QZ
     ·cases QZ
     ·grind
    have hrs:∀j'∈(if u.BP=true then[]else[j]),j'<bs.length:=λj' QZ=>by
     grind
    have hsh:(if u.BP=true then[]else[j])=[]\/∃j',(if u.BP=true then[]else[j])=[j']:=by
     grind
    rcases hr with ⟨rfl,Hf⟩|⟨b,BA,ds,ha,Cs,⟨elq,_,hh⟩,h1,h2,h3,h4,NQ⟩
    ·rw[Hf];exact⟨[],AsM _ 0,rfl,QS,hrs,hsh⟩
    ·rw[ha];have hEl:Bi (Y7 w g u (if u.BP=true then RM.Aw else m1) (if u.BP=true then[]else[j])) 0 xs ds:=by
      refine(DK.1 NQ).mono λi x c h=>?_;cases hf:u.BP with
      |true=>exact .inl ⟨hf,(Tn.BP hf).1 h⟩
      |false=>exact .inr (.inr ⟨j,by simp,by grind⟩)
     exact⟨ds,AgD _ _ _ _ (Bi.len (λi x c h=>h.len) hEl) (Aew hh h4) (Bi.all (λi x c h=>h.one) hEl),hEl,QS,hrs,hsh⟩
   ·grind
  ·grind
 ·grind
def qh(off:Nat):APH Nat->APH Nat
 |[]=>[]
 |[i]=>[off+i]
 |a::b::r=>a::qh off (b::r)
theorem eD(off i:Nat):∀(q:APH Nat),qh off (q++[i])=q++[off+i]
 |[]=>rfl
 |[a]=>rfl
 |a::b::q=>by
  have:=eD off i (b::q);simp only[AN1]at this⊢;simp only[qh,this]
def wj(kk:APJ Nat)(n off:Nat)(m:RM)(rs:APH Nat)(j:Nat)(r:APH Nat):TT :=
 if kk=some j then .BO n r else if j∈rs then(match m with |.Aw=>.BO n (qh off r)|.sh _=>.Ir)else .BO j r
theorem iV{m m2 m':RM}(h:zn m m2=some m'):(∀j,j∈m'.Ct↔j∈m.Ct\/j∈m2.Ct)/\(m=.Aw↔m'=.Aw)/\(m'=.Aw->m2=.Aw):=by
 cases m<;>cases m2<;>simp only[zn,AL8,reduceCtorEq]at h<;>subst h<;>simp[RM.Ct]
end
section
variable {P:Program} {σ:St} {o:Oper} {en:Gx} {e:HO}
theorem ao{w:World}{g:G}{bs:APH Blk}(H:Bf w g bs){t tx ty:TypeId}{ti te dF:TI}(ht:ES P t ti)(D9:ES P ti.elem te)(Iw:ti.Eh=true)(vp:ES P tx dF)(hkx:(dF.Eh||dF.ty==.str)=true)(NR:te.ty.row=true)(vk:te.bytes≠0)
    {er:Nat} (her:er=0\/er=ti.elem) {kk:APJ Nat} {m m2 m':RM} {xs ys:APH te.ty.V} {rs:APH Nat} {y:AV} (iP:qs bs te.ty y=some (ys,m2,rs)) {ad:APJ Addr} {cap:Nat}
    (Y0:(xs=[]/\cap=0)\/∃k b BA ds,kk=some k/\ad=some ⟨b,0,none⟩/\g.own b=.BO k []/\UL w b er BA/\xs.length<=cap/\cap<=maxLen/\BA.size=cap*te.ty.size/\BA.toList.take (xs.length*te.ty.size)=ds/\Aao w g.own k m te.ty xs ds)
    (VE:∀k,kk=some k->k∉rs/\k∉m'.Ct/\k<bs.length) (QS:∀j∈m.Ct,j∈m'.Ct/\j<bs.length) (fI:xs≠[]->(m=.Aw↔m'=.Aw)) (hj:(∀j∈m2.Ct,j∈m'.Ct)/\(m'=.Aw->m2=.Aw)) (AFX:∀j∈m'.Ct,j<bs.length) (PS:∀j∈m'.Ct,j∉rs)
    (QR:(xs.length+ys.length)*te.bytes<=140737488355328) {v:Value} (hv:B4 w g bs.length y v) {RE:APH Blk} (ArZ:RE.length=bs.length) (VY:∀(j:Nat) (x:Blk),RE[j]?=some x->x=.A9\/(j∉kk.toList++rs/\∃y,bs[j]?=some y/\x=y.drop λi=>(kk.toList++rs).contains i)) :
    ∃r w' g',(Builtin.append_ #[t,tx] ty #[.slice ad xs.length cap,v]).run P w=.ok r w'/\Bf w' g' (RE++[.row er m' te.ty (xs++ys)])/\B4 w' g' (bs.length+1) (.AG bs.length) r/\Step (kk.toList++rs) bs.length w g w' g':=by
 obtain⟨iJ,BU⟩:=jC NR;obtain⟨i,z,hi,Mv,hbi,hz,lY,_⟩:=D9.info;obtain⟨Gj,hs,UF,RG,AGi,AKE⟩:=Ag6 H iP hv vp hkx;have hu:=Bw ht Iw;have hzs:z.cells.size=i.size:=by rw[<-AM3,lY,RB,Mv]
 let n:=bs.length
 let f:=wj kk n xs.length m' rs
 obtain ⟨ds,Afq,Afr⟩:∃ds,((xs.length=0/\cap=0/\ds=[])\/∃b BA e0,ad=some ⟨b,0,none⟩/\(∃k,kk=some k/\g.own b=.BO k [])/\(w.heap[b]?=some (.cells BA e0 (0,0))/\(er=0\/e0=ti.elem))/\xs.length<=cap/\cap<=maxLen/\BA.size=cap*i.size/\BA.toList.take (xs.length*i.size)=ds) /\
     ((xs=[]/\ds=[])\/∃k,kk=some k/\Aao w g.own k m te.ty xs ds):=by
  rcases Y0 with ⟨rfl,rfl⟩|⟨k,b,BA,ds,h1,h2,h3,⟨e0,he0,h4⟩,h5,h6,h7,h8,h9⟩
  ·exact⟨[],.inl ⟨rfl,rfl,rfl⟩,.inl ⟨rfl,rfl⟩⟩
  ·exact⟨ds,.inr ⟨b,BA,e0,h2,⟨k,h1,h3⟩,⟨h4,by rcases he0 with h |h;exact .inl h;exact her.imp id λh'=>h.trans h'⟩,h5,h6,by rw[Mv];exact h7,by rw[Mv];exact h8⟩,.inr ⟨k,h1,h9⟩⟩
 obtain⟨vg,R4,w',D8,hos,hta,hou,Pg,bf⟩:=wm (P:=P) w t tx ty ti.elem i z hu hi hz hzs (by rw[Mv];exact BU) Afq (by rw[Mv];exact hs) (by rw[hbi];exact vk) (by rw[hbi];exact QR)
 let i':BI:=⟨vg,xs.length+ys.length,R4,te.ty.size⟩
 have lt:∀b,g.own b≠.no->b<w.heap.size:=λb h=>T2 H h;obtain ⟨ob,wS,US,hh,Q0⟩:∃ob:APJ Nat,(∀q,ob=some q->w.heap.size<=q/\q<w'.heap.size) /\
     (∀q,q<w.heap.size->(∀k p,g.own q=.BO k p->k∉kk.toList++rs)->w'.heap[q]?=w.heap[q]?) /\
     (∀b,(g.own b=.Ir\/∃j r,g.own b=.BO j r/\(kk≠some j\/r≠[]))->w'.heap[b]?=w.heap[b]?) /\
     ((xs++ys=[]/\R4=0)\/∃b' Px,vg=some ⟨b',0,none⟩/\UL w' b' er Px/\xs.length+ys.length<=R4/\R4<=maxLen/\Px.size=R4*te.ty.size/\Px.toList.take ((xs.length+ys.length)*te.ty.size)=ds++Gj/\(g.UE f ob n i').own b'=.BO n []):=by
  rcases bf with ⟨h0,Hf,rfl⟩|⟨b',Px,e1,h1,⟨h2,he1⟩,h3,h4,h5,h6,h7⟩
  ·refine⟨none,λq h=>by(cases h),λq _ _=>rfl,λb _=>rfl,.inl ⟨?_,Hf⟩⟩;apply AMZ;rw[AMa];omega
  ·rw[Mv]at h5 h6;have h2:UL w' b' er Px:=⟨e1,by rcases her with h |h;exact .inl h;exact he1.imp id λh'=>h'.trans h.symm,h2⟩;rcases h7 with ⟨BA,e0,_,⟨k,hk,Cs⟩,hb,rfl⟩|⟨rfl,Bm,hkp⟩
   ·have Nk:∀b,(g.own b=.Ir\/∃j r,g.own b=.BO j r/\(kk≠some j\/r≠[]))->b≠b':=λb hq e=>by
      subst e;rcases hq with hq |⟨j,r,hq,hj⟩
      ·rw[Cs]at hq;cases hq
      ·rw[Cs]at hq;injection hq with e1 e2;subst e1;subst e2;rcases hj with hj |hj
       ·exact hj hk
       ·exact hj rfl
    refine⟨none,λq h=>by(cases h),iW Cs (by simp[hk]),λb hb=>setRow_other w b' b Px (Nk b hb),.inr ⟨b',Px,h1,h2,h3,h4,h5,h6,?_⟩⟩;rw[Ih (by simp) Cs];simp[f,wj,hk]
   ·refine⟨some w.heap.size,λq h=>by injection h with h;subst h;exact⟨AMc _,Bm⟩,λq hq _=>hkp q hq,λb hb=>hkp b (lt b ?_),.inr ⟨_,Px,h1,h2,h3,h4,h5,h6,by simp[G.UE]⟩⟩;rcases hb with hb |⟨j,r,hb,_⟩<;>rw[hb]<;>simp
 let g':=g.UE f ob n i'
 have U7:∀b j r,g.own b=.BO j r->g'.own b=f j r:=λb j r h=>Ih (λe=>by
  have h1:=(wS b e).1;have h2:=lt b (by rw[h];simp);omega) h
 have bB:∀b,g.own b=.Ir->g'.own b=.Ir:=λb h=>Vg (λe=>by
  have h1:=(wS b e).1;have h2:=lt b (by rw[h];simp);omega) h
 have st:Step (kk.toList++rs) n w g w' g':=Step.UE H.BZ hos hta hou Pg US (λq h=>(wS q h).1) (AMc _) λj r _ hm=>by
  have h1:kk≠some j:=λe=>hm (by simp[e]);have h2:j∉rs:=λe=>hm (by simp[e]);simp[f,wj,h1,h2]
 have AeQ:∀j r,j∈m'.Ct->f j r=.BO j r:=λj r hj=>by
  have h1:kk≠some j:=λe=>(VE j e).2.1 hj;simp[f,wj,h1,PS j hj]
 have Aly:∀(k i:Nat) (x:te.ty.V) (c:APH Value),kk=some k->xs≠[]->Tn w g.own k m te.ty i x c->Tn w' g'.own n m' te.ty i x c:=by
  intro k i x c hk Nk UF;refine UF.on ?_;have hd:=fI Nk;cases m with
  |Aw =>
   have:m'=.Aw:=hd.1 rfl;subst this;intro b q hb;exact⟨by rw[U7 b k _ hb];simp[f,wj,hk],hh b (.inr ⟨k,_,hb,.inr (by simp)⟩)⟩
  |sh ks =>
   cases m' with
   |Aw=>have:=hd.2 rfl;cases this
   |sh Tv =>
    intro b hb;rcases hb with hb |⟨j,hj,r,hb⟩
    ·exact⟨.inl (bB b hb),hh b (.inl hb)⟩
    ·have sL:j∈Tv:=(QS j hj).1;exact⟨.inr ⟨j,sL,r,by rw[U7 b j r hb];exact AeQ j r sL⟩,hh b (.inr ⟨j,r,hb,.inl λe=>(VE j e).2.1 sL⟩)⟩
 have ACu:∀(i:Nat) (x:te.ty.V) (c:APH Value),Y7 w g te.ty m2 rs i x c->Tn w' g'.own n m' te.ty (xs.length+i) x c:=by
  intro i x c UF;rcases UF with ⟨hf,rfl⟩|⟨ks,rfl,hr⟩|⟨j,hrj,hr⟩
  ·exact(Tn.BP hf).2 rfl
  ·cases m' with
   |Aw=>have:=hj.2 rfl;cases this
   |sh Tv =>
    refine HE.mono (λb hb=>?_) hr;rcases hb with hb |⟨j,kl,r,hb⟩
    ·exact⟨.inl (bB b hb),hh b (.inl hb)⟩
    ·have sL:j∈Tv:=hj.1 j kl;exact⟨.inr ⟨j,sL,r,by rw[U7 b j r hb];exact AeQ j r sL⟩,hh b (.inr ⟨j,r,hb,.inl λe=>(VE j e).2.1 sL⟩)⟩
  ·have kl:kk≠some j:=λe=>(VE j e).1 (by simp[hrj]);have o8:j∈rs:=by simp[hrj]
   refine hr.on ?_;cases m2 with
   |Aw =>
    cases m' with
    |Aw =>
     intro b q hb;refine⟨?_,hh b (.inr ⟨j,_,hb,.inl kl⟩)⟩;rw[U7 b j _ hb];simp only[f,wj,AMp kl,AMo o8,eD]
    |sh Tv =>
     intro b q hb;exact⟨.inl (by rw[U7 b j _ hb];simp only[f,wj,AMp kl,AMo o8]),hh b (.inr ⟨j,_,hb,.inl kl⟩)⟩
   |sh ks =>
    cases m' with
    |Aw=>have:=hj.2 rfl;cases this
    |sh Tv =>
     intro b hb;rcases hb with hb |⟨j',AFR,r,hb⟩
     ·exact⟨.inl (bB b hb),hh b (.inl hb)⟩
     ·have sL:j'∈Tv:=hj.1 j' AFR;exact⟨.inr ⟨j',sL,r,by rw[U7 b j' r hb];exact AeQ j' r sL⟩,hh b (.inr ⟨j',r,hb,.inl λe=>(VE j' e).2.1 sL⟩)⟩
 have Py:g'.AZ n=i':=by simp[g',G.UE]
 refine⟨_,w',g',D8,H.Z4 st (Mu H.BZ Pg λq h=>(wS q h).2) (by simp[ArZ]) λj x QZ=>?_,?_,st⟩
 ·rw[AMw]at QZ;split at QZ
  ·rcases VY j x QZ with h |h
   ·exact .inl h
   ·exact .inr (.inl h)
  ·rename_i hlen;rw[ArZ]at QZ hlen;have lV:j-bs.length=0:=by
    rcases AMu (j-bs.length)with h |h
    ·exact h
    ·rw[AMK (by simp;omega)]at QZ;cases QZ
   rw[lV]at QZ;obtain rfl:j=n:=by simp only[n];omega
   simp only[List.getElem?_cons_zero,AL8]at QZ;subst QZ;refine .inr (.inr ⟨λj hj=>by have:=AFX j hj;simp[ArZ];omega,by rw[Py,AMa],by rw[Py],BU,?_⟩);rw[Py,AMa];refine Q0.imp id λ⟨b',Px,h1,h2,h3,h4,h5,h6,h7⟩=>⟨b',Px,_,h1,h7,h2,h3,h4,h5,h6,?_⟩;rw[DK];refine Bi.append ?_ ?_
   ·rcases Afr with ⟨rfl,rfl⟩|⟨k,hk,NQ⟩
    ·rfl
    ·rcases Classical.em (xs=[])with hx |hx
     ·subst hx;have:ds=[]:=by cases m<;>exact NQ
      subst this;rfl
     ·exact(DK.1 NQ).mono λi x c h=>Aly k i x c hk hx h
   ·rw[AMC];have shift:∀(ys:APH te.ty.V) (cs:APH Value) (a b:Nat),Bi (Y7 w g te.ty m2 rs) a ys cs->Bi (Tn w' g'.own n m' te.ty) (xs.length+a) ys cs:=by
     intro ys;induction ys with
     |nil=>exact λcs a _ h=>h
     |cons y ys ih =>
      intro cs a b ⟨c,d,e,h1,h2⟩;exact⟨c,d,e,ACu a y c h1,ih d (a+1) b h2⟩
    exact shift ys Gj 0 0 UF
 ·refine Bs (cs:=[_]) rfl ⟨AMM _,rfl⟩ ?_;have:g'.AZ bs.length=i':=Py;simp[Cr,AV.isAgg,this,i']
end
section
variable {P:Program} {σ:St} {o:Oper} {en:Gx} {e:HO} {fi:FI}
theorem yl{c:Call}{x y:AV}(h:O2 σ c.args=[x,y]):∃a b,c.args=#[a,b]/\σ.Ci a=x/\σ.Ci b=y:=by
 unfold O2 at h;cases hc:c.args with
 |mk l =>
  rw[hc]at h
  match l,h with
  |[a,b],h =>
   grind
  |[],h=>grind
  |[_],h=>grind
  |_::_::_::_,h=>grind
theorem Adf{c:Call}{x:AV}(h:O2 σ c.args=[x]):∃a,c.args=#[a]/\σ.Ci a=x:=by
 unfold O2 at h;cases hc:c.args with
 |mk l =>
  rw[hc]at h
  match l,h with
  |[a],h =>
   grind
  |[],h=>grind
  |_::_::_,h=>grind
theorem xU{ts:Array TypeId}{t u:TypeId}(h:ts.toList=[t,u]):ts=#[t,u]:=by grind
theorem Jw{c:Call}(ho:o.op=.call c){b:Builtin}(hc:c.callee=.builtin b)(ρ:Operand->Value) :
    execOp ρ o=builtin b c.argTypes o.type (c.args.map λ|.const _=>true |_=>false) (c.args.map ρ):=by
 simp only[execOp,ho,resolve,hc];rfl
theorem Akq{c:Call}(ho:o.op=.call c)(hc:c.callee=.builtin .len){x:AV}(hx:O2 σ c.args=[x]){t:TypeId}{r:APH TypeId}(Zc:c.argTypes.toList=t::r){ti:TI}(ht:ES P t ti){z:AV}(h:pM σ.Aj ti x some=some z):Nr P σ o ⟨z,σ.Aj,[]⟩:=by
 obtain⟨a0,ha,rfl⟩:=Adf hx;refine .Is <| Lh (s:=λρ=>Builtin.len_ c.argTypes o.type #[ρ a0]) (λρ=>?_) λa w g hs=>?_
 ·rw[Jw ho hc,ha];simp[builtin]
 ·obtain⟨z',e,hG⟩:=Aj7 (n:=σ.Aj.length) hs.heap ht h (AQ hs a0) o.type _ (by rw[<-AMk,Zc];rfl)
  grind
theorem AgR{c:Call}(ho:o.op=.call c){mx:Bool}(hc:c.callee=.builtin (if mx then .max else .min)){x y:AV}(hx:O2 σ c.args=[x,y]){z:AV}(h:mmA mx x y some=some z):Nr P σ o ⟨z,σ.Aj,[]⟩:=by
 obtain⟨a0,a1,ha,rfl,rfl⟩:=yl hx;refine .Is <| Lh (s:=λρ=>if mx then Builtin.max_ c.argTypes o.type #[ρ a0,ρ a1]else Builtin.min_ c.argTypes o.type #[ρ a0,ρ a1]) (λρ=>?_) λa w g hs=>?_
 ·rw[Jw ho hc,ha];cases mx<;>simp[builtin]
 ·obtain⟨z',e,hG⟩:=AsJ  h (AQ hs a0) (AQ hs a1) _ _;injection e with e;subst e;exact hG
theorem Ag5{w:World}{g:G}{bs:APH Blk}(H:Bf w g bs){t:Ty}{y:AV}{ys:APH t.V}{m:RM}{rs:APH Nat}(h:qs bs t y=some (ys,m,rs)){v:Value}(hv:B4 w g bs.length y v):(∀j∈m.Ct,j<bs.length):=by
 unfold qs at h;split at h
 ·obtain⟨rfl,rfl,rfl⟩:=h;intro j hj;cases hj
 ·split at h
  ·obtain⟨rfl,rfl,rfl⟩:=h;intro j hj;split at hj
   ·cases hj
   ·exact(Zu hv).1 j hj
  ·grind
 ·split at h
  ·obtain⟨rfl,rfl,rfl⟩:=h;intro j hj;cases hj
  ·grind
 ·rename_i k;split at h
  ·rename_i el m1 u xs hb;split at h
   ·obtain⟨rfl,rfl,rfl⟩:=h;intro j hj;split at hj
    ·cases hj
    ·exact(H.LP k _ hb).1 j hj
   ·grind
  ·grind
 ·grind
theorem xB{c:Call}(ho:o.op=.call c)(hc:c.callee=.builtin .append){x y:AV}(hx:O2 σ c.args=[x,y]){t tx:TypeId}(Zc:c.argTypes.toList=[t,tx]){ti te dF:TI}(ht:ES P t ti)(D9:ES P ti.elem te)(Iw:ti.Eh=true)(vp:ES P tx dF)(hkx:(dF.Eh||dF.ty==.str)=true)
    (h:Yh fi σ.Aj ti.elem te x y some=some e):Nr P σ o e:=by
 obtain⟨a0,a1,ha,rfl,rfl⟩:=yl hx;have D8:∀(a:Act) (w:World) (r:Value) (w':World),(Builtin.append_ #[t,tx] o.type #[a.eval a0,a.eval a1]).run P w=.ok r w'->(execOp a.eval o).run P w=.ok (.value r) w':=by
  intro a w r w' hr;rw[Jw ho hc,ha,xU Zc];simp[builtin,hr]
 have VC:∀(Ga:APH Blk) (Bz:APH Nat),σ.Aj.length+1=Ga.length->(Bz=[]->∃l,Ga=σ.Aj++l) ->
     (∀(a:Act) (w:World) (g:G),KO w g σ a->∃r w' g',(Builtin.append_ #[t,tx] o.type #[a.eval a0,a.eval a1]).run P w=.ok r w'/\Bf w' g' Ga/\B4 w' g' (σ.Aj.length+1) (.AG σ.Aj.length) r/\Step Bz σ.Aj.length w g w' g')->Nr P σ o ⟨.AG σ.Aj.length,Ga,Bz⟩:=by
  intro Ga Bz hl hm hh;refine⟨by show σ.Aj.length<=Ga.length;omega,hm,λa w g hs next Q hn=>?_⟩
  obtain⟨r,w',g',hr,hH,hv,BH⟩:=hh a w g hs;unfold Oper.wp;rw[D8 a w r w' hr];exact hn r w' g' hH (by show B4 w' g' Ga.length _ _;rw[<-hl];exact hv) BH
 have hlen:∀(Bz l:APH Nat),(Blk.GF (Ba Bz σ.Aj) l).length=σ.Aj.length:=λBz l=>by rw[A7,AF]
 unfold Yh at h;split at h
 ·rename_i hzs;split at h
  ·cases h
  ·rename_i hr0;have dT:(te.ty.row&&te.bytes !=0)=true:=by simpa using hr0
   rw[AMd]at dT;have vk:te.bytes≠0:=by simpa using dT.2
   split at h
   ·rename_i ys m2 rs iP;split at h
    ·rename_i m' hj;split at h
     ·rename_i PS;split at h
      ·rename_i QR;injection h with h;subst h;refine VC _ _ (by rw[AMa,hlen];rfl) (λh=>⟨[.row ti.elem m' te.ty ys],by have h:rs=[]:=h;rw[h];rfl⟩) λa w g hs=>?_;have hv0:=AQ hs a0;rw[hzs]at hv0;obtain⟨ad,hv0⟩:=Xy hv0;rw[hv0];have XO:(∀j∈m'.Ct,j∈m2.Ct)/\(∀j∈m2.Ct,j∈m'.Ct)/\(m'=.Aw->m2=.Aw):=by
        obtain⟨h1,h2,h3⟩:=iV hj;refine⟨λj hj=>?_,λj hj=>(h1 j).2 (.inr hj),h3⟩;rcases(h1 j).1 hj with h |h
        ·cases m2 with
         |Aw=>rw[Uf]at h;cases h
         |sh ks=>exact h
        ·exact h
       have:=ao (er:=ti.elem) (her:=.inr rfl) (kk:=none) (m:=.Aw) (xs:=([]:APH te.ty.V)) (cap:=0) (ad:=ad) (m':=m') (RE:=Blk.GF (Ba rs σ.Aj) rs) (ty:=o.type) hs.heap ht D9 Iw vp hkx dT.1 vk iP (.inl ⟨rfl,rfl⟩) (λk hk=>by cases hk) (λj hj=>by cases hj) (λh=>(h rfl).elim) XO.2
        (λj hj=>Ag5 hs.heap iP (AQ hs a1) j (XO.1 j hj)) (V7 PS) (by simpa using QR) (AQ hs a1) (hlen rs rs) (λj x hx=>by
         rcases Ks hx with h |⟨o8,h⟩
         ·exact .inl h
         ·obtain⟨y',fQ,rfl⟩:=Dq h;exact .inr ⟨by simpa using o8,y',fQ,rfl⟩)
       simpa using this
      ·cases h
     ·cases h
    ·cases h
   ·cases h
 ·rename_i k hk;split at h
  ·cases h
  ·rename_i hr0;have dT:(te.ty.row&&te.bytes !=0)=true:=by simpa using hr0
   rw[AMd]at dT;have vk:te.bytes≠0:=by simpa using dT.2
   split at h
   ·rename_i e' m t' xs0 ys m2 rs hb iP;split at h
    ·rename_i xs m' sG hj;split at h
     ·rename_i sH;split at h
      ·rename_i QR;injection h with h;subst h;obtain⟨he,hrk,PS⟩:=sH;obtain⟨ec,hec⟩:=BJ sG;injection ec with ec;subst ec;simp only at hec;subst hec;have wM:k∉rs:=by simpa using hrk
       have W4:=V7 PS;refine VC _ _ (by rw[AMa,hlen];rfl) (λh=>by cases h) λa w g hs=>?_;have hv0:=AQ hs a0;rw[hk]at hv0;obtain⟨kE,hv0⟩:=Fe hv0;obtain⟨QT,hl,PE,BU,hrr⟩:=hs.heap.LP k _ hb;rw[hv0,hl];obtain⟨h1,h2,h3⟩:=iV hj;have RG:=Ag5 hs.heap iP (AQ hs a1);have:=ao (er:=e') (her:=he.symm.imp id λh=>h.1.symm) (kk:=some k) (m:=m) (xs:=xs0) (ad:=(g.AZ k).a) (cap:=(g.AZ k).cap) (m':=m') (RE:=Blk.GF (Ba (k::rs) σ.Aj) (k::rs)) (ty:=o.type) hs.heap ht D9 Iw vp hkx dT.1 vk iP
        (hrr.imp id λ⟨b,BA,ds,p1,p2,p3,p4,p5,p6,p7,p8⟩=>⟨k,b,BA,ds,rfl,p1,p2,p3,p4,p5,p6,p7,p8⟩)
        (λk' Xp=>by injection Xp with Xp;subst Xp;exact⟨wM,λh=>W4 k h (by simp),kE⟩) (λj hj=>⟨(h1 j).2 (.inl hj),QT j hj⟩) (λ_=>h2) ⟨λj hj=>(h1 j).2 (.inr hj),h3⟩
        (λj hj=>by rcases(h1 j).1 hj with h |h;exact QT j h;exact RG j h) (λj hj h=>W4 j hj (AMy _ h)) QR (AQ hs a1) (hlen (k::rs) (k::rs)) (λj x hx=>by
         rcases Ks hx with h |⟨o8,h⟩
         ·exact .inl h
         ·obtain⟨y',fQ,rfl⟩:=Dq h;exact .inr ⟨by simpa using o8,y',fQ,rfl⟩)
       simpa using this
      ·cases h
     ·cases h
    ·cases h
   ·cases h
 ·cases h
theorem Akn{t:TypeId}{x:Operand}{hi:APJ Operand}(ho:o.op=.slice t x none hi none){ti:TI}(ht:ES P t ti)(Iw:ti.Eh=true){te:TI}(D9:ES P ti.elem te)
    (h:AaG te.ty σ.Aj (σ.Ci x) (hi.map σ.Ci) some=some e):Nr P σ o e:=by
 unfold AaG at h;split at h
 ·rename_i k ks kk hv hx hh;split at h
  ·rename_i el m tr xs hb;split at h
   ·rename_i PS;obtain⟨PS,htt⟩:=PS;subst htt;split at h
    ·rename_i hc;injection h with h;subst h;obtain⟨h0,h1⟩:=hc;refine⟨by simp[A7,AF],λh=>by(cases h),λa w g hs next Q hn=>?_⟩
     have H:=hs.heap;have zm:=AQ hs x;rw[hx]at zm;obtain⟨hk,wV⟩:=Fe zm;obtain⟨QT,hlen,PE,BU,hr⟩:=H.LP k _ hb;have zc:=YF hs hi;rw[hh]at zc;obtain⟨tc,hve⟩:∃v,hi.map a.eval=some v/\v=.int kk hv:=by
      cases hq:hi.map a.eval with
      |none=>rw[hq]at zc;exact zc.elim
      |some v=>rw[hq]at zc;exact⟨v,rfl,Dx zc⟩
     obtain⟨AGA,ACQ⟩:=hve;subst ACQ;have cW:(g.AZ k).len<=(g.AZ k).cap:=by
      rw[hlen];rcases hr with ⟨rfl,Hf⟩|⟨b,BA,ds,_,_,_,h1,_⟩
      ·simp
      ·exact h1
     have y7:(if(g.AZ k).cap=0 then(g.AZ k).a else(g.AZ k).a.map (·.add (0*te.ty.size)))=(g.AZ k).a:=by
      split
      ·rfl
      ·rename_i Hf;rcases hr with ⟨_,PQ⟩|⟨b,BA,ds,ha,_⟩
       ·exact(Hf PQ).elim
       ·rw[ha];simp[YY]
     have D8:(execOp a.eval o).run P w=.ok (.value (.slice (g.AZ k).a hv.toNat (g.AZ k).cap)) w:=by
      have o7:=Q8 (P:=P) (w:=w) (isS:=true) (len:=(g.AZ k).len) (cap:=(g.AZ k).cap) (lo:=none) (hi:=some (.int kk hv)) (l:=0) (h:=hv) (.inl ⟨rfl,rfl⟩) (.inr ⟨kk,rfl⟩) (ANx _) h0 (by rw[hlen];exact h1) cW;have:(Instr.sliceAt t (.slice (g.AZ k).a (g.AZ k).len (g.AZ k).cap) none (some (.int kk hv)) none).run P w=.ok (.slice (g.AZ k).a hv.toNat (g.AZ k).cap) w:=by
       rw[KL ht Iw];simp[Instr.slice,underlying,Bw ht Iw,o7,DL D9];simpa using y7
      simp[execOp,ho,wV,AGA,this]
     unfold Oper.wp;rw[D8]
     let n:=σ.Aj.length
     let i':BI:=⟨(g.AZ k).a,hv.toNat,(g.AZ k).cap,te.ty.size⟩
     let f:Nat->APH Nat->TT:=λj r=>if j=k then .BO n r else .BO j r
     let g':=g.UE f none n i'
     have st:Step [k] n w g w g':=Step.UE H.BZ rfl rfl rfl (AMc _) (λ_ _ _=>rfl) (λq h=>by cases h) (AMc _) λj r _ hm=>by
      simp only[AMx]at hm;simp[f,hm]
     have Py:g'.AZ n=i':=by simp[g',G.UE]
     have hvl:hv.toNat<=xs.length:=by have sA:(hv:Int)<=(xs.length:Int):=h1;exact Int.toNat_le.2 sA
     have W4:=V7 PS;refine hn _ w g' (H.Z4 st (Mu H.BZ (AMc _) λq h=>by cases h) (by simp[A7,AF]) λj y hj=>?_) ?_ st
     ·rw[AMw]at hj;split at hj
      ·rcases Ks hj with h |⟨o8,h⟩
       ·exact .inl h
       ·obtain⟨y',fQ,rfl⟩:=Dq h;exact .inr (.inl ⟨o8,y',fQ,rfl⟩)
      ·rename_i Bm;rw[A7,AF]at hj Bm;have lV:j-σ.Aj.length=0:=by
        rcases AMu (j-σ.Aj.length)with h |h
        ·exact h
        ·rw[AMK (by simp;omega)]at hj;cases hj
       rw[lV]at hj;obtain rfl:j=n:=by simp only[n];omega
       simp only[List.getElem?_cons_zero,AL8]at hj;subst hj;refine .inr (.inr ⟨λj hj=>by have:=QT j hj;simp[A7,AF];omega,by rw[Py,AMr];simp only[i'];omega,by rw[Py],BU,?_⟩);rw[Py];rcases hr with ⟨rfl,Hf⟩|⟨b,BA,ds,ha,Cs,Ae8,p1,p2,p3,p4,NQ⟩
       ·exact .inl ⟨by simp,Hf⟩
       ·refine .inr ⟨b,BA,ds.take (hv.toNat*te.ty.size),ha,by rw[Ih (by simp) Cs];simp[f],Ae8,by rw[AMr];simp only[i'];omega,p2,p3,?_,?_⟩
        ·rw[AMr,Nat.min_eq_left hvl,<-p4,List.take_take,Nat.min_eq_left (AM7 _ hvl)]
        ·rw[DK];refine(Bi.takeN (λi x c h=>Tn.len h) hv.toNat (DK.1 NQ)).mono λi x c UF=>UF.on ?_;cases m with
         |Aw=>exact λb q hb=>⟨by rw[Ih (by simp) hb];simp[f],rfl⟩
         |sh ks =>
          intro b hb;rcases hb with hb |⟨j,hj,r,hb⟩
          ·exact⟨.inl (Vg (by simp) hb),rfl⟩
          ·refine⟨.inr ⟨j,hj,r,?_⟩,rfl⟩;have:j≠k:=λe=>W4 j hj (by simp[e]);rw[Ih (by simp) hb];simp[f,this]
     ·refine Bs (cs:=[_]) rfl ⟨by simp[A7,AF],rfl⟩ ?_;have:g'.AZ σ.Aj.length=i':=Py;simp[Cr,AV.isAgg,this,i']
    ·cases h
   ·cases h
  ·cases h
 ·cases h
theorem Ab4(w:World)(t tx ty e:TypeId)(i:TypeInfo)(z:Value)(ht:P.underlying t=some (.slice e)){k':IntKind}(hk:P.underlying tx=some (.int k'))(hi:P.info? e=some i)(hz:i.zero=some z)(ad:APJ Addr)(k:IntKind)(l:Int)(h0:0<=l)(QR:l*(i.bytes:Int)<=140737488355328)(hb:i.bytes≠0)(hs:i.size≠0) :
    (l=0/\(Builtin.append_ #[t,tx] ty #[.slice ad 0 0,.int k l]).run P w=.ok (.slice ad 0 0) w)\/(0<l /\
     (Builtin.append_ #[t,tx] ty #[.slice ad 0 0,.int k l]).run P w=.ok (.slice (some ⟨w.heap.size,0,none⟩) l.toNat (grownCap w l.toNat 0 e)) (w.drew.alloc (.cells (Builtin.zeroCells z.cells l.toNat++Builtin.zeroCells z.cells (grownCap w l.toNat 0 e-l.toNat)) e))):=by
 have PR:l<=140737488355328:=by
  have h1:(1:Int)<=(i.bytes:Int):=by omega
  have:=Int.mul_le_mul_of_nonneg_left h1 h0;omega
 have hw:IntKind.i64.wrap l=l:=by rw[IntKind.wrap_i64];omega
 have n1:¬l<0:=by omega
 have n2:¬(281474976710656<l*(i.bytes:Int)):=by omega
 rcases Int.le_iff_lt_or_eq.1 h0 with hp |hp
 ·refine .inr ⟨hp,?_⟩;have hn:¬(l.toNat=0):=by omega
  have hn':¬(l<=0):=by omega
  have hns:¬(l.toNat*i.size=0):=λh=>by rcases Nat.mul_eq_zero.1 h with h |h;exact hn h;exact hs h
  have h48:¬(281474976710656<Builtin.nextslicecap l.toNat 0*i.bytes):=by
   unfold Builtin.nextslicecap;rw[AMo (by omega)];have:((l.toNat*i.bytes:Nat):Int)=l*(i.bytes:Int):=by rw[Int.natCast_mul,Int.toNat_of_nonneg h0]
   omega
  have h63:¬(9223372036854775807<max l 0):=by omega
  have hf:(Builtin.firstCells i.size 0 (.slice ad 0 0)).run P w.drew=.ok #[] w.drew:=by
   cases ad with
   |none=>exact run_firstCells_none w.drew i.size 0 0 0
   |some a=>exact run_firstCells_some w.drew i.size 0 a 0 0 [] (by simp) (by simp)
  simp[Builtin.append_,run_underlying ht,run_underlying hk,sizeOf,typeInfo,zeroValue,asInt,asIntOf,hi,hz,hw,n1,n2,hn',h63,h48,hns,Question.forced,hf,newRow,grownCap]
 ·subst hp;refine .inl ⟨rfl,?_⟩;cases ad<;>simp[Builtin.append_,run_underlying ht,run_underlying hk,sizeOf,typeInfo,asInt,asIntOf,hi,IntKind.wrap_i64,storeCells]
theorem Ab3(l:Int)(b:Nat)(h0:0<=l)(h:l*(b:Int)<=140737488355328)(hb:b≠0):l.toNat<=maxLen:=by
 have h1:1<=(b:Int):=by omega
 have:=Int.mul_le_mul_of_nonneg_left h1 h0;simp only[maxLen];omega
theorem ny(z:Array Value)(n:Nat):Builtin.zeroCells z n=madeCells z (n*z.size):=rfl
theorem ui{c:Call}(ho:o.op=.call c)(hc:c.callee=.builtin .append){x y:AV}(hx:O2 σ c.args=[x,y]){t tx:TypeId}(Zc:c.argTypes.toList=[t,tx]){ti te dF:TI}(ht:ES P t ti)(D9:ES P ti.elem te)(Iw:ti.Eh=true)(vp:ES P tx dF)(hkx:dF.ty.isInt=true)
    (h:Yi fi σ.Aj ti.elem te x y some=some e):Nr P σ o e:=by
 obtain⟨a0,a1,ha,Zd,iR⟩:=yl hx;obtain⟨k',Xp⟩:∃k',dF.ty=.int k':=by
  cases hq:dF.ty with
  |int k=>grind
  |_=>rw[hq]at hkx;cases hkx
 unfold Yi at h;split at h
 ·rename_i ks k l;split at h
  ·rename_i NR;split at h
   ·rename_i hl;injection h with h;subst h;obtain⟨iJ,BU⟩:=jC NR.1;obtain⟨i,z,hi,Mv,hbs,hz,lY,_⟩:=D9.info;refine⟨by simp,λ_=>⟨_,rfl⟩,λa w g hs next Q hn=>?_⟩
    have e1:=AQ hs a0;rw[Zd]at e1;obtain⟨ad,e1⟩:=Xy e1;have e2:=AQ hs a1;rw[iR]at e2;have e2:=Dx e2;have hzz:z.cells.size=i.size:=by rw[Mv,<-AM3,lY,RB]
    have Y9:∀(r:Value) (w':World),(Builtin.append_ #[t,tx] o.type #[.slice ad 0 0,.int k l]).run P w=.ok r w'->(execOp a.eval o).run P w=.ok (.value r) w':=λr w' hr=>by
     rw[Jw ho hc,ha,xU Zc];simp[builtin,e1,e2,hr]
    unfold Oper.wp;rcases Ab4 (P:=P) w t tx o.type ti.elem i z (Bw ht Iw) (TN vp Xp) hi hz ad k l hl.1 (by grind) (by grind) (by omega)with ⟨h0,hr⟩|⟨hp,hr⟩
    ·subst h0;rw[Y9 _ _ hr]
     let g':G:=⟨g.own,λk=>if k=σ.Aj.length then⟨ad,0,0,te.ty.size⟩else g.AZ k⟩
     have st:Step [] σ.Aj.length w g w g':=⟨rfl,rfl,rfl,AMc _,λ_ _ h=>⟨h,rfl⟩,λ_ h=>⟨h,rfl⟩,λ_ _ _ h _ _=>⟨h,rfl⟩,λk hk=>by grind⟩;have ha0:g'.AZ σ.Aj.length=⟨ad,0,0,te.ty.size⟩:=by grind
     refine hn _ w g' (hs.heap.push st hs.heap.BZ ?_) ?_ st
     ·refine⟨(by rw[Uf];intro j hj;cases hj),by grind,by grind,BU,.inl ⟨rfl,by grind⟩⟩
     ·refine Bs (cs:=[_]) rfl ⟨by simp,rfl⟩ ?_;simp[Cr,AV.isAgg,ha0]
    ·rw[Y9 _ _ hr];have wR:l.toNat<=maxLen:=Ab3 l te.bytes hl.1 hl.2 NR.2;have YC:=grownCap_ge w l.toNat 0 ti.elem;have PR:=grownCap_le_maxLen w l.toNat 0 ti.elem wR;have st:=(Step.drew [] σ.Aj.length w g).trans (Step.add hs.heap.drew (.cells (Builtin.zeroCells z.cells l.toNat++Builtin.zeroCells z.cells (grownCap w l.toNat 0 ti.elem-l.toNat)) ti.elem) ⟨some ⟨w.heap.size,0,none⟩,l.toNat,grownCap w l.toNat 0 ti.elem,te.ty.size⟩) (AMc _);refine hn _ _ _ (hs.heap.drew.new ?_) ?_ st
     ·refine⟨(by rw[Uf];intro j hj;cases hj),by simp[G.add],by simp[G.add],BU,.inr ⟨w.heap.size,_,_,by simp[G.add],by simp[G.add],⟨_,.inr rfl,heap_alloc_new w.drew _⟩,by simpa [G.add]using YC,by simpa [G.add]using PR,?_,rfl,?_⟩⟩
      ·simp only[G.add,AMR,Array.size_append,ny,size_madeCells,hzz,<-ANE];congr 1;omega
      ·rw[AMD,Array.toList_append,ny,hzz,Mv];have hk:(madeCells z.cells (l.toNat*te.ty.size)).toList.length=l.toNat*te.ty.size:=by rw[AM3,size_madeCells]
       rw[ANb (by grind),de z.cells (by grind) BU (AMc _)];exact nz iJ (by exact lY) _ fi
     ·refine Bs (cs:=[_]) rfl ⟨by simp,rfl⟩ ?_;simp[Cr,AV.isAgg,G.add]
   ·grind
  ·grind
 ·grind
end
section
variable {P:Program} {σ:St} {o:Oper}
theorem AgJ{t:TypeId}{x lo:Operand}(ho:o.op=.slice t x (some lo) none none){ti te:TI}(ht:ES P t ti)(Iw:ti.Eh=true)(D9:ES P ti.elem te){k:Nat}{ks:APH Nat}{kk:IntKind}{l:Int}(hx:σ.Ci x=.AG k)(hlo:σ.Ci lo=.AB ks (.int kk) l)
    {el:Nat} {xs:APH te.ty.V} (hb:σ.Aj[k]?=some (.tail el te.ty xs)) (h0:0<=l) (h1:l<=(xs.length:Int)) :
    Nr P σ o ⟨.AG σ.Aj.length,Blk.GF (Ba [k] σ.Aj) [k]++[.tail el te.ty (xs.drop l.toNat)],[k]⟩:=by
 refine⟨by simp[A7,AF],λh=>by(cases h),λa w g hs next Q hn=>?_⟩
 have H:=hs.heap;have zm:=AQ hs x;rw[hx]at zm;obtain⟨hk,wV⟩:=Fe zm;obtain⟨hf,hlen,PE,BU,hr⟩:=H.LP k _ hb;have hlv:=AQ hs lo;rw[hlo]at hlv;have hlv:a.eval lo=.int kk l:=Dx hlv;have cW:(g.AZ k).len<=(g.AZ k).cap:=by
  rw[hlen];rcases hr with ⟨rfl,Hf⟩|⟨b,o',BA,ds,_,_,_,h1,_⟩
  ·simp
  ·exact h1
 have hvl:l.toNat<=xs.length:=Int.toNat_le.2 h1;obtain⟨ad,y7⟩:∃ad,ad=(if(g.AZ k).cap=l.toNat then(g.AZ k).a else(g.AZ k).a.map (·.add (l.toNat*te.ty.size))):=⟨_,rfl⟩;have D8:(execOp a.eval o).run P w=.ok (.value (.slice ad ((g.AZ k).len-l.toNat) ((g.AZ k).cap-l.toNat))) w:=by
  have o7:=Q8 (P:=P) (w:=w) (isS:=true) (len:=(g.AZ k).len) (cap:=(g.AZ k).cap) (lo:=some (.int kk l)) (hi:=none) (l:=l) (h:=((g.AZ k).len:Int)) (.inr ⟨kk,rfl⟩) (.inl ⟨rfl,rfl⟩) h0 (by rw[hlen];exact h1) (ANx _) cW;have:(Instr.sliceAt t (.slice (g.AZ k).a (g.AZ k).len (g.AZ k).cap) (some (.int kk l)) none none).run P w=.ok (.slice ad ((g.AZ k).len-l.toNat) ((g.AZ k).cap-l.toNat)) w:=by
   rw[KL ht Iw];simp[Instr.slice,underlying,Bw ht Iw,o7,DL D9,y7]
  simp[execOp,ho,wV,hlv,this]
 unfold Oper.wp;rw[D8]
 let n:=σ.Aj.length
 let i':BI:=⟨ad,(g.AZ k).len-l.toNat,(g.AZ k).cap-l.toNat,te.ty.size⟩
 let f:Nat->APH Nat->TT:=λj r=>if j=k then .BO n r else .BO j r
 let g':=g.UE f none n i'
 have st:Step [k] n w g w g':=Step.UE H.BZ rfl rfl rfl (AMc _) (λ_ _ _=>rfl) (λq h=>by cases h) (AMc _) λj r _ hm=>by
  simp only[AMx]at hm;simp[f,hm]
 have Py:g'.AZ n=i':=by simp[g',G.UE]
 refine hn _ w g' (H.Z4 st (Mu H.BZ (AMc _) λq h=>by cases h) (by simp[A7,AF]) λj y hj=>?_) ?_ st
 ·rw[AMw]at hj;split at hj
  ·rcases Ks hj with h |⟨o8,h⟩
   ·exact .inl h
   ·obtain⟨y',fQ,rfl⟩:=Dq h;exact .inr (.inl ⟨o8,y',fQ,rfl⟩)
  ·rename_i Bm;rw[A7,AF]at hj Bm;have lV:j-σ.Aj.length=0:=by
    rcases AMu (j-σ.Aj.length)with h |h
    ·exact h
    ·rw[AMK (by simp;omega)]at hj;cases hj
   rw[lV]at hj;obtain rfl:j=n:=by simp only[n];omega
   simp only[List.getElem?_cons_zero,AL8]at hj;subst hj;refine .inr (.inr ⟨hf,by rw[Py,AMG];simp only[i'];omega,by rw[Py],BU,?_⟩);rw[Py];rcases hr with ⟨rfl,Hf⟩|⟨b,off,BA,ds,ha,Cs,Ae8,p1,p2,p3,p4,NQ⟩
   ·exact .inl ⟨by simp,by simp only[i'];omega⟩
   ·rcases AMu ((g.AZ k).cap-l.toNat)with hz |hz
    ·exact .inl ⟨by apply AMZ;rw[AMG];omega,hz⟩
    ·have HQ:=congrArg List.length p4;refine .inr ⟨b,off+l.toNat*te.ty.size,BA,ds.drop (l.toNat*te.ty.size),?_,by rw[Ih (by simp) Cs];simp[f],Ae8,by rw[AMG];simp only[i'];omega,by simp only[i'];omega,?_,?_,?_⟩
     ·show ad=_;rw[y7,AMp (by omega),ha];simp[YY]
     ·simp only[i'];rw[p3,ANa,<-ANE];congr 2;omega
     ·rw[AMG,<-p4,<-List.drop_drop,List.drop_take,<-Nat.sub_mul]
     ·rw[DK];have tf:=HZ (j:=0).2 ((DK.1 NQ).mono λi x c h=>(Tn.BP hf).1 h);exact(HZ (j:=0).1 (tf.AeD (s:=te.ty.size) (λx c h=>Tn.len (w:=w) (own:=g.own) (k:=k) (m:=.Aw) (i:=0) ((Tn.BP hf).2 h)) l.toNat)).mono λi x c h=>(Tn.BP hf).2 h
 ·refine Bs (cs:=[_]) rfl ⟨by simp[A7,AF],rfl⟩ ?_;have:g'.AZ σ.Aj.length=i':=Py;simp[Cr,AV.isAgg,this,i']
theorem AgM{t:TypeId}{x y:Operand}(ho:o.op=.indexAddr t x y){ti te:TI}(ht:ES P t ti)(Iw:ti.Eh=true)(D9:ES P ti.elem te){k:Nat}{ks:APH Nat}{kk:IntKind}{i:Int}(hx:σ.Ci x=.AG k)(hy:σ.Ci y=.AB ks (.int kk) i)
    {el:Nat} {xs:APH te.ty.V} (hb:σ.Aj[k]?=some (.tail el te.ty xs)) (h0:0<=i) (h1:i<(xs.length:Int)) :
    Nr P σ o ⟨.Fv [k] te.ty (xs.getD i.toNat te.ty.zero),σ.Aj,[]⟩ :=
 .Is <| Lh (s:=λρ=>Instr.indexAt t (ρ x) (ρ y)) (λρ=>by simp[execOp,ho]) λa w g BH=>by
  have H:=BH.heap;have zm:=AQ BH x;rw[hx]at zm;obtain⟨hk,wV⟩:=Fe zm;obtain⟨hf,hlen,PE,BU,hr⟩:=H.LP k _ hb;have hyv:=AQ BH y;rw[hy]at hyv;have hyv :=Dx hyv;have Bm :=Wk ⟨h0,h1⟩;have hu:=Bw ht Iw;rcases hr with ⟨Zd,_⟩|⟨b,off,BA,ds,ha,Cs,⟨el',UF,hh⟩,p1,p2,p3,p4,NQ⟩
  ·grind
  ·have tf:=HZ (j:=0).2 ((DK.1 NQ).mono λi x c h=>(Tn.BP hf).1 h);obtain⟨c0,c,d,e1,iM,dT,_,_⟩:=CH.AZ  (λx c h=>Tn.len (w:=w) (own:=g.own) (k:=k) (m:=.Aw) (i:=0) ((Tn.BP hf).2 h)) tf Bm;refine⟨.pointer (some ⟨b,off+i.toNat*te.ty.size,none⟩),?_,?_⟩
   ·rw[wV,hyv];simp[Instr.indexAt,asIntOf,underlying,hu,h0,h1,DL D9,ha,hlen,YY]
   ·rw[AJ _ _ _ Bm];refine dj  (by grind) (.inr ⟨k,by simp,[],Cs⟩) ((HE.BP hf).2 dT) λj q hq=>?_;have sY:ds[i.toNat*te.ty.size+j]?=some q:=by
     rw[e1,AMe,AMs (by omega),show i.toNat*te.ty.size+j-c0.length=j by omega,AMt (A3 hq)];exact hq
    rw[<-p4,AM9]at sY;split at sY
    ·rw[AN6]at sY;rw[ANa,PI hh,<-AMk];exact sY
    ·grind
theorem AgN{c:Call}(ho:o.op=.call c)(hc:c.callee=.builtin .len){k:Nat}(hx:O2 σ c.args=[.AG k]){t:TypeId}(Zc:c.argTypes.toList=[t]){ti:TI}(ht:ES P t ti)(Iw:ti.Eh=true)
    {el:Nat} {u:Ty} {xs:APH u.V} (hb:σ.Aj[k]?=some (.tail el u xs)):Nr P σ o ⟨.int .i64 (xs.length:Int),σ.Aj,[]⟩:=by
 obtain⟨a0,ha,hz⟩:=Adf hx;refine .Is <| Lh (s:=λρ=>Builtin.len_ c.argTypes o.type #[ρ a0]) (λρ=>?_) λa w g hs=>?_
 ·rw[Jw ho hc,ha];simp[builtin]
 ·have zm:=AQ hs a0;rw[hz]at zm;obtain⟨hk,he⟩:=Fe zm;have hl:=(hs.heap.LP k _ hb).2.1;have AGs:c.argTypes[0]?=some t:=by rw[<-AMk,Zc];rfl
  rw[he];exact B7 (by simp[Builtin.len_,AGs,underlying,Bw ht Iw,goInt,hl])
theorem Aby(w:World)(t tx ty e:TypeId)(i:TypeInfo)(ht:P.underlying t=some (.slice e))(hi:P.info? e=some i)
    (b off ZU xx:Nat) (BA:Array Value) {e0:TypeId} (hg:w.heap[b]?=some (.cells BA e0 (0,0))) (x:Value) (n:Nat) (Gj:APH Value) (hs:Src P i.size tx x n Gj w) (XM:ZU+n<=xx) (QR:off+ZU*i.size+Gj.length<=BA.size) :
    (Builtin.append_ #[t,tx] ty #[.slice (some ⟨b,off,none⟩) ZU xx,x]).run P w =
     .ok (.slice (some ⟨b,off,none⟩) (ZU+n) xx) (w.setRow b (BA.toList.take (off+ZU*i.size)++Gj++BA.toList.drop (off+ZU*i.size+Gj.length)).toArray):=by
 have BH:=run_storeCells_at P b (off+ZU*i.size) e0 Gj 0 BA w hg (by simpa using QR) hs.one;simp only[AOa]at BH;rcases hs.kind with ⟨e',hk⟩|hk<;>simp[Builtin.append_,run_underlying ht,run_underlying hk,sizeOf,typeInfo,hi,hs.len,XM,hs.cells,YY,BH]
theorem rq(w:World)(t tx ty e:TypeId)(i:TypeInfo)(z:Value)(ht:P.underlying t=some (.slice e))(hi:P.info? e=some i)(hz:i.zero=some z)(hzs:z.cells.size=i.size)(BU:0<i.size)
    {Pw:Nat->Prop} {Ek:Prop} {ad:APJ Addr} {len cap:Nat} {ds:APH Value} (Y0:(len=0/\cap=0/\ds=[])\/∃b off BA e0,ad=some ⟨b,off,none⟩/\Pw b/\(w.heap[b]?=some (.cells BA e0 (0,0))/\(Ek\/e0=e))/\len<=cap/\cap<=maxLen/\BA.size=off+cap*i.size/\(BA.toList.drop off).take (len*i.size)=ds)
    {x:Value} {n:Nat} {Gj:APH Value} (hs:Src P i.size tx x n Gj w) (vk:i.bytes≠0) (QR:(len+n)*i.bytes<=140737488355328) :
    ∃vg R4 w',(Builtin.append_ #[t,tx] ty #[.slice ad len cap,x]).run P w=.ok (.slice vg (len+n) R4) w'/\w'.os=w.os/\w'.tape=w.tape/\w'.output=w.output/\w.heap.size<=w'.heap.size /\
     ((len+n=0/\R4=0/\w'=w)\/∃b' off Px e1,vg=some ⟨b',off,none⟩/\(w'.heap[b']?=some (.cells Px e1 (0,0))/\(Ek\/e1=e))/\len+n<=R4/\R4<=maxLen/\Px.size=off+R4*i.size/\(Px.toList.drop off).take ((len+n)*i.size)=ds++Gj /\
      ((Pw b'/\w'=w.setRow b' Px)\/(b'=w.heap.size/\b'<w'.heap.size/\∀q,q<w.heap.size->w'.heap[q]?=w.heap[q]?))):=by
 have Asj:len+n<=140737488355328:=AMA (AN4 _ (ANO vk)) QR;have h63:((len+n:Nat):Int)<=9223372036854775807:=by omega
 have wR:len+n<=maxLen:=by simp only[maxLen];omega
 have cX:ds.length=len*i.size:=by
  rcases Y0 with ⟨h1,h2,h3⟩|⟨b,off,BA,e0,h1,_,h2,h3,h4,h5,h6⟩
  ·grind
  ·rw[<-h6,AMr,AMG,AM3,h5,Nat.add_sub_cancel_left];exact Nat.min_eq_left (AM7 _ h3)
 by_cases XM:len+n<=cap
 ·rcases Y0 with ⟨rfl,rfl,rfl⟩|⟨b,off,BA,e0,rfl,hpw,⟨hb,hek⟩,h3,h4,h5,h6⟩
  ·obtain rfl:n=0:=by omega
   exact⟨ad,0,w,tN w t tx ty e i ht hi ad x Gj hs,rfl,rfl,rfl,AMc _,.inl ⟨rfl,rfl,rfl⟩⟩
  ·have PR:off+len*i.size+Gj.length<=BA.size:=by
     rw[hs.newsLen,h5,ANa,<-ANE];exact Nat.add_le_add_left (AM7 _ XM) _
   refine⟨_,cap,_,Aby w t tx ty e i ht hi b off len cap BA hb x n Gj hs XM PR,rfl,rfl,rfl,by simp,.inr ⟨b,off,_,e0,rfl,⟨setRow_heap w b BA _ e0 (0,0) hb,hek⟩,XM,h4,?_,?_,.inl ⟨hpw,rfl⟩⟩⟩
   ·grind
   ·have e1:BA.toList.take (off+len*i.size)=BA.toList.take off++ds:=by grind
    have:(len+n)*i.size=(ds++Gj).length:=by rw[AMa,cX,hs.newsLen,ANE]
    grind
 ·have hgt:cap<len+n:=by omega
  have holds:(Builtin.firstCells i.size len (.slice ad len cap)).run P w.drew=.ok ds.toArray w.drew:=by
   rcases Y0 with ⟨rfl,rfl,rfl⟩|⟨b,off,BA,e0,rfl,hpw,⟨hb,hek⟩,h3,h4,h5,h6⟩
   ·cases ad with
    |none=>exact run_firstCells_none w.drew i.size 0 0 0
    |some a=>exact run_firstCells_some w.drew i.size 0 a 0 0 [] (by simp) (by simp)
   ·refine run_firstCells_some w.drew i.size len _ len cap ds cX λj u hu=>?_;rw[YY];show w.cell? ⟨b,off+j,none⟩=some u;rw[PI hb,<-AMk];rw[<-h6,AM9]at hu
    grind
  have hr:=run_append_grow_src (P:=P) w t tx ty e i z ht hi hz ad len cap ds holds x n Gj hs hgt h63 (growslice_fits hgt QR);refine⟨_,_,_,hr,rfl,rfl,rfl,by simp,.inr ⟨w.heap.size,0,_,e,rfl,⟨heap_alloc_new w.drew _,.inr rfl⟩,grownCap_ge w _ cap e,grownCap_le_maxLen w _ cap e wR,?_,?_,.inr ⟨rfl,by simp,λq hq=>heap_alloc_old w.drew _ q hq⟩⟩⟩
  ·have YC:=grownCap_ge w (len+n) cap e;simp only[Array.size_append,AN8,AMa,size_zeroCells,hzs,cX,hs.newsLen,<-ANE,AMC];congr 1;omega
  ·have:(len+n)*i.size=(ds++Gj).length:=by rw[AMa,cX,hs.newsLen,ANE]
   rw[this,AOb,Array.toList_append,ANY]
theorem AgH{c:Call}(ho:o.op=.call c)(hc:c.callee=.builtin .append){k:Nat}{y:AV}(hx:O2 σ c.args=[.AG k,y]){t tx:TypeId}(Zc:c.argTypes.toList=[t,tx]){ti te dF:TI}(ht:ES P t ti)(D9:ES P ti.elem te)(Iw:ti.Eh=true)(vp:ES P tx dF)(hkx:dF.Eh=true)
    (vk:te.bytes≠0) {el:Nat} {xs ys:APH te.ty.V} (hb:σ.Aj[k]?=some (.tail el te.ty xs)) (UF:el=ti.elem\/el=0) {m2:RM} {rs:APH Nat} (iP:qs σ.Aj te.ty y=some (ys,m2,rs)) (QR:(xs.length+ys.length)*te.bytes<=140737488355328) :
    Nr P σ o ⟨.AG σ.Aj.length,Blk.GF (Ba (k::rs) σ.Aj) (k::rs)++[.tail el te.ty (xs++ys)],k::rs⟩:=by
 obtain⟨a0,a1,ha,hz0,rfl⟩:=yl hx;refine⟨by simp[A7,AF],λh=>by grind,λa w g hs next Q hn=>?_⟩
 have H:=hs.heap;have zm:=AQ hs a0;rw[hz0]at zm;obtain⟨hk,wV⟩:=Fe zm;obtain⟨hf,hlen,PE,BU,hr⟩:=H.LP k _ hb;obtain⟨i,z,hi,Mv,hbi,hz,lY,_⟩:=D9.info;obtain⟨Gj,hS,hEl,_,AGi,_⟩:=Ag6 H iP (AQ hs a1) vp (by grind);have hu:=Bw ht Iw;have hzs:z.cells.size=i.size:=by rw[<-AM3,lY,RB,Mv]
 have AFn:Bi (λ_ x c=>c=Ko te.ty x) 0 ys Gj:=hEl.mono λi x c h=>by
  rcases h with ⟨_,h⟩|⟨ks,_,h⟩|⟨j,_,h⟩
  ·grind
  ·exact(HE.BP hf).1 h
  ·exact(Tn.BP hf).1 h
 obtain ⟨ds,Afq,Afr⟩:∃ds,((xs.length=0/\(g.AZ k).cap=0/\ds=[])\/∃b off BA e0,(g.AZ k).a=some ⟨b,off,none⟩/\g.own b=.BO k []/\(w.heap[b]?=some (.cells BA e0 (0,0))/\(el=0\/e0=ti.elem))/\xs.length<=(g.AZ k).cap/\(g.AZ k).cap<=maxLen/\BA.size=off+(g.AZ k).cap*i.size/\(BA.toList.drop off).take (xs.length*i.size)=ds) /\
     Bi (λ_ x c=>c=Ko te.ty x) 0 xs ds:=by
  rcases hr with ⟨rfl,h2⟩|⟨b,off,BA,ds,h2,h3,⟨e0,he0,h4⟩,h5,h6,h7,h8,h9⟩
  ·exact⟨[],.inl ⟨rfl,h2,rfl⟩,rfl⟩
  ·exact⟨ds,.inr ⟨b,off,BA,e0,h2,h3,⟨h4,by grind⟩,h5,h6,by grind,by grind⟩,(DK.1 h9).mono λi x c h=>(Tn.BP hf).1 h⟩
 obtain⟨vg,R4,w',D8,hos,hta,hou,Pg,bf⟩:=rq (P:=P) w t tx o.type ti.elem i z hu hi hz hzs (by grind) (Pw:=λb=>g.own b=.BO k []) (Ek:=el=0) Afq (by rw[Mv];exact hS) (by grind) (by grind);have Y9:(execOp a.eval o).run P w=.ok (.value (.slice vg (xs.length+ys.length) R4)) w':=by
  rw[Jw ho hc,ha,xU Zc];simp[builtin,wV,hlen,D8]
 unfold Oper.wp;rw[Y9]
 let n:=σ.Aj.length
 let i':BI:=⟨vg,xs.length+ys.length,R4,te.ty.size⟩
 let f:Nat->APH Nat->TT:=λj r=>if j=k then .BO n r else .BO j r
 obtain ⟨ob,wS,US,Q0⟩:∃ob:APJ Nat,(∀q,ob=some q->w.heap.size<=q/\q<w'.heap.size) /\
     (∀q,q<w.heap.size->(∀k' p,g.own q=.BO k' p->k'∉k::rs)->w'.heap[q]?=w.heap[q]?) /\
     ((xs++ys=[]/\R4=0)\/∃b' off Px,vg=some ⟨b',off,none⟩/\UL w' b' el Px/\xs.length+ys.length<=R4/\R4<=maxLen/\Px.size=off+R4*te.ty.size/\(Px.toList.drop off).take ((xs.length+ys.length)*te.ty.size)=ds++Gj/\(g.UE f ob n i').own b'=.BO n []):=by
  rcases bf with ⟨h0,Hf,rfl⟩|⟨b',off,Px,e1,h1,⟨h2,he1⟩,h3,h4,h5,h6,h7⟩
  ·refine⟨none,λq h=>by grind,λq _ _=>rfl,.inl ⟨?_,Hf⟩⟩;apply AMZ;rw[AMa];omega
  ·rw[Mv]at h5 h6;have h2:UL w' b' el Px:=⟨e1,by grind,h2⟩;rcases h7 with ⟨Cs,rfl⟩|⟨rfl,Bm,hkp⟩
   ·refine⟨none,λq h=>by grind,iW Cs (by simp),.inr ⟨b',off,Px,h1,h2,h3,h4,h5,h6,?_⟩⟩;rw[Ih (by simp) Cs];simp[f]
   ·exact⟨some w.heap.size,λq h=>by injection h with h;subst h;exact⟨AMc _,Bm⟩,λq hq _=>hkp q hq,.inr ⟨_,off,Px,h1,h2,h3,h4,h5,h6,by simp[G.UE]⟩⟩
 let g':=g.UE f ob n i'
 have st:Step (k::rs) n w g w' g':=Step.UE H.BZ hos hta hou Pg US (λq h=>(wS q h).1) (AMc _) λj r _ hm=>by
  have h1:j≠k:=λe=>hm (by simp[e]);simp[f,h1]
 have Py:g'.AZ n=i':=by simp[g',G.UE]
 refine hn _ w' g' (H.Z4 st (Mu H.BZ Pg λq h=>(wS q h).2) (by simp[A7,AF]) λj x QZ=>?_) ?_ st
 ·rw[AMw]at QZ;split at QZ
  ·rcases Ks QZ with h |⟨o8,h⟩
   ·exact .inl h
   ·obtain⟨y',fQ,rfl⟩:=Dq h;exact .inr (.inl ⟨o8,y',fQ,rfl⟩)
  ·rename_i Bm;rw[A7,AF]at QZ Bm;have lV:j-σ.Aj.length=0:=by
    rcases AMu (j-σ.Aj.length)with h |h
    ·exact h
    ·rw[AMK (by simp;omega)]at QZ;cases QZ
   rw[lV]at QZ;obtain rfl:j=n:=by omega
   simp only[List.getElem?_cons_zero,AL8]at QZ;subst QZ;refine .inr (.inr ⟨hf,by rw[Py,AMa],by rw[Py],BU,?_⟩);rw[Py,AMa];refine Q0.imp id λ⟨b',off,Px,h1,h2,h3,h4,h5,h6,h7⟩=>⟨b',off,Px,_,h1,h7,h2,h3,h4,h5,h6,?_⟩;rw[DK];exact(Bi.append Afr (HZ.1 (HZ (j:=0).2 AFn))).mono λi x c h=>(Tn.BP hf).2 h
 ·refine Bs (cs:=[_]) rfl ⟨by simp[A7,AF],rfl⟩ ?_;have:g'.AZ σ.Aj.length=i':=Py;simp[Cr,AV.isAgg,this,i']
end
theorem ub(φ:Nat->Nat)(a:AV):(a.NI φ).NC=a.NC:=by cases a<;>rfl
theorem mZ(φ:Nat->Nat)(a:AV):(a.NI φ).isAgg=a.isAgg:=by cases a<;>rfl
theorem Abw(φ:Nat->Nat)(a:AV):(a.NI φ).Dj=a.Dj:=by cases a<;>rfl
theorem rY(KP:APH Nat)(a:AV):(a.Vi KP).NC=a.NC:=by cases a<;>rfl
theorem lI(KP:APH Nat)(a:AV):(a.Vi KP).isAgg=a.isAgg:=by cases a<;>rfl
theorem AaJ(KP:APH Nat)(a:AV):(a.Vi KP).Dj=a.Dj:=by cases a<;>rfl
structure Ren (φ:Nat->Nat) (g g':G) (n' k:Nat):Prop where
 lt:φ k<n'
 AZ:g'.AZ (φ k)=g.AZ k
 own:∀b r,g.own b=.BO k r->g'.own b=.BO (φ k) r
theorem Al.Ago{φ:Nat->Nat}{g g':G}(hi:∀b,g.own b=.Ir->g'.own b=.Ir){ks:APH Nat}(hk:∀k∈ks,∀b r,g.own b=.BO k r->g'.own b=.BO (φ k) r){b:Nat}(h:Al g.own ks b):Al g'.own (ks.map φ) b:=by
 rcases h with h |⟨k,hks,r,h⟩
 ·exact .inl (hi b h)
 ·exact .inr ⟨φ k,List.mem_map.2 ⟨k,hks,rfl⟩,r,hk k hks b r h⟩
theorem NP:∀(a:AV) {k:Nat},k∈a.R8->k∈a.Ct
 |.AB _ _ _,_,h=>h
 |.Fv _ _ _,_,h=>h
 |.TA _ _ _ _ _,_,h=>h
 |.Vs _ _ _ _ _ _,_,h=>h
 |.pr a b,_,h=>(List.mem_append.1 h).elim (λh=>AME _ (NP a h)) λh=>AMF _ (NP b h)
 |.cons a b,_,h=>(List.mem_append.1 h).elim (λh=>AME _ (NP a h)) λh=>AMF _ (NP b h)
 |.fn _ c,_,h=>NP c h
 |.zs,_,h=>by cases h
 |.AG _,_,h=>by cases h
 |.ptr _ _ _ _,_,h=>by cases h
 |.JU,_,h=>by cases h
 |.nil,_,h=>by cases h
 |.mp _,_,h=>by cases h
 |.un _,_,h=>by cases h
theorem cC:∀(b:Blk) {k:Nat},k∈b.R8->k∈b.Ct
 |.box a,_,h=>NP a h
 |.row _ _ _ _,_,h=>h
 |.map _ _ _ _ _,_,h=>h
 |.QU _ _ _ _ _,_,h=>h
 |.tail _ _ _,_,h=>h
 |.A9,_,h=>h
section
variable {w:World} {g g':G} {n n':Nat} {φ:Nat->Nat}
def Aan(φ:Nat->Nat)(g g':G)(n' k:Nat):Prop:=φ k<n'/\g'.AZ (φ k)=g.AZ k
def An5(φ:Nat->Nat)(g g':G)(k:Nat):Prop:=∀b r,g.own b=.BO k r->g'.own b=.BO (φ k) r
theorem zq{ks:APH Nat}(hk:∀k∈ks,Aan φ g g' n' k):∀k∈ks.map φ,k<n':=λk h=>by
 obtain⟨j,hj,rfl⟩:=List.mem_map.1 h;exact(hk j hj).1
theorem CG.ZS(hi:∀b,g.own b=.Ir->g'.own b=.Ir):∀(a:AV) (m:Bool) {cs:APH Value},CG w g n m a cs->(∀k∈a.Ct,Aan φ g g' n' k)->(∀k∈a.R8,An5 φ g g' k)->CG w g' n' m (a.NI φ) cs
 |.AB ks t x,false,cs,⟨hk,r⟩,h,ho=>⟨zq h,r.mono λb a=>⟨a.Ago hi ho,rfl⟩⟩
 |.zs,false,_,h,_,_=>h
 |.AG k,false,_,⟨hk,e⟩,h,_=>by
  have:=h k (by simp[AV.Ct]);exact⟨this.1,by rw[this.2];exact e⟩
 |.ptr k i p o,false,_,⟨hk,h0,h1,b,hb,e⟩,h,_=>by
  have:=h k (by simp[AV.Ct]);exact⟨this.1,h0,by rw[this.2];exact h1,b,by rw[this.2];exact hb,by rw[this.2];exact e⟩
 |.Fv ks t x,false,cs,⟨hk,b,off,ds,e,ha,r,hc⟩,h,ho=>⟨zq h,b,off,ds,e,ha.Ago hi ho,r.mono λb a=>⟨a.Ago hi ho,rfl⟩,hc⟩
 |.JU,false,_,h,_,_=>h
 |.pr a b,false,_,⟨c,d,e,h1,h2⟩,h,ho=>⟨c,d,e,CG.ZS hi a false h1 (λk hk=>h k (by simp[AV.Ct,hk])) λk hk=>ho k (by simp[AV.R8,hk]),CG.ZS hi b false h2 (λk hk=>h k (by simp[AV.Ct,hk])) λk hk=>ho k (by simp[AV.R8,hk])⟩
 |.fn f c,false,_,⟨vs,e,hx⟩,h,ho=>⟨vs,e,CG.ZS hi c true hx (λk hk=>h k (by simpa [AV.Ct]using hk)) λk hk=>ho k (by simpa [AV.R8]using hk)⟩
 |.un k,false,_,h,_,_=>h
 |.cons a b,true,_,⟨v,r,e,h1,h2⟩,h,ho=>by
  refine⟨v,r,e,?_,CG.ZS hi b true h2 (λk hk=>h k (by simp[AV.Ct,hk])) λk hk=>ho k (by simp[AV.R8,hk])⟩;rw[ub,mZ];exact h1.imp id λ⟨cs,hx,hv⟩=>⟨cs,CG.ZS hi a false hx (λk hk=>h k (by simp[AV.Ct,hk])) (λk hk=>ho k (by simp[AV.R8,hk])),hv⟩
 |.nil,true,_,h,_,_=>h
 |.cons _ _,false,_,h,_,_=>h.elim
 |.nil,false,_,h,_,_=>h.elim
 |.mp k,false,_,⟨hk,b,hb,e⟩,h,_=>by
  have:=h k (by simp[AV.Ct]);exact⟨this.1,b,by rw[this.2];exact hb,e⟩
 |.TA k i p o e,false,_,⟨hk,h0,h1,b,v,ha,ho,e1,e2,hc⟩,h,hO=>by
  have:=h k (by simp[AV.Ct]);exact⟨this.1,h0,by rw[this.2];exact h1,b,v,by rw[this.2];exact ha,hO k (by simp[AV.R8]) b [] ho,e1,e2,by rw[this.2];exact hc⟩
 |.Vs k i p o j u,false,_,⟨hk,h0,h1,b,b',l,c,ha,ho,e1,e2,hc⟩,h,hO=>by
  have:=h k (by simp[AV.Ct]);exact⟨this.1,h0,by rw[this.2];exact h1,b,b',l,c,by rw[this.2];exact ha,hO k (by simp[AV.R8]) b [] ho,e1,e2,by rw[this.2];exact hc⟩
 |.Vs _ _ _ _ _ _,true,_,h,_,_=>h.elim
 |.TA _ _ _ _ _,true,_,h,_,_=>h.elim
 |.AB _ _ _,true,_,h,_,_=>h.elim
 |.zs,true,_,h,_,_=>h.elim
 |.AG _,true,_,h,_,_=>h.elim
 |.mp _,true,_,h,_,_=>h.elim
 |.ptr _ _ _ _,true,_,h,_,_=>h.elim
 |.Fv _ _ _,true,_,h,_,_=>h.elim
 |.JU,true,_,h,_,_=>h.elim
 |.pr _ _,true,_,h,_,_=>h.elim
 |.fn _ _,true,_,h,_,_=>h.elim
 |.un _,true,_,h,_,_=>h.elim
theorem Ren.r0{k:Nat}(h:Ren φ g g' n' k):Aan φ g g' n' k:=⟨h.lt,h.AZ⟩
theorem CG.NI(hi:∀b,g.own b=.Ir->g'.own b=.Ir)(a:AV)(m:Bool){cs:APH Value}(h:CG w g n m a cs)(hk:∀k∈a.Ct,Ren φ g g' n' k):CG w g' n' m (a.NI φ) cs :=
 h.ZS hi a m (λk h=>(hk k h).r0) λk h=>(hk k (NP a h)).own
theorem CG.Tk:∀(a:AV) (m:Bool) {cs:APH Value},CG w g n m a cs->∀k∈a.Ct,k<n
 |.AB ks t x,false,cs,h,k,hk=>h.1 k hk
 |.zs,false,_,_,_,hk=>by cases hk
 |.AG j,false,_,h,k,hk=>by
  have :=by simpa [AV.Ct]using hk
  rw[this];exact h.1
 |.ptr j i p o,false,_,h,k,hk=>by
  have :=by simpa [AV.Ct]using hk
  rw[this];exact h.1
 |.Fv ks t x,false,cs,h,k,hk=>h.1 k hk
 |.JU,false,_,_,_,hk=>by cases hk
 |.pr a b,false,_,⟨c,d,e,h1,h2⟩,k,hk=>by
  rcases List.mem_append.1 hk with hk |hk
  ·exact CG.Tk a _ h1 k hk
  ·exact CG.Tk b _ h2 k hk
 |.fn f c,false,_,⟨vs,e,hx⟩,k,hk=>CG.Tk c true hx k hk
 |.un _,false,_,_,_,hk=>by cases hk
 |.cons a b,true,_,⟨v,r,e,h1,h2⟩,k,hk=>by
  rcases List.mem_append.1 hk with hk |hk
  ·rcases h1 with h1 |⟨cs,h1,_⟩
   ·cases a<;>simp[AV.NC]at h1;cases hk
   ·exact CG.Tk a _ h1 k hk
  ·exact CG.Tk b true h2 k hk
 |.nil,true,_,_,_,hk=>by cases hk
 |.cons _ _,false,_,h,_,_=>h.elim
 |.nil,false,_,h,_,_=>h.elim
 |.mp j,false,_,h,k,hk=>by
  have :=by simpa [AV.Ct]using hk
  rw[this];exact h.1
 |.TA j i p o e,false,_,h,k,hk=>by
  have :=by simpa [AV.Ct]using hk
  rw[this];exact h.1
 |.Vs j i p o q u,false,_,h,k,hk=>by
  have :=by simpa [AV.Ct]using hk
  rw[this];exact h.1
 |.Vs _ _ _ _ _ _,true,_,h,_,_=>h.elim
 |.TA _ _ _ _ _,true,_,h,_,_=>h.elim
 |.AB _ _ _,true,_,h,_,_=>h.elim
 |.zs,true,_,h,_,_=>h.elim
 |.AG _,true,_,h,_,_=>h.elim
 |.mp _,true,_,h,_,_=>h.elim
 |.ptr _ _ _ _,true,_,h,_,_=>h.elim
 |.Fv _ _ _,true,_,h,_,_=>h.elim
 |.JU,true,_,h,_,_=>h.elim
 |.pr _ _,true,_,h,_,_=>h.elim
 |.fn _ _,true,_,h,_,_=>h.elim
 |.un _,true,_,h,_,_=>h.elim
theorem B4.Tk{a:AV}{v:Value}(h:B4 w g n a v):∀k∈a.Ct,k<n:=by
 cases ht:a.Dj with
 |false =>
  rcases(B4.iff ht).1 h with h |⟨cs,h,_⟩
  ·intro k hk;cases a<;>simp[AV.NC]at h;cases hk
  ·exact CG.Tk a _ h
 |true =>
  cases a with
  |cons a b=>obtain⟨vs,e,h⟩:=h;exact CG.Tk _ true h
  |nil=>intro k hk;cases hk
  |_=>cases ht
theorem B4.ZS(hi:∀b,g.own b=.Ir->g'.own b=.Ir){a:AV}{v:Value}(h:B4 w g n a v)(hk:∀k∈a.Ct,Aan φ g g' n' k)(ho:∀k∈a.R8,An5 φ g g' k):B4 w g' n' (a.NI φ) v:=by
 cases ht:a.Dj with
 |false =>
  rw[B4.iff ht]at h;rw[B4.iff (by rw[Abw];exact ht),ub,mZ];exact h.imp id λ⟨cs,h,hv⟩=>⟨cs,CG.ZS hi a _ h hk ho,hv⟩
 |true =>
  cases a with
  |cons a b=>obtain⟨vs,e,h⟩:=h;exact⟨vs,e,CG.ZS hi _ true h hk ho⟩
  |nil=>exact h
  |_=>cases ht
theorem B4.NI(hi:∀b,g.own b=.Ir->g'.own b=.Ir){a:AV}{v:Value}(h:B4 w g n a v)(hk:∀k∈a.Ct,Ren φ g g' n' k):B4 w g' n' (a.NI φ) v :=
 h.ZS hi (λk h=>(hk k h).r0) λk h=>(hk k (NP a h)).own
theorem Mn.ZS(hi:∀b,g.own b=.Ir->g'.own b=.Ir){k:Nat}{b:Blk}(h:Mn w g n k b)(hk:Ren φ g g' n' k)(QS:∀j∈b.Ct,Aan φ g g' n' j)(hO:∀j∈b.R8,An5 φ g g' j):Mn w g' n' (φ k) (b.NI φ):=by
 cases b with
 |A9=>trivial
 |map m kt vt es st =>
  obtain⟨QT,b,He,DC,ha,ho,hh,RH,hm⟩:=h;have hmm:(m.NI φ).Ct=m.Ct.map φ:=by cases m<;>rfl
  refine⟨by rw[hmm];exact zq QS,b,He,DC,by rw[hk.AZ];exact ha,hk.own b [] ho,hh,RH,hm.on λi x c r=>?_⟩;cases m with
  |Aw=>exact Jo.mono (λb q hb=>⟨hk.own b _ hb,rfl⟩) r
  |sh ks=>exact HE.mono (λb a=>⟨a.Ago hi hO,rfl⟩) r
 |QU e t xs i p =>
  obtain⟨h1,h2,h3,h4,h5,u,o,x0,b,BA,ds,q1,q2,q3,ha,ho,hh,c1,c2,c3,c4,hc⟩:=h;refine⟨by rw[hk.AZ];exact h1,by rw[hk.AZ];exact h2,h3,h4,h5,u,o,x0,b,BA,ds,q1,q2,q3,?_⟩;rw[hk.AZ];exact⟨ha,hk.own b [] ho,hh,c1,c2,c3,c4,hc.mono λi x c r=>r.mono λb q hb=>⟨hk.own b _ hb,rfl⟩⟩
 |tail e t xs =>
  obtain⟨hf,hlen,PE,BU,hr⟩:=h;refine⟨hf,by rw[hk.AZ];exact hlen,by rw[hk.AZ];exact PE,BU,?_⟩;rw[hk.AZ];exact hr.imp id λ⟨b,o,BA,ds,ha,ho,hh,h1,h2,h3,h4,hc⟩=>⟨b,o,BA,ds,ha,hk.own b [] ho,hh,h1,h2,h3,h4,hc.mono λi x c r=>r.mono λb q hb=>⟨hk.own b _ hb,rfl⟩⟩
 |box a =>
  obtain⟨h1,b,cs,e,ha,ho,hh,hx⟩:=h;exact⟨by rw[hk.AZ];exact h1,b,cs,e,by rw[hk.AZ];exact ha,hk.own b [] ho,hh,CG.ZS hi a _ hx QS hO⟩
 |row e m t xs =>
  obtain⟨QT,hlen,PE,BU,hr⟩:=h;have hm:(m.NI φ).Ct=m.Ct.map φ:=by cases m<;>rfl
  refine⟨by rw[hm];exact zq QS,by rw[hk.AZ];exact hlen,by rw[hk.AZ];exact PE,BU,?_⟩;rw[hk.AZ];refine hr.imp id λ⟨b,BA,ds,ha,ho,hh,h1,h2,h3,h4,hc⟩=>⟨b,BA,ds,ha,hk.own b [] ho,hh,h1,h2,h3,h4,?_⟩;cases m with
  |Aw=>exact hc.mono λi x c r=>r.mono λb q hb=>⟨hk.own b _ hb,rfl⟩
  |sh ks=>exact hc.mono λx c r=>r.mono λb a=>⟨a.Ago hi hO,rfl⟩
theorem Mn.NI(hi:∀b,g.own b=.Ir->g'.own b=.Ir){k:Nat}{b:Blk}(h:Mn w g n k b)(hk:Ren φ g g' n' k)(QS:∀j∈b.Ct,Ren φ g g' n' j):Mn w g' n' (φ k) (b.NI φ) :=
 h.ZS hi hk (λk h=>(QS k h).r0) λk h=>(QS k (cC b h)).own
structure Dep (KP:List Nat) (g g':G) (n:Nat):Prop where
 Ir:∀b,g.own b=.Ir->Al g'.own KP b
 BO:∀b k r,g.own b=.BO k r->k<n->g'.own b=.BO k r
 AZ:∀k,k<n->g'.AZ k=g.AZ k
 lt:∀k∈KP,k<n
theorem Al.Vi{KP:APH Nat}(d:Dep KP g g' n){ks:APH Nat}(hk:∀k∈ks,k<n){b:Nat}(h:Al g.own ks b):Al g'.own (ks++KP) b:=by
 rcases h with h |⟨k,hks,r,h⟩
 ·exact(d.Ir b h).mono λk hk=>AMF _ hk
 ·exact .inr ⟨k,AME _ hks,r,d.BO b k r h (hk k hks)⟩
theorem yk{KP ks:APH Nat}(d:Dep KP g g' n)(hk:∀k∈ks,k<n):∀k∈ks++KP,k<n:=λk h=>by
 rcases List.mem_append.1 h with h |h
 ·grind
 ·exact d.lt k h
theorem CG.Vi{KP:APH Nat}(d:Dep KP g g' n):∀(a:AV) (m:Bool) {cs:APH Value},CG w g n m a cs->CG w g' n m (a.Vi KP) cs
 |.AB ks t x,false,cs,⟨hk,r⟩=>by
  simp only[AV.Vi];cases hf:t.BP with
  |true=>exact⟨by grind,(HE.BP hf).2 ((HE.BP hf).1 r)⟩
  |false=>exact⟨by simpa using yk d hk,by simpa using r.mono λb a=>⟨a.Vi d hk,rfl⟩⟩
 |.zs,false,_,h=>h
 |.AG k,false,_,⟨hk,e⟩=>⟨hk,by rw[d.AZ k hk];exact e⟩
 |.mp k,false,_,⟨hk,b,hb,e⟩=>⟨hk,b,by rw[d.AZ k hk];exact hb,e⟩
 |.ptr k i p o,false,_,⟨hk,h0,h1,b,hb,e⟩=>⟨hk,h0,by rw[d.AZ k hk];exact h1,b,by rw[d.AZ k hk];exact hb,by rw[d.AZ k hk];exact e⟩
 |.Fv ks t x,false,cs,⟨hk,b,off,ds,e,ha,r,hc⟩=>⟨yk d hk,b,off,ds,e,ha.Vi d hk,r.mono λb a=>⟨a.Vi d hk,rfl⟩,hc⟩
 |.JU,false,_,h=>h
 |.pr a b,false,_,⟨c,e,he,h1,h2⟩=>⟨c,e,he,CG.Vi d a _ h1,CG.Vi d b _ h2⟩
 |.fn f c,false,_,⟨vs,e,hx⟩=>⟨vs,e,CG.Vi d c true hx⟩
 |.un k,false,_,h=>h
 |.cons a b,true,_,⟨v,r,e,h1,h2⟩=>by
  refine⟨v,r,e,?_,CG.Vi d b true h2⟩;rw[rY,lI];exact h1.imp id λ⟨cs,hx,hv⟩=>⟨cs,CG.Vi d a _ hx,hv⟩
 |.nil,true,_,h=>h
 |.cons _ _,false,_,h=>h.elim
 |.nil,false,_,h=>h.elim
 |.TA k i p o e,false,_,⟨hk,h0,h1,b,v,ha,ho,e1,e2,hc⟩=>⟨hk,h0,by rw[d.AZ k hk];exact h1,b,v,by rw[d.AZ k hk];exact ha,d.BO b k [] ho hk,e1,e2,by rw[d.AZ k hk];exact hc⟩
 |.Vs k i p o j u,false,_,⟨hk,h0,h1,b,b',l,c,ha,ho,e1,e2,hc⟩=>⟨hk,h0,by rw[d.AZ k hk];exact h1,b,b',l,c,by rw[d.AZ k hk];exact ha,d.BO b k [] ho hk,e1,e2,by rw[d.AZ k hk];exact hc⟩
 |.Vs _ _ _ _ _ _,true,_,h=>h.elim
 |.TA _ _ _ _ _,true,_,h=>h.elim
 |.AB _ _ _,true,_,h=>h.elim
 |.zs,true,_,h=>h.elim
 |.AG _,true,_,h=>h.elim
 |.mp _,true,_,h=>h.elim
 |.ptr _ _ _ _,true,_,h=>h.elim
 |.Fv _ _ _,true,_,h=>h.elim
 |.JU,true,_,h=>h.elim
 |.pr _ _,true,_,h=>h.elim
 |.fn _ _,true,_,h=>h.elim
 |.un _,true,_,h=>h.elim
theorem B4.Vi{KP:APH Nat}(d:Dep KP g g' n){a:AV}{v:Value}(h:B4 w g n a v):B4 w g' n (a.Vi KP) v:=by
 cases ht:a.Dj with
 |false =>
  rw[B4.iff ht]at h;rw[B4.iff (by rw[AaJ];exact ht),rY,lI];exact h.imp id λ⟨cs,h,hv⟩=>⟨cs,CG.Vi d a _ h,hv⟩
 |true =>
  cases a with
  |cons a b=>obtain⟨vs,e,h⟩:=h;exact⟨vs,e,CG.Vi d _ true h⟩
  |nil=>exact h
  |_=>cases ht
theorem Mn.Vi{KP:APH Nat}(d:Dep KP g g' n){k:Nat}(hk:k<n){b:Blk}(h:Mn w g n k b):Mn w g' n k (b.Vi KP):=by
 cases b with
 |A9=>trivial
 |map m kt vt es st =>
  obtain⟨QT,b,He,DC,ha,ho,hh,RH,hm⟩:=h;refine⟨?_,b,He,DC,by rw[d.AZ k hk];exact ha,d.BO b k [] ho hk,hh,RH,hm.on λi x c r=>?_⟩
  ·cases m with
   |Aw=>exact QT
   |sh ks=>exact yk d QT
  ·cases m with
   |Aw=>exact Jo.mono (λb q hb=>⟨d.BO b k _ hb hk,rfl⟩) r
   |sh ks=>exact HE.mono (λb a=>⟨a.Vi d QT,rfl⟩) r
 |QU e t xs i p =>
  obtain⟨h1,h2,h3,h4,h5,u,o,x0,b,BA,ds,q1,q2,q3,ha,ho,hh,c1,c2,c3,c4,hc⟩:=h;refine⟨by rw[d.AZ k hk];exact h1,by rw[d.AZ k hk];exact h2,h3,h4,h5,u,o,x0,b,BA,ds,q1,q2,q3,?_⟩;rw[d.AZ k hk];exact⟨ha,d.BO b k [] ho hk,hh,c1,c2,c3,c4,hc.mono λi x c r=>r.mono λb q hb=>⟨d.BO b k _ hb hk,rfl⟩⟩
 |tail e t xs =>
  obtain⟨hf,hlen,PE,BU,hr⟩:=h;refine⟨hf,by rw[d.AZ k hk];exact hlen,by rw[d.AZ k hk];exact PE,BU,?_⟩;rw[d.AZ k hk];exact hr.imp id λ⟨b,o,BA,ds,ha,ho,hh,h1,h2,h3,h4,hc⟩=>⟨b,o,BA,ds,ha,d.BO b k [] ho hk,hh,h1,h2,h3,h4,hc.mono λi x c r=>r.mono λb q hb=>⟨d.BO b k _ hb hk,rfl⟩⟩
 |box a =>
  obtain⟨h1,b,cs,e,ha,ho,hh,hx⟩:=h;exact⟨by rw[d.AZ k hk];exact h1,b,cs,e,by rw[d.AZ k hk];exact ha,d.BO b k [] ho hk,hh,CG.Vi d a _ hx⟩
 |row e m t xs =>
  obtain⟨QT,hlen,PE,BU,hr⟩:=h;refine⟨?_,by rw[d.AZ k hk];exact hlen,by rw[d.AZ k hk];exact PE,BU,?_⟩
  ·cases m with
   |Aw=>exact QT
   |sh ks=>exact yk d QT
  ·rw[d.AZ k hk];refine hr.imp id λ⟨b,BA,ds,ha,ho,hh,h1,h2,h3,h4,hc⟩=>⟨b,BA,ds,ha,d.BO b k [] ho hk,hh,h1,h2,h3,h4,?_⟩;cases m with
   |Aw=>exact hc.mono λi x c r=>r.mono λb q hb=>⟨d.BO b k _ hb hk,rfl⟩
   |sh ks=>exact hc.mono λx c r=>r.mono λb a=>⟨a.Vi d QT,rfl⟩
end
end Go.Va
