import GoSem.Step
import Derived.Calls
import Derived.Orders
import Derived.Below
import Derived.Laws.AppendOwn
import Derived.Laws.MakeOwn
import Derived.Laws.CopyRow
import Derived.Laws.Tables
import Derived.Deep.MidRow
import Derived.Laws.Small
import Derived.Laws.Cells
import Derived.Laws.BytesArg
import Derived.Great.FillDense
set_option linter.unusedVariables false
set_option linter.unusedSimpArgs false
namespace Go.Va
abbrev AGV:=@Option.bind_some
abbrev AGW:=@Int.toNat_natCast
abbrev AGX:=@Option.some.injEq
abbrev AGY:=@decide_eq_false
abbrev AGZ:=@List.length_append
abbrev AG0:=@decide_eq_true
abbrev AG1:=@Nat.le_refl
abbrev AG2:=@Bool.and_eq_true
abbrev AG3:=@List.append_assoc
abbrev AG4:=@List.length_set
abbrev AG5:=@List.take_of_length_le
abbrev AG6:=@Nat.lt_or_ge
abbrev AG7:=@List.length_map
abbrev AG8:=@Prod.mk.injEq
abbrev AG9:=@Array.getElem?_toList
abbrev AHa:=@cond_false
abbrev AHb:=@cond_true
abbrev AHc:=@Option.bind_assoc
abbrev AHd:=@if_pos
abbrev AHe:=@if_neg
abbrev AHf:=@List.length_singleton
abbrev AHg:=@List.length_take
abbrev AHh:=@List.getElem?_append_right
abbrev AHi:=@List.getElem?_append_left
abbrev AHj:=@Nat.eq_zero_or_pos
abbrev AHk:=@List.getElem?_set
abbrev AHl:=@List.getElem?_append
abbrev AHm:=@List.mem_singleton
abbrev AHn:=@List.mem_cons_of_mem
abbrev AHo:=@List.getElem?_map
abbrev AHp:=@Nat.le_trans
abbrev AHq:=@List.mem_cons_self
abbrev AHr:=@Nat.zero_add
abbrev AHs:=@List.length_replicate
abbrev AHt:=@List.mem_append_left
abbrev AHu:=@List.mem_append_right
abbrev AHv:=@List.length_drop
abbrev AHw:=@Nat.le_succ
abbrev AHx:=@Nat.lt_of_lt_of_le
abbrev AHy:=@Nat.add_sub_cancel
abbrev AHz:=@List.getElem?_eq_none
abbrev AHA:=@List.append_nil
abbrev AHB:=@Nat.lt_succ_self
abbrev AHC:=@List.length_range
abbrev AHD:=@List.getElem_mem
inductive Ty where
 |int (k:IntKind)|bool |str |unit |Au (a b:Ty)|sl (t:Ty)|P3 (z:Nat)
 deriving DecidableEq
@[reducible] def Ty.V:Ty->Type
 |.int _=>Int
 |.bool=>Bool
 |.str=>ByteArray
 |.unit=>Unit
 |.Au a b=>a.V×b.V
 |.sl t=>List t.V
 |.P3 _=>Unit
def Ty.zero:(t:Ty)->t.V
 |.int _=>0
 |.bool=>false
 |.str=>⟨#[]⟩
 |.unit=>()
 |.Au a b=>(a.zero,b.zero)
 |.sl _=>[]
 |.P3 _=>()
def Ty.size:Ty->Nat
 |.unit=>0
 |.Au a b=>a.size+b.size
 |_=>1
def Ty.BD:Ty->Bool
 |.sl _=>false
 |.P3 _=>false
 |.Au a b=>a.BD&&b.BD
 |_=>true
def Ty.data:Ty->Bool
 |.P3 _=>false
 |.Au a b=>a.data&&b.data
 |.sl t=>t.data
 |_=>true
def Ty.isAgg:Ty->Bool
 |.unit=>true
 |.Au _ _=>true
 |_=>false
def Iw(t u:Ty)(x:t.V):Option u.V:=if h:t=u then some (h▸x)else none
inductive AV where
 |AA (ks:List Nat) (t:Ty) (x:t.V)
 |zs
 |Ak (k:Nat)
 |ptr (k:Nat) (i:Int) (p:List Nat) (o:Nat)
 |Eh (ks:List Nat) (t:Ty) (x:t.V)
 |Lw
 |pr (a b:AV)
 |fn (f:Nat) (WW:AV)
 |cons (a b:AV)
 |nil
 |R1 (k:Nat) (i:Int) (p:List Nat) (o e:Nat)
 |TR (k:Nat) (i:Int) (p:List Nat) (o:Nat) (j:Int) (u:Ty)
 |mp (k:Nat)
 |un (n:Nat)
inductive RM where
 |Ai |sh (ks:List Nat)
inductive Blk where
 |box (a:AV)
 |row (e:Nat) (m:RM) (t:Ty) (xs:List t.V)
 |map (m:RM) (kt vt:Ty) (es:List (kt.V×vt.V)) (st:Option kt.V)
 |Qk (e:Nat) (t:Ty) (xs:List t.V) (i:Int) (p:List Nat)
 |tail (e:Nat) (t:Ty) (xs:List t.V)
 |AH
def AV.size:AV->Nat
 |.AA _ t _=>t.size
 |.pr a b=>a.size+b.size
 |.un n=>n
 |_=>1
def AV.isAgg:AV->Bool
 |.AA _ t _=>t.isAgg
 |.pr _ _=>true
 |_=>false
@[reducible] def AV.int (k:IntKind) (n:Int):AV:=.AA [] (.int k) n
@[reducible] def AV.bool (b:Bool):AV:=.AA [] .bool b
@[reducible] def AV.str (s:ByteArray):AV:=.AA [] .str s
@[reducible] def AV.u:AV:=.AA [] .unit ()
def Ty.Xi:Ty->AV
 |.Au a b=>.pr a.Xi b.Xi
 |.sl _=>.zs
 |.P3 0=>.Lw
 |.P3 _=>.un 1
 |.int k=>.AA [] (.int k) (0:Int)
 |.bool=>.AA [] .bool false
 |.str=>.AA [] .str ⟨#[]⟩
 |.unit=>.AA [] .unit ()
def XJ(ks:List Nat)(t:Ty):List Nat:=if t.BD then[]else ks
def Ud(ks:List Nat):(t:Ty)->t.V->Nat->Option AV
 |.Au a _,x,0=>some (.AA (XJ ks a) a x.1)
 |.Au _ b,x,n+1=>Ud ks b x.2 n
 |_,_,_=>none
def AV.Xy:AV->Nat->Option AV
 |.AA ks t x,n=>Ud ks t x n
 |.pr a _,0=>some a
 |.pr _ b,n+1=>b.Xy n
 |_,_=>none
def R3:Ty->Nat->Option Nat
 |.Au _ _,0=>some 0
 |.Au a b,n+1=>match R3 b n with |some o=>some (a.size+o)|none=>none
 |_,_=>none
def AV.off:AV->Nat->Option Nat
 |.AA _ t _,n=>R3 t n
 |.pr _ _,0=>some 0
 |.pr a b,n+1=>match b.off n with |some o=>some (a.size+o)|none=>none
 |_,_=>none
def eN:Ty->Nat->Option Ty
 |.Au a _,0=>some a
 |.Au _ b,n+1=>eN b n
 |_,_=>none
def tyP:Ty->List Nat->Option Ty
 |t,[]=>some t
 |t,f::p=>match eN t f with |some u=>tyP u p |none=>none
def KO:Ty->List Nat->Option Nat
 |_,[]=>some 0
 |t,f::p=>match eN t f,R3 t f with
  |some u,some o=>match KO u p with |some o'=>some (o+o')|none=>none
  |_,_=>none
def pd(ks:List Nat):(t:Ty)->t.V->Nat->AV->Option AV
 |.Au _ b,x,0,v=>some (.pr v (.AA (XJ ks b) b x.2))
 |.Au a b,x,n+1,v=>match pd ks b x.2 n v with |some r=>some (.pr (.AA (XJ ks a) a x.1) r)|none=>none
 |_,_,_,_=>none
def AV.Rz:AV->Nat->AV->Option AV
 |.AA ks t x,n,v=>pd ks t x n v
 |.pr _ b,0,v=>some (.pr v b)
 |.pr a b,n+1,v=>match b.Rz n v with |some r=>some (.pr a r)|none=>none
 |_,_,_=>none
def AV.TJ:AV->List Nat->Option AV
 |a,[]=>some a
 |a,f::p=>match a.Xy f with |some b=>b.TJ p |none=>none
def AV.wK:AV->List Nat->Option Nat
 |_,[]=>some 0
 |a,f::p=>match a.Xy f,a.off f with
  |some b,some o=>match b.wK p with |some o'=>some (o+o')|none=>none
  |_,_=>none
def AV.XS:AV->List Nat->AV->Option AV
 |_,[],v=>some v
 |a,f::p,v=>match a.Xy f with
  |some b=>match b.XS p v with |some r=>a.Rz f r |none=>none
  |none=>none
def Qx:(t:Ty)->t.V->Nat->(∀u:Ty,u.V->Option u.V)->Option t.V
 |.Au a _,x,0,f=>match f a x.1 with |some y=>some (y,x.2)|none=>none
 |.Au _ b,x,n+1,f=>match Qx b x.2 n f with |some y=>some (x.1,y)|none=>none
 |_,_,_,_=>none
def Re(u:Ty)(y:u.V):(p:List Nat)->(t:Ty)->t.V->Option t.V
 |[],t,_=>Iw u t y
 |f::p,t,x=>Qx t x f (λt' x'=>Re u y p t' x')
def AV.Cf:AV->List Nat
 |.AA ks _ _=>ks
 |.Eh ks _ _=>ks
 |.Ak k=>[k]
 |.ptr k _ _ _=>[k]
 |.R1 k _ _ _ _=>[k]
 |.TR k _ _ _ _ _=>[k]
 |.mp k=>[k]
 |.pr a b=>a.Cf++b.Cf
 |.fn _ c=>c.Cf
 |.cons a b=>a.Cf++b.Cf
 |_=>[]
def AV.Q3:AV->List Nat
 |.AA ks _ _=>ks
 |.Eh ks _ _=>ks
 |.R1 k _ _ _ _=>[k]
 |.TR k _ _ _ _ _=>[k]
 |.pr a b=>a.Q3++b.Q3
 |.fn _ c=>c.Q3
 |.cons a b=>a.Q3++b.Q3
 |_=>[]
def RM.Cf:RM->List Nat
 |.Ai=>[]
 |.sh ks=>ks
def Blk.Cf:Blk->List Nat
 |.box a=>a.Cf
 |.row _ m _ _=>m.Cf
 |.map m _ _ _ _=>m.Cf
 |.Qk _ _ _ _ _=>[]
 |.tail _ _ _=>[]
 |.AH=>[]
def Blk.Q3:Blk->List Nat
 |.box a=>a.Q3
 |.row _ m _ _=>m.Cf
 |.map m _ _ _ _=>m.Cf
 |.Qk _ _ _ _ _=>[]
 |.tail _ _ _=>[]
 |.AH=>[]
def AV.M3(f:Nat->Nat):AV->AV
 |.AA ks t x=>.AA (ks.map f) t x
 |.Eh ks t x=>.Eh (ks.map f) t x
 |.Ak k=>.Ak (f k)
 |.ptr k i p o=>.ptr (f k) i p o
 |.R1 k i p o e=>.R1 (f k) i p o e
 |.TR k i p o j u=>.TR (f k) i p o j u
 |.mp k=>.mp (f k)
 |.pr a b=>.pr (a.M3 f) (b.M3 f)
 |.fn g c=>.fn g (c.M3 f)
 |.cons a b=>.cons (a.M3 f) (b.M3 f)
 |.zs=>.zs
 |.Lw=>.Lw
 |.nil=>.nil
 |.un n=>.un n
def RM.M3(f:Nat->Nat):RM->RM
 |.Ai=>.Ai
 |.sh ks=>.sh (ks.map f)
def Blk.M3(f:Nat->Nat):Blk->Blk
 |.box a=>.box (a.M3 f)
 |.row e m t xs=>.row e (m.M3 f) t xs
 |.map m kt vt es st=>.map (m.M3 f) kt vt es st
 |.Qk e t xs i p=>.Qk e t xs i p
 |.tail e t xs=>.tail e t xs
 |.AH=>.AH
def Xp(n:Nat)(ks:List Nat):List Nat:=(List.range n).filter λk=>ks.contains k
def AV.DW(n:Nat):AV->AV
 |.AA ks t x=>.AA (Xp n ks) t x
 |.Eh ks t x=>.Eh (Xp n ks) t x
 |.pr a b=>.pr (a.DW n) (b.DW n)
 |.fn f c=>.fn f (c.DW n)
 |.cons a b=>.cons (a.DW n) (b.DW n)
 |a=>a
def Blk.DW(n:Nat):Blk->Blk
 |.box a=>.box (a.DW n)
 |.row e (.sh ks) t xs=>.row e (.sh (Xp n ks)) t xs
 |.map (.sh ks) kt vt es st=>.map (.sh (Xp n ks)) kt vt es st
 |b=>b
def AV.drop(Vd:Nat->Bool):AV->AV
 |.AA ks t x=>if ks.any Vd then .un t.size else .AA ks t x
 |.Eh ks t x=>if ks.any Vd then .un 1 else .Eh ks t x
 |.R1 k i p o e=>if Vd k then .un 1 else .R1 k i p o e
 |.TR k i p o j u=>if Vd k then .un 1 else .TR k i p o j u
 |.pr a b=>.pr (a.drop Vd) (b.drop Vd)
 |.fn g c=>.fn g (c.drop Vd)
 |.cons a b=>.cons (a.drop Vd) (b.drop Vd)
 |a=>a
def Blk.drop(Vd:Nat->Bool):Blk->Blk
 |.box a=>.box (a.drop Vd)
 |.row e m t xs=>if m.Cf.any Vd then .AH else .row e m t xs
 |.map m kt vt es st=>if m.Cf.any Vd then .AH else .map m kt vt es st
 |.Qk e t xs i p=>.Qk e t xs i p
 |.tail e t xs=>.tail e t xs
 |.AH=>.AH
structure St where
 AJ:List AV
 Am:List Blk
structure G2 where
 val:AV
 Am:List Blk
 Bw:List Nat
structure TI where
 ty:Ty
 Uo:List Nat
 elem:Nat
 bytes:Nat
 Gs:Nat:=0
 Nj:Nat:=0
 eqs:Bool:=false
def TI.D4(ti:TI):Bool:=match ti.ty with |.sl _=>true |_=>false
abbrev sZ:=List (Nat×TI)
def sZ.get:sZ->Nat->Option TI
 |[],_=>none
 |(k,i)::r,t=>if k==t then some i else sZ.get r t
inductive PM where
 |d (t:Ty)|p (t:Ty)|Vu
structure Callee where
 iG:List PM
 run:(R:Type)->List AV->List Blk->(AV->List Blk->Option R)->Option R
 wj:List Nat:=[]
inductive Co where
 |row (p:List Nat) (e:Nat) (t:Ty) (Ai:Bool)
 |AA (t:Ty)
 |aC (ks:List Nat)
structure SH where
 Ap:List Nat
 mv:List Nat:=[]
 Rj:List (Nat×Bool×Ty):=[]
 B6:List (Nat×Bool×Co):=[]
 wid:List (Nat×List Nat):=[]
 post:List (Nat×Bool×Co):=[]
 mvp:List (Nat×List Nat):=[]
 Wa:Bool:=false
inductive Fi where
 |co (k:Nat) (c:Co)|mv (k:Nat) (p:List Nat)|AH (j:Nat)|mvs (s:Nat) (p:List Nat)
structure FI where
 Ai:Bool:=false
 take:List Nat:=[]
 AfN:List (Nat×Nat):=[]
 A9:List (Nat×SH):=[]
 BQ:List (Nat×SH):=[]
 BP:List (Nat×SH):=[]
 Yl:List (Nat×SH):=[]
 D2:List (Nat×List Nat):=[]
 AzC:List (Nat×List (Nat×List (List Nat)×Co)):=[]
 TH:List Fi:=[]
 ZW:List (Nat×List Nat):=[]
 fA:List (Nat×Ty):=[]
 Axu:List Nat:=[]
 Rj:List (Nat×Ty):=[]
 dT:List (Nat×Co):=[]
 stl:List Nat:=[]
structure Bd where
 A7:sZ
 fns:Nat->Option Callee
 fi:FI
def jR:Value->AV
 |.int k n=>.int k n
 |.bool b=>.bool b
 |.string s=>.str s
 |.slice none 0 0=>.zs
 |.pointer none=>.Lw
 |_=>.un 0
def St.B5(σ:St):Operand->AV
 |.tmp t=>(σ.AJ[t]?).getD (.un 0)
 |.const v=>jR v
 |.func f=>.fn f .nil
 |_=>.un 0
def AV.XZ:AV->AV
 |.R1 _ _ _ _ _=>.un 1
 |.TR _ _ _ _ _ _=>.un 1
 |.pr a b=>.pr a.XZ b.XZ
 |.fn f c=>.fn f c.XZ
 |.cons a b=>.cons a.XZ b.XZ
 |a=>a
def Blk.XZ:Blk->Blk
 |.box a=>.box a.XZ
 |b=>b
def AV.Zo:AV->Bool
 |.R1 _ _ _ _ _=>true
 |.TR _ _ _ _ _ _=>true
 |.pr a b=>a.Zo||b.Zo
 |.fn _ c=>c.Zo
 |.cons a b=>a.Zo||b.Zo
 |_=>false
def Blk.Zo:Blk->Bool
 |.box a=>a.Zo
 |_=>false
def Blk.Gg(bs:List Blk):List Nat->List Blk
 |[]=>bs
 |k::r=>Blk.Gg (bs.set k .AH) r
def Sk(Bw:List Nat)(sl:List AV):List AV:=match Bw with |[]=>sl |m::ms=>sl.map (·.drop λk=>(m::ms).contains k)
def A8(Bw:List Nat)(bs:List Blk):List Blk:=match Bw with |[]=>bs |m::ms=>bs.map (·.drop λk=>(m::ms).contains k)
def fU(Bw:List Nat)(m:RM):Bool:=m.Cf.all λk=>!Bw.contains k
def WX(d:Option Nat)(v:AV)(sl:List AV):List AV:=match d with |some d=>sl.set d v |none=>sl
def St.after(σ:St)(d:Option Nat)(e:G2):St:={AJ:=WX d e.val (Sk e.Bw σ.AJ),Am:=e.Am}
def AV.CZ:AV->Bool
 |.cons _ _=>true
 |.nil=>true
 |_=>false
def AV.Y0:AV->Bool
 |.un _=>false
 |.cons _ _=>false
 |.nil=>false
 |_=>true
def rd(bs:List Blk):(t:Ty)->AV->Option t.V
 |.Au a b,av=>match av with
  |.AA _ t x=>Iw t (.Au a b) x
  |.pr u v=>match rd bs a u,rd bs b v with |some x,some y=>some (x,y)|_,_=>none
  |_=>none
 |.sl t,av=>match av with
  |.AA _ u x=>Iw u (.sl t) x
  |.zs=>some []
  |.Ak k=>match bs[k]? with |some (.row _ _ u xs)=>Iw (.sl u) (.sl t) xs |_=>none
  |_=>none
 |t,av=>match av with |.AA _ u x=>Iw u t x |_=>none
def atB(bs:List Blk)(k:Nat)(i:Int):Option AV:=match bs[k]? with
 |some (.box a)=>some a
 |some (.row _ m t xs)=>some (.AA (XJ (match m with |.Ai=>[k]|.sh ks=>ks) t) t (xs.getD i.toNat t.zero))
 |_=>none
def atP(bs:List Blk)(k:Nat)(i:Int)(p:List Nat)(o:Nat):Option AV:=match atB bs k i with
 |some a=>if a.wK p=some o then a.TJ p else none
 |none=>none
def AV.P4:AV->List Nat
 |.Ak k=>[k]
 |.pr a b=>a.P4++b.P4
 |_=>[]
def AV.aC:AV->List Nat
 |.AA ks _ _=>ks
 |.pr a b=>a.aC++b.aC
 |_=>[]
def AV.VR:AV->Bool
 |.AA _ t _=>t.BD
 |.zs=>true
 |.Ak _=>true
 |.pr a b=>a.VR&&b.VR
 |_=>false
def Ty.row(t:Ty):Bool:=t.data&&t.size !=0
def YM(bs:List Blk)(k:Nat):Option RM:=match bs[k]? with |some (.row _ m _ _)=>some m |_=>none
def AV.RY(bs:List Blk):AV->List Nat
 |.AA ks _ _=>ks
 |.Ak k=>k::(match YM bs k with |some m=>m.Cf |none=>[])
 |.pr a b=>a.RY bs++b.RY bs
 |_=>[]
def nodup:List Nat->Bool
 |[]=>true
 |k::r=>!r.contains k&&nodup r
def take(bs:List Blk)(m:RM)(t:Ty)(v:AV):Option (t.V×RM×List Nat) :=
 match rd bs t v with
 |none=>none
 |some y =>
  let rs:=v.P4
  match m with
  |.Ai=>if v.VR&&nodup rs&&rs.all (λk=>match YM bs k with |some .Ai=>true |_=>false)then some (y,.Ai,rs)else none
  |.sh ks=>if nodup rs&&rs.all (λk=>(YM bs k).isSome)then
      some (y,.sh (ks++v.aC++rs.flatMap (λk=>match YM bs k with |some (.sh l)=>l |_=>[])),rs)else none
def AlH{A:Type}:(t:Ty)->t.V->Nat->(∀u:Ty,u.V->Option A)->Option A
 |.Au a _,x,0,f=>f a x.1
 |.Au _ b,x,n+1,f=>AlH b x.2 n f
 |_,_,_,_=>none
def cX(u:Ty):(p:List Nat)->(t:Ty)->t.V->Option u.V
 |[],t,x=>Iw t u x
 |f::p,t,x=>AlH t x f (λt' x'=>cX u p t' x')
def Ty.D5:Ty->Bool
 |.int _=>true
 |.str=>true
 |.Au (.int _) (.Au (.int _) .unit)=>true
 |_=>false
def Ia(s t:ByteArray):Bool:=s.toList==t.toList
def Ba:(t:Ty)->t.V->t.V->Bool
 |.int _,x,y=>x==y
 |.str,x,y=>Ia x y
 |.Au a b,x,y=>Ba a x.1 y.1&&Ba b x.2 y.2
 |.unit,_,_=>true
 |_,_,_=>false
def O2:(t:Ty)->t.V->t.V->Bool
 |.int _,x,y=>x==y
 |.bool,x,y=>x==y
 |.str,x,y=>Ia x y
 |.Au a b,x,y=>O2 a x.1 y.1&&O2 b x.2 y.2
 |.unit,_,_=>true
 |_,_,_=>false
def Ni(kt vt:Ty):List (kt.V×vt.V)->kt.V->Option vt.V
 |[],_=>none
 |x::r,k=>bif Ba kt k x.1 then some x.2 else Ni kt vt r k
def Bh(kt vt:Ty)(es:List (kt.V×vt.V))(k:kt.V):vt.V:=(Ni kt vt es k).getD vt.zero
def Ry(kt vt:Ty)(es:List (kt.V×vt.V))(k:kt.V):Bool:=(Ni kt vt es k).isSome
def TP(kt vt:Ty):List (kt.V×vt.V)->kt.V->Nat
 |[],_=>0
 |x::r,k=>bif Ba kt k x.1 then 0 else TP kt vt r k+1
def Vp(kt vt:Ty)(es:List (kt.V×vt.V))(k:kt.V):Int:=Int.ofNat (TP kt vt es k)
def T8(kt vt:Ty)(es:List (kt.V×vt.V))(k:kt.V)(n:Int):Bool:=n==Vp kt vt es k&&Ry kt vt es k
def BS(kt vt:Ty):List (kt.V×vt.V)->kt.V->vt.V->List (kt.V×vt.V)
 |[],k,v=>[(k,v)]
 |x::r,k,v=>bif Ba kt k x.1 then(k,v)::r else x::BS kt vt r k v
def FI.mode(fi:FI)(t:Ty):RM:=if t.BD||fi.Ai then .Ai else .sh []
def RA(k:IntKind)(x y:Int):Int:=x.fdiv (2^(min y.toNat k.bits))
def Nl(k:IntKind)(x y:Int):Int:=k.wrap (x*2^(min y.toNat k.bits))
def fp(k:IntKind)(x y:Int):Int:=k.wrap (BitVec.ofInt k.bits x &&& BitVec.ofInt k.bits y).toNat
def aO(k:IntKind)(x y:Int):Int:=k.wrap (BitVec.ofInt k.bits x ||| BitVec.ofInt k.bits y).toNat
def AmR(k:IntKind)(x y:Int):Int:=k.wrap (BitVec.ofInt k.bits x ^^^ BitVec.ofInt k.bits y).toNat
def s9(k:IntKind)(x y:Int):Int:=k.wrap (BitVec.ofInt k.bits x &&& ~~~ BitVec.ofInt k.bits y).toNat
def strLt(s t:ByteArray):Bool:=Op.bytesLess s.toList t.toList
def CB(s:ByteArray)(i:Int):Int:=((s[i.toNat]?).getD 0).toNat
section
variable {R:Type}
def jF(op:BinOp)(tb:Bool):AV->AV->(AV->Option R)->Option R
 |.AA _ (.int k) x,.AA _ (.int k') y,K =>
  match op with
  |.shl=>if y<0 then none else K (.int k (Nl k x y))
  |.shr=>if y<0 then none else K (.int k (RA k x y))
  |op=>if k=k' then match op with
   |.add=>K (.int k (k.wrap (x+y)))
   |.sub=>K (.int k (k.wrap (x-y)))
   |.mul=>K (.int k (k.wrap (x*y)))
   |.quo=>if y=0 then none else K (.int k (k.wrap (x.tdiv y)))
   |.rem=>if y=0 then none else K (.int k (x.tmod y))
   |.and=>K (.int k (fp k x y))
   |.or=>K (.int k (aO k x y))
   |.xor=>K (.int k (AmR k x y))
   |.andNot=>K (.int k (s9 k x y))
   |.eql=>K (.bool (x==y))
   |.neq=>K (.bool (x !=y))
   |.lss=>K (.bool (decide (x<y)))
   |.leq=>K (.bool (decide (x<=y)))
   |.gtr=>K (.bool (decide (x>y)))
   |.geq=>K (.bool (decide (x>=y)))
   |_=>none
   else none
 |.AA _ .str x,.AA _ .str y,K =>
  match op with
  |.add=>if x.size+y.size<=9223372036854775807 then K (.str (x++y))else none
  |.eql=>K (.bool (Ia x y))
  |.neq=>K (.bool (!Ia x y))
  |.lss=>K (.bool (strLt x y))
  |.leq=>K (.bool (strLt x y||Ia x y))
  |.gtr=>K (.bool (!(strLt x y||Ia x y)))
  |.geq=>K (.bool (!strLt x y))
  |_=>none
 |.AA _ .bool x,.AA _ .bool y,K=>if tb then
  match op with
  |.eql=>K (.bool (x==y))
  |.neq=>K (.bool (!(x==y)))
  |_=>none
  else none
 |_,_,_=>none
def unA(op:UnOp):AV->(AV->Option R)->Option R
 |.AA _ .bool b,K=>match op with |.not=>K (.bool (!b))|_=>none
 |.AA _ (.int k) n,K=>match op with
  |.neg=>K (.int k (k.wrap (0-n)))
  |.xor=>K (.int k (AmR k (if k.signed then -1 else k.max) n))
  |_=>none
 |_,_=>none
def kF(bs:List Blk)(ti:TI):AV->(AV->Option R)->Option R
 |.AA _ (.sl _) xs,K=>if ti.D4 then K (.int .i64 (xs.length:Int))else none
 |.AA _ .str s,K=>if ti.ty=.str then K (.int .i64 (s.size:Int))else none
 |.zs,K=>if ti.D4 then K (.int .i64 0)else none
 |.Ak k,K=>match bs[k]? with |some (.row _ _ _ xs)=>if ti.D4 then K (.int .i64 (xs.length:Int))else none |_=>none
 |_,_=>none
def xG(mx:Bool):AV->AV->(AV->Option R)->Option R
 |.AA _ (.int k) x,.AA _ (.int k') y,K=>if k=k' then K (.int k (if mx then(if y>x then y else x)else(if y<x then y else x)))else none
 |_,_,_=>none
def rI(bs:List Blk)(te:Ty):AV->AV->(AV->Option R)->Option R
 |.AA ks (.sl t) xs,.AA _ (.int _) i,K=>if t=te then if 0<=i/\i<(xs.length:Int)then K (.Eh ks t (xs.getD i.toNat t.zero))else none else none
 |.Ak k,.AA _ (.int _) i,K=>match bs[k]? with
  |some (.row _ _ t xs)=>if t=te then if 0<=i/\i<(xs.length:Int)then K (.ptr k i [] 0)else none else none
  |some (.Qk _ t xs _ _)=>if t=te then if 0<=i/\i<(xs.length:Int)then K (.ptr k i [] 0)else none else none
  |_=>none
 |_,_,_=>none
def oA(bs:List Blk)(te:Ty):AV->AV->(AV->Option R)->Option R
 |.R1 k i0 p f _,.AA _ (.int _) j,K=>match bs[k]? with
  |some (.row _ .Ai tr xs)=>match cX (.sl te) p tr (xs.getD i0.toNat tr.zero),Re (.sl te) [] p tr (xs.getD i0.toNat tr.zero)with
   |some ys,some _=>if te.size≠0/\KO tr p=some f then if 0<=j/\j<(ys.length:Int)then K (.TR k i0 p f j te)else none else none
   |_,_=>none
  |_=>none
 |x,y,K=>rI bs te x y K
def jK:AV->AV->(AV->Option R)->Option R
 |.AA _ .str s,.AA _ (.int _) i,K=>if 0<=i/\i<(s.size:Int)then K (.int .u8 (CB s i))else none
 |_,_,_=>none
def fz(ti:TI)(f:Nat):AV->(AV->Option R)->Option R
 |.ptr k i p o,K=>match ti.Uo[f]? with |some fo=>K (.ptr k i (p++[f]) (o+fo))|none=>none
 |.Eh ks t x,K=>if t=ti.ty/\R3 t f=ti.Uo[f]? then match Ud ks t x f with |some (.AA _ u y)=>K (.Eh ks u y)|_=>none else none
 |_,_=>none
def W8(bs:List Blk)(ti:TI):AV->(AV->Option R)->Option R
 |.Eh ks t x,K=>if t=ti.ty then K (.AA (XJ ks t) t x)else none
 |.ptr k i p o,K=>match atP bs k i p o with
  |some v=>if v.size=ti.ty.size/\v.isAgg=ti.ty.isAgg then K v else none
  |none=>none
 |_,_=>none
def ZN(bs:List Blk)(ti:TI):AV->AV->(G2->Option R)->Option R
 |.ptr k i p o,v,K=>match bs[k]? with
  |some (.box a)=>match a.TJ p,a.XS p v with
   |some fW,some a'=>if v.Y0/\a.wK p=some o/\fW.size=v.size/\v.size=ti.ty.size/\v.isAgg=ti.ty.isAgg/\a'.Cf.contains k=false then K ⟨.un 0,(A8 [k] bs).set k (.box a'),[k]⟩else none
   |_,_=>none
  |some (.row e m t xs)=>match take bs m ti.ty v with
   |some (y,m',rs) =>
    if KO t p=some o/\tyP t p=some ti.ty/\fU (k::rs) m'/\rs.contains k=false then match Re ti.ty y p t (xs.getD i.toNat t.zero)with
     |some x'=>K ⟨.un 0,(Blk.Gg (A8 (k::rs) bs) rs).set k (.row e m' t (xs.set i.toNat x')),k::rs⟩
     |none=>none
    else none
   |none=>none
  |some (.Qk e t xs i' p')=>match v with
   |.Ak j=>match bs[j]? with
    |some (.row _ .Ai u ys)=>match Re (.sl u) [] p t (xs.getD i.toNat t.zero),Re (.sl u) ys p t (xs.getD i.toNat t.zero)with
     |some x0,some x'=>if ti.ty=.sl u/\KO t p=some o/\tyP t p=some (.sl u)/\p'=p/\j≠k then
         if i'=i then K ⟨.un 0,(Blk.Gg (A8 [k,j] ((A8 [k] bs).set k (.row e .Ai t (xs.set i.toNat x0)))) [j]).set k (.row e .Ai t (xs.set i.toNat x')),[k,j]⟩else none
      else none
     |_,_=>none
    |_=>none
   |_=>none
  |_=>none
 |_,_,_=>none
def XU(bs:List Blk)(ti:TI):AV->(G2->Option R)->Option R
 |.ptr k i p o,K=>match bs[k]? with
  |some (.row e .Ai t xs)=>match tyP t p with
   |some (.sl u)=>match cX (.sl u) p t (xs.getD i.toNat t.zero),Re (.sl u) [] p t (xs.getD i.toNat t.zero)with
    |some ys,some _=>if ti.ty=.sl u/\KO t p=some o/\u.size≠0 then
        K ⟨.Ak bs.length,(A8 [k] bs).set k (.Qk e t xs i p)++[.row 0 .Ai u ys],[k]⟩else none
    |_,_=>none
   |_=>none
  |_=>none
 |_,_=>none
def VJ(ti:TI):AV->List (Nat×AV)->Option AV
 |a,[]=>some a
 |a,(f,v)::r=>match a.Xy f with
  |some fW=>if fW.size=v.size/\v.Y0=true/\a.off f=ti.Uo[f]?/\(eN ti.ty f).map Ty.size=some v.size then match a.Rz f v with |some a'=>VJ ti a' r |none=>none else none
  |none=>none
def Qu(bs:List Blk)(t:Ty):RM->List t.V->List Nat->List (Nat×AV)->Option (RM×List t.V×List Nat)
 |m,xs,rs,[]=>some (m,xs,rs)
 |m,xs,rs,(i,v)::r=>match take bs m t v with
  |some (y,m',l)=>if i<xs.length then Qu bs t m' (xs.set i y) (rs++l) r else none
  |none=>none
def lr(bs:List Blk)(t:Ty):AV->Option (List t.V×RM×List Nat)
 |.zs=>some ([],.Ai,[])
 |.AA ks (.sl u) ys=>match Iw (.sl u) (.sl t) ys with |some l=>some (l,if t.BD then .Ai else .sh ks,[])|none=>none
 |.AA _ .str s=>match Iw (.sl (.int .u8)) (.sl t) (s.data.toList.map λb=>(b.toNat:Int))with |some l=>some (l,.Ai,[])|none=>none
 |.Ak j=>match bs[j]? with
  |some (.row _ m u ys)=>match Iw (.sl u) (.sl t) ys with |some l=>some (l,if t.BD then .Ai else m,if t.BD then[]else[j])|none=>none
  |_=>none
 |_=>none
def ux:RM->RM->Option RM
 |.Ai,.Ai=>some .Ai
 |.sh a,.sh b=>some (.sh (a++b))
 |.sh a,.Ai=>some (.sh a)
 |.Ai,.sh _=>none
def Wn(fi:FI)(bs:List Blk)(e:Nat)(ti:TI):AV->AV->(G2->Option R)->Option R
 |.zs,y,K=>if(ti.ty.row&&ti.bytes !=0)=false then none else match lr bs ti.ty y with
  |some (ys,m,rs)=>match ux (match m with |.Ai=>fi.mode ti.ty |m=>m) m with
   |some m'=>if fU rs m' then if ys.length*ti.bytes<=140737488355328 then K ⟨.Ak bs.length,Blk.Gg (A8 rs bs) rs++[.row e m' ti.ty ys],rs⟩else none else none
   |none=>none
  |none=>none
 |.Ak k,y,K=>if(ti.ty.row&&ti.bytes !=0)=false then none else match bs[k]?,lr bs ti.ty y with
  |some (.row e' m t xs),some (ys,m2,rs)=>match Iw (.sl t) (.sl ti.ty) xs,ux m m2 with
   |some xs,some m'=>if(e=e'/\e≠0\/e'=0)/\rs.contains k=false/\fU (k::rs) m' then
       if(xs.length+ys.length)*ti.bytes<=140737488355328 then K ⟨.Ak bs.length,Blk.Gg (A8 (k::rs) bs) (k::rs)++[.row e' m' ti.ty (xs++ys)],k::rs⟩else none
    else none
   |_,_=>none
  |_,_=>none
 |_,_,_=>none
def Ty.isInt:Ty->Bool
 |.int _=>true
 |_=>false
def Wo(fi:FI)(bs:List Blk)(e:Nat)(ti:TI):AV->AV->(G2->Option R)->Option R
 |.zs,.AA _ (.int _) l,K=>if ti.ty.row=true/\ti.bytes≠0 then if 0<=l/\l*(ti.bytes:Int)<=140737488355328 then K ⟨.Ak bs.length,bs++[.row e (fi.mode ti.ty) ti.ty (List.replicate l.toNat ti.ty.zero)],[]⟩else none else none
 |_,_,_=>none
def iA(fi:FI)(bs:List Blk)(e:Nat)(ti:TI):AV->AV->(G2->Option R)->Option R
 |.AA _ (.int _) l,.AA _ (.int _) c,K=>if ti.ty.row/\0<=l/\l<=c/\(ti.bytes:Int)*c<=281474976710656/\c<=9223372036854775807 then
     K ⟨.Ak bs.length,bs++[.row e (fi.mode ti.ty) ti.ty (List.replicate l.toNat ti.ty.zero)],[]⟩else none
 |_,_,_=>none
def bnd:Option AV->Int->Option Int
 |none,d=>some d
 |some (.AA _ (.int _) i),_=>some i
 |_,_=>none
def UO(bs:List Blk)(ti:TI)(te:Option Ty)(x:AV)(lo hi mx:Option AV)(K:AV->Option R):Option R :=
 match mx with
 |some (.AA _ (.int _) m)=>match lo,hi with
  |none,some (.AA _ (.int _) h)=>if h=0/\m=0/\te.isSome then match x with
   |.AA _ (.sl _) _=>K .zs
   |.zs=>K .zs
   |.Ak k=>match bs[k]? with |some (.row _ _ _ _)=>K .zs |_=>none
   |_=>none
   else none
  |_,_=>none
 |some _=>none
 |none=>match x with
  |.AA _ .str s=>match bnd lo 0,bnd hi (s.size:Int)with
   |some l,some h=>if ti.ty=.str/\0<=l/\l<=h/\h<=(s.size:Int)then K (.str (s.extract l.toNat h.toNat))else none
   |_,_=>none
  |.AA ks (.sl t) xs=>match bnd lo 0,bnd hi (xs.length:Int)with
   |some l,some h=>if te=some t then if 0<=l/\l<=h/\h<=(xs.length:Int)then K (.AA ks (.sl t) ((xs.take h.toNat).drop l.toNat))else none else none
   |_,_=>none
  |.Ak k=>match bs[k]? with
   |some (.row _ m t xs)=>match bnd lo 0,bnd hi (xs.length:Int)with
    |some l,some h=>if te=some t then if 0<=l/\l<=h/\h<=(xs.length:Int)then K (.AA (k::m.Cf) (.sl t) ((xs.take h.toNat).drop l.toNat))else none else none
    |_,_=>none
   |_=>none
  |.zs=>match bnd lo 0,bnd hi 0 with
   |some l,some h=>if te.isSome/\l=0/\h=0 then K .zs else none
   |_,_=>none
  |_=>none
def vz(te:Ty)(bs:List Blk)(x:AV)(hi:Option AV)(K:G2->Option R):Option R :=
 match x,hi with
 |.Ak k,some (.AA _ (.int _) h)=>match bs[k]? with
  |some (.row e m t xs)=>if fU [k] m/\t=te then if 0<=h/\h<=(xs.length:Int)then K ⟨.Ak bs.length,Blk.Gg (A8 [k] bs) [k]++[.row e m t (xs.take h.toNat)],[k]⟩else none else none
  |_=>none
 |_,_=>none
def bytesOf(xs:List Int):ByteArray:=⟨(xs.map λn=>UInt8.ofNat n.toNat).toArray⟩
def Yg(bs:List Blk)(te:Option Ty)(td:Ty)(a:AV)(K:AV->Option R):Option R :=
 match td with
 |.int k=>match a with |.AA _ (.int _) n=>K (.int k (k.wrap n))|_=>none
 |.str=>match a with
  |.AA _ .str s=>K (.str s)
  |a=>if te=some (.int .u8)then match rd bs (.sl (.int .u8)) a with |some xs=>K (.str (bytesOf xs))|none=>none else none
 |_=>none
def RM.own(k:Nat):RM->List Nat
 |.Ai=>[k]
 |.sh ks=>ks
def af(bs:List Blk)(tk te:TI)(ok:Bool)(m x:AV)(K:AV->Option R):Option R :=
 match m with
 |.mp k=>match bs[k]? with
  |some (.map md kt vt es none)=>match rd bs kt x with
   |some key=>if kt=tk.ty/\vt=te.ty/\kt.D5=true then
       (bif ok then K (.cons (.AA (XJ (md.own k) vt) vt (Bh kt vt es key)) (.cons (.bool (Ry kt vt es key)) .nil))
        else K (.AA (XJ (md.own k) vt) vt (Bh kt vt es key)))else none
   |none=>none
  |_=>none
 |_=>none
def iy(bs:List Blk)(tk te:TI)(m x:AV)(K:G2->Option R):Option R :=
 match m with
 |.mp k=>match bs[k]? with
  |some (.map .Ai kt (.sl u) es none)=>match rd bs kt x with
   |some key=>if kt=tk.ty/\.sl u=te.ty/\kt.D5=true/\u.size≠0 then
       K ⟨.Ak bs.length,(A8 [k] bs).set k (.map .Ai kt (.sl u) es (some key))++[.row 0 .Ai u (Bh kt (.sl u) es key)],[k]⟩else none
   |none=>none
  |_=>none
 |_=>none
def YU(bs:List Blk)(tk te:TI)(m x v:AV)(K:G2->Option R):Option R :=
 match m with
 |.mp k=>match bs[k]? with
  |some (.map md kt vt es st)=>match rd bs kt x,take bs md vt v with
   |some key,some (y,m',rs)=>if kt=tk.ty/\vt=te.ty/\kt.D5=true/\fU (k::rs) m'/\rs.contains k=false then
       match st with
       |none=>K ⟨.un 0,(Blk.Gg (A8 (k::rs) bs) rs).set k (.map m' kt vt (BS kt vt es key y) none),k::rs⟩
       |some k0=>bif Ba kt k0 key then K ⟨.un 0,(Blk.Gg (A8 (k::rs) bs) rs).set k (.map m' kt vt (BS kt vt es key y) none),k::rs⟩else none
    else none
   |_,_=>none
  |_=>none
 |_=>none
def vD(bs:List Blk)(tk te:TI)(m x:AV)(K:G2->Option R):Option R :=
 match m with
 |.mp k=>match bs[k]? with
  |some (.map .Ai kt (.sl u) es none)=>match rd bs kt x with
   |some key=>if kt=tk.ty/\Ty.sl u=te.ty/\kt.D5=true/\u.size≠0 then
       K ⟨.cons (.Ak bs.length) (.cons (.int .i64 (Vp kt (.sl u) es key)) .nil),(A8 [k] bs).set k (.map .Ai kt (.sl u) (BS kt (.sl u) es key (Bh kt (.sl u) es key)) (some key))++[.row 0 .Ai u (Bh kt (.sl u) es key)],[k]⟩else none
   |none=>none
  |_=>none
 |_=>none
def vE(bs:List Blk)(tk te:TI)(m j v:AV)(K:G2->Option R):Option R :=
 match m with
 |.mp k=>match bs[k]? with
  |some (.map _ kt vt es (some key))=>match rd bs (.int .i64) j with
   |some n=>if kt=tk.ty/\kt.D5=true then(bif T8 kt vt es key n then YU bs tk te m (.AA [] kt key) v K else none)else none
   |none=>none
  |_=>none
 |_=>none
def Ov:AV->Nat->Option AV
 |.cons a _,0=>some a
 |.cons _ b,n+1=>Ov b n
 |_,_=>none
end
def aM(l:List Nat):List Nat->List Nat
 |[]=>l
 |k::r=>if l.contains k then aM l r else aM (l++[k]) r
def iV(bs:List Blk):Nat->List Nat->List Nat
 |0,l=>l
 |f+1,l=>iV bs f (aM l (l.flatMap λk=>match bs[k]? with |some b=>b.Cf |none=>[]))
def idxOf(l:List Nat)(k:Nat):Nat:=match l with
 |[]=>0
 |x::r=>if x==k then 0 else idxOf r k+1
def AV.TG(Kr:List Nat):AV->AV
 |.AA ks t x=>.AA (if t.BD then ks else ks++Kr) t x
 |.Eh ks t x=>.Eh (ks++Kr) t x
 |.pr a b=>.pr (a.TG Kr) (b.TG Kr)
 |.fn g c=>.fn g (c.TG Kr)
 |.cons a b=>.cons (a.TG Kr) (b.TG Kr)
 |a=>a
def RM.TG(Kr:List Nat):RM->RM
 |.Ai=>.Ai
 |.sh ks=>.sh (ks++Kr)
def Blk.TG(Kr:List Nat):Blk->Blk
 |.box a=>.box (a.TG Kr)
 |.row e m t xs=>.row e (m.TG Kr) t xs
 |.map m kt vt es st=>.map (m.TG Kr) kt vt es st
 |.Qk e t xs i p=>.Qk e t xs i p
 |.tail e t xs=>.tail e t xs
 |.AH=>.AH
def qU(bs:List Blk):PM->AV->Option (AV×List Nat)
 |.d t,v=>match rd bs t v with |some x=>some (.AA [] t x,v.RY bs)|none=>none
 |.p t,.Eh ks u x=>match Iw u t x with |some y=>some (.Eh [] t y,ks)|none=>none
 |.p t,.ptr k i p o=>match atP bs k i p o with
  |some a=>match rd bs t a with |some x=>some (.Eh [] t x,k::a.RY bs)|none=>none
  |none=>none
 |.p _,_=>none
 |.Vu,v=>some (v,[])
def yQ:PM->AV->List Nat
 |.Vu,v=>v.Cf
 |_,_=>[]
def bX(bs:List Blk):List PM->List AV->Option (List AV×List Nat×List Nat)
 |[],[]=>some ([],[],[])
 |m::ms,v::vs=>match qU bs m v,bX bs ms vs with
  |some (a,l),some (fq,ls,rs)=>some (a::fq,l++ls,yQ m v++rs)
  |_,_=>none
 |_,_=>none
def VH(n:Nat)(π:List Nat)(j:Nat):Nat:=match π[j]? with |some k=>k |none=>n+(j-π.length)
def Pn(bs:List Blk):List Nat->List Blk->List Blk
 |k::ks,b::r=>Pn (bs.set k b) ks r
 |_,_=>bs
section
variable {R:Type}
def VK(c:Callee)(bs:List Blk)(args:List AV)(K:G2->Option R):Option R :=
 match bX bs c.iG args with
 |none=>none
 |some (fq,Kr,Xc) =>
  let π:=iV bs bs.length (aM [] Xc)
  let n:=bs.length
  let W4:=π.filter λk=>c.wj.contains (idxOf π k)
  let π1:=π.filter λk=>!W4.contains k
  if Kr.all (λk=>!π.contains k&&decide (k<n))&&nodup π&&Xc.all (λk=>π.contains k)&&π.all (λk=>match bs[k]? with |some b=>b.Cf.all (λj=>π.contains j)&&(W4.contains k||b.Q3.all (λj=>!W4.contains j))|none=>false)&&(fq.all λa=>a.Q3.all λj=>!W4.contains j)&&(π.isEmpty||!π1.isEmpty)then
   c.run R (fq.map (·.M3 (idxOf π))) (π.map λk=>bif W4.contains k then .AH else((bs[k]?).getD .AH).M3 (idxOf π)) λav E =>
    let f:=VH n π
    if π.length<=E.length then
     K ⟨(av.M3 f).TG Kr,Pn (A8 π1 bs) π (List.zipWith (λk b=>bif W4.contains k then((A8 π1 bs)[k]?).getD .AH else(b.M3 f).TG Kr) π E)++(E.drop π.length).map (λb=>(b.M3 f).TG Kr),π1⟩
    else none
  else none
def AV.Oi:AV->Option (Nat×Int×List Nat×Nat)
 |.R1 k i p o _=>some (k,i,p,o)
 |.pr a b=>match a.Oi with |some z=>some z |none=>b.Oi
 |_=>none
def AV.XL(n:Nat):AV->AV
 |.R1 _ _ _ _ _=>.Ak n
 |.pr a b=>match a.Oi with |some _=>.pr (a.XL n) b |none=>.pr a (b.XL n)
 |a=>a
def oU:Nat->List AV->Option (Nat×AV×Nat×Int×List Nat×Nat)
 |_,[]=>none
 |j,a::r=>match a.Oi with |some (k,i,p,o)=>some (j,a,k,i,p,o)|none=>oU (j+1) r
def Ty.Axj:Ty->Bool
 |.sl _=>true
 |_=>false
def dL(k:Nat)(i:Int)(p:List Nat)(e:Nat):(t:Ty)->t.V->Nat->Nat->Option AV
 |.unit,_,_,_=>some .u
 |.Au a b,x,f,o=>match dL k i p e b x.2 (f+1) (o+a.size)with
  |some r=>if a.Axj then some (.pr (.R1 k i (p++[f]) o e) r)else if a.BD then some (.pr (.AA [] a x.1) r)else none
  |none=>none
 |_,_,_,_=>none
def cq(c:Callee)(bs:List Blk)(args:List AV)(K:G2->Option R):Option R :=
 match oU 0 args with
 |none=>VK c bs args K
 |some (j,a0,k,i,p,o)=>match bs[k]? with
  |some (.row ek .Ai t xs)=>match tyP t p with
   |some (.sl u)=>match cX (.sl u) p t (xs.getD i.toNat t.zero)with
    |some ys =>
     if KO t p=some o/\u.size≠0/\((args.set j (a0.XL bs.length)).all λa=>!a.Cf.contains k)=true then
      VK c ((A8 [k] bs).set k .AH++[.row 0 .Ai u ys]) (args.set j (a0.XL bs.length)) λe =>
       if e.Bw.contains k then none else
       match e.Am[bs.length]? with
       |some (.row _ .Ai u' zs)=>match Iw (.sl u') (.sl u) zs with
        |some zs=>match Re (.sl u) zs p t (xs.getD i.toNat t.zero)with
         |some x'=>K ⟨e.val.drop (λq=>[k,bs.length].contains q),((A8 [k,bs.length] e.Am).set bs.length .AH).set k (.row ek .Ai t (xs.set i.toNat x')),e.Bw++[k]⟩
         |none=>none
        |none=>none
       |_=>none
     else none
    |none=>none
   |_=>none
  |_=>none
def tF:AV->List AV
 |.cons a b=>a::tF b
 |_=>[]
def Oj(σ:St)(xs:Array Operand):List AV:=xs.toList.map σ.B5
def Uz:List AV->AV
 |[]=>.nil
 |a::r=>.cons (if a.CZ then .un 0 else a) (Uz r)
def Ub(en:Bd)(σ:St)(c:Call)(K:G2->Option R):Option R :=
 match c.callee with
 |.builtin .len=>match Oj σ c.args,c.argTypes.toList with
  |[x],t::_=>match en.A7.get t with |some ti=>kF σ.Am ti x λv=>K ⟨v,σ.Am,[]⟩|none=>none
  |_,_=>none
 |.builtin .min=>match Oj σ c.args with |[x,y]=>xG false x y λv=>K ⟨v,σ.Am,[]⟩|_=>none
 |.builtin .max=>match Oj σ c.args with |[x,y]=>xG true x y λv=>K ⟨v,σ.Am,[]⟩|_=>none
 |.builtin .append=>match Oj σ c.args,c.argTypes.toList with
  |[x,y],[t,tx]=>match en.A7.get t,en.A7.get tx with
   |some ti,some ZP=>match en.A7.get ti.elem with
    |some te=>if ti.D4&&(ZP.D4||ZP.ty==.str)then Wn en.fi σ.Am ti.elem te x y K else if ti.D4&&ZP.ty.isInt then Wo en.fi σ.Am ti.elem te x y K else none
    |none=>none
   |_,_=>none
  |_,_=>none
 |.builtin _=>none
 |.value f=>match σ.B5 f with
  |.fn g WW=>match en.fns g with
   |some ca=>cq ca σ.Am (Oj σ c.args++tF WW) K
   |none=>none
  |_=>none
 |.invoke _ _=>none
def eqS(bs:List Blk)(A7:sZ)(op:BinOp)(t:Nat)(x y:AV):Option AV:=match A7.get t with
 |some ti=>if ti.eqs=true then(match op with
  |.eql=>match rd bs ti.ty x,rd bs ti.ty y with |some u,some v=>some (.bool (O2 ti.ty u v))|_,_=>none
  |.neq=>match rd bs ti.ty x,rd bs ti.ty y with |some u,some v=>some (.bool (!O2 ti.ty u v))|_,_=>none
  |_=>none)else none
 |none=>none
def AaO(en:Bd)(o:Oper):Bool:=match o.dst with |some d=>en.fi.stl.contains d |none=>false
def XH(A7:sZ)(tk:TI):Bool:=match tk.ty with
 |.Au (.int q) _=>tk.Gs==2&&(match A7.get tk.elem with |some te=>te.ty==.int q&&tk.ty==.Au (.int q) (.Au (.int q) .unit)|none=>false)
 |_=>true
def P8(en:Bd)(σ:St)(o:Oper)(K:G2->Option R):Option R :=
 let ρ:=σ.B5
 let bs:=σ.Am
 let pure:=λv=>K ⟨v,bs,[]⟩
 match o.op with
 |.move x=>pure (ρ x)
 |.assign x=>pure (ρ x)
 |.pick c a b=>match ρ c with |.AA _ .bool t=>bif t then pure (ρ a)else pure (ρ b)|_=>none
 |.alloc e=>match en.A7.get e with
  |some ti=>K ⟨.ptr bs.length 0 [] 0,bs++[.box ti.ty.Xi],[]⟩
  |none=>none
 |.box _ x=>if(ρ x).Y0 then K ⟨.ptr bs.length 0 [] 0,bs++[.box (ρ x)],[]⟩else none
 |.build t FC=>match en.A7.get t with
  |some ti=>if ti.Uo.isEmpty then none else match VJ ti ti.ty.Xi (FC.toList.map λp=>(p.1,ρ p.2))with |some v=>pure v |none=>none
  |none=>none
 |.buildSlice t len FC=>match en.A7.get t with
  |some ti=>match en.A7.get ti.elem with
   |some te=>match Qu bs te.ty (en.fi.mode te.ty) (List.replicate len te.ty.zero) [] (FC.toList.map λp=>(p.1,ρ p.2))with
    |some (m,xs,rs)=>if ti.D4&&te.ty.row&&fU rs m&&nodup rs&&len*te.ty.size<=16777216 then(if len=0 then K ⟨.zs,bs,[]⟩else K ⟨.Ak bs.length,Blk.Gg (A8 rs bs) rs++[.row ti.elem m te.ty xs],rs⟩)else none
    |none=>none
   |none=>none
  |none=>none
 |.load t x=>match en.A7.get t with
  |some ti=>if AaO en o=true then(if ti.D4 then XU bs ti (ρ x) K else none)else W8 bs ti (ρ x) pure
  |none=>none
 |.makeMap t r=>match en.A7.get t with
  |some ti=>if r.isSome then none else match en.A7.get ti.Nj,en.A7.get ti.elem with
   |some tk,some te=>if ti.Nj≠0/\tk.ty.D5=true/\te.ty.data=true then K ⟨.mp bs.length,bs++[.map (en.fi.mode te.ty) tk.ty te.ty [] none],[]⟩else none
   |_,_=>none
  |none=>none
 |.lookup t m x ok=>match en.A7.get t with
  |some ti=>match en.A7.get ti.Nj,en.A7.get ti.elem with
   |some tk,some te=>if ti.Nj≠0/\te.ty.data=true/\XH en.A7 tk=true then
       (if AaO en o=true then(if ok then none else iy bs tk te (ρ m) (ρ x) K)else af bs tk te ok (ρ m) (ρ x) pure)else none
   |_,_=>none
  |none=>none
 |.mapUpdate t m x v=>match en.A7.get t with
  |some ti=>match en.A7.get ti.Nj,en.A7.get ti.elem with
   |some tk,some te=>if ti.Nj≠0/\te.ty.data=true/\XH en.A7 tk=true then YU bs tk te (ρ m) (ρ x) (ρ v) K else none
   |_,_=>none
  |none=>none
 |.insert t m x v=>match en.A7.get t with
  |some ti=>match en.A7.get ti.Nj,en.A7.get ti.elem with
   |some tk,some te=>if ti.Nj≠0/\te.ty.data=true/\XH en.A7 tk=true then YU bs tk te (ρ m) (ρ x) (ρ v) K else none
   |_,_=>none
  |none=>none
 |.mapEntry t m x=>match en.A7.get t with
  |some ti=>match en.A7.get ti.Nj,en.A7.get ti.elem with
   |some tk,some te=>if ti.Nj≠0/\XH en.A7 tk=true then vD bs tk te (ρ m) (ρ x) K else none
   |_,_=>none
  |none=>none
 |.entryStore t m j v=>match en.A7.get t with
  |some ti=>match en.A7.get ti.Nj,en.A7.get ti.elem with
   |some tk,some te=>if ti.Nj≠0/\XH en.A7 tk=true then vE bs tk te (ρ m) (ρ j) (ρ v) K else none
   |_,_=>none
  |none=>none
 |.store t x v=>match en.A7.get t with |some ti=>ZN bs ti (ρ x) (ρ v) K |none=>none
 |.nilCheck x=>match ρ x with
  |.ptr k i p q=>pure (.ptr k i p q)
  |.Eh ks t y=>pure (.Eh ks t y)
  |_=>none
 |.binOp op t x y _=>match eqS bs en.A7 op t (ρ x) (ρ y)with |some z=>pure z |none=>jF op (match en.A7.get t with |some ti=>ti.ty==.bool |none=>false) (ρ x) (ρ y) pure
 |.unOp op _ x=>unA op (ρ x) pure
 |.convert s t x=>match en.A7.get s,en.A7.get t with
  |some ts,some ti=>Yg bs (match en.A7.get ts.elem with |some te=>if ts.D4 then some te.ty else none |none=>none) ti.ty (ρ x) pure
  |_,_=>none
 |.makeFunc fn first WW=>match fn with |.func f=>if first.size=0 then pure (.fn f (Uz (WW.toList.map ρ)))else none |_=>none
 |.makeSlice t l c=>match en.A7.get t with
  |some ti=>match en.A7.get ti.elem with
   |some te=>if ti.D4 then iA en.fi bs ti.elem te (ρ l) (ρ c) K else none
   |none=>none
  |none=>none
 |.slice t x lo hi mx=>match o.dst,en.A7.get t with
  |some d,some ti =>
   if en.fi.take.contains d then(match lo,mx with
    |none,none=>if ti.D4 then(match en.A7.get ti.elem with |some te=>vz te.ty bs (ρ x) (hi.map ρ) K |none=>none)else none
    |_,_=>none)
   else UO bs ti (match en.A7.get ti.elem with |some te=>if ti.D4 then some te.ty else none |none=>none) (ρ x) (lo.map ρ) (hi.map ρ) (mx.map ρ) pure
  |_,_=>none
 |.fieldAddr t x f=>match en.A7.get t with |some ti=>fz ti f (ρ x) pure |none=>none
 |.indexAddr t x i=>match en.A7.get t with
  |some ti=>match en.A7.get ti.elem with
   |some te=>if ti.D4 then oA bs te.ty (ρ x) (ρ i) pure else none
   |none=>none
  |none=>none
 |.index t x i=>match en.A7.get t with |some ti=>if ti.ty=.str then jK (ρ x) (ρ i) pure else none |none=>none
 |.extract x i=>match Ov (ρ x) i with |some v=>if v.CZ then none else pure v |none=>none
 |.call c=>Ub en σ c K
 |_=>none
def Az.{u}{A:Type u}:List (Nat×A)->Nat->Option A
 |[],_=>none
 |(k,l)::r,n=>if k==n then some l else Az r n
def Afe(n:Nat)(t:Ty)(e:G2):Option G2:=match rd e.Am t e.val with
 |some x=>if e.Am.all (λb=>!b.Zo)then some ⟨.AA ((e.val.RY e.Am).filter λk=>decide (k<n)) t x,Blk.Gg e.Am ((e.val.RY e.Am).filter λk=>!decide (k<n)),e.Bw⟩else none
 |none=>none
def uL(n:Nat)(e:G2):Option G2:=match e.val with
 |.Ak k=>if n<=k then match e.Am[k]? with
  |some (.row el .Ai t xs)=>some ⟨.Ak k,e.Am.set k (bif t.BD then .tail el t xs else .row el (.sh []) t xs),e.Bw⟩
  |_=>none
  else none
 |_=>none
def cJ(en:Bd)(o:Oper):Bool:=match o.dst with |some d=>en.fi.Axu.contains d |none=>false
def AzE(en:Bd)(o:Oper):Option Ty:=match o.dst with |some d=>Az en.fi.fA d |none=>none
def mz(u:Ty):Nat->Ty
 |0=>.unit
 |n+1=>.Au u (mz u n)
def TI.plc(ti te:TI):TI:=⟨ti.ty,(List.range ti.Gs).map (·*te.ty.size),ti.elem,ti.bytes,ti.Gs,ti.Nj,ti.eqs⟩
def bZ(en:Bd)(σ:St)(o:Oper):Option AV:=match o.op with
 |.load t x=>match o.dst with
  |none=>none
  |some d=>match Az en.fi.AfN d,en.A7.get t,σ.B5 x with
   |some e,some ti,.ptr k i p f=>match σ.Am[k]?,atP σ.Am k i p f with
    |some (.row _ .Ai _ _),some v=>if ti.D4=true/\v.size=1 then some (.R1 k i p f e)else(match v with
     |.AA _ t x=>if t=ti.ty then dL k i p e t x 0 f else none
     |_=>none)
    |_,_=>none
   |_,_,_=>none
 |.build t FC=>match en.A7.get t with
  |some ti=>if ti.Gs=0 then none else match en.A7.get ti.elem with
   |some te=>if ti.ty=mz te.ty ti.Gs then VJ (ti.plc te) ti.ty.Xi (FC.toList.map λp=>(p.1,σ.B5 p.2))else none
   |none=>none
  |none=>none
 |.index t x i=>match en.A7.get t with
  |some ti=>if ti.Gs=0 then none else match en.A7.get ti.elem with
   |some te=>match σ.B5 i,σ.B5 x with
    |.AA _ (.int _) j,a=>if 0<=j/\j<(ti.Gs:Int)/\a.off j.toNat=some (j.toNat*te.ty.size)/\a.isAgg=true/\a.CZ=false then match a.Xy j.toNat with
     |some v=>if v.size=te.ty.size/\v.isAgg=te.ty.isAgg then some v else none
     |none=>none
     else none
    |_,_=>none
   |none=>none
  |none=>none
 |.field t x f=>match en.A7.get t with
  |some ti=>match ti.Uo[f]?,eN ti.ty f,(σ.B5 x).Xy f with
   |some fo,some u,some v=>if(σ.B5 x).off f=some fo/\(σ.B5 x).isAgg=true/\(σ.B5 x).CZ=false/\v.size=u.size/\v.isAgg=u.isAgg then some v else none
   |_,_,_=>none
  |none=>none
 |.call c=>match c.callee,Oj σ c.args,c.argTypes.toList with
  |.builtin .cap,[.zs],t::_=>match en.A7.get t with |some ti=>if ti.D4=true then some (.int .i64 0)else none |none=>none
  |_,_,_=>none
 |.indexAddr t x i=>match en.A7.get t with
  |some ti=>if ti.Gs=0 then none else match en.A7.get ti.elem with
   |some te=>match σ.B5 i with
    |.AA _ (.int _) j=>if 0<=j/\j<(ti.Gs:Int)then match σ.B5 x with
     |.ptr k q p f=>some (.ptr k q (p++[j.toNat]) (f+j.toNat*te.ty.size))
     |.Eh ks t' y=>if R3 t' j.toNat=some (j.toNat*te.ty.size)then match Ud ks t' y j.toNat with |some (.AA _ u z)=>some (.Eh ks u z)|_=>none else none
     |_=>none
     else none
    |_=>none
   |none=>none
  |none=>none
 |_=>none
def vy(bs:List Blk):Co->AV->Option (AV×List Blk)
 |.row p e t Ai,a=>match a.TJ p with
  |some .zs=>if t.row then match a.XS p (.Ak bs.length)with |some a'=>some (a',[.row e (if t.BD||Ai then .Ai else .sh []) t []])|none=>none else none
  |_=>some (a,[])
 |.AA t,a=>match rd bs t a with |some x=>some (.AA (a.RY bs) t x,[])|none=>none
 |.aC ks,a=>match a with
  |.AA l t x=>if(t.BD||l.all λk=>ks.contains k)&&ks.all (λk=>decide (k<bs.length))then some (.AA ks t x,[])else none
  |_=>none
def coB(k:Nat)(c:Co)(bs:List Blk):Option (List Blk):=match bs[k]? with
 |some (.box a)=>match vy bs c a with |some (a',nb)=>some (bs.set k (.box a')++nb)|none=>none
 |_=>none
def jZ:List (Nat×Co)->List Blk->Option (List Blk)
 |[],bs=>some bs
 |(k,c)::r,bs=>match coB k c bs with |some Gt=>jZ r Gt |none=>none
def AgA(bs:List Blk):Nat->List (List Nat)->Option Nat
 |k,[]=>some k
 |k,q::r=>match bs[k]? with
  |some (.box a)=>match a.TJ q with |some (.ptr k' _ _ _)=>AgA bs k' r |_=>none
  |_=>none
def preB:List (Nat×List (List Nat)×Co)->List AV->List Blk->Option (List Blk)
 |[],_,bs=>some bs
 |(j,q,c)::r,args,bs=>match args[j]? with
  |some (.ptr k _ _ _)=>match AgA bs k q with
   |some k'=>match coB k' c bs with |some Gt=>preB r args Gt |none=>none
   |none=>none
  |_=>none
def sC(bs:List Blk)(ti:TI)(k:Nat)(i:Int)(p:List Nat)(o:Nat)(j:Int)(u:Ty)(v:AV):Option G2:=match bs[k]? with
 |some (.row ek .Ai t xs)=>match cX (.sl u) p t (xs.getD i.toNat t.zero)with
  |some ys=>match take ((A8 [k] bs).set k .AH++[.row 0 .Ai u ys]) .Ai ti.ty v with
   |some (y,.Ai,[])=>match Re ti.ty y [] u (ys.getD j.toNat u.zero)with
    |some y'=>match Re (.sl u) (ys.set j.toNat y') p t (xs.getD i.toNat t.zero)with
     |some x'=>if tyP t p=some (.sl u)/\KO t p=some o/\u.size≠0/\tyP u []=some ti.ty/\KO u []=some 0/\v.Cf.contains k=false then
         some ⟨.un 0,((A8 [k,bs.length] ((Blk.Gg (A8 [bs.length] ((A8 [k] bs).set k .AH++[.row 0 .Ai u ys])) []).set bs.length (.row 0 .Ai u (ys.set j.toNat y')))).set bs.length .AH).set k (.row ek .Ai t (xs.set i.toNat x')),[bs.length]++[k]⟩
      else none
     |none=>none
    |none=>none
   |_=>none
  |none=>none
 |_=>none
def wJ(en:Bd)(σ:St)(o:Oper):Option G2:=match o.op with
 |.store t x v=>match en.A7.get t,σ.B5 x with
  |some ti,.TR k i p f j u=>sC σ.Am ti k i p f j u (σ.B5 v)
  |_,_=>none
 |_=>none
def pe(en:Bd)(σ:St)(o:Oper):Option G2:=wJ en σ o
def tlE(en:Bd)(σ:St)(o:Oper):Option (Bool×G2):=match o.op with
 |.slice t x (some lo) none none=>match en.A7.get t,σ.B5 x,σ.B5 lo with
  |some ti,.Ak k,.AA _ (.int _) l=>match σ.Am[k]?,en.A7.get ti.elem with
   |some (.tail e u xs),some te=>if ti.D4=true/\u=te.ty then some (decide (0<=l)&&decide (l<=(xs.length:Int)),⟨.Ak σ.Am.length,Blk.Gg (A8 [k] σ.Am) [k]++[.tail e u (xs.drop l.toNat)],[k]⟩)else none
   |_,_=>none
  |_,_,_=>none
 |.indexAddr t x i=>match en.A7.get t,σ.B5 x,σ.B5 i with
  |some ti,.Ak k,.AA _ (.int _) l=>match σ.Am[k]?,en.A7.get ti.elem with
   |some (.tail _ u xs),some te=>if ti.D4=true/\u=te.ty then some (decide (0<=l)&&decide (l<(xs.length:Int)),⟨.Eh [k] u (xs.getD l.toNat u.zero),σ.Am,[]⟩)else none
   |_,_=>none
  |_,_,_=>none
 |.call c=>match c.callee,Oj σ c.args,c.argTypes.toList with
  |.builtin .len,[.Ak k],[t]=>match σ.Am[k]?,en.A7.get t with
   |some (.tail _ _ xs),some ti=>if ti.D4=true then some (true,⟨.int .i64 (xs.length:Int),σ.Am,[]⟩)else none
   |_,_=>none
  |.builtin .append,[.Ak k,y],[t,tx]=>match σ.Am[k]?,en.A7.get t,en.A7.get tx with
   |some (.tail e u xs),some ti,some ZP=>match en.A7.get ti.elem with
    |some te=>match Iw (.sl u) (.sl te.ty) xs,lr σ.Am te.ty y with
     |some xs,some (ys,_,rs)=>if ti.D4=true/\ZP.D4=true/\te.ty.row=true/\te.bytes≠0/\(e=ti.elem\/e=0)/\rs.contains k=false then
         some (decide ((xs.length+ys.length)*te.bytes<=140737488355328),⟨.Ak σ.Am.length,Blk.Gg (A8 (k::rs) σ.Am) (k::rs)++[.tail e te.ty (xs++ys)],k::rs⟩)else none
     |_,_=>none
    |none=>none
   |_,_,_=>none
  |_,_,_=>none
 |_=>none
def Tk(en:Bd)(σ:St)(o:Oper)(K:G2->Option R):Option R:=match bZ en σ o with
 |some v=>K ⟨v,σ.Am,[]⟩
 |none=>match pe en σ o with
 |some e=>K e
 |none=>match tlE en σ o with
 |some (c,e)=>bif c then K e else none
 |none=>match AzE en o with
 |none=>bif cJ en o then P8 en σ o λe=>match uL σ.Am.length e with |some e'=>K e' |none=>none else P8 en σ o K
 |some t=>P8 en σ o λe=>match Afe σ.Am.length t e with |some e'=>K e' |none=>none
def exec(en:Bd)(σ:St)(o:Oper)(K:G2->Option R):Option R:=match o.op,o.dst with
 |.call c,some d=>match Az en.fi.AzC d with
  |some l=>match preB l (Oj σ c.args) σ.Am with
   |some bs=>Tk en ⟨σ.AJ,bs⟩ o λe=>if e.Bw.isEmpty then none else K e
   |none=>none
  |none=>Tk en σ o K
 |_,_=>Tk en σ o K
def UD(all:List Oper)(σ:St)(o:Oper)(Kt Kf:St->Option R):Option R :=
 match o.guard with
 |none=>Kt σ
 |some (g,aQ) =>
  match (all[g]?).bind (·.dst)with
  |none=>none
  |some d=>match σ.AJ[d]? with
   |some (.AA [] .bool b) =>
    bif b then
     (if aQ then Kt {σ with AJ:=σ.AJ.set d (.bool true)}else Kf {σ with AJ:=σ.AJ.set d (.bool true)})
    else
     (if aQ then Kf {σ with AJ:=σ.AJ.set d (.bool false)}else Kt {σ with AJ:=σ.AJ.set d (.bool false)})
   |some .nil=>Kf σ
   |_=>none
def St.skip(σ:St)(d:Option Nat):St:={σ with AJ:=WX d .nil σ.AJ}
def P7(en:Bd)(all:List Oper):List Nat->St->(St->Option R)->Option R
 |[],σ,K=>K σ
 |i::is,σ,K =>
  match all[i]? with
  |none=>none
  |some o=>UD all σ o (λσ=>exec en σ o λe=>P7 en all is (σ.after o.dst e) K) (λσ=>P7 en all is (σ.skip o.dst) K)
def DV:List (Nat×List Nat)->Nat->List Nat
 |[],_=>[]
 |(k,l)::r,i=>if k==i then l else DV r i
def Sj(all:List Oper)(i:Nat):List Nat:=match all[i]? with
 |some o=>o.after.toList.filterMap λe=>if Region.binds .any e then some e.on else none
 |none=>[]
def VF(all:List Oper):List Nat->List (Nat×List Nat)->List (Nat×List Nat)
 |[],A=>A
 |i::is,A=>VF all is ((i,aM [] (Sj all i++(Sj all i).flatMap (DV A)))::A)
def YE(all:List Oper)(A:List (Nat×List Nat)):List Nat->Bool
 |[]=>true
 |i::is=>is.all (λj=>(DV A j).contains i||match all[i]?,all[j]? with |some x,some y=>x.apart all.toArray y |_,_=>false)&&YE all A is
def Sm(en:Bd)(all:List Oper)(A:List (Nat×List Nat)):List Nat->List Nat->List Nat->St->(St->Option R)->Option R
 |[],_,_,σ,K=>K σ
 |i::is,done,M5,σ,K =>
  match all[i]? with
  |none=>none
  |some o=>if M5.all (λx=>(DV A i).contains x)then
      UD all σ o (λσ=>exec en σ o λe =>
       if e.Bw.isEmpty then Sm en all A is (i::done) (if e.Am.length=σ.Am.length then M5 else i::M5) (σ.after o.dst e) K
       else if done.all (λx=>(DV A i).contains x)then Sm en all A is (i::done) (i::M5) (σ.after o.dst e) K else none)
      (λσ=>Sm en all A is (i::done) M5 (σ.skip o.dst) K)
   else none
inductive Ex where
 |normal |exit (n:Nat)|ret
inductive To {S T:Type} (f:S->Option (S⊕T)):S->T->Prop
 |done {s:S} {t:T} (h:f s=some (.inr t)):To f s t
 |ZC {s s':S} {t:T} (h:f s=some (.inl s')) (k:To f s' t):To f s t
open Classical in
noncomputable def fix{S T:Type}(f:S->Option (S⊕T))(s:S):Option T:=if h:∃t,To f s t then some h.choose else none
def key:Code->Nat
 |.region i _ _=>i
 |.seq a _=>key a
 |.block _ a=>key a
 |.loop a=>key a
 |.cond _ a _=>key a
 |_=>0
def Qb(Ap:List Nat):Nat->List AV->List AV
 |_,[]=>[]
 |i,a::r=>(if Ap.contains i then a else .un 0)::Qb Ap (i+1) r
def coS(σ:St)(s:Nat)(box:Bool)(c:Co):Option St :=
 match σ.AJ[s]? with
 |none=>none
 |some v=>bif box then
     (match v with
      |.ptr k _ _ _=>match σ.Am[k]? with
       |some (.box a)=>match vy σ.Am c a with |some (a',nb)=>some ⟨σ.AJ,σ.Am.set k (.box a')++nb⟩|none=>none
       |_=>none
      |_=>none)
  else match vy σ.Am c v with |some (v',nb)=>some ⟨σ.AJ.set s v',σ.Am++nb⟩|none=>none
def Ye:List (Nat×Bool×Co)->St->Option St
 |[],σ=>some σ
 |(s,b,c)::r,σ=>match coS σ s b c with |some σ'=>Ye r σ' |none=>none
def Aa5(m:Nat)(t:Ty)(v:AV)(bs:List Blk):Option (AV×List Blk):=match rd bs t v with
 |some x=>some (.AA ((v.RY bs).filter λk=>decide (k<m)) t x,(Blk.Gg bs ((v.RY bs).filter λk=>!decide (k<m))).map Blk.XZ)
 |none=>none
def kg(m:Nat):List (Nat×Bool×Ty)->St->Option St
 |[],σ=>some σ
 |(s,false,t)::r,σ=>match σ.AJ[s]? with
  |some (.un _)=>kg m r σ
  |some v=>match Aa5 m t v σ.Am with
   |some (v',bs)=>kg m r ⟨(σ.AJ.map AV.XZ).set s v',bs⟩
   |none=>none
  |none=>none
 |(s,true,t)::r,σ=>match σ.AJ[s]? with
  |some (.ptr k _ _ _)=>match σ.Am[k]? with
   |some (.box a)=>match Aa5 m t a σ.Am with
    |some (a',bs)=>match bs[k]? with
     |some (.box _)=>kg m r ⟨σ.AJ.map AV.XZ,bs.set k (.box a')⟩
     |_=>none
    |none=>none
   |_=>none
  |_=>kg m r σ
def mvS(m:Nat):List Nat->St->Option St
 |[],σ=>some σ
 |s::r,σ=>match σ.AJ[s]? with
  |some (.Ak k)=>if k<m then match σ.Am[k]? with
      |some (.row e md t xs)=>if md.Cf.contains k then none else mvS m r ⟨(Sk [k] σ.AJ).set s (.Ak σ.Am.length),Blk.Gg (A8 [k] σ.Am) [k]++[.row e md t xs]⟩
      |_=>none
   else mvS m r σ
  |_=>mvS m r σ
def mvB(m k:Nat)(p:List Nat)(σ:St):Option St:=match σ.Am[k]? with
 |some (.box a)=>match a.TJ p with
  |some (.Ak j)=>if j<m then match σ.Am[j]? with
      |some (.row e md t xs)=>if md.Cf.contains j then none else match (a.drop λq=>[j].contains q).TJ p,(a.drop λq=>[j].contains q).XS p (.Ak σ.Am.length)with
       |some (.Ak j'),some a2=>if j'=j/\k≠j then some ⟨Sk [j] σ.AJ,(Blk.Gg (A8 [j] σ.Am) [j]++[Blk.row e md t xs]).set k (Blk.box a2)⟩else none
       |_,_=>none
      |_=>none
   else some σ
  |_=>none
 |_=>none
def mvV(m s:Nat)(p:List Nat)(a:AV)(σ:St):Option St:=match a.TJ p with
 |some (.Ak j)=>if j<m then match σ.Am[j]? with
     |some (.row e md t xs)=>if md.Cf.contains j then none else match (a.drop λq=>[j].contains q).TJ p,(a.drop λq=>[j].contains q).XS p (.Ak σ.Am.length)with
      |some (.Ak j'),some a2=>if j'=j then some ⟨(Sk [j] σ.AJ).set s a2,Blk.Gg (A8 [j] σ.Am) [j]++[Blk.row e md t xs]⟩else none
      |_,_=>none
     |_=>none
  else some σ
 |_=>none
def mvP(m s:Nat)(p:List Nat)(σ:St):Option St:=match σ.AJ[s]? with
 |some (.ptr k _ _ _)=>mvB m k p σ
 |some a=>mvV m s p a σ
 |none=>none
def Ace(m:Nat):List (Nat×List Nat)->St->Option St
 |[],σ=>some σ
 |(s,p)::r,σ=>match mvP m s p σ with |some σ'=>Ace m r σ' |none=>none
def AV.wid(ks:List Nat):AV->AV
 |.AA l t x=>if t.BD=false/\l.all (λj=>ks.contains j)=true then .AA ks t x else .AA l t x
 |.pr a b=>.pr (a.wid ks) (b.wid ks)
 |a=>a
def lK:List (Nat×List Nat)->List Blk->Option (List Blk)
 |[],bs=>some bs
 |(k,ks)::r,bs=>match bs[k]? with
  |some (.row e (.sh l) t xs)=>if l.all (λj=>ks.contains j)&&ks.all (λj=>decide (j<bs.length))then lK r (bs.set k (.row e (.sh ks) t xs))else none
  |some (.box a)=>if ks.all (λj=>decide (j<bs.length))then lK r (bs.set k (.box (a.wid ks)))else none
  |_=>none
def wM(bs:List Blk)(m:Nat)(π Cf:List Nat):Bool :=
 π.take m==List.range m&&nodup π&&Cf.all (λj=>π.contains j)&&π.all λk=>match bs[k]? with |some b=>b.Cf.all λj=>π.contains j |none=>false
def St.Av(m:Nat)(Ap:List Nat)(σ:St):Option St :=
 let sl:=Qb Ap 0 σ.AJ
 let π:=iV σ.Am σ.Am.length (aM (List.range m) (sl.flatMap (·.Cf)))
 if wM σ.Am m π (sl.flatMap (·.Cf))then
  some {AJ:=sl.map (λa=>(a.M3 (idxOf π)).DW π.length),Am:=π.map λk=>(((σ.Am[k]?).getD .AH).M3 (idxOf π)).DW π.length}
 else none
def turns(en:Bd)(o:Oper):Bool:=match o.op with
 |.alloc _=>true
 |.box _ _=>true
 |.buildSlice _ _ _=>true
 |.store _ _ _=>true
 |.makeSlice _ _ _=>true
 |.makeMap _ _=>true
 |.mapUpdate _ _ _ _=>true
 |.insert _ _ _ _=>true
 |.mapEntry _ _ _=>true
 |.entryStore _ _ _ _=>true
 |.load _ _=>match o.dst with |some d=>en.fi.stl.contains d |none=>false
 |.lookup _ _ _ _=>match o.dst with |some d=>en.fi.stl.contains d |none=>false
 |.slice _ _ _ _ _=>match o.dst with |some d=>en.fi.take.contains d |none=>false
 |.call c=>match c.callee with |.builtin .append=>true |.builtin _=>false |_=>true
 |_=>false
def Ae8(all:List Oper)(done:List Nat)(i:Nat):Bool:=(Sj all i).all λx=>done.contains x
def UL(en:Bd)(all:List Oper):Nat->List Nat->List Nat
 |0,done=>done.reverse
 |f+1,done =>
  let rdy:=(List.range all.length).filter λi=>!done.contains i&&Ae8 all done i
  match rdy.find? (λi=>match all[i]? with |some o=>!turns en o |none=>false)with
  |some i=>UL en all f (i::done)
  |none=>match rdy with
   |i::_=>UL en all f (i::done)
   |[]=>done.reverse
def eK(all:List Oper):List Nat->List Nat->Bool
 |[],_=>true
 |i::is,done=>(Sj all i).all (λd=>done.contains d)&&eK all is (i::done)
def yO(all:List Oper)(L:List Nat):Bool:=nodup L&&(List.range all.length).all (λi=>L.contains i)&&L.all (λi=>decide (i<all.length))&&YE all (VF all L []) L&&eK all L []
end
def St.head(h:SH)(m:Nat)(σ:St):Option St :=
 match ((mvS m h.mv σ).bind (Ace m h.mvp)).bind (kg m h.Rj)with
 |none=>none
 |some σ=>match Ye h.B6 σ with
  |none=>none
  |some σ=>match σ.Av m h.Ap with
   |none=>none
   |some σ=>match lK h.wid σ.Am with
    |none=>none
    |some bs=>Ye h.post ⟨σ.AJ,bs⟩
def Ae9(m:Nat)(σ:St):Option (List Nat)->Option St
 |none=>some σ
 |some l=>σ.head {Ap:=l} m
open Classical in
noncomputable def Sl(s t:St):Option Unit:=if s=t then some ()else none
def uI(o:Oper):Bool:=match o.op with
 |.move _=>true
 |.assign _=>true
 |.extract _ _=>true
 |.fieldAddr _ _ _=>true
 |.indexAddr _ _ _=>true
 |.build _ _=>true
 |_=>false
def Ag4(BW:Array Oper)(listed:Array Bool):Option Nat:=(Region.ready .any BW listed).find? λi=>(match BW[i]? with |some o=>uI o |none=>false)&&Region.free .any BW listed i
def nL:List (Option Unit)->Option Unit
 |[]=>some ()
 |[x]=>x
 |x::y::r=>x.bind λ_=>nL (y::r)
noncomputable def vi(en:Bd)(h:SH)(m:Nat)(BW:Array Oper)(σ':St):Nat->Array Bool->St->Option Unit
 |0,listed,σ=>if(Region.ready .any BW listed).isEmpty then match σ.head h m with |some s=>Sl s σ' |none=>none else none
 |k+1,listed,σ=>match Ag4 BW listed with
  |some i=>P7 en BW.toList [i] σ λσ1=>vi en h m BW σ' k (listed.setIfInBounds i true) σ1
  |none=>if(Region.ready .any BW listed).isEmpty then none else
  nL ((Region.ready .any BW listed).map λi=>P7 en BW.toList [i] σ λσ1=>vi en h m BW σ' k (listed.setIfInBounds i true) σ1)
def rY(P6:List Blk)(σ:St)(o:Oper):Bool:=uI o||match o.op with
 |.load _ x=>(match σ.B5 x with |.ptr k _ _ _=>(match P6[k]?,σ.Am[k]? with |some (.box _),some (.box _)=>true |_,_=>false)|_=>false)
 |.call c=>(match c.callee,Oj σ c.args with |.builtin .len,[.AA _ (.sl _) _]=>true |.builtin .len,[.zs]=>true |_,_=>false)
 |.binOp op _ x y _=>(match op with |.add=>true |.sub=>true |_=>false)&&(match σ.B5 x,σ.B5 y with |.AA _ (.int k) _,.AA _ (.int k') _=>decide (k=k')|_,_=>false)
 |_=>false
def Ag3(P6:List Blk)(σ:St)(BW:Array Oper)(listed:Array Bool):Option Nat:=(Region.ready .any BW listed).find? λi=>(match BW[i]? with |some o=>rY P6 σ o |none=>false)&&Region.free .any BW listed i
def nbx(P6:List Blk)(k:Nat):Bool:=match P6[k]? with |some (.box _)=>false |_=>true
def evQ{R:Type}(en:Bd)(all:List Oper)(P6:List Blk)(i:Nat)(σ:St)(K:St->Option R):Option R:=match all[i]? with
 |none=>none
 |some o=>UD all σ o (λσ=>exec en σ o λe=>if e.Bw.all (nbx P6)then K (σ.after o.dst e)else none) (λσ=>K (σ.skip o.dst))
noncomputable def qR(en:Bd)(h:SH)(m:Nat)(P6:List Blk)(BW:Array Oper)(σ':St):Nat->Array Bool->St->Option Unit
 |0,listed,σ=>if(Region.ready .any BW listed).isEmpty then match σ.head h m with |some s=>Sl s σ' |none=>none else none
 |k+1,listed,σ=>match Ag3 P6 σ BW listed with
  |some i=>evQ en BW.toList P6 i σ λσ1=>qR en h m P6 BW σ' k (listed.setIfInBounds i true) σ1
  |none=>if(Region.ready .any BW listed).isEmpty then none else
  nL ((Region.ready .any BW listed).map λi=>evQ en BW.toList P6 i σ λσ1=>qR en h m P6 BW σ' k (listed.setIfInBounds i true) σ1)
noncomputable def AfV(en:Bd)(m:Nat)(h:SH)(BW:Array Oper)(σ:St):Option St :=
 if Region.noSelect BW=false then none else P7 en BW.toList (List.range BW.size) σ λs=>(s.head h m).bind λσ'=>(bif h.Wa then qR en h m σ.Am BW σ' BW.size (Array.replicate BW.size false) σ else vi en h m BW σ' BW.size (Array.replicate BW.size false) σ).bind λ_=>some σ'
noncomputable def ev(en:Bd)(m:Nat):Code->(R:Type)->St->(Ex->St->Option R)->Option R
 |.skip,_,σ,K=>K .normal σ
 |.ret,_,σ,K=>K .ret σ
 |.exit n,_,σ,K=>K (.exit n) σ
 |.seq a b,R,σ,K=>match Az en.fi.BP (key b)with
  |none=>ev en m a R σ λe σ=>match e with
   |.normal=>ev en m b R σ K
   |.exit n=>K (.exit n) σ
   |.ret=>K .ret σ
  |some h=>(Ae9 m σ (Az en.fi.D2 (key b))).bind λσ=>(ev en m a (Ex×St) σ λe σ=>(σ.head h m).bind λσ'=>some (e,σ')).bind λp=>match p.1 with
   |.normal=>ev en m b R p.2 K
   |.exit n=>K (.exit n) p.2
   |.ret=>K .ret p.2
 |.cond c a b,R,σ,K=>match σ.B5 c with |.AA _ .bool t=>bif t then ev en m a R σ K else ev en m b R σ K |_=>none
 |.block n a,R,σ,K=>ev en m a R σ λe σ=>match e with
  |.normal=>K .normal σ
  |.exit k=>bif k==n then K .normal σ else K (.exit k) σ
  |.ret=>K .ret σ
 |.region _ BW false,_,σ,K=>P7 en BW.toList (List.range BW.size) σ (K .normal)
 |.region id BW true,_,σ,K=>match Az en.fi.Yl id with
  |some h=>(Ae9 m σ (Az en.fi.ZW id)).bind λσ=>(AfV en m h BW σ).bind (K .normal)
  |none=>if yO BW.toList (UL en BW.toList BW.toList.length [])then Sm en BW.toList (VF BW.toList (UL en BW.toList BW.toList.length []) []) (UL en BW.toList BW.toList.length []) [] [] σ (K .normal)else none
 |.loop body,R,σ,K=>match Az en.fi.A9 (key body),Az en.fi.BQ (key body)with
  |some h,some ho=>match σ.head h m with
   |none=>none
   |some σ0=>(fix (λs=>ev en m body (St⊕(Ex×St)) s λe s'=>match e with
       |.normal=>(s'.head h m).bind λVv=>some (.inl Vv)
       |.exit n=>(s'.head ho m).bind λVv=>some (.inr (.exit n,Vv))
       |.ret=>(s'.head ho m).bind λVv=>some (.inr (.ret,Vv))) σ0).bind λp=>K p.1 p.2
  |_,_=>none
 |_,_,_,_=>none
def ZH(A7:sZ)(σ:St):List ResultVar->Option (List AV)
 |[]=>some []
 |.tmp t::r=>match σ.AJ[t]?,ZH A7 σ r with |some v,some l=>some (v::l)|_,_=>none
 |.cell a t::r=>match A7.get t,σ.AJ[a]? with
  |some ti,some (.ptr k i p o)=>match atP σ.Am k i p o,ZH A7 σ r with
   |some v,some l=>if v.size=ti.ty.size/\v.isAgg=ti.ty.isAgg then some (v::l)else none
   |_,_=>none
  |_,_=>none
def kV:List AV->AV
 |[a]=>a
 |l=>Uz l
def VL:List (Nat×Co)->List AV->List Blk->Option (List AV×List Blk)
 |[],l,bs=>some (l,bs)
 |(i,c)::r,l,bs=>match l[i]? with
  |none=>none
  |some v=>match vy bs c v with |some (v',nb)=>VL r (l.set i v') (bs++nb)|none=>none
def cT(m:Nat):List (Nat×Ty)->List AV->List Blk->Option (List AV×List Blk)
 |[],l,bs=>some (l,bs)
 |(i,t)::r,l,bs=>match l[i]? with
  |none=>none
  |some v=>match Aa5 m t v bs with |some (v',Gt)=>cT m r ((l.map AV.XZ).set i v') Gt |none=>none
def ae(m:Nat)(bs:List Blk)(v:AV):Option (AV×List Blk) :=
 let π:=iV bs bs.length (aM (List.range m) v.Cf)
 if wM bs m π v.Cf then some ((v.M3 (idxOf π)).DW π.length,π.map λk=>(((bs[k]?).getD .AH).M3 (idxOf π)).DW π.length)else none
def VQ(m:Nat):List Fi->St->Option St
 |[],σ=>some σ
 |.co k c::r,σ=>match coB k c σ.Am with |some bs=>VQ m r ⟨σ.AJ,bs⟩|none=>none
 |.AH j::r,σ=>VQ m r ⟨σ.AJ,σ.Am.set j .AH⟩
 |.mvs s p::r,σ=>match mvP m s p σ with |some σ'=>VQ m r σ' |none=>none
 |.mv k p::r,σ=>match mvB m k p σ with |some σ'=>VQ m r σ' |none=>none
noncomputable def AW(en:Bd)(fn:Func)(R:Type)(args:List AV)(E:List Blk)(K:AV->List Blk->Option R):Option R :=
 match fn.body with
 |none=>none
 |some c =>
  if args.length<=fn.ntmps then
   ev en E.length c R ⟨args++List.replicate (fn.ntmps-args.length) (.un 0),E⟩ λe σ=>match e with
    |.exit _=>none
    |_=>match VQ E.length en.fi.TH σ with
     |none=>none
     |some σ=>match ZH en.A7 σ fn.results.toList with
     |some l=>match cT E.length en.fi.Rj l σ.Am with
      |some (l,bs)=>match VL en.fi.dT l bs with
       |some (l',Gt)=>match ae E.length Gt (kV l')with
        |some (v,bs)=>K v bs
        |none=>none
       |none=>none
      |none=>none
     |none=>none
  else none
section
variable {S T X Y:Type}
theorem To.cG{f:S->Option (S⊕T)}{s:S}{t u:T}(h:To f s t)(k:To f s u):t=u:=by
 induction h with
 |done h=>cases k with
  |done k=>rw[h]at k;injection k with k;injection k
  |ZC k _=>rw[h]at k;injection k with k;cases k
 |ZC h _ ih=>cases k with
  |done k=>rw[h]at k;injection k with k;cases k
  |ZC k k'=>rw[h]at k;injection k with k;injection k with k;subst k;exact ih k'
theorem Uc{f:S->Option (S⊕T)}{s:S}{t:T}:fix f s=some t↔To f s t:=by
 unfold fix;constructor
 ·intro h;split at h
  ·rename_i hx;injection h with h;subst h;exact hx.choose_spec
  ·cases h
 ·intro h;rw[dif_pos ⟨t,h⟩];exact congrArg some (To.cG (Exists.choose_spec ⟨t,h⟩) h)
theorem AaZ(f:S->Option (S⊕T))(s:S):fix f s=match f s with |none=>none |some (.inl s')=>fix f s' |some (.inr t)=>some t:=by
 apply Option.ext;intro t;rw[Uc];constructor
 ·intro h;cases h with
  |done h=>rw[h]
  |ZC h k=>rw[h];exact Uc.2 k
 ·intro h;split at h
  ·cases h
  ·rename_i s' hs;exact .ZC hs (Uc.1 h)
  ·rename_i u hs;injection h with h;subst h;exact .done hs
theorem Ix{f:S->Option (S⊕T)}{s:S}{t:T}(h:f s=some (.inr t)):fix f s=some t:=by rw[AaZ,h]
theorem Li{f:S->Option (S⊕T)}{s s':S}(h:f s=some (.inl s')):fix f s=fix f s':=by rw[AaZ,h]
theorem Afa(σ:X->S)(τ:Y->T)(f:S->Option (S⊕T))(g:X->Option (X⊕Y))(h:∀x,f (σ x)=(g x).map (Sum.map σ τ))(x:X) :
    fix f (σ x)=(fix g x).map τ:=by
 apply Option.ext;intro t;rw[Uc];constructor
 ·intro ht;generalize hs:σ x=s at ht;induction ht generalizing x with
  |@done s t hd =>
   subst hs;rw[h]at hd;cases hg:g x with
   |none=>rw[hg]at hd;cases hd
   |some r=>rw[hg]at hd;cases r with
    |inl x'=>cases hd
    |inr y=>injection hd with hd;injection hd with hd;subst hd;rw[Ix hg];rfl
  |@ZC s s' t hd _ ih =>
   subst hs;rw[h]at hd;cases hg:g x with
   |none=>rw[hg]at hd;cases hd
   |some r=>rw[hg]at hd;cases r with
    |inl x'=>injection hd with hd;injection hd with hd;rw[Li hg];exact ih x' hd
    |inr y=>injection hd with hd;cases hd
 ·intro ht;cases hf:fix g x with
  |none=>rw[hf]at ht;cases ht
  |some y =>
   rw[hf]at ht;injection ht with ht;subst ht;have ov:=Uc.1 hf;clear hf;induction ov with
   |done hd=>exact .done (by rw[h,hd];rfl)
   |ZC hd _ ih=>exact .ZC (by rw[h,hd];rfl) ih
end
theorem Ab4{A B:Type}(f:A->B)(c:Bool)(x y:Option A):(bif c then x else y).map f=bif c then x.map f else y.map f:=by cases c<;>rfl
theorem AfL{A B:Type}(f:A->B)(c:Prop)[Decidable c](x y:Option A):(if c then x else y).map f=if c then x.map f else y.map f:=by split<;>rfl
theorem Ab3{A B C:Type}(f:B->C)(x:Option A)(k:A->Option B):(x.bind k).map f=x.bind λy=>(k y).map f:=by cases x<;>rfl
theorem b8{A B C:Type}(f:A->B)(x:Option A)(k:B->Option C):(x.map f).bind k=x.bind λy=>k (f y):=by cases x<;>rfl
def sub:Code->List Nat->Code
 |c,[]=>c
 |.seq a b,n::p=>match n with |0=>sub a p |_=>sub b p
 |.cond _ a b,n::p=>match n with |0=>sub a p |_=>sub b p
 |.block _ a,_::p=>sub a p
 |.loop a,_::p=>sub a p
 |_,_=>.skip
noncomputable def wo(en:Bd)(m:Nat)(R:Type):Code->List Nat->(Ex->St->Option R)->Ex->St->Option R
 |_,[],K=>K
 |.seq a b,n::p,K=>match n with
  |0=>wo en m R a p λe σ=>match e with
   |.normal=>ev en m b R σ K
   |.exit n=>K (.exit n) σ
   |.ret=>K .ret σ
  |_=>wo en m R b p K
 |.cond _ a b,n::p,K=>match n with |0=>wo en m R a p K |_=>wo en m R b p K
 |.block n a,_::p,K=>wo en m R a p λe σ=>match e with
  |.normal=>K .normal σ
  |.exit k=>bif k==n then K .normal σ else K (.exit k) σ
  |.ret=>K .ret σ
 |_,_,_=>λ_ _=>none
noncomputable def Axw(m:Nat)(h ho:SH)(e:Ex)(s':St):Option (St⊕(Ex×St)):=match e with
    |.normal=>(s'.head h m).bind λVv=>some (.inl Vv)
    |.exit n=>(s'.head ho m).bind λVv=>some (.inr (.exit n,Vv))
    |.ret=>(s'.head ho m).bind λVv=>some (.inr (.ret,Vv))
noncomputable def Axk(m:Nat)(h:SH)(e:Ex)(σ:St):Option (Ex×St):=(σ.head h m).bind λσ'=>some (e,σ')
noncomputable def eD(en:Bd)(m:Nat)(h ho:SH)(body:Code)(s:St):Option (St⊕(Ex×St)) :=
 ev en m body (St⊕(Ex×St)) s λe s'=>match e with
  |.normal=>(s'.head h m).bind λVv=>some (.inl Vv)
  |.exit n=>(s'.head ho m).bind λVv=>some (.inr (.exit n,Vv))
  |.ret=>(s'.head ho m).bind λVv=>some (.inr (.ret,Vv))
noncomputable def Axl(en:Bd)(m:Nat)(h:SH)(a:Code)(s:St):Option (Ex×St):=ev en m a (Ex×St) s λe σ=>(σ.head h m).bind λσ'=>some (e,σ')
noncomputable def A4(en:Bd)(fn:Func)(m:Nat)(R:Type)(K:AV->List Blk->Option R)(e:Ex)(σ:St):Option R :=
 match e with
 |.exit _=>none
 |_=>match VQ m en.fi.TH σ with
  |none=>none
  |some σ=>match ZH en.A7 σ fn.results.toList with
  |some l=>match cT m en.fi.Rj l σ.Am with
   |some (l,bs)=>match VL en.fi.dT l bs with
    |some (l',Gt)=>match ae m Gt (kV l')with
     |some (v,bs)=>K v bs
     |none=>none
    |none=>none
   |none=>none
  |none=>none
def mkS:Nat->Nat->List (Nat×AV)->List AV
 |0,_,_=>[]
 |n+1,i,[]=>.un 0::mkS n (i+1) []
 |n+1,i,(j,v)::r=>if i==j then v::mkS n (i+1) r else .un 0::mkS n (i+1) ((j,v)::r)
inductive Sf where
 |no |H8 |BG (k:Nat) (p:List Nat)
structure BI where
 a:Option Addr
 len:Nat
 cap:Nat
 gP:Nat
structure G where
 own:Nat->Sf
 AU:Nat->BI
def Cr{α:Type}(R:α->List Value->Prop):List α->List Value->Prop
 |[],cs=>cs=[]
 |x::xs,cs=>∃c d,cs=c++d/\R x c/\Cr R xs d
def Be{α:Type}(R:Nat->α->List Value->Prop):Nat->List α->List Value->Prop
 |_,[],cs=>cs=[]
 |i,x::xs,cs=>∃c d,cs=c++d/\R i x c/\Be R (i+1) xs d
def G1(w:World)(A:Nat->Prop):(t:Ty)->t.V->List Value->Prop
 |.int k,x,cs=>cs=[.int k x]
 |.bool,b,cs=>cs=[.bool b]
 |.str,s,cs=>cs=[.string s]
 |.unit,_,cs=>cs=[]
 |.Au a b,x,cs=>∃c d,cs=c++d/\G1 w A a x.1 c/\G1 w A b x.2 d
 |.sl t,xs,cs=>∃ad cap ds,cs=[.slice ad xs.length cap]/\xs.length<=cap/\Cr (G1 w A t) xs ds /\
     (xs=[]\/∃b off,ad=some ⟨b,off,none⟩/\A b/\∀j u,ds[j]?=some u->w.cell? ⟨b,off+j,none⟩=some u)
 |.P3 _,_,_=>False
def I7(w:World)(own:Nat->Sf)(k:Nat):(t:Ty)->List Nat->t.V->List Value->Prop
 |.int k',_,x,cs=>cs=[.int k' x]
 |.bool,_,b,cs=>cs=[.bool b]
 |.str,_,s,cs=>cs=[.string s]
 |.unit,_,_,cs=>cs=[]
 |.Au a b,p,x,cs=>∃c d,cs=c++d/\I7 w own k a (0::p) x.1 c/\I7 w own k b (1::p) x.2 d
 |.sl t,p,xs,cs=>∃ad cap,cs=[.slice ad xs.length cap]/\((xs=[]/\cap=0)\/∃b e Bs ds,ad=some ⟨b,0,none⟩/\own b=.BG k p /\
     w.heap[b]?=some (.cells Bs e (0,0))/\xs.length<=cap/\cap<=maxLen/\Bs.size=cap*t.size/\Bs.toList.take (xs.length*t.size)=ds/\Be (λi=>I7 w own k t (i::p)) 0 xs ds)
 |.P3 _,_,_,_=>False
def Al(own:Nat->Sf)(ks:List Nat)(b:Nat):Prop:=own b=.H8\/∃k∈ks,∃p,own b=.BG k p
def AV.MX:AV->Bool
 |.un _=>true
 |_=>false
def Bv(agg:Bool)(cs:List Value)(v:Value):Prop:=bif agg then v=.agg cs.toArray else cs=[v]
def Cq(w:World)(g:G)(n:Nat):Bool->AV->List Value->Prop
 |false,.AA ks t x,cs=>(∀k∈ks,k<n)/\G1 w (Al g.own ks) t x cs
 |false,.zs,cs=>∃ad,cs=[.slice ad 0 0]
 |false,.Ak k,cs=>k<n/\cs=[.slice (g.AU k).a (g.AU k).len (g.AU k).cap]
 |false,.ptr k i _ o,cs=>k<n/\0<=i/\i.toNat<(g.AU k).len/\∃b,(g.AU k).a=some ⟨b,0,none⟩/\cs=[.pointer (some ⟨b,i.toNat*(g.AU k).gP+o,none⟩)]
 |false,.Eh ks t x,cs=>(∀k∈ks,k<n)/\∃b off ds,cs=[.pointer (some ⟨b,off,none⟩)]/\Al g.own ks b/\G1 w (Al g.own ks) t x ds/\∀j u,ds[j]?=some u->w.cell? ⟨b,off+j,none⟩=some u
 |false,.Lw,cs=>cs=[.pointer none]
 |false,.R1 k i _ o _,cs=>k<n/\0<=i/\i.toNat<(g.AU k).len/\∃b v,(g.AU k).a=some ⟨b,0,none⟩/\g.own b=.BG k []/\cs=[v]/\v.oneCell'=true/\w.cell? ⟨b,i.toNat*(g.AU k).gP+o,none⟩=some v
 |false,.TR k i _ o j u,cs=>k<n/\0<=i/\i.toNat<(g.AU k).len/\∃b b' l c,(g.AU k).a=some ⟨b,0,none⟩/\g.own b=.BG k []/\cs=[.pointer (some ⟨b',j.toNat*u.size,none⟩)]/\(0<=j/\j.toNat<l)/\w.cell? ⟨b,i.toNat*(g.AU k).gP+o,none⟩=some (.slice (some ⟨b',0,none⟩) l c)
 |false,.mp k,cs=>k<n/\∃b,(g.AU k).a=some ⟨b,0,none⟩/\cs=[.map (some b)]
 |false,.pr a b,cs=>∃c d,cs=c++d/\Cq w g n false a c/\Cq w g n false b d
 |false,.fn f c,cs=>∃vs,cs=[.func (.func f) #[] vs.toArray]/\Cq w g n true c vs
 |false,.un k,cs=>cs.length=k/\∀v∈cs,v.oneCell'=true
 |true,.cons a b,vs=>∃v r,vs=v::r/\(a.MX=true\/∃cs,Cq w g n false a cs/\Bv a.isAgg cs v)/\Cq w g n true b r
 |true,.nil,vs=>vs=[]
 |_,_,_=>False
def BR(w:World)(g:G)(n:Nat):AV->Value->Prop
 |.cons a b,v=>∃vs,v=.tuple vs.toArray/\Cq w g n true (.cons a b) vs
 |.nil,v=>v=.tuple #[]
 |a,v=>a.MX=true\/∃cs,Cq w g n false a cs/\Bv a.isAgg cs v
def RR(w:World)(own:Nat->Sf)(k:Nat):RM->(t:Ty)->Nat->t.V->List Value->Prop
 |.Ai,t,i,x,cs=>I7 w own k t [i] x cs
 |.sh ks,t,_,x,cs=>G1 w (Al own ks) t x cs
def mb(w:World)(own:Nat->Sf)(k:Nat):RM->(t:Ty)->List t.V->List Value->Prop
 |.Ai,t,xs,ds=>Be (λi=>I7 w own k t [i]) 0 xs ds
 |.sh ks,t,xs,ds=>Cr (G1 w (Al own ks) t) xs ds
def Tf(w:World)(b e:Nat)(Bs:Array Value):Prop:=∃el,(e=0\/el=e)/\w.heap[b]?=some (.cells Bs el (0,0))
def DT:(t:Ty)->t.V->Value
 |.int k,x=>.int k x
 |.str,s=>.string s
 |.Au (.int q) (.Au (.int q') .unit),x=>.agg #[.int q x.1,.int q' x.2.1]
 |_,_=>.nilIface
def T0(w:World)(own:Nat->Sf)(k:Nat)(md:RM)(kt vt:Ty)(st:Option kt.V):Nat->List (kt.V×vt.V)->List MapEntry->Prop
 |_,[],ms=>ms=[]
 |i,x::xs,ms=>∃m r,ms=m::r/\(m.key=DT kt x.1/\m.born=i)/\(st=some x.1\/∃cs,RR w own k md vt i x.2 cs/\Bv vt.isAgg cs m.val)/\T0 w own k md kt vt st (i+1) xs r
def LP(w:World)(g:G)(n k:Nat):Blk->Prop
 |.box a=>(g.AU k).len=1/\∃b cs e,(g.AU k).a=some ⟨b,0,none⟩/\g.own b=.BG k []/\w.heap[b]?=some (.cells cs e (0,0))/\Cq w g n false a cs.toList
 |.row e m t xs=>(∀j∈m.Cf,j<n)/\(g.AU k).len=xs.length/\(g.AU k).gP=t.size/\0<t.size/\((xs=[]/\(g.AU k).cap=0)\/∃b Bs ds,(g.AU k).a=some ⟨b,0,none⟩/\g.own b=.BG k [] /\
     Tf w b e Bs/\xs.length<=(g.AU k).cap/\(g.AU k).cap<=maxLen/\Bs.size=(g.AU k).cap*t.size/\Bs.toList.take (xs.length*t.size)=ds/\mb w g.own k m t xs ds)
 |.map md kt vt es st=>(∀j∈md.Cf,j<n)/\∃b Gs De,(g.AU k).a=some ⟨b,0,none⟩/\g.own b=.BG k []/\w.heap[b]?=some (.map Gs De)/\((es.map (·.1)).Nodup/\De=Gs.size)/\T0 w g.own k md kt vt st 0 es Gs.toList
 |.Qk e t xs i p=>(g.AU k).len=xs.length/\(g.AU k).gP=t.size/\0<t.size/\0<=i/\i.toNat<xs.length/\∃u o x0 b Bs ds,KO t p=some o/\tyP t p=some (.sl u)/\Re (.sl u) [] p t (xs.getD i.toNat t.zero)=some x0 /\
     (g.AU k).a=some ⟨b,0,none⟩/\g.own b=.BG k []/\Tf w b e Bs/\xs.length<=(g.AU k).cap/\(g.AU k).cap<=maxLen/\Bs.size=(g.AU k).cap*t.size /\
     (Bs.setIfInBounds (i.toNat*t.size+o) (.slice none 0 0)).toList.take (xs.length*t.size)=ds/\Be (λj=>I7 w g.own k t [j]) 0 (xs.set i.toNat x0) ds
 |.tail e t xs=>t.BD=true/\(g.AU k).len=xs.length/\(g.AU k).gP=t.size/\0<t.size/\((xs=[]/\(g.AU k).cap=0)\/∃b o Bs ds,(g.AU k).a=some ⟨b,o,none⟩/\g.own b=.BG k [] /\
     Tf w b e Bs/\xs.length<=(g.AU k).cap/\(g.AU k).cap<=maxLen/\Bs.size=o+(g.AU k).cap*t.size/\(Bs.toList.drop o).take (xs.length*t.size)=ds/\mb w g.own k .Ai t xs ds)
 |.AH=>True
structure Bc (w:World) (g:G) (bs:List Blk):Prop where
 BN:∀b,w.heap.size<=b->g.own b=.no
 Lf:∀k x,bs[k]?=some x->LP w g bs.length k x
structure Step (Bw:List Nat) (n:Nat) (w:World) (g:G) (w':World) (g':G):Prop where
 os:w'.os=w.os
 tape:w'.tape=w.tape
 output:w'.output=w.output
 size:w.heap.size<=w'.heap.size
 no:∀b,b<w.heap.size->g.own b=.no->g'.own b=.no/\w'.heap[b]?=w.heap[b]?
 H8:∀b,g.own b=.H8->g'.own b=.H8/\w'.heap[b]?=w.heap[b]?
 BG:∀b k p,g.own b=.BG k p->k<n->k∉Bw->g'.own b=.BG k p/\w'.heap[b]?=w.heap[b]?
 AU:∀k,k<n->g'.AU k=g.AU k
section
variable {α:Type} {R S:α->List Value->Prop} {I J:Nat->α->List Value->Prop}
theorem Cr.mono(h:∀x c,R x c->S x c):∀{xs cs},Cr R xs cs->Cr S xs cs
 |[],_,hc=>hc
 |_::_,_,⟨c,d,e,r,l⟩=>⟨c,d,e,h _ _ r,l.mono h⟩
theorem Be.mono(h:∀i x c,I i x c->J i x c):∀{i xs cs},Be I i xs cs->Be J i xs cs
 |_,[],_,hc=>hc
 |_,_::_,_,⟨c,d,e,r,l⟩=>⟨c,d,e,h _ _ _ r,l.mono h⟩
theorem Be.toR(h:∀i x c,I i x c->S x c):∀{i xs cs},Be I i xs cs->Cr S xs cs
 |_,[],_,hc=>hc
 |_,_::_,_,⟨c,d,e,r,l⟩=>⟨c,d,e,h _ _ _ r,l.toR h⟩
theorem Cr.toI(h:∀i x c,R x c->J i x c):∀{i xs cs},Cr R xs cs->Be J i xs cs
 |_,[],_,hc=>hc
 |_,_::_,_,⟨c,d,e,r,l⟩=>⟨c,d,e,h _ _ _ r,Cr.toI h l⟩
theorem Cr.append:∀{xs ys cs ds},Cr R xs cs->Cr R ys ds->Cr R (xs++ys) (cs++ds)
 |[],_,_,_,h,k=>by cases h;exact k
 |_::_,_,_,_,⟨c,d,e,r,l⟩,k=>⟨c,d++_,by rw[e,AG3],r,l.append k⟩
theorem Be.append:∀{i xs ys cs ds},Be I i xs cs->Be I (i+xs.length) ys ds->Be I i (xs++ys) (cs++ds)
 |_,[],_,_,_,h,k=>by cases h;exact k
 |i,_::xs,_,_,ds,⟨c,d,e,r,l⟩,k=>by
  subst e;exact⟨c,d++ds,AG3 ..,r,l.append (by rw[List.length_cons]at k;rw[show i+1+xs.length=i+(xs.length+1) by omega];exact k)⟩
theorem Cr.len{s:Nat}(h:∀x c,R x c->c.length=s):∀{xs cs},Cr R xs cs->cs.length=xs.length*s
 |[],_,hc=>by cases hc;simp
 |_::xs,_,⟨c,d,e,r,l⟩=>by
  have h1:=h _ _ r;have h2:=l.len h;rw[e,AGZ,h1,h2,List.length_cons,Nat.add_mul,Nat.one_mul,Nat.add_comm]
theorem Be.len{s:Nat}(h:∀i x c,I i x c->c.length=s){i xs cs}(l:Be I i xs cs):cs.length=xs.length*s :=
 Cr.len (R:=λx c=>∃i,I i x c) (λx c ⟨i,r⟩=>h i x c r) (l.toR λi _ _ r=>⟨i,r⟩)
theorem Be.AU{s:Nat}(hs:∀i x c,I i x c->c.length=s):∀{j i xs cs},Be I j xs cs->(hi:i<xs.length) ->
    ∃c0 c d,cs=c0++c++d/\c0.length=i*s/\I (j+i) xs[i] c/\Be I j (xs.take i) c0/\Be I (j+i+1) (xs.drop (i+1)) d
 |j,0,x::xs,_,⟨c,d,e,r,l⟩,_=>⟨[],c,d,e,by simp,r,rfl,l⟩
 |j,i+1,x::xs,_,⟨c,d,e,r,l⟩,hi=>by
  obtain⟨c0,c1,d1,e1,hl,hr,ht,hd⟩:=l.AU hs (i:=i) (by simpa using hi);refine⟨c++c0,c1,d1,by rw[e,e1,AG3,AG3,AG3],?_,?_,⟨c,c0,rfl,r,?_⟩,?_⟩
  ·rw[AGZ,hs _ _ _ r,hl,Nat.add_mul,Nat.one_mul,Nat.add_comm]
  ·rw[show j+(i+1)=j+1+i by omega];exact hr
  ·exact ht
  ·rw[show j+(i+1)+1=j+1+i+1 by omega];exact hd
theorem Be.join:∀{j i:Nat} {xs:List α} {c0 c d:List Value} {x:α},i<xs.length->Be I j (xs.take i) c0->I (j+i) x c->Be I (j+i+1) (xs.drop (i+1)) d->Be I j (xs.set i x) (c0++c++d)
 |j,0,_::xs,c0,c,d,x,_,ht,hr,hd=>by cases ht;exact⟨c,d,rfl,hr,hd⟩
 |j,i+1,y::xs,_,c,d,x,hi,⟨c1,c2,e,r,l⟩,hr,hd=>by
  subst e;refine⟨c1,c2++c++d,by simp only[AG3],r,?_⟩;exact Be.join (by simpa using hi) l (by rw[show j+1+i=j+(i+1) by omega];exact hr) (by rw[show j+1+i+1=j+(i+1)+1 by omega];exact hd)
theorem HB:∀{j xs cs},Cr R xs cs↔Be (λ_=>R) j xs cs
 |_,[],_=>Iff.rfl
 |_,_::_,_=>⟨λ⟨c,d,e,r,l⟩=>⟨c,d,e,r,HB.1 l⟩,λ⟨c,d,e,r,l⟩=>⟨c,d,e,r,HB.2 l⟩⟩
theorem Cr.AU{s:Nat}(hs:∀x c,R x c->c.length=s){i xs cs}(l:Cr R xs cs)(hi:i<xs.length) :
    ∃c0 c d,cs=c0++c++d/\c0.length=i*s/\R xs[i] c/\Cr R (xs.take i) c0/\Cr R (xs.drop (i+1)) d:=by
 obtain⟨c0,c,d,e,hl,hr,ht,hd⟩:=Be.AU (I:=λ_=>R) (λ_ x c=>hs x c) (HB (j:=0).1 l) hi;exact⟨c0,c,d,e,hl,hr,HB.2 ht,HB.2 hd⟩
theorem Cr.join{i:Nat}{xs:List α}{c0 c d:List Value}{x:α}(hi:i<xs.length)(ht:Cr R (xs.take i) c0)(hr:R x c)(hd:Cr R (xs.drop (i+1)) d):Cr R (xs.set i x) (c0++c++d) :=
 HB (j:=0).2 (Be.join hi (HB.1 ht) hr (HB.1 hd))
theorem Be.takeN{s:Nat}(hs:∀i x c,I i x c->c.length=s):∀{j xs cs} (n:Nat),Be I j xs cs->Be I j (xs.take n) (cs.take (n*s))
 |_,[],_,n,h=>by cases h;simp[Be]
 |_,_::_,_,0,_=>by simp[Be]
 |j,x::xs,_,n+1,⟨c,d,e,r,l⟩=>by
  subst e;have hc:=hs _ _ _ r;refine⟨c,d.take (n*s),?_,r,l.takeN hs n⟩;rw[List.take_append,hc,AG5 (by rw[hc,Nat.add_mul];omega),show(n+1)*s-s=n*s by rw[Nat.add_mul,Nat.one_mul];omega]
theorem Cr.takeN{s:Nat}(hs:∀x c,R x c->c.length=s){xs cs}(n:Nat)(l:Cr R xs cs):Cr R (xs.take n) (cs.take (n*s)) :=
 HB (j:=0).2 (Be.takeN (λ_ x c=>hs x c) n (HB.1 l))
theorem Cr.AaM{s:Nat}(hs:∀x c,R x c->c.length=s):∀{xs cs} (n:Nat),Cr R xs cs->Cr R (xs.drop n) (cs.drop (n*s))
 |[],_,n,h=>by cases h;simp[Cr]
 |_::_,_,0,h=>by simpa using h
 |x::xs,_,n+1,⟨c,d,e,r,l⟩=>by
  subst e;have hc:=hs _ _ r;have h1:List.drop ((n+1)*s) c=[]:=List.drop_of_length_le (by rw[hc,Nat.add_mul];omega);rw[List.drop_append,hc,h1,List.nil_append,show(n+1)*s-s=n*s by rw[Nat.add_mul,Nat.one_mul];omega,List.drop_succ_cons];exact l.AaM hs n
end
theorem T6{w w':World}{b o:Nat}(h:w'.heap[b]?=w.heap[b]?):w'.cell? ⟨b,o,none⟩=w.cell? ⟨b,o,none⟩:=by simp[World.cell?,h]
theorem OZ{w:World}{b o:Nat}{cs:Array Value}{e:TypeId}{fr:Nat×Nat}(h:w.heap[b]?=some (.cells cs e fr)):w.cell? ⟨b,o,none⟩=cs[o]?:=by simp[World.cell?,h]
theorem G1.len{w:World}{A:Nat->Prop}:∀{t:Ty} {x:t.V} {cs:List Value},G1 w A t x cs->cs.length=t.size
 |.int _,_,_,h=>by cases h;rfl
 |.bool,_,_,h=>by cases h;rfl
 |.str,_,_,h=>by cases h;rfl
 |.unit,_,_,h=>by cases h;rfl
 |.Au _ _,_,_,⟨_,_,e,h1,h2⟩=>by subst e;rw[AGZ,h1.len,h2.len];rfl
 |.sl _,_,_,⟨_,_,_,e,_⟩=>by subst e;rfl
 |.P3 _,_,_,h=>h.elim
theorem I7.len{w:World}{own:Nat->Sf}{k:Nat}:∀{t:Ty} {p:List Nat} {x:t.V} {cs:List Value},I7 w own k t p x cs->cs.length=t.size
 |.int _,_,_,_,h=>by cases h;rfl
 |.bool,_,_,_,h=>by cases h;rfl
 |.str,_,_,_,h=>by cases h;rfl
 |.unit,_,_,_,h=>by cases h;rfl
 |.Au _ _,_,_,_,⟨_,_,e,h1,h2⟩=>by subst e;rw[AGZ,h1.len,h2.len];rfl
 |.sl _,_,_,_,⟨_,_,e,_⟩=>by subst e;rfl
 |.P3 _,_,_,_,h=>h.elim
theorem G1.one{w:World}{A:Nat->Prop}:∀{t:Ty} {x:t.V} {cs:List Value},G1 w A t x cs->∀v∈cs,v.oneCell'=true
 |.int _,_,_,h,v,hv=>by cases h;simp at hv;subst hv;rfl
 |.bool,_,_,h,v,hv=>by cases h;simp at hv;subst hv;rfl
 |.str,_,_,h,v,hv=>by cases h;simp at hv;subst hv;rfl
 |.unit,_,_,h,v,hv=>by cases h;simp at hv
 |.Au _ _,_,_,⟨_,_,e,h1,h2⟩,v,hv=>by
  subst e;rcases List.mem_append.1 hv with hv |hv
  ·exact h1.one v hv
  ·exact h2.one v hv
 |.sl _,_,_,⟨_,_,_,e,_⟩,v,hv=>by subst e;simp at hv;subst hv;rfl
 |.P3 _,_,_,h,_,_=>h.elim
theorem I7.one{w:World}{own:Nat->Sf}{k:Nat}:∀{t:Ty} {p:List Nat} {x:t.V} {cs:List Value},I7 w own k t p x cs->∀v∈cs,v.oneCell'=true
 |.int _,_,_,_,h,v,hv=>by cases h;simp at hv;subst hv;rfl
 |.bool,_,_,_,h,v,hv=>by cases h;simp at hv;subst hv;rfl
 |.str,_,_,_,h,v,hv=>by cases h;simp at hv;subst hv;rfl
 |.unit,_,_,_,h,v,hv=>by cases h;simp at hv
 |.Au _ _,_,_,_,⟨_,_,e,h1,h2⟩,v,hv=>by
  subst e;rcases List.mem_append.1 hv with hv |hv
  ·exact h1.one v hv
  ·exact h2.one v hv
 |.sl _,_,_,_,⟨_,_,e,_⟩,v,hv=>by subst e;simp at hv;subst hv;rfl
 |.P3 _,_,_,_,h,_,_=>h.elim
theorem Cr.all{α:Type}{R:α->List Value->Prop}{P:Value->Prop}(h:∀x c,R x c->∀v∈c,P v):∀{xs cs},Cr R xs cs->∀v∈cs,P v
 |[],_,hc,v,hv=>by cases hc;simp at hv
 |_::_,_,⟨c,d,e,r,l⟩,v,hv=>by
  subst e;rcases List.mem_append.1 hv with hv |hv
  ·exact h _ _ r v hv
  ·exact l.all h v hv
theorem Be.all{α:Type}{I:Nat->α->List Value->Prop}{P:Value->Prop}(h:∀i x c,I i x c->∀v∈c,P v){i xs cs}(l:Be I i xs cs):∀v∈cs,P v :=
 Cr.all (R:=λx c=>∃i,I i x c) (λx c ⟨i,r⟩=>h i x c r) (l.toR λi _ _ r=>⟨i,r⟩)
theorem G1.mono{w w':World}{A A':Nat->Prop}(h:∀b,A b->A' b/\w'.heap[b]?=w.heap[b]?):∀{t:Ty} {x:t.V} {cs:List Value},G1 w A t x cs->G1 w' A' t x cs
 |.int _,_,_,r=>r
 |.bool,_,_,r=>r
 |.str,_,_,r=>r
 |.unit,_,_,r=>r
 |.Au _ _,_,_,⟨c,d,e,h1,h2⟩=>⟨c,d,e,h1.mono h,h2.mono h⟩
 |.sl _,_,_,⟨ad,cap,ds,e,hl,l,hm⟩=>⟨ad,cap,ds,e,hl,l.mono λ_ _ r=>r.mono h,hm.imp id λ⟨b,off,ha,hA,hc⟩ =>
     ⟨b,off,ha,(h b hA).1,λj u hu=>(T6 (h b hA).2).trans (hc j u hu)⟩⟩
 |.P3 _,_,_,r=>r
theorem I7.mono{w w':World}{own MZ:Nat->Sf}{k k':Nat}:∀{t:Ty} {p p':List Nat} {x:t.V} {cs:List Value},
    (∀b q,own b=.BG k (q++p)->MZ b=.BG k' (q++p')/\w'.heap[b]?=w.heap[b]?)->I7 w own k t p x cs->I7 w' MZ k' t p' x cs
 |.int _,_,_,_,_,_,r=>r
 |.bool,_,_,_,_,_,r=>r
 |.str,_,_,_,_,_,r=>r
 |.unit,_,_,_,_,_,r=>r
 |.Au _ _,p,p',_,_,h,⟨c,d,e,h1,h2⟩=>⟨c,d,e,
     h1.mono (λb q hb=>by have:=h b (q++[0]) (by simpa using hb);simpa using this),
     h2.mono (λb q hb=>by have:=h b (q++[1]) (by simpa using hb);simpa using this)⟩
 |.sl _,p,p',_,_,h,⟨ad,cap,e,hm⟩=>⟨ad,cap,e,hm.imp id λ⟨b,el,Bs,ds,ha,hb,hh,h1,h2,h3,h4,l⟩ =>
     ⟨b,el,Bs,ds,ha,(h b [] hb).1,(h b [] hb).2.trans hh,h1,h2,h3,h4,l.mono λi x c r=>r.mono (λb q hb=>by have:=h b (q++[i]) (by simpa using hb);simpa using this)⟩⟩
 |.P3 _,_,_,_,_,_,r=>r
theorem T0.on{w w':World}{own MZ:Nat->Sf}{k k':Nat}{md md':RM}{kt vt:Ty}{st:Option kt.V}(h:∀(i:Nat) (x:vt.V) (cs:List Value),RR w own k md vt i x cs->RR w' MZ k' md' vt i x cs):∀{i:Nat} {es:List (kt.V×vt.V)} {ms:List MapEntry},T0 w own k md kt vt st i es ms->T0 w' MZ k' md' kt vt st i es ms
 |_,[],_,r=>r
 |i,x::xs,_,⟨m,r,e,hk,hv,hr⟩=>⟨m,r,e,hk,hv.imp id λ⟨cs,ho,ha⟩=>⟨cs,h i x.2 cs ho,ha⟩,hr.on h⟩
theorem I7.rd{w:World}{own:Nat->Sf}{k:Nat}{A:Nat->Prop}(h:∀b q,own b=.BG k q->A b):∀{t:Ty} {p:List Nat} {x:t.V} {cs:List Value},I7 w own k t p x cs->G1 w A t x cs
 |.int _,_,_,_,r=>r
 |.bool,_,_,_,r=>r
 |.str,_,_,_,r=>r
 |.unit,_,_,_,r=>r
 |.Au _ _,_,_,_,⟨c,d,e,h1,h2⟩=>⟨c,d,e,h1.rd h,h2.rd h⟩
 |.sl t,_,xs,_,⟨ad,cap,e,hm⟩=>by
  rcases hm with ⟨hx,hc⟩|⟨b,el,Bs,ds,ha,hb,hh,h1,h2,h3,h4,l⟩
  ·subst hx;exact⟨ad,cap,[],e,Nat.zero_le _,rfl,.inl rfl⟩
  ·refine⟨ad,cap,ds,e,h1,l.toR λi x c r=>r.rd h,.inr ⟨b,0,ha,h b _ hb,λj u hu=>?_⟩⟩;rw[OZ hh,AHr,<-AG9];subst h4;rw[List.getElem?_take]at hu;split at hu
   ·exact hu
   ·cases hu
 |.P3 _,_,_,_,r=>r
def J4:(t:Ty)->t.V->List Value
 |.int k,x=>[.int k x]
 |.bool,b=>[.bool b]
 |.str,s=>[.string s]
 |.unit,_=>[]
 |.Au a b,x=>J4 a x.1++J4 b x.2
 |.sl _,_=>[]
 |.P3 _,_=>[]
theorem G1.BD{w:World}{A:Nat->Prop}:∀{t:Ty} {x:t.V} {cs:List Value},t.BD=true->(G1 w A t x cs↔cs=J4 t x)
 |.int _,_,_,_=>Iff.rfl
 |.bool,_,_,_=>Iff.rfl
 |.str,_,_,_=>Iff.rfl
 |.unit,_,_,_=>Iff.rfl
 |.Au a b,x,cs,h=>by
  simp only[Ty.BD,AG2]at h;constructor
  ·rintro⟨c,d,e,h1,h2⟩
   rw[e,(G1.BD h.1).1 h1,(G1.BD h.2).1 h2];rfl
  ·intro e;exact⟨_,_,e,(G1.BD h.1).2 rfl,(G1.BD h.2).2 rfl⟩
 |.sl _,_,_,h=>by simp[Ty.BD]at h
 |.P3 _,_,_,h=>by simp[Ty.BD]at h
theorem I7.BD{w:World}{own:Nat->Sf}{k:Nat}:∀{t:Ty} {p:List Nat} {x:t.V} {cs:List Value},t.BD=true->(I7 w own k t p x cs↔cs=J4 t x)
 |.int _,_,_,_,_=>Iff.rfl
 |.bool,_,_,_,_=>Iff.rfl
 |.str,_,_,_,_=>Iff.rfl
 |.unit,_,_,_,_=>Iff.rfl
 |.Au a b,p,x,cs,h=>by
  simp only[Ty.BD,AG2]at h;constructor
  ·rintro⟨c,d,e,h1,h2⟩
   rw[e,(I7.BD h.1).1 h1,(I7.BD h.2).1 h2];rfl
  ·intro e;exact⟨_,_,e,(I7.BD h.1).2 rfl,(I7.BD h.2).2 rfl⟩
 |.sl _,_,_,_,h=>by simp[Ty.BD]at h
 |.P3 _,_,_,_,h=>by simp[Ty.BD]at h
def PY:Ty->List Value
 |.int k=>[.int k 0]
 |.bool=>[.bool false]
 |.str=>[.string ⟨#[]⟩]
 |.unit=>[]
 |.Au a b=>PY a++PY b
 |.sl _=>[.slice none 0 0]
 |.P3 0=>[.pointer none]
 |.P3 1=>[.map none]
 |.P3 _=>[.nilFunc]
theorem QI:∀t:Ty,(PY t).length=t.size
 |.int _=>rfl
 |.bool=>rfl
 |.str=>rfl
 |.unit=>rfl
 |.Au a b=>by simp[PY,QI a,QI b,Ty.size]
 |.sl _=>rfl
 |.P3 0=>rfl
 |.P3 1=>rfl
 |.P3 (_+2)=>rfl
theorem I7.zero{w:World}{own:Nat->Sf}{k:Nat}:∀{t:Ty} {p:List Nat},t.data=true->I7 w own k t p t.zero (PY t)
 |.int _,_,_=>rfl
 |.bool,_,_=>rfl
 |.str,_,_=>rfl
 |.unit,_,_=>rfl
 |.Au a b,p,h=>by
  simp only[Ty.data,AG2]at h;exact⟨_,_,rfl,I7.zero h.1,I7.zero h.2⟩
 |.sl t,p,_=>⟨none,0,rfl,.inl ⟨rfl,rfl⟩⟩
 |.P3 _,_,h=>by simp[Ty.data]at h
theorem G1.zero{w:World}{A:Nat->Prop}:∀{t:Ty},t.data=true->G1 w A t t.zero (PY t)
 |.int _,_=>rfl
 |.bool,_=>rfl
 |.str,_=>rfl
 |.unit,_=>rfl
 |.Au a b,h=>by
  simp only[Ty.data,AG2]at h;exact⟨_,_,rfl,G1.zero h.1,G1.zero h.2⟩
 |.sl t,_=>⟨none,0,[],rfl,AG1 _,rfl,.inl rfl⟩
 |.P3 _,h=>by simp[Ty.data]at h
theorem Al.mono{own:Nat->Sf}{ks Ta:List Nat}(h:∀k∈ks,k∈Ta){b:Nat}(a:Al own ks b):Al own Ta b:=a.imp id λ⟨k,hk,p,hp⟩=>⟨k,h k hk,p,hp⟩
theorem Al.step{Bw:List Nat}{n:Nat}{w w':World}{g g':G}(s:Step Bw n w g w' g'){ks:List Nat}(hn:∀k∈ks,k<n)(hm:∀k∈ks,k∉Bw){b:Nat}(a:Al g.own ks b) :
    Al g'.own ks b/\w'.heap[b]?=w.heap[b]?:=by
 rcases a with a |⟨k,hk,p,hp⟩
 ·exact⟨.inl (s.H8 b a).1,(s.H8 b a).2⟩
 ·have:=s.BG b k p hp (hn k hk) (hm k hk);exact⟨.inr ⟨k,hk,p,this.1⟩,this.2⟩
theorem Step.refl(Bw:List Nat)(n:Nat)(w:World)(g:G):Step Bw n w g w g :=
 ⟨rfl,rfl,rfl,AG1 _,λ_ _ h=>⟨h,rfl⟩,λ_ h=>⟨h,rfl⟩,λ_ _ _ h _ _=>⟨h,rfl⟩,λ_ _=>rfl⟩
theorem Step.trans{m1 m2:List Nat}{n n':Nat}{w w1 w2:World}{g g1 g2:G}(s:Step m1 n w g w1 g1)(t:Step m2 n' w1 g1 w2 g2)(hn:n<=n'):Step (m1++m2) n w g w2 g2 where
 os:=t.os.trans s.os
 tape:=t.tape.trans s.tape
 output:=t.output.trans s.output
 size:=AHp s.size t.size
 no b hb h:=by
  have h1:=s.no b hb h;have h2:=t.no b (AHx hb s.size) h1.1;exact⟨h2.1,h2.2.trans h1.2⟩
 H8 b h:=by
  have h1:=s.H8 b h;have h2:=t.H8 b h1.1;exact⟨h2.1,h2.2.trans h1.2⟩
 BG b k p h hk hm:=by
  have h1:=s.BG b k p h hk (λe=>hm (AHt _ e));have h2:=t.BG b k p h1.1 (AHx hk hn) (λe=>hm (AHu _ e));exact⟨h2.1,h2.2.trans h1.2⟩
 AU k hk:=(t.AU k (AHx hk hn)).trans (s.AU k hk)
theorem Step.weaken{m1 m2:List Nat}{n n':Nat}{w w':World}{g g':G}(s:Step m1 n w g w' g')(hm:∀k∈m1,k∈m2)(hn:n'<=n):Step m2 n' w g w' g' :=
 ⟨s.os,s.tape,s.output,s.size,s.no,s.H8,λb k p h hk TV=>s.BG b k p h (AHx hk hn) (λe=>TV (hm k e)),λk hk=>s.AU k (AHx hk hn)⟩
theorem Step.drew(Bw:List Nat)(n:Nat)(w:World)(g:G):Step Bw n w g w.drew g :=
 ⟨rfl,rfl,rfl,AG1 _,λ_ _ h=>⟨h,rfl⟩,λ_ h=>⟨h,rfl⟩,λ_ _ _ h _ _=>⟨h,rfl⟩,λ_ _=>rfl⟩
theorem cH(Vd:Nat->Bool)(a:AV):(a.drop Vd).MX=true\/(a.drop Vd).isAgg=a.isAgg:=by
 cases a with
 |AA ks t x=>simp only[AV.drop];split;exact .inl rfl;exact .inr rfl
 |Eh ks t x=>simp only[AV.drop];split;exact .inl rfl;exact .inr rfl
 |R1 k i p o e=>simp only[AV.drop];split;exact .inl rfl;exact .inr rfl
 |TR k i p o j u=>simp only[AV.drop];split;exact .inl rfl;exact .inr rfl
 |_=>exact .inr rfl
theorem tJ(Vd:Nat->Bool)(a:AV)(h:a.MX=true):(a.drop Vd).MX=true:=by
 cases a<;>simp_all [AV.MX,AV.drop]
theorem Cq.step{Bw:List Nat}{n n':Nat}{w w':World}{g g':G}(s:Step Bw n w g w' g')(hn:n<=n'):∀(a:AV) (m:Bool) {cs:List Value},Cq w g n m a cs->Cq w' g' n' m (a.drop λk=>Bw.contains k) cs
 |.AA ks t x,false,cs,⟨hk,r⟩=>by
  simp only[AV.drop];split
  ·exact⟨r.len,r.one⟩
  ·rename_i hb;have hm:∀k∈ks,k∉Bw:=λk hk hc=>hb (List.any_eq_true.2 ⟨k,hk,by simpa using hc⟩);exact⟨λk h=>AHx (hk k h) hn,r.mono λb a=>a.step s hk hm⟩
 |.zs,false,_,h=>h
 |.Ak k,false,_,⟨hk,e⟩=>⟨AHx hk hn,by rw[s.AU k hk];exact e⟩
 |.mp k,false,_,⟨hk,b,hb,e⟩=>⟨AHx hk hn,b,by rw[s.AU k hk];exact hb,e⟩
 |.ptr k i p o,false,_,⟨hk,h0,h1,b,hb,e⟩=>⟨AHx hk hn,h0,by rw[s.AU k hk];exact h1,b,by rw[s.AU k hk];exact hb,by rw[s.AU k hk];exact e⟩
 |.Eh ks t x,false,cs,⟨hk,b,off,ds,e,ha,r,hc⟩=>by
  simp only[AV.drop];split
  ·subst e;exact⟨rfl,by intro v hv;simp at hv;subst hv;rfl⟩
  ·rename_i hb;have hm:∀k∈ks,k∉Bw:=λk hk hc=>hb (List.any_eq_true.2 ⟨k,hk,by simpa using hc⟩);exact⟨λk h=>AHx (hk k h) hn,b,off,ds,e,(ha.step s hk hm).1,r.mono λb a=>a.step s hk hm,λj u hu=>(T6 (ha.step s hk hm).2).trans (hc j u hu)⟩
 |.Lw,false,_,h=>h
 |.pr a b,false,_,⟨c,d,e,h1,h2⟩=>⟨c,d,e,Cq.step s hn a false h1,Cq.step s hn b false h2⟩
 |.fn f c,false,_,⟨vs,e,h⟩=>⟨vs,e,Cq.step s hn c true h⟩
 |.un k,false,_,h=>h
 |.cons a b,true,_,⟨v,r,e,h1,h2⟩=>by
  refine⟨v,r,e,?_,Cq.step s hn b true h2⟩;rcases cH (λk=>Bw.contains k) a with hd |hd
  ·exact .inl hd
  ·exact h1.imp (tJ _ a) λ⟨cs,h,hv⟩=>⟨cs,Cq.step s hn a false h,by rw[hd];exact hv⟩
 |.nil,true,_,h=>h
 |.cons _ _,false,_,h=>h.elim
 |.nil,false,_,h=>h.elim
 |.R1 k i p o e,false,_,⟨hk,h0,h1,b,v,ha,ho,e1,e2,hc⟩=>by
  simp only[AV.drop];split
  ·subst e1;exact⟨rfl,by intro u hu;simp at hu;subst hu;exact e2⟩
  ·rename_i hb;have hl:=s.BG b k [] ho hk (by simpa using hb);exact⟨AHx hk hn,h0,by rw[s.AU k hk];exact h1,b,v,by rw[s.AU k hk];exact ha,hl.1,e1,e2,by rw[s.AU k hk];exact(T6 hl.2).trans hc⟩
 |.R1 _ _ _ _ _,true,_,h=>h.elim
 |.TR k i p o j u,false,_,⟨hk,h0,h1,b,b',l,c,ha,ho,e1,e2,hc⟩=>by
  simp only[AV.drop];split
  ·subst e1;exact⟨rfl,by intro u hu;simp at hu;subst hu;rfl⟩
  ·rename_i hb;have hl:=s.BG b k [] ho hk (by simpa using hb);exact⟨AHx hk hn,h0,by rw[s.AU k hk];exact h1,b,b',l,c,by rw[s.AU k hk];exact ha,hl.1,e1,e2,by rw[s.AU k hk];exact(T6 hl.2).trans hc⟩
 |.TR _ _ _ _ _ _,true,_,h=>h.elim
 |.AA _ _ _,true,_,h=>h.elim
 |.zs,true,_,h=>h.elim
 |.Ak _,true,_,h=>h.elim
 |.mp _,true,_,h=>h.elim
 |.ptr _ _ _ _,true,_,h=>h.elim
 |.Eh _ _ _,true,_,h=>h.elim
 |.Lw,true,_,h=>h.elim
 |.pr _ _,true,_,h=>h.elim
 |.fn _ _,true,_,h=>h.elim
 |.un _,true,_,h=>h.elim
theorem BR.iff{w:World}{g:G}{n:Nat}{a:AV}{v:Value}(h:a.CZ=false):BR w g n a v↔(a.MX=true\/∃cs,Cq w g n false a cs/\Bv a.isAgg cs v):=by
 cases a<;>first |exact Iff.rfl |cases h
theorem AaN(Vd:Nat->Bool)(a:AV):(a.drop Vd).CZ=a.CZ:=by
 cases a with
 |AA ks t x=>simp only[AV.drop];split<;>rfl
 |Eh ks t x=>simp only[AV.drop];split<;>rfl
 |R1 k i p o e=>simp only[AV.drop];split<;>rfl
 |TR k i p o j u=>simp only[AV.drop];split<;>rfl
 |_=>rfl
theorem BR.step{Bw:List Nat}{n n':Nat}{w w':World}{g g':G}(s:Step Bw n w g w' g')(hn:n<=n'){a:AV}{v:Value}(h:BR w g n a v):BR w' g' n' (a.drop λk=>Bw.contains k) v:=by
 cases ht:a.CZ with
 |false =>
  rw[BR.iff ht]at h;rw[BR.iff (by rw[AaN];exact ht)];rcases cH (λk=>Bw.contains k) a with hd |hd
  ·exact .inl hd
  ·exact h.imp (tJ _ a) λ⟨cs,h,hv⟩=>⟨cs,Cq.step s hn a false h,by rw[hd];exact hv⟩
 |true =>
  cases a with
  |cons a b=>obtain⟨vs,e,h⟩:=h;exact⟨vs,e,Cq.step s hn (.cons a b) true h⟩
  |nil=>exact h
  |_=>cases ht
theorem Ym(a:AV):(a.drop λ_=>false)=a:=by
 induction a with
 |AA ks t x=>simp[AV.drop]
 |Eh ks t x=>simp[AV.drop]
 |R1 k i p o e=>simp[AV.drop]
 |TR k i p o j u=>simp[AV.drop]
 |pr a b ha hb=>simp[AV.drop,ha,hb]
 |fn f c h=>simp[AV.drop,h]
 |cons a b ha hb=>simp[AV.drop,ha,hb]
 |_=>rfl
theorem BR.PW{n n':Nat}{w w':World}{g g':G}(s:Step [] n w g w' g')(hn:n<=n'){a:AV}{v:Value}(h:BR w g n a v):BR w' g' n' a v:=by
 have:=h.step s hn;rwa [show(λk=>([]:List Nat).contains k)=λ_=>false from funext λ_=>rfl,Ym]at this
theorem Cq.PW{n n':Nat}{w w':World}{g g':G}(s:Step [] n w g w' g')(hn:n<=n'){a:AV}{m:Bool}{cs:List Value}(h:Cq w g n m a cs):Cq w' g' n' m a cs:=by
 have:=Cq.step s hn a m h;rwa [show(λk=>([]:List Nat).contains k)=λ_=>false from funext λ_=>rfl,Ym]at this
theorem Cq.len{w:World}{g:G}{n:Nat}:∀{a:AV} {cs:List Value},Cq w g n false a cs->cs.length=a.size
 |.AA _ _ _,_,h=>h.2.len
 |.zs,_,⟨_,e⟩=>by subst e;rfl
 |.Ak _,_,⟨_,e⟩=>by subst e;rfl
 |.mp _,_,⟨_,_,_,e⟩=>by subst e;rfl
 |.ptr _ _ _ _,_,⟨_,_,_,_,_,e⟩=>by subst e;rfl
 |.Eh _ _ _,_,⟨_,_,_,_,e,_⟩=>by subst e;rfl
 |.Lw,_,h=>by cases h;rfl
 |.pr a b,_,⟨_,_,e,h1,h2⟩=>by subst e;rw[AGZ,Cq.len h1,Cq.len h2];rfl
 |.fn _ _,_,⟨_,e,_⟩=>by subst e;rfl
 |.un _,_,h=>h.1
 |.cons _ _,_,h=>h.elim
 |.nil,_,h=>h.elim
 |.R1 _ _ _ _ _,_,⟨_,_,_,_,_,_,_,e,_⟩=>by subst e;rfl
 |.TR _ _ _ _ _ _,_,⟨_,_,_,_,_,_,_,_,_,e,_⟩=>by subst e;rfl
theorem Cq.one{w:World}{g:G}{n:Nat}:∀{a:AV} {cs:List Value},Cq w g n false a cs->∀v∈cs,v.oneCell'=true
 |.AA _ _ _,_,h=>h.2.one
 |.zs,_,⟨_,e⟩=>by subst e;intro v hv;simp at hv;subst hv;rfl
 |.Ak _,_,⟨_,e⟩=>by subst e;intro v hv;simp at hv;subst hv;rfl
 |.mp _,_,⟨_,_,_,e⟩=>by subst e;intro v hv;simp at hv;subst hv;rfl
 |.ptr _ _ _ _,_,⟨_,_,_,_,_,e⟩=>by subst e;intro v hv;simp at hv;subst hv;rfl
 |.Eh _ _ _,_,⟨_,_,_,_,e,_⟩=>by subst e;intro v hv;simp at hv;subst hv;rfl
 |.Lw,_,h=>by cases h;intro v hv;simp at hv;subst hv;rfl
 |.pr a b,_,⟨_,_,e,h1,h2⟩=>by
  subst e;intro v hv;rcases List.mem_append.1 hv with hv |hv
  ·exact Cq.one h1 v hv
  ·exact Cq.one h2 v hv
 |.fn _ _,_,⟨_,e,_⟩=>by subst e;intro v hv;simp at hv;subst hv;rfl
 |.un _,_,h=>h.2
 |.cons _ _,_,h=>h.elim
 |.nil,_,h=>h.elim
 |.R1 _ _ _ _ _,_,⟨_,_,_,_,_,_,_,e,h1,_⟩=>by subst e;intro u hu;simp at hu;subst hu;exact h1
 |.TR _ _ _ _ _ _,_,⟨_,_,_,_,_,_,_,_,_,e,_⟩=>by subst e;intro u hu;simp at hu;subst hu;rfl
theorem Cq.scope{w:World}{g:G}{n:Nat}:∀{a:AV} {m:Bool} {cs:List Value},Cq w g n m a cs->∀k∈a.aC,k<n
 |.AA _ _ _,false,_,h,k,hk=>h.1 k hk
 |.pr a b,false,_,⟨_,_,_,h1,h2⟩,k,hk=>by
  rcases List.mem_append.1 hk with hk |hk
  ·exact Cq.scope h1 k hk
  ·exact Cq.scope h2 k hk
 |.zs,_,_,_,_,hk=>by cases hk
 |.Ak _,_,_,_,_,hk=>by cases hk
 |.mp _,_,_,_,_,hk=>by cases hk
 |.ptr _ _ _ _,_,_,_,_,hk=>by cases hk
 |.Eh _ _ _,_,_,_,_,hk=>by cases hk
 |.Lw,_,_,_,_,hk=>by cases hk
 |.fn _ _,_,_,_,_,hk=>by cases hk
 |.un _,_,_,_,_,hk=>by cases hk
 |.cons _ _,_,_,_,_,hk=>by cases hk
 |.nil,_,_,_,_,hk=>by cases hk
 |.R1 _ _ _ _ _,_,_,_,_,hk=>by cases hk
 |.TR _ _ _ _ _ _,_,_,_,_,hk=>by cases hk
 |.AA _ _ _,true,_,h,_,_=>h.elim
 |.pr _ _,true,_,h,_,_=>h.elim
section
variable {w:World} {g:G} {n:Nat}
theorem Ag5{A A':Nat->Prop}{w:World}{t:Ty}{x:t.V}{cs:List Value}(h:G1 w A t x cs)(ha:t.BD=false->∀b,A b->A' b):G1 w A' t x cs:=by
 cases hf:t.BD with
 |true=>exact(G1.BD hf).2 ((G1.BD hf).1 h)
 |false=>exact h.mono λb a=>⟨ha hf b a,rfl⟩
theorem WH{ks:List Nat}{t:Ty}(h:∀k∈ks,k<n):∀k∈XJ ks t,k<n:=by
 unfold XJ;split
 ·intro k hk;cases hk
 ·exact h
theorem WK{own:Nat->Sf}{ks:List Nat}{w:World}{t:Ty}{x:t.V}{cs:List Value}(h:G1 w (Al own ks) t x cs):G1 w (Al own (XJ ks t)) t x cs :=
 Ag5 h λhf b a=>by unfold XJ;rw[AHe (by simp[hf])];exact a
theorem WB{ks:List Nat}(hk:∀k∈ks,k<n):∀(f:Nat) (t:Ty) (x:t.V) (cs:List Value) (v:AV),G1 w (Al g.own ks) t x cs->Ud ks t x f=some v ->
    ∃c0 c1 c2,cs=c0++c1++c2/\R3 t f=some c0.length/\Cq w g n false v c1/\(∃u y,v=.AA (XJ ks u) u y/\G1 w (Al g.own ks) u y c1) /\
     ∀v' a' Rl,pd ks t x f v'=some a'->Cq w g n false v' Rl->Cq w g n false a' (c0++Rl++c2)
 |0,.Au a b,x,cs,v,⟨c,d,e,h1,h2⟩,hv=>by
  simp only[Ud,AGX]at hv;subst hv;refine⟨[],c,d,by simpa using e,rfl,⟨WH hk,WK h1⟩,⟨a,x.1,rfl,h1⟩,?_⟩;intro v' a' Rl hs lX;simp only[pd,AGX]at hs;subst hs;exact⟨Rl,d,rfl,lX,WH hk,WK h2⟩
 |f+1,.Au a b,x,cs,v,⟨c,d,e,h1,h2⟩,hv=>by
  simp only[Ud]at hv;obtain⟨c0,c1,c2,e2,ho,hx,hu,hs⟩:=WB hk f b x.2 d v h2 hv;refine⟨c++c0,c1,c2,by rw[e,e2];simp only[AG3],?_,hx,hu,?_⟩
  ·simp only[R3,ho,AGZ,h1.len]
  ·intro v' a' Rl YY lX;simp only[pd]at YY;split at YY
   ·rename_i r hr;simp only[AGX]at YY;subst YY;exact⟨c,c0++Rl++c2,by simp only[AG3],⟨WH hk,WK h1⟩,hs _ _ _ hr lX⟩
   ·cases YY
 |f,.int _,_,_,_,_,hv=>by simp[Ud]at hv
 |f,.bool,_,_,_,_,hv=>by simp[Ud]at hv
 |f,.str,_,_,_,_,hv=>by simp[Ud]at hv
 |f,.unit,_,_,_,_,hv=>by simp[Ud]at hv
 |f,.sl _,_,_,_,_,hv=>by simp[Ud]at hv
 |f,.P3 _,_,_,_,_,hv=>by simp[Ud]at hv
theorem VS:∀(a:AV) (f:Nat) (cs:List Value) (v:AV),Cq w g n false a cs->a.Xy f=some v ->
    ∃c0 c1 c2,cs=c0++c1++c2/\a.off f=some c0.length/\Cq w g n false v c1 /\
     ∀v' a' Rl,a.Rz f v'=some a'->Cq w g n false v' Rl->Cq w g n false a' (c0++Rl++c2)
 |.AA ks t x,f,cs,v,⟨hk,h⟩,hv=>by
  obtain⟨c0,c1,c2,e,ho,hx,_,hs⟩:=WB (g:=g) hk f t x cs v h (by simpa [AV.Xy]using hv);exact⟨c0,c1,c2,e,by simpa [AV.off]using ho,hx,λv' a' Rl h1 h2=>hs v' a' Rl (by simpa [AV.Rz]using h1) h2⟩
 |.pr a b,0,cs,v,⟨c,d,e,h1,h2⟩,hv=>by
  simp only[AV.Xy,AGX]at hv;subst hv;refine⟨[],c,d,by simpa using e,rfl,h1,?_⟩;intro v' a' Rl hs lX;simp only[AV.Rz,AGX]at hs;subst hs;exact⟨Rl,d,rfl,lX,h2⟩
 |.pr a b,f+1,cs,v,⟨c,d,e,h1,h2⟩,hv=>by
  simp only[AV.Xy]at hv;obtain⟨c0,c1,c2,e2,ho,hx,hs⟩:=VS b f d v h2 hv;refine⟨c++c0,c1,c2,by rw[e,e2];simp only[AG3],?_,hx,?_⟩
  ·simp only[AV.off,ho,AGZ,h1.len]
  ·intro v' a' Rl YY lX;simp only[AV.Rz]at YY;split at YY
   ·rename_i r hr;simp only[AGX]at YY;subst YY;exact⟨c,c0++Rl++c2,by simp only[AG3],h1,hs _ _ _ hr lX⟩
   ·cases YY
 |.zs,_,_,_,_,hv=>by simp[AV.Xy]at hv
 |.Ak _,_,_,_,_,hv=>by simp[AV.Xy]at hv
 |.mp _,_,_,_,_,hv=>by simp[AV.Xy]at hv
 |.ptr _ _ _ _,_,_,_,_,hv=>by simp[AV.Xy]at hv
 |.Eh _ _ _,_,_,_,_,hv=>by simp[AV.Xy]at hv
 |.Lw,_,_,_,_,hv=>by simp[AV.Xy]at hv
 |.fn _ _,_,_,_,_,hv=>by simp[AV.Xy]at hv
 |.un _,_,_,_,_,hv=>by simp[AV.Xy]at hv
 |.cons _ _,_,_,_,h,_=>h.elim
 |.nil,_,_,_,h,_=>h.elim
 |.R1 _ _ _ _ _,_,_,_,_,hv=>by simp[AV.Xy]at hv
 |.TR _ _ _ _ _ _,_,_,_,_,hv=>by simp[AV.Xy]at hv
theorem Qv:∀(p:List Nat) (a:AV) (cs:List Value) (v:AV),Cq w g n false a cs->a.TJ p=some v ->
    ∃c0 c1 c2,cs=c0++c1++c2/\a.wK p=some c0.length/\Cq w g n false v c1 /\
     ∀v' a' Rl,a.XS p v'=some a'->Cq w g n false v' Rl->Cq w g n false a' (c0++Rl++c2)
 |[],a,cs,v,h,hv=>by
  simp only[AV.TJ,AGX]at hv;subst hv;refine⟨[],cs,[],by simp,rfl,h,?_⟩;intro v' a' Rl hs lX;simp only[AV.XS,AGX]at hs;subst hs;simpa using lX
 |f::p,a,cs,v,h,hv=>by
  simp only[AV.TJ]at hv;split at hv
  ·rename_i b hb;obtain⟨c0,c1,c2,e,ho,hx,hs⟩:=VS a f cs b h hb;obtain⟨d0,d1,d2,e2,fF,ow,WE⟩:=Qv p b c1 v hx hv;refine⟨c0++d0,d1,d2++c2,by rw[e,e2];simp only[AG3],?_,ow,?_⟩
   ·simp only[AV.wK,hb,ho,fF,AGZ]
   ·intro v' a' Rl YY lX;simp only[AV.XS,hb]at YY;split at YY
    ·rename_i r hr;have:=hs _ _ _ YY (WE _ _ _ hr lX);simpa only[AG3]using this
    ·cases YY
  ·cases hv
end
theorem BA{t u:Ty}{x:t.V}{y:u.V}(h:Iw t u x=some y):∃e:t=u,e▸x=y:=by
 unfold Iw at h;split at h
 ·rename_i e;injection h with h;exact⟨e,h⟩
 ·cases h
def fR:Nat->List Nat->List Nat
 |0,L=>0::L
 |n+1,L=>fR n (1::L)
def Sw:List Nat->List Nat->List Nat
 |[],L=>L
 |f::p,L=>Sw p (fR f L)
structure Rel where
 E:(t:Ty)->List Nat->t.V->List Value->Prop
 Au:∀{a b:Ty} {L:List Nat} {x:(Ty.Au a b).V} {cs:List Value},E (.Au a b) L x cs↔∃c d,cs=c++d/\E a (0::L) x.1 c/\E b (1::L) x.2 d
 len:∀{t:Ty} {L:List Nat} {x:t.V} {cs:List Value},E t L x cs->cs.length=t.size
def Axs(w:World)(A:Nat->Prop):Rel:=⟨λt _ x cs=>G1 w A t x cs,Iff.rfl,G1.len⟩
def Ag2(w:World)(own:Nat->Sf)(k:Nat):Rel:=⟨λt L x cs=>I7 w own k t L x cs,Iff.rfl,I7.len⟩
section
variable (Q:Rel)
theorem iZ(F:∀u:Ty,u.V->Option u.V)(fa:Ty->Nat->Prop)(D:List Nat->List Value->Prop)(sz:Nat)
    (hF:∀(u:Ty) (L:List Nat) (x y:u.V) (cs:List Value) (o:Nat),F u x=some y->fa u o->Q.E u L x cs ->
     ∃c0 c1 c2,cs=c0++c1++c2/\c0.length=o/\c1.length=sz/\∀Rl,D L Rl->Q.E u L y (c0++Rl++c2)) :
    ∀(f:Nat) (t:Ty) (L:List Nat) (x x':t.V) (cs:List Value) (u:Ty) (o o':Nat),Qx t x f F=some x'->eN t f=some u->R3 t f=some o->fa u o'->Q.E t L x cs ->
     ∃c0 c1 c2,cs=c0++c1++c2/\c0.length=o+o'/\c1.length=sz/\∀Rl,D (fR f L) Rl->Q.E t L x' (c0++Rl++c2)
 |0,.Au a b,L,x,x',cs,u,o,o',hs,hu,ho,hc,h=>by
  obtain⟨c,d,e,h1,h2⟩:=Q.Au.1 h;simp only[eN,AGX]at hu;subst hu;simp only[R3,AGX]at ho;subst ho;simp only[Qx]at hs;split at hs
  ·rename_i y hy;injection hs with hs;subst hs;obtain⟨c0,c1,c2,e2,hl,hz,hr⟩:=hF a _ x.1 y c o' hy hc h1;refine⟨c0,c1,c2++d,by rw[e,e2];simp only[AG3],by omega,hz,λRl h=>Q.Au.2 ⟨c0++Rl++c2,d,by simp only[AG3],hr Rl h,h2⟩⟩
  ·cases hs
 |f+1,.Au a b,L,x,x',cs,u,o,o',hs,hu,ho,hc,h=>by
  obtain⟨c,d,e,h1,h2⟩:=Q.Au.1 h;simp only[eN]at hu;simp only[R3]at ho;split at ho
  ·rename_i o2 fF;injection ho with ho;subst ho;simp only[Qx]at hs;split at hs
   ·rename_i y hy;injection hs with hs;subst hs;obtain⟨c0,c1,c2,e2,hl,hz,hr⟩:=iZ F fa D sz hF f b (1::L) x.2 y d u o2 o' hy hu fF hc h2;refine⟨c++c0,c1,c2,by rw[e,e2];simp only[AG3],by rw[AGZ,Q.len h1];omega,hz,λRl h=>Q.Au.2 ⟨c,c0++Rl++c2,by simp only[AG3],h1,hr Rl h⟩⟩
   ·cases hs
  ·cases ho
 |f,.int _,_,_,_,_,_,_,_,hs,_,_,_,_=>by simp[Qx]at hs
 |f,.bool,_,_,_,_,_,_,_,hs,_,_,_,_=>by simp[Qx]at hs
 |f,.str,_,_,_,_,_,_,_,hs,_,_,_,_=>by simp[Qx]at hs
 |f,.unit,_,_,_,_,_,_,_,hs,_,_,_,_=>by simp[Qx]at hs
 |f,.sl _,_,_,_,_,_,_,_,hs,_,_,_,_=>by simp[Qx]at hs
 |f,.P3 _,_,_,_,_,_,_,_,hs,_,_,_,_=>by simp[Qx]at hs
theorem WN(u:Ty)(y:u.V):∀(p:List Nat) (t:Ty) (L:List Nat) (x x':t.V) (cs:List Value) (o:Nat),Re u y p t x=some x'->KO t p=some o->Q.E t L x cs ->
    ∃c0 c1 c2,cs=c0++c1++c2/\c0.length=o/\c1.length=u.size/\∀Rl,Q.E u (Sw p L) y Rl->Q.E t L x' (c0++Rl++c2)
 |[],t,L,x,x',cs,o,hs,ho,h=>by
  simp only[KO,AGX]at ho;subst ho;obtain⟨e,he⟩:=BA hs;subst e;simp only at he;subst he;exact⟨[],cs,[],by simp,rfl,Q.len h,λRl h'=>by simpa [Sw]using h'⟩
 |f::p,t,L,x,x',cs,o,hs,ho,h=>by
  simp only[KO]at ho;split at ho
  ·rename_i t1 o1 h1 h2;split at ho
   ·rename_i o2 h3;injection ho with ho;subst ho;exact iZ Q (λt' x'=>Re u y p t' x') (λv o=>KO v p=some o) (λL Rl=>Q.E u (Sw p L) y Rl) u.size
     (λv L x1 y1 cs1 o' Qa OS Z3=>WN u y p v L x1 y1 cs1 o' Qa OS Z3) f t L x x' cs t1 o1 o2 hs h1 h2 h3 h
   ·cases ho
  ·cases ho
end
theorem Al.mem{own:Nat->Sf}{ks:List Nat}{k b:Nat}{p:List Nat}(hk:k∈ks)(h:own b=.BG k p):Al own ks b:=.inr ⟨k,hk,p,h⟩
theorem Pm{w:World}{g:G}{bs:List Blk}(H:Bc w g bs):∀(t:Ty) (a:AV) (x:t.V) (cs:List Value),rd bs t a=some x->Cq w g bs.length false a cs ->
    G1 w (Al g.own (a.RY bs)) t x cs/\∀k∈a.RY bs,k<bs.length:=by
 have plain:∀(t:Ty) (ks:List Nat) (u:Ty) (y:u.V) (x:t.V) (cs:List Value),Iw u t y=some x->Cq w g bs.length false (.AA ks u y) cs->G1 w (Al g.own ks) t x cs/\∀k∈ks,k<bs.length:=by
  intro t ks u y x cs h hx;obtain⟨e,he⟩:=BA h;subst e;simp only at he;subst he;exact⟨hx.2,hx.1⟩
 intro t;induction t with
 |Au a b iha ihb =>
  intro av x cs h hx;simp only[rd]at h;split at h
  ·exact plain _ _ _ _ _ _ h hx
  ·rename_i u v;split at h
   ·rename_i y z hy hz;injection h with h;subst h;obtain⟨c,d,e,h1,h2⟩:=hx;have r1:=iha u y c hy h1;have r2:=ihb v z d hz h2;refine⟨⟨c,d,e,r1.1.mono λq hq=>⟨hq.mono λk hk=>AHt _ hk,rfl⟩,r2.1.mono λq hq=>⟨hq.mono λk hk=>AHu _ hk,rfl⟩⟩,?_⟩;intro k hk;rcases List.mem_append.1 hk with hk |hk
    ·exact r1.2 k hk
    ·exact r2.2 k hk
   ·cases h
  ·cases h
 |sl t _ =>
  intro av x cs h hx;simp only[rd]at h;split at h
  ·exact plain _ _ _ _ _ _ h hx
  ·injection h with h;subst h;obtain⟨ad,e⟩:=hx;exact⟨⟨ad,0,[],e,AG1 _,rfl,.inl rfl⟩,λk hk=>by cases hk⟩
  ·rename_i k;split at h
   ·rename_i e m u ys hb;obtain⟨e',he⟩:=BA h;injection e' with e';subst e';simp only at he;subst he;obtain⟨hk,hc⟩:=hx;obtain⟨hm,hlen,OU,BF,hr⟩:=H.Lf k _ hb;have uk:(AV.Ak k).RY bs=k::m.Cf:=by simp[AV.RY,YM,hb]
    rw[uk];refine⟨?_,λj hj=>?_⟩
    ·rcases hr with ⟨hy,Zp⟩|⟨b,Bs,ds,ha,Ce,⟨el,_,hh⟩,h1,h2,h3,h4,OT⟩
     ·subst hy;rw[hlen]at hc;exact⟨(g.AU k).a,(g.AU k).cap,[],hc,by simp,rfl,.inl rfl⟩
     ·rw[hlen]at hc;refine⟨(g.AU k).a,(g.AU k).cap,ds,hc,h1,?_,.inr ⟨b,0,ha,.mem (AHq) Ce,λj q hq=>?_⟩⟩
      ·cases m with
       |Ai=>exact OT.toR λi y c r=>r.rd λb q hb=>.mem (AHq) hb
       |sh ks=>exact OT.mono λy c r=>r.mono λb a=>⟨a.mono λj hj=>AHn _ hj,rfl⟩
      ·rw[OZ hh,AHr,<-AG9];subst h4;rw[List.getElem?_take]at hq;split at hq
       ·exact hq
       ·cases hq
    ·rcases List.mem_cons.1 hj with rfl |hj
     ·exact hk
     ·exact hm j hj
   ·cases h
  ·cases h
 |_ =>
  intro av x cs h hx;simp only[rd]at h;split at h
  ·exact plain _ _ _ _ _ _ h hx
  ·cases h
theorem LP.step{Bw:List Nat}{n n':Nat}{w w':World}{g g':G}(s:Step Bw n w g w' g')(hn:n<=n'){k:Nat}(hk:k<n)(hm:k∉Bw){b:Blk}(h:LP w g n k b) :
    LP w' g' n' k (b.drop λj=>Bw.contains j):=by
 cases b with
 |AH=>trivial
 |map m kt vt es st =>
  obtain⟨PZ,b,Gs,De,ha,ho,hh,QJ,di⟩:=h;simp only[Blk.drop];split
  ·trivial
  ·rename_i hb;have hd:∀j∈m.Cf,j∉Bw:=λj hj hc=>hb (List.any_eq_true.2 ⟨j,hj,by simpa using hc⟩);have hl:=s.BG b k [] ho hk hm;refine⟨λj hj=>AHx (PZ j hj) hn,b,Gs,De,by rw[s.AU k hk];exact ha,hl.1,hl.2.trans hh,QJ,di.on λi x cs r=>?_⟩;cases m with
   |Ai=>exact I7.mono (λb q hb=>s.BG b k _ hb hk hm) r
   |sh ks=>exact G1.mono (λb a=>a.step s PZ hd) r
 |Qk e t xs i p =>
  obtain⟨h1,h2,h3,h4,h5,u,o,x0,b,Bs,ds,q1,q2,q3,ha,ho,⟨el,R8,hh⟩,c1,c2,c3,c4,hc⟩:=h;have hl:=s.BG b k [] ho hk hm;refine⟨by rw[s.AU k hk];exact h1,by rw[s.AU k hk];exact h2,h3,h4,h5,u,o,x0,b,Bs,ds,q1,q2,q3,?_⟩;rw[s.AU k hk];exact⟨ha,hl.1,⟨el,R8,hl.2.trans hh⟩,c1,c2,c3,c4,hc.mono λi x c r=>r.mono λb q hb=>s.BG b k _ hb hk hm⟩
 |tail e t xs =>
  obtain⟨hf,hlen,OU,BF,hr⟩:=h;refine⟨hf,by rw[s.AU k hk];exact hlen,by rw[s.AU k hk];exact OU,BF,?_⟩;rw[s.AU k hk];refine hr.imp id λ⟨b,o,Bs,ds,ha,ho,⟨el,R8,hh⟩,h1,h2,h3,h4,hc⟩=>?_;have hl:=s.BG b k [] ho hk hm;exact⟨b,o,Bs,ds,ha,hl.1,⟨el,R8,hl.2.trans hh⟩,h1,h2,h3,h4,hc.mono λi x c r=>r.mono λb q hb=>s.BG b k _ hb hk hm⟩
 |box a =>
  obtain⟨h1,b,cs,e,ha,ho,hh,hx⟩:=h;have hl:=s.BG b k [] ho hk hm;refine⟨by rw[s.AU k hk];exact h1,b,cs,e,by rw[s.AU k hk];exact ha,hl.1,hl.2.trans hh,Cq.step s hn a false hx⟩
 |row e m t xs =>
  obtain⟨PZ,hlen,OU,BF,hr⟩:=h;simp only[Blk.drop];split
  ·trivial
  ·rename_i hb;have hd:∀j∈m.Cf,j∉Bw:=λj hj hc=>hb (List.any_eq_true.2 ⟨j,hj,by simpa using hc⟩);refine⟨λj hj=>AHx (PZ j hj) hn,by rw[s.AU k hk];exact hlen,by rw[s.AU k hk];exact OU,BF,?_⟩;rw[s.AU k hk];refine hr.imp id λ⟨b,Bs,ds,ha,ho,⟨el,R8,hh⟩,h1,h2,h3,h4,hc⟩=>?_;have hl:=s.BG b k [] ho hk hm;refine⟨b,Bs,ds,ha,hl.1,⟨el,R8,hl.2.trans hh⟩,h1,h2,h3,h4,?_⟩;cases m with
   |Ai=>exact hc.mono λi x c r=>r.mono λb q hb=>s.BG b k _ hb hk hm
   |sh ks=>exact hc.mono λx c r=>r.mono λb a=>a.step s PZ hd
theorem Yb(b:Blk):(b.drop λ_=>false)=b:=by
 cases b with
 |box a=>simp[Blk.drop,Ym]
 |row e m t xs=>simp[Blk.drop]
 |map m kt vt es st=>simp[Blk.drop]
 |Qk e t xs i p=>rfl
 |tail e t xs=>rfl
 |AH=>rfl
theorem LP.PW{n n':Nat}{w w':World}{g g':G}(s:Step [] n w g w' g')(hn:n<=n'){k:Nat}(hk:k<n){b:Blk}(h:LP w g n k b):LP w' g' n' k b:=by
 have:=h.step s hn hk (by simp);rwa [show(λk=>([]:List Nat).contains k)=λ_=>false from funext λ_=>rfl,Yb]at this
theorem AP{α:Type}{l:List α}{k:Nat}{x:α}(h:l[k]?=some x):k<l.length:=by
 rcases AG6 k l.length with h' |h'
 ·exact h'
 ·rw[AHz h']at h;cases h
theorem Bc.PW{w w':World}{g g':G}{bs:List Blk}(H:Bc w g bs)(s:Step [] bs.length w g w' g')(hf:∀b,w'.heap.size<=b->g'.own b=.no):Bc w' g' bs :=
 ⟨hf,λk x hx=>(H.Lf k x hx).PW s (AG1 _) (AP hx)⟩
theorem Bc.drew{w:World}{g:G}{bs:List Blk}(H:Bc w g bs):Bc w.drew g bs:=H.PW (Step.drew _ _ _ _) H.BN
theorem Bc.push{w w':World}{g g':G}{bs:List Blk}(H:Bc w g bs)(s:Step [] bs.length w g w' g')(hf:∀b,w'.heap.size<=b->g'.own b=.no){b:Blk}(hb:LP w' g' (bs.length+1) bs.length b) :
    Bc w' g' (bs++[b]) :=
 ⟨hf,λk x hx=>by
  rw[AGZ,AHf];rw[AHl]at hx;split at hx
  ·exact(H.Lf k x hx).PW s (AHw _) (AP hx)
  ·rename_i hk;have:k-bs.length=0:=by
    rcases AHj (k-bs.length)with h |h
    ·exact h
    ·rw[AHz (by simp;omega)]at hx;cases hx
   rw[this]at hx;obtain rfl:k=bs.length:=by omega
   simp only[List.getElem?_cons_zero,AGX]at hx;subst hx;exact hb⟩
def zeroV:Value->Value->Bool
 |.int k n,.int k' m=>k==k'&&n==m
 |.bool a,.bool b=>a==b
 |.string s,.string t=>s.data.toList==t.data.toList
 |.slice none 0 0,.slice none 0 0=>true
 |.pointer none,.pointer none=>true
 |.map none,.map none=>true
 |.nilFunc,.nilFunc=>true
 |_,_=>false
theorem AdD{a b:Value}(h:zeroV a b=true):a=b:=by
 unfold zeroV at h;split at h
 ·simp at h;rw[h.1,h.2]
 ·simp at h;rw[h]
 ·rename_i s t;simp at h;have:s.data=t.data:=by simpa using h
  cases s;cases t;simp at this;rw[this]
 ·rfl
 ·rfl
 ·rfl
 ·rfl
 ·cases h
def u4:List Value->List Value->Bool
 |[],[]=>true
 |a::r,b::s=>zeroV a b&&u4 r s
 |_,_=>false
theorem pW:∀{a b:List Value},u4 a b=true->a=b
 |[],[],_=>rfl
 |a::r,b::s,h=>by
  simp only[u4,AG2]at h;rw[AdD h.1,pW h.2]
 |[],_::_,h=>by cases h
 |_::_,[],h=>by cases h
def Aej:TypeDesc->Bool
 |.struct _=>true
 |.array _ _=>true
 |_=>false
def AuD(P:Program)(t:Nat)(u:Ty):Bool:=match P.underlying t with |some d=>Aej d==u.isAgg |none=>false
def MQ(P:Program)(ty:Ty):Nat->List Field->List Nat->Bool
 |_,[],[]=>true
 |i,f::fs,o::os=>f.offset==o&&R3 ty i==some o&&(match eN ty i with |some u=>(P.info? f.type).map (·.size)==some u.size&&u.size !=0&&AuD P f.type u |none=>false)&&MQ P ty (i+1) fs os
 |_,_,_=>false
def kindOk(P:Program)(ti:TI):TypeDesc->Bool
 |.int k=>ti.ty==.int k
 |.bool=>ti.ty==.bool
 |.string=>ti.ty==.str
 |.slice e=>ti.elem==e&&(match ti.ty with |.sl _=>true |_=>false)
 |.struct fs=>ti.ty.isAgg&&MQ P ti.ty 0 fs.toList ti.Uo
 |.array _ _=>ti.ty.isAgg
 |.pointer _=>(match ti.ty with |.P3 _=>true |_=>false)
 |.map _ _=>(match ti.ty with |.P3 _=>true |_=>false)
 |.func _ _ _=>(match ti.ty with |.P3 _=>true |_=>false)
 |_=>false
def T9(P:Program):Ty->Nat->List Field->Bool
 |.unit,_,[]=>true
 |.Au a b,o,f::fs=>f.name !="_"&&f.offset==o&&(match a,P.underlying f.type with |.int k,some (.int k')=>k==k' |.bool,some .bool=>true |.str,some .string=>true |_,_=>false)&&T9 P b (o+1) fs
 |_,_,_=>false
def AaU(P:Program)(t:Nat)(ty:Ty):Bool:=match P.underlying t with
 |some (.struct fs)=>!P.stoodInHeld t&&!P.eqGuardType P.depth t&&T9 P ty 0 fs.toList
 |_=>false
def AmL(P:Program)(t:Nat)(ti:TI):Bool :=
 (match P.info? t with
  |some i=>i.size==ti.ty.size&&i.bytes==ti.bytes&&(match i.zero with |some z=>u4 z.cells.toList (PY ti.ty)&&(match z with |.agg _=>ti.ty.isAgg |_=>!ti.ty.isAgg)|none=>false)
  |none=>false) &&
 (match P.underlying t with |some d=>kindOk P ti d&&(match d with |.struct _=>true |_=>ti.Uo.isEmpty)&&(match d with |.array n e=>ti.Gs==n&&ti.elem==e |_=>ti.Gs==0)&&(match d with |.map k e=>ti.Nj==k&&ti.elem==e |_=>ti.Nj==0)&&(!ti.eqs||AaU P t ti.ty)|none=>false)
def au(P:Program):sZ->Bool
 |[]=>true
 |(t,ti)::r=>AmL P t ti&&au P r
theorem uQ{P:Program}:∀{A7:sZ} {t:Nat} {ti:TI},au P A7=true->A7.get t=some ti->AmL P t ti=true
 |[],_,_,_,h=>by cases h
 |(k,i)::r,t,ti,ho,h=>by
  simp only[au,AG2]at ho;simp only[sZ.get]at h;split at h
  ·rename_i hk;injection h with h;subst h;rw[beq_iff_eq]at hk;subst hk;exact ho.1
  ·exact uQ ho.2 h
structure EA (P:Program) (t:Nat) (ti:TI):Prop where
 info:∃i z,P.info? t=some i/\i.size=ti.ty.size/\i.bytes=ti.bytes/\i.zero=some z/\z.cells.toList=PY ti.ty/\((∃c,z=.agg c)↔ti.ty.isAgg=true)
 az:∃d,P.underlying t=some d/\kindOk P ti d=true
 Uo:(∃fs,P.underlying t=some (.struct fs))\/ti.Uo=[]
 Gs:ti.Gs≠0->P.underlying t=some (.array ti.Gs ti.elem)
 eqs:ti.eqs=true->AaU P t ti.ty=true
 mp:ti.Nj≠0->P.underlying t=some (.map ti.Nj ti.elem)
theorem EA.of{P:Program}{A7:sZ}{t:Nat}{ti:TI}(ho:au P A7=true)(h:A7.get t=some ti):EA P t ti:=by
 have h1:=uQ ho h;unfold AmL at h1;rw[AG2]at h1;obtain⟨h1,h2⟩:=h1;constructor
 ·split at h1
  ·rename_i i hi;simp only[AG2,beq_iff_eq]at h1;obtain⟨⟨h3,h4⟩,h5⟩:=h1;split at h5
   ·rename_i z hz;rw[AG2]at h5;refine⟨i,z,hi,h3,h4,hz,pW h5.1,?_⟩;have h6:=h5.2;split at h6
    ·rename_i c;simp[h6]
    ·rename_i hz';simp at h6;exact⟨λ⟨c,hc⟩=>(hz' c hc).elim,λh=>by simp[h6]at h⟩
   ·cases h5
  ·cases h1
 ·split at h2
  ·rename_i d hd;simp only[AG2]at h2;exact⟨d,hd,h2.1.1.1.1⟩
  ·cases h2
 ·split at h2
  ·rename_i d hd;simp only[AG2]at h2;have h3:=h2.1.1.1.2;split at h3
   ·rename_i fs;exact .inl ⟨fs,hd⟩
   ·exact .inr (by simpa using h3)
  ·cases h2
 ·split at h2
  ·rename_i d hd;simp only[AG2]at h2;have h3:=h2.1.1.2;split at h3
   ·rename_i n e;simp only[AG2,beq_iff_eq]at h3;intro _;rw[hd,h3.1,h3.2]
   ·intro h;exact(h (by simpa using h3)).elim
  ·cases h2
 ·split at h2
  ·rename_i d hd;simp only[AG2]at h2;intro he;have h3:=h2.2;rw[he]at h3;simpa using h3
  ·cases h2
 ·split at h2
  ·rename_i d hd;simp only[AG2]at h2;have h3:=h2.1.2;split at h3
   ·rename_i n e;simp only[AG2,beq_iff_eq]at h3;intro _;rw[hd,h3.1,h3.2]
   ·intro h;exact(h (by simpa using h3)).elim
  ·cases h2
section
variable {w:World} {g:G} {n:Nat} {v:Value}
theorem BO{a:AV}(ht:a.CZ=false)(hu:a.MX=false)(h:BR w g n a v):∃cs,Cq w g n false a cs/\Bv a.isAgg cs v:=by
 rw[BR.iff ht]at h;rcases h with h |h
 ·rw[hu]at h;cases h
 ·exact h
theorem Bn{a:AV}(ht:a.CZ=false){cs:List Value}(h:Cq w g n false a cs)(hv:Bv a.isAgg cs v):BR w g n a v:=(BR.iff ht).2 (.inr ⟨cs,h,hv⟩)
theorem Dc{ks:List Nat}{k:IntKind}{x:Int}(h:BR w g n (.AA ks (.int k) x) v):v=.int k x:=by
 obtain⟨cs,h,hv⟩:=BO rfl rfl h;have e:cs=[.int k x]:=h.2;subst e;simpa [Bv,AV.isAgg,Ty.isAgg]using hv.symm
theorem QZ{ks:List Nat}{x:Bool}(h:BR w g n (.AA ks .bool x) v):v=.bool x:=by
 obtain⟨cs,h,hv⟩:=BO rfl rfl h;have e:cs=[.bool x]:=h.2;subst e;simpa [Bv,AV.isAgg,Ty.isAgg]using hv.symm
theorem Uy{ks:List Nat}{x:ByteArray}(h:BR w g n (.AA ks .str x) v):v=.string x:=by
 obtain⟨cs,h,hv⟩:=BO rfl rfl h;have e:cs=[.string x]:=h.2;subst e;simpa [Bv,AV.isAgg,Ty.isAgg]using hv.symm
theorem Xm{ks:List Nat}{t:Ty}{xs:List t.V}(h:BR w g n (.AA ks (.sl t) xs) v):(∀k∈ks,k<n)/\∃ad cap ds,v=.slice ad xs.length cap/\xs.length<=cap/\Cr (G1 w (Al g.own ks) t) xs ds /\
    (xs=[]\/∃b off,ad=some ⟨b,off,none⟩/\Al g.own ks b/\∀j u,ds[j]?=some u->w.cell? ⟨b,off+j,none⟩=some u):=by
 obtain⟨cs,⟨hk,ad,cap,ds,e,h1,h2,h3⟩,hv⟩:=BO rfl rfl h;subst e;exact⟨hk,ad,cap,ds,by simpa [Bv,AV.isAgg,Ty.isAgg]using hv.symm,h1,h2,h3⟩
theorem VG(h:BR w g n .zs v):∃ad,v=.slice ad 0 0:=by
 obtain⟨cs,⟨ad,e⟩,hv⟩:=BO rfl rfl h;subst e;exact⟨ad,by simpa [Bv,AV.isAgg]using hv.symm⟩
theorem FJ{k:Nat}(h:BR w g n (.Ak k) v):k<n/\v=.slice (g.AU k).a (g.AU k).len (g.AU k).cap:=by
 obtain⟨cs,⟨hk,e⟩,hv⟩:=BO rfl rfl h;subst e;exact⟨hk,by simpa [Bv,AV.isAgg]using hv.symm⟩
theorem KA{k:Nat}{i:Int}{p:List Nat}{o:Nat}(h:BR w g n (.ptr k i p o) v):k<n/\0<=i/\i.toNat<(g.AU k).len/\∃b,(g.AU k).a=some ⟨b,0,none⟩/\v=.pointer (some ⟨b,i.toNat*(g.AU k).gP+o,none⟩):=by
 obtain⟨cs,⟨hk,h0,h1,b,hb,e⟩,hv⟩:=BO rfl rfl h;subst e;exact⟨hk,h0,h1,b,hb,by simpa [Bv,AV.isAgg]using hv.symm⟩
theorem Wq{ks:List Nat}{t:Ty}{x:t.V}(h:BR w g n (.Eh ks t x) v):(∀k∈ks,k<n)/\∃b off ds,v=.pointer (some ⟨b,off,none⟩)/\Al g.own ks b/\G1 w (Al g.own ks) t x ds/\∀j u,ds[j]?=some u->w.cell? ⟨b,off+j,none⟩=some u:=by
 obtain⟨cs,⟨hk,b,off,ds,e,h1,h2,h3⟩,hv⟩:=BO rfl rfl h;subst e;exact⟨hk,b,off,ds,by simpa [Bv,AV.isAgg]using hv.symm,h1,h2,h3⟩
theorem Aca(k:IntKind)(x:Int):BR w g n (.int k x) (.int k x):=Bn rfl (cs:=[.int k x]) ⟨λ_ h=>by(cases h),rfl⟩ (by simp[Bv,AV.isAgg,Ty.isAgg])
theorem YB(x:Bool):BR w g n (.bool x) (.bool x):=Bn rfl (cs:=[.bool x]) ⟨λ_ h=>by(cases h),rfl⟩ (by simp[Bv,AV.isAgg,Ty.isAgg])
theorem Acb(x:ByteArray):BR w g n (.str x) (.string x):=Bn rfl (cs:=[.string x]) ⟨λ_ h=>by(cases h),rfl⟩ (by simp[Bv,AV.isAgg,Ty.isAgg])
theorem iF(ad:Option Addr):BR w g n .zs (.slice ad 0 0):=Bn rfl (cs:=[.slice ad 0 0]) ⟨ad,rfl⟩ (by simp[Bv,AV.isAgg])
theorem PX{k:Nat}:BR w g n (.un k) v:=(BR.iff rfl).2 (.inl rfl)
theorem ZB{ks:List Nat}{t:Ty}{x:t.V}{b off:Nat}{ds:List Value}(hk:∀k∈ks,k<n)(h1:Al g.own ks b)(h2:G1 w (Al g.own ks) t x ds)(h3:∀j u,ds[j]?=some u->w.cell? ⟨b,off+j,none⟩=some u) :
    BR w g n (.Eh ks t x) (.pointer (some ⟨b,off,none⟩)):=Bn rfl (cs:=[.pointer (some ⟨b,off,none⟩)]) ⟨hk,b,off,ds,rfl,h1,h2,h3⟩ (by simp[Bv,AV.isAgg])
theorem ZA{k:Nat}{i:Int}{p:List Nat}{o b:Nat}(hk:k<n)(h0:0<=i)(h1:i.toNat<(g.AU k).len)(hb:(g.AU k).a=some ⟨b,0,none⟩) :
    BR w g n (.ptr k i p o) (.pointer (some ⟨b,i.toNat*(g.AU k).gP+o,none⟩)):=Bn rfl (cs:=[_]) ⟨hk,h0,h1,b,hb,rfl⟩ (by simp[Bv,AV.isAgg])
end
section
variable {P:Program} {w:World} {g:G} {n:Nat} {R:Type}
def Tg(P:Program)(w:World)(g:G)(n:Nat)(s:Sem Value)(z:AV):Prop:=∃c,s.run P w=.ok c w/\BR w g n z c
theorem B3{s:Sem Value}{k:IntKind}{x:Int}(h:s.run P w=.ok (.int k x) w):Tg P w g n s (.int k x):=⟨_,h,Aca k x⟩
theorem C2{s:Sem Value}{x:Bool}(h:s.run P w=.ok (.bool x) w):Tg P w g n s (.bool x):=⟨_,h,YB x⟩
theorem WC{s:Sem Value}{x:ByteArray}(h:s.run P w=.ok (.string x) w):Tg P w g n s (.str x):=⟨_,h,Acb x⟩
theorem Aeo{op:BinOp}{x y:AV}{u v:Value}{K:AV->Option R}{r:R}{tb:Bool}(t:TypeId)(ox oy:Operand)(htb:tb=true->P.underlying t=some .bool)(h:jF op tb x y K=some r)(hx:BR w g n x u)(hy:BR w g n y v) :
    ∃z,K z=some r/\Tg P w g n (do eqGuard op t ox oy u v;binOp op t u v) z:=by
 unfold jF at h;split at h
 ·rename_i ks k a Ta k' b;obtain rfl:=Dc hx;obtain rfl:=Dc hy;split at h
  ·split at h
   ·cases h
   ·rename_i hb;exact⟨_,h,B3 (by simp[eqGuard,binOp,Op.shift,hb,Nl])⟩
  ·split at h
   ·cases h
   ·rename_i hb;exact⟨_,h,B3 (by simp[eqGuard,binOp,Op.shift,hb,RA])⟩
  ·split at h
   ·rename_i hk;subst hk;cases op<;>simp only[reduceCtorEq]at h
    case add=>exact⟨_,h,B3 (by simp[eqGuard,binOp,Op.intArith])⟩
    case sub=>exact⟨_,h,B3 (by simp[eqGuard,binOp,Op.intArith])⟩
    case mul=>exact⟨_,h,B3 (by simp[eqGuard,binOp,Op.intArith])⟩
    case quo =>
     split at h
     ·cases h
     ·rename_i hb;exact⟨_,h,B3 (by simp[eqGuard,binOp,Op.intDiv,hb])⟩
    case rem =>
     split at h
     ·cases h
     ·rename_i hb;exact⟨_,h,B3 (by simp[eqGuard,binOp,Op.intDiv,hb])⟩
    case and=>exact⟨_,h,B3 (by simp[eqGuard,binOp,Op.intBits,fp])⟩
    case or=>exact⟨_,h,B3 (by simp[eqGuard,binOp,Op.intBits,aO])⟩
    case xor=>exact⟨_,h,B3 (by simp[eqGuard,binOp,Op.intBits,AmR])⟩
    case andNot=>exact⟨_,h,B3 (by simp[eqGuard,binOp,Op.intBits,s9])⟩
    case eql=>exact⟨_,h,C2 (by simp[eqGuard,binOp,Op.intCmp])⟩
    case neq=>exact⟨_,h,C2 (by simp[eqGuard,binOp,Op.intCmp])⟩
    case lss=>exact⟨_,h,C2 (by simp[eqGuard,binOp,Op.intCmp])⟩
    case leq=>exact⟨_,h,C2 (by simp[eqGuard,binOp,Op.intCmp])⟩
    case gtr=>exact⟨_,h,C2 (by simp[eqGuard,binOp,Op.intCmp])⟩
    case geq=>exact⟨_,h,C2 (by simp[eqGuard,binOp,Op.intCmp])⟩
   ·cases h
 ·rename_i ks a Ta b;obtain rfl:=Uy hx;obtain rfl:=Uy hy;cases op<;>simp only[reduceCtorEq]at h
  case add =>
   split at h
   ·rename_i hb;refine⟨_,h,WC ?_⟩;have:¬(((a.size+b.size:Nat):Int)>IntKind.i64.max):=by simp[IntKind.max,IntKind.signed,IntKind.bits];omega
    simp[eqGuard,binOp,Op.stringOp];omega
   ·cases h
  case eql=>exact⟨_,h,C2 (by simp[eqGuard,binOp,Op.stringOp,Ia])⟩
  case neq=>exact⟨_,h,C2 (by simp[eqGuard,binOp,Op.stringOp,Ia])⟩
  case lss=>exact⟨_,h,C2 (by simp[eqGuard,binOp,Op.stringOp,strLt])⟩
  case leq=>exact⟨_,h,C2 (by simp[eqGuard,binOp,Op.stringOp,strLt,Ia])⟩
  case gtr=>exact⟨_,h,C2 (by simp[eqGuard,binOp,Op.stringOp,strLt,Ia])⟩
  case geq=>exact⟨_,h,C2 (by simp[eqGuard,binOp,Op.stringOp,strLt])⟩
 ·rename_i ks a Ta b;obtain rfl:=QZ hx;obtain rfl:=QZ hy;split at h
  ·rename_i hb;have hu:=htb hb;have he:(Op.equal t (.bool a) (.bool b)).run P w=.ok (a==b) w:=run_equal_bool w t a b hu;cases op<;>simp only[reduceCtorEq]at h
   case eql=>exact⟨_,h,C2 (by simp[eqGuard,binOp,he])⟩
   case neq=>exact⟨_,h,C2 (by simp[eqGuard,binOp,he])⟩
  ·cases h
 ·cases h
theorem AmN{op:UnOp}{x:AV}{u:Value}{K:AV->Option R}{r:R}(h:unA op x K=some r)(hx:BR w g n x u) :
    ∃z,K z=some r/\Tg P w g n (Op.unary op u) z:=by
 unfold unA at h;split at h
 ·obtain rfl:=QZ hx;split at h
  ·exact⟨_,h,C2 (by simp[Op.unary])⟩
  ·cases h
 ·obtain rfl:=Dc hx;split at h
  ·exact⟨_,h,B3 (by simp[Op.unary,Op.intArith])⟩
  ·exact⟨_,h,B3 (by simp only[Op.unary,Op.intBits];rfl)⟩
  ·cases h
 ·cases h
variable {bs:List Blk}
theorem BB{t:Nat}{ti:TI}(h:EA P t ti)(hs:ti.D4=true):P.underlying t=some (.slice ti.elem):=by
 obtain⟨d,hd,hk⟩:=h.az;unfold TI.D4 at hs;split at hs
 ·rename_i u hu;rw[hd];cases d<;>simp[kindOk,hu,Ty.isAgg]at hk;rename_i e;rw[hk]
 ·cases hs
theorem QH{t:Nat}{ti:TI}(h:EA P t ti)(hs:ti.ty=.str):P.underlying t=some .string:=by
 obtain⟨d,hd,hk⟩:=h.az;rw[hd];cases d<;>simp[kindOk,hs,Ty.isAgg]at hk;rfl
theorem qV{t:Nat}{ti:TI}(h:EA P t ti)(hs:ti.ty=.bool):P.underlying t=some .bool:=by
 obtain⟨d,hd,hk⟩:=h.az;rw[hd];cases d<;>simp[kindOk,hs,Ty.isAgg]at hk;rfl
theorem Dn{t:Nat}{ti:TI}(h:EA P t ti):(sizeOf t).run P w=.ok ti.ty.size w:=by
 obtain⟨i,z,hi,hs,_⟩:=h.info;simp[sizeOf,typeInfo,hi,hs]
theorem X6{t:Nat}{ti:TI}(h:EA P t ti):(isAgg t).run P w=.ok ti.ty.isAgg w:=by
 obtain⟨d,hd,hk⟩:=h.az;cases d<;>simp[isAgg,underlying,hd,kindOk]at hk⊢
 case int=>rw[hk];rfl
 case bool=>rw[hk];rfl
 case string=>rw[hk];rfl
 case slice =>
  obtain⟨_,hk⟩:=hk;split at hk
  ·rename_i u hu;rw[hu];rfl
  ·cases hk
 case array=>exact hk
 case struct=>exact hk.1
 case pointer =>
  split at hk
  ·rename_i u hu;rw[hu];rfl
  ·cases hk
 case map =>
  split at hk
  ·rename_i u hu;rw[hu];rfl
  ·cases hk
 case func =>
  split at hk
  ·rename_i u hu;rw[hu];rfl
  ·cases hk
theorem AfJ(H:Bc w g bs){t:Nat}{ti:TI}(ht:EA P t ti){x:AV}{u:Value}{K:AV->Option R}{r:R}(h:kF bs ti x K=some r)(hx:BR w g bs.length x u)(ty:TypeId)(ts:Array TypeId)(V1:ts[0]?=some t) :
    ∃z,K z=some r/\Tg P w g n (Builtin.len_ ts ty #[u]) z:=by
 unfold kF at h;split at h
 ·split at h
  ·rename_i hs;obtain⟨_,ad,cap,ds,rfl,_⟩:=Xm hx;exact⟨_,h,B3 (by simp[Builtin.len_,V1,underlying,BB ht hs,goInt])⟩
  ·cases h
 ·split at h
  ·rename_i hs;obtain rfl:=Uy hx;exact⟨_,h,B3 (by simp[Builtin.len_,V1,underlying,QH ht hs,goInt])⟩
  ·cases h
 ·split at h
  ·rename_i hs;obtain⟨ad,rfl⟩:=VG hx;exact⟨_,h,B3 (by simp[Builtin.len_,V1,underlying,BB ht hs,goInt])⟩
  ·cases h
 ·rename_i k;split at h
  ·rename_i e m t' xs hb;split at h
   ·rename_i hs;obtain⟨hk,rfl⟩:=FJ hx;have hl:=(H.Lf k _ hb).2.1;exact⟨_,h,B3 (by simp[Builtin.len_,V1,underlying,BB ht hs,goInt,hl])⟩
   ·cases h
  ·cases h
 ·cases h
theorem Amv{mx:Bool}{x y:AV}{u v:Value}{K:AV->Option R}{r:R}(h:xG mx x y K=some r)(hx:BR w g n x u)(hy:BR w g n y v)(ty:TypeId)(ts:Array TypeId) :
    ∃z,K z=some r/\Tg P w g n (if mx then Builtin.max_ ts ty #[u,v]else Builtin.min_ ts ty #[u,v]) z:=by
 unfold xG at h;split at h
 ·obtain rfl:=Dc hx;obtain rfl:=Dc hy;split at h
  ·rename_i hk;subst hk;refine⟨_,h,B3 ?_⟩;cases mx
   ·simp[Builtin.min_,Builtin.min2]
   ·simp[Builtin.max_,Builtin.max2]
  ·cases h
 ·cases h
theorem Us{i:Int}{n:Nat}(h:0<=i/\i<(n:Int)):i.toNat<n:=by omega
theorem WV(b o i:Nat):(⟨b,o,none⟩:Addr).add i=⟨b,o+i,none⟩:=by unfold Addr.add;split<;>simp_all
theorem Q9{t:Nat}{ti:TI}(h:EA P t ti){b off:Nat}{cs:List Value}(hl:cs.length=ti.ty.size)(hc:∀j u,cs[j]?=some u->w.cell? ⟨b,off+j,none⟩=some u)(hs:ti.ty.isAgg=false->cs.length=1) :
    ∃v,(loadVar t ⟨b,off,none⟩).run P w=.ok v w/\Bv ti.ty.isAgg cs v:=by
 unfold loadVar;cases ha:ti.ty.isAgg with
 |true =>
  have hr:=run_loadCells_list (P:=P) w ⟨b,off,none⟩ cs (λj u hu=>by rw[WV];exact hc j u hu);rw[hl]at hr;exact⟨.agg cs.toArray,by simp[X6 h,ha,Dn h,hr],by simp[Bv]⟩
 |false =>
  have h1:=hs ha;obtain⟨c,rfl⟩:∃c,cs=[c]:=by
   cases cs with
   |nil=>simp at h1
   |cons c r=>cases r with
    |nil=>exact⟨c,rfl⟩
    |cons _ _=>simp at h1
  have GR:=hc 0 c rfl;rw[Nat.add_zero]at GR;exact⟨c,by simp[X6 h,ha,load,Sem.run,GR],by simp[Bv]⟩
theorem Rf{t:Ty}(h:t.isAgg=false):t.size=1:=by cases t<;>simp_all [Ty.isAgg,Ty.size]
theorem AG{t:Ty}(xs:List t.V)(i:Nat)(z:t.V)(h:i<xs.length):xs.getD i z=xs[i]:=by simp[List.getD,h]
theorem yT(H:Bc w g bs){k:Nat}{i:Int}{a:AV}(h:atB bs k i=some a)(hi:i.toNat<(g.AU k).len){b:Nat}(hb:(g.AU k).a=some ⟨b,0,none⟩) :
    ∃cs,Cq w g bs.length false a cs/\∀j u,cs[j]?=some u->w.cell? ⟨b,i.toNat*(g.AU k).gP+j,none⟩=some u:=by
 unfold atB at h;split at h
 ·rename_i a' hx;injection h with h;subst h;obtain⟨h1,b',cs,e,ha,ho,hh,hr⟩:=H.Lf k _ hx;rw[hb]at ha;injection ha with ha;injection ha with ha;subst ha;refine⟨cs.toList,hr,λj u hu=>?_⟩;have:i.toNat=0:=by omega
  rw[this,Nat.zero_mul,AHr,OZ hh,<-AG9];exact hu
 ·rename_i e m t xs hx;injection h with h;subst h;obtain⟨PZ,hlen,OU,BF,hr⟩:=H.Lf k _ hx;have Bj:=AP hx;rw[hlen]at hi;rcases hr with ⟨Vk,_⟩|⟨b',Bs,ds,ha,ho,⟨el,R8,hh⟩,h1,h2,h3,h4,hc⟩
  ·subst Vk;simp at hi
  ·rw[hb]at ha;injection ha with ha;injection ha with ha;subst ha;rw[AG _ _ _ hi,OU];have CY:∀j u,ds[j]?=some u->w.cell? ⟨b,j,none⟩=some u:=by
    intro j u hu;rw[OZ hh,<-AG9];subst h4;rw[List.getElem?_take]at hu;split at hu
    ·exact hu
    ·cases hu
   cases m with
   |Ai =>
    obtain⟨c0,c,d,e1,hl,hr,_,_⟩:=Be.AU (λi x c h=>I7.len h) hc hi;refine⟨c,⟨WH (λj hj=>by simp at hj;omega),WK (hr.rd λb q hq=>.mem (List.mem_singleton.2 rfl) hq)⟩,λj u hu=>?_⟩;refine CY _ u ?_;rw[e1,<-hl,AG3,AHh (by omega),show c0.length+j-c0.length=j by omega,AHi (AP hu)];exact hu
   |sh ks =>
    obtain⟨c0,c,d,e1,hl,hr,_,_⟩:=Cr.AU (λx c h=>G1.len h) hc hi;refine⟨c,⟨WH PZ,WK hr⟩,λj u hu=>?_⟩;refine CY _ u ?_;rw[e1,<-hl,AG3,AHh (by omega),show c0.length+j-c0.length=j by omega,AHi (AP hu)];exact hu
 ·cases h
theorem T2(H:Bc w g bs){k:Nat}{i:Int}{p:List Nat}{o:Nat}{a:AV}(h:atP bs k i p o=some a)(hi:i.toNat<(g.AU k).len){b:Nat}(hb:(g.AU k).a=some ⟨b,0,none⟩) :
    ∃cs,Cq w g bs.length false a cs/\∀j u,cs[j]?=some u->w.cell? ⟨b,i.toNat*(g.AU k).gP+o+j,none⟩=some u:=by
 unfold atP at h;split at h
 ·rename_i c hc;split at h
  ·rename_i ho;obtain⟨cs,hx,CY⟩:=yT H hc hi hb;obtain⟨c0,c1,c2,e,fF,aK,_⟩:=Qv p c cs a hx h;rw[ho]at fF;injection fF with fF;subst fF;refine⟨c1,aK,λj u hu=>?_⟩;rw[Nat.add_assoc];refine CY _ u ?_;rw[e,AG3,AHh (by omega),show c0.length+j-c0.length=j by omega,AHi (AP hu)];exact hu
  ·cases h
 ·cases h
theorem TQ{a:AV}{cs:List Value}(h:Cq w g n false a cs):a.CZ=false:=by cases a<;>first |rfl |exact h.elim
theorem Ab1(H:Bc w g bs){t:Nat}{ti:TI}(ht:EA P t ti){x:AV}{u:Value}{K:AV->Option R}{r:R}(h:W8 bs ti x K=some r)(hx:BR w g bs.length x u) :
    ∃z,K z=some r/\Tg P w g bs.length (Instr.loadAt t u) z:=by
 unfold W8 at h;split at h
 ·rename_i ks t' y;split at h
  ·rename_i he;subst he;obtain⟨hk,b,off,ds,rfl,ha,hr,hc⟩:=Wq hx;obtain⟨v,hv,hs⟩:=Q9 (w:=w) ht hr.len hc (λhg=>by rw[hr.len];exact Rf hg);exact⟨_,h,v,by simp[Instr.loadAt,Instr.sureAddr,hv],Bn rfl (cs:=ds) ⟨WH hk,WK hr⟩ hs⟩
  ·cases h
 ·rename_i k i p o;split at h
  ·rename_i a ha;split at h
   ·rename_i hs;obtain⟨hk,h0,h1,b,hb,rfl⟩:=KA hx;obtain⟨cs,fD,CY⟩:=T2 H ha h1 hb;obtain⟨v,hv,hU⟩:=Q9 (w:=w) ht (by rw[fD.len,hs.1]) CY (λhg=>by rw[fD.len,hs.1];exact Rf hg);rw[<-hs.2]at hU;exact⟨_,h,v,by simp[Instr.loadAt,Instr.sureAddr,hv],Bn (TQ fD) fD hU⟩
   ·cases h
  ·cases h
 ·cases h
theorem Afy(H:Bc w g bs){t:Nat}{ti te:TI}(ht:EA P t ti)(D1:EA P ti.elem te)(hs:ti.D4=true){x y:AV}{u v:Value}{K:AV->Option R}{r:R}(h:rI bs te.ty x y K=some r)(hx:BR w g bs.length x u)(hy:BR w g bs.length y v) :
    ∃z,K z=some r/\Tg P w g bs.length (Instr.indexAt t u v) z:=by
 have hu:=BB ht hs;unfold rI at h;split at h
 ·rename_i ks t' xs Ta k i;split at h
  ·rename_i he;subst he;split at h
   ·rename_i hi;obtain rfl:=Dc hy;obtain⟨hk,ad,cap,ds,rfl,hl,hr,hm⟩:=Xm hx;have Bj:i.toNat<xs.length:=Us hi;rcases hm with hm |⟨b,off,rfl,ha,hc⟩
    ·subst hm;simp at Bj
    ·obtain⟨c0,c,d,e1,bl,Z3,_,_⟩:=Cr.AU (λx c h=>G1.len h) hr Bj;refine⟨_,h,.pointer (some ⟨b,off+i.toNat*te.ty.size,none⟩),?_,?_⟩
     ·simp[Instr.indexAt,asIntOf,underlying,hu,hi.1,hi.2,Dn D1,WV]
     ·rw[AG _ _ _ Bj];refine ZB hk ha Z3 λj q hq=>?_;rw[<-bl,Nat.add_assoc];refine hc _ q ?_;rw[e1,AG3,AHh (by omega),show c0.length+j-c0.length=j by omega,AHi (AP hq)];exact hq
   ·cases h
  ·cases h
 ·rename_i k Ta kk i;split at h
  ·rename_i e m t' xs hb;split at h
   ·rename_i he;subst he;split at h
    ·rename_i hi;obtain rfl:=Dc hy;obtain⟨hk,rfl⟩:=FJ hx;obtain⟨PZ,hlen,OU,BF,hr⟩:=H.Lf k _ hb;have Bj:i.toNat<xs.length:=Us hi;rcases hr with ⟨Vk,_⟩|⟨b,Bs,ds,ha,ho,⟨el,R8,hh⟩,h1,h2,h3,h4,hc⟩
     ·subst Vk;simp at Bj
     ·refine⟨_,h,.pointer (some ⟨b,i.toNat*(g.AU k).gP+0,none⟩),?_,ZA hk hi.1 (by rw[hlen];exact Bj) ha⟩;simp[Instr.indexAt,asIntOf,underlying,hu,hi.1,hi.2,Dn D1,ha,hlen,OU,WV]
    ·cases h
   ·cases h
  ·rename_i e t' xs i' p' hb;split at h
   ·rename_i he;subst he;split at h
    ·rename_i hi;obtain rfl:=Dc hy;obtain⟨hk,rfl⟩:=FJ hx;obtain⟨hlen,OU,BF,_,_,_,_,_,b,_,_,_,_,_,ha,_⟩:=H.Lf k _ hb;have Bj:i.toNat<xs.length:=Us hi;refine⟨_,h,.pointer (some ⟨b,i.toNat*(g.AU k).gP+0,none⟩),?_,ZA hk hi.1 (by rw[hlen];exact Bj) ha⟩;simp[Instr.indexAt,asIntOf,underlying,hu,hi.1,hi.2,Dn D1,ha,hlen,OU,WV]
    ·cases h
   ·cases h
  ·cases h
 ·cases h
theorem Ae2{t:Nat}{ti:TI}(ht:EA P t ti)(hs:ti.ty=.str){x y:AV}{u v:Value}{K:AV->Option R}{r:R}(h:jK x y K=some r)(hx:BR w g n x u)(hy:BR w g n y v) :
    ∃z,K z=some r/\Tg P w g n (Instr.index t u v) z:=by
 unfold jK at h;split at h
 ·rename_i ks s Ta k i;split at h
  ·rename_i hi;obtain rfl:=Dc hy;obtain rfl:=Uy hx;refine⟨_,h,B3 ?_⟩;have Bj:i.toNat<s.size:=Us hi;simp[Instr.index,asIntOf,underlying,QH ht hs,hi.1,CB,Bj]
  ·cases h
 ·cases h
end
section
variable {P:Program} {w:World} {g:G} {n:Nat} {R:Type} {bs:List Blk}
theorem j8{ty:Ty}:∀{fs:List Field} {os:List Nat} {i j o:Nat},MQ P ty i fs os=true->os[j]?=some o ->
    ∃fd u inf,fs[j]?=some fd/\fd.offset=o/\R3 ty (i+j)=some o/\eN ty (i+j)=some u/\P.info? fd.type=some inf/\inf.size=u.size/\u.size≠0
 |[],[],_,_,_,_,h=>by simp at h
 |f::fs,o'::os,i,0,o,h,ho=>by
  simp only[List.getElem?_cons_zero,AGX]at ho;subst ho;simp only[MQ,AG2,beq_iff_eq]at h;obtain⟨⟨⟨h1,h2⟩,h3⟩,_⟩:=h;split at h3
  ·rename_i u hu;simp only[AG2,beq_iff_eq,bne_iff_ne]at h3;cases hi:P.info? f.type with
   |none=>simp[hi]at h3
   |some inf=>simp[hi]at h3;exact⟨f,u,inf,rfl,h1,by simpa using h2,by simpa using hu,hi,h3.1.1,h3.1.2⟩
  ·cases h3
 |f::fs,o'::os,i,j+1,o,h,ho=>by
  simp only[MQ,AG2]at h;obtain⟨fd,u,inf,h1,h2,h3,h4,h5⟩:=j8 (i:=i+1) h.2 (by simpa using ho);exact⟨fd,u,inf,by simpa using h1,h2,by rw[show i+(j+1)=i+1+j by omega];exact h3,by rw[show i+(j+1)=i+1+j by omega];exact h4,h5⟩
 |[],_::_,_,_,_,h,_=>by simp[MQ]at h
 |_::_,[],_,_,_,h,_=>by simp[MQ]at h
theorem US{t:Nat}{ti:TI}(h:EA P t ti){f o:Nat}(ho:ti.Uo[f]?=some o) :
    ∃fs,P.underlying t=some (.struct fs)/\MQ P ti.ty 0 fs.toList ti.Uo=true:=by
 rcases h.Uo with ⟨fs,hfs⟩|he
 ·obtain⟨d,hd,hk⟩:=h.az;rw[hfs]at hd;injection hd with hd;subst hd;simp only[kindOk,AG2]at hk;exact⟨fs,hfs,hk.2⟩
 ·rw[he]at ho;simp at ho
theorem Tl{t:Nat}{ti:TI}(h:EA P t ti){f fo:Nat}(ho:ti.Uo[f]?=some fo)(b o:Nat) :
    (Instr.fieldAt t (.pointer (some ⟨b,o,none⟩)) f).run P w=.ok (.pointer (some ⟨b,o+fo,none⟩)) w/\R3 ti.ty f=some fo/\∃u,eN ti.ty f=some u:=by
 obtain⟨fs,hu,hf⟩:=US h ho;obtain⟨fd,u,inf,h1,h2,h3,h4,h5,h6,h7⟩:=j8 hf ho;rw[AHr]at h3 h4;refine⟨?_,h3,u,h4⟩;have hfd:fs[f]?=some fd:=by rw[<-AG9];exact h1
 have Ks:(sizeOf fd.type).run P w=.ok u.size w:=by simp[sizeOf,typeInfo,h5,h6]
 simp[Instr.fieldAt,underlying,hu,hfd,Instr.sureAddr,fieldPlace,Ks,h7,WV,h2]
theorem Afb{t:Nat}{ti:TI}(ht:EA P t ti){f:Nat}{x:AV}{u:Value}{K:AV->Option R}{r:R}(h:fz ti f x K=some r)(hx:BR w g n x u) :
    ∃z,K z=some r/\Tg P w g n (Instr.fieldAt t u f) z:=by
 unfold fz at h;split at h
 ·rename_i k i p o;split at h
  ·rename_i fo hfo;obtain⟨hk,h0,h1,b,hb,rfl⟩:=KA hx;refine⟨_,h,_,(Tl ht hfo b _).1,?_⟩;rw[Nat.add_assoc];exact ZA hk h0 h1 hb
  ·cases h
 ·rename_i ks t' y;split at h
  ·rename_i he;obtain⟨rfl,he⟩:=he;split at h
   ·rename_i Ta v z hz;obtain⟨hk,b,off,ds,rfl,ha,hr,hc⟩:=Wq hx;obtain⟨c0,c1,c2,e,ho,_,⟨u',y',heq,Z3⟩,_⟩:=WB (g:=g) hk f _ y ds _ hr hz;injection heq with _ h2 h3;subst h2;obtain rfl:=eq_of_heq h3;rw[ho]at he;refine⟨_,h,_,(Tl ht he.symm b off).1,ZB hk ha Z3 λj q hq=>?_⟩;rw[Nat.add_assoc];refine hc _ q ?_;rw[e,AG3,AHh (by omega),show c0.length+j-c0.length=j by omega,AHi (AP hq)];exact hq
   ·cases h
  ·cases h
 ·cases h
theorem tM:∀{x:AV} {i:Nat} {z:AV} {vs:List Value},Ov x i=some z->Cq w g n true x vs->∃v,vs[i]?=some v/\(z.CZ=false->BR w g n z v)
 |.cons a b,0,z,vs,h,hx=>by
  simp only[Ov,AGX]at h;subst h;obtain⟨v,r,e,h1,_⟩:=hx;subst e;exact⟨v,rfl,λht=>(BR.iff ht).2 h1⟩
 |.cons a b,i+1,z,vs,h,hx=>by
  simp only[Ov]at h;obtain⟨v,r,e,_,h2⟩:=hx;subst e;obtain⟨u,hu,hz⟩:=tM h h2;exact⟨u,by simpa using hu,hz⟩
 |.nil,_,_,_,h,_=>by simp[Ov]at h
 |.AA _ _ _,_,_,_,h,_=>by simp[Ov]at h
 |.zs,_,_,_,h,_=>by simp[Ov]at h
 |.Ak _,_,_,_,h,_=>by simp[Ov]at h
 |.mp _,_,_,_,h,_=>by simp[Ov]at h
 |.ptr _ _ _ _,_,_,_,h,_=>by simp[Ov]at h
 |.Eh _ _ _,_,_,_,h,_=>by simp[Ov]at h
 |.Lw,_,_,_,h,_=>by simp[Ov]at h
 |.pr _ _,_,_,_,h,_=>by simp[Ov]at h
 |.fn _ _,_,_,_,h,_=>by simp[Ov]at h
 |.R1 _ _ _ _ _,_,_,_,h,_=>by simp[Ov]at h
 |.TR _ _ _ _ _ _,_,_,_,h,_=>by simp[Ov]at h
 |.un _,_,_,_,h,_=>by simp[Ov]at h
def yc(w:World)(g:G)(n:Nat):Option AV->Option Value->Prop
 |none,none=>True
 |some a,some v=>BR w g n a v
 |_,_=>False
theorem VI{x:Option AV}{v:Option Value}{d i:Int}(h:bnd x d=some i)(hx:yc w g n x v):(v=none/\i=d)\/∃k,v=some (.int k i):=by
 unfold bnd at h;split at h
 ·cases v with
  |none=>simp at h;exact .inl ⟨rfl,h.symm⟩
  |some _=>exact hx.elim
 ·cases v with
  |none=>exact hx.elim
  |some u=>simp at h;subst h;exact .inr ⟨_,congrArg some (Dc hx)⟩
 ·cases h
theorem Qg{isS:Bool}{len cap:Nat}{lo hi:Option Value}{l h:Int}(hl:(lo=none/\l=0)\/∃k,lo=some (.int k l))(hh:(hi=none/\h=(len:Int))\/∃k,hi=some (.int k h))
    (h0:0<=l) (h1:l<=h) (h2:h<=(len:Int)) (hc:len<=cap):(Instr.sliceBounds isS len cap lo hi none).run P w=.ok (l.toNat,h.toNat,cap) w:=by
 have e1:((h.toNat:Nat):Int)=h:=by omega
 have e2:h<=(cap:Int):=by omega
 have e3:0<=h:=by omega
 rcases hl with ⟨rfl,rfl⟩|⟨k,rfl⟩<;>rcases hh with ⟨rfl,rfl⟩|⟨k',rfl⟩
 ·simp[Instr.sliceBounds]
 ·simp[Instr.sliceBounds,Instr.sliceBound,asIntOf,e2,e3]
 ·simp[Instr.sliceBounds,Instr.sliceBound,asIntOf,h0,h1]
 ·simp[Instr.sliceBounds,Instr.sliceBound,asIntOf,e2,e3,h0,h1,e1]
theorem Km{t:Nat}{ti:TI}(h:EA P t ti)(hs:ti.D4=true)(a:Option Addr)(len cap:Nat)(lo hi mx:Option Value)(w:World) :
    (Instr.sliceAt t (.slice a len cap) lo hi mx).run P w=(Instr.slice t (.slice a len cap) lo hi mx).run P w:=by
 simp[Instr.sliceAt,underlying,BB h hs]
theorem pg{t:Nat}{ti:TI}(h:EA P t ti)(hs:ti.ty=.str)(s:ByteArray)(lo hi mx:Option Value)(w:World) :
    (Instr.sliceAt t (.string s) lo hi mx).run P w=(Instr.slice t (.string s) lo hi mx).run P w:=by
 simp[Instr.sliceAt,underlying,QH h hs]
theorem uG{A:Nat->Prop}{t:Ty}{xs:List t.V}{ad:Option Addr}{cap:Nat}{ds:List Value}{l h:Nat}(h1:l<=h)(h2:h<=xs.length)(hc:xs.length<=cap)
    (hr:Cr (G1 w A t) xs ds) (hm:xs=[]\/∃b off,ad=some ⟨b,off,none⟩/\A b/\∀j u,ds[j]?=some u->w.cell? ⟨b,off+j,none⟩=some u) :
    G1 w A (.sl t) ((xs.take h).drop l) [.slice (if cap=l then ad else ad.map (·.add (l*t.size))) (h-l) (cap-l)]:=by
 have hlen:((xs.take h).drop l).length=h-l:=by simp[AHg];omega
 refine⟨_,cap-l,((ds.take (h*t.size)).drop (l*t.size)),by rw[hlen],by rw[hlen];omega,?_,?_⟩
 ·exact Cr.AaM (λx c r=>G1.len r) l (Cr.takeN (λx c r=>G1.len r) h hr)
 ·rcases Nat.eq_or_lt_of_le h1 with e |Bj
  ·subst e;exact .inl (by apply List.eq_nil_of_length_eq_zero;rw[hlen];omega)
  ·rcases hm with hx |⟨b,off,rfl,ha,CY⟩
   ·subst hx;simp at h2;omega
   ·refine .inr ⟨b,off+l*t.size,?_,ha,λj u hu=>?_⟩
    ·rw[AHe (by omega)];simp[WV]
    ·rw[List.getElem?_drop,List.getElem?_take]at hu;split at hu
     ·rw[Nat.add_assoc];exact CY _ u hu
     ·cases hu
theorem wW(H:Bc w g bs){t:Nat}{ti:TI}(ht:EA P t ti){te:Option Ty}(D1:∀u,te=some u->ti.D4=true/\∃ff,ff.ty=u/\EA P ti.elem ff){x:AV}{lo hi mx:Option AV}{u:Value}{vlo vhi xI:Option Value}
    {K:AV->Option R} {r:R} (h:UO bs ti te x lo hi mx K=some r) (hx:BR w g bs.length x u) (xB:yc w g bs.length lo vlo) (ug:yc w g bs.length hi vhi) (oe:yc w g bs.length mx xI) :
    ∃z,K z=some r/\Tg P w g bs.length (Instr.sliceAt t u vlo vhi xI) z:=by
 unfold UO at h;split at h
 ·rename_i ks k m;split at h
  ·rename_i Ta k' hh;split at h
   ·rename_i hz;obtain⟨rfl,rfl,hs⟩:=hz;obtain⟨u',xC⟩:=Option.isSome_iff_exists.1 hs;obtain⟨hs,ff,rfl,ov⟩:=D1 _ xC;obtain rfl:vlo=none:=by cases vlo with |none=>rfl |some _=>exact xB.elim
    obtain⟨vh,rfl,e1⟩:∃v,vhi=some v/\v=.int k' 0:=by cases vhi with |none=>exact ug.elim |some v=>exact⟨v,rfl,Dc ug⟩
    obtain⟨vm,rfl,e2⟩:∃v,xI=some v/\v=.int k 0:=by cases xI with |none=>exact oe.elim |some v=>exact⟨v,rfl,Dc oe⟩
    subst e1;subst e2;have key:∀(a:Option Addr) (len cap:Nat),(Instr.sliceAt t (.slice a len cap) none (some (.int k' 0)) (some (.int k 0))).run P w=.ok (.slice a 0 0) w:=λa len cap=>by
     rw[Km ht hs];simp[Instr.slice,underlying,BB ht hs,Instr.sliceBounds,Instr.sliceBound,asIntOf,Dn ov]
    split at h
    ·obtain⟨_,ad,cap,ds,rfl,_⟩:=Xm hx;exact⟨_,h,_,key _ _ _,iF _⟩
    ·obtain⟨ad,rfl⟩:=VG hx;exact⟨_,h,_,key _ _ _,iF _⟩
    ·split at h
     ·obtain⟨_,rfl⟩:=FJ hx;exact⟨_,h,_,key _ _ _,iF _⟩
     ·cases h
    ·cases h
   ·cases h
  ·cases h
 ·cases h
 ·split at h
  ·rename_i ks s;split at h
   ·rename_i l hh hl hhh;split at h
    ·rename_i hc;obtain⟨hs,h0,h1,h2⟩:=hc;obtain rfl:=Uy hx;obtain rfl:xI=none:=by cases xI with |none=>rfl |some _=>exact oe.elim
     refine⟨_,h,WC ?_⟩;rw[pg ht hs];have hb:=Qg (P:=P) (w:=w) (isS:=false) (cap:=s.size) (VI hl xB) (VI hhh ug) h0 h1 h2 (AG1 _);simp[Instr.slice,underlying,QH ht hs,hb]
    ·cases h
   ·cases h
  ·rename_i ks t' xs;split at h
   ·rename_i l hh hl hhh;split at h
    ·rename_i he;obtain⟨hs,ff,rfl,ov⟩:=D1 _ he;split at h
     ·rename_i hc;obtain⟨h0,h1,h2⟩:=hc;obtain⟨hk,ad,cap,ds,rfl,Zp,hr,hm⟩:=Xm hx;obtain rfl:xI=none:=by cases xI with |none=>rfl |some _=>exact oe.elim
      refine⟨_,h,?_⟩;have hb:=Qg (P:=P) (w:=w) (isS:=true) (cap:=cap) (VI hl xB) (VI hhh ug) h0 h1 h2 Zp;refine⟨.slice (if cap=l.toNat then ad else ad.map (·.add (l.toNat*ff.ty.size))) (hh.toNat-l.toNat) (cap-l.toNat),?_,?_⟩
      ·rw[Km ht hs];simp[Instr.slice,underlying,BB ht hs,hb,Dn ov]
      ·exact Bn rfl (cs:=[_]) ⟨hk,uG (by omega) (by omega) Zp hr hm⟩ (by simp[Bv,AV.isAgg,Ty.isAgg])
     ·cases h
    ·cases h
   ·cases h
  ·rename_i k;split at h
   ·rename_i e m t' xs hb;split at h
    ·rename_i l hh hl hhh;split at h
     ·rename_i he;obtain⟨hs,ff,rfl,ov⟩:=D1 _ he;split at h
      ·rename_i hc;obtain⟨h0,h1,h2⟩:=hc;obtain⟨cs,fD,hv⟩:=BO rfl rfl hx;have aF:=Pm H (.sl ff.ty) (.Ak k) xs cs (by simp[rd,hb,Iw]) fD;obtain⟨⟨ad,cap,ds,e1,Zp,hr,hm⟩,uk⟩:=aF;subst e1;have Al4:(AV.Ak k).RY bs=k::m.Cf:=by simp[AV.RY,YM,hb]
       rw[Al4]at uk hr hm;obtain rfl:u=.slice ad xs.length cap:=by simpa [Bv,AV.isAgg]using hv.symm
       obtain rfl:xI=none:=by cases xI with |none=>rfl |some _=>exact oe.elim
       refine⟨_,h,?_⟩;have hb:=Qg (P:=P) (w:=w) (isS:=true) (cap:=cap) (VI hl xB) (VI hhh ug) h0 h1 h2 Zp;refine⟨.slice (if cap=l.toNat then ad else ad.map (·.add (l.toNat*ff.ty.size))) (hh.toNat-l.toNat) (cap-l.toNat),?_,?_⟩
       ·rw[Km ht hs];simp[Instr.slice,underlying,BB ht hs,hb,Dn ov]
       ·exact Bn rfl (cs:=[_]) ⟨uk,uG (by omega) (by omega) Zp hr hm⟩ (by simp[Bv,AV.isAgg,Ty.isAgg])
      ·cases h
     ·cases h
    ·cases h
   ·cases h
  ·split at h
   ·rename_i l hh hl hhh;split at h
    ·rename_i hc;obtain⟨hs,rfl,rfl⟩:=hc;obtain⟨u',xC⟩:=Option.isSome_iff_exists.1 hs;obtain⟨hs,ff,rfl,ov⟩:=D1 _ xC;obtain⟨ad,rfl⟩:=VG hx;obtain rfl:xI=none:=by cases xI with |none=>rfl |some _=>exact oe.elim
     have hb:=Qg (P:=P) (w:=w) (isS:=true) (len:=0) (cap:=0) (VI hl xB) (VI hhh ug) (Int.le_refl _) (Int.le_refl _) (Int.le_refl _) (AG1 _);refine⟨_,h,.slice ad 0 0,?_,iF _⟩;rw[Km ht hs];simp[Instr.slice,underlying,BB ht hs,hb,Dn ov]
    ·cases h
   ·cases h
  ·cases h
theorem Sb{t:Nat}{ti:TI}{k:IntKind}(h:EA P t ti)(hs:ti.ty=.int k):P.underlying t=some (.int k):=by
 obtain⟨d,hd,hk⟩:=h.az;rw[hd];cases d<;>simp[kindOk,hs,Ty.isAgg]at hk;rw[hk]
theorem ZU{A:Nat->Prop}:∀{xs:List Int} {ds:List Value},Cr (G1 w A (.int .u8)) xs ds->ds=xs.map (Value.int .u8)
 |[],_,h=>h
 |x::xs,_,⟨c,d,e,h1,h2⟩=>by
  have h1':c=[.int .u8 x]:=h1;rw[e,h1',ZU h2];rfl
theorem AaI(H:Bc w g bs){s t:Nat}{ts ti:TI}(hs:EA P s ts)(ht:EA P t ti){te:Option Ty}(D1:∀u,te=some u->ts.D4=true/\∃ff,ff.ty=u/\EA P ts.elem ff){x:AV}{u:Value}
    {K:AV->Option R} {r:R} (h:Yg bs te ti.ty x K=some r) (hx:BR w g bs.length x u) :
    ∃z,K z=some r/\Tg P w g bs.length (convert s t u) z:=by
 obtain⟨ds,hds,_⟩:=hs.az;unfold Yg at h;split at h
 ·rename_i k hk;split at h
  ·obtain rfl:=Dc hx;refine⟨_,h,B3 ?_⟩;simp[convert,underlying,hds,Sb ht hk,Conv.intToInt]
  ·cases h
 ·rename_i hk;have hut:=QH ht hk;split at h
  ·obtain rfl:=Uy hx;refine⟨_,h,WC ?_⟩;simp[convert,underlying,hds,hut]
  ·split at h
   ·rename_i he;obtain⟨Iz,ff,aI,ov⟩:=D1 _ he;split at h
    ·rename_i xs hxs;have hu:=Sb ov aI;have hsu:=BB hs Iz;have hnt:x.CZ=false:=by cases x<;>first |rfl |simp[rd]at hxs
     have Qm:x.MX=false:=by cases x<;>first |rfl |simp[rd]at hxs
     have hag:x.isAgg=false:=by
      cases x with
      |AA ks t' y =>
       simp only[rd]at hxs;obtain⟨e,_⟩:=BA hxs;subst e;rfl
      |pr a b=>simp[rd]at hxs
      |_=>rfl
     obtain⟨cs,fD,hv⟩:=BO hnt Qm hx;obtain⟨⟨ad,cap,dd,e1,Zp,hr,hm⟩,_⟩:=Pm H _ _ _ _ hxs fD;subst e1;obtain rfl:u=.slice ad xs.length cap:=by
      rw[hag]at hv;have lX:[_]=[u]:=hv;simpa using lX.symm
     refine⟨_,h,WC ?_⟩;have hdd:=ZU hr;have DR:∀b off,ad=some ⟨b,off,none⟩->(∀i,i<xs.length->w.cell? ⟨b,off+i,none⟩=some (.int .u8 (xs.getD i 0)))->(convert s t (.slice ad xs.length cap)).run P w=.ok (.string (bytesOf xs)) w:=by
      intro b off e hc;subst e;exact run_convert_bytes_arg w s ts.elem hsu hu b off xs.length cap xs rfl hc t hut
     rcases hm with Vk |⟨b,off,rfl,_,hc⟩
     ·subst Vk;cases ad with
      |none=>exact run_convert_bytes_nil w s ts.elem hsu hu 0 cap t hut
      |some a0=>simp[convert,underlying,hsu,hut,hu,Conv.bytesToString,loadCells,loadCellsFrom,bytesOf,ByteArray.empty,ByteArray.emptyWithCapacity];rfl
     ·refine DR b off rfl λi hi=>hc i _ ?_;rw[hdd];simp[List.getD,hi]
    ·cases h
   ·cases h
 ·cases h
end
section
variable {R:Type}
theorem mA(op:BinOp)(tb:Bool)(x y:AV)(K:AV->Option R):jF op tb x y K=(jF op tb x y some).bind K:=by
 unfold jF
 repeat' split
 all_goals rfl
theorem uV(op:UnOp)(x:AV)(K:AV->Option R):unA op x K=(unA op x some).bind K:=by
 unfold unA
 repeat' split
 all_goals rfl
theorem oL(bs:List Blk)(ti:TI)(x:AV)(K:AV->Option R):kF bs ti x K=(kF bs ti x some).bind K:=by
 unfold kF
 repeat' split
 all_goals rfl
theorem bq(mx:Bool)(x y:AV)(K:AV->Option R):xG mx x y K=(xG mx x y some).bind K:=by
 unfold xG
 repeat' split
 all_goals rfl
theorem AbP(bs:List Blk)(te:Ty)(x y:AV)(K:AV->Option R):rI bs te x y K=(rI bs te x y some).bind K:=by
 unfold rI
 repeat' split
 all_goals rfl
theorem oB(bs:List Blk)(te:Ty)(x y:AV)(K:AV->Option R):oA bs te x y K=(oA bs te x y some).bind K:=by
 unfold oA;split
 ·repeat' split
  all_goals rfl
 ·exact AbP ..
theorem na(x y:AV)(K:AV->Option R):jK x y K=(jK x y some).bind K:=by
 unfold jK
 repeat' split
 all_goals rfl
theorem nJ(ti:TI)(f:Nat)(x:AV)(K:AV->Option R):fz ti f x K=(fz ti f x some).bind K:=by
 unfold fz
 repeat' split
 all_goals rfl
theorem iw(bs:List Blk)(ti:TI)(x:AV)(K:AV->Option R):W8 bs ti x K=(W8 bs ti x some).bind K:=by
 unfold W8
 repeat' split
 all_goals rfl
theorem ei(bs:List Blk)(ti:TI)(te:Option Ty)(x:AV)(lo hi mx:Option AV)(K:AV->Option R):UO bs ti te x lo hi mx K=(UO bs ti te x lo hi mx some).bind K:=by
 unfold UO
 repeat' split
 all_goals rfl
theorem gF(bs:List Blk)(te:Option Ty)(td:Ty)(a:AV)(K:AV->Option R):Yg bs te td a K=(Yg bs te td a some).bind K:=by
 unfold Yg
 repeat' split
 all_goals rfl
theorem sB(bs:List Blk)(ti:TI)(x v:AV)(K:G2->Option R):ZN bs ti x v K=(ZN bs ti x v some).bind K:=by
 unfold ZN
 repeat' split
 all_goals rfl
theorem sy(bs:List Blk)(ti:TI)(x:AV)(K:G2->Option R):XU bs ti x K=(XU bs ti x some).bind K:=by
 unfold XU
 repeat' split
 all_goals rfl
theorem ix(bs:List Blk)(tk te:TI)(ok:Bool)(m x:AV)(K:AV->Option R):af bs tk te ok m x K=(af bs tk te ok m x some).bind K:=by
 unfold af
 repeat' split
 all_goals first |rfl |(cases ok<;>rfl)
theorem wA(bs:List Blk)(tk te:TI)(m x:AV)(K:G2->Option R):iy bs tk te m x K=(iy bs tk te m x some).bind K:=by
 unfold iy
 repeat' split
 all_goals rfl
theorem Aen{c:Bool}{e:G2}{K:G2->Option R}:(bif c then K e else none)=(bif c then some e else none).bind K:=by cases c<;>rfl
theorem eQ(bs:List Blk)(tk te:TI)(m x v:AV)(K:G2->Option R):YU bs tk te m x v K=(YU bs tk te m x v some).bind K:=by
 unfold YU
 repeat' split
 all_goals first |rfl |exact Aen
theorem AaQ(bs:List Blk)(tk te:TI)(m x:AV)(K:G2->Option R):vD bs tk te m x K=(vD bs tk te m x some).bind K:=by
 unfold vD
 repeat' split
 all_goals rfl
theorem Azs{c:Bool}{A:Option R}{B:Option G2}{K:G2->Option R}(h:A=B.bind K):(bif c then A else none)=(bif c then B else none).bind K:=by
 cases c
 ·rfl
 ·exact h
theorem AaR(bs:List Blk)(tk te:TI)(m j v:AV)(K:G2->Option R):vE bs tk te m j v K=(vE bs tk te m j v some).bind K:=by
 unfold vE
 repeat' split
 all_goals first
  |rfl
  |exact Azs (eQ ..)
theorem ml(fi:FI)(bs:List Blk)(e:Nat)(ti:TI)(x y:AV)(K:G2->Option R):Wn fi bs e ti x y K=(Wn fi bs e ti x y some).bind K:=by
 unfold Wn
 repeat' split
 all_goals rfl
theorem mn(fi:FI)(bs:List Blk)(e:Nat)(ti:TI)(x y:AV)(K:G2->Option R):Wo fi bs e ti x y K=(Wo fi bs e ti x y some).bind K:=by
 unfold Wo
 repeat' split
 all_goals rfl
theorem wB(fi:FI)(bs:List Blk)(e:Nat)(ti:TI)(x y:AV)(K:G2->Option R):iA fi bs e ti x y K=(iA fi bs e ti x y some).bind K:=by
 unfold iA
 repeat' split
 all_goals rfl
theorem AaJ(te:Ty)(bs:List Blk)(x:AV)(hi:Option AV)(K:G2->Option R):vz te bs x hi K=(vz te bs x hi some).bind K:=by
 unfold vz
 repeat' split
 all_goals rfl
def bH(c:Callee):Prop:=∀(R:Type) args E (K:AV->List Blk->Option R),c.run R args E K=(c.run (AV×List Blk) args E λv b=>some (v,b)).bind λp=>K p.1 p.2
theorem Wt(c:Callee)(hc:bH c)(bs:List Blk)(args:List AV)(K:G2->Option R):VK c bs args K=(VK c bs args some).bind K:=by
 unfold VK;split
 ·rfl
 ·dsimp only
  split
  ·rw[hc R,hc G2];cases c.run (AV×List Blk) _ _ λv b=>some (v,b)with
   |none=>rfl
   |some p=>simp only[AGV];split<;>rfl
  ·rfl
theorem vp(c:Callee)(hc:bH c)(bs:List Blk)(args:List AV)(K:G2->Option R):cq c bs args K=(cq c bs args some).bind K:=by
 have via:∀(bs:List Blk) (args:List AV) (F:G2->Option R) (F':G2->Option G2),(∀e,F e=(F' e).bind K)->VK c bs args F=(VK c bs args F').bind K:=λbs args F F' h=>by
  rw[Wt c hc bs args F,Wt c hc bs args F'];cases VK c bs args some with
  |none=>rfl
  |some e=>exact h e
 unfold cq;split
 ·exact Wt c hc bs args K
 ·split
  ·split
   ·split
    ·split
     ·refine via _ _ _ _ λe=>?_;split
      ·rfl
      ·split
       ·split
        ·split<;>rfl
        ·rfl
       ·rfl
     ·rfl
    ·rfl
   ·rfl
  ·rfl
theorem aP(f:(R:Type)->(AV->Option R)->Option R)(hf:∀(R:Type) (K:AV->Option R),f R K=(f AV some).bind K)(g:AV->G2)(K:G2->Option R) :
    f R (λv=>K (g v))=(f G2 λv=>some (g v)).bind K:=by
 rw[hf R,hf G2];cases f AV some<;>rfl
def WT(en:Bd):Prop:=∀g c,en.fns g=some c->bH c
theorem jY(en:Bd)(he:WT en)(σ:St)(c:Call)(K:G2->Option R):Ub en σ c K=(Ub en σ c some).bind K:=by
 unfold Ub;split
 ·split
  ·split
   ·exact aP (λR K=>kF _ _ _ K) (λR K=>oL ..) (λv=>⟨v,_,_⟩) K
   ·rfl
  ·rfl
 ·split
  ·exact aP (λR K=>xG _ _ _ K) (λR K=>bq ..) (λv=>⟨v,_,_⟩) K
  ·rfl
 ·split
  ·exact aP (λR K=>xG _ _ _ K) (λR K=>bq ..) (λv=>⟨v,_,_⟩) K
  ·rfl
 ·split
  ·split
   ·split
    ·split
     ·exact ml ..
     ·split
      ·exact mn ..
      ·rfl
    ·rfl
   ·rfl
  ·rfl
 ·rfl
 ·split
  ·split
   ·rename_i hg;exact vp _ (he _ _ hg) ..
   ·rfl
  ·rfl
 ·rfl
theorem LU(en:Bd)(he:WT en)(σ:St)(o:Oper)(K:G2->Option R):P8 en σ o K=(P8 en σ o some).bind K:=by
 unfold P8
 dsimp only
 split
 ·rfl
 ·rfl
 ·split
  ·rename_i t _;cases t<;>rfl
  ·rfl
 ·split<;>rfl
 ·split<;>rfl
 ·split
  ·split
   ·rfl
   ·split<;>rfl
  ·rfl
 ·split
  ·split
   ·split
    ·split
     ·split<;>rfl
     ·rfl
    ·rfl
   ·rfl
  ·rfl
 ·split
  ·split
   ·split
    ·exact sy ..
    ·rfl
   ·exact aP (λR K=>W8 _ _ _ K) (λR K=>iw ..) (λv=>⟨v,_,_⟩) K
  ·rfl
 ·split
  ·split
   ·rfl
   ·split
    ·split<;>rfl
    ·rfl
  ·rfl
 ·split
  ·split
   ·split
    ·split
     ·split
      ·rfl
      ·exact wA ..
     ·exact aP (λR K=>af _ _ _ _ _ _ K) (λR K=>ix ..) (λv=>⟨v,_,_⟩) K
    ·rfl
   ·rfl
  ·rfl
 ·split
  ·split
   ·split
    ·exact eQ ..
    ·rfl
   ·rfl
  ·rfl
 ·split
  ·split
   ·split
    ·exact eQ ..
    ·rfl
   ·rfl
  ·rfl
 ·split
  ·split
   ·split
    ·exact AaQ ..
    ·rfl
   ·rfl
  ·rfl
 ·split
  ·split
   ·split
    ·exact AaR ..
    ·rfl
   ·rfl
  ·rfl
 ·split
  ·exact sB ..
  ·rfl
 ·split<;>rfl
 ·split
  ·rfl
  ·exact aP (λR K=>jF _ _ _ _ K) (λR K=>mA ..) (λv=>⟨v,_,_⟩) K
 ·exact aP (λR K=>unA _ _ K) (λR K=>uV ..) (λv=>⟨v,_,_⟩) K
 ·split
  ·exact aP (λR K=>Yg _ _ _ _ K) (λR K=>gF ..) (λv=>⟨v,_,_⟩) K
  ·rfl
 ·split
  ·split<;>rfl
  ·rfl
 ·split
  ·split
   ·split
    ·exact wB ..
    ·rfl
   ·rfl
  ·rfl
 ·split
  ·split
   ·split
    ·split
     ·split
      ·exact AaJ ..
      ·rfl
     ·rfl
    ·rfl
   ·exact aP (λR K=>UO _ _ _ _ _ _ _ K) (λR K=>ei ..) (λv=>⟨v,_,_⟩) K
  ·rfl
 ·split
  ·exact aP (λR K=>fz _ _ _ K) (λR K=>nJ ..) (λv=>⟨v,_,_⟩) K
  ·rfl
 ·split
  ·split
   ·split
    ·exact aP (λR K=>oA _ _ _ _ K) (λR K=>oB ..) (λv=>⟨v,_,_⟩) K
    ·rfl
   ·rfl
  ·rfl
 ·split
  ·split
   ·exact aP (λR K=>jK _ _ K) (λR K=>na ..) (λv=>⟨v,_,_⟩) K
   ·rfl
  ·rfl
 ·split
  ·split<;>rfl
  ·rfl
 ·exact jY en he ..
 ·rfl
theorem Ua(en:Bd)(he:WT en)(σ:St)(o:Oper)(K:G2->Option R):Tk en σ o K=(Tk en σ o some).bind K:=by
 unfold Tk;split
 ·rfl
 split
 ·rfl
 split
 ·rename_i c _ _;cases c<;>rfl
 split
 ·cases cJ en o with
  |false=>exact LU en he σ o K
  |true =>
   simp only[AHb];refine(LU en he σ o _).trans (Eq.symm ?_);refine(congrArg (λx=>Option.bind x K) (LU en he σ o _)).trans ?_;rw[AHc];congr 1
   funext e
   cases uL σ.Am.length e<;>rfl
 ·rename_i t _;refine(LU en he σ o _).trans (Eq.symm ?_);refine(congrArg (λx=>Option.bind x K) (LU en he σ o _)).trans ?_;rw[AHc];congr 1
  funext e
  cases Afe σ.Am.length t e<;>rfl
theorem Q1(en:Bd)(he:WT en)(σ:St)(o:Oper)(K:G2->Option R):exec en σ o K=(exec en σ o some).bind K:=by
 unfold exec;split
 ·split
  ·split
   ·rename_i bs _;rw[Ua en he ⟨σ.AJ,bs⟩ o,Ua en he ⟨σ.AJ,bs⟩ o (λe=>if e.Bw.isEmpty=true then none else some e),AHc];congr 1
    funext e
    split<;>rfl
   ·rfl
  ·exact Ua en he σ o K
 ·exact Ua en he σ o K
end
structure JZ (w:World) (g:G) (σ:St) (a:Act):Prop where
 heap:Bc w g σ.Am
 len:σ.AJ.length=a.tmps.size
 AJ:∀(i:Nat) (x:AV),σ.AJ[i]?=some x->BR w g σ.Am.length x (a.tmps.getD i undef)
structure MP (P:Program) (σ:St) (o:Oper) (e:G2):Prop where
 grow:σ.Am.length<=e.Am.length
 ext:e.Bw=[]->∃l,e.Am=σ.Am++l
 wp:∀(a:Act) (w:World) (g:G),JZ w g σ a->∀(next:Act->World->Prop) (Q:Exit->Act->World->Prop),
  (∀v w' g',Bc w' g' e.Am->BR w' g' e.Am.length e.val v->Step e.Bw σ.Am.length w g w' g'->next (a.put o.dst v) w')->o.wp P a w next Q
def Qt(P:Program)(σ:St)(o:Oper)(z:AV):Prop :=
 ∀(a:Act) (w:World) (g:G),JZ w g σ a->∃c,(execOp a.eval o).run P w=.ok (.value c) w/\BR w g σ.Am.length z c
theorem Wy{Bw:List Nat}{sl:List AV}{i:Nat}{x:AV}(h:(Sk Bw sl)[i]?=some x):∃y,sl[i]?=some y/\x=y.drop λk=>Bw.contains k:=by
 unfold Sk at h;split at h
 ·exact⟨x,h,by rw[show(λk=>([]:List Nat).contains k)=λ_=>false from funext λ_=>rfl,Ym]⟩
 ·rw[AHo]at h;cases hs:sl[i]? with
  |none=>rw[hs]at h;cases h
  |some y=>rw[hs]at h;injection h with h;exact⟨y,rfl,h.symm⟩
theorem gJ(Bw:List Nat)(sl:List AV):(Sk Bw sl).length=sl.length:=by unfold Sk;split<;>simp
theorem YJ(d:Option Nat)(v:AV)(sl:List AV):(WX d v sl).length=sl.length:=by unfold WX;split<;>simp
theorem Up(a:Act)(d:Option Tmp)(v:Value):(a.put d v).tmps.size=a.tmps.size:=by cases d<;>simp[Act.put]
theorem ja{w:World}{g:G}{n:Nat}{sl:List AV}{a:Act}(hlen:sl.length=a.tmps.size)(h:∀(i:Nat) (x:AV),sl[i]?=some x->BR w g n x (a.tmps.getD i undef)){d:Option Nat}{x:AV}{v:Value}(hv:BR w g n x v) :
    ∀(i:Nat) (y:AV),(WX d x sl)[i]?=some y->BR w g n y ((a.put d v).tmps.getD i undef):=by
 intro i y hy;cases d with
 |none=>exact h i y hy
 |some d =>
  simp only[WX]at hy;rw[AHk]at hy;simp only[Act.put];split at hy
  ·rename_i he;subst he;split at hy
   ·rename_i hd;injection hy with hy;subst hy;rw[hlen]at hd;simpa [hd]using hv
   ·cases hy
  ·rename_i I8;have:=h i y hy;simpa [Array.getElem?_setIfInBounds_ne I8]using this
theorem JZ.after{w w':World}{g g':G}{σ:St}{a:Act}{e:G2}{d:Option Nat}{v:Value}(h:JZ w g σ a)(hg:σ.Am.length<=e.Am.length)(hh:Bc w' g' e.Am)(hv:BR w' g' e.Am.length e.val v)
    (hs:Step e.Bw σ.Am.length w g w' g'):JZ w' g' (σ.after d e) (a.put d v) where
 heap:=hh
 len:=by simp only[St.after,YJ,gJ,Up];exact h.len
 AJ:=ja (by rw[gJ];exact h.len) (λi x hx=>by
  obtain⟨y,hy,rfl⟩:=Wy hx;exact(h.AJ i y hy).step hs hg) hv
section
variable {P:Program} {σ:St} {o:Oper} {en:Bd}
theorem MP.H9{z:AV}(h:Qt P σ o z):MP P σ o ⟨z,σ.Am,[]⟩ where
 grow:=AG1 _
 ext _:=⟨[],(AHA _).symm⟩
 wp a w g hs next Q hn:=by
  obtain⟨c,hc,hz⟩:=h a w g hs;unfold Oper.wp;rw[hc];exact hn c w g hs.heap hz (Step.refl _ _ _ _)
theorem Vq{f:(R:Type)->(AV->Option R)->Option R}(hf:∀(R:Type) (K:AV->Option R),f R K=(f AV some).bind K){g:AV->G2}{e:G2}(h:f G2 (λv=>some (g v))=some e) :
    ∃z,f AV some=some z/\e=g z:=by
 rw[hf G2]at h;cases hz:f AV some with
 |none=>rw[hz]at h;cases h
 |some z=>rw[hz]at h;injection h with h;exact⟨z,rfl,h.symm⟩
theorem AaH{w:World}{g:G}{n:Nat}(v:Value):BR w g n (jR v) v:=by
 unfold jR;split
 ·exact Aca _ _
 ·exact YB _
 ·exact Acb _
 ·exact iF _
 ·exact Bn rfl (cs:=[_]) rfl (by simp[Bv,AV.isAgg])
 ·exact PX
theorem AO{w:World}{g:G}{a:Act}(h:JZ w g σ a)(x:Operand):BR w g σ.Am.length (σ.B5 x) (a.eval x):=by
 cases x with
 |tmp t =>
  simp only[St.B5,Act.eval];cases hx:σ.AJ[t]? with
  |none=>exact PX
  |some y=>exact h.AJ t y hx
 |const v=>exact AaH v
 |func f=>exact Bn (a:=.fn f .nil) rfl (cs:=[_]) ⟨[],rfl,rfl⟩ (by simp[Bv,AV.isAgg,Act.eval])
 |global g=>exact PX
theorem WI{w:World}{g:G}{a:Act}(h:JZ w g σ a)(x:Option Operand):yc w g σ.Am.length (x.map σ.B5) (x.map a.eval):=by
 cases x with
 |none=>trivial
 |some x=>exact AO h x
theorem KP{z:AV}{s:(Operand->Value)->Sem Value}(he:∀ρ,execOp ρ o=(do pure (.value (<-s ρ))))(h:∀(a:Act) (w:World) (g:G),JZ w g σ a->Tg P w g σ.Am.length (s a.eval) z):Qt P σ o z:=by
 intro a w g hs;obtain⟨c,hc,hz⟩:=h a w g hs;exact⟨c,by rw[he];simp[hc],hz⟩
theorem X7{v:Value}{cs:List Value}{b:Bool}(h:Bv b cs v)(h1:∀c∈cs,c.oneCell'=true):v.cells=cs.toArray:=by
 cases b with
 |true=>simp only[Bv,AHb]at h;subst h;rfl
 |false =>
  simp only[Bv,AHa]at h;subst h;have:=h1 v (by simp);cases v<;>first |rfl |cases this
theorem XR:∀{a:AV} {f:Nat} {v a':AV},a.Rz f v=some a'->a'.isAgg=true:=by
 intro a f v a' h;cases a with
 |AA ks t x =>
  simp only[AV.Rz]at h;cases t with
  |Au b c =>
   cases f with
   |zero=>simp only[pd,AGX]at h;subst h;rfl
   |succ f =>
    simp only[pd]at h;split at h
    ·injection h with h;subst h;rfl
    ·cases h
  |_=>cases f<;>simp[pd]at h
 |pr b c =>
  cases f with
  |zero=>simp only[AV.Rz,AGX]at h;subst h;rfl
  |succ f =>
   simp only[AV.Rz]at h;split at h
   ·injection h with h;subst h;rfl
   ·cases h
 |_=>cases f<;>simp[AV.Rz]at h
theorem uK{c0 c1 c2 vs:List Value}(h:vs.length=c1.length):(vs.toArray.zipIdx.foldl (λcs (x:Value×Nat)=>cs.setIfInBounds (c0.length+x.2) x.1) (c0++c1++c2).toArray)=(c0++vs++c2).toArray:=by
 have e:vs.toArray.zipIdx.foldl (λcs (x:Value×Nat)=>cs.setIfInBounds (c0.length+x.2) x.1) (c0++c1++c2).toArray=(vs.zipIdx 0).foldl (λcs (x:Value×Nat)=>cs.setIfInBounds (c0.length+x.2) x.1) (c0++c1++c2).toArray:=by
  rw[<-Array.foldl_toList,Array.toList_zipIdx]
 rw[e];obtain⟨h1,h2⟩:=Great.foldl_set c0.length vs 0 (c0++c1++c2).toArray;apply Array.ext_getElem?;intro k;rw[h2 k];simp only[Nat.add_zero,List.size_toArray,AGZ,List.getElem?_toArray];by_cases hk:c0.length<=k/\k<c0.length+vs.length/\k<c0.length+c1.length+c2.length
 ·rw[AHd hk,AG3,AHh hk.1,AHi (by omega)]
 ·rw[AHe hk];rcases AG6 k c0.length with h' |h'
  ·rw[AG3,AG3,AHi h',AHi h']
  ·have:c0.length+vs.length<=k:=by omega
   rw[AHh (by simp;omega),AHh (by simp;omega)];simp[h]
theorem iP{ty:Ty}:∀{fs:List Field} {os:List Nat} {i:Nat},MQ P ty i fs os=true ->
    ∃pl,fs.mapM (λf=>(P.info? f.type).map λi=>(f.offset,i.size))=some pl/\∀j o,os[j]?=some o->∃u,eN ty (i+j)=some u/\pl[j]?=some (o,u.size)
 |[],[],_,_=>⟨[],rfl,λj o h=>by simp at h⟩
 |f::fs,o::os,i,h=>by
  simp only[MQ,AG2,beq_iff_eq]at h;obtain⟨⟨⟨h1,_⟩,h3⟩,h4⟩:=h;obtain⟨pl,hp,hq⟩:=iP h4;split at h3
  ·rename_i u hu;simp only[AG2,beq_iff_eq]at h3;cases hi:P.info? f.type with
   |none=>simp[hi]at h3
   |some inf =>
    simp[hi]at h3;refine⟨(f.offset,inf.size)::pl,by simp[List.mapM_cons,hi,hp],λj o' ho=>?_⟩;cases j with
    |zero=>simp at ho;subst ho;exact⟨u,by simpa using hu,by simp[h1,h3.1.1]⟩
    |succ j =>
     obtain⟨u',h5,h6⟩:=hq j o' (by simpa using ho);exact⟨u',by rw[show i+(j+1)=i+1+j by omega];exact h5,by simpa using h6⟩
  ·cases h3
 |[],_::_,_,h=>by simp[MQ]at h
 |_::_,[],_,h=>by simp[MQ]at h
theorem sJ{v:AV}(h:v.Y0=true):v.MX=false/\v.CZ=false:=by cases v<;>simp_all [AV.Y0,AV.MX,AV.CZ]
theorem cb{w:World}{g:G}{n:Nat}{ti:TI}{pl:List (Nat×Nat)}(om:∀j o,ti.Uo[j]?=some o->∃u,eN ti.ty j=some u/\pl[j]?=some (o,u.size)){ρ:Operand->AV}{ε:Operand->Value}(hρ:∀x,BR w g n (ρ x) (ε x)) :
    ∀{ps:List (Nat×Operand)} {a z:AV} {cs:List Value},VJ ti a (ps.map λp=>(p.1,ρ p.2))=some z->Cq w g n false a cs->a.isAgg=true ->
     ∃fv,Instr.fill (pl.toArray[·]?) cs.toArray (ps.map λp=>(p.1,ε p.2))=some fv.toArray/\Cq w g n false z fv/\z.isAgg=true
 |[],a,z,cs,h,hx,hg=>by
  simp only[List.map_nil,VJ,AGX]at h;subst h;exact⟨cs,rfl,hx,hg⟩
 |(f,x)::ps,a,z,cs,h,hx,hg=>by
  simp only[List.map_cons,VJ]at h;split at h
  ·rename_i fW Ug;split at h
   ·rename_i hc;obtain⟨Ks,Amm,MS,aI⟩:=hc;split at h
    ·rename_i a' ha';obtain⟨c0,c1,c2,e,ho,aK,hs⟩:=VS a f cs fW hx Ug;obtain⟨Qm,V2⟩:=sJ Amm;obtain⟨cv,XB,hv⟩:=BO V2 Qm (hρ x);have hvc:=X7 hv XB.one;obtain⟨u,hu,hp⟩:=om f c0.length (by rw[<-MS];exact ho);rw[hu]at aI;simp only[Option.map_some,AGX]at aI;have R9:cv.length=c1.length:=by rw[XB.len,aK.len,Ks]
     obtain⟨fv,hf,hz,hza⟩:=cb om hρ h (hs _ _ _ ha' XB) (XR ha');refine⟨fv,?_,hz,hza⟩;simp only[List.map_cons];unfold Instr.fill;have vW:pl.toArray[f]?=some (c0.length,u.size):=by simpa using hp
     simp only[vW];have RN:(ε x).cells.size=u.size:=by rw[hvc];simp only[List.size_toArray];rw[XB.len];omega
     have OV:¬c0.length+(ε x).cells.size>cs.toArray.size:=by
      rw[hvc,e];simp;omega
     simp only[RN,ne_eq,not_true_eq_false,decide_false,Bool.false_or];rw[RN]at OV;simp only[OV,decide_false,Bool.false_eq_true,if_false];rw[<-hf];congr 1;rw[hvc,e];exact uK R9
    ·cases h
   ·cases h
  ·cases h
end
section
variable {P:Program} {σ:St} {o:Oper} {en:Bd} {e:G2}
theorem pw{x:Operand}(ho:o.op=.move x\/o.op=.assign x):MP P σ o ⟨σ.B5 x,σ.Am,[]⟩ :=
 .H9 λa w g hs=>⟨a.eval x,by rcases ho with ho |ho<;>simp[execOp,ho],AO hs x⟩
theorem Ac5{c x y:Operand}(ho:o.op=.pick c x y){ks:List Nat}{t:Bool}(hc:σ.B5 c=.AA ks .bool t):MP P σ o ⟨bif t then σ.B5 x else σ.B5 y,σ.Am,[]⟩ :=
 .H9 λa w g hs=>by
  have h:=AO hs c;rw[hc]at h;have h:=QZ h;refine⟨if t then a.eval x else a.eval y,by simp[execOp,ho,h,asBool],?_⟩;cases t
  ·exact AO hs y
  ·exact AO hs x
theorem YQ{x:Operand}(ho:o.op=.nilCheck x)(hp:∀(w:World) (g:G) n v,BR w g n (σ.B5 x) v->∃a,v=.pointer (some a)):MP P σ o ⟨σ.B5 x,σ.Am,[]⟩ :=
 .H9 λa w g hs=>by
  obtain⟨ad,h⟩:=hp w g _ _ (AO hs x);exact⟨a.eval x,by simp[execOp,ho,h],AO hs x⟩
theorem wZ{op:BinOp}{t:TypeId}{x y:Operand}{yt:TypeId}(ho:o.op=.binOp op t x y yt){tb:Bool}(htb:tb=true->P.underlying t=some .bool){z:AV}(h:jF op tb (σ.B5 x) (σ.B5 y) some=some z):MP P σ o ⟨z,σ.Am,[]⟩ :=
 .H9 <| KP (s:=λρ=>do eqGuard op t x y (ρ x) (ρ y);binOp op t (ρ x) (ρ y)) (λρ=>by simp[execOp,ho]) λa w g hs=>by
  obtain⟨z',e,hG⟩:=Aeo t x y htb h (AO hs x) (AO hs y);injection e with e;subst e;exact hG
theorem Ac6{op:UnOp}{t:TypeId}{x:Operand}(ho:o.op=.unOp op t x){z:AV}(h:unA op (σ.B5 x) some=some z):MP P σ o ⟨z,σ.Am,[]⟩ :=
 .H9 <| KP (s:=λρ=>Op.unary op (ρ x)) (λρ=>by simp[execOp,ho]) λa w g hs=>by
  obtain⟨z',e,hG⟩:=AmN h (AO hs x);injection e with e;subst e;exact hG
theorem pn{s t:TypeId}{x:Operand}(ho:o.op=.convert s t x){ts ti:TI}(hs:EA P s ts)(ht:EA P t ti){te:Option Ty}(D1:∀u,te=some u->ts.D4=true/\∃ff,ff.ty=u/\EA P ts.elem ff){z:AV}
    (h:Yg σ.Am te ti.ty (σ.B5 x) some=some z):MP P σ o ⟨z,σ.Am,[]⟩ :=
 .H9 <| KP (s:=λρ=>convert s t (ρ x)) (λρ=>by simp[execOp,ho]) λa w g BH=>by
  obtain⟨z',e,hG⟩:=AaI BH.heap hs ht D1 h (AO BH x);injection e with e;subst e;exact hG
theorem AcZ{t:TypeId}{x:Operand}(ho:o.op=.load t x){ti:TI}(ht:EA P t ti){z:AV}(h:W8 σ.Am ti (σ.B5 x) some=some z):MP P σ o ⟨z,σ.Am,[]⟩ :=
 .H9 <| KP (s:=λρ=>Instr.loadAt t (ρ x)) (λρ=>by simp[execOp,ho]) λa w g BH=>by
  obtain⟨z',e,hG⟩:=Ab1 BH.heap ht h (AO BH x);injection e with e;subst e;exact hG
theorem fZ{t:TypeId}{x:Operand}{f:Nat}(ho:o.op=.fieldAddr t x f){ti:TI}(ht:EA P t ti){z:AV}(h:fz ti f (σ.B5 x) some=some z):MP P σ o ⟨z,σ.Am,[]⟩ :=
 .H9 <| KP (s:=λρ=>Instr.fieldAt t (ρ x) f) (λρ=>by simp[execOp,ho]) λa w g BH=>by
  obtain⟨z',e,hG⟩:=Afb (n:=σ.Am.length) ht h (AO BH x);injection e with e;subst e;exact hG
theorem ga{t:TypeId}{x i:Operand}(ho:o.op=.indexAddr t x i){ti te:TI}(ht:EA P t ti)(D1:EA P ti.elem te)(Iz:ti.D4=true){z:AV}(h:rI σ.Am te.ty (σ.B5 x) (σ.B5 i) some=some z):MP P σ o ⟨z,σ.Am,[]⟩ :=
 .H9 <| KP (s:=λρ=>Instr.indexAt t (ρ x) (ρ i)) (λρ=>by simp[execOp,ho]) λa w g BH=>by
  obtain⟨z',e,hG⟩:=Afy BH.heap ht D1 Iz h (AO BH x) (AO BH i);injection e with e;subst e;exact hG
theorem w9{t:TypeId}{x i:Operand}(ho:o.op=.index t x i){ti:TI}(ht:EA P t ti)(hs:ti.ty=.str){z:AV}(h:jK (σ.B5 x) (σ.B5 i) some=some z):MP P σ o ⟨z,σ.Am,[]⟩ :=
 .H9 <| KP (s:=λρ=>Instr.index t (ρ x) (ρ i)) (λρ=>by simp[execOp,ho]) λa w g BH=>by
  obtain⟨z',e,hG⟩:=Ae2 (n:=σ.Am.length) ht hs h (AO BH x) (AO BH i);injection e with e;subst e;exact hG
theorem xd{t:TypeId}{x:Operand}{lo hi mx:Option Operand}(ho:o.op=.slice t x lo hi mx){ti:TI}(ht:EA P t ti){te:Option Ty}(D1:∀u,te=some u->ti.D4=true/\∃ff,ff.ty=u/\EA P ti.elem ff){z:AV}
    (h:UO σ.Am ti te (σ.B5 x) (lo.map σ.B5) (hi.map σ.B5) (mx.map σ.B5) some=some z):MP P σ o ⟨z,σ.Am,[]⟩ :=
 .H9 <| KP (s:=λρ=>Instr.sliceAt t (ρ x) (lo.map ρ) (hi.map ρ) (mx.map ρ)) (λρ=>by simp[execOp,ho]) λa w g BH=>by
  obtain⟨z',e,hG⟩:=wW BH.heap ht D1 h (AO BH x) (WI BH lo) (WI BH hi) (WI BH mx);injection e with e;subst e;exact hG
theorem po{x:Operand}{i:Nat}(ho:o.op=.extract x i){z:AV}(h:Ov (σ.B5 x) i=some z)(hz:z.CZ=false):MP P σ o ⟨z,σ.Am,[]⟩ :=
 .H9 <| KP (s:=λρ=>Instr.extract (ρ x) i) (λρ=>by simp[execOp,ho]) λa w g BH=>by
  have hx:=AO BH x;cases hq:σ.B5 x with
  |cons b c =>
   rw[hq]at hx h;obtain⟨vs,e,hx⟩:=hx;obtain⟨v,hv,hr⟩:=tM h hx;exact⟨v,by simp[Instr.extract,e,hv],hr hz⟩
  |_=>rw[hq]at h;simp[Ov]at h
theorem Wl{w:World}{g:G}{n:Nat}:∀{t:Ty},Cq w g n false t.Xi (PY t)
 |.int k=>⟨λ_ h=>by(cases h),rfl⟩
 |.bool=>⟨λ_ h=>by(cases h),rfl⟩
 |.str=>⟨λ_ h=>by(cases h),rfl⟩
 |.unit=>⟨λ_ h=>by(cases h),rfl⟩
 |.Au a b=>⟨_,_,rfl,Wl,Wl⟩
 |.sl _=>⟨none,rfl⟩
 |.P3 0=>rfl
 |.P3 1=>⟨rfl,by simp[PY,Value.oneCell']⟩
 |.P3 (_+2)=>⟨rfl,by simp[PY,Value.oneCell']⟩
theorem je:∀{t:Ty},t.Xi.isAgg=t.isAgg
 |.int _=>rfl
 |.bool=>rfl
 |.str=>rfl
 |.unit=>rfl
 |.Au _ _=>rfl
 |.sl _=>rfl
 |.P3 0=>rfl
 |.P3 (_+1)=>rfl
theorem w5{t:TypeId}{FC:Array (Nat×Operand)}(ho:o.op=.build t FC){ti:TI}(ht:EA P t ti)(gZ:ti.Uo≠[]){z:AV}(h:VJ ti ti.ty.Xi (FC.toList.map λp=>(p.1,σ.B5 p.2))=some z):MP P σ o ⟨z,σ.Am,[]⟩ :=
 .H9 <| KP (s:=λρ=>Instr.build t (FC.map λ(i,x)=>(i,ρ x))) (λρ=>by simp[execOp,ho]) λa w g BH=>by
  obtain⟨o0,ho0⟩:∃o0,ti.Uo[0]?=some o0:=by
   cases hq:ti.Uo with
   |nil=>exact(gZ hq).elim
   |cons o0 r=>exact⟨o0,rfl⟩
  obtain⟨fs,hu,hf⟩:=US ht ho0;obtain⟨pl,om,hp⟩:=iP hf;obtain⟨i,zv,hi,Ks,lU,hz,rA,nT⟩:=ht.info;have ha:ti.ty.isAgg=true:=by
   obtain⟨d,hd,hk⟩:=ht.az;rw[hu]at hd;injection hd with hd;subst hd;simp only[kindOk,AG2]at hk;exact hk.1
  obtain⟨fv,nY,hx,hxa⟩:=cb (n:=σ.Am.length) (λj o hj=>by simpa using hp j o hj) (AO BH) h Wl (by rw[je];exact ha);refine⟨.agg fv.toArray,run_build w t _ _ ?_,Bn (TQ hx) hx (by rw[hxa];rfl)⟩;unfold Program.built;have ib:zv.cells=(PY ti.ty).toArray:=by rw[<-rA]
  simp only[hi,hu,hz,om,ib];simpa using nY
theorem Agz{w:World}{g:G}{n:Nat}{ρ:Operand->AV}{ε:Operand->Value}(hρ:∀x,BR w g n (ρ x) (ε x)):∀(l:List Operand),Cq w g n true (Uz (l.map ρ)) (l.map ε)
 |[]=>rfl
 |x::l=>by
  refine⟨ε x,l.map ε,rfl,?_,Agz hρ l⟩;have h:=hρ x;split
  ·exact .inl rfl
  ·rename_i ht;exact(BR.iff (by simpa using ht)).1 h
theorem lf{f:FuncId}{first WW:Array Operand}(ho:o.op=.makeFunc (.func f) first WW)(h0:first.size=0):MP P σ o ⟨.fn f (Uz (WW.toList.map σ.B5)),σ.Am,[]⟩ :=
 .H9 λa w g hs=>by
  have hf:first.map a.eval=#[]:=by
   apply Array.eq_empty_of_size_eq_zero;simp[h0]
  have hr:(execOp a.eval o).run P w=.ok (.value (.func (.func f) #[] (WW.map a.eval))) w:=by simp[execOp,ho,Instr.makeFunc,hf]
  have hv:Cq w g σ.Am.length false (.fn f (Uz (WW.toList.map σ.B5))) [.func (.func f) #[] (WW.map a.eval)]:=⟨WW.toList.map a.eval,by rw[<-Array.toList_map,Array.toArray_toList],Agz (AO hs) _⟩;exact⟨_,hr,Bn rfl hv (by simp[Bv,AV.isAgg])⟩
theorem kM{k:Nat}{i:Int}{p:List Nat}{q:Nat}{w:World}{g:G}{n:Nat}{v:Value}(h:BR w g n (.ptr k i p q) v):∃a,v=.pointer (some a):=by
 obtain⟨_,_,_,b,_,e⟩:=KA h;exact⟨_,e⟩
theorem kN{ks:List Nat}{t:Ty}{y:t.V}{w:World}{g:G}{n:Nat}{v:Value}(h:BR w g n (.Eh ks t y) v):∃a,v=.pointer (some a):=by
 obtain⟨_,b,off,_,e,_⟩:=Wq h;exact⟨_,e⟩
end
end Go.Va
