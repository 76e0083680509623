import GoSem.Step
import Derived.Calls
import Derived.Orders
import Derived.Below
import Derived.Laws.AppendOwn
import Derived.Laws.MakeOwn
import Derived.Laws.CopyRow
import Derived.Laws.Tables
import Derived.Deep.MidRow
set_option linter.unusedVariables false
set_option linter.unusedSimpArgs false
namespace Go.Va
inductive Ty where
 | int (k:IntKind)| bool | str | unit | pair (a b:Ty)| sl (t:Ty)| opq (z:Nat)
 deriving DecidableEq
@[reducible] def Ty.V:Ty→Type
 | .int _=>Int
 | .bool=>Bool
 | .str=>ByteArray
 | .unit=>Unit
 | .pair a b=>a.V×b.V
 | .sl t=>List t.V
 | .opq _=>Unit
def Ty.zero:(t:Ty)→t.V
 | .int _=>0
 | .bool=>false
 | .str=>⟨#[]⟩
 | .unit=>()
 | .pair a b=>(a.zero,b.zero)
 | .sl _=>[]
 | .opq _=>()
def Ty.size:Ty→Nat
 | .unit=>0
 | .pair a b=>a.size+b.size
 | _=>1
def Ty.flat:Ty→Bool
 | .sl _=>false
 | .opq _=>false
 | .pair a b=>a.flat&&b.flat
 | _=>true
def Ty.data:Ty→Bool
 | .opq _=>false
 | .pair a b=>a.data&&b.data
 | .sl t=>t.data
 | _=>true
def Ty.isAgg:Ty→Bool
 | .unit=>true
 | .pair _ _=>true
 | _=>false
def castV(t u:Ty)(x:t.V):Option u.V:=if h:t=u then some (h▸x) else none
inductive AV where
 | dat (ks:List Nat) (t:Ty) (x:t.V)
 | zs
 | ref (k:Nat)
 | ptr (k:Nat) (i:Int) (p:List Nat) (o:Nat)
 | rop (ks:List Nat) (t:Ty) (x:t.V)
 | nilp
 | pr (a b:AV)
 | fn (f:Nat) (caps:AV)
 | cons (a b:AV)
 | nil
 | nst (k:Nat) (i:Int) (p:List Nat) (o e:Nat)
 | sld (k n:Nat)
 | mp (k:Nat)
 | un (n:Nat)
inductive RM where
 | deep | sh (ks:List Nat)
inductive Blk where
 | box (a:AV)
 | row (e:Nat) (m:RM) (t:Ty) (xs:List t.V)
 | map (m:RM) (kt vt:Ty) (es:List (kt.V×vt.V)) (st:Option kt.V)
 | hole (e:Nat) (t:Ty) (xs:List t.V) (i:Int) (p:List Nat)
 | dead
def AV.size:AV→Nat
 | .dat _ t _=>t.size
 | .pr a b=>a.size+b.size
 | .un n=>n
 | _=>1
def AV.isAgg:AV→Bool
 | .dat _ t _=>t.isAgg
 | .pr _ _=>true
 | _=>false
@[reducible] def AV.int (k:IntKind) (n:Int):AV:=.dat [] (.int k) n
@[reducible] def AV.bool (b:Bool):AV:=.dat [] .bool b
@[reducible] def AV.str (s:ByteArray):AV:=.dat [] .str s
@[reducible] def AV.u:AV:=.dat [] .unit ()
def Ty.zeroA:Ty→AV
 | .pair a b=>.pr a.zeroA b.zeroA
 | .sl _=>.zs
 | .opq 0=>.nilp
 | .opq _=>.un 1
 | .int k=>.dat [] (.int k) (0:Int)
 | .bool=>.dat [] .bool false
 | .str=>.dat [] .str ⟨#[]⟩
 | .unit=>.dat [] .unit ()
def ksOf(ks:List Nat)(t:Ty):List Nat:=if t.flat then[] else ks
def fldD(ks:List Nat):(t:Ty)→t.V→Nat→Option AV
 | .pair a _,x,0=>some (.dat (ksOf ks a) a x.1)
 | .pair _ b,x,n+1=>fldD ks b x.2 n
 | _,_,_=>none
def AV.fld:AV→Nat→Option AV
 | .dat ks t x,n=>fldD ks t x n
 | .pr a _,0=>some a
 | .pr _ b,n+1=>b.fld n
 | _,_=>none
def offD:Ty→Nat→Option Nat
 | .pair _ _,0=>some 0
 | .pair a b,n+1=>match offD b n with | some o=>some (a.size+o)| none=>none
 | _,_=>none
def AV.off:AV→Nat→Option Nat
 | .dat _ t _,n=>offD t n
 | .pr _ _,0=>some 0
 | .pr a b,n+1=>match b.off n with | some o=>some (a.size+o)| none=>none
 | _,_=>none
def tyF:Ty→Nat→Option Ty
 | .pair a _,0=>some a
 | .pair _ b,n+1=>tyF b n
 | _,_=>none
def tyP:Ty→List Nat→Option Ty
 | t,[]=>some t
 | t,f::p=>match tyF t f with | some u=>tyP u p | none=>none
def offTP:Ty→List Nat→Option Nat
 | _,[]=>some 0
 | t,f::p=>match tyF t f,offD t f with
  | some u,some o=>match offTP u p with | some o'=>some (o+o')| none=>none
  | _,_=>none
def setD(ks:List Nat):(t:Ty)→t.V→Nat→AV→Option AV
 | .pair _ b,x,0,v=>some (.pr v (.dat (ksOf ks b) b x.2))
 | .pair a b,x,n+1,v=>match setD ks b x.2 n v with | some r=>some (.pr (.dat (ksOf ks a) a x.1) r)| none=>none
 | _,_,_,_=>none
def AV.setFld:AV→Nat→AV→Option AV
 | .dat ks t x,n,v=>setD ks t x n v
 | .pr _ b,0,v=>some (.pr v b)
 | .pr a b,n+1,v=>match b.setFld n v with | some r=>some (.pr a r)| none=>none
 | _,_,_=>none
def AV.getP:AV→List Nat→Option AV
 | a,[]=>some a
 | a,f::p=>match a.fld f with | some b=>b.getP p | none=>none
def AV.offP:AV→List Nat→Option Nat
 | _,[]=>some 0
 | a,f::p=>match a.fld f,a.off f with
  | some b,some o=>match b.offP p with | some o'=>some (o+o')| none=>none
  | _,_=>none
def AV.setP:AV→List Nat→AV→Option AV
 | _,[],v=>some v
 | a,f::p,v=>match a.fld f with
  | some b=>match b.setP p v with | some r=>a.setFld f r | none=>none
  | none=>none
def setF:(t:Ty)→t.V→Nat→(∀u:Ty,u.V→Option u.V)→Option t.V
 | .pair a _,x,0,f=>match f a x.1 with | some y=>some (y,x.2)| none=>none
 | .pair _ b,x,n+1,f=>match setF b x.2 n f with | some y=>some (x.1,y)| none=>none
 | _,_,_,_=>none
def setV(u:Ty)(y:u.V):(p:List Nat)→(t:Ty)→t.V→Option t.V
 | [],t,_=>castV u t y
 | f::p,t,x=>setF t x f (fun t' x'=>setV u y p t' x')
def AV.ids:AV→List Nat
 | .dat ks _ _=>ks
 | .rop ks _ _=>ks
 | .ref k=>[k]
 | .ptr k _ _ _=>[k]
 | .nst k _ _ _ _=>[k]
 | .sld k _=>[k]
 | .mp k=>[k]
 | .pr a b=>a.ids++b.ids
 | .fn _ c=>c.ids
 | .cons a b=>a.ids++b.ids
 | _=>[]
def RM.ids:RM→List Nat
 | .deep=>[]
 | .sh ks=>ks
def Blk.ids:Blk→List Nat
 | .box a=>a.ids
 | .row _ m _ _=>m.ids
 | .map m _ _ _ _=>m.ids
 | .hole _ _ _ _ _=>[]
 | .dead=>[]
def AV.ren(f:Nat→Nat):AV→AV
 | .dat ks t x=>.dat (ks.map f) t x
 | .rop ks t x=>.rop (ks.map f) t x
 | .ref k=>.ref (f k)
 | .ptr k i p o=>.ptr (f k) i p o
 | .nst k i p o e=>.nst (f k) i p o e
 | .sld k n=>.sld (f k) n
 | .mp k=>.mp (f k)
 | .pr a b=>.pr (a.ren f) (b.ren f)
 | .fn g c=>.fn g (c.ren f)
 | .cons a b=>.cons (a.ren f) (b.ren f)
 | .zs=>.zs
 | .nilp=>.nilp
 | .nil=>.nil
 | .un n=>.un n
def RM.ren(f:Nat→Nat):RM→RM
 | .deep=>.deep
 | .sh ks=>.sh (ks.map f)
def Blk.ren(f:Nat→Nat):Blk→Blk
 | .box a=>.box (a.ren f)
 | .row e m t xs=>.row e (m.ren f) t xs
 | .map m kt vt es st=>.map (m.ren f) kt vt es st
 | .hole e t xs i p=>.hole e t xs i p
 | .dead=>.dead
def canonL(n:Nat)(ks:List Nat):List Nat:=(List.range n).filter fun k=>ks.contains k
def AV.canon(n:Nat):AV→AV
 | .dat ks t x=>.dat (canonL n ks) t x
 | .rop ks t x=>.rop (canonL n ks) t x
 | .pr a b=>.pr (a.canon n) (b.canon n)
 | .fn f c=>.fn f (c.canon n)
 | .cons a b=>.cons (a.canon n) (b.canon n)
 | a=>a
def Blk.canon(n:Nat):Blk→Blk
 | .box a=>.box (a.canon n)
 | .row e (.sh ks) t xs=>.row e (.sh (canonL n ks)) t xs
 | .map (.sh ks) kt vt es st=>.map (.sh (canonL n ks)) kt vt es st
 | b=>b
def AV.drop(bad:Nat→Bool):AV→AV
 | .dat ks t x=>if ks.any bad then .un t.size else .dat ks t x
 | .rop ks t x=>if ks.any bad then .un 1 else .rop ks t x
 | .nst k i p o e=>if bad k then .un 1 else .nst k i p o e
 | .pr a b=>.pr (a.drop bad) (b.drop bad)
 | .fn g c=>.fn g (c.drop bad)
 | .cons a b=>.cons (a.drop bad) (b.drop bad)
 | a=>a
def Blk.drop(bad:Nat→Bool):Blk→Blk
 | .box a=>.box (a.drop bad)
 | .row e m t xs=>if m.ids.any bad then .dead else .row e m t xs
 | .map m kt vt es st=>if m.ids.any bad then .dead else .map m kt vt es st
 | .hole e t xs i p=>.hole e t xs i p
 | .dead=>.dead
structure St where
 slots:List AV
 blks:List Blk
structure Eff where
 val:AV
 blks:List Blk
 mods:List Nat
structure TI where
 ty:Ty
 offs:List Nat
 elem:Nat
 bytes:Nat
 arr:Nat:=0
 mkey:Nat:=0
 eqs:Bool:=false
def TI.isSl(ti:TI):Bool:=match ti.ty with | .sl _=>true | _=>false
abbrev Tab:=List (Nat×TI)
def Tab.get:Tab→Nat→Option TI
 | [],_=>none
 | (k,i)::r,t=>if k==t then some i else Tab.get r t
inductive PM where
 | d (t:Ty)| p (t:Ty)| raw
structure Callee where
 modes:List PM
 run:(R:Type)→List AV→List Blk→(AV→List Blk→Option R)→Option R
inductive Co where
 | row (p:List Nat) (e:Nat) (t:Ty) (deep:Bool)
 | dat (t:Ty)
 | deps (ks:List Nat)
structure SH where
 live:List Nat
 mv:List Nat:=[]
 frz:List (Nat×Bool×Ty):=[]
 pre:List (Nat×Bool×Co):=[]
 wid:List (Nat×List Nat):=[]
 post:List (Nat×Bool×Co):=[]
 mvp:List (Nat×List Nat):=[]
 quiet:Bool:=false
inductive Fi where
 | co (k:Nat) (c:Co)| mv (k:Nat) (p:List Nat)| dead (j:Nat)| mvs (s:Nat) (p:List Nat)
structure FI where
 deep:Bool:=false
 take:List Nat:=[]
 nest:List (Nat×Nat):=[]
 heads:List (Nat×SH):=[]
 outs:List (Nat×SH):=[]
 joins:List (Nat×SH):=[]
 draws:List (Nat×SH):=[]
 ents:List (Nat×List Nat):=[]
 unr:List (Nat×Nat):=[]
 cpre:List (Nat×List (Nat×List (List Nat)×Co)):=[]
 fin:List Fi:=[]
 dents:List (Nat×List Nat):=[]
 frzd:List (Nat×Ty):=[]
 shal:List Nat:=[]
 frz:List (Nat×Ty):=[]
 res:List (Nat×Co):=[]
 stl:List Nat:=[]
structure Env where
 tab:Tab
 fns:Nat→Option Callee
 fi:FI
def constAV:Value→AV
 | .int k n=>.int k n
 | .bool b=>.bool b
 | .string s=>.str s
 | .slice none 0 0=>.zs
 | .pointer none=>.nilp
 | _=>.un 0
def St.opd(σ:St):Operand→AV
 | .tmp t=>(σ.slots[t]?).getD (.un 0)
 | .const v=>constAV v
 | .func f=>.fn f .nil
 | _=>.un 0
def AV.noN:AV→AV
 | .nst _ _ _ _ _=>.un 1
 | .pr a b=>.pr a.noN b.noN
 | .fn f c=>.fn f c.noN
 | .cons a b=>.cons a.noN b.noN
 | a=>a
def Blk.noN:Blk→Blk
 | .box a=>.box a.noN
 | b=>b
def AV.hasN:AV→Bool
 | .nst _ _ _ _ _=>true
 | .pr a b=>a.hasN||b.hasN
 | .fn _ c=>c.hasN
 | .cons a b=>a.hasN||b.hasN
 | _=>false
def Blk.hasN:Blk→Bool
 | .box a=>a.hasN
 | _=>false
def Blk.kill(bs:List Blk):List Nat→List Blk
 | []=>bs
 | k::r=>Blk.kill (bs.set k .dead) r
def dropS(mods:List Nat)(sl:List AV):List AV:=match mods with | []=>sl | m::ms=>sl.map (·.drop fun k=>(m::ms).contains k)
def dropB(mods:List Nat)(bs:List Blk):List Blk:=match mods with | []=>bs | m::ms=>bs.map (·.drop fun k=>(m::ms).contains k)
def offM(mods:List Nat)(m:RM):Bool:=m.ids.all fun k=>!mods.contains k
def putS(d:Option Nat)(v:AV)(sl:List AV):List AV:=match d with | some d=>sl.set d v | none=>sl
def St.after(σ:St)(d:Option Nat)(e:Eff):St:={slots:=putS d e.val (dropS e.mods σ.slots),blks:=e.blks}
def AV.isTup:AV→Bool
 | .cons _ _=>true
 | .nil=>true
 | _=>false
def AV.top:AV→Bool
 | .un _=>false
 | .cons _ _=>false
 | .nil=>false
 | _=>true
def rd(bs:List Blk):(t:Ty)→AV→Option t.V
 | .pair a b,av=>match av with
  | .dat _ t x=>castV t (.pair a b) x
  | .pr u v=>match rd bs a u,rd bs b v with | some x,some y=>some (x,y)| _,_=>none
  | _=>none
 | .sl t,av=>match av with
  | .dat _ u x=>castV u (.sl t) x
  | .zs=>some []
  | .ref k=>match bs[k]? with | some (.row _ _ u xs)=>castV (.sl u) (.sl t) xs | _=>none
  | _=>none
 | t,av=>match av with | .dat _ u x=>castV u t x | _=>none
def atB(bs:List Blk)(k:Nat)(i:Int):Option AV:=match bs[k]? with
 | some (.box a)=>some a
 | some (.row _ m t xs)=>some (.dat (ksOf (match m with | .deep=>[k]| .sh ks=>ks) t) t (xs.getD i.toNat t.zero))
 | _=>none
def atP(bs:List Blk)(k:Nat)(i:Int)(p:List Nat)(o:Nat):Option AV:=match atB bs k i with
 | some a=>if a.offP p=some o then a.getP p else none
 | none=>none
def AV.refs:AV→List Nat
 | .ref k=>[k]
 | .pr a b=>a.refs++b.refs
 | _=>[]
def AV.deps:AV→List Nat
 | .dat ks _ _=>ks
 | .pr a b=>a.deps++b.deps
 | _=>[]
def AV.flatD:AV→Bool
 | .dat _ t _=>t.flat
 | .zs=>true
 | .ref _=>true
 | .pr a b=>a.flatD&&b.flatD
 | _=>false
def Ty.row(t:Ty):Bool:=t.data&&t.size !=0
def rowM(bs:List Blk)(k:Nat):Option RM:=match bs[k]? with | some (.row _ m _ _)=>some m | _=>none
def AV.lend(bs:List Blk):AV→List Nat
 | .dat ks _ _=>ks
 | .ref k=>k::(match rowM bs k with | some m=>m.ids | none=>[])
 | .pr a b=>a.lend bs++b.lend bs
 | _=>[]
def nodup:List Nat→Bool
 | []=>true
 | k::r=>!r.contains k&&nodup r
def take(bs:List Blk)(m:RM)(t:Ty)(v:AV):Option (t.V×RM×List Nat) :=
 match rd bs t v with
 | none=>none
 | some y =>
  let rs:=v.refs
  match m with
  | .deep=>if v.flatD&&nodup rs&&rs.all (fun k=>match rowM bs k with | some .deep=>true | _=>false) then some (y,.deep,rs) else none
  | .sh ks=>if nodup rs&&rs.all (fun k=>(rowM bs k).isSome) then
      some (y,.sh (ks++v.deps++rs.flatMap (fun k=>match rowM bs k with | some (.sh l)=>l | _=>[])),rs) else none
def getF{A:Type}:(t:Ty)→t.V→Nat→(∀u:Ty,u.V→Option A)→Option A
 | .pair a _,x,0,f=>f a x.1
 | .pair _ b,x,n+1,f=>getF b x.2 n f
 | _,_,_,_=>none
def getT(u:Ty):(p:List Nat)→(t:Ty)→t.V→Option u.V
 | [],t,x=>castV t u x
 | f::p,t,x=>getF t x f (fun t' x'=>getT u p t' x')
def Ty.keyed:Ty→Bool
 | .int _=>true
 | .str=>true
 | .pair (.int _) (.pair (.int _) .unit)=>true
 | _=>false
def strEq(s t:ByteArray):Bool:=s.toList==t.toList
def keyEq:(t:Ty)→t.V→t.V→Bool
 | .int _,x,y=>x==y
 | .str,x,y=>strEq x y
 | .pair a b,x,y=>keyEq a x.1 y.1&&keyEq b x.2 y.2
 | .unit,_,_=>true
 | _,_,_=>false
def flatEq:(t:Ty)→t.V→t.V→Bool
 | .int _,x,y=>x==y
 | .bool,x,y=>x==y
 | .str,x,y=>strEq x y
 | .pair a b,x,y=>flatEq a x.1 y.1&&flatEq b x.2 y.2
 | .unit,_,_=>true
 | _,_,_=>false
def mgetO(kt vt:Ty):List (kt.V×vt.V)→kt.V→Option vt.V
 | [],_=>none
 | x::r,k=>bif keyEq kt k x.1 then some x.2 else mgetO kt vt r k
def mget(kt vt:Ty)(es:List (kt.V×vt.V))(k:kt.V):vt.V:=(mgetO kt vt es k).getD vt.zero
def mhas(kt vt:Ty)(es:List (kt.V×vt.V))(k:kt.V):Bool:=(mgetO kt vt es k).isSome
def mput(kt vt:Ty):List (kt.V×vt.V)→kt.V→vt.V→List (kt.V×vt.V)
 | [],k,v=>[(k,v)]
 | x::r,k,v=>bif keyEq kt k x.1 then(k,v)::r else x::mput kt vt r k v
def FI.mode(fi:FI)(t:Ty):RM:=if t.flat||fi.deep then .deep else .sh []
def shrI(k:IntKind)(x y:Int):Int:=x.fdiv (2^(min y.toNat k.bits))
def shlI(k:IntKind)(x y:Int):Int:=k.wrap (x*2^(min y.toNat k.bits))
def andI(k:IntKind)(x y:Int):Int:=k.wrap (BitVec.ofInt k.bits x &&& BitVec.ofInt k.bits y).toNat
def orI(k:IntKind)(x y:Int):Int:=k.wrap (BitVec.ofInt k.bits x ||| BitVec.ofInt k.bits y).toNat
def xorI(k:IntKind)(x y:Int):Int:=k.wrap (BitVec.ofInt k.bits x ^^^ BitVec.ofInt k.bits y).toNat
def andNotI(k:IntKind)(x y:Int):Int:=k.wrap (BitVec.ofInt k.bits x &&& ~~~ BitVec.ofInt k.bits y).toNat
def strLt(s t:ByteArray):Bool:=Op.bytesLess s.toList t.toList
def bgetI(s:ByteArray)(i:Int):Int:=((s[i.toNat]?).getD 0).toNat
section
variable {R:Type}
def binA(op:BinOp)(tb:Bool):AV→AV→(AV→Option R)→Option R
 | .dat _ (.int k) x,.dat _ (.int k') y,K =>
  match op with
  | .shl=>if y<0 then none else K (.int k (shlI k x y))
  | .shr=>if y<0 then none else K (.int k (shrI k x y))
  | op=>if k=k' then match op with
   | .add=>K (.int k (k.wrap (x+y)))
   | .sub=>K (.int k (k.wrap (x-y)))
   | .mul=>K (.int k (k.wrap (x*y)))
   | .quo=>if y=0 then none else K (.int k (k.wrap (x.tdiv y)))
   | .rem=>if y=0 then none else K (.int k (x.tmod y))
   | .and=>K (.int k (andI k x y))
   | .or=>K (.int k (orI k x y))
   | .xor=>K (.int k (xorI k x y))
   | .andNot=>K (.int k (andNotI k x y))
   | .eql=>K (.bool (x==y))
   | .neq=>K (.bool (x !=y))
   | .lss=>K (.bool (decide (x<y)))
   | .leq=>K (.bool (decide (x≤y)))
   | .gtr=>K (.bool (decide (x>y)))
   | .geq=>K (.bool (decide (x≥y)))
   | _=>none
   else none
 | .dat _ .str x,.dat _ .str y,K =>
  match op with
  | .add=>if x.size+y.size≤9223372036854775807 then K (.str (x++y)) else none
  | .eql=>K (.bool (strEq x y))
  | .neq=>K (.bool (!strEq x y))
  | .lss=>K (.bool (strLt x y))
  | .leq=>K (.bool (strLt x y||strEq x y))
  | .gtr=>K (.bool (!(strLt x y||strEq x y)))
  | .geq=>K (.bool (!strLt x y))
  | _=>none
 | .dat _ .bool x,.dat _ .bool y,K=>if tb then
  match op with
  | .eql=>K (.bool (x==y))
  | .neq=>K (.bool (!(x==y)))
  | _=>none
  else none
 | _,_,_=>none
def unA(op:UnOp):AV→(AV→Option R)→Option R
 | .dat _ .bool b,K=>match op with | .not=>K (.bool (!b))| _=>none
 | .dat _ (.int k) n,K=>match op with
  | .neg=>K (.int k (k.wrap (0-n)))
  | .xor=>K (.int k (xorI k (if k.signed then -1 else k.max) n))
  | _=>none
 | _,_=>none
def lenA(bs:List Blk)(ti:TI):AV→(AV→Option R)→Option R
 | .dat _ (.sl _) xs,K=>if ti.isSl then K (.int .i64 (xs.length:Int)) else none
 | .dat _ .str s,K=>if ti.ty=.str then K (.int .i64 (s.size:Int)) else none
 | .zs,K=>if ti.isSl then K (.int .i64 0) else none
 | .ref k,K=>match bs[k]? with | some (.row _ _ _ xs)=>if ti.isSl then K (.int .i64 (xs.length:Int)) else none | _=>none
 | _,_=>none
def mmA(mx:Bool):AV→AV→(AV→Option R)→Option R
 | .dat _ (.int k) x,.dat _ (.int k') y,K=>if k=k' then K (.int k (if mx then(if y>x then y else x) else(if y<x then y else x))) else none
 | _,_,_=>none
def idxA(bs:List Blk)(te:Ty):AV→AV→(AV→Option R)→Option R
 | .dat ks (.sl t) xs,.dat _ (.int _) i,K=>if t=te then if 0≤i∧i<(xs.length:Int) then K (.rop ks t (xs.getD i.toNat t.zero)) else none else none
 | .ref k,.dat _ (.int _) i,K=>match bs[k]? with
  | some (.row _ _ t xs)=>if t=te then if 0≤i∧i<(xs.length:Int) then K (.ptr k i [] 0) else none else none
  | _=>none
 | _,_,_=>none
def chrA:AV→AV→(AV→Option R)→Option R
 | .dat _ .str s,.dat _ (.int _) i,K=>if 0≤i∧i<(s.size:Int) then K (.int .u8 (bgetI s i)) else none
 | _,_,_=>none
def fldA(ti:TI)(f:Nat):AV→(AV→Option R)→Option R
 | .ptr k i p o,K=>match ti.offs[f]? with | some fo=>K (.ptr k i (p++[f]) (o+fo))| none=>none
 | .rop ks t x,K=>if t=ti.ty∧offD t f=ti.offs[f]? then match fldD ks t x f with | some (.dat _ u y)=>K (.rop ks u y)| _=>none else none
 | _,_=>none
def loadA(bs:List Blk)(ti:TI):AV→(AV→Option R)→Option R
 | .rop ks t x,K=>if t=ti.ty then K (.dat (ksOf ks t) t x) else none
 | .ptr k i p o,K=>match atP bs k i p o with
  | some v=>if v.size=ti.ty.size∧v.isAgg=ti.ty.isAgg then K v else none
  | none=>none
 | _,_=>none
def storeA(bs:List Blk)(ti:TI):AV→AV→(Eff→Option R)→Option R
 | .ptr k i p o,v,K=>match bs[k]? with
  | some (.box a)=>match a.getP p,a.setP p v with
   | some old,some a'=>if v.top∧a.offP p=some o∧old.size=v.size∧v.size=ti.ty.size∧v.isAgg=ti.ty.isAgg∧a'.ids.contains k=false then K ⟨.un 0,(dropB [k] bs).set k (.box a'),[k]⟩ else none
   | _,_=>none
  | some (.row e m t xs)=>match take bs m ti.ty v with
   | some (y,m',rs) =>
    if offTP t p=some o∧tyP t p=some ti.ty∧offM (k::rs) m'∧rs.contains k=false then match setV ti.ty y p t (xs.getD i.toNat t.zero) with
     | some x'=>K ⟨.un 0,(Blk.kill (dropB (k::rs) bs) rs).set k (.row e m' t (xs.set i.toNat x')),k::rs⟩
     | none=>none
    else none
   | none=>none
  | some (.hole e t xs i' p')=>match v with
   | .ref j=>match bs[j]? with
    | some (.row _ .deep u ys)=>match setV (.sl u) [] p t (xs.getD i.toNat t.zero),setV (.sl u) ys p t (xs.getD i.toNat t.zero) with
     | some x0,some x'=>if ti.ty=.sl u∧offTP t p=some o∧tyP t p=some (.sl u)∧p'=p∧j≠k then
         if i'=i then K ⟨.un 0,(Blk.kill (dropB [k,j] ((dropB [k] bs).set k (.row e .deep t (xs.set i.toNat x0)))) [j]).set k (.row e .deep t (xs.set i.toNat x')),[k,j]⟩ else none
      else none
     | _,_=>none
    | _=>none
   | _=>none
  | _=>none
 | _,_,_=>none
def stealA(bs:List Blk)(ti:TI):AV→(Eff→Option R)→Option R
 | .ptr k i p o,K=>match bs[k]? with
  | some (.row e .deep t xs)=>match tyP t p with
   | some (.sl u)=>match getT (.sl u) p t (xs.getD i.toNat t.zero),setV (.sl u) [] p t (xs.getD i.toNat t.zero) with
    | some ys,some _=>if ti.ty=.sl u∧offTP t p=some o∧u.size≠0 then
        K ⟨.ref bs.length,(dropB [k] bs).set k (.hole e t xs i p)++[.row 0 .deep u ys],[k]⟩ else none
    | _,_=>none
   | _=>none
  | _=>none
 | _,_=>none
def buildA(ti:TI):AV→List (Nat×AV)→Option AV
 | a,[]=>some a
 | a,(f,v)::r=>match a.fld f with
  | some old=>if old.size=v.size∧v.top=true∧a.off f=ti.offs[f]?∧(tyF ti.ty f).map Ty.size=some v.size then match a.setFld f v with | some a'=>buildA ti a' r | none=>none else none
  | none=>none
def partsA(bs:List Blk)(t:Ty):RM→List t.V→List Nat→List (Nat×AV)→Option (RM×List t.V×List Nat)
 | m,xs,rs,[]=>some (m,xs,rs)
 | m,xs,rs,(i,v)::r=>match take bs m t v with
  | some (y,m',l)=>if i<xs.length then partsA bs t m' (xs.set i y) (rs++l) r else none
  | none=>none
def srcA(bs:List Blk)(t:Ty):AV→Option (List t.V×RM×List Nat)
 | .zs=>some ([],.deep,[])
 | .dat ks (.sl u) ys=>match castV (.sl u) (.sl t) ys with | some l=>some (l,if t.flat then .deep else .sh ks,[])| none=>none
 | .dat _ .str s=>match castV (.sl (.int .u8)) (.sl t) (s.data.toList.map fun b=>(b.toNat:Int)) with | some l=>some (l,.deep,[])| none=>none
 | .ref j=>match bs[j]? with
  | some (.row _ m u ys)=>match castV (.sl u) (.sl t) ys with | some l=>some (l,if t.flat then .deep else m,if t.flat then[] else[j])| none=>none
  | _=>none
 | _=>none
def joinM:RM→RM→Option RM
 | .deep,.deep=>some .deep
 | .sh a,.sh b=>some (.sh (a++b))
 | .sh a,.deep=>some (.sh a)
 | .deep,.sh _=>none
def appendA(fi:FI)(bs:List Blk)(e:Nat)(ti:TI):AV→AV→(Eff→Option R)→Option R
 | .zs,y,K=>if(ti.ty.row&&ti.bytes !=0)=false then none else match srcA bs ti.ty y with
  | some (ys,m,rs)=>match joinM (match m with | .deep=>fi.mode ti.ty | m=>m) m with
   | some m'=>if offM rs m' then if ys.length*ti.bytes≤140737488355328 then K ⟨.ref bs.length,Blk.kill (dropB rs bs) rs++[.row e m' ti.ty ys],rs⟩ else none else none
   | none=>none
  | none=>none
 | .ref k,y,K=>if(ti.ty.row&&ti.bytes !=0)=false then none else match bs[k]?,srcA bs ti.ty y with
  | some (.row e' m t xs),some (ys,m2,rs)=>match castV (.sl t) (.sl ti.ty) xs,joinM m m2 with
   | some xs,some m'=>if(e=e'∧e≠0∨e'=0)∧rs.contains k=false∧offM (k::rs) m' then
       if(xs.length+ys.length)*ti.bytes≤140737488355328 then K ⟨.ref bs.length,Blk.kill (dropB (k::rs) bs) (k::rs)++[.row e' m' ti.ty (xs++ys)],k::rs⟩ else none
    else none
   | _,_=>none
  | _,_=>none
 | _,_,_=>none
def makeA(fi:FI)(bs:List Blk)(e:Nat)(ti:TI):AV→AV→(Eff→Option R)→Option R
 | .dat _ (.int _) l,.dat _ (.int _) c,K=>if ti.ty.row∧0≤l∧l≤c∧(ti.bytes:Int)*c≤281474976710656∧c≤9223372036854775807 then
     K ⟨.ref bs.length,bs++[.row e (fi.mode ti.ty) ti.ty (List.replicate l.toNat ti.ty.zero)],[]⟩ else none
 | _,_,_=>none
def bnd:Option AV→Int→Option Int
 | none,d=>some d
 | some (.dat _ (.int _) i),_=>some i
 | _,_=>none
def sliceA(bs:List Blk)(ti:TI)(te:Option Ty)(x:AV)(lo hi mx:Option AV)(K:AV→Option R):Option R :=
 match mx with
 | some (.dat _ (.int _) m)=>match lo,hi with
  | none,some (.dat _ (.int _) h)=>if h=0∧m=0∧te.isSome then match x with
   | .dat _ (.sl _) _=>K .zs
   | .zs=>K .zs
   | .ref k=>match bs[k]? with | some (.row _ _ _ _)=>K .zs | _=>none
   | _=>none
   else none
  | _,_=>none
 | some _=>none
 | none=>match x with
  | .dat _ .str s=>match bnd lo 0,bnd hi (s.size:Int) with
   | some l,some h=>if ti.ty=.str∧0≤l∧l≤h∧h≤(s.size:Int) then K (.str (s.extract l.toNat h.toNat)) else none
   | _,_=>none
  | .dat ks (.sl t) xs=>match bnd lo 0,bnd hi (xs.length:Int) with
   | some l,some h=>if te=some t then if 0≤l∧l≤h∧h≤(xs.length:Int) then K (.dat ks (.sl t) ((xs.take h.toNat).drop l.toNat)) else none else none
   | _,_=>none
  | .ref k=>match bs[k]? with
   | some (.row _ m t xs)=>match bnd lo 0,bnd hi (xs.length:Int) with
    | some l,some h=>if te=some t then if 0≤l∧l≤h∧h≤(xs.length:Int) then K (.dat (k::m.ids) (.sl t) ((xs.take h.toNat).drop l.toNat)) else none else none
    | _,_=>none
   | _=>none
  | .zs=>match bnd lo 0,bnd hi 0 with
   | some l,some h=>if te.isSome∧l=0∧h=0 then K .zs else none
   | _,_=>none
  | _=>none
def cutA(te:Ty)(bs:List Blk)(x:AV)(hi:Option AV)(K:Eff→Option R):Option R :=
 match x,hi with
 | .ref k,some (.dat _ (.int _) h)=>match bs[k]? with
  | some (.row e m t xs)=>if offM [k] m∧t=te then if 0≤h∧h≤(xs.length:Int) then K ⟨.ref bs.length,Blk.kill (dropB [k] bs) [k]++[.row e m t (xs.take h.toNat)],[k]⟩ else none else none
  | _=>none
 | _,_=>none
def bytesOf(xs:List Int):ByteArray:=⟨(xs.map fun n=>UInt8.ofNat n.toNat).toArray⟩
def convA(bs:List Blk)(te:Option Ty)(td:Ty)(a:AV)(K:AV→Option R):Option R :=
 match td with
 | .int k=>match a with | .dat _ (.int _) n=>K (.int k (k.wrap n))| _=>none
 | .str=>match a with
  | .dat _ .str s=>K (.str s)
  | a=>if te=some (.int .u8) then match rd bs (.sl (.int .u8)) a with | some xs=>K (.str (bytesOf xs))| none=>none else none
 | _=>none
def RM.own(k:Nat):RM→List Nat
 | .deep=>[k]
 | .sh ks=>ks
def lookA(bs:List Blk)(tk te:TI)(ok:Bool)(m x:AV)(K:AV→Option R):Option R :=
 match m with
 | .mp k=>match bs[k]? with
  | some (.map md kt vt es none)=>match rd bs kt x with
   | some key=>if kt=tk.ty∧vt=te.ty∧kt.keyed=true then
       (bif ok then K (.cons (.dat (ksOf (md.own k) vt) vt (mget kt vt es key)) (.cons (.bool (mhas kt vt es key)) .nil))
        else K (.dat (ksOf (md.own k) vt) vt (mget kt vt es key))) else none
   | none=>none
  | _=>none
 | _=>none
def lookS(bs:List Blk)(tk te:TI)(m x:AV)(K:Eff→Option R):Option R :=
 match m with
 | .mp k=>match bs[k]? with
  | some (.map .deep kt (.sl u) es none)=>match rd bs kt x with
   | some key=>if kt=tk.ty∧.sl u=te.ty∧kt.keyed=true∧u.size≠0 then
       K ⟨.ref bs.length,(dropB [k] bs).set k (.map .deep kt (.sl u) es (some key))++[.row 0 .deep u (mget kt (.sl u) es key)],[k]⟩ else none
   | none=>none
  | _=>none
 | _=>none
def updA(bs:List Blk)(tk te:TI)(m x v:AV)(K:Eff→Option R):Option R :=
 match m with
 | .mp k=>match bs[k]? with
  | some (.map md kt vt es st)=>match rd bs kt x,take bs md vt v with
   | some key,some (y,m',rs)=>if kt=tk.ty∧vt=te.ty∧kt.keyed=true∧offM (k::rs) m'∧rs.contains k=false then
       match st with
       | none=>K ⟨.un 0,(Blk.kill (dropB (k::rs) bs) rs).set k (.map m' kt vt (mput kt vt es key y) none),k::rs⟩
       | some k0=>bif keyEq kt k0 key then K ⟨.un 0,(Blk.kill (dropB (k::rs) bs) rs).set k (.map m' kt vt (mput kt vt es key y) none),k::rs⟩ else none
    else none
   | _,_=>none
  | _=>none
 | _=>none
def extrA:AV→Nat→Option AV
 | .cons a _,0=>some a
 | .cons _ b,n+1=>extrA b n
 | _,_=>none
end
def insN(l:List Nat):List Nat→List Nat
 | []=>l
 | k::r=>if l.contains k then insN l r else insN (l++[k]) r
def reach(bs:List Blk):Nat→List Nat→List Nat
 | 0,l=>l
 | f+1,l=>reach bs f (insN l (l.flatMap fun k=>match bs[k]? with | some b=>b.ids | none=>[]))
def idxOf(l:List Nat)(k:Nat):Nat:=match l with
 | []=>0
 | x::r=>if x==k then 0 else idxOf r k+1
def AV.dep(bor:List Nat):AV→AV
 | .dat ks t x=>.dat (if t.flat then ks else ks++bor) t x
 | .rop ks t x=>.rop (ks++bor) t x
 | .pr a b=>.pr (a.dep bor) (b.dep bor)
 | .fn g c=>.fn g (c.dep bor)
 | .cons a b=>.cons (a.dep bor) (b.dep bor)
 | a=>a
def RM.dep(bor:List Nat):RM→RM
 | .deep=>.deep
 | .sh ks=>.sh (ks++bor)
def Blk.dep(bor:List Nat):Blk→Blk
 | .box a=>.box (a.dep bor)
 | .row e m t xs=>.row e (m.dep bor) t xs
 | .map m kt vt es st=>.map (m.dep bor) kt vt es st
 | .hole e t xs i p=>.hole e t xs i p
 | .dead=>.dead
def argA(bs:List Blk):PM→AV→Option (AV×List Nat)
 | .d t,v=>match rd bs t v with | some x=>some (.dat [] t x,v.lend bs)| none=>none
 | .p t,.rop ks u x=>match castV u t x with | some y=>some (.rop [] t y,ks)| none=>none
 | .p t,.ptr k i p o=>match atP bs k i p o with
  | some a=>match rd bs t a with | some x=>some (.rop [] t x,k::a.lend bs)| none=>none
  | none=>none
 | .p _,_=>none
 | .raw,v=>some (v,[])
def argIds:PM→AV→List Nat
 | .raw,v=>v.ids
 | _,_=>[]
def argsA(bs:List Blk):List PM→List AV→Option (List AV×List Nat×List Nat)
 | [],[]=>some ([],[],[])
 | m::ms,v::vs=>match argA bs m v,argsA bs ms vs with
  | some (a,l),some (as',ls,rs)=>some (a::as',l++ls,argIds m v++rs)
  | _,_=>none
 | _,_=>none
def backTo(n:Nat)(π:List Nat)(j:Nat):Nat:=match π[j]? with | some k=>k | none=>n+(j-π.length)
def setAll(bs:List Blk):List Nat→List Blk→List Blk
 | k::ks,b::r=>setAll (bs.set k b) ks r
 | _,_=>bs
section
variable {R:Type}
def callA(c:Callee)(bs:List Blk)(args:List AV)(K:Eff→Option R):Option R :=
 match argsA bs c.modes args with
 | none=>none
 | some (as',bor,roots) =>
  let π:=reach bs bs.length (insN [] roots)
  let n:=bs.length
  if bor.all (fun k=>!π.contains k&&decide (k<n))&&nodup π&&roots.all (fun k=>π.contains k)&&π.all (fun k=>match bs[k]? with | some b=>b.ids.all (fun j=>π.contains j)| none=>false) then
   c.run R (as'.map (·.ren (idxOf π))) (π.map fun k=>((bs[k]?).getD .dead).ren (idxOf π)) fun av E =>
    let f:=backTo n π
    if π.length≤E.length then
     K ⟨(av.ren f).dep bor,setAll (dropB π bs) π ((E.take π.length).map fun b=>(b.ren f).dep bor)++(E.drop π.length).map (fun b=>(b.ren f).dep bor),π⟩
    else none
  else none
def AV.nstG:AV→Option (Nat×Int×List Nat×Nat)
 | .nst k i p o _=>some (k,i,p,o)
 | .pr a b=>match a.nstG with | some z=>some z | none=>b.nstG
 | _=>none
def AV.nstR(n:Nat):AV→AV
 | .nst _ _ _ _ _=>.ref n
 | .pr a b=>match a.nstG with | some _=>.pr (a.nstR n) b | none=>.pr a (b.nstR n)
 | a=>a
def nstIx:Nat→List AV→Option (Nat×AV×Nat×Int×List Nat×Nat)
 | _,[]=>none
 | j,a::r=>match a.nstG with | some (k,i,p,o)=>some (j,a,k,i,p,o)| none=>nstIx (j+1) r
def Ty.isSlT:Ty→Bool
 | .sl _=>true
 | _=>false
def nstF(k:Nat)(i:Int)(p:List Nat)(e:Nat):(t:Ty)→t.V→Nat→Nat→Option AV
 | .unit,_,_,_=>some .u
 | .pair a b,x,f,o=>match nstF k i p e b x.2 (f+1) (o+a.size) with
  | some r=>if a.isSlT then some (.pr (.nst k i (p++[f]) o e) r) else if a.flat then some (.pr (.dat [] a x.1) r) else none
  | none=>none
 | _,_,_,_=>none
def callN(c:Callee)(bs:List Blk)(args:List AV)(K:Eff→Option R):Option R :=
 match nstIx 0 args with
 | none=>callA c bs args K
 | some (j,a0,k,i,p,o)=>match bs[k]? with
  | some (.row ek .deep t xs)=>match tyP t p with
   | some (.sl u)=>match getT (.sl u) p t (xs.getD i.toNat t.zero) with
    | some ys =>
     if offTP t p=some o∧u.size≠0∧((args.set j (a0.nstR bs.length)).all fun a=>!a.ids.contains k)=true then
      callA c ((dropB [k] bs).set k .dead++[.row 0 .deep u ys]) (args.set j (a0.nstR bs.length)) fun e =>
       if e.mods.contains k then none else
       match e.blks[bs.length]? with
       | some (.row _ .deep u' zs)=>match castV (.sl u') (.sl u) zs with
        | some zs=>match setV (.sl u) zs p t (xs.getD i.toNat t.zero) with
         | some x'=>K ⟨e.val.drop (fun q=>[k,bs.length].contains q),((dropB [k,bs.length] e.blks).set bs.length .dead).set k (.row ek .deep t (xs.set i.toNat x')),e.mods++[k]⟩
         | none=>none
        | none=>none
       | _=>none
     else none
    | none=>none
   | _=>none
  | _=>none
def capsL:AV→List AV
 | .cons a b=>a::capsL b
 | _=>[]
def opds(σ:St)(xs:Array Operand):List AV:=xs.toList.map σ.opd
def consAll:List AV→AV
 | []=>.nil
 | a::r=>.cons (if a.isTup then .un 0 else a) (consAll r)
def execCall(en:Env)(σ:St)(c:Call)(K:Eff→Option R):Option R :=
 match c.callee with
 | .builtin .len=>match opds σ c.args,c.argTypes.toList with
  | [x],t::_=>match en.tab.get t with | some ti=>lenA σ.blks ti x fun v=>K ⟨v,σ.blks,[]⟩| none=>none
  | _,_=>none
 | .builtin .min=>match opds σ c.args with | [x,y]=>mmA false x y fun v=>K ⟨v,σ.blks,[]⟩| _=>none
 | .builtin .max=>match opds σ c.args with | [x,y]=>mmA true x y fun v=>K ⟨v,σ.blks,[]⟩| _=>none
 | .builtin .append=>match opds σ c.args,c.argTypes.toList with
  | [x,y],[t,tx]=>match en.tab.get t,en.tab.get tx with
   | some ti,some tix=>match en.tab.get ti.elem with
    | some te=>if ti.isSl&&(tix.isSl||tix.ty==.str) then appendA en.fi σ.blks ti.elem te x y K else none
    | none=>none
   | _,_=>none
  | _,_=>none
 | .builtin _=>none
 | .value f=>match σ.opd f with
  | .fn g caps=>match en.fns g with
   | some ca=>callN ca σ.blks (opds σ c.args++capsL caps) K
   | none=>none
  | _=>none
 | .invoke _ _=>none
def eqS(bs:List Blk)(tab:Tab)(op:BinOp)(t:Nat)(x y:AV):Option AV:=match tab.get t with
 | some ti=>if ti.eqs=true then(match op with
  | .eql=>match rd bs ti.ty x,rd bs ti.ty y with | some u,some v=>some (.bool (flatEq ti.ty u v))| _,_=>none
  | .neq=>match rd bs ti.ty x,rd bs ti.ty y with | some u,some v=>some (.bool (!flatEq ti.ty u v))| _,_=>none
  | _=>none) else none
 | none=>none
def dstStl(en:Env)(o:Oper):Bool:=match o.dst with | some d=>en.fi.stl.contains d | none=>false
def keyTOk(tab:Tab)(tk:TI):Bool:=match tk.ty with
 | .pair (.int q) _=>tk.arr==2&&(match tab.get tk.elem with | some te=>te.ty==.int q&&tk.ty==.pair (.int q) (.pair (.int q) .unit)| none=>false)
 | _=>true
def execP(en:Env)(σ:St)(o:Oper)(K:Eff→Option R):Option R :=
 let ρ:=σ.opd
 let bs:=σ.blks
 let pure:=fun v=>K ⟨v,bs,[]⟩
 match o.op with
 | .move x=>pure (ρ x)
 | .assign x=>pure (ρ x)
 | .pick c a b=>match ρ c with | .dat _ .bool t=>bif t then pure (ρ a) else pure (ρ b)| _=>none
 | .alloc e=>match en.tab.get e with
  | some ti=>K ⟨.ptr bs.length 0 [] 0,bs++[.box ti.ty.zeroA],[]⟩
  | none=>none
 | .box _ x=>if(ρ x).top then K ⟨.ptr bs.length 0 [] 0,bs++[.box (ρ x)],[]⟩ else none
 | .build t parts=>match en.tab.get t with
  | some ti=>if ti.offs.isEmpty then none else match buildA ti ti.ty.zeroA (parts.toList.map fun p=>(p.1,ρ p.2)) with | some v=>pure v | none=>none
  | none=>none
 | .buildSlice t len parts=>match en.tab.get t with
  | some ti=>match en.tab.get ti.elem with
   | some te=>match partsA bs te.ty (en.fi.mode te.ty) (List.replicate len te.ty.zero) [] (parts.toList.map fun p=>(p.1,ρ p.2)) with
    | some (m,xs,rs)=>if ti.isSl&&te.ty.row&&offM rs m&&nodup rs&&len*te.ty.size≤16777216 then(if len=0 then K ⟨.zs,bs,[]⟩ else K ⟨.ref bs.length,Blk.kill (dropB rs bs) rs++[.row ti.elem m te.ty xs],rs⟩) else none
    | none=>none
   | none=>none
  | none=>none
 | .load t x=>match en.tab.get t with
  | some ti=>if dstStl en o=true then(if ti.isSl then stealA bs ti (ρ x) K else none) else loadA bs ti (ρ x) pure
  | none=>none
 | .makeMap t r=>match en.tab.get t with
  | some ti=>if r.isSome then none else match en.tab.get ti.mkey,en.tab.get ti.elem with
   | some tk,some te=>if ti.mkey≠0∧tk.ty.keyed=true∧te.ty.data=true then K ⟨.mp bs.length,bs++[.map (en.fi.mode te.ty) tk.ty te.ty [] none],[]⟩ else none
   | _,_=>none
  | none=>none
 | .lookup t m x ok=>match en.tab.get t with
  | some ti=>match en.tab.get ti.mkey,en.tab.get ti.elem with
   | some tk,some te=>if ti.mkey≠0∧te.ty.data=true∧keyTOk en.tab tk=true then
       (if dstStl en o=true then(if ok then none else lookS bs tk te (ρ m) (ρ x) K) else lookA bs tk te ok (ρ m) (ρ x) pure) else none
   | _,_=>none
  | none=>none
 | .mapUpdate t m x v=>match en.tab.get t with
  | some ti=>match en.tab.get ti.mkey,en.tab.get ti.elem with
   | some tk,some te=>if ti.mkey≠0∧te.ty.data=true∧keyTOk en.tab tk=true then updA bs tk te (ρ m) (ρ x) (ρ v) K else none
   | _,_=>none
  | none=>none
 | .store t x v=>match en.tab.get t with | some ti=>storeA bs ti (ρ x) (ρ v) K | none=>none
 | .nilCheck x=>match ρ x with
  | .ptr k i p q=>pure (.ptr k i p q)
  | .rop ks t y=>pure (.rop ks t y)
  | _=>none
 | .binOp op t x y _=>match eqS bs en.tab op t (ρ x) (ρ y) with | some z=>pure z | none=>binA op (match en.tab.get t with | some ti=>ti.ty==.bool | none=>false) (ρ x) (ρ y) pure
 | .unOp op _ x=>unA op (ρ x) pure
 | .convert s t x=>match en.tab.get s,en.tab.get t with
  | some ts,some ti=>convA bs (match en.tab.get ts.elem with | some te=>if ts.isSl then some te.ty else none | none=>none) ti.ty (ρ x) pure
  | _,_=>none
 | .makeFunc fn first caps=>match fn with | .func f=>if first.size=0 then pure (.fn f (consAll (caps.toList.map ρ))) else none | _=>none
 | .makeSlice t l c=>match en.tab.get t with
  | some ti=>match en.tab.get ti.elem with
   | some te=>if ti.isSl then makeA en.fi bs ti.elem te (ρ l) (ρ c) K else none
   | none=>none
  | none=>none
 | .slice t x lo hi mx=>match o.dst,en.tab.get t with
  | some d,some ti =>
   if en.fi.take.contains d then(match lo,mx with
    | none,none=>if ti.isSl then(match en.tab.get ti.elem with | some te=>cutA te.ty bs (ρ x) (hi.map ρ) K | none=>none) else none
    | _,_=>none)
   else sliceA bs ti (match en.tab.get ti.elem with | some te=>if ti.isSl then some te.ty else none | none=>none) (ρ x) (lo.map ρ) (hi.map ρ) (mx.map ρ) pure
  | _,_=>none
 | .fieldAddr t x f=>match en.tab.get t with | some ti=>fldA ti f (ρ x) pure | none=>none
 | .indexAddr t x i=>match en.tab.get t with
  | some ti=>match en.tab.get ti.elem with
   | some te=>if ti.isSl then idxA bs te.ty (ρ x) (ρ i) pure else none
   | none=>none
  | none=>none
 | .index t x i=>match en.tab.get t with | some ti=>if ti.ty=.str then chrA (ρ x) (ρ i) pure else none | none=>none
 | .extract x i=>match extrA (ρ x) i with | some v=>if v.isTup then none else pure v | none=>none
 | .call c=>execCall en σ c K
 | _=>none
def lookH.{u}{A:Type u}:List (Nat×A)→Nat→Option A
 | [],_=>none
 | (k,l)::r,n=>if k==n then some l else lookH r n
def frzE(n:Nat)(t:Ty)(e:Eff):Option Eff:=match rd e.blks t e.val with
 | some x=>if e.blks.all (fun b=>!b.hasN) then some ⟨.dat ((e.val.lend e.blks).filter fun k=>decide (k<n)) t x,Blk.kill e.blks ((e.val.lend e.blks).filter fun k=>!decide (k<n)),e.mods⟩ else none
 | none=>none
def shalE(n:Nat)(e:Eff):Option Eff:=match e.val with
 | .ref k=>if n≤k then match e.blks[k]? with
  | some (.row el .deep t xs)=>some ⟨.ref k,e.blks.set k (.row el (.sh []) t xs),e.mods⟩
  | _=>none
  else none
 | _=>none
def dstSh(en:Env)(o:Oper):Bool:=match o.dst with | some d=>en.fi.shal.contains d | none=>false
def dstT(en:Env)(o:Oper):Option Ty:=match o.dst with | some d=>lookH en.fi.frzd d | none=>none
def arrT(u:Ty):Nat→Ty
 | 0=>.unit
 | n+1=>.pair u (arrT u n)
def TI.plc(ti te:TI):TI:=⟨ti.ty,(List.range ti.arr).map (·*te.ty.size),ti.elem,ti.bytes,ti.arr,ti.mkey,ti.eqs⟩
def arrO(en:Env)(σ:St)(o:Oper):Option AV:=match o.op with
 | .load t x=>match o.dst with
  | none=>none
  | some d=>match lookH en.fi.nest d,en.tab.get t,σ.opd x with
   | some e,some ti,.ptr k i p f=>match σ.blks[k]?,atP σ.blks k i p f with
    | some (.row _ .deep _ _),some v=>if ti.isSl=true∧v.size=1 then some (.nst k i p f e) else(match v with
     | .dat _ t x=>if t=ti.ty then nstF k i p e t x 0 f else none
     | _=>none)
    | _,_=>none
   | _,_,_=>none
 | .build t parts=>match en.tab.get t with
  | some ti=>if ti.arr=0 then none else match en.tab.get ti.elem with
   | some te=>if ti.ty=arrT te.ty ti.arr then buildA (ti.plc te) ti.ty.zeroA (parts.toList.map fun p=>(p.1,σ.opd p.2)) else none
   | none=>none
  | none=>none
 | .index t x i=>match en.tab.get t with
  | some ti=>if ti.arr=0 then none else match en.tab.get ti.elem with
   | some te=>match σ.opd i,σ.opd x with
    | .dat _ (.int _) j,a=>if 0≤j∧j<(ti.arr:Int)∧a.off j.toNat=some (j.toNat*te.ty.size)∧a.isAgg=true∧a.isTup=false then match a.fld j.toNat with
     | some v=>if v.size=te.ty.size∧v.isAgg=te.ty.isAgg then some v else none
     | none=>none
     else none
    | _,_=>none
   | none=>none
  | none=>none
 | .call c=>match c.callee,opds σ c.args,c.argTypes.toList with
  | .builtin .len,[.sld _ n],t::_=>match en.tab.get t with | some ti=>if ti.isSl=true then some (.int .i64 (n:Int)) else none | none=>none
  | _,_,_=>none
 | .indexAddr t x i=>match en.tab.get t with
  | some ti=>if ti.arr=0 then(match en.tab.get ti.elem,σ.opd x,σ.opd i with
   | some te,.sld k n,.dat _ (.int _) j=>if ti.isSl=true∧te.ty.size=1∧0≤j∧j<(n:Int) then match σ.blks[k]? with
    | some (.box _)=>some (.ptr k 0 [j.toNat] j.toNat)
    | _=>none
    else none
   | _,_,_=>none) else match en.tab.get ti.elem with
   | some te=>match σ.opd i with
    | .dat _ (.int _) j=>if 0≤j∧j<(ti.arr:Int) then match σ.opd x with
     | .ptr k q p f=>some (.ptr k q (p++[j.toNat]) (f+j.toNat*te.ty.size))
     | .rop ks t' y=>if offD t' j.toNat=some (j.toNat*te.ty.size) then match fldD ks t' y j.toNat with | some (.dat _ u z)=>some (.rop ks u z)| _=>none else none
     | _=>none
     else none
    | _=>none
   | none=>none
  | none=>none
 | _=>none
def coV(bs:List Blk):Co→AV→Option (AV×List Blk)
 | .row p e t deep,a=>match a.getP p with
  | some .zs=>if t.row then match a.setP p (.ref bs.length) with | some a'=>some (a',[.row e (if t.flat||deep then .deep else .sh []) t []])| none=>none else none
  | _=>some (a,[])
 | .dat t,a=>match rd bs t a with | some x=>some (.dat (a.lend bs) t x,[])| none=>none
 | .deps ks,a=>match a with
  | .dat l t x=>if(t.flat||l.all fun k=>ks.contains k)&&ks.all (fun k=>decide (k<bs.length)) then some (.dat ks t x,[]) else none
  | _=>none
def coB(k:Nat)(c:Co)(bs:List Blk):Option (List Blk):=match bs[k]? with
 | some (.box a)=>match coV bs c a with | some (a',nb)=>some (bs.set k (.box a')++nb)| none=>none
 | _=>none
def finB:List (Nat×Co)→List Blk→Option (List Blk)
 | [],bs=>some bs
 | (k,c)::r,bs=>match coB k c bs with | some bs'=>finB r bs' | none=>none
def chase(bs:List Blk):Nat→List (List Nat)→Option Nat
 | k,[]=>some k
 | k,q::r=>match bs[k]? with
  | some (.box a)=>match a.getP q with | some (.ptr k' _ _ _)=>chase bs k' r | _=>none
  | _=>none
def preB:List (Nat×List (List Nat)×Co)→List AV→List Blk→Option (List Blk)
 | [],_,bs=>some bs
 | (j,q,c)::r,args,bs=>match args[j]? with
  | some (.ptr k _ _ _)=>match chase bs k q with
   | some k'=>match coB k' c bs with | some bs'=>preB r args bs' | none=>none
   | none=>none
  | _=>none
def AV.isPtr:AV→Bool
 | .ptr _ _ _ _=>true
 | .rop _ _ _=>true
 | _=>false
def prs:List AV→AV
 | []=>.dat [] .unit ()
 | a::r=>.pr a (prs r)
def sldE(en:Env)(σ:St)(o:Oper):Option Eff:=match o.op with
 | .buildSlice t len parts=>match en.tab.get t with
  | some ti=>match en.tab.get ti.elem with
   | some te=>if te.ty=.opq 0∧ti.isSl=true∧len≠0∧len≤16777216∧(parts.toList.map fun p=>(p.1,σ.opd p.2)).map (·.1)=List.range len∧((parts.toList.map fun p=>(p.1,σ.opd p.2)).all fun q=>q.2.isPtr)=true then
       some ⟨.sld σ.blks.length len,σ.blks++[.box (prs ((parts.toList.map fun p=>(p.1,σ.opd p.2)).map (·.2)))],[]⟩ else none
   | none=>none
  | none=>none
 | _=>none
def exec0(en:Env)(σ:St)(o:Oper)(K:Eff→Option R):Option R:=match arrO en σ o with
 | some v=>K ⟨v,σ.blks,[]⟩
 | none=>match sldE en σ o with
 | some e=>K e
 | none=>match dstT en o with
 | none=>bif dstSh en o then execP en σ o fun e=>match shalE σ.blks.length e with | some e'=>K e' | none=>none else execP en σ o K
 | some t=>execP en σ o fun e=>match frzE σ.blks.length t e with | some e'=>K e' | none=>none
def exec(en:Env)(σ:St)(o:Oper)(K:Eff→Option R):Option R:=match o.op,o.dst with
 | .call c,some d=>match lookH en.fi.cpre d with
  | some l=>match preB l (opds σ c.args) σ.blks with
   | some bs=>exec0 en ⟨σ.slots,bs⟩ o fun e=>if e.mods.isEmpty then none else K e
   | none=>none
  | none=>exec0 en σ o K
 | _,_=>exec0 en σ o K
def guardA(all:List Oper)(σ:St)(o:Oper)(Kt Kf:St→Option R):Option R :=
 match o.guard with
 | none=>Kt σ
 | some (g,want) =>
  match (all[g]?).bind (·.dst) with
  | none=>none
  | some d=>match σ.slots[d]? with
   | some (.dat [] .bool b) =>
    bif b then
     (if want then Kt {σ with slots:=σ.slots.set d (.bool true)} else Kf {σ with slots:=σ.slots.set d (.bool true)})
    else
     (if want then Kf {σ with slots:=σ.slots.set d (.bool false)} else Kt {σ with slots:=σ.slots.set d (.bool false)})
   | some .nil=>Kf σ
   | _=>none
def St.skip(σ:St)(d:Option Nat):St:={σ with slots:=putS d .nil σ.slots}
def evOps(en:Env)(all:List Oper):List Nat→St→(St→Option R)→Option R
 | [],σ,K=>K σ
 | i::is,σ,K =>
  match all[i]? with
  | none=>none
  | some o=>guardA all σ o (fun σ=>exec en σ o fun e=>evOps en all is (σ.after o.dst e) K) (fun σ=>evOps en all is (σ.skip o.dst) K)
def ancOf:List (Nat×List Nat)→Nat→List Nat
 | [],_=>[]
 | (k,l)::r,i=>if k==i then l else ancOf r i
def dirOf(all:List Oper)(i:Nat):List Nat:=match all[i]? with
 | some o=>o.after.toList.filterMap fun e=>if Region.binds .any e then some e.on else none
 | none=>[]
def ancTab(all:List Oper):List Nat→List (Nat×List Nat)→List (Nat×List Nat)
 | [],A=>A
 | i::is,A=>ancTab all is ((i,insN [] (dirOf all i++(dirOf all i).flatMap (ancOf A)))::A)
def pairsOk(all:List Oper)(A:List (Nat×List Nat)):List Nat→Bool
 | []=>true
 | i::is=>is.all (fun j=>(ancOf A j).contains i||match all[i]?,all[j]? with | some x,some y=>x.apart all.toArray y | _,_=>false)&&pairsOk all A is
def evAny(en:Env)(all:List Oper)(A:List (Nat×List Nat)):List Nat→List Nat→List Nat→St→(St→Option R)→Option R
 | [],_,_,σ,K=>K σ
 | i::is,done,aff,σ,K =>
  match all[i]? with
  | none=>none
  | some o=>if aff.all (fun x=>(ancOf A i).contains x) then
      guardA all σ o (fun σ=>exec en σ o fun e =>
       if e.mods.isEmpty then evAny en all A is (i::done) (if e.blks.length=σ.blks.length then aff else i::aff) (σ.after o.dst e) K
       else if done.all (fun x=>(ancOf A i).contains x) then evAny en all A is (i::done) (i::aff) (σ.after o.dst e) K else none)
      (fun σ=>evAny en all A is (i::done) aff (σ.skip o.dst) K)
   else none
inductive Ex where
 | normal | exit (n:Nat)| ret
inductive To {S T:Type} (f:S→Option (S⊕T)):S→T→Prop
 | done {s:S} {t:T} (h:f s=some (.inr t)):To f s t
 | more {s s':S} {t:T} (h:f s=some (.inl s')) (k:To f s' t):To f s t
open Classical in
noncomputable def fix{S T:Type}(f:S→Option (S⊕T))(s:S):Option T:=if h:∃t,To f s t then some h.choose else none
def key:Code→Nat
 | .region i _ _=>i
 | .seq a _=>key a
 | .block _ a=>key a
 | .loop a=>key a
 | .cond _ a _=>key a
 | _=>0
def keepS(live:List Nat):Nat→List AV→List AV
 | _,[]=>[]
 | i,a::r=>(if live.contains i then a else .un 0)::keepS live (i+1) r
def coS(σ:St)(s:Nat)(box:Bool)(c:Co):Option St :=
 match σ.slots[s]? with
 | none=>none
 | some v=>bif box then
     (match v with
      | .ptr k _ _ _=>match σ.blks[k]? with
       | some (.box a)=>match coV σ.blks c a with | some (a',nb)=>some ⟨σ.slots,σ.blks.set k (.box a')++nb⟩| none=>none
       | _=>none
      | _=>none)
  else match coV σ.blks c v with | some (v',nb)=>some ⟨σ.slots.set s v',σ.blks++nb⟩| none=>none
def coAll:List (Nat×Bool×Co)→St→Option St
 | [],σ=>some σ
 | (s,b,c)::r,σ=>match coS σ s b c with | some σ'=>coAll r σ' | none=>none
def frzV(m:Nat)(t:Ty)(v:AV)(bs:List Blk):Option (AV×List Blk):=match rd bs t v with
 | some x=>some (.dat ((v.lend bs).filter fun k=>decide (k<m)) t x,(Blk.kill bs ((v.lend bs).filter fun k=>!decide (k<m))).map Blk.noN)
 | none=>none
def frzS(m:Nat):List (Nat×Bool×Ty)→St→Option St
 | [],σ=>some σ
 | (s,false,t)::r,σ=>match σ.slots[s]? with
  | some (.un _)=>frzS m r σ
  | some v=>match frzV m t v σ.blks with
   | some (v',bs)=>frzS m r ⟨(σ.slots.map AV.noN).set s v',bs⟩
   | none=>none
  | none=>none
 | (s,true,t)::r,σ=>match σ.slots[s]? with
  | some (.ptr k _ _ _)=>match σ.blks[k]? with
   | some (.box a)=>match frzV m t a σ.blks with
    | some (a',bs)=>match bs[k]? with
     | some (.box _)=>frzS m r ⟨σ.slots.map AV.noN,bs.set k (.box a')⟩
     | _=>none
    | none=>none
   | _=>none
  | _=>frzS m r σ
def mvS(m:Nat):List Nat→St→Option St
 | [],σ=>some σ
 | s::r,σ=>match σ.slots[s]? with
  | some (.ref k)=>if k<m then match σ.blks[k]? with
      | some (.row e md t xs)=>if md.ids.contains k then none else mvS m r ⟨(dropS [k] σ.slots).set s (.ref σ.blks.length),Blk.kill (dropB [k] σ.blks) [k]++[.row e md t xs]⟩
      | _=>none
   else mvS m r σ
  | _=>mvS m r σ
def mvB(m k:Nat)(p:List Nat)(σ:St):Option St:=match σ.blks[k]? with
 | some (.box a)=>match a.getP p with
  | some (.ref j)=>if j<m then match σ.blks[j]? with
      | some (.row e md t xs)=>if md.ids.contains j then none else match (a.drop fun q=>[j].contains q).getP p,(a.drop fun q=>[j].contains q).setP p (.ref σ.blks.length) with
       | some (.ref j'),some a2=>if j'=j∧k≠j then some ⟨dropS [j] σ.slots,(Blk.kill (dropB [j] σ.blks) [j]++[Blk.row e md t xs]).set k (Blk.box a2)⟩ else none
       | _,_=>none
      | _=>none
   else some σ
  | _=>none
 | _=>none
def mvV(m s:Nat)(p:List Nat)(a:AV)(σ:St):Option St:=match a.getP p with
 | some (.ref j)=>if j<m then match σ.blks[j]? with
     | some (.row e md t xs)=>if md.ids.contains j then none else match (a.drop fun q=>[j].contains q).getP p,(a.drop fun q=>[j].contains q).setP p (.ref σ.blks.length) with
      | some (.ref j'),some a2=>if j'=j then some ⟨(dropS [j] σ.slots).set s a2,Blk.kill (dropB [j] σ.blks) [j]++[Blk.row e md t xs]⟩ else none
      | _,_=>none
     | _=>none
  else some σ
 | _=>none
def mvP(m s:Nat)(p:List Nat)(σ:St):Option St:=match σ.slots[s]? with
 | some (.ptr k _ _ _)=>mvB m k p σ
 | some a=>mvV m s p a σ
 | none=>none
def mvPS(m:Nat):List (Nat×List Nat)→St→Option St
 | [],σ=>some σ
 | (s,p)::r,σ=>match mvP m s p σ with | some σ'=>mvPS m r σ' | none=>none
def widB:List (Nat×List Nat)→List Blk→Option (List Blk)
 | [],bs=>some bs
 | (k,ks)::r,bs=>match bs[k]? with
  | some (.row e (.sh l) t xs)=>if l.all (fun j=>ks.contains j)&&ks.all (fun j=>decide (j<bs.length)) then widB r (bs.set k (.row e (.sh ks) t xs)) else none
  | _=>none
def piOk(bs:List Blk)(m:Nat)(π ids:List Nat):Bool :=
 π.take m==List.range m&&nodup π&&ids.all (fun j=>π.contains j)&&π.all fun k=>match bs[k]? with | some b=>b.ids.all fun j=>π.contains j | none=>false
def St.norm(m:Nat)(live:List Nat)(σ:St):Option St :=
 let sl:=keepS live 0 σ.slots
 let π:=reach σ.blks σ.blks.length (insN (List.range m) (sl.flatMap (·.ids)))
 if piOk σ.blks m π (sl.flatMap (·.ids)) then
  some {slots:=sl.map (fun a=>(a.ren (idxOf π)).canon π.length),blks:=π.map fun k=>(((σ.blks[k]?).getD .dead).ren (idxOf π)).canon π.length}
 else none
def turns(en:Env)(o:Oper):Bool:=match o.op with
 | .alloc _=>true
 | .box _ _=>true
 | .buildSlice _ _ _=>true
 | .store _ _ _=>true
 | .makeSlice _ _ _=>true
 | .makeMap _ _=>true
 | .mapUpdate _ _ _ _=>true
 | .load _ _=>match o.dst with | some d=>en.fi.stl.contains d | none=>false
 | .lookup _ _ _ _=>match o.dst with | some d=>en.fi.stl.contains d | none=>false
 | .slice _ _ _ _ _=>match o.dst with | some d=>en.fi.take.contains d | none=>false
 | .call c=>match c.callee with | .builtin .append=>true | .builtin _=>false | _=>true
 | _=>false
def edgesOk(all:List Oper)(done:List Nat)(i:Nat):Bool:=(dirOf all i).all fun x=>done.contains x
def orderOf(en:Env)(all:List Oper):Nat→List Nat→List Nat
 | 0,done=>done.reverse
 | f+1,done =>
  let rdy:=(List.range all.length).filter fun i=>!done.contains i&&edgesOk all done i
  match rdy.find? (fun i=>match all[i]? with | some o=>!turns en o | none=>false) with
  | some i=>orderOf en all f (i::done)
  | none=>match rdy with
   | i::_=>orderOf en all f (i::done)
   | []=>done.reverse
def topoOk(all:List Oper):List Nat→List Nat→Bool
 | [],_=>true
 | i::is,done=>(dirOf all i).all (fun d=>done.contains d)&&topoOk all is (i::done)
def anyOk(all:List Oper)(L:List Nat):Bool:=nodup L&&(List.range all.length).all (fun i=>L.contains i)&&L.all (fun i=>decide (i<all.length))&&pairsOk all (ancTab all L []) L&&topoOk all L []
end
def St.head(h:SH)(m:Nat)(σ:St):Option St :=
 match ((mvS m h.mv σ).bind (mvPS m h.mvp)).bind (frzS m h.frz) with
 | none=>none
 | some σ=>match coAll h.pre σ with
  | none=>none
  | some σ=>match σ.norm m h.live with
   | none=>none
   | some σ=>match widB h.wid σ.blks with
    | none=>none
    | some bs=>coAll h.post ⟨σ.slots,bs⟩
def entS(m:Nat)(σ:St):Option (List Nat)→Option St
 | none=>some σ
 | some l=>σ.head {live:=l} m
open Classical in
noncomputable def eqSt(s t:St):Option Unit:=if s=t then some () else none
def pureO(o:Oper):Bool:=match o.op with
 | .move _=>true
 | .assign _=>true
 | .extract _ _=>true
 | .fieldAddr _ _ _=>true
 | .indexAddr _ _ _=>true
 | _=>false
def pickW(ops:Array Oper)(listed:Array Bool):Option Nat:=(Region.ready .any ops listed).find? fun i=>(match ops[i]? with | some o=>pureO o | none=>false)&&Region.free .any ops listed i
def foldW:List (Option Unit)→Option Unit
 | []=>some ()
 | [x]=>x
 | x::y::r=>x.bind fun _=>foldW (y::r)
noncomputable def allW(en:Env)(h:SH)(m:Nat)(ops:Array Oper)(σ':St):Nat→Array Bool→St→Option Unit
 | 0,listed,σ=>if(Region.ready .any ops listed).isEmpty then match σ.head h m with | some s=>eqSt s σ' | none=>none else none
 | k+1,listed,σ=>match pickW ops listed with
  | some i=>evOps en ops.toList [i] σ fun σ1=>allW en h m ops σ' k (listed.setIfInBounds i true) σ1
  | none=>if(Region.ready .any ops listed).isEmpty then none else
  foldW ((Region.ready .any ops listed).map fun i=>evOps en ops.toList [i] σ fun σ1=>allW en h m ops σ' k (listed.setIfInBounds i true) σ1)
def pickQ1(N:Nat)(σ:St)(o:Oper):Bool:=pureO o||match o.op with
 | .load _ x=>(match σ.opd x with | .ptr k _ _ _=>decide (k<N)&&(match σ.blks[k]? with | some (.box _)=>true | _=>false)| _=>false)
 | .call c=>(match c.callee,opds σ c.args with | .builtin .len,[.dat _ (.sl _) _]=>true | .builtin .len,[.zs]=>true | _,_=>false)
 | .binOp op _ x y _=>(match op with | .add=>true | .sub=>true | _=>false)&&(match σ.opd x,σ.opd y with | .dat _ (.int k) _,.dat _ (.int k') _=>decide (k=k')| _,_=>false)
 | _=>false
def pickQ(N:Nat)(σ:St)(ops:Array Oper)(listed:Array Bool):Option Nat:=(Region.ready .any ops listed).find? fun i=>(match ops[i]? with | some o=>pickQ1 N σ o | none=>false)&&Region.free .any ops listed i
def evQ{R:Type}(en:Env)(all:List Oper)(i:Nat)(σ:St)(K:St→Option R):Option R:=match all[i]? with
 | none=>none
 | some o=>guardA all σ o (fun σ=>exec en σ o fun e=>if e.mods.isEmpty then K (σ.after o.dst e) else none) (fun σ=>K (σ.skip o.dst))
noncomputable def allQ(en:Env)(h:SH)(m N:Nat)(ops:Array Oper)(σ':St):Nat→Array Bool→St→Option Unit
 | 0,listed,σ=>if(Region.ready .any ops listed).isEmpty then match σ.head h m with | some s=>eqSt s σ' | none=>none else none
 | k+1,listed,σ=>match pickQ N σ ops listed with
  | some i=>evQ en ops.toList i σ fun σ1=>allQ en h m N ops σ' k (listed.setIfInBounds i true) σ1
  | none=>if(Region.ready .any ops listed).isEmpty then none else
  foldW ((Region.ready .any ops listed).map fun i=>evQ en ops.toList i σ fun σ1=>allQ en h m N ops σ' k (listed.setIfInBounds i true) σ1)
noncomputable def regW(en:Env)(m:Nat)(h:SH)(ops:Array Oper)(σ:St):Option St :=
 if Region.noSelect ops=false then none else evOps en ops.toList (List.range ops.size) σ fun s=>(s.head h m).bind fun σ'=>(bif h.quiet then allQ en h m σ.blks.length ops σ' ops.size (Array.replicate ops.size false) σ else allW en h m ops σ' ops.size (Array.replicate ops.size false) σ).bind fun _=>some σ'
def unrl{R:Type}(f:St→(Ex→St→Option R)→Option R)(K:Ex→St→Option R):Nat→St→Option R
 | 0,_=>none
 | n+1,σ=>f σ fun e σ'=>match e with
  | .normal=>unrl f K n σ'
  | .exit k=>K (.exit k) σ'
  | .ret=>K .ret σ'
noncomputable def ev(en:Env)(m:Nat):Code→(R:Type)→St→(Ex→St→Option R)→Option R
 | .skip,_,σ,K=>K .normal σ
 | .ret,_,σ,K=>K .ret σ
 | .exit n,_,σ,K=>K (.exit n) σ
 | .seq a b,R,σ,K=>match lookH en.fi.joins (key b) with
  | none=>ev en m a R σ fun e σ=>match e with
   | .normal=>ev en m b R σ K
   | .exit n=>K (.exit n) σ
   | .ret=>K .ret σ
  | some h=>(entS m σ (lookH en.fi.ents (key b))).bind fun σ=>(ev en m a (Ex×St) σ fun e σ=>(σ.head h m).bind fun σ'=>some (e,σ')).bind fun p=>match p.1 with
   | .normal=>ev en m b R p.2 K
   | .exit n=>K (.exit n) p.2
   | .ret=>K .ret p.2
 | .cond c a b,R,σ,K=>match σ.opd c with | .dat _ .bool t=>bif t then ev en m a R σ K else ev en m b R σ K | _=>none
 | .block n a,R,σ,K=>ev en m a R σ fun e σ=>match e with
  | .normal=>K .normal σ
  | .exit k=>bif k==n then K .normal σ else K (.exit k) σ
  | .ret=>K .ret σ
 | .region _ ops false,_,σ,K=>evOps en ops.toList (List.range ops.size) σ (K .normal)
 | .region id ops true,_,σ,K=>match lookH en.fi.draws id with
  | some h=>(entS m σ (lookH en.fi.dents id)).bind fun σ=>(regW en m h ops σ).bind (K .normal)
  | none=>if anyOk ops.toList (orderOf en ops.toList ops.toList.length []) then evAny en ops.toList (ancTab ops.toList (orderOf en ops.toList ops.toList.length []) []) (orderOf en ops.toList ops.toList.length []) [] [] σ (K .normal) else none
 | .loop body,R,σ,K=>match lookH en.fi.unr (key body) with
  | some n=>unrl (fun s K=>ev en m body R s K) K n σ
  | none=>match lookH en.fi.heads (key body),lookH en.fi.outs (key body) with
  | some h,some ho=>match σ.head h m with
   | none=>none
   | some σ0=>(fix (fun s=>ev en m body (St⊕(Ex×St)) s fun e s'=>match e with
       | .normal=>(s'.head h m).bind fun s''=>some (.inl s'')
       | .exit n=>(s'.head ho m).bind fun s''=>some (.inr (.exit n,s''))
       | .ret=>(s'.head ho m).bind fun s''=>some (.inr (.ret,s''))) σ0).bind fun p=>K p.1 p.2
  | _,_=>none
 | _,_,_,_=>none
def resA(tab:Tab)(σ:St):List ResultVar→Option (List AV)
 | []=>some []
 | .tmp t::r=>match σ.slots[t]?,resA tab σ r with | some v,some l=>some (v::l)| _,_=>none
 | .cell a t::r=>match tab.get t,σ.slots[a]? with
  | some ti,some (.ptr k i p o)=>match atP σ.blks k i p o,resA tab σ r with
   | some v,some l=>if v.size=ti.ty.size∧v.isAgg=ti.ty.isAgg then some (v::l) else none
   | _,_=>none
  | _,_=>none
def resV:List AV→AV
 | [a]=>a
 | l=>consAll l
def coRes:List (Nat×Co)→List AV→List Blk→Option (List AV×List Blk)
 | [],l,bs=>some (l,bs)
 | (i,c)::r,l,bs=>match l[i]? with
  | none=>none
  | some v=>match coV bs c v with | some (v',nb)=>coRes r (l.set i v') (bs++nb)| none=>none
def frzR(m:Nat):List (Nat×Ty)→List AV→List Blk→Option (List AV×List Blk)
 | [],l,bs=>some (l,bs)
 | (i,t)::r,l,bs=>match l[i]? with
  | none=>none
  | some v=>match frzV m t v bs with | some (v',bs')=>frzR m r ((l.map AV.noN).set i v') bs' | none=>none
def leave(m:Nat)(bs:List Blk)(v:AV):Option (AV×List Blk) :=
 let π:=reach bs bs.length (insN (List.range m) v.ids)
 if piOk bs m π v.ids then some ((v.ren (idxOf π)).canon π.length,π.map fun k=>(((bs[k]?).getD .dead).ren (idxOf π)).canon π.length) else none
def finS(m:Nat):List Fi→St→Option St
 | [],σ=>some σ
 | .co k c::r,σ=>match coB k c σ.blks with | some bs=>finS m r ⟨σ.slots,bs⟩| none=>none
 | .dead j::r,σ=>finS m r ⟨σ.slots,σ.blks.set j .dead⟩
 | .mvs s p::r,σ=>match mvP m s p σ with | some σ'=>finS m r σ' | none=>none
 | .mv k p::r,σ=>match mvB m k p σ with | some σ'=>finS m r σ' | none=>none
noncomputable def runF(en:Env)(fn:Func)(R:Type)(args:List AV)(E:List Blk)(K:AV→List Blk→Option R):Option R :=
 match fn.body with
 | none=>none
 | some c =>
  if args.length≤fn.ntmps then
   ev en E.length c R ⟨args++List.replicate (fn.ntmps-args.length) (.un 0),E⟩ fun e σ=>match e with
    | .exit _=>none
    | _=>match finS E.length en.fi.fin σ with
     | none=>none
     | some σ=>match resA en.tab σ fn.results.toList with
     | some l=>match frzR E.length en.fi.frz l σ.blks with
      | some (l,bs)=>match coRes en.fi.res l bs with
       | some (l',bs')=>match leave E.length bs' (resV l') with
        | some (v,bs)=>K v bs
        | none=>none
       | none=>none
      | none=>none
     | none=>none
  else none
end Go.Va
namespace Go.Va
section
variable {S T X Y:Type}
theorem To.det{f:S→Option (S⊕T)}{s:S}{t u:T}(h:To f s t)(k:To f s u):t=u:=by
 induction h with
 | done h=>cases k with
  | done k=>rw[h] at k; injection k with k; injection k
  | more k _=>rw[h] at k; injection k with k; cases k
 | more h _ ih=>cases k with
  | done k=>rw[h] at k; injection k with k; cases k
  | more k k'=>rw[h] at k; injection k with k; injection k with k; subst k; exact ih k'
theorem LV{f:S→Option (S⊕T)}{s:S}{t:T}:fix f s=some t↔To f s t:=by
 unfold fix
 constructor
 ·intro h
  split at h
  ·rename_i hx; injection h with h; subst h; exact hx.choose_spec
  ·cases h
 ·intro h
  rw[dif_pos ⟨t,h⟩]
  exact congrArg some (To.det (Exists.choose_spec ⟨t,h⟩) h)
theorem YY(f:S→Option (S⊕T))(s:S):fix f s=match f s with | none=>none | some (.inl s')=>fix f s' | some (.inr t)=>some t:=by
 apply Option.ext
 intro t
 rw[LV]
 constructor
 ·intro h
  cases h with
  | done h=>rw[h]
  | more h k=>rw[h]; exact LV.2 k
 ·intro h
  split at h
  ·cases h
  ·rename_i s' hs; exact .more hs (LV.1 h)
  ·rename_i u hs; injection h with h; subst h; exact .done hs
theorem Bv{f:S→Option (S⊕T)}{s:S}{t:T}(h:f s=some (.inr t)):fix f s=some t:=by rw[YY,h]
theorem HM{f:S→Option (S⊕T)}{s s':S}(h:f s=some (.inl s')):fix f s=fix f s':=by rw[YY,h]
theorem Zw (σ:X→S) (τ:Y→T) (f:S→Option (S⊕T)) (g:X→Option (X⊕Y)) (h:∀x,f (σ x)=(g x).map (Sum.map σ τ)) (x:X) :
    fix f (σ x)=(fix g x).map τ:=by
 apply Option.ext
 intro t
 rw[LV]
 constructor
 ·intro ht
  generalize hs:σ x=s at ht
  induction ht generalizing x with
  | @done s t hd =>
   subst hs; rw[h] at hd
   cases hg:g x with
   | none=>rw[hg] at hd; cases hd
   | some r=>rw[hg] at hd; cases r with
    | inl x'=>cases hd
    | inr y=>injection hd with hd; injection hd with hd; subst hd; rw[Bv hg]; rfl
  | @more s s' t hd _ ih =>
   subst hs; rw[h] at hd
   cases hg:g x with
   | none=>rw[hg] at hd; cases hd
   | some r=>rw[hg] at hd; cases r with
    | inl x'=>injection hd with hd; injection hd with hd; rw[HM hg]; exact ih x' hd
    | inr y=>injection hd with hd; cases hd
 ·intro ht
  cases hf:fix g x with
  | none=>rw[hf] at ht; cases ht
  | some y =>
   rw[hf] at ht; injection ht with ht; subst ht
   have hto:=LV.1 hf
   clear hf
   induction hto with
   | done hd=>exact .done (by rw[h,hd]; rfl)
   | more hd _ ih=>exact .more (by rw[h,hd]; rfl) ih
end
theorem Yp{A B:Type}(f:A→B)(c:Bool)(x y:Option A):(bif c then x else y).map f=bif c then x.map f else y.map f:=by cases c<;>rfl
theorem ZN{A B:Type}(f:A→B)(c:Prop)[Decidable c](x y:Option A):(if c then x else y).map f=if c then x.map f else y.map f:=by split<;>rfl
theorem Ww{A B C:Type}(f:B→C)(x:Option A)(k:A→Option B):(x.bind k).map f=x.bind fun y=>(k y).map f:=by cases x<;>rfl
theorem Po{A B C:Type}(f:A→B)(x:Option A)(k:B→Option C):(x.map f).bind k=x.bind fun y=>k (f y):=by cases x<;>rfl
def sub:Code→List Nat→Code
 | c,[]=>c
 | .seq a b,n::p=>match n with | 0=>sub a p | _=>sub b p
 | .cond _ a b,n::p=>match n with | 0=>sub a p | _=>sub b p
 | .block _ a,_::p=>sub a p
 | .loop a,_::p=>sub a p
 | _,_=>.skip
noncomputable def kont(en:Env)(m:Nat)(R:Type):Code→List Nat→(Ex→St→Option R)→Ex→St→Option R
 | _,[],K=>K
 | .seq a b,n::p,K=>match n with
  | 0=>kont en m R a p fun e σ=>match e with
   | .normal=>ev en m b R σ K
   | .exit n=>K (.exit n) σ
   | .ret=>K .ret σ
  | _=>kont en m R b p K
 | .cond _ a b,n::p,K=>match n with | 0=>kont en m R a p K | _=>kont en m R b p K
 | .block n a,_::p,K=>kont en m R a p fun e σ=>match e with
  | .normal=>K .normal σ
  | .exit k=>bif k==n then K .normal σ else K (.exit k) σ
  | .ret=>K .ret σ
 | _,_,_=>fun _ _=>none
noncomputable def stepK (m:Nat) (h ho:SH) (e:Ex) (s':St):Option (St⊕(Ex×St)):=match e with
    | .normal=>(s'.head h m).bind fun s''=>some (.inl s'')
    | .exit n=>(s'.head ho m).bind fun s''=>some (.inr (.exit n,s''))
    | .ret=>(s'.head ho m).bind fun s''=>some (.inr (.ret,s''))
noncomputable def joinK(m:Nat)(h:SH)(e:Ex)(σ:St):Option (Ex×St):=(σ.head h m).bind fun σ'=>some (e,σ')
noncomputable def stepL(en:Env)(m:Nat)(h ho:SH)(body:Code)(s:St):Option (St⊕(Ex×St)) :=
 ev en m body (St⊕(Ex×St)) s fun e s'=>match e with
  | .normal=>(s'.head h m).bind fun s''=>some (.inl s'')
  | .exit n=>(s'.head ho m).bind fun s''=>some (.inr (.exit n,s''))
  | .ret=>(s'.head ho m).bind fun s''=>some (.inr (.ret,s''))
noncomputable def joinL(en:Env)(m:Nat)(h:SH)(a:Code)(s:St):Option (Ex×St):=ev en m a (Ex×St) s fun e σ=>(σ.head h m).bind fun σ'=>some (e,σ')
noncomputable def finK(en:Env)(fn:Func)(m:Nat)(R:Type)(K:AV→List Blk→Option R)(e:Ex)(σ:St):Option R :=
 match e with
 | .exit _=>none
 | _=>match finS m en.fi.fin σ with
  | none=>none
  | some σ=>match resA en.tab σ fn.results.toList with
  | some l=>match frzR m en.fi.frz l σ.blks with
   | some (l,bs)=>match coRes en.fi.res l bs with
    | some (l',bs')=>match leave m bs' (resV l') with
     | some (v,bs)=>K v bs
     | none=>none
    | none=>none
   | none=>none
  | none=>none
def mkS:Nat→Nat→List (Nat×AV)→List AV
 | 0,_,_=>[]
 | n+1,i,[]=>.un 0::mkS n (i+1) []
 | n+1,i,(j,v)::r=>if i==j then v::mkS n (i+1) r else .un 0::mkS n (i+1) ((j,v)::r)
end Go.Va
namespace Go.Va
inductive Tag where
 | no | imm | lab (k:Nat) (p:List Nat)
structure BI where
 a:Option Addr
 len:Nat
 cap:Nat
 esz:Nat
structure G where
 own:Nat→Tag
 at_:Nat→BI
def ListR{α:Type}(R:α→List Value→Prop):List α→List Value→Prop
 | [],cs=>cs=[]
 | x::xs,cs=>∃c d,cs=c++d∧R x c∧ListR R xs d
def ListI{α:Type}(R:Nat→α→List Value→Prop):Nat→List α→List Value→Prop
 | _,[],cs=>cs=[]
 | i,x::xs,cs=>∃c d,cs=c++d∧R i x c∧ListI R (i+1) xs d
def RdR(w:World)(A:Nat→Prop):(t:Ty)→t.V→List Value→Prop
 | .int k,x,cs=>cs=[.int k x]
 | .bool,b,cs=>cs=[.bool b]
 | .str,s,cs=>cs=[.string s]
 | .unit,_,cs=>cs=[]
 | .pair a b,x,cs=>∃c d,cs=c++d∧RdR w A a x.1 c∧RdR w A b x.2 d
 | .sl t,xs,cs=>∃ad cap ds,cs=[.slice ad xs.length cap]∧xs.length≤cap∧ListR (RdR w A t) xs ds ∧
     (xs=[]∨∃b off,ad=some ⟨b,off,none⟩∧A b∧∀j u,ds[j]?=some u→w.cell? ⟨b,off+j,none⟩=some u)
 | .opq _,_,_=>False
def OwR(w:World)(own:Nat→Tag)(k:Nat):(t:Ty)→List Nat→t.V→List Value→Prop
 | .int k',_,x,cs=>cs=[.int k' x]
 | .bool,_,b,cs=>cs=[.bool b]
 | .str,_,s,cs=>cs=[.string s]
 | .unit,_,_,cs=>cs=[]
 | .pair a b,p,x,cs=>∃c d,cs=c++d∧OwR w own k a (0::p) x.1 c∧OwR w own k b (1::p) x.2 d
 | .sl t,p,xs,cs=>∃ad cap,cs=[.slice ad xs.length cap]∧((xs=[]∧cap=0)∨∃b e cur ds,ad=some ⟨b,0,none⟩∧own b=.lab k p ∧
     w.heap[b]?=some (.cells cur e (0,0))∧xs.length≤cap∧cap≤maxLen∧cur.size=cap*t.size∧cur.toList.take (xs.length*t.size)=ds∧ListI (fun i=>OwR w own k t (i::p)) 0 xs ds)
 | .opq _,_,_,_=>False
def Al(own:Nat→Tag)(ks:List Nat)(b:Nat):Prop:=own b=.imm∨∃k∈ks,∃p,own b=.lab k p
def AV.isUn:AV→Bool
 | .un _=>true
 | _=>false
def asVal(agg:Bool)(cs:List Value)(v:Value):Prop:=bif agg then v=.agg cs.toArray else cs=[v]
def AVX(w:World)(g:G)(n:Nat):Bool→AV→List Value→Prop
 | false,.dat ks t x,cs=>(∀k∈ks,k<n)∧RdR w (Al g.own ks) t x cs
 | false,.zs,cs=>∃ad,cs=[.slice ad 0 0]
 | false,.ref k,cs=>k<n∧cs=[.slice (g.at_ k).a (g.at_ k).len (g.at_ k).cap]
 | false,.ptr k i _ o,cs=>k<n∧0≤i∧i.toNat<(g.at_ k).len∧∃b,(g.at_ k).a=some ⟨b,0,none⟩∧cs=[.pointer (some ⟨b,i.toNat*(g.at_ k).esz+o,none⟩)]
 | false,.rop ks t x,cs=>(∀k∈ks,k<n)∧∃b off ds,cs=[.pointer (some ⟨b,off,none⟩)]∧Al g.own ks b∧RdR w (Al g.own ks) t x ds∧∀j u,ds[j]?=some u→w.cell? ⟨b,off+j,none⟩=some u
 | false,.nilp,cs=>cs=[.pointer none]
 | false,.nst k i _ o _,cs=>k<n∧0≤i∧i.toNat<(g.at_ k).len∧∃b v,(g.at_ k).a=some ⟨b,0,none⟩∧g.own b=.lab k []∧cs=[v]∧v.oneCell'=true∧w.cell? ⟨b,i.toNat*(g.at_ k).esz+o,none⟩=some v
 | false,.sld k l,cs=>k<n∧cs=[.slice (g.at_ k).a l l]
 | false,.mp k,cs=>k<n∧∃b,(g.at_ k).a=some ⟨b,0,none⟩∧cs=[.map (some b)]
 | false,.pr a b,cs=>∃c d,cs=c++d∧AVX w g n false a c∧AVX w g n false b d
 | false,.fn f c,cs=>∃vs,cs=[.func (.func f) #[] vs.toArray]∧AVX w g n true c vs
 | false,.un k,cs=>cs.length=k∧∀v∈cs,v.oneCell'=true
 | true,.cons a b,vs=>∃v r,vs=v::r∧(a.isUn=true∨∃cs,AVX w g n false a cs∧asVal a.isAgg cs v)∧AVX w g n true b r
 | true,.nil,vs=>vs=[]
 | _,_,_=>False
def AVR(w:World)(g:G)(n:Nat):AV→Value→Prop
 | .cons a b,v=>∃vs,v=.tuple vs.toArray∧AVX w g n true (.cons a b) vs
 | .nil,v=>v=.tuple #[]
 | a,v=>a.isUn=true∨∃cs,AVX w g n false a cs∧asVal a.isAgg cs v
def ElR(w:World)(own:Nat→Tag)(k:Nat):RM→(t:Ty)→Nat→t.V→List Value→Prop
 | .deep,t,i,x,cs=>OwR w own k t [i] x cs
 | .sh ks,t,_,x,cs=>RdR w (Al own ks) t x cs
def RowC(w:World)(own:Nat→Tag)(k:Nat):RM→(t:Ty)→List t.V→List Value→Prop
 | .deep,t,xs,ds=>ListI (fun i=>OwR w own k t [i]) 0 xs ds
 | .sh ks,t,xs,ds=>ListR (RdR w (Al own ks) t) xs ds
def CellsAt(w:World)(b e:Nat)(cur:Array Value):Prop:=∃el,(e=0∨el=e)∧w.heap[b]?=some (.cells cur el (0,0))
def keyV:(t:Ty)→t.V→Value
 | .int k,x=>.int k x
 | .str,s=>.string s
 | .pair (.int q) (.pair (.int q') .unit),x=>.agg #[.int q x.1,.int q' x.2.1]
 | _,_=>.nilIface
def MapR(w:World)(own:Nat→Tag)(k:Nat)(md:RM)(kt vt:Ty)(st:Option kt.V):Nat→List (kt.V×vt.V)→List MapEntry→Prop
 | _,[],ms=>ms=[]
 | i,x::xs,ms=>∃m r,ms=m::r∧m.key=keyV kt x.1∧(st=some x.1∨∃cs,ElR w own k md vt i x.2 cs∧asVal vt.isAgg cs m.val)∧MapR w own k md kt vt st (i+1) xs r
def BlkR(w:World)(g:G)(n k:Nat):Blk→Prop
 | .box a=>(g.at_ k).len=1∧∃b cs e,(g.at_ k).a=some ⟨b,0,none⟩∧g.own b=.lab k []∧w.heap[b]?=some (.cells cs e (0,0))∧AVX w g n false a cs.toList
 | .row e m t xs=>(∀j∈m.ids,j<n)∧(g.at_ k).len=xs.length∧(g.at_ k).esz=t.size∧0<t.size∧((xs=[]∧(g.at_ k).cap=0)∨∃b cur ds,(g.at_ k).a=some ⟨b,0,none⟩∧g.own b=.lab k [] ∧
     CellsAt w b e cur∧xs.length≤(g.at_ k).cap∧(g.at_ k).cap≤maxLen∧cur.size=(g.at_ k).cap*t.size∧cur.toList.take (xs.length*t.size)=ds∧RowC w g.own k m t xs ds)
 | .map md kt vt es st=>(∀j∈md.ids,j<n)∧∃b arr clock,(g.at_ k).a=some ⟨b,0,none⟩∧g.own b=.lab k []∧w.heap[b]?=some (.map arr clock)∧(es.map (·.1)).Nodup∧MapR w g.own k md kt vt st 0 es arr.toList
 | .hole e t xs i p=>(g.at_ k).len=xs.length∧(g.at_ k).esz=t.size∧0<t.size∧0≤i∧i.toNat<xs.length∧∃u o x0 b cur ds,offTP t p=some o∧tyP t p=some (.sl u)∧setV (.sl u) [] p t (xs.getD i.toNat t.zero)=some x0 ∧
     (g.at_ k).a=some ⟨b,0,none⟩∧g.own b=.lab k []∧CellsAt w b e cur∧xs.length≤(g.at_ k).cap∧(g.at_ k).cap≤maxLen∧cur.size=(g.at_ k).cap*t.size ∧
     (cur.setIfInBounds (i.toNat*t.size+o) (.slice none 0 0)).toList.take (xs.length*t.size)=ds∧ListI (fun j=>OwR w g.own k t [j]) 0 (xs.set i.toNat x0) ds
 | .dead=>True
structure Heap (w:World) (g:G) (bs:List Blk):Prop where
 fresh:∀b,w.heap.size≤b→g.own b=.no
 blk:∀k x,bs[k]?=some x→BlkR w g bs.length k x
structure Step (mods:List Nat) (n:Nat) (w:World) (g:G) (w':World) (g':G):Prop where
 os:w'.os=w.os
 tape:w'.tape=w.tape
 output:w'.output=w.output
 size:w.heap.size≤w'.heap.size
 no:∀b,b<w.heap.size→g.own b=.no→g'.own b=.no∧w'.heap[b]?=w.heap[b]?
 imm:∀b,g.own b=.imm→g'.own b=.imm∧w'.heap[b]?=w.heap[b]?
 lab:∀b k p,g.own b=.lab k p→k<n→k∉mods→g'.own b=.lab k p∧w'.heap[b]?=w.heap[b]?
 at_:∀k,k<n→g'.at_ k=g.at_ k
section
variable {α:Type} {R S:α→List Value→Prop} {I J:Nat→α→List Value→Prop}
theorem ListR.mono(h:∀x c,R x c→S x c):∀{xs cs},ListR R xs cs→ListR S xs cs
 | [],_,hc=>hc
 | _::_,_,⟨c,d,e,r,l⟩=>⟨c,d,e,h _ _ r,l.mono h⟩
theorem ListI.mono(h:∀i x c,I i x c→J i x c):∀{i xs cs},ListI I i xs cs→ListI J i xs cs
 | _,[],_,hc=>hc
 | _,_::_,_,⟨c,d,e,r,l⟩=>⟨c,d,e,h _ _ _ r,l.mono h⟩
theorem ListI.toR(h:∀i x c,I i x c→S x c):∀{i xs cs},ListI I i xs cs→ListR S xs cs
 | _,[],_,hc=>hc
 | _,_::_,_,⟨c,d,e,r,l⟩=>⟨c,d,e,h _ _ _ r,l.toR h⟩
theorem ListR.toI(h:∀i x c,R x c→J i x c):∀{i xs cs},ListR R xs cs→ListI J i xs cs
 | _,[],_,hc=>hc
 | _,_::_,_,⟨c,d,e,r,l⟩=>⟨c,d,e,h _ _ _ r,ListR.toI h l⟩
theorem ListR.append:∀{xs ys cs ds},ListR R xs cs→ListR R ys ds→ListR R (xs++ys) (cs++ds)
 | [],_,_,_,h,k=>by cases h; exact k
 | _::_,_,_,_,⟨c,d,e,r,l⟩,k=>⟨c,d++_,by rw[e,List.append_assoc],r,l.append k⟩
theorem ListI.append:∀{i xs ys cs ds},ListI I i xs cs→ListI I (i+xs.length) ys ds→ListI I i (xs++ys) (cs++ds)
 | _,[],_,_,_,h,k=>by cases h; exact k
 | i,_::xs,_,_,ds,⟨c,d,e,r,l⟩,k=>by
  subst e
  exact⟨c,d++ds,List.append_assoc ..,r,l.append (by rw[List.length_cons] at k; rw[show i+1+xs.length=i+(xs.length+1) by omega]; exact k)⟩
theorem ListR.len{s:Nat}(h:∀x c,R x c→c.length=s):∀{xs cs},ListR R xs cs→cs.length=xs.length*s
 | [],_,hc=>by cases hc; simp
 | _::xs,_,⟨c,d,e,r,l⟩=>by
  have h1:=h _ _ r
  have h2:=l.len h
  rw[e,List.length_append,h1,h2,List.length_cons,Nat.add_mul,Nat.one_mul,Nat.add_comm]
theorem ListI.len{s:Nat}(h:∀i x c,I i x c→c.length=s){i xs cs}(l:ListI I i xs cs):cs.length=xs.length*s :=
 ListR.len (R:=fun x c=>∃i,I i x c) (fun x c ⟨i,r⟩=>h i x c r) (l.toR fun i _ _ r=>⟨i,r⟩)
theorem ListI.at_ {s:Nat} (hs:∀i x c,I i x c→c.length=s):∀{j i xs cs},ListI I j xs cs→(hi:i<xs.length) →
    ∃c0 c d,cs=c0++c++d∧c0.length=i*s∧I (j+i) xs[i] c∧ListI I j (xs.take i) c0∧ListI I (j+i+1) (xs.drop (i+1)) d
 | j,0,x::xs,_,⟨c,d,e,r,l⟩,_=>⟨[],c,d,e,by simp,r,rfl,l⟩
 | j,i+1,x::xs,_,⟨c,d,e,r,l⟩,hi=>by
  obtain⟨c0,c1,d1,e1,hl,hr,ht,hd⟩:=l.at_ hs (i:=i) (by simpa using hi)
  refine⟨c++c0,c1,d1,by rw[e,e1,List.append_assoc,List.append_assoc,List.append_assoc],?_,?_,⟨c,c0,rfl,r,?_⟩,?_⟩
  ·rw[List.length_append,hs _ _ _ r,hl,Nat.add_mul,Nat.one_mul,Nat.add_comm]
  ·rw[show j+(i+1)=j+1+i by omega]; exact hr
  ·exact ht
  ·rw[show j+(i+1)+1=j+1+i+1 by omega]; exact hd
theorem ListI.join:∀{j i:Nat} {xs:List α} {c0 c d:List Value} {x:α},i<xs.length→ListI I j (xs.take i) c0→I (j+i) x c→ListI I (j+i+1) (xs.drop (i+1)) d→ListI I j (xs.set i x) (c0++c++d)
 | j,0,_::xs,c0,c,d,x,_,ht,hr,hd=>by cases ht; exact⟨c,d,rfl,hr,hd⟩
 | j,i+1,y::xs,_,c,d,x,hi,⟨c1,c2,e,r,l⟩,hr,hd=>by
  subst e
  refine⟨c1,c2++c++d,by simp only[List.append_assoc],r,?_⟩
  exact ListI.join (by simpa using hi) l (by rw[show j+1+i=j+(i+1) by omega]; exact hr) (by rw[show j+1+i+1=j+(i+1)+1 by omega]; exact hd)
theorem Js:∀{j xs cs},ListR R xs cs↔ListI (fun _=>R) j xs cs
 | _,[],_=>Iff.rfl
 | _,_::_,_=>⟨fun⟨c,d,e,r,l⟩=>⟨c,d,e,r,Js.1 l⟩,fun⟨c,d,e,r,l⟩=>⟨c,d,e,r,Js.2 l⟩⟩
theorem ListR.at_ {s:Nat} (hs:∀x c,R x c→c.length=s) {i xs cs} (l:ListR R xs cs) (hi:i<xs.length) :
    ∃c0 c d,cs=c0++c++d∧c0.length=i*s∧R xs[i] c∧ListR R (xs.take i) c0∧ListR R (xs.drop (i+1)) d:=by
 obtain⟨c0,c,d,e,hl,hr,ht,hd⟩:=ListI.at_ (I:=fun _=>R) (fun _ x c=>hs x c) (Js (j:=0).1 l) hi
 exact⟨c0,c,d,e,hl,hr,Js.2 ht,Js.2 hd⟩
theorem ListR.join{i:Nat}{xs:List α}{c0 c d:List Value}{x:α}(hi:i<xs.length)(ht:ListR R (xs.take i) c0)(hr:R x c)(hd:ListR R (xs.drop (i+1)) d):ListR R (xs.set i x) (c0++c++d) :=
 Js (j:=0).2 (ListI.join hi (Js.1 ht) hr (Js.1 hd))
theorem ListI.takeN{s:Nat}(hs:∀i x c,I i x c→c.length=s):∀{j xs cs} (n:Nat),ListI I j xs cs→ListI I j (xs.take n) (cs.take (n*s))
 | _,[],_,n,h=>by cases h; simp[ListI]
 | _,_::_,_,0,_=>by simp[ListI]
 | j,x::xs,_,n+1,⟨c,d,e,r,l⟩=>by
  subst e
  have hc:=hs _ _ _ r
  refine⟨c,d.take (n*s),?_,r,l.takeN hs n⟩
  rw[List.take_append,hc,List.take_of_length_le (by rw[hc,Nat.add_mul]; omega),show(n+1)*s-s=n*s by rw[Nat.add_mul,Nat.one_mul]; omega]
theorem ListR.takeN{s:Nat}(hs:∀x c,R x c→c.length=s){xs cs}(n:Nat)(l:ListR R xs cs):ListR R (xs.take n) (cs.take (n*s)) :=
 Js (j:=0).2 (ListI.takeN (fun _ x c=>hs x c) n (Js.1 l))
theorem ListR.dropN{s:Nat}(hs:∀x c,R x c→c.length=s):∀{xs cs} (n:Nat),ListR R xs cs→ListR R (xs.drop n) (cs.drop (n*s))
 | [],_,n,h=>by cases h; simp[ListR]
 | _::_,_,0,h=>by simpa using h
 | x::xs,_,n+1,⟨c,d,e,r,l⟩=>by
  subst e
  have hc:=hs _ _ r
  have h1:List.drop ((n+1)*s) c=[]:=List.drop_of_length_le (by rw[hc,Nat.add_mul]; omega)
  rw[List.drop_append,hc,h1,List.nil_append,show(n+1)*s-s=n*s by rw[Nat.add_mul,Nat.one_mul]; omega,List.drop_succ_cons]
  exact l.dropN hs n
end
end Go.Va
