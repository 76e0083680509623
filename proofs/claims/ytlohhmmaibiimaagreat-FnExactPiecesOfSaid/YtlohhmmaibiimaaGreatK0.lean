import GoSem.Step
import Derived.Calls
import Derived.Orders
import Derived.Below
import Derived.Laws.AppendOwn
import Derived.Laws.MakeOwn
import Derived.Laws.CopyRow
import Derived.Laws.Tables
import Derived.Deep.MidRow
set_option linter.unusedVariables false
set_option linter.unusedSimpArgs false
namespace Go.Va
abbrev AwW:=@Option.bind_some
abbrev AwX:=@Int.toNat_natCast
abbrev AwY:=@Option.some.injEq
abbrev AwZ:=@decide_eq_false
abbrev Aw0:=@List.length_append
abbrev Aw1:=@decide_eq_true
abbrev Aw2:=@Nat.le_refl
abbrev Aw3:=@Bool.and_eq_true
abbrev Aw4:=@List.append_assoc
abbrev Aw5:=@List.length_set
abbrev Aw6:=@List.take_of_length_le
abbrev Aw7:=@Nat.lt_or_ge
abbrev Aw8:=@List.length_map
abbrev Aw9:=@Prod.mk.injEq
abbrev Axa:=@Array.getElem?_toList
abbrev Axb:=@cond_false
abbrev Axc:=@cond_true
abbrev Axd:=@Option.bind_assoc
inductive Ty where
 | int (k:IntKind)| bool | str | unit | pair (a b:Ty)| sl (t:Ty)| opq (z:Nat)
 deriving DecidableEq
@[reducible] def Ty.V:Ty->Type
 | .int _=>Int
 | .bool=>Bool
 | .str=>ByteArray
 | .unit=>Unit
 | .pair a b=>a.V×b.V
 | .sl t=>List t.V
 | .opq _=>Unit
def Ty.zero:(t:Ty)->t.V
 | .int _=>0
 | .bool=>false
 | .str=>⟨#[]⟩
 | .unit=>()
 | .pair a b=>(a.zero,b.zero)
 | .sl _=>[]
 | .opq _=>()
def Ty.size:Ty->Nat
 | .unit=>0
 | .pair a b=>a.size+b.size
 | _=>1
def Ty.flat:Ty->Bool
 | .sl _=>false
 | .opq _=>false
 | .pair a b=>a.flat&&b.flat
 | _=>true
def Ty.data:Ty->Bool
 | .opq _=>false
 | .pair a b=>a.data&&b.data
 | .sl t=>t.data
 | _=>true
def Ty.isAgg:Ty->Bool
 | .unit=>true
 | .pair _ _=>true
 | _=>false
def Hw(t u:Ty)(x:t.V):Option u.V:=if h:t=u then some (h▸x) else none
inductive AV where
 | dat (ks:List Nat) (t:Ty) (x:t.V)
 | zs
 | ref (k:Nat)
 | ptr (k:Nat) (i:Int) (p:List Nat) (o:Nat)
 | rop (ks:List Nat) (t:Ty) (x:t.V)
 | JH
 | pr (a b:AV)
 | fn (f:Nat) (caps:AV)
 | cons (a b:AV)
 | nil
 | Oz (k:Nat) (i:Int) (p:List Nat) (o e:Nat)
 | P4 (k:Nat) (i:Int) (p:List Nat) (o:Nat) (j:Int) (u:Ty)
 | QS (k n:Nat)
 | mp (k:Nat)
 | un (n:Nat)
inductive RM where
 | deep | sh (ks:List Nat)
inductive Blk where
 | box (a:AV)
 | row (e:Nat) (m:RM) (t:Ty) (xs:List t.V)
 | map (m:RM) (kt vt:Ty) (es:List (kt.V×vt.V)) (st:Option kt.V)
 | hole (e:Nat) (t:Ty) (xs:List t.V) (i:Int) (p:List Nat)
 | dead
def AV.size:AV->Nat
 | .dat _ t _=>t.size
 | .pr a b=>a.size+b.size
 | .un n=>n
 | _=>1
def AV.isAgg:AV->Bool
 | .dat _ t _=>t.isAgg
 | .pr _ _=>true
 | _=>false
@[reducible] def AV.int (k:IntKind) (n:Int):AV:=.dat [] (.int k) n
@[reducible] def AV.bool (b:Bool):AV:=.dat [] .bool b
@[reducible] def AV.str (s:ByteArray):AV:=.dat [] .str s
@[reducible] def AV.u:AV:=.dat [] .unit ()
def Ty.S3:Ty->AV
 | .pair a b=>.pr a.S3 b.S3
 | .sl _=>.zs
 | .opq 0=>.JH
 | .opq _=>.un 1
 | .int k=>.dat [] (.int k) (0:Int)
 | .bool=>.dat [] .bool false
 | .str=>.dat [] .str ⟨#[]⟩
 | .unit=>.dat [] .unit ()
def Tm(ks:List Nat)(t:Ty):List Nat:=if t.flat then[] else ks
def Ql(ks:List Nat):(t:Ty)->t.V->Nat->Option AV
 | .pair a _,x,0=>some (.dat (Tm ks a) a x.1)
 | .pair _ b,x,n+1=>Ql ks b x.2 n
 | _,_,_=>none
def AV.T9:AV->Nat->Option AV
 | .dat ks t x,n=>Ql ks t x n
 | .pr a _,0=>some a
 | .pr _ b,n+1=>b.T9 n
 | _,_=>none
def OA:Ty->Nat->Option Nat
 | .pair _ _,0=>some 0
 | .pair a b,n+1=>match OA b n with | some o=>some (a.size+o)| none=>none
 | _,_=>none
def AV.off:AV->Nat->Option Nat
 | .dat _ t _,n=>OA t n
 | .pr _ _,0=>some 0
 | .pr a b,n+1=>match b.off n with | some o=>some (a.size+o)| none=>none
 | _,_=>none
def dn:Ty->Nat->Option Ty
 | .pair a _,0=>some a
 | .pair _ b,n+1=>dn b n
 | _,_=>none
def tyP:Ty->List Nat->Option Ty
 | t,[]=>some t
 | t,f::p=>match dn t f with | some u=>tyP u p | none=>none
def I1:Ty->List Nat->Option Nat
 | _,[]=>some 0
 | t,f::p=>match dn t f,OA t f with
  | some u,some o=>match I1 u p with | some o'=>some (o+o')| none=>none
  | _,_=>none
def iX(ks:List Nat):(t:Ty)->t.V->Nat->AV->Option AV
 | .pair _ b,x,0,v=>some (.pr v (.dat (Tm ks b) b x.2))
 | .pair a b,x,n+1,v=>match iX ks b x.2 n v with | some r=>some (.pr (.dat (Tm ks a) a x.1) r)| none=>none
 | _,_,_,_=>none
def AV.N9:AV->Nat->AV->Option AV
 | .dat ks t x,n,v=>iX ks t x n v
 | .pr _ b,0,v=>some (.pr v b)
 | .pr a b,n+1,v=>match b.N9 n v with | some r=>some (.pr a r)| none=>none
 | _,_,_=>none
def AV.P1:AV->List Nat->Option AV
 | a,[]=>some a
 | a,f::p=>match a.T9 f with | some b=>b.P1 p | none=>none
def AV.sj:AV->List Nat->Option Nat
 | _,[]=>some 0
 | a,f::p=>match a.T9 f,a.off f with
  | some b,some o=>match b.sj p with | some o'=>some (o+o')| none=>none
  | _,_=>none
def AV.Tz:AV->List Nat->AV->Option AV
 | _,[],v=>some v
 | a,f::p,v=>match a.T9 f with
  | some b=>match b.Tz p v with | some r=>a.N9 f r | none=>none
  | none=>none
def Nz:(t:Ty)->t.V->Nat->(∀u:Ty,u.V->Option u.V)->Option t.V
 | .pair a _,x,0,f=>match f a x.1 with | some y=>some (y,x.2)| none=>none
 | .pair _ b,x,n+1,f=>match Nz b x.2 n f with | some y=>some (x.1,y)| none=>none
 | _,_,_,_=>none
def N0(u:Ty)(y:u.V):(p:List Nat)->(t:Ty)->t.V->Option t.V
 | [],t,_=>Hw u t y
 | f::p,t,x=>Nz t x f (λt' x'=>N0 u y p t' x')
def AV.ids:AV->List Nat
 | .dat ks _ _=>ks
 | .rop ks _ _=>ks
 | .ref k=>[k]
 | .ptr k _ _ _=>[k]
 | .Oz k _ _ _ _=>[k]
 | .P4 k _ _ _ _ _=>[k]
 | .QS k _=>[k]
 | .mp k=>[k]
 | .pr a b=>a.ids++b.ids
 | .fn _ c=>c.ids
 | .cons a b=>a.ids++b.ids
 | _=>[]
def AV.hard:AV->List Nat
 | .dat ks _ _=>ks
 | .rop ks _ _=>ks
 | .Oz k _ _ _ _=>[k]
 | .P4 k _ _ _ _ _=>[k]
 | .pr a b=>a.hard++b.hard
 | .fn _ c=>c.hard
 | .cons a b=>a.hard++b.hard
 | _=>[]
def RM.ids:RM->List Nat
 | .deep=>[]
 | .sh ks=>ks
def Blk.ids:Blk->List Nat
 | .box a=>a.ids
 | .row _ m _ _=>m.ids
 | .map m _ _ _ _=>m.ids
 | .hole _ _ _ _ _=>[]
 | .dead=>[]
def Blk.hard:Blk->List Nat
 | .box a=>a.hard
 | .row _ m _ _=>m.ids
 | .map m _ _ _ _=>m.ids
 | .hole _ _ _ _ _=>[]
 | .dead=>[]
def AV.ren(f:Nat->Nat):AV->AV
 | .dat ks t x=>.dat (ks.map f) t x
 | .rop ks t x=>.rop (ks.map f) t x
 | .ref k=>.ref (f k)
 | .ptr k i p o=>.ptr (f k) i p o
 | .Oz k i p o e=>.Oz (f k) i p o e
 | .P4 k i p o j u=>.P4 (f k) i p o j u
 | .QS k n=>.QS (f k) n
 | .mp k=>.mp (f k)
 | .pr a b=>.pr (a.ren f) (b.ren f)
 | .fn g c=>.fn g (c.ren f)
 | .cons a b=>.cons (a.ren f) (b.ren f)
 | .zs=>.zs
 | .JH=>.JH
 | .nil=>.nil
 | .un n=>.un n
def RM.ren(f:Nat->Nat):RM->RM
 | .deep=>.deep
 | .sh ks=>.sh (ks.map f)
def Blk.ren(f:Nat->Nat):Blk->Blk
 | .box a=>.box (a.ren f)
 | .row e m t xs=>.row e (m.ren f) t xs
 | .map m kt vt es st=>.map (m.ren f) kt vt es st
 | .hole e t xs i p=>.hole e t xs i p
 | .dead=>.dead
def Ta(n:Nat)(ks:List Nat):List Nat:=(List.range n).filter λk=>ks.contains k
def AV.canon(n:Nat):AV->AV
 | .dat ks t x=>.dat (Ta n ks) t x
 | .rop ks t x=>.rop (Ta n ks) t x
 | .pr a b=>.pr (a.canon n) (b.canon n)
 | .fn f c=>.fn f (c.canon n)
 | .cons a b=>.cons (a.canon n) (b.canon n)
 | a=>a
def Blk.canon(n:Nat):Blk->Blk
 | .box a=>.box (a.canon n)
 | .row e (.sh ks) t xs=>.row e (.sh (Ta n ks)) t xs
 | .map (.sh ks) kt vt es st=>.map (.sh (Ta n ks)) kt vt es st
 | b=>b
def AV.drop(bad:Nat->Bool):AV->AV
 | .dat ks t x=>if ks.any bad then .un t.size else .dat ks t x
 | .rop ks t x=>if ks.any bad then .un 1 else .rop ks t x
 | .Oz k i p o e=>if bad k then .un 1 else .Oz k i p o e
 | .P4 k i p o j u=>if bad k then .un 1 else .P4 k i p o j u
 | .pr a b=>.pr (a.drop bad) (b.drop bad)
 | .fn g c=>.fn g (c.drop bad)
 | .cons a b=>.cons (a.drop bad) (b.drop bad)
 | a=>a
def Blk.drop(bad:Nat->Bool):Blk->Blk
 | .box a=>.box (a.drop bad)
 | .row e m t xs=>if m.ids.any bad then .dead else .row e m t xs
 | .map m kt vt es st=>if m.ids.any bad then .dead else .map m kt vt es st
 | .hole e t xs i p=>.hole e t xs i p
 | .dead=>.dead
structure St where
 slots:List AV
 blks:List Blk
structure Eff where
 val:AV
 blks:List Blk
 mods:List Nat
structure TI where
 ty:Ty
 Rc:List Nat
 elem:Nat
 bytes:Nat
 arr:Nat:=0
 Mp:Nat:=0
 eqs:Bool:=false
def TI.Ea(ti:TI):Bool:=match ti.ty with | .sl _=>true | _=>false
abbrev Tab:=List (Nat×TI)
def Tab.get:Tab->Nat->Option TI
 | [],_=>none
 | (k,i)::r,t=>if k==t then some i else Tab.get r t
inductive PM where
 | d (t:Ty)| p (t:Ty)| raw
structure Callee where
 modes:List PM
 run:(R:Type)->List AV->List Blk->(AV->List Blk->Option R)->Option R
 keep:List Nat:=[]
inductive Co where
 | row (p:List Nat) (e:Nat) (t:Ty) (deep:Bool)
 | dat (t:Ty)
 | deps (ks:List Nat)
structure SH where
 live:List Nat
 mv:List Nat:=[]
 Ow:List (Nat×Bool×Ty):=[]
 pre:List (Nat×Bool×Co):=[]
 wid:List (Nat×List Nat):=[]
 post:List (Nat×Bool×Co):=[]
 mvp:List (Nat×List Nat):=[]
 quiet:Bool:=false
inductive Fi where
 | co (k:Nat) (c:Co)| mv (k:Nat) (p:List Nat)| dead (j:Nat)| mvs (s:Nat) (p:List Nat)
structure FI where
 deep:Bool:=false
 take:List Nat:=[]
 nest:List (Nat×Nat):=[]
 heads:List (Nat×SH):=[]
 outs:List (Nat×SH):=[]
 joins:List (Nat×SH):=[]
 draws:List (Nat×SH):=[]
 ents:List (Nat×List Nat):=[]
 unr:List (Nat×Nat):=[]
 Asl:List (Nat×List (Nat×List (List Nat)×Co)):=[]
 fin:List Fi:=[]
 fM:List (Nat×List Nat):=[]
 gK:List (Nat×Ty):=[]
 As9:List Nat:=[]
 Ow:List (Nat×Ty):=[]
 res:List (Nat×Co):=[]
 stl:List Nat:=[]
structure Env where
 tab:Tab
 fns:Nat->Option Callee
 fi:FI
def ZZ:Value->AV
 | .int k n=>.int k n
 | .bool b=>.bool b
 | .string s=>.str s
 | .slice none 0 0=>.zs
 | .pointer none=>.JH
 | _=>.un 0
def St.Bw(σ:St):Operand->AV
 | .tmp t=>(σ.slots[t]?).getD (.un 0)
 | .const v=>ZZ v
 | .func f=>.fn f .nil
 | _=>.un 0
def AV.TF:AV->AV
 | .Oz _ _ _ _ _=>.un 1
 | .P4 _ _ _ _ _ _=>.un 1
 | .pr a b=>.pr a.TF b.TF
 | .fn f c=>.fn f c.TF
 | .cons a b=>.cons a.TF b.TF
 | a=>a
def Blk.TF:Blk->Blk
 | .box a=>.box a.TF
 | b=>b
def AV.UV:AV->Bool
 | .Oz _ _ _ _ _=>true
 | .P4 _ _ _ _ _ _=>true
 | .pr a b=>a.UV||b.UV
 | .fn _ c=>c.UV
 | .cons a b=>a.UV||b.UV
 | _=>false
def Blk.UV:Blk->Bool
 | .box a=>a.UV
 | _=>false
def Blk.kill(bs:List Blk):List Nat->List Blk
 | []=>bs
 | k::r=>Blk.kill (bs.set k .dead) r
def OR(mods:List Nat)(sl:List AV):List AV:=match mods with | []=>sl | m::ms=>sl.map (·.drop λk=>(m::ms).contains k)
def AQ(mods:List Nat)(bs:List Blk):List Blk:=match mods with | []=>bs | m::ms=>bs.map (·.drop λk=>(m::ms).contains k)
def Yf(mods:List Nat)(m:RM):Bool:=m.ids.all λk=>!mods.contains k
def SI(d:Option Nat)(v:AV)(sl:List AV):List AV:=match d with | some d=>sl.set d v | none=>sl
def St.after(σ:St)(d:Option Nat)(e:Eff):St:={slots:=SI d e.val (OR e.mods σ.slots),blks:=e.blks}
def AV.Cp:AV->Bool
 | .cons _ _=>true
 | .nil=>true
 | _=>false
def AV.top:AV->Bool
 | .un _=>false
 | .cons _ _=>false
 | .nil=>false
 | _=>true
def rd(bs:List Blk):(t:Ty)->AV->Option t.V
 | .pair a b,av=>match av with
  | .dat _ t x=>Hw t (.pair a b) x
  | .pr u v=>match rd bs a u,rd bs b v with | some x,some y=>some (x,y)| _,_=>none
  | _=>none
 | .sl t,av=>match av with
  | .dat _ u x=>Hw u (.sl t) x
  | .zs=>some []
  | .ref k=>match bs[k]? with | some (.row _ _ u xs)=>Hw (.sl u) (.sl t) xs | _=>none
  | _=>none
 | t,av=>match av with | .dat _ u x=>Hw u t x | _=>none
def atB(bs:List Blk)(k:Nat)(i:Int):Option AV:=match bs[k]? with
 | some (.box a)=>some a
 | some (.row _ m t xs)=>some (.dat (Tm (match m with | .deep=>[k]| .sh ks=>ks) t) t (xs.getD i.toNat t.zero))
 | _=>none
def atP(bs:List Blk)(k:Nat)(i:Int)(p:List Nat)(o:Nat):Option AV:=match atB bs k i with
 | some a=>if a.sj p=some o then a.P1 p else none
 | none=>none
def AV.refs:AV->List Nat
 | .ref k=>[k]
 | .pr a b=>a.refs++b.refs
 | _=>[]
def AV.deps:AV->List Nat
 | .dat ks _ _=>ks
 | .pr a b=>a.deps++b.deps
 | _=>[]
def AV.Rz:AV->Bool
 | .dat _ t _=>t.flat
 | .zs=>true
 | .ref _=>true
 | .pr a b=>a.Rz&&b.Rz
 | _=>false
def Ty.row(t:Ty):Bool:=t.data&&t.size !=0
def Up(bs:List Blk)(k:Nat):Option RM:=match bs[k]? with | some (.row _ m _ _)=>some m | _=>none
def AV.lend(bs:List Blk):AV->List Nat
 | .dat ks _ _=>ks
 | .ref k=>k::(match Up bs k with | some m=>m.ids | none=>[])
 | .pr a b=>a.lend bs++b.lend bs
 | _=>[]
def nodup:List Nat->Bool
 | []=>true
 | k::r=>!r.contains k&&nodup r
def take(bs:List Blk)(m:RM)(t:Ty)(v:AV):Option (t.V×RM×List Nat) :=
 match rd bs t v with
 | none=>none
 | some y =>
  let rs:=v.refs
  match m with
  | .deep=>if v.Rz&&nodup rs&&rs.all (λk=>match Up bs k with | some .deep=>true | _=>false) then some (y,.deep,rs) else none
  | .sh ks=>if nodup rs&&rs.all (λk=>(Up bs k).isSome) then
      some (y,.sh (ks++v.deps++rs.flatMap (λk=>match Up bs k with | some (.sh l)=>l | _=>[])),rs) else none
def Ahe{A:Type}:(t:Ty)->t.V->Nat->(∀u:Ty,u.V->Option A)->Option A
 | .pair a _,x,0,f=>f a x.1
 | .pair _ b,x,n+1,f=>Ahe b x.2 n f
 | _,_,_,_=>none
def W7(u:Ty):(p:List Nat)->(t:Ty)->t.V->Option u.V
 | [],t,x=>Hw t u x
 | f::p,t,x=>Ahe t x f (λt' x'=>W7 u p t' x')
def Ty.keyed:Ty->Bool
 | .int _=>true
 | .str=>true
 | .pair (.int _) (.pair (.int _) .unit)=>true
 | _=>false
def strEq(s t:ByteArray):Bool:=s.toList==t.toList
def A0:(t:Ty)->t.V->t.V->Bool
 | .int _,x,y=>x==y
 | .str,x,y=>strEq x y
 | .pair a b,x,y=>A0 a x.1 y.1&&A0 b x.2 y.2
 | .unit,_,_=>true
 | _,_,_=>false
def Mu:(t:Ty)->t.V->t.V->Bool
 | .int _,x,y=>x==y
 | .bool,x,y=>x==y
 | .str,x,y=>strEq x y
 | .pair a b,x,y=>Mu a x.1 y.1&&Mu b x.2 y.2
 | .unit,_,_=>true
 | _,_,_=>false
def MH(kt vt:Ty):List (kt.V×vt.V)->kt.V->Option vt.V
 | [],_=>none
 | x::r,k=>bif A0 kt k x.1 then some x.2 else MH kt vt r k
def BG(kt vt:Ty)(es:List (kt.V×vt.V))(k:kt.V):vt.V:=(MH kt vt es k).getD vt.zero
def Vg(kt vt:Ty)(es:List (kt.V×vt.V))(k:kt.V):Bool:=(MH kt vt es k).isSome
def midx(kt vt:Ty):List (kt.V×vt.V)->kt.V->Nat
 | [],_=>0
 | x::r,k=>bif A0 kt k x.1 then 0 else midx kt vt r k+1
def Q9(kt vt:Ty)(es:List (kt.V×vt.V))(k:kt.V):Int:=Int.ofNat (midx kt vt es k)
def Qf(kt vt:Ty)(es:List (kt.V×vt.V))(k:kt.V)(n:Int):Bool:=n==Q9 kt vt es k&&Vg kt vt es k
def Cq(kt vt:Ty):List (kt.V×vt.V)->kt.V->vt.V->List (kt.V×vt.V)
 | [],k,v=>[(k,v)]
 | x::r,k,v=>bif A0 kt k x.1 then(k,v)::r else x::Cq kt vt r k v
def FI.mode(fi:FI)(t:Ty):RM:=if t.flat||fi.deep then .deep else .sh []
def Oa(k:IntKind)(x y:Int):Int:=x.fdiv (2^(min y.toNat k.bits))
def Lf(k:IntKind)(x y:Int):Int:=k.wrap (x*2^(min y.toNat k.bits))
def XZ(k:IntKind)(x y:Int):Int:=k.wrap (BitVec.ofInt k.bits x &&& BitVec.ofInt k.bits y).toNat
def V4(k:IntKind)(x y:Int):Int:=k.wrap (BitVec.ofInt k.bits x ||| BitVec.ofInt k.bits y).toNat
def AhN(k:IntKind)(x y:Int):Int:=k.wrap (BitVec.ofInt k.bits x ^^^ BitVec.ofInt k.bits y).toNat
def nS(k:IntKind)(x y:Int):Int:=k.wrap (BitVec.ofInt k.bits x &&& ~~~ BitVec.ofInt k.bits y).toNat
def strLt(s t:ByteArray):Bool:=Op.bytesLess s.toList t.toList
def BL(s:ByteArray)(i:Int):Int:=((s[i.toNat]?).getD 0).toNat
section
variable {R:Type}
def ZR(op:BinOp)(tb:Bool):AV->AV->(AV->Option R)->Option R
 | .dat _ (.int k) x,.dat _ (.int k') y,K =>
  match op with
  | .shl=>if y<0 then none else K (.int k (Lf k x y))
  | .shr=>if y<0 then none else K (.int k (Oa k x y))
  | op=>if k=k' then match op with
   | .add=>K (.int k (k.wrap (x+y)))
   | .sub=>K (.int k (k.wrap (x-y)))
   | .mul=>K (.int k (k.wrap (x*y)))
   | .quo=>if y=0 then none else K (.int k (k.wrap (x.tdiv y)))
   | .rem=>if y=0 then none else K (.int k (x.tmod y))
   | .and=>K (.int k (XZ k x y))
   | .or=>K (.int k (V4 k x y))
   | .xor=>K (.int k (AhN k x y))
   | .andNot=>K (.int k (nS k x y))
   | .eql=>K (.bool (x==y))
   | .neq=>K (.bool (x !=y))
   | .lss=>K (.bool (decide (x<y)))
   | .leq=>K (.bool (decide (x<=y)))
   | .gtr=>K (.bool (decide (x>y)))
   | .geq=>K (.bool (decide (x>=y)))
   | _=>none
   else none
 | .dat _ .str x,.dat _ .str y,K =>
  match op with
  | .add=>if x.size+y.size<=9223372036854775807 then K (.str (x++y)) else none
  | .eql=>K (.bool (strEq x y))
  | .neq=>K (.bool (!strEq x y))
  | .lss=>K (.bool (strLt x y))
  | .leq=>K (.bool (strLt x y||strEq x y))
  | .gtr=>K (.bool (!(strLt x y||strEq x y)))
  | .geq=>K (.bool (!strLt x y))
  | _=>none
 | .dat _ .bool x,.dat _ .bool y,K=>if tb then
  match op with
  | .eql=>K (.bool (x==y))
  | .neq=>K (.bool (!(x==y)))
  | _=>none
  else none
 | _,_,_=>none
def unA(op:UnOp):AV->(AV->Option R)->Option R
 | .dat _ .bool b,K=>match op with | .not=>K (.bool (!b))| _=>none
 | .dat _ (.int k) n,K=>match op with
  | .neg=>K (.int k (k.wrap (0-n)))
  | .xor=>K (.int k (AhN k (if k.signed then -1 else k.max) n))
  | _=>none
 | _,_=>none
def aO(bs:List Blk)(ti:TI):AV->(AV->Option R)->Option R
 | .dat _ (.sl _) xs,K=>if ti.Ea then K (.int .i64 (xs.length:Int)) else none
 | .dat _ .str s,K=>if ti.ty=.str then K (.int .i64 (s.size:Int)) else none
 | .zs,K=>if ti.Ea then K (.int .i64 0) else none
 | .ref k,K=>match bs[k]? with | some (.row _ _ _ xs)=>if ti.Ea then K (.int .i64 (xs.length:Int)) else none | _=>none
 | _,_=>none
def uq(mx:Bool):AV->AV->(AV->Option R)->Option R
 | .dat _ (.int k) x,.dat _ (.int k') y,K=>if k=k' then K (.int k (if mx then(if y>x then y else x) else(if y<x then y else x))) else none
 | _,_,_=>none
def lF(bs:List Blk)(te:Ty):AV->AV->(AV->Option R)->Option R
 | .dat ks (.sl t) xs,.dat _ (.int _) i,K=>if t=te then if 0<=i/\i<(xs.length:Int) then K (.rop ks t (xs.getD i.toNat t.zero)) else none else none
 | .ref k,.dat _ (.int _) i,K=>match bs[k]? with
  | some (.row _ _ t xs)=>if t=te then if 0<=i/\i<(xs.length:Int) then K (.ptr k i [] 0) else none else none
  | some (.hole _ t xs _ _)=>if t=te then if 0<=i/\i<(xs.length:Int) then K (.ptr k i [] 0) else none else none
  | _=>none
 | _,_,_=>none
def gV(bs:List Blk)(te:Ty):AV->AV->(AV->Option R)->Option R
 | .Oz k i0 p f _,.dat _ (.int _) j,K=>match bs[k]? with
  | some (.row _ .deep tr xs)=>match W7 (.sl te) p tr (xs.getD i0.toNat tr.zero),N0 (.sl te) [] p tr (xs.getD i0.toNat tr.zero) with
   | some ys,some _=>if te.size≠0/\I1 tr p=some f then if 0<=j/\j<(ys.length:Int) then K (.P4 k i0 p f j te) else none else none
   | _,_=>none
  | _=>none
 | x,y,K=>lF bs te x y K
def ZV:AV->AV->(AV->Option R)->Option R
 | .dat _ .str s,.dat _ (.int _) i,K=>if 0<=i/\i<(s.size:Int) then K (.int .u8 (BL s i)) else none
 | _,_,_=>none
def X2(ti:TI)(f:Nat):AV->(AV->Option R)->Option R
 | .ptr k i p o,K=>match ti.Rc[f]? with | some fo=>K (.ptr k i (p++[f]) (o+fo))| none=>none
 | .rop ks t x,K=>if t=ti.ty/\OA t f=ti.Rc[f]? then match Ql ks t x f with | some (.dat _ u y)=>K (.rop ks u y)| _=>none else none
 | _,_=>none
def SS(bs:List Blk)(ti:TI):AV->(AV->Option R)->Option R
 | .rop ks t x,K=>if t=ti.ty then K (.dat (Tm ks t) t x) else none
 | .ptr k i p o,K=>match atP bs k i p o with
  | some v=>if v.size=ti.ty.size/\v.isAgg=ti.ty.isAgg then K v else none
  | none=>none
 | _,_=>none
def Vq(bs:List Blk)(ti:TI):AV->AV->(Eff->Option R)->Option R
 | .ptr k i p o,v,K=>match bs[k]? with
  | some (.box a)=>match a.P1 p,a.Tz p v with
   | some old,some a'=>if v.top/\a.sj p=some o/\old.size=v.size/\v.size=ti.ty.size/\v.isAgg=ti.ty.isAgg/\a'.ids.contains k=false then K ⟨.un 0,(AQ [k] bs).set k (.box a'),[k]⟩ else none
   | _,_=>none
  | some (.row e m t xs)=>match take bs m ti.ty v with
   | some (y,m',rs) =>
    if I1 t p=some o/\tyP t p=some ti.ty/\Yf (k::rs) m'/\rs.contains k=false then match N0 ti.ty y p t (xs.getD i.toNat t.zero) with
     | some x'=>K ⟨.un 0,(Blk.kill (AQ (k::rs) bs) rs).set k (.row e m' t (xs.set i.toNat x')),k::rs⟩
     | none=>none
    else none
   | none=>none
  | some (.hole e t xs i' p')=>match v with
   | .ref j=>match bs[j]? with
    | some (.row _ .deep u ys)=>match N0 (.sl u) [] p t (xs.getD i.toNat t.zero),N0 (.sl u) ys p t (xs.getD i.toNat t.zero) with
     | some x0,some x'=>if ti.ty=.sl u/\I1 t p=some o/\tyP t p=some (.sl u)/\p'=p/\j≠k then
         if i'=i then K ⟨.un 0,(Blk.kill (AQ [k,j] ((AQ [k] bs).set k (.row e .deep t (xs.set i.toNat x0)))) [j]).set k (.row e .deep t (xs.set i.toNat x')),[k,j]⟩ else none
      else none
     | _,_=>none
    | _=>none
   | _=>none
  | _=>none
 | _,_,_=>none
def TC(bs:List Blk)(ti:TI):AV->(Eff->Option R)->Option R
 | .ptr k i p o,K=>match bs[k]? with
  | some (.row e .deep t xs)=>match tyP t p with
   | some (.sl u)=>match W7 (.sl u) p t (xs.getD i.toNat t.zero),N0 (.sl u) [] p t (xs.getD i.toNat t.zero) with
    | some ys,some _=>if ti.ty=.sl u/\I1 t p=some o/\u.size≠0 then
        K ⟨.ref bs.length,(AQ [k] bs).set k (.hole e t xs i p)++[.row 0 .deep u ys],[k]⟩ else none
    | _,_=>none
   | _=>none
  | _=>none
 | _,_=>none
def Rr(ti:TI):AV->List (Nat×AV)->Option AV
 | a,[]=>some a
 | a,(f,v)::r=>match a.T9 f with
  | some old=>if old.size=v.size/\v.top=true/\a.off f=ti.Rc[f]?/\(dn ti.ty f).map Ty.size=some v.size then match a.N9 f v with | some a'=>Rr ti a' r | none=>none else none
  | none=>none
def Nw(bs:List Blk)(t:Ty):RM->List t.V->List Nat->List (Nat×AV)->Option (RM×List t.V×List Nat)
 | m,xs,rs,[]=>some (m,xs,rs)
 | m,xs,rs,(i,v)::r=>match take bs m t v with
  | some (y,m',l)=>if i<xs.length then Nw bs t m' (xs.set i y) (rs++l) r else none
  | none=>none
def mK(bs:List Blk)(t:Ty):AV->Option (List t.V×RM×List Nat)
 | .zs=>some ([],.deep,[])
 | .dat ks (.sl u) ys=>match Hw (.sl u) (.sl t) ys with | some l=>some (l,if t.flat then .deep else .sh ks,[])| none=>none
 | .dat _ .str s=>match Hw (.sl (.int .u8)) (.sl t) (s.data.toList.map λb=>(b.toNat:Int)) with | some l=>some (l,.deep,[])| none=>none
 | .ref j=>match bs[j]? with
  | some (.row _ m u ys)=>match Hw (.sl u) (.sl t) ys with | some l=>some (l,if t.flat then .deep else m,if t.flat then[] else[j])| none=>none
  | _=>none
 | _=>none
def pz:RM->RM->Option RM
 | .deep,.deep=>some .deep
 | .sh a,.sh b=>some (.sh (a++b))
 | .sh a,.deep=>some (.sh a)
 | .deep,.sh _=>none
def R4(fi:FI)(bs:List Blk)(e:Nat)(ti:TI):AV->AV->(Eff->Option R)->Option R
 | .zs,y,K=>if(ti.ty.row&&ti.bytes !=0)=false then none else match mK bs ti.ty y with
  | some (ys,m,rs)=>match pz (match m with | .deep=>fi.mode ti.ty | m=>m) m with
   | some m'=>if Yf rs m' then if ys.length*ti.bytes<=140737488355328 then K ⟨.ref bs.length,Blk.kill (AQ rs bs) rs++[.row e m' ti.ty ys],rs⟩ else none else none
   | none=>none
  | none=>none
 | .ref k,y,K=>if(ti.ty.row&&ti.bytes !=0)=false then none else match bs[k]?,mK bs ti.ty y with
  | some (.row e' m t xs),some (ys,m2,rs)=>match Hw (.sl t) (.sl ti.ty) xs,pz m m2 with
   | some xs,some m'=>if(e=e'/\e≠0\/e'=0)/\rs.contains k=false/\Yf (k::rs) m' then
       if(xs.length+ys.length)*ti.bytes<=140737488355328 then K ⟨.ref bs.length,Blk.kill (AQ (k::rs) bs) (k::rs)++[.row e' m' ti.ty (xs++ys)],k::rs⟩ else none
    else none
   | _,_=>none
  | _,_=>none
 | _,_,_=>none
def Ty.isInt:Ty->Bool
 | .int _=>true
 | _=>false
def R5(fi:FI)(bs:List Blk)(e:Nat)(ti:TI):AV->AV->(Eff->Option R)->Option R
 | .zs,.dat _ (.int _) l,K=>if ti.ty.row=true/\ti.bytes≠0 then if 0<=l/\l*(ti.bytes:Int)<=140737488355328 then K ⟨.ref bs.length,bs++[.row e (fi.mode ti.ty) ti.ty (List.replicate l.toNat ti.ty.zero)],[]⟩ else none else none
 | _,_,_=>none
def Zc(fi:FI)(bs:List Blk)(e:Nat)(ti:TI):AV->AV->(Eff->Option R)->Option R
 | .dat _ (.int _) l,.dat _ (.int _) c,K=>if ti.ty.row/\0<=l/\l<=c/\(ti.bytes:Int)*c<=281474976710656/\c<=9223372036854775807 then
     K ⟨.ref bs.length,bs++[.row e (fi.mode ti.ty) ti.ty (List.replicate l.toNat ti.ty.zero)],[]⟩ else none
 | _,_,_=>none
def bnd:Option AV->Int->Option Int
 | none,d=>some d
 | some (.dat _ (.int _) i),_=>some i
 | _,_=>none
def QT(bs:List Blk)(ti:TI)(te:Option Ty)(x:AV)(lo hi mx:Option AV)(K:AV->Option R):Option R :=
 match mx with
 | some (.dat _ (.int _) m)=>match lo,hi with
  | none,some (.dat _ (.int _) h)=>if h=0/\m=0/\te.isSome then match x with
   | .dat _ (.sl _) _=>K .zs
   | .zs=>K .zs
   | .ref k=>match bs[k]? with | some (.row _ _ _ _)=>K .zs | _=>none
   | _=>none
   else none
  | _,_=>none
 | some _=>none
 | none=>match x with
  | .dat _ .str s=>match bnd lo 0,bnd hi (s.size:Int) with
   | some l,some h=>if ti.ty=.str/\0<=l/\l<=h/\h<=(s.size:Int) then K (.str (s.extract l.toNat h.toNat)) else none
   | _,_=>none
  | .dat ks (.sl t) xs=>match bnd lo 0,bnd hi (xs.length:Int) with
   | some l,some h=>if te=some t then if 0<=l/\l<=h/\h<=(xs.length:Int) then K (.dat ks (.sl t) ((xs.take h.toNat).drop l.toNat)) else none else none
   | _,_=>none
  | .ref k=>match bs[k]? with
   | some (.row _ m t xs)=>match bnd lo 0,bnd hi (xs.length:Int) with
    | some l,some h=>if te=some t then if 0<=l/\l<=h/\h<=(xs.length:Int) then K (.dat (k::m.ids) (.sl t) ((xs.take h.toNat).drop l.toNat)) else none else none
    | _,_=>none
   | _=>none
  | .zs=>match bnd lo 0,bnd hi 0 with
   | some l,some h=>if te.isSome/\l=0/\h=0 then K .zs else none
   | _,_=>none
  | _=>none
def qR(te:Ty)(bs:List Blk)(x:AV)(hi:Option AV)(K:Eff->Option R):Option R :=
 match x,hi with
 | .ref k,some (.dat _ (.int _) h)=>match bs[k]? with
  | some (.row e m t xs)=>if Yf [k] m/\t=te then if 0<=h/\h<=(xs.length:Int) then K ⟨.ref bs.length,Blk.kill (AQ [k] bs) [k]++[.row e m t (xs.take h.toNat)],[k]⟩ else none else none
  | _=>none
 | _,_=>none
def bytesOf(xs:List Int):ByteArray:=⟨(xs.map λn=>UInt8.ofNat n.toNat).toArray⟩
def TU(bs:List Blk)(te:Option Ty)(td:Ty)(a:AV)(K:AV->Option R):Option R :=
 match td with
 | .int k=>match a with | .dat _ (.int _) n=>K (.int k (k.wrap n))| _=>none
 | .str=>match a with
  | .dat _ .str s=>K (.str s)
  | a=>if te=some (.int .u8) then match rd bs (.sl (.int .u8)) a with | some xs=>K (.str (bytesOf xs))| none=>none else none
 | _=>none
def RM.own(k:Nat):RM->List Nat
 | .deep=>[k]
 | .sh ks=>ks
def VO(bs:List Blk)(tk te:TI)(ok:Bool)(m x:AV)(K:AV->Option R):Option R :=
 match m with
 | .mp k=>match bs[k]? with
  | some (.map md kt vt es none)=>match rd bs kt x with
   | some key=>if kt=tk.ty/\vt=te.ty/\kt.keyed=true then
       (bif ok then K (.cons (.dat (Tm (md.own k) vt) vt (BG kt vt es key)) (.cons (.bool (Vg kt vt es key)) .nil))
        else K (.dat (Tm (md.own k) vt) vt (BG kt vt es key))) else none
   | none=>none
  | _=>none
 | _=>none
def Za(bs:List Blk)(tk te:TI)(m x:AV)(K:Eff->Option R):Option R :=
 match m with
 | .mp k=>match bs[k]? with
  | some (.map .deep kt (.sl u) es none)=>match rd bs kt x with
   | some key=>if kt=tk.ty/\.sl u=te.ty/\kt.keyed=true/\u.size≠0 then
       K ⟨.ref bs.length,(AQ [k] bs).set k (.map .deep kt (.sl u) es (some key))++[.row 0 .deep u (BG kt (.sl u) es key)],[k]⟩ else none
   | none=>none
  | _=>none
 | _=>none
def Vt(bs:List Blk)(tk te:TI)(m x v:AV)(K:Eff->Option R):Option R :=
 match m with
 | .mp k=>match bs[k]? with
  | some (.map md kt vt es st)=>match rd bs kt x,take bs md vt v with
   | some key,some (y,m',rs)=>if kt=tk.ty/\vt=te.ty/\kt.keyed=true/\Yf (k::rs) m'/\rs.contains k=false then
       match st with
       | none=>K ⟨.un 0,(Blk.kill (AQ (k::rs) bs) rs).set k (.map m' kt vt (Cq kt vt es key y) none),k::rs⟩
       | some k0=>bif A0 kt k0 key then K ⟨.un 0,(Blk.kill (AQ (k::rs) bs) rs).set k (.map m' kt vt (Cq kt vt es key y) none),k::rs⟩ else none
    else none
   | _,_=>none
  | _=>none
 | _=>none
def qX(bs:List Blk)(tk te:TI)(m x:AV)(K:Eff->Option R):Option R :=
 match m with
 | .mp k=>match bs[k]? with
  | some (.map .deep kt (.sl u) es none)=>match rd bs kt x with
   | some key=>if kt=tk.ty/\Ty.sl u=te.ty/\kt.keyed=true/\u.size≠0 then
       K ⟨.cons (.ref bs.length) (.cons (.int .i64 (Q9 kt (.sl u) es key)) .nil),(AQ [k] bs).set k (.map .deep kt (.sl u) (Cq kt (.sl u) es key (BG kt (.sl u) es key)) (some key))++[.row 0 .deep u (BG kt (.sl u) es key)],[k]⟩ else none
   | none=>none
  | _=>none
 | _=>none
def qY(bs:List Blk)(tk te:TI)(m j v:AV)(K:Eff->Option R):Option R :=
 match m with
 | .mp k=>match bs[k]? with
  | some (.map _ kt vt es (some key))=>match rd bs (.int .i64) j with
   | some n=>if kt=tk.ty/\kt.keyed=true then(bif Qf kt vt es key n then Vt bs tk te m (.dat [] kt key) v K else none) else none
   | none=>none
  | _=>none
 | _=>none
def K3:AV->Nat->Option AV
 | .cons a _,0=>some a
 | .cons _ b,n+1=>K3 b n
 | _,_=>none
end
def V3(l:List Nat):List Nat->List Nat
 | []=>l
 | k::r=>if l.contains k then V3 l r else V3 (l++[k]) r
def reach(bs:List Blk):Nat->List Nat->List Nat
 | 0,l=>l
 | f+1,l=>reach bs f (V3 l (l.flatMap λk=>match bs[k]? with | some b=>b.ids | none=>[]))
def idxOf(l:List Nat)(k:Nat):Nat:=match l with
 | []=>0
 | x::r=>if x==k then 0 else idxOf r k+1
def AV.dep(IC:List Nat):AV->AV
 | .dat ks t x=>.dat (if t.flat then ks else ks++IC) t x
 | .rop ks t x=>.rop (ks++IC) t x
 | .pr a b=>.pr (a.dep IC) (b.dep IC)
 | .fn g c=>.fn g (c.dep IC)
 | .cons a b=>.cons (a.dep IC) (b.dep IC)
 | a=>a
def RM.dep(IC:List Nat):RM->RM
 | .deep=>.deep
 | .sh ks=>.sh (ks++IC)
def Blk.dep(IC:List Nat):Blk->Blk
 | .box a=>.box (a.dep IC)
 | .row e m t xs=>.row e (m.dep IC) t xs
 | .map m kt vt es st=>.map (m.dep IC) kt vt es st
 | .hole e t xs i p=>.hole e t xs i p
 | .dead=>.dead
def kJ(bs:List Blk):PM->AV->Option (AV×List Nat)
 | .d t,v=>match rd bs t v with | some x=>some (.dat [] t x,v.lend bs)| none=>none
 | .p t,.rop ks u x=>match Hw u t x with | some y=>some (.rop [] t y,ks)| none=>none
 | .p t,.ptr k i p o=>match atP bs k i p o with
  | some a=>match rd bs t a with | some x=>some (.rop [] t x,k::a.lend bs)| none=>none
  | none=>none
 | .p _,_=>none
 | .raw,v=>some (v,[])
def wz:PM->AV->List Nat
 | .raw,v=>v.ids
 | _,_=>[]
def Wr(bs:List Blk):List PM->List AV->Option (List AV×List Nat×List Nat)
 | [],[]=>some ([],[],[])
 | m::ms,v::vs=>match kJ bs m v,Wr bs ms vs with
  | some (a,l),some (as',ls,rs)=>some (a::as',l++ls,wz m v++rs)
  | _,_=>none
 | _,_=>none
def backTo(n:Nat)(π:List Nat)(j:Nat):Nat:=match π[j]? with | some k=>k | none=>n+(j-π.length)
def MJ(bs:List Blk):List Nat->List Blk->List Blk
 | k::ks,b::r=>MJ (bs.set k b) ks r
 | _,_=>bs
section
variable {R:Type}
def Rs(c:Callee)(bs:List Blk)(args:List AV)(K:Eff->Option R):Option R :=
 match Wr bs c.modes args with
 | none=>none
 | some (as',IC,roots) =>
  let π:=reach bs bs.length (V3 [] roots)
  let n:=bs.length
  let hid:=π.filter λk=>c.keep.contains (idxOf π k)
  let π1:=π.filter λk=>!hid.contains k
  if IC.all (λk=>!π.contains k&&decide (k<n))&&nodup π&&roots.all (λk=>π.contains k)&&π.all (λk=>match bs[k]? with | some b=>b.ids.all (λj=>π.contains j)&&(hid.contains k||b.hard.all (λj=>!hid.contains j))| none=>false)&&(as'.all λa=>a.hard.all λj=>!hid.contains j)&&(π.isEmpty||!π1.isEmpty) then
   c.run R (as'.map (·.ren (idxOf π))) (π.map λk=>bif hid.contains k then .dead else((bs[k]?).getD .dead).ren (idxOf π)) λav E =>
    let f:=backTo n π
    if π.length<=E.length then
     K ⟨(av.ren f).dep IC,MJ (AQ π1 bs) π (List.zipWith (λk b=>bif hid.contains k then((AQ π1 bs)[k]?).getD .dead else(b.ren f).dep IC) π E)++(E.drop π.length).map (λb=>(b.ren f).dep IC),π1⟩
    else none
  else none
def AV.KX:AV->Option (Nat×Int×List Nat×Nat)
 | .Oz k i p o _=>some (k,i,p,o)
 | .pr a b=>match a.KX with | some z=>some z | none=>b.KX
 | _=>none
def AV.Ts(n:Nat):AV->AV
 | .Oz _ _ _ _ _=>.ref n
 | .pr a b=>match a.KX with | some _=>.pr (a.Ts n) b | none=>.pr a (b.Ts n)
 | a=>a
def iK:Nat->List AV->Option (Nat×AV×Nat×Int×List Nat×Nat)
 | _,[]=>none
 | j,a::r=>match a.KX with | some (k,i,p,o)=>some (j,a,k,i,p,o)| none=>iK (j+1) r
def Ty.AqH:Ty->Bool
 | .sl _=>true
 | _=>false
def Xr(k:Nat)(i:Int)(p:List Nat)(e:Nat):(t:Ty)->t.V->Nat->Nat->Option AV
 | .unit,_,_,_=>some .u
 | .pair a b,x,f,o=>match Xr k i p e b x.2 (f+1) (o+a.size) with
  | some r=>if a.AqH then some (.pr (.Oz k i (p++[f]) o e) r) else if a.flat then some (.pr (.dat [] a x.1) r) else none
  | none=>none
 | _,_,_,_=>none
def WH(c:Callee)(bs:List Blk)(args:List AV)(K:Eff->Option R):Option R :=
 match iK 0 args with
 | none=>Rs c bs args K
 | some (j,a0,k,i,p,o)=>match bs[k]? with
  | some (.row ek .deep t xs)=>match tyP t p with
   | some (.sl u)=>match W7 (.sl u) p t (xs.getD i.toNat t.zero) with
    | some ys =>
     if I1 t p=some o/\u.size≠0/\((args.set j (a0.Ts bs.length)).all λa=>!a.ids.contains k)=true then
      Rs c ((AQ [k] bs).set k .dead++[.row 0 .deep u ys]) (args.set j (a0.Ts bs.length)) λe =>
       if e.mods.contains k then none else
       match e.blks[bs.length]? with
       | some (.row _ .deep u' zs)=>match Hw (.sl u') (.sl u) zs with
        | some zs=>match N0 (.sl u) zs p t (xs.getD i.toNat t.zero) with
         | some x'=>K ⟨e.val.drop (λq=>[k,bs.length].contains q),((AQ [k,bs.length] e.blks).set bs.length .dead).set k (.row ek .deep t (xs.set i.toNat x')),e.mods++[k]⟩
         | none=>none
        | none=>none
       | _=>none
     else none
    | none=>none
   | _=>none
  | _=>none
def oD:AV->List AV
 | .cons a b=>a::oD b
 | _=>[]
def Nv(σ:St)(xs:Array Operand):List AV:=xs.toList.map σ.Bw
def QE:List AV->AV
 | []=>.nil
 | a::r=>.cons (if a.Cp then .un 0 else a) (QE r)
def Qj(en:Env)(σ:St)(c:Call)(K:Eff->Option R):Option R :=
 match c.callee with
 | .builtin .len=>match Nv σ c.args,c.argTypes.toList with
  | [x],t::_=>match en.tab.get t with | some ti=>aO σ.blks ti x λv=>K ⟨v,σ.blks,[]⟩| none=>none
  | _,_=>none
 | .builtin .min=>match Nv σ c.args with | [x,y]=>uq false x y λv=>K ⟨v,σ.blks,[]⟩| _=>none
 | .builtin .max=>match Nv σ c.args with | [x,y]=>uq true x y λv=>K ⟨v,σ.blks,[]⟩| _=>none
 | .builtin .append=>match Nv σ c.args,c.argTypes.toList with
  | [x,y],[t,tx]=>match en.tab.get t,en.tab.get tx with
   | some ti,some Yq=>match en.tab.get ti.elem with
    | some te=>if ti.Ea&&(Yq.Ea||Yq.ty==.str) then R4 en.fi σ.blks ti.elem te x y K else if ti.Ea&&Yq.ty.isInt then R5 en.fi σ.blks ti.elem te x y K else none
    | none=>none
   | _,_=>none
  | _,_=>none
 | .builtin _=>none
 | .value f=>match σ.Bw f with
  | .fn g caps=>match en.fns g with
   | some ca=>WH ca σ.blks (Nv σ c.args++oD caps) K
   | none=>none
  | _=>none
 | .invoke _ _=>none
def eqS(bs:List Blk)(tab:Tab)(op:BinOp)(t:Nat)(x y:AV):Option AV:=match tab.get t with
 | some ti=>if ti.eqs=true then(match op with
  | .eql=>match rd bs ti.ty x,rd bs ti.ty y with | some u,some v=>some (.bool (Mu ti.ty u v))| _,_=>none
  | .neq=>match rd bs ti.ty x,rd bs ti.ty y with | some u,some v=>some (.bool (!Mu ti.ty u v))| _,_=>none
  | _=>none) else none
 | none=>none
def zf(en:Env)(o:Oper):Bool:=match o.dst with | some d=>en.fi.stl.contains d | none=>false
def Vd(tab:Tab)(tk:TI):Bool:=match tk.ty with
 | .pair (.int q) _=>tk.arr==2&&(match tab.get tk.elem with | some te=>te.ty==.int q&&tk.ty==.pair (.int q) (.pair (.int q) .unit)| none=>false)
 | _=>true
def Ni(en:Env)(σ:St)(o:Oper)(K:Eff->Option R):Option R :=
 let ρ:=σ.Bw
 let bs:=σ.blks
 let pure:=λv=>K ⟨v,bs,[]⟩
 match o.op with
 | .move x=>pure (ρ x)
 | .assign x=>pure (ρ x)
 | .pick c a b=>match ρ c with | .dat _ .bool t=>bif t then pure (ρ a) else pure (ρ b)| _=>none
 | .alloc e=>match en.tab.get e with
  | some ti=>K ⟨.ptr bs.length 0 [] 0,bs++[.box ti.ty.S3],[]⟩
  | none=>none
 | .box _ x=>if(ρ x).top then K ⟨.ptr bs.length 0 [] 0,bs++[.box (ρ x)],[]⟩ else none
 | .build t parts=>match en.tab.get t with
  | some ti=>if ti.Rc.isEmpty then none else match Rr ti ti.ty.S3 (parts.toList.map λp=>(p.1,ρ p.2)) with | some v=>pure v | none=>none
  | none=>none
 | .buildSlice t len parts=>match en.tab.get t with
  | some ti=>match en.tab.get ti.elem with
   | some te=>match Nw bs te.ty (en.fi.mode te.ty) (List.replicate len te.ty.zero) [] (parts.toList.map λp=>(p.1,ρ p.2)) with
    | some (m,xs,rs)=>if ti.Ea&&te.ty.row&&Yf rs m&&nodup rs&&len*te.ty.size<=16777216 then(if len=0 then K ⟨.zs,bs,[]⟩ else K ⟨.ref bs.length,Blk.kill (AQ rs bs) rs++[.row ti.elem m te.ty xs],rs⟩) else none
    | none=>none
   | none=>none
  | none=>none
 | .load t x=>match en.tab.get t with
  | some ti=>if zf en o=true then(if ti.Ea then TC bs ti (ρ x) K else none) else SS bs ti (ρ x) pure
  | none=>none
 | .makeMap t r=>match en.tab.get t with
  | some ti=>if r.isSome then none else match en.tab.get ti.Mp,en.tab.get ti.elem with
   | some tk,some te=>if ti.Mp≠0/\tk.ty.keyed=true/\te.ty.data=true then K ⟨.mp bs.length,bs++[.map (en.fi.mode te.ty) tk.ty te.ty [] none],[]⟩ else none
   | _,_=>none
  | none=>none
 | .lookup t m x ok=>match en.tab.get t with
  | some ti=>match en.tab.get ti.Mp,en.tab.get ti.elem with
   | some tk,some te=>if ti.Mp≠0/\te.ty.data=true/\Vd en.tab tk=true then
       (if zf en o=true then(if ok then none else Za bs tk te (ρ m) (ρ x) K) else VO bs tk te ok (ρ m) (ρ x) pure) else none
   | _,_=>none
  | none=>none
 | .mapUpdate t m x v=>match en.tab.get t with
  | some ti=>match en.tab.get ti.Mp,en.tab.get ti.elem with
   | some tk,some te=>if ti.Mp≠0/\te.ty.data=true/\Vd en.tab tk=true then Vt bs tk te (ρ m) (ρ x) (ρ v) K else none
   | _,_=>none
  | none=>none
 | .mapEntry t m x=>match en.tab.get t with
  | some ti=>match en.tab.get ti.Mp,en.tab.get ti.elem with
   | some tk,some te=>if ti.Mp≠0/\Vd en.tab tk=true then qX bs tk te (ρ m) (ρ x) K else none
   | _,_=>none
  | none=>none
 | .entryStore t m j v=>match en.tab.get t with
  | some ti=>match en.tab.get ti.Mp,en.tab.get ti.elem with
   | some tk,some te=>if ti.Mp≠0/\Vd en.tab tk=true then qY bs tk te (ρ m) (ρ j) (ρ v) K else none
   | _,_=>none
  | none=>none
 | .store t x v=>match en.tab.get t with | some ti=>Vq bs ti (ρ x) (ρ v) K | none=>none
 | .nilCheck x=>match ρ x with
  | .ptr k i p q=>pure (.ptr k i p q)
  | .rop ks t y=>pure (.rop ks t y)
  | _=>none
 | .binOp op t x y _=>match eqS bs en.tab op t (ρ x) (ρ y) with | some z=>pure z | none=>ZR op (match en.tab.get t with | some ti=>ti.ty==.bool | none=>false) (ρ x) (ρ y) pure
 | .unOp op _ x=>unA op (ρ x) pure
 | .convert s t x=>match en.tab.get s,en.tab.get t with
  | some ts,some ti=>TU bs (match en.tab.get ts.elem with | some te=>if ts.Ea then some te.ty else none | none=>none) ti.ty (ρ x) pure
  | _,_=>none
 | .makeFunc fn first caps=>match fn with | .func f=>if first.size=0 then pure (.fn f (QE (caps.toList.map ρ))) else none | _=>none
 | .makeSlice t l c=>match en.tab.get t with
  | some ti=>match en.tab.get ti.elem with
   | some te=>if ti.Ea then Zc en.fi bs ti.elem te (ρ l) (ρ c) K else none
   | none=>none
  | none=>none
 | .slice t x lo hi mx=>match o.dst,en.tab.get t with
  | some d,some ti =>
   if en.fi.take.contains d then(match lo,mx with
    | none,none=>if ti.Ea then(match en.tab.get ti.elem with | some te=>qR te.ty bs (ρ x) (hi.map ρ) K | none=>none) else none
    | _,_=>none)
   else QT bs ti (match en.tab.get ti.elem with | some te=>if ti.Ea then some te.ty else none | none=>none) (ρ x) (lo.map ρ) (hi.map ρ) (mx.map ρ) pure
  | _,_=>none
 | .fieldAddr t x f=>match en.tab.get t with | some ti=>X2 ti f (ρ x) pure | none=>none
 | .indexAddr t x i=>match en.tab.get t with
  | some ti=>match en.tab.get ti.elem with
   | some te=>if ti.Ea then gV bs te.ty (ρ x) (ρ i) pure else none
   | none=>none
  | none=>none
 | .index t x i=>match en.tab.get t with | some ti=>if ti.ty=.str then ZV (ρ x) (ρ i) pure else none | none=>none
 | .extract x i=>match K3 (ρ x) i with | some v=>if v.Cp then none else pure v | none=>none
 | .call c=>Qj en σ c K
 | _=>none
def As.{u}{A:Type u}:List (Nat×A)->Nat->Option A
 | [],_=>none
 | (k,l)::r,n=>if k==n then some l else As r n
def Adb(n:Nat)(t:Ty)(e:Eff):Option Eff:=match rd e.blks t e.val with
 | some x=>if e.blks.all (λb=>!b.UV) then some ⟨.dat ((e.val.lend e.blks).filter λk=>decide (k<n)) t x,Blk.kill e.blks ((e.val.lend e.blks).filter λk=>!decide (k<n)),e.mods⟩ else none
 | none=>none
def pW(n:Nat)(e:Eff):Option Eff:=match e.val with
 | .ref k=>if n<=k then match e.blks[k]? with
  | some (.row el .deep t xs)=>some ⟨.ref k,e.blks.set k (.row el (.sh []) t xs),e.mods⟩
  | _=>none
  else none
 | _=>none
def WY(en:Env)(o:Oper):Bool:=match o.dst with | some d=>en.fi.As9.contains d | none=>false
def Asm(en:Env)(o:Oper):Option Ty:=match o.dst with | some d=>As en.fi.gK d | none=>none
def eu(u:Ty):Nat->Ty
 | 0=>.unit
 | n+1=>.pair u (eu u n)
def TI.plc(ti te:TI):TI:=⟨ti.ty,(List.range ti.arr).map (·*te.ty.size),ti.elem,ti.bytes,ti.arr,ti.Mp,ti.eqs⟩
def Wt(en:Env)(σ:St)(o:Oper):Option AV:=match o.op with
 | .load t x=>match o.dst with
  | none=>none
  | some d=>match As en.fi.nest d,en.tab.get t,σ.Bw x with
   | some e,some ti,.ptr k i p f=>match σ.blks[k]?,atP σ.blks k i p f with
    | some (.row _ .deep _ _),some v=>if ti.Ea=true/\v.size=1 then some (.Oz k i p f e) else(match v with
     | .dat _ t x=>if t=ti.ty then Xr k i p e t x 0 f else none
     | _=>none)
    | _,_=>none
   | _,_,_=>none
 | .build t parts=>match en.tab.get t with
  | some ti=>if ti.arr=0 then none else match en.tab.get ti.elem with
   | some te=>if ti.ty=eu te.ty ti.arr then Rr (ti.plc te) ti.ty.S3 (parts.toList.map λp=>(p.1,σ.Bw p.2)) else none
   | none=>none
  | none=>none
 | .index t x i=>match en.tab.get t with
  | some ti=>if ti.arr=0 then none else match en.tab.get ti.elem with
   | some te=>match σ.Bw i,σ.Bw x with
    | .dat _ (.int _) j,a=>if 0<=j/\j<(ti.arr:Int)/\a.off j.toNat=some (j.toNat*te.ty.size)/\a.isAgg=true/\a.Cp=false then match a.T9 j.toNat with
     | some v=>if v.size=te.ty.size/\v.isAgg=te.ty.isAgg then some v else none
     | none=>none
     else none
    | _,_=>none
   | none=>none
  | none=>none
 | .call c=>match c.callee,Nv σ c.args,c.argTypes.toList with
  | .builtin .len,[.QS _ n],t::_=>match en.tab.get t with | some ti=>if ti.Ea=true then some (.int .i64 (n:Int)) else none | none=>none
  | .builtin .cap,[.zs],t::_=>match en.tab.get t with | some ti=>if ti.Ea=true then some (.int .i64 0) else none | none=>none
  | _,_,_=>none
 | .indexAddr t x i=>match en.tab.get t with
  | some ti=>if ti.arr=0 then(match en.tab.get ti.elem,σ.Bw x,σ.Bw i with
   | some te,.QS k n,.dat _ (.int _) j=>if ti.Ea=true/\te.ty.size=1/\0<=j/\j<(n:Int) then match σ.blks[k]? with
    | some (.box _)=>some (.ptr k 0 [j.toNat] j.toNat)
    | _=>none
    else none
   | _,_,_=>none) else match en.tab.get ti.elem with
   | some te=>match σ.Bw i with
    | .dat _ (.int _) j=>if 0<=j/\j<(ti.arr:Int) then match σ.Bw x with
     | .ptr k q p f=>some (.ptr k q (p++[j.toNat]) (f+j.toNat*te.ty.size))
     | .rop ks t' y=>if OA t' j.toNat=some (j.toNat*te.ty.size) then match Ql ks t' y j.toNat with | some (.dat _ u z)=>some (.rop ks u z)| _=>none else none
     | _=>none
     else none
    | _=>none
   | none=>none
  | none=>none
 | _=>none
def qP(bs:List Blk):Co->AV->Option (AV×List Blk)
 | .row p e t deep,a=>match a.P1 p with
  | some .zs=>if t.row then match a.Tz p (.ref bs.length) with | some a'=>some (a',[.row e (if t.flat||deep then .deep else .sh []) t []])| none=>none else none
  | _=>some (a,[])
 | .dat t,a=>match rd bs t a with | some x=>some (.dat (a.lend bs) t x,[])| none=>none
 | .deps ks,a=>match a with
  | .dat l t x=>if(t.flat||l.all λk=>ks.contains k)&&ks.all (λk=>decide (k<bs.length)) then some (.dat ks t x,[]) else none
  | _=>none
def coB(k:Nat)(c:Co)(bs:List Blk):Option (List Blk):=match bs[k]? with
 | some (.box a)=>match qP bs c a with | some (a',nb)=>some (bs.set k (.box a')++nb)| none=>none
 | _=>none
def Z9:List (Nat×Co)->List Blk->Option (List Blk)
 | [],bs=>some bs
 | (k,c)::r,bs=>match coB k c bs with | some bs'=>Z9 r bs' | none=>none
def chase(bs:List Blk):Nat->List (List Nat)->Option Nat
 | k,[]=>some k
 | k,q::r=>match bs[k]? with
  | some (.box a)=>match a.P1 q with | some (.ptr k' _ _ _)=>chase bs k' r | _=>none
  | _=>none
def preB:List (Nat×List (List Nat)×Co)->List AV->List Blk->Option (List Blk)
 | [],_,bs=>some bs
 | (j,q,c)::r,args,bs=>match args[j]? with
  | some (.ptr k _ _ _)=>match chase bs k q with
   | some k'=>match coB k' c bs with | some bs'=>preB r args bs' | none=>none
   | none=>none
  | _=>none
def AV.pq:AV->Bool
 | .ptr _ _ _ _=>true
 | .rop _ _ _=>true
 | _=>false
def prs:List AV->AV
 | []=>.dat [] .unit ()
 | a::r=>.pr a (prs r)
def mU(bs:List Blk)(ti:TI)(k:Nat)(i:Int)(p:List Nat)(o:Nat)(j:Int)(u:Ty)(v:AV):Option Eff:=match bs[k]? with
 | some (.row ek .deep t xs)=>match W7 (.sl u) p t (xs.getD i.toNat t.zero) with
  | some ys=>match take ((AQ [k] bs).set k .dead++[.row 0 .deep u ys]) .deep ti.ty v with
   | some (y,.deep,[])=>match N0 ti.ty y [] u (ys.getD j.toNat u.zero) with
    | some y'=>match N0 (.sl u) (ys.set j.toNat y') p t (xs.getD i.toNat t.zero) with
     | some x'=>if tyP t p=some (.sl u)/\I1 t p=some o/\u.size≠0/\tyP u []=some ti.ty/\I1 u []=some 0/\v.ids.contains k=false then
         some ⟨.un 0,((AQ [k,bs.length] ((Blk.kill (AQ [bs.length] ((AQ [k] bs).set k .dead++[.row 0 .deep u ys])) []).set bs.length (.row 0 .deep u (ys.set j.toNat y')))).set bs.length .dead).set k (.row ek .deep t (xs.set i.toNat x')),[bs.length]++[k]⟩
      else none
     | none=>none
    | none=>none
   | _=>none
  | none=>none
 | _=>none
def r9(en:Env)(σ:St)(o:Oper):Option Eff:=match o.op with
 | .store t x v=>match en.tab.get t,σ.Bw x with
  | some ti,.P4 k i p f j u=>mU σ.blks ti k i p f j u (σ.Bw v)
  | _,_=>none
 | _=>none
def Zx(en:Env)(σ:St)(o:Oper):Option Eff:=match o.op with
 | .buildSlice t len parts=>match en.tab.get t with
  | some ti=>match en.tab.get ti.elem with
   | some te=>if te.ty=.opq 0/\ti.Ea=true/\len≠0/\len<=16777216/\(parts.toList.map λp=>(p.1,σ.Bw p.2)).map (·.1)=List.range len/\((parts.toList.map λp=>(p.1,σ.Bw p.2)).all λq=>q.2.pq)=true then
       some ⟨.QS σ.blks.length len,σ.blks++[.box (prs ((parts.toList.map λp=>(p.1,σ.Bw p.2)).map (·.2)))],[]⟩ else none
   | none=>none
  | none=>none
 | _=>none
def bH(en:Env)(σ:St)(o:Oper):Option Eff:=match Zx en σ o with | some e=>some e | none=>r9 en σ o
def PE(en:Env)(σ:St)(o:Oper)(K:Eff->Option R):Option R:=match Wt en σ o with
 | some v=>K ⟨v,σ.blks,[]⟩
 | none=>match bH en σ o with
 | some e=>K e
 | none=>match Asm en o with
 | none=>bif WY en o then Ni en σ o λe=>match pW σ.blks.length e with | some e'=>K e' | none=>none else Ni en σ o K
 | some t=>Ni en σ o λe=>match Adb σ.blks.length t e with | some e'=>K e' | none=>none
def exec(en:Env)(σ:St)(o:Oper)(K:Eff->Option R):Option R:=match o.op,o.dst with
 | .call c,some d=>match As en.fi.Asl d with
  | some l=>match preB l (Nv σ c.args) σ.blks with
   | some bs=>PE en ⟨σ.slots,bs⟩ o λe=>if e.mods.isEmpty then none else K e
   | none=>none
  | none=>PE en σ o K
 | _,_=>PE en σ o K
def QH(all:List Oper)(σ:St)(o:Oper)(Kt Kf:St->Option R):Option R :=
 match o.guard with
 | none=>Kt σ
 | some (g,want) =>
  match (all[g]?).bind (·.dst) with
  | none=>none
  | some d=>match σ.slots[d]? with
   | some (.dat [] .bool b) =>
    bif b then
     (if want then Kt {σ with slots:=σ.slots.set d (.bool true)} else Kf {σ with slots:=σ.slots.set d (.bool true)})
    else
     (if want then Kf {σ with slots:=σ.slots.set d (.bool false)} else Kt {σ with slots:=σ.slots.set d (.bool false)})
   | some .nil=>Kf σ
   | _=>none
def St.skip(σ:St)(d:Option Nat):St:={σ with slots:=SI d .nil σ.slots}
def Nh(en:Env)(all:List Oper):List Nat->St->(St->Option R)->Option R
 | [],σ,K=>K σ
 | i::is,σ,K =>
  match all[i]? with
  | none=>none
  | some o=>QH all σ o (λσ=>exec en σ o λe=>Nh en all is (σ.after o.dst e) K) (λσ=>Nh en all is (σ.skip o.dst) K)
def CS:List (Nat×List Nat)->Nat->List Nat
 | [],_=>[]
 | (k,l)::r,i=>if k==i then l else CS r i
def OQ(all:List Oper)(i:Nat):List Nat:=match all[i]? with
 | some o=>o.after.toList.filterMap λe=>if Region.binds .any e then some e.on else none
 | none=>[]
def Ro(all:List Oper):List Nat->List (Nat×List Nat)->List (Nat×List Nat)
 | [],A=>A
 | i::is,A=>Ro all is ((i,V3 [] (OQ all i++(OQ all i).flatMap (CS A)))::A)
def Uh(all:List Oper)(A:List (Nat×List Nat)):List Nat->Bool
 | []=>true
 | i::is=>is.all (λj=>(CS A j).contains i||match all[i]?,all[j]? with | some x,some y=>x.apart all.toArray y | _,_=>false)&&Uh all A is
def OS(en:Env)(all:List Oper)(A:List (Nat×List Nat)):List Nat->List Nat->List Nat->St->(St->Option R)->Option R
 | [],_,_,σ,K=>K σ
 | i::is,done,K0,σ,K =>
  match all[i]? with
  | none=>none
  | some o=>if K0.all (λx=>(CS A i).contains x) then
      QH all σ o (λσ=>exec en σ o λe =>
       if e.mods.isEmpty then OS en all A is (i::done) (if e.blks.length=σ.blks.length then K0 else i::K0) (σ.after o.dst e) K
       else if done.all (λx=>(CS A i).contains x) then OS en all A is (i::done) (i::K0) (σ.after o.dst e) K else none)
      (λσ=>OS en all A is (i::done) K0 (σ.skip o.dst) K)
   else none
inductive Ex where
 | normal | exit (n:Nat)| ret
inductive To {S T:Type} (f:S->Option (S⊕T)):S->T->Prop
 | done {s:S} {t:T} (h:f s=some (.inr t)):To f s t
 | more {s s':S} {t:T} (h:f s=some (.inl s')) (k:To f s' t):To f s t
open Classical in
noncomputable def fix{S T:Type}(f:S->Option (S⊕T))(s:S):Option T:=if h:∃t,To f s t then some h.choose else none
def key:Code->Nat
 | .region i _ _=>i
 | .seq a _=>key a
 | .block _ a=>key a
 | .loop a=>key a
 | .cond _ a _=>key a
 | _=>0
def Nj(live:List Nat):Nat->List AV->List AV
 | _,[]=>[]
 | i,a::r=>(if live.contains i then a else .un 0)::Nj live (i+1) r
def coS(σ:St)(s:Nat)(box:Bool)(c:Co):Option St :=
 match σ.slots[s]? with
 | none=>none
 | some v=>bif box then
     (match v with
      | .ptr k _ _ _=>match σ.blks[k]? with
       | some (.box a)=>match qP σ.blks c a with | some (a',nb)=>some ⟨σ.slots,σ.blks.set k (.box a')++nb⟩| none=>none
       | _=>none
      | _=>none)
  else match qP σ.blks c v with | some (v',nb)=>some ⟨σ.slots.set s v',σ.blks++nb⟩| none=>none
def TS:List (Nat×Bool×Co)->St->Option St
 | [],σ=>some σ
 | (s,b,c)::r,σ=>match coS σ s b c with | some σ'=>TS r σ' | none=>none
def zC(m:Nat)(t:Ty)(v:AV)(bs:List Blk):Option (AV×List Blk):=match rd bs t v with
 | some x=>some (.dat ((v.lend bs).filter λk=>decide (k<m)) t x,(Blk.kill bs ((v.lend bs).filter λk=>!decide (k<m))).map Blk.TF)
 | none=>none
def au(m:Nat):List (Nat×Bool×Ty)->St->Option St
 | [],σ=>some σ
 | (s,false,t)::r,σ=>match σ.slots[s]? with
  | some (.un _)=>au m r σ
  | some v=>match zC m t v σ.blks with
   | some (v',bs)=>au m r ⟨(σ.slots.map AV.TF).set s v',bs⟩
   | none=>none
  | none=>none
 | (s,true,t)::r,σ=>match σ.slots[s]? with
  | some (.ptr k _ _ _)=>match σ.blks[k]? with
   | some (.box a)=>match zC m t a σ.blks with
    | some (a',bs)=>match bs[k]? with
     | some (.box _)=>au m r ⟨σ.slots.map AV.TF,bs.set k (.box a')⟩
     | _=>none
    | none=>none
   | _=>none
  | _=>au m r σ
def mvS(m:Nat):List Nat->St->Option St
 | [],σ=>some σ
 | s::r,σ=>match σ.slots[s]? with
  | some (.ref k)=>if k<m then match σ.blks[k]? with
      | some (.row e md t xs)=>if md.ids.contains k then none else mvS m r ⟨(OR [k] σ.slots).set s (.ref σ.blks.length),Blk.kill (AQ [k] σ.blks) [k]++[.row e md t xs]⟩
      | _=>none
   else mvS m r σ
  | _=>mvS m r σ
def mvB(m k:Nat)(p:List Nat)(σ:St):Option St:=match σ.blks[k]? with
 | some (.box a)=>match a.P1 p with
  | some (.ref j)=>if j<m then match σ.blks[j]? with
      | some (.row e md t xs)=>if md.ids.contains j then none else match (a.drop λq=>[j].contains q).P1 p,(a.drop λq=>[j].contains q).Tz p (.ref σ.blks.length) with
       | some (.ref j'),some a2=>if j'=j/\k≠j then some ⟨OR [j] σ.slots,(Blk.kill (AQ [j] σ.blks) [j]++[Blk.row e md t xs]).set k (Blk.box a2)⟩ else none
       | _,_=>none
      | _=>none
   else some σ
  | _=>none
 | _=>none
def mvV(m s:Nat)(p:List Nat)(a:AV)(σ:St):Option St:=match a.P1 p with
 | some (.ref j)=>if j<m then match σ.blks[j]? with
     | some (.row e md t xs)=>if md.ids.contains j then none else match (a.drop λq=>[j].contains q).P1 p,(a.drop λq=>[j].contains q).Tz p (.ref σ.blks.length) with
      | some (.ref j'),some a2=>if j'=j then some ⟨(OR [j] σ.slots).set s a2,Blk.kill (AQ [j] σ.blks) [j]++[Blk.row e md t xs]⟩ else none
      | _,_=>none
     | _=>none
  else some σ
 | _=>none
def mvP(m s:Nat)(p:List Nat)(σ:St):Option St:=match σ.slots[s]? with
 | some (.ptr k _ _ _)=>mvB m k p σ
 | some a=>mvV m s p a σ
 | none=>none
def Aam(m:Nat):List (Nat×List Nat)->St->Option St
 | [],σ=>some σ
 | (s,p)::r,σ=>match mvP m s p σ with | some σ'=>Aam m r σ' | none=>none
def AV.wid(ks:List Nat):AV->AV
 | .dat l t x=>if t.flat=false/\l.all (λj=>ks.contains j)=true then .dat ks t x else .dat l t x
 | .pr a b=>.pr (a.wid ks) (b.wid ks)
 | a=>a
def dG:List (Nat×List Nat)->List Blk->Option (List Blk)
 | [],bs=>some bs
 | (k,ks)::r,bs=>match bs[k]? with
  | some (.row e (.sh l) t xs)=>if l.all (λj=>ks.contains j)&&ks.all (λj=>decide (j<bs.length)) then dG r (bs.set k (.row e (.sh ks) t xs)) else none
  | some (.box a)=>if ks.all (λj=>decide (j<bs.length)) then dG r (bs.set k (.box (a.wid ks))) else none
  | _=>none
def sw(bs:List Blk)(m:Nat)(π ids:List Nat):Bool :=
 π.take m==List.range m&&nodup π&&ids.all (λj=>π.contains j)&&π.all λk=>match bs[k]? with | some b=>b.ids.all λj=>π.contains j | none=>false
def St.norm(m:Nat)(live:List Nat)(σ:St):Option St :=
 let sl:=Nj live 0 σ.slots
 let π:=reach σ.blks σ.blks.length (V3 (List.range m) (sl.flatMap (·.ids)))
 if sw σ.blks m π (sl.flatMap (·.ids)) then
  some {slots:=sl.map (λa=>(a.ren (idxOf π)).canon π.length),blks:=π.map λk=>(((σ.blks[k]?).getD .dead).ren (idxOf π)).canon π.length}
 else none
def turns(en:Env)(o:Oper):Bool:=match o.op with
 | .alloc _=>true
 | .box _ _=>true
 | .buildSlice _ _ _=>true
 | .store _ _ _=>true
 | .makeSlice _ _ _=>true
 | .makeMap _ _=>true
 | .mapUpdate _ _ _ _=>true
 | .mapEntry _ _ _=>true
 | .entryStore _ _ _ _=>true
 | .load _ _=>match o.dst with | some d=>en.fi.stl.contains d | none=>false
 | .lookup _ _ _ _=>match o.dst with | some d=>en.fi.stl.contains d | none=>false
 | .slice _ _ _ _ _=>match o.dst with | some d=>en.fi.take.contains d | none=>false
 | .call c=>match c.callee with | .builtin .append=>true | .builtin _=>false | _=>true
 | _=>false
def Ac5(all:List Oper)(done:List Nat)(i:Nat):Bool:=(OQ all i).all λx=>done.contains x
def QP(en:Env)(all:List Oper):Nat->List Nat->List Nat
 | 0,done=>done.reverse
 | f+1,done =>
  let rdy:=(List.range all.length).filter λi=>!done.contains i&&Ac5 all done i
  match rdy.find? (λi=>match all[i]? with | some o=>!turns en o | none=>false) with
  | some i=>QP en all f (i::done)
  | none=>match rdy with
   | i::_=>QP en all f (i::done)
   | []=>done.reverse
def XQ(all:List Oper):List Nat->List Nat->Bool
 | [],_=>true
 | i::is,done=>(OQ all i).all (λd=>done.contains d)&&XQ all is (i::done)
def wo(all:List Oper)(L:List Nat):Bool:=nodup L&&(List.range all.length).all (λi=>L.contains i)&&L.all (λi=>decide (i<all.length))&&Uh all (Ro all L []) L&&XQ all L []
end
def St.head(h:SH)(m:Nat)(σ:St):Option St :=
 match ((mvS m h.mv σ).bind (Aam m h.mvp)).bind (au m h.Ow) with
 | none=>none
 | some σ=>match TS h.pre σ with
  | none=>none
  | some σ=>match σ.norm m h.live with
   | none=>none
   | some σ=>match dG h.wid σ.blks with
    | none=>none
    | some bs=>TS h.post ⟨σ.slots,bs⟩
def Ac6(m:Nat)(σ:St):Option (List Nat)->Option St
 | none=>some σ
 | some l=>σ.head {live:=l} m
open Classical in
noncomputable def Ti(s t:St):Option Unit:=if s=t then some () else none
def pR(o:Oper):Bool:=match o.op with
 | .move _=>true
 | .assign _=>true
 | .extract _ _=>true
 | .fieldAddr _ _ _=>true
 | .indexAddr _ _ _=>true
 | .build _ _=>true
 | _=>false
def Aem(ops:Array Oper)(listed:Array Bool):Option Nat:=(Region.ready .any ops listed).find? λi=>(match ops[i]? with | some o=>pR o | none=>false)&&Region.free .any ops listed i
def gH:List (Option Unit)->Option Unit
 | []=>some ()
 | [x]=>x
 | x::y::r=>x.bind λ_=>gH (y::r)
noncomputable def qF(en:Env)(h:SH)(m:Nat)(ops:Array Oper)(σ':St):Nat->Array Bool->St->Option Unit
 | 0,listed,σ=>if(Region.ready .any ops listed).isEmpty then match σ.head h m with | some s=>Ti s σ' | none=>none else none
 | k+1,listed,σ=>match Aem ops listed with
  | some i=>Nh en ops.toList [i] σ λσ1=>qF en h m ops σ' k (listed.setIfInBounds i true) σ1
  | none=>if(Region.ready .any ops listed).isEmpty then none else
  gH ((Region.ready .any ops listed).map λi=>Nh en ops.toList [i] σ λσ1=>qF en h m ops σ' k (listed.setIfInBounds i true) σ1)
def lZ(SG:List Blk)(σ:St)(o:Oper):Bool:=pR o||match o.op with
 | .load _ x=>(match σ.Bw x with | .ptr k _ _ _=>(match SG[k]?,σ.blks[k]? with | some (.box _),some (.box _)=>true | _,_=>false)| _=>false)
 | .call c=>(match c.callee,Nv σ c.args with | .builtin .len,[.dat _ (.sl _) _]=>true | .builtin .len,[.zs]=>true | _,_=>false)
 | .binOp op _ x y _=>(match op with | .add=>true | .sub=>true | _=>false)&&(match σ.Bw x,σ.Bw y with | .dat _ (.int k) _,.dat _ (.int k') _=>decide (k=k')| _,_=>false)
 | _=>false
def Ael(SG:List Blk)(σ:St)(ops:Array Oper)(listed:Array Bool):Option Nat:=(Region.ready .any ops listed).find? λi=>(match ops[i]? with | some o=>lZ SG σ o | none=>false)&&Region.free .any ops listed i
def evQ{R:Type}(en:Env)(all:List Oper)(N i:Nat)(σ:St)(K:St->Option R):Option R:=match all[i]? with
 | none=>none
 | some o=>QH all σ o (λσ=>exec en σ o λe=>if e.mods.all (λk=>decide (N<=k)) then K (σ.after o.dst e) else none) (λσ=>K (σ.skip o.dst))
noncomputable def kG(en:Env)(h:SH)(m:Nat)(SG:List Blk)(ops:Array Oper)(σ':St):Nat->Array Bool->St->Option Unit
 | 0,listed,σ=>if(Region.ready .any ops listed).isEmpty then match σ.head h m with | some s=>Ti s σ' | none=>none else none
 | k+1,listed,σ=>match Ael SG σ ops listed with
  | some i=>evQ en ops.toList SG.length i σ λσ1=>kG en h m SG ops σ' k (listed.setIfInBounds i true) σ1
  | none=>if(Region.ready .any ops listed).isEmpty then none else
  gH ((Region.ready .any ops listed).map λi=>evQ en ops.toList SG.length i σ λσ1=>kG en h m SG ops σ' k (listed.setIfInBounds i true) σ1)
noncomputable def AdC(en:Env)(m:Nat)(h:SH)(ops:Array Oper)(σ:St):Option St :=
 if Region.noSelect ops=false then none else Nh en ops.toList (List.range ops.size) σ λs=>(s.head h m).bind λσ'=>(bif h.quiet then kG en h m σ.blks ops σ' ops.size (Array.replicate ops.size false) σ else qF en h m ops σ' ops.size (Array.replicate ops.size false) σ).bind λ_=>some σ'
def dz{R:Type}(f:St->(Ex->St->Option R)->Option R)(K:Ex->St->Option R):Nat->St->Option R
 | 0,_=>none
 | n+1,σ=>f σ λe σ'=>match e with
  | .normal=>dz f K n σ'
  | .exit k=>K (.exit k) σ'
  | .ret=>K .ret σ'
noncomputable def ev(en:Env)(m:Nat):Code->(R:Type)->St->(Ex->St->Option R)->Option R
 | .skip,_,σ,K=>K .normal σ
 | .ret,_,σ,K=>K .ret σ
 | .exit n,_,σ,K=>K (.exit n) σ
 | .seq a b,R,σ,K=>match As en.fi.joins (key b) with
  | none=>ev en m a R σ λe σ=>match e with
   | .normal=>ev en m b R σ K
   | .exit n=>K (.exit n) σ
   | .ret=>K .ret σ
  | some h=>(Ac6 m σ (As en.fi.ents (key b))).bind λσ=>(ev en m a (Ex×St) σ λe σ=>(σ.head h m).bind λσ'=>some (e,σ')).bind λp=>match p.1 with
   | .normal=>ev en m b R p.2 K
   | .exit n=>K (.exit n) p.2
   | .ret=>K .ret p.2
 | .cond c a b,R,σ,K=>match σ.Bw c with | .dat _ .bool t=>bif t then ev en m a R σ K else ev en m b R σ K | _=>none
 | .block n a,R,σ,K=>ev en m a R σ λe σ=>match e with
  | .normal=>K .normal σ
  | .exit k=>bif k==n then K .normal σ else K (.exit k) σ
  | .ret=>K .ret σ
 | .region _ ops false,_,σ,K=>Nh en ops.toList (List.range ops.size) σ (K .normal)
 | .region id ops true,_,σ,K=>match As en.fi.draws id with
  | some h=>(Ac6 m σ (As en.fi.fM id)).bind λσ=>(AdC en m h ops σ).bind (K .normal)
  | none=>if wo ops.toList (QP en ops.toList ops.toList.length []) then OS en ops.toList (Ro ops.toList (QP en ops.toList ops.toList.length []) []) (QP en ops.toList ops.toList.length []) [] [] σ (K .normal) else none
 | .loop body,R,σ,K=>match As en.fi.unr (key body) with
  | some n=>dz (λs K=>ev en m body R s K) K n σ
  | none=>match As en.fi.heads (key body),As en.fi.outs (key body) with
  | some h,some ho=>match σ.head h m with
   | none=>none
   | some σ0=>(fix (λs=>ev en m body (St⊕(Ex×St)) s λe s'=>match e with
       | .normal=>(s'.head h m).bind λs''=>some (.inl s'')
       | .exit n=>(s'.head ho m).bind λs''=>some (.inr (.exit n,s''))
       | .ret=>(s'.head ho m).bind λs''=>some (.inr (.ret,s''))) σ0).bind λp=>K p.1 p.2
  | _,_=>none
 | _,_,_,_=>none
def Vl(tab:Tab)(σ:St):List ResultVar->Option (List AV)
 | []=>some []
 | .tmp t::r=>match σ.slots[t]?,Vl tab σ r with | some v,some l=>some (v::l)| _,_=>none
 | .cell a t::r=>match tab.get t,σ.slots[a]? with
  | some ti,some (.ptr k i p o)=>match atP σ.blks k i p o,Vl tab σ r with
   | some v,some l=>if v.size=ti.ty.size/\v.isAgg=ti.ty.isAgg then some (v::l) else none
   | _,_=>none
  | _,_=>none
def bg:List AV->AV
 | [a]=>a
 | l=>QE l
def Rt:List (Nat×Co)->List AV->List Blk->Option (List AV×List Blk)
 | [],l,bs=>some (l,bs)
 | (i,c)::r,l,bs=>match l[i]? with
  | none=>none
  | some v=>match qP bs c v with | some (v',nb)=>Rt r (l.set i v') (bs++nb)| none=>none
def W6(m:Nat):List (Nat×Ty)->List AV->List Blk->Option (List AV×List Blk)
 | [],l,bs=>some (l,bs)
 | (i,t)::r,l,bs=>match l[i]? with
  | none=>none
  | some v=>match zC m t v bs with | some (v',bs')=>W6 m r ((l.map AV.TF).set i v') bs' | none=>none
def leave(m:Nat)(bs:List Blk)(v:AV):Option (AV×List Blk) :=
 let π:=reach bs bs.length (V3 (List.range m) v.ids)
 if sw bs m π v.ids then some ((v.ren (idxOf π)).canon π.length,π.map λk=>(((bs[k]?).getD .dead).ren (idxOf π)).canon π.length) else none
def Ry(m:Nat):List Fi->St->Option St
 | [],σ=>some σ
 | .co k c::r,σ=>match coB k c σ.blks with | some bs=>Ry m r ⟨σ.slots,bs⟩| none=>none
 | .dead j::r,σ=>Ry m r ⟨σ.slots,σ.blks.set j .dead⟩
 | .mvs s p::r,σ=>match mvP m s p σ with | some σ'=>Ry m r σ' | none=>none
 | .mv k p::r,σ=>match mvB m k p σ with | some σ'=>Ry m r σ' | none=>none
noncomputable def AH(en:Env)(fn:Func)(R:Type)(args:List AV)(E:List Blk)(K:AV->List Blk->Option R):Option R :=
 match fn.body with
 | none=>none
 | some c =>
  if args.length<=fn.ntmps then
   ev en E.length c R ⟨args++List.replicate (fn.ntmps-args.length) (.un 0),E⟩ λe σ=>match e with
    | .exit _=>none
    | _=>match Ry E.length en.fi.fin σ with
     | none=>none
     | some σ=>match Vl en.tab σ fn.results.toList with
     | some l=>match W6 E.length en.fi.Ow l σ.blks with
      | some (l,bs)=>match Rt en.fi.res l bs with
       | some (l',bs')=>match leave E.length bs' (bg l') with
        | some (v,bs)=>K v bs
        | none=>none
       | none=>none
      | none=>none
     | none=>none
  else none
end Go.Va
namespace Go.Va
section
variable {S T X Y:Type}
theorem To.WV{f:S->Option (S⊕T)}{s:S}{t u:T}(h:To f s t)(k:To f s u):t=u:=by
 induction h with
 | done h=>cases k with
  | done k=>rw[h] at k;injection k with k;injection k
  | more k _=>rw[h] at k;injection k with k;cases k
 | more h _ ih=>cases k with
  | done k=>rw[h] at k;injection k with k;cases k
  | more k k'=>rw[h] at k;injection k with k;injection k with k;subst k;exact ih k'
theorem Qk{f:S->Option (S⊕T)}{s:S}{t:T}:fix f s=some t↔To f s t:=by
 unfold fix;constructor
 ·intro h;split at h
  ·rename_i hx;injection h with h;subst h;exact hx.choose_spec
  ·cases h
 ·intro h;rw[dif_pos ⟨t,h⟩];exact congrArg some (To.WV (Exists.choose_spec ⟨t,h⟩) h)
theorem zw(f:S->Option (S⊕T))(s:S):fix f s=match f s with | none=>none | some (.inl s')=>fix f s' | some (.inr t)=>some t:=by
 apply Option.ext;intro t;rw[Qk];constructor
 ·intro h;cases h with
  | done h=>rw[h]
  | more h k=>rw[h];exact Qk.2 k
 ·intro h;split at h
  ·cases h
  ·rename_i s' hs;exact .more hs (Qk.1 h)
  ·rename_i u hs;injection h with h;subst h;exact .done hs
theorem T6{f:S->Option (S⊕T)}{s:S}{t:T}(h:f s=some (.inr t)):fix f s=some t:=by rw[zw,h]
theorem T7{f:S->Option (S⊕T)}{s s':S}(h:f s=some (.inl s')):fix f s=fix f s':=by rw[zw,h]
theorem Ac7 (σ:X->S) (τ:Y->T) (f:S->Option (S⊕T)) (g:X->Option (X⊕Y)) (h:∀x,f (σ x)=(g x).map (Sum.map σ τ)) (x:X) :
    fix f (σ x)=(fix g x).map τ:=by
 apply Option.ext;intro t;rw[Qk];constructor
 ·intro ht;generalize hs:σ x=s at ht;induction ht generalizing x with
  | @done s t hd =>
   subst hs;rw[h] at hd;cases hg:g x with
   | none=>rw[hg] at hd;cases hd
   | some r=>rw[hg] at hd;cases r with
    | inl x'=>cases hd
    | inr y=>injection hd with hd;injection hd with hd;subst hd;rw[T6 hg];rfl
  | @more s s' t hd _ ih =>
   subst hs;rw[h] at hd;cases hg:g x with
   | none=>rw[hg] at hd;cases hd
   | some r=>rw[hg] at hd;cases r with
    | inl x'=>injection hd with hd;injection hd with hd;rw[T7 hg];exact ih x' hd
    | inr y=>injection hd with hd;cases hd
 ·intro ht;cases hf:fix g x with
  | none=>rw[hf] at ht;cases ht
  | some y =>
   rw[hf] at ht;injection ht with ht;subst ht;have hto:=Qk.1 hf;clear hf;induction hto with
   | done hd=>exact .done (by rw[h,hd];rfl)
   | more hd _ ih=>exact .more (by rw[h,hd];rfl) ih
end
theorem Aag{A B:Type}(f:A->B)(c:Bool)(x y:Option A):(bif c then x else y).map f=bif c then x.map f else y.map f:=by cases c<;>rfl
theorem Adt{A B:Type}(f:A->B)(c:Prop)[Decidable c](x y:Option A):(if c then x else y).map f=if c then x.map f else y.map f:=by split<;>rfl
theorem Aaf{A B C:Type}(f:B->C)(x:Option A)(k:A->Option B):(x.bind k).map f=x.bind λy=>(k y).map f:=by cases x<;>rfl
theorem Wx{A B C:Type}(f:A->B)(x:Option A)(k:B->Option C):(x.map f).bind k=x.bind λy=>k (f y):=by cases x<;>rfl
def sub:Code->List Nat->Code
 | c,[]=>c
 | .seq a b,n::p=>match n with | 0=>sub a p | _=>sub b p
 | .cond _ a b,n::p=>match n with | 0=>sub a p | _=>sub b p
 | .block _ a,_::p=>sub a p
 | .loop a,_::p=>sub a p
 | _,_=>.skip
noncomputable def rH(en:Env)(m:Nat)(R:Type):Code->List Nat->(Ex->St->Option R)->Ex->St->Option R
 | _,[],K=>K
 | .seq a b,n::p,K=>match n with
  | 0=>rH en m R a p λe σ=>match e with
   | .normal=>ev en m b R σ K
   | .exit n=>K (.exit n) σ
   | .ret=>K .ret σ
  | _=>rH en m R b p K
 | .cond _ a b,n::p,K=>match n with | 0=>rH en m R a p K | _=>rH en m R b p K
 | .block n a,_::p,K=>rH en m R a p λe σ=>match e with
  | .normal=>K .normal σ
  | .exit k=>bif k==n then K .normal σ else K (.exit k) σ
  | .ret=>K .ret σ
 | _,_,_=>λ_ _=>none
noncomputable def Be (m:Nat) (h ho:SH) (e:Ex) (s':St):Option (St⊕(Ex×St)):=match e with
    | .normal=>(s'.head h m).bind λs''=>some (.inl s'')
    | .exit n=>(s'.head ho m).bind λs''=>some (.inr (.exit n,s''))
    | .ret=>(s'.head ho m).bind λs''=>some (.inr (.ret,s''))
noncomputable def CU(m:Nat)(h:SH)(e:Ex)(σ:St):Option (Ex×St):=(σ.head h m).bind λσ'=>some (e,σ')
noncomputable def XL(en:Env)(m:Nat)(h ho:SH)(body:Code)(s:St):Option (St⊕(Ex×St)) :=
 ev en m body (St⊕(Ex×St)) s λe s'=>match e with
  | .normal=>(s'.head h m).bind λs''=>some (.inl s'')
  | .exit n=>(s'.head ho m).bind λs''=>some (.inr (.exit n,s''))
  | .ret=>(s'.head ho m).bind λs''=>some (.inr (.ret,s''))
noncomputable def joinL(en:Env)(m:Nat)(h:SH)(a:Code)(s:St):Option (Ex×St):=ev en m a (Ex×St) s λe σ=>(σ.head h m).bind λσ'=>some (e,σ')
noncomputable def AP(en:Env)(fn:Func)(m:Nat)(R:Type)(K:AV->List Blk->Option R)(e:Ex)(σ:St):Option R :=
 match e with
 | .exit _=>none
 | _=>match Ry m en.fi.fin σ with
  | none=>none
  | some σ=>match Vl en.tab σ fn.results.toList with
  | some l=>match W6 m en.fi.Ow l σ.blks with
   | some (l,bs)=>match Rt en.fi.res l bs with
    | some (l',bs')=>match leave m bs' (bg l') with
     | some (v,bs)=>K v bs
     | none=>none
    | none=>none
   | none=>none
  | none=>none
def mkS:Nat->Nat->List (Nat×AV)->List AV
 | 0,_,_=>[]
 | n+1,i,[]=>.un 0::mkS n (i+1) []
 | n+1,i,(j,v)::r=>if i==j then v::mkS n (i+1) r else .un 0::mkS n (i+1) ((j,v)::r)
end Go.Va
namespace Go.Va
inductive Tag where
 | no | Gr | lab (k:Nat) (p:List Nat)
structure BI where
 a:Option Addr
 len:Nat
 cap:Nat
 YS:Nat
structure G where
 own:Nat->Tag
 at_:Nat->BI
def BK{α:Type}(R:α->List Value->Prop):List α->List Value->Prop
 | [],cs=>cs=[]
 | x::xs,cs=>∃c d,cs=c++d/\R x c/\BK R xs d
def AZ{α:Type}(R:Nat->α->List Value->Prop):Nat->List α->List Value->Prop
 | _,[],cs=>cs=[]
 | i,x::xs,cs=>∃c d,cs=c++d/\R i x c/\AZ R (i+1) xs d
def FL(w:World)(A:Nat->Prop):(t:Ty)->t.V->List Value->Prop
 | .int k,x,cs=>cs=[.int k x]
 | .bool,b,cs=>cs=[.bool b]
 | .str,s,cs=>cs=[.string s]
 | .unit,_,cs=>cs=[]
 | .pair a b,x,cs=>∃c d,cs=c++d/\FL w A a x.1 c/\FL w A b x.2 d
 | .sl t,xs,cs=>∃ad cap ds,cs=[.slice ad xs.length cap]/\xs.length<=cap/\BK (FL w A t) xs ds /\
     (xs=[]\/∃b off,ad=some ⟨b,off,none⟩/\A b/\∀j u,ds[j]?=some u->w.cell? ⟨b,off+j,none⟩=some u)
 | .opq _,_,_=>False
def Hv(w:World)(own:Nat->Tag)(k:Nat):(t:Ty)->List Nat->t.V->List Value->Prop
 | .int k',_,x,cs=>cs=[.int k' x]
 | .bool,_,b,cs=>cs=[.bool b]
 | .str,_,s,cs=>cs=[.string s]
 | .unit,_,_,cs=>cs=[]
 | .pair a b,p,x,cs=>∃c d,cs=c++d/\Hv w own k a (0::p) x.1 c/\Hv w own k b (1::p) x.2 d
 | .sl t,p,xs,cs=>∃ad cap,cs=[.slice ad xs.length cap]/\((xs=[]/\cap=0)\/∃b e cur ds,ad=some ⟨b,0,none⟩/\own b=.lab k p /\
     w.heap[b]?=some (.cells cur e (0,0))/\xs.length<=cap/\cap<=maxLen/\cur.size=cap*t.size/\cur.toList.take (xs.length*t.size)=ds/\AZ (λi=>Hv w own k t (i::p)) 0 xs ds)
 | .opq _,_,_,_=>False
def Al(own:Nat->Tag)(ks:List Nat)(b:Nat):Prop:=own b=.Gr\/∃k∈ks,∃p,own b=.lab k p
def AV.K9:AV->Bool
 | .un _=>true
 | _=>false
def A3(agg:Bool)(cs:List Value)(v:Value):Prop:=bif agg then v=.agg cs.toArray else cs=[v]
def BA(w:World)(g:G)(n:Nat):Bool->AV->List Value->Prop
 | false,.dat ks t x,cs=>(∀k∈ks,k<n)/\FL w (Al g.own ks) t x cs
 | false,.zs,cs=>∃ad,cs=[.slice ad 0 0]
 | false,.ref k,cs=>k<n/\cs=[.slice (g.at_ k).a (g.at_ k).len (g.at_ k).cap]
 | false,.ptr k i _ o,cs=>k<n/\0<=i/\i.toNat<(g.at_ k).len/\∃b,(g.at_ k).a=some ⟨b,0,none⟩/\cs=[.pointer (some ⟨b,i.toNat*(g.at_ k).YS+o,none⟩)]
 | false,.rop ks t x,cs=>(∀k∈ks,k<n)/\∃b off ds,cs=[.pointer (some ⟨b,off,none⟩)]/\Al g.own ks b/\FL w (Al g.own ks) t x ds/\∀j u,ds[j]?=some u->w.cell? ⟨b,off+j,none⟩=some u
 | false,.JH,cs=>cs=[.pointer none]
 | false,.Oz k i _ o _,cs=>k<n/\0<=i/\i.toNat<(g.at_ k).len/\∃b v,(g.at_ k).a=some ⟨b,0,none⟩/\g.own b=.lab k []/\cs=[v]/\v.oneCell'=true/\w.cell? ⟨b,i.toNat*(g.at_ k).YS+o,none⟩=some v
 | false,.P4 k i _ o j u,cs=>k<n/\0<=i/\i.toNat<(g.at_ k).len/\∃b b' l c,(g.at_ k).a=some ⟨b,0,none⟩/\g.own b=.lab k []/\cs=[.pointer (some ⟨b',j.toNat*u.size,none⟩)]/\(0<=j/\j.toNat<l)/\w.cell? ⟨b,i.toNat*(g.at_ k).YS+o,none⟩=some (.slice (some ⟨b',0,none⟩) l c)
 | false,.QS k l,cs=>k<n/\cs=[.slice (g.at_ k).a l l]
 | false,.mp k,cs=>k<n/\∃b,(g.at_ k).a=some ⟨b,0,none⟩/\cs=[.map (some b)]
 | false,.pr a b,cs=>∃c d,cs=c++d/\BA w g n false a c/\BA w g n false b d
 | false,.fn f c,cs=>∃vs,cs=[.func (.func f) #[] vs.toArray]/\BA w g n true c vs
 | false,.un k,cs=>cs.length=k/\∀v∈cs,v.oneCell'=true
 | true,.cons a b,vs=>∃v r,vs=v::r/\(a.K9=true\/∃cs,BA w g n false a cs/\A3 a.isAgg cs v)/\BA w g n true b r
 | true,.nil,vs=>vs=[]
 | _,_,_=>False
def Bg(w:World)(g:G)(n:Nat):AV->Value->Prop
 | .cons a b,v=>∃vs,v=.tuple vs.toArray/\BA w g n true (.cons a b) vs
 | .nil,v=>v=.tuple #[]
 | a,v=>a.K9=true\/∃cs,BA w g n false a cs/\A3 a.isAgg cs v
def Ri(w:World)(own:Nat->Tag)(k:Nat):RM->(t:Ty)->Nat->t.V->List Value->Prop
 | .deep,t,i,x,cs=>Hv w own k t [i] x cs
 | .sh ks,t,_,x,cs=>FL w (Al own ks) t x cs
def ku(w:World)(own:Nat->Tag)(k:Nat):RM->(t:Ty)->List t.V->List Value->Prop
 | .deep,t,xs,ds=>AZ (λi=>Hv w own k t [i]) 0 xs ds
 | .sh ks,t,xs,ds=>BK (FL w (Al own ks) t) xs ds
def TG(w:World)(b e:Nat)(cur:Array Value):Prop:=∃el,(e=0\/el=e)/\w.heap[b]?=some (.cells cur el (0,0))
def CR:(t:Ty)->t.V->Value
 | .int k,x=>.int k x
 | .str,s=>.string s
 | .pair (.int q) (.pair (.int q') .unit),x=>.agg #[.int q x.1,.int q' x.2.1]
 | _,_=>.nilIface
def P7(w:World)(own:Nat->Tag)(k:Nat)(md:RM)(kt vt:Ty)(st:Option kt.V):Nat->List (kt.V×vt.V)->List MapEntry->Prop
 | _,[],ms=>ms=[]
 | i,x::xs,ms=>∃m r,ms=m::r/\(m.key=CR kt x.1/\m.born=i)/\(st=some x.1\/∃cs,Ri w own k md vt i x.2 cs/\A3 vt.isAgg cs m.val)/\P7 w own k md kt vt st (i+1) xs r
def JX(w:World)(g:G)(n k:Nat):Blk->Prop
 | .box a=>(g.at_ k).len=1/\∃b cs e,(g.at_ k).a=some ⟨b,0,none⟩/\g.own b=.lab k []/\w.heap[b]?=some (.cells cs e (0,0))/\BA w g n false a cs.toList
 | .row e m t xs=>(∀j∈m.ids,j<n)/\(g.at_ k).len=xs.length/\(g.at_ k).YS=t.size/\0<t.size/\((xs=[]/\(g.at_ k).cap=0)\/∃b cur ds,(g.at_ k).a=some ⟨b,0,none⟩/\g.own b=.lab k [] /\
     TG w b e cur/\xs.length<=(g.at_ k).cap/\(g.at_ k).cap<=maxLen/\cur.size=(g.at_ k).cap*t.size/\cur.toList.take (xs.length*t.size)=ds/\ku w g.own k m t xs ds)
 | .map md kt vt es st=>(∀j∈md.ids,j<n)/\∃b arr clock,(g.at_ k).a=some ⟨b,0,none⟩/\g.own b=.lab k []/\w.heap[b]?=some (.map arr clock)/\((es.map (·.1)).Nodup/\clock=arr.size)/\P7 w g.own k md kt vt st 0 es arr.toList
 | .hole e t xs i p=>(g.at_ k).len=xs.length/\(g.at_ k).YS=t.size/\0<t.size/\0<=i/\i.toNat<xs.length/\∃u o x0 b cur ds,I1 t p=some o/\tyP t p=some (.sl u)/\N0 (.sl u) [] p t (xs.getD i.toNat t.zero)=some x0 /\
     (g.at_ k).a=some ⟨b,0,none⟩/\g.own b=.lab k []/\TG w b e cur/\xs.length<=(g.at_ k).cap/\(g.at_ k).cap<=maxLen/\cur.size=(g.at_ k).cap*t.size /\
     (cur.setIfInBounds (i.toNat*t.size+o) (.slice none 0 0)).toList.take (xs.length*t.size)=ds/\AZ (λj=>Hv w g.own k t [j]) 0 (xs.set i.toNat x0) ds
 | .dead=>True
structure Heap (w:World) (g:G) (bs:List Blk):Prop where
 fresh:∀b,w.heap.size<=b->g.own b=.no
 blk:∀k x,bs[k]?=some x->JX w g bs.length k x
structure Step (mods:List Nat) (n:Nat) (w:World) (g:G) (w':World) (g':G):Prop where
 os:w'.os=w.os
 tape:w'.tape=w.tape
 output:w'.output=w.output
 size:w.heap.size<=w'.heap.size
 no:∀b,b<w.heap.size->g.own b=.no->g'.own b=.no/\w'.heap[b]?=w.heap[b]?
 Gr:∀b,g.own b=.Gr->g'.own b=.Gr/\w'.heap[b]?=w.heap[b]?
 lab:∀b k p,g.own b=.lab k p->k<n->k∉mods->g'.own b=.lab k p/\w'.heap[b]?=w.heap[b]?
 at_:∀k,k<n->g'.at_ k=g.at_ k
section
variable {α:Type} {R S:α->List Value->Prop} {I J:Nat->α->List Value->Prop}
theorem BK.mono(h:∀x c,R x c->S x c):∀{xs cs},BK R xs cs->BK S xs cs
 | [],_,hc=>hc
 | _::_,_,⟨c,d,e,r,l⟩=>⟨c,d,e,h _ _ r,l.mono h⟩
theorem AZ.mono(h:∀i x c,I i x c->J i x c):∀{i xs cs},AZ I i xs cs->AZ J i xs cs
 | _,[],_,hc=>hc
 | _,_::_,_,⟨c,d,e,r,l⟩=>⟨c,d,e,h _ _ _ r,l.mono h⟩
theorem AZ.toR(h:∀i x c,I i x c->S x c):∀{i xs cs},AZ I i xs cs->BK S xs cs
 | _,[],_,hc=>hc
 | _,_::_,_,⟨c,d,e,r,l⟩=>⟨c,d,e,h _ _ _ r,l.toR h⟩
theorem BK.toI(h:∀i x c,R x c->J i x c):∀{i xs cs},BK R xs cs->AZ J i xs cs
 | _,[],_,hc=>hc
 | _,_::_,_,⟨c,d,e,r,l⟩=>⟨c,d,e,h _ _ _ r,BK.toI h l⟩
theorem BK.append:∀{xs ys cs ds},BK R xs cs->BK R ys ds->BK R (xs++ys) (cs++ds)
 | [],_,_,_,h,k=>by cases h;exact k
 | _::_,_,_,_,⟨c,d,e,r,l⟩,k=>⟨c,d++_,by rw[e,Aw4],r,l.append k⟩
theorem AZ.append:∀{i xs ys cs ds},AZ I i xs cs->AZ I (i+xs.length) ys ds->AZ I i (xs++ys) (cs++ds)
 | _,[],_,_,_,h,k=>by cases h;exact k
 | i,_::xs,_,_,ds,⟨c,d,e,r,l⟩,k=>by
  subst e;exact⟨c,d++ds,Aw4 ..,r,l.append (by rw[List.length_cons] at k;rw[show i+1+xs.length=i+(xs.length+1) by omega];exact k)⟩
theorem BK.len{s:Nat}(h:∀x c,R x c->c.length=s):∀{xs cs},BK R xs cs->cs.length=xs.length*s
 | [],_,hc=>by cases hc;simp
 | _::xs,_,⟨c,d,e,r,l⟩=>by
  have h1:=h _ _ r;have h2:=l.len h;rw[e,Aw0,h1,h2,List.length_cons,Nat.add_mul,Nat.one_mul,Nat.add_comm]
theorem AZ.len{s:Nat}(h:∀i x c,I i x c->c.length=s){i xs cs}(l:AZ I i xs cs):cs.length=xs.length*s :=
 BK.len (R:=λx c=>∃i,I i x c) (λx c ⟨i,r⟩=>h i x c r) (l.toR λi _ _ r=>⟨i,r⟩)
theorem AZ.at_ {s:Nat} (hs:∀i x c,I i x c->c.length=s):∀{j i xs cs},AZ I j xs cs->(hi:i<xs.length) ->
    ∃c0 c d,cs=c0++c++d/\c0.length=i*s/\I (j+i) xs[i] c/\AZ I j (xs.take i) c0/\AZ I (j+i+1) (xs.drop (i+1)) d
 | j,0,x::xs,_,⟨c,d,e,r,l⟩,_=>⟨[],c,d,e,by simp,r,rfl,l⟩
 | j,i+1,x::xs,_,⟨c,d,e,r,l⟩,hi=>by
  obtain⟨c0,c1,d1,e1,hl,hr,ht,hd⟩:=l.at_ hs (i:=i) (by simpa using hi);refine⟨c++c0,c1,d1,by rw[e,e1,Aw4,Aw4,Aw4],?_,?_,⟨c,c0,rfl,r,?_⟩,?_⟩
  ·rw[Aw0,hs _ _ _ r,hl,Nat.add_mul,Nat.one_mul,Nat.add_comm]
  ·rw[show j+(i+1)=j+1+i by omega];exact hr
  ·exact ht
  ·rw[show j+(i+1)+1=j+1+i+1 by omega];exact hd
theorem AZ.join:∀{j i:Nat} {xs:List α} {c0 c d:List Value} {x:α},i<xs.length->AZ I j (xs.take i) c0->I (j+i) x c->AZ I (j+i+1) (xs.drop (i+1)) d->AZ I j (xs.set i x) (c0++c++d)
 | j,0,_::xs,c0,c,d,x,_,ht,hr,hd=>by cases ht;exact⟨c,d,rfl,hr,hd⟩
 | j,i+1,y::xs,_,c,d,x,hi,⟨c1,c2,e,r,l⟩,hr,hd=>by
  subst e;refine⟨c1,c2++c++d,by simp only[Aw4],r,?_⟩;exact AZ.join (by simpa using hi) l (by rw[show j+1+i=j+(i+1) by omega];exact hr) (by rw[show j+1+i+1=j+(i+1)+1 by omega];exact hd)
theorem Lu:∀{j xs cs},BK R xs cs↔AZ (λ_=>R) j xs cs
 | _,[],_=>Iff.rfl
 | _,_::_,_=>⟨λ⟨c,d,e,r,l⟩=>⟨c,d,e,r,Lu.1 l⟩,λ⟨c,d,e,r,l⟩=>⟨c,d,e,r,Lu.2 l⟩⟩
theorem BK.at_ {s:Nat} (hs:∀x c,R x c->c.length=s) {i xs cs} (l:BK R xs cs) (hi:i<xs.length) :
    ∃c0 c d,cs=c0++c++d/\c0.length=i*s/\R xs[i] c/\BK R (xs.take i) c0/\BK R (xs.drop (i+1)) d:=by
 obtain⟨c0,c,d,e,hl,hr,ht,hd⟩:=AZ.at_ (I:=λ_=>R) (λ_ x c=>hs x c) (Lu (j:=0).1 l) hi;exact⟨c0,c,d,e,hl,hr,Lu.2 ht,Lu.2 hd⟩
theorem BK.join{i:Nat}{xs:List α}{c0 c d:List Value}{x:α}(hi:i<xs.length)(ht:BK R (xs.take i) c0)(hr:R x c)(hd:BK R (xs.drop (i+1)) d):BK R (xs.set i x) (c0++c++d) :=
 Lu (j:=0).2 (AZ.join hi (Lu.1 ht) hr (Lu.1 hd))
theorem AZ.takeN{s:Nat}(hs:∀i x c,I i x c->c.length=s):∀{j xs cs} (n:Nat),AZ I j xs cs->AZ I j (xs.take n) (cs.take (n*s))
 | _,[],_,n,h=>by cases h;simp[AZ]
 | _,_::_,_,0,_=>by simp[AZ]
 | j,x::xs,_,n+1,⟨c,d,e,r,l⟩=>by
  subst e;have hc:=hs _ _ _ r;refine⟨c,d.take (n*s),?_,r,l.takeN hs n⟩;rw[List.take_append,hc,Aw6 (by rw[hc,Nat.add_mul];omega),show(n+1)*s-s=n*s by rw[Nat.add_mul,Nat.one_mul];omega]
theorem BK.takeN{s:Nat}(hs:∀x c,R x c->c.length=s){xs cs}(n:Nat)(l:BK R xs cs):BK R (xs.take n) (cs.take (n*s)) :=
 Lu (j:=0).2 (AZ.takeN (λ_ x c=>hs x c) n (Lu.1 l))
theorem BK.Ad9{s:Nat}(hs:∀x c,R x c->c.length=s):∀{xs cs} (n:Nat),BK R xs cs->BK R (xs.drop n) (cs.drop (n*s))
 | [],_,n,h=>by cases h;simp[BK]
 | _::_,_,0,h=>by simpa using h
 | x::xs,_,n+1,⟨c,d,e,r,l⟩=>by
  subst e;have hc:=hs _ _ r;have h1:List.drop ((n+1)*s) c=[]:=List.drop_of_length_le (by rw[hc,Nat.add_mul];omega);rw[List.drop_append,hc,h1,List.nil_append,show(n+1)*s-s=n*s by rw[Nat.add_mul,Nat.one_mul];omega,List.drop_succ_cons];exact l.Ad9 hs n
end
end Go.Va
