import GoSem.Step
import Derived.Calls
import Derived.Orders
import Derived.Below
import Derived.Laws.AppendOwn
import Derived.Laws.MakeOwn
import Derived.Laws.CopyRow
import Derived.Laws.Tables
import Derived.Deep.MidRow
import Derived.Laws.Small
import Derived.Laws.Cells
import Derived.Laws.BytesArg
import Derived.Great.FillDense
import Derived.Great.BuildSlice
import Derived.Deep.AppendSrc
set_option linter.unusedVariables false
set_option linter.unusedSimpArgs false
namespace Go.Va
abbrev AyZ:=List
abbrev Ay0:=Option
abbrev Av9:=@Option.bind_some
abbrev Awa:=@Int.toNat_natCast
abbrev Awb:=@Option.some.injEq
abbrev Awc:=@decide_eq_false
abbrev Awd:=@List.length_append
abbrev Awe:=@decide_eq_true
abbrev Awf:=@Nat.le_refl
abbrev Awg:=@Bool.and_eq_true
abbrev Awh:=@List.append_assoc
abbrev Awi:=@List.length_set
abbrev Awj:=@List.take_of_length_le
abbrev Awk:=@Nat.lt_or_ge
abbrev Awl:=@List.length_map
abbrev Awm:=@Prod.mk.injEq
abbrev Awn:=@Array.getElem?_toList
abbrev Awo:=@cond_false
abbrev Awp:=@cond_true
abbrev Awq:=@Option.bind_assoc
abbrev Awr:=@if_pos
abbrev Aws:=@if_neg
abbrev Awt:=@List.length_singleton
abbrev Awu:=@List.length_take
abbrev Awv:=@List.getElem?_append_right
abbrev Aww:=@List.getElem?_append_left
abbrev Awx:=@Nat.eq_zero_or_pos
abbrev Awy:=@List.getElem?_set
abbrev Awz:=@List.getElem?_append
abbrev AwA:=@List.mem_singleton
abbrev AwB:=@List.mem_cons_of_mem
abbrev AwC:=@List.getElem?_map
abbrev AwD:=@Nat.le_trans
abbrev AwE:=@List.mem_cons_self
abbrev AwF:=@Nat.zero_add
abbrev AwG:=@List.length_replicate
abbrev AwH:=@List.mem_append_left
abbrev AwI:=@List.mem_append_right
abbrev AwJ:=@List.length_drop
abbrev AwK:=@Nat.le_succ
abbrev AwL:=@Nat.lt_of_lt_of_le
abbrev AwM:=@Nat.add_sub_cancel
abbrev AwN:=@List.getElem?_eq_none
abbrev AwO:=@List.append_nil
abbrev AwP:=@Nat.lt_succ_self
abbrev AwQ:=@List.length_range
abbrev AwR:=@List.getElem_mem
abbrev AwS:=@if_true
abbrev AwT:=@Bool.not_true
abbrev AwU:=@List.map_cons
abbrev AwV:=@decide_eq_false_iff_not
abbrev AwW:=@Nat.zero_le
abbrev AwX:=@Bool.false_eq_true
abbrev AwY:=@List.map_append
abbrev AwZ:=@Option.bind_eq_some_iff
abbrev Aw0:=@Array.getElem?_eq_getElem
abbrev Aw1:=@Array.getD_eq_getD_getElem?
abbrev Aw2:=@Bool.decide_and
abbrev Aw3:=@List.eq_nil_of_length_eq_zero
abbrev Aw4:=@Array.length_toList
abbrev Aw5:=@List.map_congr_left
abbrev Aw6:=@Nat.mul_le_mul_right
abbrev Aw7:=@Nat.add_assoc
abbrev Aw8:=@List.mem_of_mem_take
abbrev Aw9:=@List.getElem?_take
abbrev Axa:=@List.eq_nil_or_concat
abbrev Axb:=@List.concat_eq_append
abbrev Axc:=@decide_eq_true_eq
abbrev Axd:=@List.getD_cons_zero
abbrev Axe:=@List.nil_append
abbrev Axf:=@Bool.or_eq_false_iff
abbrev Axg:=@List.length_cons
abbrev Axh:=@Sum.elim_inr
abbrev Axi:=@List.ext_getElem?
abbrev Axj:=@beq_iff_eq
abbrev Axk:=@List.getElem?_eq_getElem
abbrev Axl:=@List.ext_getElem
abbrev Axm:=@List.mem_cons
abbrev Axn:=@List.mem_of_getElem?
abbrev Axo:=@if_false
abbrev Axp:=@Bool.not_eq_true'
abbrev Axq:=@List.range_succ
abbrev Axr:=@List.length_flatten
abbrev Axs:=@List.take_append_drop
abbrev Axt:=@List.set_append_right
abbrev Axu:=@Array.getElem?_modify
abbrev Axv:=@Bool.and_eq_false_iff
abbrev Axw:=@List.mem_or_eq_of_mem_set
abbrev Axx:=@Array.getElem?_setIfInBounds_ne
abbrev Axy:=@Nat.add_mul
abbrev Axz:=@List.mem_append
abbrev AxA:=@List.mem_of_mem_drop
abbrev AxB:=@Int.mul_le_mul_of_nonneg_left
abbrev AxC:=@List.getElem_of_mem
abbrev AxD:=@List.not_mem_nil
abbrev AxE:=@decide_eq_decide
abbrev AxF:=@List.sum_replicate_nat
abbrev AxG:=@Nat.pos_of_ne_zero
abbrev AxH:=@Sum.elim_inl
abbrev AxI:=@List.map_replicate
abbrev AxJ:=@Bool.or_eq_true
abbrev AxK:=@List.cons.injEq
abbrev AxL:=@Int.tdiv_eq_ediv_of_nonneg
abbrev AxM:=@Int.tmod_eq_emod_of_nonneg
abbrev AxN:=@List.foldl_append
abbrev AxO:=@Int.le_refl
abbrev AxP:=@List.take_left
abbrev AxQ:=@List.eq_of_mem_replicate
abbrev AxR:=@List.cons_append
abbrev AxS:=@bne_eq_false_iff_eq
abbrev AxT:=@List.flatMap_append
abbrev AxU:=@Nat.le_mul_of_pos_right
abbrev AxV:=@Bool.true_and
abbrev AxW:=@List.length_nil
abbrev AxX:=@List.size_toArray
abbrev AxY:=@List.map_map
abbrev AxZ:=@List.getElem?_set_ne
abbrev Ax0:=@List.sum_cons
inductive Ty where
 |int (k:IntKind)|bool |str |unit |AH (a b:Ty)|sl (t:Ty)|O3 (z:Nat)
 deriving DecidableEq
@[reducible] def Ty.V:Ty->Type
 |.int _=>Int
 |.bool=>Bool
 |.str=>ByteArray
 |.unit=>Unit
 |.AH a b=>a.V×b.V
 |.sl t=>List t.V
 |.O3 _=>Unit
def Ty.zero:(t:Ty)->t.V
 |.int _=>0
 |.bool=>false
 |.str=>⟨#[]⟩
 |.unit=>()
 |.AH a b=>(a.zero,b.zero)
 |.sl _=>[]
 |.O3 _=>()
def Ty.size:Ty->Nat
 |.unit=>0
 |.AH a b=>a.size+b.size
 |_=>1
def Ty.Bu:Ty->Bool
 |.sl _=>false
 |.O3 _=>false
 |.AH a b=>a.Bu&&b.Bu
 |_=>true
def Ty.data:Ty->Bool
 |.O3 _=>false
 |.AH a b=>a.data&&b.data
 |.sl t=>t.data
 |_=>true
def Ty.isAgg:Ty->Bool
 |.unit=>true
 |.AH _ _=>true
 |_=>false
def G2(t u:Ty)(x:t.V):Ay0 u.V:=if h:t=u then some (h▸x)else none
inductive AV where
 |Aw (ks:List Nat) (t:Ty) (x:t.V)
 |zs
 |AA (k:Nat)
 |ptr (k:Nat) (i:Int) (p:List Nat) (o:Nat)
 |D7 (ks:List Nat) (t:Ty) (x:t.V)
 |JH
 |pr (a b:AV)
 |fn (f:Nat) (UD:AV)
 |cons (a b:AV)
 |nil
 |O1 (k:Nat) (i:Int) (p:List Nat) (o e:Nat)
 |QF (k:Nat) (i:Int) (p:List Nat) (o:Nat) (j:Int) (u:Ty)
 |mp (k:Nat)
 |un (n:Nat)
inductive RM where
 |Ao |sh (ks:List Nat)
inductive Blk where
 |box (a:AV)
 |row (e:Nat) (m:RM) (t:Ty) (xs:List t.V)
 |map (m:RM) (kt vt:Ty) (es:List (kt.V×vt.V)) (st:Option kt.V)
 |Nh (e:Nat) (t:Ty) (xs:List t.V) (i:Int) (p:List Nat)
 |tail (e:Nat) (t:Ty) (xs:List t.V)
 |Be
def AV.size:AV->Nat
 |.Aw _ t _=>t.size
 |.pr a b=>a.size+b.size
 |.un n=>n
 |_=>1
def AV.isAgg:AV->Bool
 |.Aw _ t _=>t.isAgg
 |.pr _ _=>true
 |_=>false
@[reducible] def AV.int (k:IntKind) (n:Int):AV:=.Aw [] (.int k) n
@[reducible] def AV.bool (b:Bool):AV:=.Aw [] .bool b
@[reducible] def AV.str (s:ByteArray):AV:=.Aw [] .str s
@[reducible] def AV.u:AV:=.Aw [] .unit ()
def Ty.Uv:Ty->AV
 |.AH a b=>.pr a.Uv b.Uv
 |.sl _=>.zs
 |.O3 0=>.JH
 |.O3 _=>.un 1
 |.int k=>.Aw [] (.int k) (0:Int)
 |.bool=>.Aw [] .bool false
 |.str=>.Aw [] .str ⟨#[]⟩
 |.unit=>.Aw [] .unit ()
def UO(ks:AyZ Nat)(t:Ty):AyZ Nat:=if t.Bu then[]else ks
def Si(ks:AyZ Nat):(t:Ty)->t.V->Nat->Ay0 AV
 |.AH a _,x,0=>some (.Aw (UO ks a) a x.1)
 |.AH _ b,x,n+1=>Si ks b x.2 n
 |_,_,_=>none
def AV.U6:AV->Nat->Ay0 AV
 |.Aw ks t x,n=>Si ks t x n
 |.pr a _,0=>some a
 |.pr _ b,n+1=>b.U6 n
 |_,_=>none
def PK:Ty->Nat->Ay0 Nat
 |.AH _ _,0=>some 0
 |.AH a b,n+1=>match PK b n with |some o=>some (a.size+o)|none=>none
 |_,_=>none
def AV.off:AV->Nat->Ay0 Nat
 |.Aw _ t _,n=>PK t n
 |.pr _ _,0=>some 0
 |.pr a b,n+1=>match b.off n with |some o=>some (a.size+o)|none=>none
 |_,_=>none
def Z8:Ty->Nat->Ay0 Ty
 |.AH a _,0=>some a
 |.AH _ b,n+1=>Z8 b n
 |_,_=>none
def vX:Ty->AyZ Nat->Ay0 Ty
 |t,[]=>some t
 |t,f::p=>match Z8 t f with |some u=>vX u p |none=>none
def IP:Ty->AyZ Nat->Ay0 Nat
 |_,[]=>some 0
 |t,f::p=>match Z8 t f,PK t f with
  |some u,some o=>match IP u p with |some o'=>some (o+o')|none=>none
  |_,_=>none
def il(ks:AyZ Nat):(t:Ty)->t.V->Nat->AV->Ay0 AV
 |.AH _ b,x,0,v=>some (.pr v (.Aw (UO ks b) b x.2))
 |.AH a b,x,n+1,v=>match il ks b x.2 n v with |some r=>some (.pr (.Aw (UO ks a) a x.1) r)|none=>none
 |_,_,_,_=>none
def AV.OH:AV->Nat->AV->Ay0 AV
 |.Aw ks t x,n,v=>il ks t x n v
 |.pr _ b,0,v=>some (.pr v b)
 |.pr a b,n+1,v=>match b.OH n v with |some r=>some (.pr a r)|none=>none
 |_,_,_=>none
def AV.Qz:AV->AyZ Nat->Ay0 AV
 |a,[]=>some a
 |a,f::p=>match a.U6 f with |some b=>b.Qz p |none=>none
def AV.po:AV->AyZ Nat->Ay0 Nat
 |_,[]=>some 0
 |a,f::p=>match a.U6 f,a.off f with
  |some b,some o=>match b.po p with |some o'=>some (o+o')|none=>none
  |_,_=>none
def AV.U1:AV->AyZ Nat->AV->Ay0 AV
 |_,[],v=>some v
 |a,f::p,v=>match a.U6 f with
  |some b=>match b.U1 p v with |some r=>a.OH f r |none=>none
  |none=>none
def NA:(t:Ty)->t.V->Nat->(∀u:Ty,u.V->Ay0 u.V)->Ay0 t.V
 |.AH a _,x,0,f=>match f a x.1 with |some y=>some (y,x.2)|none=>none
 |.AH _ b,x,n+1,f=>match NA b x.2 n f with |some y=>some (x.1,y)|none=>none
 |_,_,_,_=>none
def Oj(u:Ty)(y:u.V):(p:AyZ Nat)->(t:Ty)->t.V->Ay0 t.V
 |[],t,_=>G2 u t y
 |f::p,t,x=>NA t x f (λt' x'=>Oj u y p t' x')
def AV.BX:AV->AyZ Nat
 |.Aw ks _ _=>ks
 |.D7 ks _ _=>ks
 |.AA k=>[k]
 |.ptr k _ _ _=>[k]
 |.O1 k _ _ _ _=>[k]
 |.QF k _ _ _ _ _=>[k]
 |.mp k=>[k]
 |.pr a b=>a.BX++b.BX
 |.fn _ c=>c.BX
 |.cons a b=>a.BX++b.BX
 |_=>[]
def AV.N9:AV->AyZ Nat
 |.Aw ks _ _=>ks
 |.D7 ks _ _=>ks
 |.O1 k _ _ _ _=>[k]
 |.QF k _ _ _ _ _=>[k]
 |.pr a b=>a.N9++b.N9
 |.fn _ c=>c.N9
 |.cons a b=>a.N9++b.N9
 |_=>[]
def RM.BX:RM->AyZ Nat
 |.Ao=>[]
 |.sh ks=>ks
def Blk.BX:Blk->AyZ Nat
 |.box a=>a.BX
 |.row _ m _ _=>m.BX
 |.map m _ _ _ _=>m.BX
 |.Nh _ _ _ _ _=>[]
 |.tail _ _ _=>[]
 |.Be=>[]
def Blk.N9:Blk->AyZ Nat
 |.box a=>a.N9
 |.row _ m _ _=>m.BX
 |.map m _ _ _ _=>m.BX
 |.Nh _ _ _ _ _=>[]
 |.tail _ _ _=>[]
 |.Be=>[]
def AV.K3(f:Nat->Nat):AV->AV
 |.Aw ks t x=>.Aw (ks.map f) t x
 |.D7 ks t x=>.D7 (ks.map f) t x
 |.AA k=>.AA (f k)
 |.ptr k i p o=>.ptr (f k) i p o
 |.O1 k i p o e=>.O1 (f k) i p o e
 |.QF k i p o j u=>.QF (f k) i p o j u
 |.mp k=>.mp (f k)
 |.pr a b=>.pr (a.K3 f) (b.K3 f)
 |.fn g c=>.fn g (c.K3 f)
 |.cons a b=>.cons (a.K3 f) (b.K3 f)
 |.zs=>.zs
 |.JH=>.JH
 |.nil=>.nil
 |.un n=>.un n
def RM.K3(f:Nat->Nat):RM->RM
 |.Ao=>.Ao
 |.sh ks=>.sh (ks.map f)
def Blk.K3(f:Nat->Nat):Blk->Blk
 |.box a=>.box (a.K3 f)
 |.row e m t xs=>.row e (m.K3 f) t xs
 |.map m kt vt es st=>.map (m.K3 f) kt vt es st
 |.Nh e t xs i p=>.Nh e t xs i p
 |.tail e t xs=>.tail e t xs
 |.Be=>.Be
def UC(n:Nat)(ks:AyZ Nat):AyZ Nat:=(List.range n).filter λk=>ks.contains k
def AV.C8(n:Nat):AV->AV
 |.Aw ks t x=>.Aw (UC n ks) t x
 |.D7 ks t x=>.D7 (UC n ks) t x
 |.pr a b=>.pr (a.C8 n) (b.C8 n)
 |.fn f c=>.fn f (c.C8 n)
 |.cons a b=>.cons (a.C8 n) (b.C8 n)
 |a=>a
def Blk.C8(n:Nat):Blk->Blk
 |.box a=>.box (a.C8 n)
 |.row e (.sh ks) t xs=>.row e (.sh (UC n ks)) t xs
 |.map (.sh ks) kt vt es st=>.map (.sh (UC n ks)) kt vt es st
 |b=>b
def AV.drop(RU:Nat->Bool):AV->AV
 |.Aw ks t x=>if ks.any RU then .un t.size else .Aw ks t x
 |.D7 ks t x=>if ks.any RU then .un 1 else .D7 ks t x
 |.O1 k i p o e=>if RU k then .un 1 else .O1 k i p o e
 |.QF k i p o j u=>if RU k then .un 1 else .QF k i p o j u
 |.pr a b=>.pr (a.drop RU) (b.drop RU)
 |.fn g c=>.fn g (c.drop RU)
 |.cons a b=>.cons (a.drop RU) (b.drop RU)
 |a=>a
def Blk.drop(RU:Nat->Bool):Blk->Blk
 |.box a=>.box (a.drop RU)
 |.row e m t xs=>if m.BX.any RU then .Be else .row e m t xs
 |.map m kt vt es st=>if m.BX.any RU then .Be else .map m kt vt es st
 |.Nh e t xs i p=>.Nh e t xs i p
 |.tail e t xs=>.tail e t xs
 |.Be=>.Be
structure St where
 Az:List AV
 Ag:List Blk
structure F1 where
 val:AV
 Ag:List Blk
 Bg:List Nat
structure TI where
 ty:Ty
 Rb:List Nat
 elem:Nat
 bytes:Nat
 FK:Nat:=0
 Lf:Nat:=0
 eqs:Bool:=false
def TI.Da(ti:TI):Bool:=match ti.ty with |.sl _=>true |_=>false
abbrev lA:=List (Nat×TI)
def lA.get:lA->Nat->Ay0 TI
 |[],_=>none
 |(k,i)::r,t=>if k==t then some i else lA.get r t
inductive PM where
 |d (t:Ty)|p (t:Ty)|Sm
structure Callee where
 bn:List PM
 run:(R:Type)->List AV->List Blk->(AV->List Blk->Option R)->Option R
 oO:List Nat:=[]
inductive Co where
 |row (p:List Nat) (e:Nat) (t:Ty) (Ao:Bool)
 |Aw (t:Ty)
 |Xt (ks:List Nat)
structure SH where
 Bb:List Nat
 mv:List Nat:=[]
 Ph:List (Nat×Bool×Ty):=[]
 Cy:List (Nat×Bool×Co):=[]
 wid:List (Nat×List Nat):=[]
 post:List (Nat×Bool×Co):=[]
 mvp:List (Nat×List Nat):=[]
 PO:Bool:=false
 qx:List Nat:=[]
inductive Fi where
 |co (k:Nat) (c:Co)|mv (k:Nat) (p:List Nat)|Be (j:Nat)|mvs (s:Nat) (p:List Nat)
structure FI where
 Ao:Bool:=true
 take:List Nat:=[]
 AdD:List (Nat×Nat):=[]
 Bv:List (Nat×SH):=[]
 CM:List (Nat×SH):=[]
 B5:List (Nat×SH):=[]
 Vv:List (Nat×SH):=[]
 EO:List (Nat×List Nat):=[]
 ApX:List (Nat×List (Nat×List (List Nat)×Co)):=[]
 Sl:List Fi:=[]
 W5:List (Nat×List Nat):=[]
 sY:List (Nat×Ty):=[]
 Aos:List Nat:=[]
 Ph:List (Nat×Ty):=[]
 jo:List (Nat×Co):=[]
 stl:List Nat:=[]
structure Fe where
 C6:lA
 yu:Nat->Option Callee
 fi:FI
def cy:Value->AV
 |.int k n=>.int k n
 |.bool b=>.bool b
 |.string s=>.str s
 |.slice none 0 0=>.zs
 |.pointer none=>.JH
 |_=>.un 0
def St.BP(σ:St):Operand->AV
 |.tmp t=>(σ.Az[t]?).getD (.un 0)
 |.const v=>cy v
 |.func f=>.fn f .nil
 |_=>.un 0
def AV.Vd:AV->AV
 |.O1 _ _ _ _ _=>.un 1
 |.QF _ _ _ _ _ _=>.un 1
 |.pr a b=>.pr a.Vd b.Vd
 |.fn f c=>.fn f c.Vd
 |.cons a b=>.cons a.Vd b.Vd
 |a=>a
def Blk.Vd:Blk->Blk
 |.box a=>.box a.Vd
 |b=>b
def AV.Wy:AV->Bool
 |.O1 _ _ _ _ _=>true
 |.QF _ _ _ _ _ _=>true
 |.pr a b=>a.Wy||b.Wy
 |.fn _ c=>c.Wy
 |.cons a b=>a.Wy||b.Wy
 |_=>false
def Blk.Wy:Blk->Bool
 |.box a=>a.Wy
 |_=>false
def Blk.Eu(bs:AyZ Blk):AyZ Nat->AyZ Blk
 |[]=>bs
 |k::r=>Blk.Eu (bs.set k .Be) r
def Pr(Bg:AyZ Nat)(sl:AyZ AV):AyZ AV:=match Bg with |[]=>sl |m::ms=>sl.map (·.drop λk=>(m::ms).contains k)
def A0(Bg:AyZ Nat)(bs:AyZ Blk):AyZ Blk:=match Bg with |[]=>bs |m::ms=>bs.map (·.drop λk=>(m::ms).contains k)
def Z1(Bg:AyZ Nat)(m:RM):Bool:=m.BX.all λk=>!Bg.contains k
def T8(d:Ay0 Nat)(v:AV)(sl:AyZ AV):AyZ AV:=match d with |some d=>sl.set d v |none=>sl
def St.after(σ:St)(d:Ay0 Nat)(e:F1):St:={Az:=T8 d e.val (Pr e.Bg σ.Az),Ag:=e.Ag}
def AV.Cz:AV->Bool
 |.cons _ _=>true
 |.nil=>true
 |_=>false
def AV.WY:AV->Bool
 |.un _=>false
 |.cons _ _=>false
 |.nil=>false
 |_=>true
def rd(bs:AyZ Blk):(t:Ty)->AV->Ay0 t.V
 |.AH a b,av=>match av with
  |.Aw _ t x=>G2 t (.AH a b) x
  |.pr u v=>match rd bs a u,rd bs b v with |some x,some y=>some (x,y)|_,_=>none
  |_=>none
 |.sl t,av=>match av with
  |.Aw _ u x=>G2 u (.sl t) x
  |.zs=>some []
  |.AA k=>match bs[k]? with |some (.row _ _ u xs)=>G2 (.sl u) (.sl t) xs |_=>none
  |_=>none
 |t,av=>match av with |.Aw _ u x=>G2 u t x |_=>none
def atB(bs:AyZ Blk)(k:Nat)(i:Int):Ay0 AV:=match bs[k]? with
 |some (.box a)=>some a
 |some (.row _ m t xs)=>some (.Aw (UO (match m with |.Ao=>[k]|.sh ks=>ks) t) t (xs.getD i.toNat t.zero))
 |_=>none
def wL(bs:AyZ Blk)(k:Nat)(i:Int)(p:AyZ Nat)(o:Nat):Ay0 AV:=match atB bs k i with
 |some a=>if a.po p=some o then a.Qz p else none
 |none=>none
def AV.Ni:AV->AyZ Nat
 |.AA k=>[k]
 |.pr a b=>a.Ni++b.Ni
 |_=>[]
def AV.Xt:AV->AyZ Nat
 |.Aw ks _ _=>ks
 |.pr a b=>a.Xt++b.Xt
 |_=>[]
def AV.SJ:AV->Bool
 |.Aw _ t _=>t.Bu
 |.zs=>true
 |.AA _=>true
 |.pr a b=>a.SJ&&b.SJ
 |_=>false
def Ty.row(t:Ty):Bool:=t.data&&t.size !=0
def V0(bs:AyZ Blk)(k:Nat):Ay0 RM:=match bs[k]? with |some (.row _ m _ _)=>some m |_=>none
def AV.PD(bs:AyZ Blk):AV->AyZ Nat
 |.Aw ks _ _=>ks
 |.AA k=>k::(match V0 bs k with |some m=>m.BX |none=>[])
 |.pr a b=>a.PD bs++b.PD bs
 |_=>[]
def nodup:AyZ Nat->Bool
 |[]=>true
 |k::r=>!r.contains k&&nodup r
def take(bs:AyZ Blk)(m:RM)(t:Ty)(v:AV):Ay0 (t.V×RM×AyZ Nat) :=
 match rd bs t v with
 |none=>none
 |some y =>
  let rs:=v.Ni
  match m with
  |.Ao=>if v.SJ&&nodup rs&&rs.all (λk=>match V0 bs k with |some .Ao=>true |_=>false)then some (y,.Ao,rs)else none
  |.sh ks=>if nodup rs&&rs.all (λk=>(V0 bs k).isSome)then
      some (y,.sh (ks++v.Xt++rs.flatMap (λk=>match V0 bs k with |some (.sh l)=>l |_=>[])),rs)else none
def AcO{A:Type}:(t:Ty)->t.V->Nat->(∀u:Ty,u.V->Ay0 A)->Ay0 A
 |.AH a _,x,0,f=>f a x.1
 |.AH _ b,x,n+1,f=>AcO b x.2 n f
 |_,_,_,_=>none
def Yy(u:Ty):(p:AyZ Nat)->(t:Ty)->t.V->Ay0 u.V
 |[],t,x=>G2 t u x
 |f::p,t,x=>AcO t x f (λt' x'=>Yy u p t' x')
def Ty.Dc:Ty->Bool
 |.int _=>true
 |.str=>true
 |.AH (.int _) (.AH (.int _) .unit)=>true
 |_=>false
def KL(s t:ByteArray):Bool:=s.toList==t.toList
def Bq:(t:Ty)->t.V->t.V->Bool
 |.int _,x,y=>x==y
 |.str,x,y=>KL x y
 |.AH a b,x,y=>Bq a x.1 y.1&&Bq b x.2 y.2
 |.unit,_,_=>true
 |_,_,_=>false
def Mk:(t:Ty)->t.V->t.V->Bool
 |.int _,x,y=>x==y
 |.bool,x,y=>x==y
 |.str,x,y=>KL x y
 |.AH a b,x,y=>Mk a x.1 y.1&&Mk b x.2 y.2
 |.unit,_,_=>true
 |_,_,_=>false
def Nn(kt vt:Ty):AyZ (kt.V×vt.V)->kt.V->Ay0 vt.V
 |[],_=>none
 |x::r,k=>bif Bq kt k x.1 then some x.2 else Nn kt vt r k
def Cx(kt vt:Ty)(es:AyZ (kt.V×vt.V))(k:kt.V):vt.V:=(Nn kt vt es k).getD vt.zero
def WJ(kt vt:Ty)(es:AyZ (kt.V×vt.V))(k:kt.V):Bool:=(Nn kt vt es k).isSome
def Sk(kt vt:Ty):AyZ (kt.V×vt.V)->kt.V->Nat
 |[],_=>0
 |x::r,k=>bif Bq kt k x.1 then 0 else Sk kt vt r k+1
def R6(kt vt:Ty)(es:AyZ (kt.V×vt.V))(k:kt.V):Int:=Int.ofNat (Sk kt vt es k)
def QV(kt vt:Ty)(es:AyZ (kt.V×vt.V))(k:kt.V)(n:Int):Bool:=n==R6 kt vt es k&&WJ kt vt es k
def Dv(kt vt:Ty):AyZ (kt.V×vt.V)->kt.V->vt.V->AyZ (kt.V×vt.V)
 |[],k,v=>[(k,v)]
 |x::r,k,v=>bif Bq kt k x.1 then(k,v)::r else x::Dv kt vt r k v
def FI.mode(fi:FI)(t:Ty):RM:=if t.Bu||fi.Ao then .Ao else .sh []
def Ju(k:IntKind)(x y:Int):Int:=x.fdiv (2^(min y.toNat k.bits))
def KW(k:IntKind)(x y:Int):Int:=k.wrap (x*2^(min y.toNat k.bits))
def Se(k:IntKind)(x y:Int):Int:=k.wrap (BitVec.ofInt k.bits x &&& BitVec.ofInt k.bits y).toNat
def Xe(k:IntKind)(x y:Int):Int:=k.wrap (BitVec.ofInt k.bits x ||| BitVec.ofInt k.bits y).toNat
def AdT(k:IntKind)(x y:Int):Int:=k.wrap (BitVec.ofInt k.bits x ^^^ BitVec.ofInt k.bits y).toNat
def lC(k:IntKind)(x y:Int):Int:=k.wrap (BitVec.ofInt k.bits x &&& ~~~ BitVec.ofInt k.bits y).toNat
def strLt(s t:ByteArray):Bool:=Op.bytesLess s.toList t.toList
def Cm(s:ByteArray)(i:Int):Int:=((s[i.toNat]?).getD 0).toNat
section
variable {R:Type}
def ck(op:BinOp)(tb:Bool):AV->AV->(AV->Ay0 R)->Ay0 R
 |.Aw _ (.int k) x,.Aw _ (.int k') y,K =>
  match op with
  |.shl=>if y<0 then none else K (.int k (KW k x y))
  |.shr=>if y<0 then none else K (.int k (Ju k x y))
  |op=>if k=k' then match op with
   |.add=>K (.int k (k.wrap (x+y)))
   |.sub=>K (.int k (k.wrap (x-y)))
   |.mul=>K (.int k (k.wrap (x*y)))
   |.quo=>if y=0 then none else K (.int k (k.wrap (x.tdiv y)))
   |.rem=>if y=0 then none else K (.int k (x.tmod y))
   |.and=>K (.int k (Se k x y))
   |.or=>K (.int k (Xe k x y))
   |.xor=>K (.int k (AdT k x y))
   |.andNot=>K (.int k (lC k x y))
   |.eql=>K (.bool (x==y))
   |.neq=>K (.bool (x !=y))
   |.lss=>K (.bool (decide (x<y)))
   |.leq=>K (.bool (decide (x<=y)))
   |.gtr=>K (.bool (decide (x>y)))
   |.geq=>K (.bool (decide (x>=y)))
   |_=>none
   else none
 |.Aw _ .str x,.Aw _ .str y,K =>
  match op with
  |.add=>if x.size+y.size<=9223372036854775807 then K (.str (x++y))else none
  |.eql=>K (.bool (KL x y))
  |.neq=>K (.bool (!KL x y))
  |.lss=>K (.bool (strLt x y))
  |.leq=>K (.bool (strLt x y||KL x y))
  |.gtr=>K (.bool (!(strLt x y||KL x y)))
  |.geq=>K (.bool (!strLt x y))
  |_=>none
 |.Aw _ .bool x,.Aw _ .bool y,K=>if tb then
  match op with
  |.eql=>K (.bool (x==y))
  |.neq=>K (.bool (!(x==y)))
  |_=>none
  else none
 |_,_,_=>none
def zI(op:UnOp):AV->(AV->Ay0 R)->Ay0 R
 |.Aw _ .bool b,K=>match op with |.not=>K (.bool (!b))|_=>none
 |.Aw _ (.int k) n,K=>match op with
  |.neg=>K (.int k (k.wrap (0-n)))
  |.xor=>K (.int k (AdT k (if k.signed then -1 else k.max) n))
  |_=>none
 |_,_=>none
def dp(bs:AyZ Blk)(ti:TI):AV->(AV->Ay0 R)->Ay0 R
 |.Aw _ (.sl _) xs,K=>if ti.Da then K (.int .i64 (xs.length:Int))else none
 |.Aw _ .str s,K=>if ti.ty=.str then K (.int .i64 (s.size:Int))else none
 |.zs,K=>if ti.Da then K (.int .i64 0)else none
 |.AA k,K=>match bs[k]? with
  |some (.row _ _ _ xs)=>if ti.Da then K (.int .i64 (xs.length:Int))else none
  |some (.Nh _ _ xs _ _)=>if ti.Da then K (.int .i64 (xs.length:Int))else none
  |_=>none
 |_,_=>none
def qq(mx:Bool):AV->AV->(AV->Ay0 R)->Ay0 R
 |.Aw _ (.int k) x,.Aw _ (.int k') y,K=>if k=k' then K (.int k (if mx then(if y>x then y else x)else(if y<x then y else x)))else none
 |_,_,_=>none
def j9(bs:AyZ Blk)(te:Ty):AV->AV->(AV->Ay0 R)->Ay0 R
 |.Aw ks (.sl t) xs,.Aw _ (.int _) i,K=>if t=te then if 0<=i/\i<(xs.length:Int)then K (.D7 ks t (xs.getD i.toNat t.zero))else none else none
 |.AA k,.Aw _ (.int _) i,K=>match bs[k]? with
  |some (.row _ _ t xs)=>if t=te then if 0<=i/\i<(xs.length:Int)then K (.ptr k i [] 0)else none else none
  |some (.Nh _ t xs _ _)=>if t=te then if 0<=i/\i<(xs.length:Int)then K (.ptr k i [] 0)else none else none
  |_=>none
 |_,_,_=>none
def gC(bs:AyZ Blk)(te:Ty):AV->AV->(AV->Ay0 R)->Ay0 R
 |.O1 k i0 p f _,.Aw _ (.int _) j,K=>match bs[k]? with
  |some (.row _ .Ao tr xs)=>match Yy (.sl te) p tr (xs.getD i0.toNat tr.zero),Oj (.sl te) [] p tr (xs.getD i0.toNat tr.zero)with
   |some ys,some _=>if te.size≠0/\IP tr p=some f then if 0<=j/\j<(ys.length:Int)then K (.QF k i0 p f j te)else none else none
   |_,_=>none
  |_=>none
 |x,y,K=>j9 bs te x y K
def cu:AV->AV->(AV->Ay0 R)->Ay0 R
 |.Aw _ .str s,.Aw _ (.int _) i,K=>if 0<=i/\i<(s.size:Int)then K (.int .u8 (Cm s i))else none
 |_,_,_=>none
def ZM(ti:TI)(f:Nat):AV->(AV->Ay0 R)->Ay0 R
 |.ptr k i p o,K=>match ti.Rb[f]? with |some fo=>K (.ptr k i (p++[f]) (o+fo))|none=>none
 |.D7 ks t x,K=>if t=ti.ty/\PK t f=ti.Rb[f]? then match Si ks t x f with |some (.Aw _ u y)=>K (.D7 ks u y)|_=>none else none
 |_,_=>none
def Uk(bs:AyZ Blk)(ti:TI):AV->(AV->Ay0 R)->Ay0 R
 |.D7 ks t x,K=>if t=ti.ty then K (.Aw (UO ks t) t x)else none
 |.ptr k i p o,K=>match wL bs k i p o with
  |some v=>if v.size=ti.ty.size/\v.isAgg=ti.ty.isAgg then K v else none
  |none=>none
 |_,_=>none
def WV(bs:AyZ Blk)(ti:TI):AV->AV->(F1->Ay0 R)->Ay0 R
 |.ptr k i p o,v,K=>match bs[k]? with
  |some (.box a)=>match a.Qz p,a.U1 p v with
   |some bq,some a'=>if v.WY/\a.po p=some o/\bq.size=v.size/\v.size=ti.ty.size/\v.isAgg=ti.ty.isAgg/\a'.BX.contains k=false then K ⟨.un 0,(A0 [k] bs).set k (.box a'),[k]⟩else none
   |_,_=>none
  |some (.row e m t xs)=>match take bs m ti.ty v with
   |some (y,m',rs) =>
    if IP t p=some o/\vX t p=some ti.ty/\Z1 (k::rs) m'/\rs.contains k=false then match Oj ti.ty y p t (xs.getD i.toNat t.zero)with
     |some x'=>K ⟨.un 0,(Blk.Eu (A0 (k::rs) bs) rs).set k (.row e m' t (xs.set i.toNat x')),k::rs⟩
     |none=>none
    else none
   |none=>none
  |some (.Nh e t xs i' p')=>match v with
   |.AA j=>match bs[j]? with
    |some (.row _ .Ao u ys)=>match Oj (.sl u) [] p t (xs.getD i.toNat t.zero),Oj (.sl u) ys p t (xs.getD i.toNat t.zero)with
     |some x0,some x'=>if ti.ty=.sl u/\IP t p=some o/\vX t p=some (.sl u)/\p'=p/\j≠k then
         if i'=i then K ⟨.un 0,(Blk.Eu (A0 [k,j] ((A0 [k] bs).set k (.row e .Ao t (xs.set i.toNat x0)))) [j]).set k (.row e .Ao t (xs.set i.toNat x')),[k,j]⟩else none
      else none
     |_,_=>none
    |_=>none
   |_=>none
  |_=>none
 |_,_,_=>none
def U3(bs:AyZ Blk)(ti:TI):AV->(F1->Ay0 R)->Ay0 R
 |.ptr k i p o,K=>match bs[k]? with
  |some (.row e .Ao t xs)=>match vX t p with
   |some (.sl u)=>match Yy (.sl u) p t (xs.getD i.toNat t.zero),Oj (.sl u) [] p t (xs.getD i.toNat t.zero)with
    |some ys,some _=>if ti.ty=.sl u/\IP t p=some o/\u.size≠0 then
        K ⟨.AA bs.length,(A0 [k] bs).set k (.Nh e t xs i p)++[.row 0 .Ao u ys],[k]⟩else none
    |_,_=>none
   |_=>none
  |_=>none
 |_,_=>none
def SA(ti:TI):AV->AyZ (Nat×AV)->Ay0 AV
 |a,[]=>some a
 |a,(f,v)::r=>match a.U6 f with
  |some bq=>if bq.size=v.size/\v.WY=true/\a.off f=ti.Rb[f]?/\(Z8 ti.ty f).map Ty.size=some v.size then match a.OH f v with |some a'=>SA ti a' r |none=>none else none
  |none=>none
def QG(bs:AyZ Blk)(t:Ty):RM->AyZ t.V->AyZ Nat->AyZ (Nat×AV)->Ay0 (RM×AyZ t.V×AyZ Nat)
 |m,xs,rs,[]=>some (m,xs,rs)
 |m,xs,rs,(i,v)::r=>match take bs m t v with
  |some (y,m',l)=>if i<xs.length then QG bs t m' (xs.set i y) (rs++l) r else none
  |none=>none
def dW(bs:AyZ Blk)(t:Ty):AV->Ay0 (AyZ t.V×RM×AyZ Nat)
 |.zs=>some ([],.Ao,[])
 |.Aw ks (.sl u) ys=>match G2 (.sl u) (.sl t) ys with |some l=>some (l,if t.Bu then .Ao else .sh ks,[])|none=>none
 |.Aw _ .str s=>match G2 (.sl (.int .u8)) (.sl t) (s.data.toList.map λb=>(b.toNat:Int))with |some l=>some (l,.Ao,[])|none=>none
 |.AA j=>match bs[j]? with
  |some (.row _ m u ys)=>match G2 (.sl u) (.sl t) ys with |some l=>some (l,if t.Bu then .Ao else m,if t.Bu then[]else[j])|none=>none
  |_=>none
 |_=>none
def mA:RM->RM->Ay0 RM
 |.Ao,.Ao=>some .Ao
 |.sh a,.sh b=>some (.sh (a++b))
 |.sh a,.Ao=>some (.sh a)
 |.Ao,.sh _=>none
def Tm(fi:FI)(bs:AyZ Blk)(e:Nat)(ti:TI):AV->AV->(F1->Ay0 R)->Ay0 R
 |.zs,y,K=>if(ti.ty.row&&ti.bytes !=0)=false then none else match dW bs ti.ty y with
  |some (ys,m,rs)=>match mA (match m with |.Ao=>fi.mode ti.ty |m=>m) m with
   |some m'=>if Z1 rs m' then if ys.length*ti.bytes<=140737488355328 then K ⟨.AA bs.length,Blk.Eu (A0 rs bs) rs++[.row e m' ti.ty ys],rs⟩else none else none
   |none=>none
  |none=>none
 |.AA k,y,K=>if(ti.ty.row&&ti.bytes !=0)=false then none else match bs[k]?,dW bs ti.ty y with
  |some (.row e' m t xs),some (ys,m2,rs)=>match G2 (.sl t) (.sl ti.ty) xs,mA m m2 with
   |some xs,some m'=>if(e=e'/\e≠0\/e'=0)/\rs.contains k=false/\Z1 (k::rs) m' then
       if(xs.length+ys.length)*ti.bytes<=140737488355328 then K ⟨.AA bs.length,Blk.Eu (A0 (k::rs) bs) (k::rs)++[.row e' m' ti.ty (xs++ys)],k::rs⟩else none
    else none
   |_,_=>none
  |_,_=>none
 |_,_,_=>none
def Ty.isInt:Ty->Bool
 |.int _=>true
 |_=>false
def Tn(fi:FI)(bs:AyZ Blk)(e:Nat)(ti:TI):AV->AV->(F1->Ay0 R)->Ay0 R
 |.zs,.Aw _ (.int _) l,K=>if ti.ty.row=true/\ti.bytes≠0 then if 0<=l/\l*(ti.bytes:Int)<=140737488355328 then K ⟨.AA bs.length,bs++[.row e (fi.mode ti.ty) ti.ty (List.replicate l.toNat ti.ty.zero)],[]⟩else none else none
 |_,_,_=>none
def bg(fi:FI)(bs:AyZ Blk)(e:Nat)(ti:TI):AV->AV->(F1->Ay0 R)->Ay0 R
 |.Aw _ (.int _) l,.Aw _ (.int _) c,K=>if ti.ty.row/\0<=l/\l<=c/\(ti.bytes:Int)*c<=281474976710656/\c<=9223372036854775807 then
     K ⟨.AA bs.length,bs++[.row e (fi.mode ti.ty) ti.ty (List.replicate l.toNat ti.ty.zero)],[]⟩else none
 |_,_,_=>none
def wM:Ay0 AV->Int->Ay0 Int
 |none,d=>some d
 |some (.Aw _ (.int _) i),_=>some i
 |_,_=>none
def RB(bs:AyZ Blk)(ti:TI)(te:Ay0 Ty)(x:AV)(lo hi mx:Ay0 AV)(K:AV->Ay0 R):Ay0 R :=
 match mx with
 |some (.Aw _ (.int _) m)=>match lo,hi with
  |none,some (.Aw _ (.int _) h)=>if h=0/\m=0/\te.isSome then match x with
   |.Aw _ (.sl _) _=>K .zs
   |.zs=>K .zs
   |.AA k=>match bs[k]? with |some (.row _ _ _ _)=>K .zs |_=>none
   |_=>none
   else none
  |_,_=>none
 |some _=>none
 |none=>match x with
  |.Aw _ .str s=>match wM lo 0,wM hi (s.size:Int)with
   |some l,some h=>if ti.ty=.str/\0<=l/\l<=h/\h<=(s.size:Int)then K (.str (s.extract l.toNat h.toNat))else none
   |_,_=>none
  |.Aw ks (.sl t) xs=>match wM lo 0,wM hi (xs.length:Int)with
   |some l,some h=>if te=some t then if 0<=l/\l<=h/\h<=(xs.length:Int)then K (.Aw ks (.sl t) ((xs.take h.toNat).drop l.toNat))else none else none
   |_,_=>none
  |.AA k=>match bs[k]? with
   |some (.row _ m t xs)=>match wM lo 0,wM hi (xs.length:Int)with
    |some l,some h=>if te=some t then if 0<=l/\l<=h/\h<=(xs.length:Int)then K (.Aw (k::m.BX) (.sl t) ((xs.take h.toNat).drop l.toNat))else none else none
    |_,_=>none
   |_=>none
  |.zs=>match wM lo 0,wM hi 0 with
   |some l,some h=>if te.isSome/\l=0/\h=0 then K .zs else none
   |_,_=>none
  |_=>none
def oi(te:Ty)(bs:AyZ Blk)(x:AV)(hi:Ay0 AV)(K:F1->Ay0 R):Ay0 R :=
 match x,hi with
 |.AA k,some (.Aw _ (.int _) h)=>match bs[k]? with
  |some (.row e m t xs)=>if Z1 [k] m/\t=te then if 0<=h/\h<=(xs.length:Int)then K ⟨.AA bs.length,Blk.Eu (A0 [k] bs) [k]++[.row e m t (xs.take h.toNat)],[k]⟩else none else none
  |_=>none
 |_,_=>none
def bytesOf(xs:AyZ Int):ByteArray:=⟨(xs.map λn=>UInt8.ofNat n.toNat).toArray⟩
def Vq(bs:AyZ Blk)(te:Ay0 Ty)(td:Ty)(a:AV)(K:AV->Ay0 R):Ay0 R :=
 match td with
 |.int k=>match a with |.Aw _ (.int _) n=>K (.int k (k.wrap n))|_=>none
 |.str=>match a with
  |.Aw _ .str s=>K (.str s)
  |a=>if te=some (.int .u8)then match rd bs (.sl (.int .u8)) a with |some xs=>K (.str (bytesOf xs))|none=>none else none
 |_=>none
def RM.own(k:Nat):RM->AyZ Nat
 |.Ao=>[k]
 |.sh ks=>ks
def Xd(bs:AyZ Blk)(tk te:TI)(ok:Bool)(m x:AV)(K:AV->Ay0 R):Ay0 R :=
 match m with
 |.mp k=>match bs[k]? with
  |some (.map md kt vt es none)=>match rd bs kt x with
   |some key=>if kt=tk.ty/\vt=te.ty/\kt.Dc=true then
       (bif ok then K (.cons (.Aw (UO (md.own k) vt) vt (Cx kt vt es key)) (.cons (.bool (WJ kt vt es key)) .nil))
        else K (.Aw (UO (md.own k) vt) vt (Cx kt vt es key)))else none
   |none=>none
  |_=>none
 |_=>none
def bf(bs:AyZ Blk)(tk te:TI)(m x:AV)(K:F1->Ay0 R):Ay0 R :=
 match m with
 |.mp k=>match bs[k]? with
  |some (.map .Ao kt (.sl u) es none)=>match rd bs kt x with
   |some key=>if kt=tk.ty/\.sl u=te.ty/\kt.Dc=true/\u.size≠0 then
       K ⟨.AA bs.length,(A0 [k] bs).set k (.map .Ao kt (.sl u) es (some key))++[.row 0 .Ao u (Cx kt (.sl u) es key)],[k]⟩else none
   |none=>none
  |_=>none
 |_=>none
def V5(bs:AyZ Blk)(tk te:TI)(m x v:AV)(K:F1->Ay0 R):Ay0 R :=
 match m with
 |.mp k=>match bs[k]? with
  |some (.map md kt vt es st)=>match rd bs kt x,take bs md vt v with
   |some key,some (y,m',rs)=>if kt=tk.ty/\vt=te.ty/\kt.Dc=true/\Z1 (k::rs) m'/\rs.contains k=false then
       match st with
       |none=>K ⟨.un 0,(Blk.Eu (A0 (k::rs) bs) rs).set k (.map m' kt vt (Dv kt vt es key y) none),k::rs⟩
       |some k0=>bif Bq kt k0 key then K ⟨.un 0,(Blk.Eu (A0 (k::rs) bs) rs).set k (.map m' kt vt (Dv kt vt es key y) none),k::rs⟩else none
    else none
   |_,_=>none
  |_=>none
 |_=>none
def ou(bs:AyZ Blk)(tk te:TI)(m x:AV)(K:F1->Ay0 R):Ay0 R :=
 match m with
 |.mp k=>match bs[k]? with
  |some (.map .Ao kt (.sl u) es none)=>match rd bs kt x with
   |some key=>if kt=tk.ty/\Ty.sl u=te.ty/\kt.Dc=true/\u.size≠0 then
       K ⟨.cons (.AA bs.length) (.cons (.int .i64 (R6 kt (.sl u) es key)) .nil),(A0 [k] bs).set k (.map .Ao kt (.sl u) (Dv kt (.sl u) es key (Cx kt (.sl u) es key)) (some key))++[.row 0 .Ao u (Cx kt (.sl u) es key)],[k]⟩else none
   |none=>none
  |_=>none
 |_=>none
def ov(bs:AyZ Blk)(tk te:TI)(m j v:AV)(K:F1->Ay0 R):Ay0 R :=
 match m with
 |.mp k=>match bs[k]? with
  |some (.map _ kt vt es (some key))=>match rd bs (.int .i64) j with
   |some n=>if kt=tk.ty/\kt.Dc=true then(bif QV kt vt es key n then V5 bs tk te m (.Aw [] kt key) v K else none)else none
   |none=>none
  |_=>none
 |_=>none
def LV:AV->Nat->Ay0 AV
 |.cons a _,0=>some a
 |.cons _ b,n+1=>LV b n
 |_,_=>none
end
def Xy(l:AyZ Nat):AyZ Nat->AyZ Nat
 |[]=>l
 |k::r=>if l.contains k then Xy l r else Xy (l++[k]) r
def bH(bs:AyZ Blk):Nat->AyZ Nat->AyZ Nat
 |0,l=>l
 |f+1,l=>bH bs f (Xy l (l.flatMap λk=>match bs[k]? with |some b=>b.BX |none=>[]))
def idxOf(l:AyZ Nat)(k:Nat):Nat:=match l with
 |[]=>0
 |x::r=>if x==k then 0 else idxOf r k+1
def AV.Qy(Iq:AyZ Nat):AV->AV
 |.Aw ks t x=>.Aw (if t.Bu then ks else ks++Iq) t x
 |.D7 ks t x=>.D7 (ks++Iq) t x
 |.pr a b=>.pr (a.Qy Iq) (b.Qy Iq)
 |.fn g c=>.fn g (c.Qy Iq)
 |.cons a b=>.cons (a.Qy Iq) (b.Qy Iq)
 |a=>a
def RM.Qy(Iq:AyZ Nat):RM->RM
 |.Ao=>.Ao
 |.sh ks=>.sh (ks++Iq)
def Blk.Qy(Iq:AyZ Nat):Blk->Blk
 |.box a=>.box (a.Qy Iq)
 |.row e m t xs=>.row e (m.Qy Iq) t xs
 |.map m kt vt es st=>.map (m.Qy Iq) kt vt es st
 |.Nh e t xs i p=>.Nh e t xs i p
 |.tail e t xs=>.tail e t xs
 |.Be=>.Be
def nU(bs:AyZ Blk):PM->AV->Ay0 (AV×AyZ Nat)
 |.d t,v=>match rd bs t v with |some x=>some (.Aw [] t x,v.PD bs)|none=>none
 |.p t,.D7 ks u x=>match G2 u t x with |some y=>some (.D7 [] t y,ks)|none=>none
 |.p t,.ptr k i p o=>match wL bs k i p o with
  |some a=>match rd bs t a with |some x=>some (.D7 [] t x,k::a.PD bs)|none=>none
  |none=>none
 |.p _,_=>none
 |.Sm,v=>some (v,[])
def rr:PM->AV->AyZ Nat
 |.Sm,v=>v.BX
 |_,_=>[]
def ak(bs:AyZ Blk):AyZ PM->AyZ AV->Ay0 (AyZ AV×AyZ Nat×AyZ Nat)
 |[],[]=>some ([],[],[])
 |m::ms,v::vs=>match nU bs m v,ak bs ms vs with
  |some (a,l),some (ZI,ls,rs)=>some (a::ZI,l++ls,rr m v++rs)
  |_,_=>none
 |_,_=>none
def Sy(n:Nat)(π:AyZ Nat)(j:Nat):Nat:=match π[j]? with |some k=>k |none=>n+(j-π.length)
def ME(bs:AyZ Blk):AyZ Nat->AyZ Blk->AyZ Blk
 |k::ks,b::r=>ME (bs.set k b) ks r
 |_,_=>bs
section
variable {R:Type}
def SB(c:Callee)(bs:AyZ Blk)(args:AyZ AV)(K:F1->Ay0 R):Ay0 R :=
 match ak bs c.bn args with
 |none=>none
 |some (ZI,Iq,Up) =>
  let π:=bH bs bs.length (Xy [] Up)
  let n:=bs.length
  let U8:=π.filter λk=>c.oO.contains (idxOf π k)
  let π1:=π.filter λk=>!U8.contains k
  if Iq.all (λk=>!π.contains k&&decide (k<n))&&nodup π&&Up.all (λk=>π.contains k)&&π.all (λk=>match bs[k]? with |some b=>b.BX.all (λj=>π.contains j)&&(U8.contains k||b.N9.all (λj=>!U8.contains j))|none=>false)&&(ZI.all λa=>a.N9.all λj=>!U8.contains j)&&(π.isEmpty||!π1.isEmpty)then
   c.run R (ZI.map (·.K3 (idxOf π))) (π.map λk=>bif U8.contains k then .Be else((bs[k]?).getD .Be).K3 (idxOf π)) λav E =>
    let f:=Sy n π
    if π.length<=E.length then
     K ⟨(av.K3 f).Qy Iq,ME (A0 π1 bs) π (List.zipWith (λk b=>bif U8.contains k then((A0 π1 bs)[k]?).getD .Be else(b.K3 f).Qy Iq) π E)++(E.drop π.length).map (λb=>(b.K3 f).Qy Iq),π1⟩
    else none
  else none
def AV.MC:AV->Ay0 (Nat×Int×AyZ Nat×Nat)
 |.O1 k i p o _=>some (k,i,p,o)
 |.pr a b=>match a.MC with |some z=>some z |none=>b.MC
 |_=>none
def AV.UT(n:Nat):AV->AV
 |.O1 _ _ _ _ _=>.AA n
 |.pr a b=>match a.MC with |some _=>.pr (a.UT n) b |none=>.pr a (b.UT n)
 |a=>a
def gV:Nat->AyZ AV->Ay0 (Nat×AV×Nat×Int×AyZ Nat×Nat)
 |_,[]=>none
 |j,a::r=>match a.MC with |some (k,i,p,o)=>some (j,a,k,i,p,o)|none=>gV (j+1) r
def Ty.Aoe:Ty->Bool
 |.sl _=>true
 |_=>false
def Y0(k:Nat)(i:Int)(p:AyZ Nat)(e:Nat):(t:Ty)->t.V->Nat->Nat->Ay0 AV
 |.unit,_,_,_=>some .u
 |.AH a b,x,f,o=>match Y0 k i p e b x.2 (f+1) (o+a.size)with
  |some r=>if a.Aoe then some (.pr (.O1 k i (p++[f]) o e) r)else if a.Bu then some (.pr (.Aw [] a x.1) r)else none
  |none=>none
 |_,_,_,_=>none
def X9(c:Callee)(bs:AyZ Blk)(args:AyZ AV)(K:F1->Ay0 R):Ay0 R :=
 match gV 0 args with
 |none=>SB c bs args K
 |some (j,a0,k,i,p,o)=>match bs[k]? with
  |some (.row ek .Ao t xs)=>match vX t p with
   |some (.sl u)=>match Yy (.sl u) p t (xs.getD i.toNat t.zero)with
    |some ys =>
     if IP t p=some o/\u.size≠0/\((args.set j (a0.UT bs.length)).all λa=>!a.BX.contains k)=true then
      SB c ((A0 [k] bs).set k .Be++[.row 0 .Ao u ys]) (args.set j (a0.UT bs.length)) λe =>
       if e.Bg.contains k then none else
       match e.Ag[bs.length]? with
       |some (.row _ .Ao u' zs)=>match G2 (.sl u') (.sl u) zs with
        |some zs=>match Oj (.sl u) zs p t (xs.getD i.toNat t.zero)with
         |some x'=>K ⟨e.val.drop (λq=>[k,bs.length].contains q),((A0 [k,bs.length] e.Ag).set bs.length .Be).set k (.row ek .Ao t (xs.set i.toNat x')),e.Bg++[k]⟩
         |none=>none
        |none=>none
       |_=>none
     else none
    |none=>none
   |_=>none
  |_=>none
def lU:AV->AyZ AV
 |.cons a b=>a::lU b
 |_=>[]
def LP(σ:St)(xs:Array Operand):AyZ AV:=xs.toList.map σ.BP
def Tx:AyZ AV->AV
 |[]=>.nil
 |a::r=>.cons (if a.Cz then .un 0 else a) (Tx r)
def QY(en:Fe)(σ:St)(c:Call)(K:F1->Ay0 R):Ay0 R :=
 match c.callee with
 |.builtin .len=>match LP σ c.args,c.argTypes.toList with
  |[x],t::_=>match en.C6.get t with |some ti=>dp σ.Ag ti x λv=>K ⟨v,σ.Ag,[]⟩|none=>none
  |_,_=>none
 |.builtin .min=>match LP σ c.args with |[x,y]=>qq false x y λv=>K ⟨v,σ.Ag,[]⟩|_=>none
 |.builtin .max=>match LP σ c.args with |[x,y]=>qq true x y λv=>K ⟨v,σ.Ag,[]⟩|_=>none
 |.builtin .append=>match LP σ c.args,c.argTypes.toList with
  |[x,y],[t,tx]=>match en.C6.get t,en.C6.get tx with
   |some ti,some WX=>match en.C6.get ti.elem with
    |some te=>if ti.Da&&(WX.Da||WX.ty==.str)then Tm en.fi σ.Ag ti.elem te x y K else if ti.Da&&WX.ty.isInt then Tn en.fi σ.Ag ti.elem te x y K else none
    |none=>none
   |_,_=>none
  |_,_=>none
 |.builtin _=>none
 |.value f=>match σ.BP f with
  |.fn g UD=>match en.yu g with
   |some ca=>X9 ca σ.Ag (LP σ c.args++lU UD) K
   |none=>none
  |_=>none
 |.invoke _ _=>none
def eqS(bs:AyZ Blk)(C6:lA)(op:BinOp)(t:Nat)(x y:AV):Ay0 AV:=match C6.get t with
 |some ti=>if ti.eqs=true then(match op with
  |.eql=>match rd bs ti.ty x,rd bs ti.ty y with |some u,some v=>some (.bool (Mk ti.ty u v))|_,_=>none
  |.neq=>match rd bs ti.ty x,rd bs ti.ty y with |some u,some v=>some (.bool (!Mk ti.ty u v))|_,_=>none
  |_=>none)else none
 |none=>none
def sG(en:Fe)(o:Oper):Bool:=match o.dst with |some d=>en.fi.stl.contains d |none=>false
def UM(C6:lA)(tk:TI):Bool:=match tk.ty with
 |.AH (.int q) _=>tk.FK==2&&(match C6.get tk.elem with |some te=>te.ty==.int q&&tk.ty==.AH (.int q) (.AH (.int q) .unit)|none=>false)
 |_=>true
def Nk(en:Fe)(σ:St)(o:Oper)(K:F1->Ay0 R):Ay0 R :=
 let ρ:=σ.BP
 let bs:=σ.Ag
 let pure:=λv=>K ⟨v,bs,[]⟩
 match o.op with
 |.move x=>pure (ρ x)
 |.assign x=>pure (ρ x)
 |.pick c a b=>match ρ c with |.Aw _ .bool t=>bif t then pure (ρ a)else pure (ρ b)|_=>none
 |.alloc e=>match en.C6.get e with
  |some ti=>K ⟨.ptr bs.length 0 [] 0,bs++[.box ti.ty.Uv],[]⟩
  |none=>none
 |.box _ x=>if(ρ x).WY then K ⟨.ptr bs.length 0 [] 0,bs++[.box (ρ x)],[]⟩else none
 |.build t Fu=>match en.C6.get t with
  |some ti=>if ti.Rb.isEmpty then none else match SA ti ti.ty.Uv (Fu.toList.map λp=>(p.1,ρ p.2))with |some v=>pure v |none=>none
  |none=>none
 |.buildSlice t len Fu=>match en.C6.get t with
  |some ti=>match en.C6.get ti.elem with
   |some te=>match QG bs te.ty (en.fi.mode te.ty) (List.replicate len te.ty.zero) [] (Fu.toList.map λp=>(p.1,ρ p.2))with
    |some (m,xs,rs)=>if ti.Da&&te.ty.row&&Z1 rs m&&nodup rs&&len*te.ty.size<=16777216 then(if len=0 then K ⟨.zs,bs,[]⟩else K ⟨.AA bs.length,Blk.Eu (A0 rs bs) rs++[.row ti.elem m te.ty xs],rs⟩)else none
    |none=>none
   |none=>none
  |none=>none
 |.load t x=>match en.C6.get t with
  |some ti=>if sG en o=true then(if ti.Da then U3 bs ti (ρ x) K else none)else Uk bs ti (ρ x) pure
  |none=>none
 |.makeMap t r=>match en.C6.get t with
  |some ti=>if r.isSome then none else match en.C6.get ti.Lf,en.C6.get ti.elem with
   |some tk,some te=>if ti.Lf≠0/\tk.ty.Dc=true/\te.ty.data=true then K ⟨.mp bs.length,bs++[.map (en.fi.mode te.ty) tk.ty te.ty [] none],[]⟩else none
   |_,_=>none
  |none=>none
 |.lookup t m x ok=>match en.C6.get t with
  |some ti=>match en.C6.get ti.Lf,en.C6.get ti.elem with
   |some tk,some te=>if ti.Lf≠0/\te.ty.data=true/\UM en.C6 tk=true then
       (if sG en o=true then(if ok then none else bf bs tk te (ρ m) (ρ x) K)else Xd bs tk te ok (ρ m) (ρ x) pure)else none
   |_,_=>none
  |none=>none
 |.mapUpdate t m x v=>match en.C6.get t with
  |some ti=>match en.C6.get ti.Lf,en.C6.get ti.elem with
   |some tk,some te=>if ti.Lf≠0/\te.ty.data=true/\UM en.C6 tk=true then V5 bs tk te (ρ m) (ρ x) (ρ v) K else none
   |_,_=>none
  |none=>none
 |.insert t m x v=>match en.C6.get t with
  |some ti=>match en.C6.get ti.Lf,en.C6.get ti.elem with
   |some tk,some te=>if ti.Lf≠0/\te.ty.data=true/\UM en.C6 tk=true then V5 bs tk te (ρ m) (ρ x) (ρ v) K else none
   |_,_=>none
  |none=>none
 |.mapEntry t m x=>match en.C6.get t with
  |some ti=>match en.C6.get ti.Lf,en.C6.get ti.elem with
   |some tk,some te=>if ti.Lf≠0/\UM en.C6 tk=true then ou bs tk te (ρ m) (ρ x) K else none
   |_,_=>none
  |none=>none
 |.entryStore t m j v=>match en.C6.get t with
  |some ti=>match en.C6.get ti.Lf,en.C6.get ti.elem with
   |some tk,some te=>if ti.Lf≠0/\UM en.C6 tk=true then ov bs tk te (ρ m) (ρ j) (ρ v) K else none
   |_,_=>none
  |none=>none
 |.store t x v=>match en.C6.get t with |some ti=>WV bs ti (ρ x) (ρ v) K |none=>none
 |.nilCheck x=>match ρ x with
  |.ptr k i p q=>pure (.ptr k i p q)
  |.D7 ks t y=>pure (.D7 ks t y)
  |_=>none
 |.binOp op t x y _=>match eqS bs en.C6 op t (ρ x) (ρ y)with |some z=>pure z |none=>ck op (match en.C6.get t with |some ti=>ti.ty==.bool |none=>false) (ρ x) (ρ y) pure
 |.unOp op _ x=>zI op (ρ x) pure
 |.convert s t x=>match en.C6.get s,en.C6.get t with
  |some ts,some ti=>Vq bs (match en.C6.get ts.elem with |some te=>if ts.Da then some te.ty else none |none=>none) ti.ty (ρ x) pure
  |_,_=>none
 |.makeFunc fn first UD=>match fn with |.func f=>if first.size=0 then pure (.fn f (Tx (UD.toList.map ρ)))else none |_=>none
 |.makeSlice t l c=>match en.C6.get t with
  |some ti=>match en.C6.get ti.elem with
   |some te=>if ti.Da then bg en.fi bs ti.elem te (ρ l) (ρ c) K else none
   |none=>none
  |none=>none
 |.slice t x lo hi mx=>match o.dst,en.C6.get t with
  |some d,some ti =>
   if en.fi.take.contains d then(match lo,mx with
    |none,none=>if ti.Da then(match en.C6.get ti.elem with |some te=>oi te.ty bs (ρ x) (hi.map ρ) K |none=>none)else none
    |_,_=>none)
   else RB bs ti (match en.C6.get ti.elem with |some te=>if ti.Da then some te.ty else none |none=>none) (ρ x) (lo.map ρ) (hi.map ρ) (mx.map ρ) pure
  |_,_=>none
 |.fieldAddr t x f=>match en.C6.get t with |some ti=>ZM ti f (ρ x) pure |none=>none
 |.indexAddr t x i=>match en.C6.get t with
  |some ti=>match en.C6.get ti.elem with
   |some te=>if ti.Da then gC bs te.ty (ρ x) (ρ i) pure else none
   |none=>none
  |none=>none
 |.index t x i=>match en.C6.get t with |some ti=>if ti.ty=.str then cu (ρ x) (ρ i) pure else none |none=>none
 |.extract x i=>match LV (ρ x) i with |some v=>if v.Cz then none else pure v |none=>none
 |.call c=>QY en σ c K
 |_=>none
def L4.{u}{A:Type u}:AyZ (Nat×A)->Nat->Ay0 A
 |[],_=>none
 |(k,l)::r,n=>if k==n then some l else L4 r n
def AcN(n:Nat)(t:Ty)(e:F1):Ay0 F1:=match rd e.Ag t e.val with
 |some x=>if e.Ag.all (λb=>!b.Wy)then some ⟨.Aw ((e.val.PD e.Ag).filter λk=>decide (k<n)) t x,Blk.Eu e.Ag ((e.val.PD e.Ag).filter λk=>!decide (k<n)),e.Bg⟩else none
 |none=>none
def vg(n:Nat)(e:F1):Ay0 F1:=match e.val with
 |.AA k=>if n<=k then match e.Ag[k]? with
  |some (.row el .Ao t xs)=>some ⟨.AA k,e.Ag.set k (bif t.Bu then .tail el t xs else .row el (.sh []) t xs),e.Bg⟩
  |_=>none
  else none
 |_=>none
def Yp(en:Fe)(o:Oper):Bool:=match o.dst with |some d=>en.fi.Aos.contains d |none=>false
def ApZ(en:Fe)(o:Oper):Ay0 Ty:=match o.dst with |some d=>L4 en.fi.sY d |none=>none
def fb(u:Ty):Nat->Ty
 |0=>.unit
 |n+1=>.AH u (fb u n)
def TI.plc(ti te:TI):TI:=⟨ti.ty,(List.range ti.FK).map (·*te.ty.size),ti.elem,ti.bytes,ti.FK,ti.Lf,ti.eqs⟩
def X1(en:Fe)(σ:St)(o:Oper):Ay0 AV:=match o.op with
 |.load t x=>match o.dst with
  |none=>none
  |some d=>match L4 en.fi.AdD d,en.C6.get t,σ.BP x with
   |some e,some ti,.ptr k i p f=>match σ.Ag[k]?,wL σ.Ag k i p f with
    |some (.row _ .Ao _ _),some v=>if ti.Da=true/\v.size=1 then some (.O1 k i p f e)else(match v with
     |.Aw _ t x=>if t=ti.ty then Y0 k i p e t x 0 f else none
     |_=>none)
    |_,_=>none
   |_,_,_=>none
 |.build t Fu=>match en.C6.get t with
  |some ti=>if ti.FK=0 then none else match en.C6.get ti.elem with
   |some te=>if ti.ty=fb te.ty ti.FK then SA (ti.plc te) ti.ty.Uv (Fu.toList.map λp=>(p.1,σ.BP p.2))else none
   |none=>none
  |none=>none
 |.index t x i=>match en.C6.get t with
  |some ti=>if ti.FK=0 then none else match en.C6.get ti.elem with
   |some te=>match σ.BP i,σ.BP x with
    |.Aw _ (.int _) j,a=>if 0<=j/\j<(ti.FK:Int)/\a.off j.toNat=some (j.toNat*te.ty.size)/\a.isAgg=true/\a.Cz=false then match a.U6 j.toNat with
     |some v=>if v.size=te.ty.size/\v.isAgg=te.ty.isAgg then some v else none
     |none=>none
     else none
    |_,_=>none
   |none=>none
  |none=>none
 |.field t x f=>match en.C6.get t with
  |some ti=>match ti.Rb[f]?,Z8 ti.ty f,(σ.BP x).U6 f with
   |some fo,some u,some v=>if(σ.BP x).off f=some fo/\(σ.BP x).isAgg=true/\(σ.BP x).Cz=false/\v.size=u.size/\v.isAgg=u.isAgg then some v else none
   |_,_,_=>none
  |none=>none
 |.call c=>match c.callee,LP σ c.args,c.argTypes.toList with
  |.builtin .cap,[.zs],t::_=>match en.C6.get t with |some ti=>if ti.Da=true then some (.int .i64 0)else none |none=>none
  |_,_,_=>none
 |.indexAddr t x i=>match en.C6.get t with
  |some ti=>if ti.FK=0 then none else match en.C6.get ti.elem with
   |some te=>match σ.BP i with
    |.Aw _ (.int _) j=>if 0<=j/\j<(ti.FK:Int)then match σ.BP x with
     |.ptr k q p f=>some (.ptr k q (p++[j.toNat]) (f+j.toNat*te.ty.size))
     |.D7 ks t' y=>if PK t' j.toNat=some (j.toNat*te.ty.size)then match Si ks t' y j.toNat with |some (.Aw _ u z)=>some (.D7 ks u z)|_=>none else none
     |_=>none
     else none
    |_=>none
   |none=>none
  |none=>none
 |_=>none
def oh(bs:AyZ Blk):Co->AV->Ay0 (AV×AyZ Blk)
 |.row p e t Ao,a=>match a.Qz p with
  |some .zs=>if t.row then match a.U1 p (.AA bs.length)with |some a'=>some (a',[.row e (if t.Bu||Ao then .Ao else .sh []) t []])|none=>none else none
  |_=>some (a,[])
 |.Aw t,a=>match rd bs t a with |some x=>some (.Aw (a.PD bs) t x,[])|none=>none
 |.Xt ks,a=>match a with
  |.Aw l t x=>if(t.Bu||l.all λk=>ks.contains k)&&ks.all (λk=>decide (k<bs.length))then some (.Aw ks t x,[])else none
  |_=>none
def coB(k:Nat)(c:Co)(bs:AyZ Blk):Ay0 (AyZ Blk):=match bs[k]? with
 |some (.box a)=>match oh bs c a with |some (a',nb)=>some (bs.set k (.box a')++nb)|none=>none
 |_=>none
def cE:AyZ (Nat×Co)->AyZ Blk->Ay0 (AyZ Blk)
 |[],bs=>some bs
 |(k,c)::r,bs=>match coB k c bs with |some FQ=>cE r FQ |none=>none
def AaM(bs:AyZ Blk):Nat->AyZ (AyZ Nat)->Ay0 Nat
 |k,[]=>some k
 |k,q::r=>match bs[k]? with
  |some (.box a)=>match a.Qz q with |some (.ptr k' _ _ _)=>AaM bs k' r |_=>none
  |_=>none
def preB:AyZ (Nat×AyZ (AyZ Nat)×Co)->AyZ AV->AyZ Blk->Ay0 (AyZ Blk)
 |[],_,bs=>some bs
 |(j,q,c)::r,args,bs=>match args[j]? with
  |some (.ptr k _ _ _)=>match AaM bs k q with
   |some k'=>match coB k' c bs with |some FQ=>preB r args FQ |none=>none
   |none=>none
  |_=>none
def kX(bs:AyZ Blk)(ti:TI)(k:Nat)(i:Int)(p:AyZ Nat)(o:Nat)(j:Int)(u:Ty)(v:AV):Ay0 F1:=match bs[k]? with
 |some (.row ek .Ao t xs)=>match Yy (.sl u) p t (xs.getD i.toNat t.zero)with
  |some ys=>match take ((A0 [k] bs).set k .Be++[.row 0 .Ao u ys]) .Ao ti.ty v with
   |some (y,.Ao,[])=>match Oj ti.ty y [] u (ys.getD j.toNat u.zero)with
    |some y'=>match Oj (.sl u) (ys.set j.toNat y') p t (xs.getD i.toNat t.zero)with
     |some x'=>if vX t p=some (.sl u)/\IP t p=some o/\u.size≠0/\vX u []=some ti.ty/\IP u []=some 0/\v.BX.contains k=false then
         some ⟨.un 0,((A0 [k,bs.length] ((Blk.Eu (A0 [bs.length] ((A0 [k] bs).set k .Be++[.row 0 .Ao u ys])) []).set bs.length (.row 0 .Ao u (ys.set j.toNat y')))).set bs.length .Be).set k (.row ek .Ao t (xs.set i.toNat x')),[bs.length]++[k]⟩
      else none
     |none=>none
    |none=>none
   |_=>none
  |none=>none
 |_=>none
def pn(en:Fe)(σ:St)(o:Oper):Ay0 F1:=match o.op with
 |.store t x v=>match en.C6.get t,σ.BP x with
  |some ti,.QF k i p f j u=>kX σ.Ag ti k i p f j u (σ.BP v)
  |_,_=>none
 |_=>none
def im(en:Fe)(σ:St)(o:Oper):Ay0 F1:=pn en σ o
def zE(en:Fe)(σ:St)(o:Oper):Ay0 (Bool×F1):=match o.op with
 |.slice t x (some lo) none none=>match en.C6.get t,σ.BP x,σ.BP lo with
  |some ti,.AA k,.Aw _ (.int _) l=>match σ.Ag[k]?,en.C6.get ti.elem with
   |some (.tail e u xs),some te=>if ti.Da=true/\u=te.ty then some (decide (0<=l)&&decide (l<=(xs.length:Int)),⟨.AA σ.Ag.length,Blk.Eu (A0 [k] σ.Ag) [k]++[.tail e u (xs.drop l.toNat)],[k]⟩)else none
   |_,_=>none
  |_,_,_=>none
 |.indexAddr t x i=>match en.C6.get t,σ.BP x,σ.BP i with
  |some ti,.AA k,.Aw _ (.int _) l=>match σ.Ag[k]?,en.C6.get ti.elem with
   |some (.tail _ u xs),some te=>if ti.Da=true/\u=te.ty then some (decide (0<=l)&&decide (l<(xs.length:Int)),⟨.D7 [k] u (xs.getD l.toNat u.zero),σ.Ag,[]⟩)else none
   |_,_=>none
  |_,_,_=>none
 |.call c=>match c.callee,LP σ c.args,c.argTypes.toList with
  |.builtin .len,[.AA k],[t]=>match σ.Ag[k]?,en.C6.get t with
   |some (.tail _ _ xs),some ti=>if ti.Da=true then some (true,⟨.int .i64 (xs.length:Int),σ.Ag,[]⟩)else none
   |_,_=>none
  |.builtin .append,[.AA k,y],[t,tx]=>match σ.Ag[k]?,en.C6.get t,en.C6.get tx with
   |some (.tail e u xs),some ti,some WX=>match en.C6.get ti.elem with
    |some te=>match G2 (.sl u) (.sl te.ty) xs,dW σ.Ag te.ty y with
     |some xs,some (ys,_,rs)=>if ti.Da=true/\WX.Da=true/\te.ty.row=true/\te.bytes≠0/\(e=ti.elem\/e=0)/\rs.contains k=false then
         some (decide ((xs.length+ys.length)*te.bytes<=140737488355328),⟨.AA σ.Ag.length,Blk.Eu (A0 (k::rs) σ.Ag) (k::rs)++[.tail e te.ty (xs++ys)],k::rs⟩)else none
     |_,_=>none
    |none=>none
   |_,_,_=>none
  |_,_,_=>none
 |_=>none
def Qh(en:Fe)(σ:St)(o:Oper)(K:F1->Ay0 R):Ay0 R:=match X1 en σ o with
 |some v=>K ⟨v,σ.Ag,[]⟩
 |none=>match im en σ o with
 |some e=>K e
 |none=>match zE en σ o with
 |some (c,e)=>bif c then K e else none
 |none=>match ApZ en o with
 |none=>bif Yp en o then Nk en σ o λe=>match vg σ.Ag.length e with |some e'=>K e' |none=>none else Nk en σ o K
 |some t=>Nk en σ o λe=>match AcN σ.Ag.length t e with |some e'=>K e' |none=>none
def exec(en:Fe)(σ:St)(o:Oper)(K:F1->Ay0 R):Ay0 R:=match o.op,o.dst with
 |.call c,some d=>match L4 en.fi.ApX d with
  |some l=>match preB l (LP σ c.args) σ.Ag with
   |some bs=>Qh en ⟨σ.Az,bs⟩ o λe=>if e.Bg.isEmpty then none else K e
   |none=>none
  |none=>Qh en σ o K
 |_,_=>Qh en σ o K
def Rq(all:AyZ Oper)(σ:St)(o:Oper)(Kt Kf:St->Ay0 R):Ay0 R :=
 match o.guard with
 |none=>Kt σ
 |some (g,XC) =>
  match (all[g]?).bind (·.dst)with
  |none=>none
  |some d=>match σ.Az[d]? with
   |some (.Aw [] .bool b) =>
    bif b then
     (if XC then Kt {σ with Az:=σ.Az.set d (.bool true)}else Kf {σ with Az:=σ.Az.set d (.bool true)})
    else
     (if XC then Kf {σ with Az:=σ.Az.set d (.bool false)}else Kt {σ with Az:=σ.Az.set d (.bool false)})
   |some .nil=>Kf σ
   |_=>none
def St.skip(σ:St)(d:Ay0 Nat):St:={σ with Az:=T8 d .nil σ.Az}
def Nj(en:Fe)(all:AyZ Oper):AyZ Nat->St->(St->Ay0 R)->Ay0 R
 |[],σ,K=>K σ
 |i::is,σ,K =>
  match all[i]? with
  |none=>none
  |some o=>Rq all σ o (λσ=>exec en σ o λe=>Nj en all is (σ.after o.dst e) K) (λσ=>Nj en all is (σ.skip o.dst) K)
def C7:AyZ (Nat×AyZ Nat)->Nat->AyZ Nat
 |[],_=>[]
 |(k,l)::r,i=>if k==i then l else C7 r i
def Pq(all:AyZ Oper)(i:Nat):AyZ Nat:=match all[i]? with
 |some o=>o.after.toList.filterMap λe=>if Region.binds .any e then some e.on else none
 |none=>[]
def Sv(all:AyZ Oper):AyZ Nat->AyZ (Nat×AyZ Nat)->AyZ (Nat×AyZ Nat)
 |[],A=>A
 |i::is,A=>Sv all is ((i,Xy [] (Pq all i++(Pq all i).flatMap (C7 A)))::A)
def VR(all:AyZ Oper)(A:AyZ (Nat×AyZ Nat)):AyZ Nat->Bool
 |[]=>true
 |i::is=>is.all (λj=>(C7 A j).contains i||match all[i]?,all[j]? with |some x,some y=>x.apart all.toArray y |_,_=>false)&&VR all A is
def Ps(en:Fe)(all:AyZ Oper)(A:AyZ (Nat×AyZ Nat)):AyZ Nat->AyZ Nat->AyZ Nat->St->(St->Ay0 R)->Ay0 R
 |[],_,_,σ,K=>K σ
 |i::is,done,K5,σ,K =>
  match all[i]? with
  |none=>none
  |some o=>if K5.all (λx=>(C7 A i).contains x)then
      Rq all σ o (λσ=>exec en σ o λe =>
       if e.Bg.isEmpty then Ps en all A is (i::done) (if e.Ag.length=σ.Ag.length then K5 else i::K5) (σ.after o.dst e) K
       else if done.all (λx=>(C7 A i).contains x)then Ps en all A is (i::done) (i::K5) (σ.after o.dst e) K else none)
      (λσ=>Ps en all A is (i::done) K5 (σ.skip o.dst) K)
   else none
inductive Ex where
 |normal |exit (n:Nat)|ret
inductive To {S T:Type} (f:S->Option (S⊕T)):S->T->Prop
 |done {s:S} {t:T} (h:f s=some (.inr t)):To f s t
 |WM {s s':S} {t:T} (h:f s=some (.inl s')) (k:To f s' t):To f s t
open Classical in
noncomputable def fix{S T:Type}(f:S->Ay0 (S⊕T))(s:S):Ay0 T:=if h:∃t,To f s t then some h.choose else none
def key:Code->Nat
 |.region i _ _=>i
 |.seq a _=>key a
 |.block _ a=>key a
 |.loop a=>key a
 |.cond _ a _=>key a
 |_=>0
def Nm(Bb:AyZ Nat):Nat->AyZ AV->AyZ AV
 |_,[]=>[]
 |i,a::r=>(if Bb.contains i then a else .un 0)::Nm Bb (i+1) r
def coS(σ:St)(s:Nat)(box:Bool)(c:Co):Ay0 St :=
 match σ.Az[s]? with
 |none=>none
 |some v=>bif box then
     (match v with
      |.ptr k _ _ _=>match σ.Ag[k]? with
       |some (.box a)=>match oh σ.Ag c a with |some (a',nb)=>some ⟨σ.Az,σ.Ag.set k (.box a')++nb⟩|none=>none
       |_=>none
      |_=>none)
  else match oh σ.Ag c v with |some (v',nb)=>some ⟨σ.Az.set s v',σ.Ag++nb⟩|none=>none
def Vo:AyZ (Nat×Bool×Co)->St->Ay0 St
 |[],σ=>some σ
 |(s,b,c)::r,σ=>match coS σ s b c with |some σ'=>Vo r σ' |none=>none
def sW(m:Nat)(t:Ty)(v:AV)(bs:AyZ Blk):Ay0 (AV×AyZ Blk):=match rd bs t v with
 |some x=>some (.Aw ((v.PD bs).filter λk=>decide (k<m)) t x,(Blk.Eu bs ((v.PD bs).filter λk=>!decide (k<m))).map Blk.Vd)
 |none=>none
def cK(m:Nat):AyZ (Nat×Bool×Ty)->St->Ay0 St
 |[],σ=>some σ
 |(s,false,t)::r,σ=>match σ.Az[s]? with
  |some (.un _)=>cK m r σ
  |some v=>match sW m t v σ.Ag with
   |some (v',bs)=>cK m r ⟨(σ.Az.map AV.Vd).set s v',bs⟩
   |none=>none
  |none=>none
 |(s,true,t)::r,σ=>match σ.Az[s]? with
  |some (.ptr k _ _ _)=>match σ.Ag[k]? with
   |some (.box a)=>match sW m t a σ.Ag with
    |some (a',bs)=>match bs[k]? with
     |some (.box _)=>cK m r ⟨σ.Az.map AV.Vd,bs.set k (.box a')⟩
     |_=>none
    |none=>none
   |_=>none
  |_=>cK m r σ
def mvS(m:Nat):AyZ Nat->St->Ay0 St
 |[],σ=>some σ
 |s::r,σ=>match σ.Az[s]? with
  |some (.AA k)=>if k<m then match σ.Ag[k]? with
      |some (.row e md t xs)=>if md.BX.contains k then none else mvS m r ⟨(Pr [k] σ.Az).set s (.AA σ.Ag.length),Blk.Eu (A0 [k] σ.Ag) [k]++[.row e md t xs]⟩
      |_=>none
   else mvS m r σ
  |_=>mvS m r σ
def mvB(m k:Nat)(p:AyZ Nat)(σ:St):Ay0 St:=match σ.Ag[k]? with
 |some (.box a)=>match a.Qz p with
  |some (.AA j)=>if j<m then match σ.Ag[j]? with
      |some (.row e md t xs)=>if md.BX.contains j then none else match (a.drop λq=>[j].contains q).Qz p,(a.drop λq=>[j].contains q).U1 p (.AA σ.Ag.length)with
       |some (.AA j'),some a2=>if j'=j/\k≠j then some ⟨Pr [j] σ.Az,(Blk.Eu (A0 [j] σ.Ag) [j]++[Blk.row e md t xs]).set k (Blk.box a2)⟩else none
       |_,_=>none
      |_=>none
   else some σ
  |_=>none
 |_=>none
def mvV(m s:Nat)(p:AyZ Nat)(a:AV)(σ:St):Ay0 St:=match a.Qz p with
 |some (.AA j)=>if j<m then match σ.Ag[j]? with
     |some (.row e md t xs)=>if md.BX.contains j then none else match (a.drop λq=>[j].contains q).Qz p,(a.drop λq=>[j].contains q).U1 p (.AA σ.Ag.length)with
      |some (.AA j'),some a2=>if j'=j then some ⟨(Pr [j] σ.Az).set s a2,Blk.Eu (A0 [j] σ.Ag) [j]++[Blk.row e md t xs]⟩else none
      |_,_=>none
     |_=>none
  else some σ
 |_=>none
def mvP(m s:Nat)(p:AyZ Nat)(σ:St):Ay0 St:=match σ.Az[s]? with
 |some (.ptr k _ _ _)=>mvB m k p σ
 |some a=>mvV m s p a σ
 |none=>none
def uG(m:Nat):AyZ (Nat×AyZ Nat)->St->Ay0 St
 |[],σ=>some σ
 |(s,p)::r,σ=>match mvP m s p σ with |some σ'=>uG m r σ' |none=>none
def AV.wid(ks:AyZ Nat):AV->AV
 |.Aw l t x=>if t.Bu=false/\l.all (λj=>ks.contains j)=true then .Aw ks t x else .Aw l t x
 |.pr a b=>.pr (a.wid ks) (b.wid ks)
 |a=>a
def et:AyZ (Nat×AyZ Nat)->AyZ Blk->Ay0 (AyZ Blk)
 |[],bs=>some bs
 |(k,ks)::r,bs=>match bs[k]? with
  |some (.row e (.sh l) t xs)=>if l.all (λj=>ks.contains j)&&ks.all (λj=>decide (j<bs.length))then et r (bs.set k (.row e (.sh ks) t xs))else none
  |some (.box a)=>if ks.all (λj=>decide (j<bs.length))then et r (bs.set k (.box (a.wid ks)))else none
  |_=>none
def pw(bs:AyZ Blk)(m:Nat)(π BX:AyZ Nat):Bool :=
 π.take m==List.range m&&nodup π&&BX.all (λj=>π.contains j)&&π.all λk=>match bs[k]? with |some b=>b.BX.all λj=>π.contains j |none=>false
def St.AY(m:Nat)(Bb:AyZ Nat)(σ:St):Ay0 St :=
 let sl:=Nm Bb 0 σ.Az
 let π:=bH σ.Ag σ.Ag.length (Xy (List.range m) (sl.flatMap (·.BX)))
 if pw σ.Ag m π (sl.flatMap (·.BX))then
  some {Az:=sl.map (λa=>(a.K3 (idxOf π)).C8 π.length),Ag:=π.map λk=>(((σ.Ag[k]?).getD .Be).K3 (idxOf π)).C8 π.length}
 else none
def turns(en:Fe)(o:Oper):Bool:=match o.op with
 |.alloc _=>true
 |.box _ _=>true
 |.buildSlice _ _ _=>true
 |.store _ _ _=>true
 |.makeSlice _ _ _=>true
 |.makeMap _ _=>true
 |.mapUpdate _ _ _ _=>true
 |.insert _ _ _ _=>true
 |.mapEntry _ _ _=>true
 |.entryStore _ _ _ _=>true
 |.load _ _=>match o.dst with |some d=>en.fi.stl.contains d |none=>false
 |.lookup _ _ _ _=>match o.dst with |some d=>en.fi.stl.contains d |none=>false
 |.slice _ _ _ _ _=>match o.dst with |some d=>en.fi.take.contains d |none=>false
 |.call c=>match c.callee with |.builtin .append=>true |.builtin _=>false |_=>true
 |_=>false
def yl(all:AyZ Oper)(done:AyZ Nat)(i:Nat):Bool:=(Pq all i).all λx=>done.contains x
def Rx(en:Fe)(all:AyZ Oper):Nat->AyZ Nat->AyZ Nat
 |0,done=>done.reverse
 |f+1,done =>
  let rdy:=(List.range all.length).filter λi=>!done.contains i&&yl all done i
  match rdy.find? (λi=>match all[i]? with |some o=>!turns en o |none=>false)with
  |some i=>Rx en all f (i::done)
  |none=>match rdy with
   |i::_=>Rx en all f (i::done)
   |[]=>done.reverse
def Zr(all:AyZ Oper):AyZ Nat->AyZ Nat->Bool
 |[],_=>true
 |i::is,done=>(Pq all i).all (λd=>done.contains d)&&Zr all is (i::done)
def rp(all:AyZ Oper)(L:AyZ Nat):Bool:=nodup L&&(List.range all.length).all (λi=>L.contains i)&&L.all (λi=>decide (i<all.length))&&VR all (Sv all L []) L&&Zr all L []
end
def St.head(h:SH)(m:Nat)(σ:St):Ay0 St :=
 match ((mvS m h.mv σ).bind (uG m h.mvp)).bind (cK m h.Ph)with
 |none=>none
 |some σ=>match Vo h.Cy σ with
  |none=>none
  |some σ=>match σ.AY m h.Bb with
   |none=>none
   |some σ=>match et h.wid σ.Ag with
    |none=>none
    |some bs=>Vo h.post ⟨σ.Az,bs⟩
def ym(m:Nat)(σ:St):Ay0 (AyZ Nat)->Ay0 St
 |none=>some σ
 |some l=>σ.head {Bb:=l} m
open Classical in
noncomputable def N6(s t:St):Ay0 Unit:=if s=t then some ()else none
def mQ(o:Oper):Bool:=match o.op with
 |.move _=>true
 |.assign _=>true
 |.extract _ _=>true
 |.fieldAddr _ _ _=>true
 |.indexAddr _ _ _=>true
 |.build _ _=>true
 |_=>false
def Aop(BL:Array Oper)(listed:Array Bool):Ay0 Nat:=(Region.ready .any BL listed).find? λi=>(match BL[i]? with |some o=>mQ o |none=>false)&&Region.free .any BL listed i
def fQ:AyZ (Ay0 Unit)->Ay0 Unit
 |[]=>some ()
 |[x]=>x
 |x::y::r=>x.bind λ_=>fQ (y::r)
noncomputable def nT(en:Fe)(h:SH)(m:Nat)(BL:Array Oper)(σ':St):Nat->Array Bool->St->Ay0 Unit
 |0,listed,σ=>if(Region.ready .any BL listed).isEmpty then match σ.head h m with |some s=>N6 s σ' |none=>none else none
 |k+1,listed,σ=>match Aop BL listed with
  |some i=>Nj en BL.toList [i] σ λσ1=>nT en h m BL σ' k (listed.setIfInBounds i true) σ1
  |none=>if(Region.ready .any BL listed).isEmpty then none else
  fQ ((Region.ready .any BL listed).map λi=>Nj en BL.toList [i] σ λσ1=>nT en h m BL σ' k (listed.setIfInBounds i true) σ1)
def kE(NR:AyZ Blk)(σ:St)(o:Oper):Bool:=mQ o||match o.op with
 |.load _ x=>(match σ.BP x with |.ptr k _ _ _=>(match NR[k]?,σ.Ag[k]? with |some (.box _),some (.box _)=>true |_,_=>false)|_=>false)
 |.call c=>(match c.callee,LP σ c.args with |.builtin .len,[.Aw _ (.sl _) _]=>true |.builtin .len,[.zs]=>true |_,_=>false)
 |.binOp op _ x y _=>(match op with |.add=>true |.sub=>true |_=>false)&&(match σ.BP x,σ.BP y with |.Aw _ (.int k) _,.Aw _ (.int k') _=>decide (k=k')|_,_=>false)
 |_=>false
def Aoo(NR:AyZ Blk)(σ:St)(BL:Array Oper)(listed:Array Bool):Ay0 Nat:=(Region.ready .any BL listed).find? λi=>(match BL[i]? with |some o=>kE NR σ o |none=>false)&&Region.free .any BL listed i
def nbx(NR:AyZ Blk)(k:Nat):Bool:=match NR[k]? with |some (.box _)=>false |_=>true
def evQ{R:Type}(en:Fe)(all:AyZ Oper)(NR:AyZ Blk)(i:Nat)(σ:St)(K:St->Ay0 R):Ay0 R:=match all[i]? with
 |none=>none
 |some o=>Rq all σ o (λσ=>exec en σ o λe=>if e.Bg.all (nbx NR)then K (σ.after o.dst e)else none) (λσ=>K (σ.skip o.dst))
noncomputable def jD(en:Fe)(h:SH)(m:Nat)(NR:AyZ Blk)(BL:Array Oper)(σ':St):Nat->Array Bool->St->Ay0 Unit
 |0,listed,σ=>if(Region.ready .any BL listed).isEmpty then match σ.head h m with |some s=>N6 s σ' |none=>none else none
 |k+1,listed,σ=>match Aoo NR σ BL listed with
  |some i=>evQ en BL.toList NR i σ λσ1=>jD en h m NR BL σ' k (listed.setIfInBounds i true) σ1
  |none=>if(Region.ready .any BL listed).isEmpty then none else
  fQ ((Region.ready .any BL listed).map λi=>evQ en BL.toList NR i σ λσ1=>jD en h m NR BL σ' k (listed.setIfInBounds i true) σ1)
noncomputable def zm(en:Fe)(m:Nat)(h:SH)(BL:Array Oper)(σ:St):Ay0 St :=
 if Region.noSelect BL=false then none else Nj en BL.toList (List.range BL.size) σ λs=>(s.head h m).bind λσ'=>(bif h.PO then jD en h m (Blk.Eu σ.Ag h.qx) BL σ' BL.size (Array.replicate BL.size false) σ else nT en h m BL σ' BL.size (Array.replicate BL.size false) σ).bind λ_=>some σ'
noncomputable def ev(en:Fe)(m:Nat):Code->(R:Type)->St->(Ex->St->Ay0 R)->Ay0 R
 |.skip,_,σ,K=>K .normal σ
 |.ret,_,σ,K=>K .ret σ
 |.exit n,_,σ,K=>K (.exit n) σ
 |.seq a b,R,σ,K=>match L4 en.fi.B5 (key b)with
  |none=>ev en m a R σ λe σ=>match e with
   |.normal=>ev en m b R σ K
   |.exit n=>K (.exit n) σ
   |.ret=>K .ret σ
  |some h=>(ym m σ (L4 en.fi.EO (key b))).bind λσ=>(ev en m a (Ex×St) σ λe σ=>(σ.head h m).bind λσ'=>some (e,σ')).bind λp=>match p.1 with
   |.normal=>ev en m b R p.2 K
   |.exit n=>K (.exit n) p.2
   |.ret=>K .ret p.2
 |.cond c a b,R,σ,K=>match σ.BP c with |.Aw _ .bool t=>bif t then ev en m a R σ K else ev en m b R σ K |_=>none
 |.block n a,R,σ,K=>ev en m a R σ λe σ=>match e with
  |.normal=>K .normal σ
  |.exit k=>bif k==n then K .normal σ else K (.exit k) σ
  |.ret=>K .ret σ
 |.region _ BL false,_,σ,K=>Nj en BL.toList (List.range BL.size) σ (K .normal)
 |.region id BL true,_,σ,K=>match L4 en.fi.Vv id with
  |some h=>(ym m σ (L4 en.fi.W5 id)).bind λσ=>(zm en m h BL σ).bind (K .normal)
  |none=>if rp BL.toList (Rx en BL.toList BL.toList.length [])then Ps en BL.toList (Sv BL.toList (Rx en BL.toList BL.toList.length []) []) (Rx en BL.toList BL.toList.length []) [] [] σ (K .normal)else none
 |.loop body,R,σ,K=>match L4 en.fi.Bv (key body),L4 en.fi.CM (key body)with
  |some h,some ho=>match σ.head h m with
   |none=>none
   |some σ0=>(fix (λs=>ev en m body (St⊕(Ex×St)) s λe s'=>match e with
       |.normal=>(s'.head h m).bind λTR=>some (.inl TR)
       |.exit n=>(s'.head ho m).bind λTR=>some (.inr (.exit n,TR))
       |.ret=>(s'.head ho m).bind λTR=>some (.inr (.ret,TR))) σ0).bind λp=>K p.1 p.2
  |_,_=>none
 |_,_,_,_=>none
def Xz(C6:lA)(σ:St):AyZ ResultVar->Ay0 (AyZ AV)
 |[]=>some []
 |.tmp t::r=>match σ.Az[t]?,Xz C6 σ r with |some v,some l=>some (v::l)|_,_=>none
 |.cell a t::r=>match C6.get t,σ.Az[a]? with
  |some ti,some (.ptr k i p o)=>match wL σ.Ag k i p o,Xz C6 σ r with
   |some v,some l=>if v.size=ti.ty.size/\v.isAgg=ti.ty.isAgg then some (v::l)else none
   |_,_=>none
  |_,_=>none
def ib:AyZ AV->AV
 |[a]=>a
 |l=>Tx l
def Vp:AyZ (Nat×Co)->AyZ AV->AyZ Blk->Ay0 (AyZ AV×AyZ Blk)
 |[],l,bs=>some (l,bs)
 |(i,c)::r,l,bs=>match l[i]? with
  |none=>none
  |some v=>match oh bs c v with |some (v',nb)=>Vp r (l.set i v') (bs++nb)|none=>none
def cJ(m:Nat):AyZ (Nat×Ty)->AyZ AV->AyZ Blk->Ay0 (AyZ AV×AyZ Blk)
 |[],l,bs=>some (l,bs)
 |(i,t)::r,l,bs=>match l[i]? with
  |none=>none
  |some v=>match sW m t v bs with |some (v',FQ)=>cJ m r ((l.map AV.Vd).set i v') FQ |none=>none
def YS(m:Nat)(bs:AyZ Blk)(v:AV):Ay0 (AV×AyZ Blk) :=
 let π:=bH bs bs.length (Xy (List.range m) v.BX)
 if pw bs m π v.BX then some ((v.K3 (idxOf π)).C8 π.length,π.map λk=>(((bs[k]?).getD .Be).K3 (idxOf π)).C8 π.length)else none
def T5(m:Nat):AyZ Fi->St->Ay0 St
 |[],σ=>some σ
 |.co k c::r,σ=>match coB k c σ.Ag with |some bs=>T5 m r ⟨σ.Az,bs⟩|none=>none
 |.Be j::r,σ=>T5 m r ⟨σ.Az,σ.Ag.set j .Be⟩
 |.mvs s p::r,σ=>match mvP m s p σ with |some σ'=>T5 m r σ' |none=>none
 |.mv k p::r,σ=>match mvB m k p σ with |some σ'=>T5 m r σ' |none=>none
noncomputable def RA(en:Fe)(fn:Func)(R:Type)(args:AyZ AV)(E:AyZ Blk)(K:AV->AyZ Blk->Ay0 R):Ay0 R :=
 match fn.body with
 |none=>none
 |some c =>
  if args.length<=fn.ntmps then
   ev en E.length c R ⟨args++List.replicate (fn.ntmps-args.length) (.un 0),E⟩ λe σ=>match e with
    |.exit _=>none
    |_=>match T5 E.length en.fi.Sl σ with
     |none=>none
     |some σ=>match Xz en.C6 σ fn.results.toList with
     |some l=>match cJ E.length en.fi.Ph l σ.Ag with
      |some (l,bs)=>match Vp en.fi.jo l bs with
       |some (l',FQ)=>match YS E.length FQ (ib l')with
        |some (v,bs)=>K v bs
        |none=>none
       |none=>none
      |none=>none
     |none=>none
  else none
end Go.Va
namespace Go.Va
section
variable {S T X Y:Type}
theorem To.Ym{f:S->Ay0 (S⊕T)}{s:S}{t u:T}(h:To f s t)(k:To f s u):t=u:=by
 induction h with
 |done h=>cases k with
  |done k=>rw[h]at k;injection k with k;injection k
  |WM k _=>rw[h]at k;injection k with k;cases k
 |WM h _ ih=>cases k with
  |done k=>rw[h]at k;injection k with k;cases k
  |WM k k'=>rw[h]at k;injection k with k;injection k with k;subst k;exact ih k'
theorem QZ{f:S->Ay0 (S⊕T)}{s:S}{t:T}:fix f s=some t↔To f s t:=by
 unfold fix;constructor
 ·intro h;split at h
  ·rename_i hx;injection h with h;subst h;exact hx.choose_spec
  ·cases h
 ·intro h;rw[dif_pos ⟨t,h⟩];exact congrArg some (To.Ym (Exists.choose_spec ⟨t,h⟩) h)
theorem sQ(f:S->Ay0 (S⊕T))(s:S):fix f s=match f s with |none=>none |some (.inl s')=>fix f s' |some (.inr t)=>some t:=by
 apply Option.ext;intro t;rw[QZ];constructor
 ·intro h;cases h with
  |done h=>rw[h]
  |WM h k=>rw[h];exact QZ.2 k
 ·intro h;split at h
  ·cases h
  ·rename_i s' hs;exact .WM hs (QZ.1 h)
  ·rename_i u hs;injection h with h;subst h;exact .done hs
theorem Yt{f:S->Ay0 (S⊕T)}{s:S}{t:T}(h:f s=some (.inr t)):fix f s=some t:=by rw[sQ,h]
theorem Yu{f:S->Ay0 (S⊕T)}{s s':S}(h:f s=some (.inl s')):fix f s=fix f s':=by rw[sQ,h]
theorem yo(σ:X->S)(τ:Y->T)(f:S->Ay0 (S⊕T))(g:X->Ay0 (X⊕Y))(h:∀x,f (σ x)=(g x).map (Sum.map σ τ))(x:X) :
    fix f (σ x)=(fix g x).map τ:=by
 apply Option.ext;intro t;rw[QZ];constructor
 ·intro ht;generalize hs:σ x=s at ht;induction ht generalizing x with
  |@done s t hd =>
   subst hs;rw[h]at hd;cases hg:g x with
   |none=>rw[hg]at hd;cases hd
   |some r=>rw[hg]at hd;cases r with
    |inl x'=>cases hd
    |inr y=>injection hd with hd;injection hd with hd;subst hd;rw[Yt hg];rfl
  |@WM s s' t hd _ ih =>
   subst hs;rw[h]at hd;cases hg:g x with
   |none=>rw[hg]at hd;cases hd
   |some r=>rw[hg]at hd;cases r with
    |inl x'=>injection hd with hd;injection hd with hd;rw[Yu hg];exact ih x' hd
    |inr y=>injection hd with hd;cases hd
 ·intro ht;cases hf:fix g x with
  |none=>rw[hf]at ht;cases ht
  |some y =>
   rw[hf]at ht;injection ht with ht;subst ht;have oM:=QZ.1 hf;clear hf;induction oM with
   |done hd=>exact .done (by rw[h,hd];rfl)
   |WM hd _ ih=>exact .WM (by rw[h,hd];rfl) ih
end
theorem uz{A B:Type}(f:A->B)(c:Bool)(x y:Ay0 A):(bif c then x else y).map f=bif c then x.map f else y.map f:=by cases c<;>rfl
theorem zc{A B:Type}(f:A->B)(c:Prop)[Decidable c](x y:Ay0 A):(if c then x else y).map f=if c then x.map f else y.map f:=by split<;>rfl
theorem uy{A B C:Type}(f:B->C)(x:Ay0 A)(k:A->Ay0 B):(x.bind k).map f=x.bind λy=>(k y).map f:=by cases x<;>rfl
theorem X3{A B C:Type}(f:A->B)(x:Ay0 A)(k:B->Ay0 C):(x.map f).bind k=x.bind λy=>k (f y):=by cases x<;>rfl
def sub:Code->AyZ Nat->Code
 |c,[]=>c
 |.seq a b,n::p=>match n with |0=>sub a p |_=>sub b p
 |.cond _ a b,n::p=>match n with |0=>sub a p |_=>sub b p
 |.block _ a,_::p=>sub a p
 |.loop a,_::p=>sub a p
 |_,_=>.skip
noncomputable def oR(en:Fe)(m:Nat)(R:Type):Code->AyZ Nat->(Ex->St->Ay0 R)->Ex->St->Ay0 R
 |_,[],K=>K
 |.seq a b,n::p,K=>match n with
  |0=>oR en m R a p λe σ=>match e with
   |.normal=>ev en m b R σ K
   |.exit n=>K (.exit n) σ
   |.ret=>K .ret σ
  |_=>oR en m R b p K
 |.cond _ a b,n::p,K=>match n with |0=>oR en m R a p K |_=>oR en m R b p K
 |.block n a,_::p,K=>oR en m R a p λe σ=>match e with
  |.normal=>K .normal σ
  |.exit k=>bif k==n then K .normal σ else K (.exit k) σ
  |.ret=>K .ret σ
 |_,_,_=>λ_ _=>none
noncomputable def Aou(m:Nat)(h ho:SH)(e:Ex)(s':St):Ay0 (St⊕(Ex×St)):=match e with
    |.normal=>(s'.head h m).bind λTR=>some (.inl TR)
    |.exit n=>(s'.head ho m).bind λTR=>some (.inr (.exit n,TR))
    |.ret=>(s'.head ho m).bind λTR=>some (.inr (.ret,TR))
noncomputable def Aof(m:Nat)(h:SH)(e:Ex)(σ:St):Ay0 (Ex×St):=(σ.head h m).bind λσ'=>some (e,σ')
noncomputable def bR(en:Fe)(m:Nat)(h ho:SH)(body:Code)(s:St):Ay0 (St⊕(Ex×St)) :=
 ev en m body (St⊕(Ex×St)) s λe s'=>match e with
  |.normal=>(s'.head h m).bind λTR=>some (.inl TR)
  |.exit n=>(s'.head ho m).bind λTR=>some (.inr (.exit n,TR))
  |.ret=>(s'.head ho m).bind λTR=>some (.inr (.ret,TR))
noncomputable def Aog(en:Fe)(m:Nat)(h:SH)(a:Code)(s:St):Ay0 (Ex×St):=ev en m a (Ex×St) s λe σ=>(σ.head h m).bind λσ'=>some (e,σ')
noncomputable def A6(en:Fe)(fn:Func)(m:Nat)(R:Type)(K:AV->AyZ Blk->Ay0 R)(e:Ex)(σ:St):Ay0 R :=
 match e with
 |.exit _=>none
 |_=>match T5 m en.fi.Sl σ with
  |none=>none
  |some σ=>match Xz en.C6 σ fn.results.toList with
  |some l=>match cJ m en.fi.Ph l σ.Ag with
   |some (l,bs)=>match Vp en.fi.jo l bs with
    |some (l',FQ)=>match YS m FQ (ib l')with
     |some (v,bs)=>K v bs
     |none=>none
    |none=>none
   |none=>none
  |none=>none
def mkS:Nat->Nat->AyZ (Nat×AV)->AyZ AV
 |0,_,_=>[]
 |n+1,i,[]=>.un 0::mkS n (i+1) []
 |n+1,i,(j,v)::r=>if i==j then v::mkS n (i+1) r else .un 0::mkS n (i+1) ((j,v)::r)
end Go.Va
namespace Go.Va
inductive Pp where
 |no |GH |Bs (k:Nat) (p:List Nat)
structure BI where
 a:Option Addr
 len:Nat
 cap:Nat
 aL:Nat
structure G where
 own:Nat->Pp
 AK:Nat->BI
def Ca{α:Type}(R:α->AyZ Value->Prop):AyZ α->AyZ Value->Prop
 |[],cs=>cs=[]
 |x::xs,cs=>∃c d,cs=c++d/\R x c/\Ca R xs d
def A5{α:Type}(R:Nat->α->AyZ Value->Prop):Nat->AyZ α->AyZ Value->Prop
 |_,[],cs=>cs=[]
 |i,x::xs,cs=>∃c d,cs=c++d/\R i x c/\A5 R (i+1) xs d
def FX(w:World)(A:Nat->Prop):(t:Ty)->t.V->AyZ Value->Prop
 |.int k,x,cs=>cs=[.int k x]
 |.bool,b,cs=>cs=[.bool b]
 |.str,s,cs=>cs=[.string s]
 |.unit,_,cs=>cs=[]
 |.AH a b,x,cs=>∃c d,cs=c++d/\FX w A a x.1 c/\FX w A b x.2 d
 |.sl t,xs,cs=>∃ad cap ds,cs=[.slice ad xs.length cap]/\xs.length<=cap/\Ca (FX w A t) xs ds /\
     (xs=[]\/∃b off,ad=some ⟨b,off,none⟩/\A b/\∀j u,ds[j]?=some u->w.cell? ⟨b,off+j,none⟩=some u)
 |.O3 _,_,_=>False
def Ht(w:World)(own:Nat->Pp)(k:Nat):(t:Ty)->AyZ Nat->t.V->AyZ Value->Prop
 |.int k',_,x,cs=>cs=[.int k' x]
 |.bool,_,b,cs=>cs=[.bool b]
 |.str,_,s,cs=>cs=[.string s]
 |.unit,_,_,cs=>cs=[]
 |.AH a b,p,x,cs=>∃c d,cs=c++d/\Ht w own k a (0::p) x.1 c/\Ht w own k b (1::p) x.2 d
 |.sl t,p,xs,cs=>∃ad cap,cs=[.slice ad xs.length cap]/\((xs=[]/\cap=0)\/∃b e Bh ds,ad=some ⟨b,0,none⟩/\own b=.Bs k p /\
     w.heap[b]?=some (.cells Bh e (0,0))/\xs.length<=cap/\cap<=maxLen/\Bh.size=cap*t.size/\Bh.toList.take (xs.length*t.size)=ds/\A5 (λi=>Ht w own k t (i::p)) 0 xs ds)
 |.O3 _,_,_,_=>False
def Al(own:Nat->Pp)(ks:AyZ Nat)(b:Nat):Prop:=own b=.GH\/∃k∈ks,∃p,own b=.Bs k p
def AV.KT:AV->Bool
 |.un _=>true
 |_=>false
def BV(agg:Bool)(cs:AyZ Value)(v:Value):Prop:=bif agg then v=.agg cs.toArray else cs=[v]
def B9(w:World)(g:G)(n:Nat):Bool->AV->AyZ Value->Prop
 |false,.Aw ks t x,cs=>(∀k∈ks,k<n)/\FX w (Al g.own ks) t x cs
 |false,.zs,cs=>∃ad,cs=[.slice ad 0 0]
 |false,.AA k,cs=>k<n/\cs=[.slice (g.AK k).a (g.AK k).len (g.AK k).cap]
 |false,.ptr k i _ o,cs=>k<n/\0<=i/\i.toNat<(g.AK k).len/\∃b,(g.AK k).a=some ⟨b,0,none⟩/\cs=[.pointer (some ⟨b,i.toNat*(g.AK k).aL+o,none⟩)]
 |false,.D7 ks t x,cs=>(∀k∈ks,k<n)/\∃b off ds,cs=[.pointer (some ⟨b,off,none⟩)]/\Al g.own ks b/\FX w (Al g.own ks) t x ds/\∀j u,ds[j]?=some u->w.cell? ⟨b,off+j,none⟩=some u
 |false,.JH,cs=>cs=[.pointer none]
 |false,.O1 k i _ o _,cs=>k<n/\0<=i/\i.toNat<(g.AK k).len/\∃b v,(g.AK k).a=some ⟨b,0,none⟩/\g.own b=.Bs k []/\cs=[v]/\v.oneCell'=true/\w.cell? ⟨b,i.toNat*(g.AK k).aL+o,none⟩=some v
 |false,.QF k i _ o j u,cs=>k<n/\0<=i/\i.toNat<(g.AK k).len/\∃b b' l c,(g.AK k).a=some ⟨b,0,none⟩/\g.own b=.Bs k []/\cs=[.pointer (some ⟨b',j.toNat*u.size,none⟩)]/\(0<=j/\j.toNat<l)/\w.cell? ⟨b,i.toNat*(g.AK k).aL+o,none⟩=some (.slice (some ⟨b',0,none⟩) l c)
 |false,.mp k,cs=>k<n/\∃b,(g.AK k).a=some ⟨b,0,none⟩/\cs=[.map (some b)]
 |false,.pr a b,cs=>∃c d,cs=c++d/\B9 w g n false a c/\B9 w g n false b d
 |false,.fn f c,cs=>∃vs,cs=[.func (.func f) #[] vs.toArray]/\B9 w g n true c vs
 |false,.un k,cs=>cs.length=k/\∀v∈cs,v.oneCell'=true
 |true,.cons a b,vs=>∃v r,vs=v::r/\(a.KT=true\/∃cs,B9 w g n false a cs/\BV a.isAgg cs v)/\B9 w g n true b r
 |true,.nil,vs=>vs=[]
 |_,_,_=>False
def BF(w:World)(g:G)(n:Nat):AV->Value->Prop
 |.cons a b,v=>∃vs,v=.tuple vs.toArray/\B9 w g n true (.cons a b) vs
 |.nil,v=>v=.tuple #[]
 |a,v=>a.KT=true\/∃cs,B9 w g n false a cs/\BV a.isAgg cs v
def OV(w:World)(own:Nat->Pp)(k:Nat):RM->(t:Ty)->Nat->t.V->AyZ Value->Prop
 |.Ao,t,i,x,cs=>Ht w own k t [i] x cs
 |.sh ks,t,_,x,cs=>FX w (Al own ks) t x cs
def nP(w:World)(own:Nat->Pp)(k:Nat):RM->(t:Ty)->AyZ t.V->AyZ Value->Prop
 |.Ao,t,xs,ds=>A5 (λi=>Ht w own k t [i]) 0 xs ds
 |.sh ks,t,xs,ds=>Ca (FX w (Al own ks) t) xs ds
def Qc(w:World)(b e:Nat)(Bh:Array Value):Prop:=∃el,(e=0\/el=e)/\w.heap[b]?=some (.cells Bh el (0,0))
def DU:(t:Ty)->t.V->Value
 |.int k,x=>.int k x
 |.str,s=>.string s
 |.AH (.int q) (.AH (.int q') .unit),x=>.agg #[.int q x.1,.int q' x.2.1]
 |_,_=>.nilIface
def QN(w:World)(own:Nat->Pp)(k:Nat)(md:RM)(kt vt:Ty)(st:Ay0 kt.V):Nat->AyZ (kt.V×vt.V)->AyZ MapEntry->Prop
 |_,[],ms=>ms=[]
 |i,x::xs,ms=>∃m r,ms=m::r/\(m.key=DU kt x.1/\m.born=i)/\(st=some x.1\/∃cs,OV w own k md vt i x.2 cs/\BV vt.isAgg cs m.val)/\QN w own k md kt vt st (i+1) xs r
def J2(w:World)(g:G)(n k:Nat):Blk->Prop
 |.box a=>(g.AK k).len=1/\∃b cs e,(g.AK k).a=some ⟨b,0,none⟩/\g.own b=.Bs k []/\w.heap[b]?=some (.cells cs e (0,0))/\B9 w g n false a cs.toList
 |.row e m t xs=>(∀j∈m.BX,j<n)/\(g.AK k).len=xs.length/\(g.AK k).aL=t.size/\0<t.size/\((xs=[]/\(g.AK k).cap=0)\/∃b Bh ds,(g.AK k).a=some ⟨b,0,none⟩/\g.own b=.Bs k [] /\
     Qc w b e Bh/\xs.length<=(g.AK k).cap/\(g.AK k).cap<=maxLen/\Bh.size=(g.AK k).cap*t.size/\Bh.toList.take (xs.length*t.size)=ds/\nP w g.own k m t xs ds)
 |.map md kt vt es st=>(∀j∈md.BX,j<n)/\∃b FK CL,(g.AK k).a=some ⟨b,0,none⟩/\g.own b=.Bs k []/\w.heap[b]?=some (.map FK CL)/\((es.map (·.1)).Nodup/\CL=FK.size)/\QN w g.own k md kt vt st 0 es FK.toList
 |.Nh e t xs i p=>(g.AK k).len=xs.length/\(g.AK k).aL=t.size/\0<t.size/\0<=i/\i.toNat<xs.length/\∃u o x0 b Bh ds,IP t p=some o/\vX t p=some (.sl u)/\Oj (.sl u) [] p t (xs.getD i.toNat t.zero)=some x0 /\
     (g.AK k).a=some ⟨b,0,none⟩/\g.own b=.Bs k []/\Qc w b e Bh/\xs.length<=(g.AK k).cap/\(g.AK k).cap<=maxLen/\Bh.size=(g.AK k).cap*t.size /\
     (Bh.setIfInBounds (i.toNat*t.size+o) (.slice none 0 0)).toList.take (xs.length*t.size)=ds/\A5 (λj=>Ht w g.own k t [j]) 0 (xs.set i.toNat x0) ds
 |.tail e t xs=>t.Bu=true/\(g.AK k).len=xs.length/\(g.AK k).aL=t.size/\0<t.size/\((xs=[]/\(g.AK k).cap=0)\/∃b o Bh ds,(g.AK k).a=some ⟨b,o,none⟩/\g.own b=.Bs k [] /\
     Qc w b e Bh/\xs.length<=(g.AK k).cap/\(g.AK k).cap<=maxLen/\Bh.size=o+(g.AK k).cap*t.size/\(Bh.toList.drop o).take (xs.length*t.size)=ds/\nP w g.own k .Ao t xs ds)
 |.Be=>True
structure A1 (w:World) (g:G) (bs:List Blk):Prop where
 Bz:∀b,w.heap.size<=b->g.own b=.no
 Js:∀k x,bs[k]?=some x->J2 w g bs.length k x
structure Step (Bg:List Nat) (n:Nat) (w:World) (g:G) (w':World) (g':G):Prop where
 os:w'.os=w.os
 tape:w'.tape=w.tape
 output:w'.output=w.output
 size:w.heap.size<=w'.heap.size
 no:∀b,b<w.heap.size->g.own b=.no->g'.own b=.no/\w'.heap[b]?=w.heap[b]?
 GH:∀b,g.own b=.GH->g'.own b=.GH/\w'.heap[b]?=w.heap[b]?
 Bs:∀b k p,g.own b=.Bs k p->k<n->k∉Bg->g'.own b=.Bs k p/\w'.heap[b]?=w.heap[b]?
 AK:∀k,k<n->g'.AK k=g.AK k
section
variable {α:Type} {R S:α->AyZ Value->Prop} {I J:Nat->α->AyZ Value->Prop}
theorem Ca.mono(h:∀x c,R x c->S x c):∀{xs cs},Ca R xs cs->Ca S xs cs
 |[],_,hc=>hc
 |_::_,_,⟨c,d,e,r,l⟩=>⟨c,d,e,h _ _ r,l.mono h⟩
theorem A5.mono(h:∀i x c,I i x c->J i x c):∀{i xs cs},A5 I i xs cs->A5 J i xs cs
 |_,[],_,hc=>hc
 |_,_::_,_,⟨c,d,e,r,l⟩=>⟨c,d,e,h _ _ _ r,l.mono h⟩
theorem A5.toR(h:∀i x c,I i x c->S x c):∀{i xs cs},A5 I i xs cs->Ca S xs cs
 |_,[],_,hc=>hc
 |_,_::_,_,⟨c,d,e,r,l⟩=>⟨c,d,e,h _ _ _ r,l.toR h⟩
theorem Ca.toI(h:∀i x c,R x c->J i x c):∀{i xs cs},Ca R xs cs->A5 J i xs cs
 |_,[],_,hc=>hc
 |_,_::_,_,⟨c,d,e,r,l⟩=>⟨c,d,e,h _ _ _ r,Ca.toI h l⟩
theorem Ca.append:∀{xs ys cs ds},Ca R xs cs->Ca R ys ds->Ca R (xs++ys) (cs++ds)
 |[],_,_,_,h,k=>by cases h;exact k
 |_::_,_,_,_,⟨c,d,e,r,l⟩,k=>⟨c,d++_,by grind,r,l.append k⟩
theorem A5.append:∀{i xs ys cs ds},A5 I i xs cs->A5 I (i+xs.length) ys ds->A5 I i (xs++ys) (cs++ds)
 |_,[],_,_,_,h,k=>by cases h;exact k
 |i,_::xs,_,_,ds,⟨c,d,e,r,l⟩,k=>by
  subst e;exact⟨c,d++ds,Awh ..,r,l.append (by grind)⟩
theorem Ca.len{s:Nat}(h:∀x c,R x c->c.length=s):∀{xs cs},Ca R xs cs->cs.length=xs.length*s
 |[],_,hc=>by cases hc;simp
 |_::xs,_,⟨c,d,e,r,l⟩=>by
  have h1:=h _ _ r;have h2:=l.len h
  grind
theorem A5.len{s:Nat}(h:∀i x c,I i x c->c.length=s){i xs cs}(l:A5 I i xs cs):cs.length=xs.length*s :=
 Ca.len (R:=λx c=>∃i,I i x c) (λx c ⟨i,r⟩=>h i x c r) (l.toR λi _ _ r=>⟨i,r⟩)
theorem A5.AK{s:Nat}(hs:∀i x c,I i x c->c.length=s):∀{j i xs cs},A5 I j xs cs->(hi:i<xs.length) ->
    ∃c0 c d,cs=c0++c++d/\c0.length=i*s/\I (j+i) xs[i] c/\A5 I j (xs.take i) c0/\A5 I (j+i+1) (xs.drop (i+1)) d
 |j,0,x::xs,_,⟨c,d,e,r,l⟩,_=>⟨[],c,d,e,by simp,r,rfl,l⟩
 |j,i+1,x::xs,_,⟨c,d,e,r,l⟩,hi=>by
  obtain⟨c0,c1,d1,e1,hl,hr,ht,hd⟩:=l.AK hs (i:=i) (by grind);refine⟨c++c0,c1,d1,by grind,?_,?_,⟨c,c0,rfl,r,?_⟩,?_⟩
  ·grind
  ·grind
  ·grind
  grind
theorem A5.join:∀{j i:Nat} {xs:AyZ α} {c0 c d:AyZ Value} {x:α},i<xs.length->A5 I j (xs.take i) c0->I (j+i) x c->A5 I (j+i+1) (xs.drop (i+1)) d->A5 I j (xs.set i x) (c0++c++d)
 |j,0,_::xs,c0,c,d,x,_,ht,hr,hd=>by cases ht;exact⟨c,d,rfl,hr,hd⟩
 |j,i+1,y::xs,_,c,d,x,hi,⟨c1,c2,e,r,l⟩,hr,hd=>by
  subst e;refine⟨c1,c2++c++d,by grind,r,?_⟩;exact A5.join (by grind) l (by grind) (by grind)
theorem F8:∀{j xs cs},Ca R xs cs↔A5 (λ_=>R) j xs cs
 |_,[],_=>Iff.rfl
 |_,_::_,_=>⟨λ⟨c,d,e,r,l⟩=>⟨c,d,e,r,F8.1 l⟩,λ⟨c,d,e,r,l⟩=>⟨c,d,e,r,F8.2 l⟩⟩
theorem Ca.AK{s:Nat}(hs:∀x c,R x c->c.length=s){i xs cs}(l:Ca R xs cs)(hi:i<xs.length) :
    ∃c0 c d,cs=c0++c++d/\c0.length=i*s/\R xs[i] c/\Ca R (xs.take i) c0/\Ca R (xs.drop (i+1)) d:=by
 obtain⟨c0,c,d,e,hl,hr,ht,hd⟩:=A5.AK  (λ_ x c=>hs x c) (F8 (j:=0).1 l) hi;exact⟨c0,c,d,e,hl,hr,F8.2 ht,F8.2 hd⟩
theorem Ca.join{i:Nat}{xs:AyZ α}{c0 c d:AyZ Value}{x:α}(hi:i<xs.length)(ht:Ca R (xs.take i) c0)(hr:R x c)(hd:Ca R (xs.drop (i+1)) d):Ca R (xs.set i x) (c0++c++d) :=
 F8 (j:=0).2 (A5.join hi (F8.1 ht) hr (F8.1 hd))
theorem A5.takeN{s:Nat}(hs:∀i x c,I i x c->c.length=s):∀{j xs cs} (n:Nat),A5 I j xs cs->A5 I j (xs.take n) (cs.take (n*s))
 |_,[],_,n,h=>by cases h;simp[A5]
 |_,_::_,_,0,_=>by simp[A5]
 |j,x::xs,_,n+1,⟨c,d,e,r,l⟩=>by
  subst e;have hc:=hs _ _ _ r;refine⟨c,d.take _,?_,r,l.takeN hs n⟩;rw[List.take_append,hc,Awj (by grind),show(n+1)*s-s=n*s by grind]
theorem Ca.takeN{s:Nat}(hs:∀x c,R x c->c.length=s){xs cs}(n:Nat)(l:Ca R xs cs):Ca R (xs.take n) (cs.take (n*s)) :=
 F8 (j:=0).2 (A5.takeN (λ_ x c=>hs x c) n (F8.1 l))
theorem Ca.sE{s:Nat}(hs:∀x c,R x c->c.length=s):∀{xs cs} (n:Nat),Ca R xs cs->Ca R (xs.drop n) (cs.drop (n*s))
 |[],_,n,h=>by cases h;simp[Ca]
 |_::_,_,0,h=>by grind
 |x::xs,_,n+1,⟨c,d,e,r,l⟩=>by
  subst e;have hc:=hs _ _ r;have h1:List.drop ((n+1)*s) c=[]:=List.drop_of_length_le (by grind);rw[List.drop_append,hc,h1,show(n+1)*s-s=n*s by grind];exact l.sE hs n
end
end Go.Va
namespace Go.Va
theorem QU{w w':World}{b o:Nat}(h:w'.heap[b]?=w.heap[b]?):w'.cell? ⟨b,o,none⟩=w.cell? ⟨b,o,none⟩:=by simp[World.cell?,h]
theorem Mi{w:World}{b o:Nat}{cs:Array Value}{e:TypeId}{fr:Nat×Nat}(h:w.heap[b]?=some (.cells cs e fr)):w.cell? ⟨b,o,none⟩=cs[o]?:=by simp[World.cell?,h]
theorem FX.len{w:World}{A:Nat->Prop}:∀{t:Ty} {x:t.V} {cs:AyZ Value},FX w A t x cs->cs.length=t.size
 |.int _,_,_,h=>by cases h;rfl
 |.bool,_,_,h=>by cases h;rfl
 |.str,_,_,h=>by cases h;rfl
 |.unit,_,_,h=>by cases h;rfl
 |.AH _ _,_,_,⟨_,_,e,h1,h2⟩=>by subst e;rw[Awd,h1.len,h2.len];rfl
 |.sl _,_,_,⟨_,_,_,e,_⟩=>by subst e;rfl
 |.O3 _,_,_,h=>h.elim
theorem Ht.len{w:World}{own:Nat->Pp}{k:Nat}:∀{t:Ty} {p:AyZ Nat} {x:t.V} {cs:AyZ Value},Ht w own k t p x cs->cs.length=t.size
 |.int _,_,_,_,h=>by cases h;rfl
 |.bool,_,_,_,h=>by cases h;rfl
 |.str,_,_,_,h=>by cases h;rfl
 |.unit,_,_,_,h=>by cases h;rfl
 |.AH _ _,_,_,_,⟨_,_,e,h1,h2⟩=>by subst e;rw[Awd,h1.len,h2.len];rfl
 |.sl _,_,_,_,⟨_,_,e,_⟩=>by subst e;rfl
 |.O3 _,_,_,_,h=>h.elim
theorem FX.one{w:World}{A:Nat->Prop}:∀{t:Ty} {x:t.V} {cs:AyZ Value},FX w A t x cs->∀v∈cs,v.oneCell'=true
 |.int _,_,_,h,v,hv=>by cases h;simp at hv;subst hv;rfl
 |.bool,_,_,h,v,hv=>by cases h;simp at hv;subst hv;rfl
 |.str,_,_,h,v,hv=>by cases h;simp at hv;subst hv;rfl
 |.unit,_,_,h,v,hv=>by cases h;simp at hv
 |.AH _ _,_,_,⟨_,_,e,h1,h2⟩,v,hv=>by
  subst e;rcases List.mem_append.1 hv with hv |hv
  ·exact h1.one v hv
  ·exact h2.one v hv
 |.sl _,_,_,⟨_,_,_,e,_⟩,v,hv=>by subst e;simp at hv;subst hv;rfl
 |.O3 _,_,_,h,_,_=>h.elim
theorem Ht.one{w:World}{own:Nat->Pp}{k:Nat}:∀{t:Ty} {p:AyZ Nat} {x:t.V} {cs:AyZ Value},Ht w own k t p x cs->∀v∈cs,v.oneCell'=true
 |.int _,_,_,_,h,v,hv=>by cases h;simp at hv;subst hv;rfl
 |.bool,_,_,_,h,v,hv=>by cases h;simp at hv;subst hv;rfl
 |.str,_,_,_,h,v,hv=>by cases h;simp at hv;subst hv;rfl
 |.unit,_,_,_,h,v,hv=>by cases h;simp at hv
 |.AH _ _,_,_,_,⟨_,_,e,h1,h2⟩,v,hv=>by
  subst e;rcases List.mem_append.1 hv with hv |hv
  ·exact h1.one v hv
  ·exact h2.one v hv
 |.sl _,_,_,_,⟨_,_,e,_⟩,v,hv=>by subst e;simp at hv;subst hv;rfl
 |.O3 _,_,_,_,h,_,_=>h.elim
theorem Ca.all{α:Type}{R:α->AyZ Value->Prop}{P:Value->Prop}(h:∀x c,R x c->∀v∈c,P v):∀{xs cs},Ca R xs cs->∀v∈cs,P v
 |[],_,hc,v,hv=>by cases hc;simp at hv
 |_::_,_,⟨c,d,e,r,l⟩,v,hv=>by
  subst e;rcases List.mem_append.1 hv with hv |hv
  ·grind
  ·exact l.all h v hv
theorem A5.all{α:Type}{I:Nat->α->AyZ Value->Prop}{P:Value->Prop}(h:∀i x c,I i x c->∀v∈c,P v){i xs cs}(l:A5 I i xs cs):∀v∈cs,P v :=
 Ca.all (R:=λx c=>∃i,I i x c) (λx c ⟨i,r⟩=>h i x c r) (l.toR λi _ _ r=>⟨i,r⟩)
theorem FX.mono{w w':World}{A A':Nat->Prop}(h:∀b,A b->A' b/\w'.heap[b]?=w.heap[b]?):∀{t:Ty} {x:t.V} {cs:AyZ Value},FX w A t x cs->FX w' A' t x cs
 |.int _,_,_,r=>r
 |.bool,_,_,r=>r
 |.str,_,_,r=>r
 |.unit,_,_,r=>r
 |.AH _ _,_,_,⟨c,d,e,h1,h2⟩=>⟨c,d,e,h1.mono h,h2.mono h⟩
 |.sl _,_,_,⟨ad,cap,ds,e,hl,l,hm⟩=>⟨ad,cap,ds,e,hl,l.mono λ_ _ r=>r.mono h,hm.imp id λ⟨b,off,ha,hA,hc⟩ =>
     ⟨b,off,ha,(h b hA).1,λj u hu=>(QU (h b hA).2).trans (hc j u hu)⟩⟩
 |.O3 _,_,_,r=>r
theorem Ht.mono{w w':World}{own KU:Nat->Pp}{k k':Nat}:∀{t:Ty} {p p':AyZ Nat} {x:t.V} {cs:AyZ Value},
    (∀b q,own b=.Bs k (q++p)->KU b=.Bs k' (q++p')/\w'.heap[b]?=w.heap[b]?)->Ht w own k t p x cs->Ht w' KU k' t p' x cs
 |.int _,_,_,_,_,_,r=>r
 |.bool,_,_,_,_,_,r=>r
 |.str,_,_,_,_,_,r=>r
 |.unit,_,_,_,_,_,r=>r
 |.AH _ _,p,p',_,_,h,⟨c,d,e,h1,h2⟩=>⟨c,d,e,
     h1.mono (λb q hb=>by have:=h b (q++[0]) (by grind);simpa using this),
     h2.mono (λb q hb=>by have:=h b (q++[1]) (by grind);simpa using this)⟩
 |.sl _,p,p',_,_,h,⟨ad,cap,e,hm⟩=>⟨ad,cap,e,hm.imp id λ⟨b,el,Bh,ds,ha,hb,hh,h1,h2,h3,h4,l⟩ =>
     ⟨b,el,Bh,ds,ha,(h b [] hb).1,(h b [] hb).2.trans hh,h1,h2,h3,h4,l.mono λi x c r=>r.mono (λb q hb=>by have:=h b (q++[i]) (by grind);simpa using this)⟩⟩
 |.O3 _,_,_,_,_,_,r=>r
theorem QN.on{w w':World}{own KU:Nat->Pp}{k k':Nat}{md md':RM}{kt vt:Ty}{st:Ay0 kt.V}(h:∀(i:Nat) (x:vt.V) (cs:AyZ Value),OV w own k md vt i x cs->OV w' KU k' md' vt i x cs):∀{i:Nat} {es:AyZ (kt.V×vt.V)} {ms:AyZ MapEntry},QN w own k md kt vt st i es ms->QN w' KU k' md' kt vt st i es ms
 |_,[],_,r=>r
 |i,x::xs,_,⟨m,r,e,hk,hv,hr⟩=>⟨m,r,e,hk,hv.imp id λ⟨cs,ho,ha⟩=>⟨cs,h i x.2 cs ho,ha⟩,hr.on h⟩
theorem Ht.rd{w:World}{own:Nat->Pp}{k:Nat}{A:Nat->Prop}(h:∀b q,own b=.Bs k q->A b):∀{t:Ty} {p:AyZ Nat} {x:t.V} {cs:AyZ Value},Ht w own k t p x cs->FX w A t x cs
 |.int _,_,_,_,r=>r
 |.bool,_,_,_,r=>r
 |.str,_,_,_,r=>r
 |.unit,_,_,_,r=>r
 |.AH _ _,_,_,_,⟨c,d,e,h1,h2⟩=>⟨c,d,e,h1.rd h,h2.rd h⟩
 |.sl t,_,xs,_,⟨ad,cap,e,hm⟩=>by
  rcases hm with ⟨hx,hc⟩|⟨b,el,Bh,ds,ha,hb,hh,h1,h2,h3,h4,l⟩
  ·subst hx;exact⟨ad,cap,[],e,AwW _,rfl,.inl rfl⟩
  ·refine⟨ad,cap,ds,e,h1,l.toR λi x c r=>r.rd h,.inr ⟨b,0,ha,h b _ hb,λj u hu=>?_⟩⟩;rw[Mi hh,AwF,<-Awn]
   grind
 |.O3 _,_,_,_,r=>r
def H5:(t:Ty)->t.V->AyZ Value
 |.int k,x=>[.int k x]
 |.bool,b=>[.bool b]
 |.str,s=>[.string s]
 |.unit,_=>[]
 |.AH a b,x=>H5 a x.1++H5 b x.2
 |.sl _,_=>[]
 |.O3 _,_=>[]
theorem FX.Bu{w:World}{A:Nat->Prop}:∀{t:Ty} {x:t.V} {cs:AyZ Value},t.Bu=true->(FX w A t x cs↔cs=H5 t x)
 |.int _,_,_,_=>Iff.rfl
 |.bool,_,_,_=>Iff.rfl
 |.str,_,_,_=>Iff.rfl
 |.unit,_,_,_=>Iff.rfl
 |.AH a b,x,cs,h=>by
  simp only[Ty.Bu,Awg]at h;constructor
  ·rintro⟨c,d,e,h1,h2⟩
   rw[e,(FX.Bu h.1).1 h1,(FX.Bu h.2).1 h2];rfl
  ·intro e;exact⟨_,_,e,(FX.Bu h.1).2 rfl,(FX.Bu h.2).2 rfl⟩
 |.sl _,_,_,h=>by simp[Ty.Bu]at h
 |.O3 _,_,_,h=>by simp[Ty.Bu]at h
theorem Ht.Bu{w:World}{own:Nat->Pp}{k:Nat}:∀{t:Ty} {p:AyZ Nat} {x:t.V} {cs:AyZ Value},t.Bu=true->(Ht w own k t p x cs↔cs=H5 t x)
 |.int _,_,_,_,_=>Iff.rfl
 |.bool,_,_,_,_=>Iff.rfl
 |.str,_,_,_,_=>Iff.rfl
 |.unit,_,_,_,_=>Iff.rfl
 |.AH a b,p,x,cs,h=>by
  simp only[Ty.Bu,Awg]at h;constructor
  ·rintro⟨c,d,e,h1,h2⟩
   rw[e,(Ht.Bu h.1).1 h1,(Ht.Bu h.2).1 h2];rfl
  ·intro e;exact⟨_,_,e,(Ht.Bu h.1).2 rfl,(Ht.Bu h.2).2 rfl⟩
 |.sl _,_,_,_,h=>by simp[Ty.Bu]at h
 |.O3 _,_,_,_,h=>by simp[Ty.Bu]at h
def M7:Ty->AyZ Value
 |.int k=>[.int k 0]
 |.bool=>[.bool false]
 |.str=>[.string ⟨#[]⟩]
 |.unit=>[]
 |.AH a b=>M7 a++M7 b
 |.sl _=>[.slice none 0 0]
 |.O3 0=>[.pointer none]
 |.O3 1=>[.map none]
 |.O3 _=>[.nilFunc]
theorem NQ:∀t:Ty,(M7 t).length=t.size
 |.int _=>rfl
 |.bool=>rfl
 |.str=>rfl
 |.unit=>rfl
 |.AH a b=>by simp[M7,NQ a,NQ b,Ty.size]
 |.sl _=>rfl
 |.O3 0=>rfl
 |.O3 1=>rfl
 |.O3 (_+2)=>rfl
theorem Ht.zero{w:World}{own:Nat->Pp}{k:Nat}:∀{t:Ty} {p:AyZ Nat},t.data=true->Ht w own k t p t.zero (M7 t)
 |.int _,_,_=>rfl
 |.bool,_,_=>rfl
 |.str,_,_=>rfl
 |.unit,_,_=>rfl
 |.AH a b,p,h=>by
  simp only[Ty.data,Awg]at h;exact⟨_,_,rfl,Ht.zero h.1,Ht.zero h.2⟩
 |.sl t,p,_=>⟨none,0,rfl,.inl ⟨rfl,rfl⟩⟩
 |.O3 _,_,h=>by simp[Ty.data]at h
theorem FX.zero{w:World}{A:Nat->Prop}:∀{t:Ty},t.data=true->FX w A t t.zero (M7 t)
 |.int _,_=>rfl
 |.bool,_=>rfl
 |.str,_=>rfl
 |.unit,_=>rfl
 |.AH a b,h=>by
  simp only[Ty.data,Awg]at h;exact⟨_,_,rfl,FX.zero h.1,FX.zero h.2⟩
 |.sl t,_=>⟨none,0,[],rfl,Awf _,rfl,.inl rfl⟩
 |.O3 _,h=>by simp[Ty.data]at h
theorem Al.mono{own:Nat->Pp}{ks Uj:AyZ Nat}(h:∀k∈ks,k∈Uj){b:Nat}(a:Al own ks b):Al own Uj b:=a.imp id λ⟨k,hk,p,hp⟩=>⟨k,h k hk,p,hp⟩
theorem Al.step{Bg:AyZ Nat}{n:Nat}{w w':World}{g g':G}(s:Step Bg n w g w' g'){ks:AyZ Nat}(hn:∀k∈ks,k<n)(hm:∀k∈ks,k∉Bg){b:Nat}(a:Al g.own ks b) :
    Al g'.own ks b/\w'.heap[b]?=w.heap[b]?:=by
 rcases a with a |⟨k,hk,p,hp⟩
 ·exact⟨.inl (s.GH b a).1,(s.GH b a).2⟩
 ·have:=s.Bs b k p hp (hn k hk) (hm k hk);exact⟨.inr ⟨k,hk,p,this.1⟩,this.2⟩
theorem Step.refl(Bg:AyZ Nat)(n:Nat)(w:World)(g:G):Step Bg n w g w g :=
 ⟨rfl,rfl,rfl,Awf _,λ_ _ h=>⟨h,rfl⟩,λ_ h=>⟨h,rfl⟩,λ_ _ _ h _ _=>⟨h,rfl⟩,λ_ _=>rfl⟩
theorem Step.trans{m1 m2:AyZ Nat}{n n':Nat}{w w1 w2:World}{g g1 g2:G}(s:Step m1 n w g w1 g1)(t:Step m2 n' w1 g1 w2 g2)(hn:n<=n'):Step (m1++m2) n w g w2 g2 where
 os:=t.os.trans s.os
 tape:=t.tape.trans s.tape
 output:=t.output.trans s.output
 size:=AwD s.size t.size
 no b hb h:=by
  have h1:=s.no b hb h;have h2:=t.no b (AwL hb s.size) h1.1;exact⟨h2.1,h2.2.trans h1.2⟩
 GH b h:=by
  have h1:=s.GH b h;have h2:=t.GH b h1.1;exact⟨h2.1,h2.2.trans h1.2⟩
 Bs b k p h hk hm:=by
  have h1:=s.Bs b k p h hk (λe=>hm (AwH _ e));have h2:=t.Bs b k p h1.1 (AwL hk hn) (λe=>hm (AwI _ e));exact⟨h2.1,h2.2.trans h1.2⟩
 AK k hk:=(t.AK k (AwL hk hn)).trans (s.AK k hk)
theorem Step.weaken{m1 m2:AyZ Nat}{n n':Nat}{w w':World}{g g':G}(s:Step m1 n w g w' g')(hm:∀k∈m1,k∈m2)(hn:n'<=n):Step m2 n' w g w' g' :=
 ⟨s.os,s.tape,s.output,s.size,s.no,s.GH,λb k p h hk YC=>s.Bs b k p h (AwL hk hn) (λe=>YC (hm k e)),λk hk=>s.AK k (AwL hk hn)⟩
theorem Step.drew(Bg:AyZ Nat)(n:Nat)(w:World)(g:G):Step Bg n w g w.drew g :=
 ⟨rfl,rfl,rfl,Awf _,λ_ _ h=>⟨h,rfl⟩,λ_ h=>⟨h,rfl⟩,λ_ _ _ h _ _=>⟨h,rfl⟩,λ_ _=>rfl⟩
theorem Yo(RU:Nat->Bool)(a:AV):(a.drop RU).KT=true\/(a.drop RU).isAgg=a.isAgg:=by
 cases a with
 |Aw ks t x=>simp only[AV.drop];split;exact .inl rfl;exact .inr rfl
 |D7 ks t x=>simp only[AV.drop];split;exact .inl rfl;exact .inr rfl
 |O1 k i p o e=>simp only[AV.drop];split;exact .inl rfl;exact .inr rfl
 |QF k i p o j u=>simp only[AV.drop];split;exact .inl rfl;exact .inr rfl
 |_=>exact .inr rfl
theorem lV(RU:Nat->Bool)(a:AV)(h:a.KT=true):(a.drop RU).KT=true:=by
 cases a<;>simp_all [AV.KT,AV.drop]
theorem B9.step{Bg:AyZ Nat}{n n':Nat}{w w':World}{g g':G}(s:Step Bg n w g w' g')(hn:n<=n'):∀(a:AV) (m:Bool) {cs:AyZ Value},B9 w g n m a cs->B9 w' g' n' m (a.drop λk=>Bg.contains k) cs
 |.Aw ks t x,false,cs,⟨hk,r⟩=>by
  simp only[AV.drop];split
  ·exact⟨r.len,r.one⟩
  ·rename_i hb;have hm:∀k∈ks,k∉Bg:=λk hk hc=>hb (List.any_eq_true.2 ⟨k,hk,by grind⟩);exact⟨λk h=>AwL (hk k h) hn,r.mono λb a=>a.step s hk hm⟩
 |.zs,false,_,h=>h
 |.AA k,false,_,⟨hk,e⟩=>⟨AwL hk hn,by rw[s.AK k hk];exact e⟩
 |.mp k,false,_,⟨hk,b,hb,e⟩=>⟨AwL hk hn,b,by rw[s.AK k hk];exact hb,e⟩
 |.ptr k i p o,false,_,⟨hk,h0,h1,b,hb,e⟩=>⟨AwL hk hn,h0,by rw[s.AK k hk];exact h1,b,by rw[s.AK k hk];exact hb,by rw[s.AK k hk];exact e⟩
 |.D7 ks t x,false,cs,⟨hk,b,off,ds,e,ha,r,hc⟩=>by
  simp only[AV.drop];split
  ·subst e;exact⟨rfl,by intro v hv;simp at hv;subst hv;rfl⟩
  ·rename_i hb;have hm:∀k∈ks,k∉Bg:=λk hk hc=>hb (List.any_eq_true.2 ⟨k,hk,by grind⟩);exact⟨λk h=>AwL (hk k h) hn,b,off,ds,e,(ha.step s hk hm).1,r.mono λb a=>a.step s hk hm,λj u hu=>(QU (ha.step s hk hm).2).trans (hc j u hu)⟩
 |.JH,false,_,h=>h
 |.pr a b,false,_,⟨c,d,e,h1,h2⟩=>⟨c,d,e,B9.step s hn a _ h1,B9.step s hn b _ h2⟩
 |.fn f c,false,_,⟨vs,e,h⟩=>⟨vs,e,B9.step s hn c true h⟩
 |.un k,false,_,h=>h
 |.cons a b,true,_,⟨v,r,e,h1,h2⟩=>by
  refine⟨v,r,e,?_,B9.step s hn b true h2⟩;rcases Yo (λk=>Bg.contains k) a with hd |hd
  ·grind
  ·exact h1.imp (lV _ a) λ⟨cs,h,hv⟩=>⟨cs,B9.step s hn a _ h,by grind⟩
 |.nil,true,_,h=>h
 |.cons _ _,false,_,h=>h.elim
 |.nil,false,_,h=>h.elim
 |.O1 k i p o e,false,_,⟨hk,h0,h1,b,v,ha,ho,e1,e2,hc⟩=>by
  simp only[AV.drop];split
  ·subst e1;exact⟨rfl,by grind⟩
  ·rename_i hb;have hl:=s.Bs b k [] ho hk (by grind);exact⟨AwL hk hn,h0,by rw[s.AK k hk];exact h1,b,v,by rw[s.AK k hk];exact ha,hl.1,e1,e2,by rw[s.AK k hk];exact(QU hl.2).trans hc⟩
 |.O1 _ _ _ _ _,true,_,h=>h.elim
 |.QF k i p o j u,false,_,⟨hk,h0,h1,b,b',l,c,ha,ho,e1,e2,hc⟩=>by
  simp only[AV.drop];split
  ·subst e1;exact⟨rfl,by intro u hu;simp at hu;subst hu;rfl⟩
  ·rename_i hb;have hl:=s.Bs b k [] ho hk (by grind);exact⟨AwL hk hn,h0,by rw[s.AK k hk];exact h1,b,b',l,c,by rw[s.AK k hk];exact ha,hl.1,e1,e2,by rw[s.AK k hk];exact(QU hl.2).trans hc⟩
 |.QF _ _ _ _ _ _,true,_,h=>h.elim
 |.Aw _ _ _,true,_,h=>h.elim
 |.zs,true,_,h=>h.elim
 |.AA _,true,_,h=>h.elim
 |.mp _,true,_,h=>h.elim
 |.ptr _ _ _ _,true,_,h=>h.elim
 |.D7 _ _ _,true,_,h=>h.elim
 |.JH,true,_,h=>h.elim
 |.pr _ _,true,_,h=>h.elim
 |.fn _ _,true,_,h=>h.elim
 |.un _,true,_,h=>h.elim
theorem BF.iff{w:World}{g:G}{n:Nat}{a:AV}{v:Value}(h:a.Cz=false):BF w g n a v↔(a.KT=true\/∃cs,B9 w g n false a cs/\BV a.isAgg cs v):=by
 cases a<;>first |exact Iff.rfl |cases h
theorem sF(RU:Nat->Bool)(a:AV):(a.drop RU).Cz=a.Cz:=by
 cases a with
 |Aw ks t x=>simp only[AV.drop];split<;>rfl
 |D7 ks t x=>simp only[AV.drop];split<;>rfl
 |O1 k i p o e=>simp only[AV.drop];split<;>rfl
 |QF k i p o j u=>simp only[AV.drop];split<;>rfl
 |_=>rfl
theorem BF.step{Bg:AyZ Nat}{n n':Nat}{w w':World}{g g':G}(s:Step Bg n w g w' g')(hn:n<=n'){a:AV}{v:Value}(h:BF w g n a v):BF w' g' n' (a.drop λk=>Bg.contains k) v:=by
 cases ht:a.Cz with
 |false =>
  rw[BF.iff ht]at h;rw[BF.iff (by rw[sF];exact ht)];rcases Yo (λk=>Bg.contains k) a with hd |hd
  ·grind
  ·exact h.imp (lV _ a) λ⟨cs,h,hv⟩=>⟨cs,B9.step s hn a _ h,by grind⟩
 |true =>
  cases a with
  |cons a b=>obtain⟨vs,e,h⟩:=h;exact⟨vs,e,B9.step s hn _ true h⟩
  |nil=>exact h
  |_=>cases ht
theorem Vw(a:AV):(a.drop λ_=>false)=a:=by
 induction a with
 |Aw ks t x=>simp[AV.drop]
 |D7 ks t x=>simp[AV.drop]
 |O1 k i p o e=>simp[AV.drop]
 |QF k i p o j u=>simp[AV.drop]
 |pr a b ha hb=>simp[AV.drop,ha,hb]
 |fn f c h=>simp[AV.drop,h]
 |cons a b ha hb=>simp[AV.drop,ha,hb]
 |_=>rfl
theorem BF.M3{n n':Nat}{w w':World}{g g':G}(s:Step [] n w g w' g')(hn:n<=n'){a:AV}{v:Value}(h:BF w g n a v):BF w' g' n' a v:=by
 have:=h.step s hn;rwa [show(λk=>[].contains k)=λ_=>false from funext λ_=>rfl,Vw]at this
theorem B9.M3{n n':Nat}{w w':World}{g g':G}(s:Step [] n w g w' g')(hn:n<=n'){a:AV}{m:Bool}{cs:AyZ Value}(h:B9 w g n m a cs):B9 w' g' n' m a cs:=by
 have:=B9.step s hn a m h;rwa [show(λk=>[].contains k)=λ_=>false from funext λ_=>rfl,Vw]at this
theorem B9.len{w:World}{g:G}{n:Nat}:∀{a:AV} {cs:AyZ Value},B9 w g n false a cs->cs.length=a.size
 |.Aw _ _ _,_,h=>h.2.len
 |.zs,_,⟨_,e⟩=>by subst e;rfl
 |.AA _,_,⟨_,e⟩=>by subst e;rfl
 |.mp _,_,⟨_,_,_,e⟩=>by subst e;rfl
 |.ptr _ _ _ _,_,⟨_,_,_,_,_,e⟩=>by subst e;rfl
 |.D7 _ _ _,_,⟨_,_,_,_,e,_⟩=>by subst e;rfl
 |.JH,_,h=>by cases h;rfl
 |.pr a b,_,⟨_,_,e,h1,h2⟩=>by subst e;rw[Awd,B9.len h1,B9.len h2];rfl
 |.fn _ _,_,⟨_,e,_⟩=>by subst e;rfl
 |.un _,_,h=>h.1
 |.cons _ _,_,h=>h.elim
 |.nil,_,h=>h.elim
 |.O1 _ _ _ _ _,_,⟨_,_,_,_,_,_,_,e,_⟩=>by subst e;rfl
 |.QF _ _ _ _ _ _,_,⟨_,_,_,_,_,_,_,_,_,e,_⟩=>by subst e;rfl
theorem B9.one{w:World}{g:G}{n:Nat}:∀{a:AV} {cs:AyZ Value},B9 w g n false a cs->∀v∈cs,v.oneCell'=true
 |.Aw _ _ _,_,h=>h.2.one
 |.zs,_,⟨_,e⟩=>by subst e;intro v hv;simp at hv;subst hv;rfl
 |.AA _,_,⟨_,e⟩=>by subst e;intro v hv;simp at hv;subst hv;rfl
 |.mp _,_,⟨_,_,_,e⟩=>by subst e;intro v hv;simp at hv;subst hv;rfl
 |.ptr _ _ _ _,_,⟨_,_,_,_,_,e⟩=>by subst e;intro v hv;simp at hv;subst hv;rfl
 |.D7 _ _ _,_,⟨_,_,_,_,e,_⟩=>by subst e;intro v hv;simp at hv;subst hv;rfl
 |.JH,_,h=>by cases h;intro v hv;simp at hv;subst hv;rfl
 |.pr a b,_,⟨_,_,e,h1,h2⟩=>by
  subst e;intro v hv;rcases List.mem_append.1 hv with hv |hv
  ·exact B9.one h1 v hv
  ·exact B9.one h2 v hv
 |.fn _ _,_,⟨_,e,_⟩=>by subst e;intro v hv;simp at hv;subst hv;rfl
 |.un _,_,h=>h.2
 |.cons _ _,_,h=>h.elim
 |.nil,_,h=>h.elim
 |.O1 _ _ _ _ _,_,⟨_,_,_,_,_,_,_,e,h1,_⟩=>by grind
 |.QF _ _ _ _ _ _,_,⟨_,_,_,_,_,_,_,_,_,e,_⟩=>by subst e;intro u hu;simp at hu;subst hu;rfl
theorem B9.scope{w:World}{g:G}{n:Nat}:∀{a:AV} {m:Bool} {cs:AyZ Value},B9 w g n m a cs->∀k∈a.Xt,k<n
 |.Aw _ _ _,false,_,h,k,hk=>h.1 k hk
 |.pr a b,false,_,⟨_,_,_,h1,h2⟩,k,hk=>by
  rcases List.mem_append.1 hk with hk |hk
  ·exact B9.scope h1 k hk
  ·exact B9.scope h2 k hk
 |.zs,_,_,_,_,hk=>by cases hk
 |.AA _,_,_,_,_,hk=>by cases hk
 |.mp _,_,_,_,_,hk=>by cases hk
 |.ptr _ _ _ _,_,_,_,_,hk=>by cases hk
 |.D7 _ _ _,_,_,_,_,hk=>by cases hk
 |.JH,_,_,_,_,hk=>by cases hk
 |.fn _ _,_,_,_,_,hk=>by cases hk
 |.un _,_,_,_,_,hk=>by cases hk
 |.cons _ _,_,_,_,_,hk=>by cases hk
 |.nil,_,_,_,_,hk=>by cases hk
 |.O1 _ _ _ _ _,_,_,_,_,hk=>by cases hk
 |.QF _ _ _ _ _ _,_,_,_,_,hk=>by cases hk
 |.Aw _ _ _,true,_,h,_,_=>h.elim
 |.pr _ _,true,_,h,_,_=>h.elim
end Go.Va
namespace Go.Va
section
variable {w:World} {g:G} {n:Nat}
theorem Abe{A A':Nat->Prop}{w:World}{t:Ty}{x:t.V}{cs:AyZ Value}(h:FX w A t x cs)(ha:t.Bu=false->∀b,A b->A' b):FX w A' t x cs:=by
 cases hf:t.Bu with
 |true=>exact(FX.Bu hf).2 ((FX.Bu hf).1 h)
 |false=>exact h.mono λb a=>⟨ha hf b a,rfl⟩
theorem TM{ks:AyZ Nat}{t:Ty}(h:∀k∈ks,k<n):∀k∈UO ks t,k<n:=by
 unfold UO;grind
theorem TP{own:Nat->Pp}{ks:AyZ Nat}{w:World}{t:Ty}{x:t.V}{cs:AyZ Value}(h:FX w (Al own ks) t x cs):FX w (Al own (UO ks t)) t x cs :=
 Abe h λhf b a=>by unfold UO;rw[Aws (by grind)];exact a
theorem TG{ks:AyZ Nat}(hk:∀k∈ks,k<n):∀(f:Nat) (t:Ty) (x:t.V) (cs:AyZ Value) (v:AV),FX w (Al g.own ks) t x cs->Si ks t x f=some v ->
    ∃c0 c1 c2,cs=c0++c1++c2/\PK t f=some c0.length/\B9 w g n false v c1/\(∃u y,v=.Aw (UO ks u) u y/\FX w (Al g.own ks) u y c1) /\
     ∀v' a' Oz,il ks t x f v'=some a'->B9 w g n false v' Oz->B9 w g n false a' (c0++Oz++c2)
 |0,.AH a b,x,cs,v,⟨c,d,e,h1,h2⟩,hv=>by
  simp only[Si,Awb]at hv;subst hv;refine⟨[],c,d,by grind,rfl,⟨TM hk,TP h1⟩,⟨a,x.1,rfl,h1⟩,?_⟩;intro v' a' Oz hs cY;simp only[il,Awb]at hs;subst hs;exact⟨Oz,d,rfl,cY,TM hk,TP h2⟩
 |f+1,.AH a b,x,cs,v,⟨c,d,e,h1,h2⟩,hv=>by
  obtain⟨c0,c1,c2,e2,ho,hx,hu,hs⟩:=TG hk f b x.2 d v h2 hv;refine⟨c++c0,c1,c2,by grind,?_,hx,hu,?_⟩
  ·simp only[PK,ho,Awd,h1.len]
  ·intro v' a' Oz XL cY;simp only[il]at XL;split at XL
   ·rename_i r hr;simp only[Awb]at XL;subst XL;exact⟨c,c0++Oz++c2,by grind,⟨TM hk,TP h1⟩,hs _ _ _ hr cY⟩
   ·grind
 |f,.int _,_,_,_,_,hv=>by simp[Si]at hv
 |f,.bool,_,_,_,_,hv=>by simp[Si]at hv
 |f,.str,_,_,_,_,hv=>by simp[Si]at hv
 |f,.unit,_,_,_,_,hv=>by simp[Si]at hv
 |f,.sl _,_,_,_,_,hv=>by simp[Si]at hv
 |f,.O3 _,_,_,_,_,hv=>by simp[Si]at hv
theorem SK:∀(a:AV) (f:Nat) (cs:AyZ Value) (v:AV),B9 w g n false a cs->a.U6 f=some v ->
    ∃c0 c1 c2,cs=c0++c1++c2/\a.off f=some c0.length/\B9 w g n false v c1 /\
     ∀v' a' Oz,a.OH f v'=some a'->B9 w g n false v' Oz->B9 w g n false a' (c0++Oz++c2)
 |.Aw ks t x,f,cs,v,⟨hk,h⟩,hv=>by
  obtain⟨c0,c1,c2,e,ho,hx,_,hs⟩:=TG  hk f t x cs v h (by simpa [AV.U6]using hv);exact⟨c0,c1,c2,e,by simpa [AV.off]using ho,hx,λv' a' Oz h1 h2=>hs v' a' Oz (by simpa [AV.OH]using h1) h2⟩
 |.pr a b,0,cs,v,⟨c,d,e,h1,h2⟩,hv=>by
  simp only[AV.U6,Awb]at hv;subst hv;refine⟨[],c,d,by grind,rfl,h1,?_⟩;intro v' a' Oz hs cY;simp only[AV.OH,Awb]at hs;subst hs;exact⟨Oz,d,rfl,cY,h2⟩
 |.pr a b,f+1,cs,v,⟨c,d,e,h1,h2⟩,hv=>by
  obtain⟨c0,c1,c2,e2,ho,hx,hs⟩:=SK b f d v h2 hv;refine⟨c++c0,c1,c2,by grind,?_,hx,?_⟩
  ·simp only[AV.off,ho,Awd,h1.len]
  ·intro v' a' Oz XL cY;simp only[AV.OH]at XL;split at XL
   ·rename_i r hr;simp only[Awb]at XL;subst XL;exact⟨c,c0++Oz++c2,by grind,h1,hs _ _ _ hr cY⟩
   ·grind
 |.zs,_,_,_,_,hv=>by simp[AV.U6]at hv
 |.AA _,_,_,_,_,hv=>by simp[AV.U6]at hv
 |.mp _,_,_,_,_,hv=>by simp[AV.U6]at hv
 |.ptr _ _ _ _,_,_,_,_,hv=>by simp[AV.U6]at hv
 |.D7 _ _ _,_,_,_,_,hv=>by simp[AV.U6]at hv
 |.JH,_,_,_,_,hv=>by simp[AV.U6]at hv
 |.fn _ _,_,_,_,_,hv=>by simp[AV.U6]at hv
 |.un _,_,_,_,_,hv=>by simp[AV.U6]at hv
 |.cons _ _,_,_,_,h,_=>h.elim
 |.nil,_,_,_,h,_=>h.elim
 |.O1 _ _ _ _ _,_,_,_,_,hv=>by simp[AV.U6]at hv
 |.QF _ _ _ _ _ _,_,_,_,_,hv=>by simp[AV.U6]at hv
theorem Nz:∀(p:AyZ Nat) (a:AV) (cs:AyZ Value) (v:AV),B9 w g n false a cs->a.Qz p=some v ->
    ∃c0 c1 c2,cs=c0++c1++c2/\a.po p=some c0.length/\B9 w g n false v c1 /\
     ∀v' a' Oz,a.U1 p v'=some a'->B9 w g n false v' Oz->B9 w g n false a' (c0++Oz++c2)
 |[],a,cs,v,h,hv=>by
  simp only[AV.Qz,Awb]at hv;subst hv;refine⟨[],cs,[],by simp,rfl,h,?_⟩;intro v' a' Oz hs cY;simp only[AV.U1,Awb]at hs;subst hs;simpa using cY
 |f::p,a,cs,v,h,hv=>by
  simp only[AV.Qz]at hv;split at hv
  ·rename_i b hb;obtain⟨c0,c1,c2,e,ho,hx,hs⟩:=SK a f cs b h hb;obtain⟨d0,d1,d2,e2,mo,jl,T7⟩:=Nz p b c1 v hx hv;refine⟨c0++d0,d1,d2++c2,by grind,?_,jl,?_⟩
   ·simp only[AV.po,hb,ho,mo,Awd]
   ·intro v' a' Oz XL cY;simp only[AV.U1,hb]at XL;split at XL
    ·grind
    ·grind
  ·grind
end
theorem Bn{t u:Ty}{x:t.V}{y:u.V}(h:G2 t u x=some y):∃e:t=u,e▸x=y:=by
 unfold G2 at h
 grind
def dn:Nat->AyZ Nat->AyZ Nat
 |0,L=>0::L
 |n+1,L=>dn n (1::L)
def P9:AyZ Nat->AyZ Nat->AyZ Nat
 |[],L=>L
 |f::p,L=>P9 p (dn f L)
structure Rel where
 E:(t:Ty)->List Nat->t.V->List Value->Prop
 AH:∀{a b:Ty} {L:List Nat} {x:(Ty.AH a b).V} {cs:List Value},E (.AH a b) L x cs↔∃c d,cs=c++d/\E a (0::L) x.1 c/\E b (1::L) x.2 d
 len:∀{t:Ty} {L:List Nat} {x:t.V} {cs:List Value},E t L x cs->cs.length=t.size
def Aoq(w:World)(A:Nat->Prop):Rel:=⟨λt _ x cs=>FX w A t x cs,Iff.rfl,FX.len⟩
def Abd(w:World)(own:Nat->Pp)(k:Nat):Rel:=⟨λt L x cs=>Ht w own k t L x cs,Iff.rfl,Ht.len⟩
section
variable (Q:Rel)
theorem bP(F:∀u:Ty,u.V->Ay0 u.V)(ZE:Ty->Nat->Prop)(D:AyZ Nat->AyZ Value->Prop)(sz:Nat)
    (hF:∀(u:Ty) (L:AyZ Nat) (x y:u.V) (cs:AyZ Value) (o:Nat),F u x=some y->ZE u o->Q.E u L x cs ->
     ∃c0 c1 c2,cs=c0++c1++c2/\c0.length=o/\c1.length=sz/\∀Oz,D L Oz->Q.E u L y (c0++Oz++c2)) :
    ∀(f:Nat) (t:Ty) (L:AyZ Nat) (x x':t.V) (cs:AyZ Value) (u:Ty) (o o':Nat),NA t x f F=some x'->Z8 t f=some u->PK t f=some o->ZE u o'->Q.E t L x cs ->
     ∃c0 c1 c2,cs=c0++c1++c2/\c0.length=o+o'/\c1.length=sz/\∀Oz,D (dn f L) Oz->Q.E t L x' (c0++Oz++c2)
 |0,.AH a b,L,x,x',cs,u,o,o',hs,hu,ho,hc,h=>by
  obtain⟨c,d,e,h1,h2⟩:=Q.AH.1 h;simp only[Z8,Awb]at hu;subst hu;simp only[PK,Awb]at ho;simp only[NA]at hs;split at hs
  ·rename_i y hy;injection hs with hs;subst hs;obtain⟨c0,c1,c2,e2,hl,hz,hr⟩:=hF a _ x.1 y c o' hy hc h1;refine⟨c0,c1,c2++d,by grind,by omega,hz,λOz h=>Q.AH.2 ⟨c0++Oz++c2,d,by grind,hr Oz h,h2⟩⟩
  ·grind
 |f+1,.AH a b,L,x,x',cs,u,o,o',hs,hu,ho,hc,h=>by
  obtain⟨c,d,e,h1,h2⟩:=Q.AH.1 h;simp only[PK]at ho;split at ho
  ·rename_i o2 mo;injection ho with ho;simp only[NA]at hs;split at hs
   ·rename_i y hy;injection hs with hs;subst hs;obtain⟨c0,c1,c2,e2,hl,hz,hr⟩:=bP F ZE D sz hF f b _ x.2 y d u o2 o' hy hu mo hc h2;refine⟨c++c0,c1,c2,by grind,by rw[Awd,Q.len h1];omega,hz,λOz h=>Q.AH.2 ⟨c,c0++Oz++c2,by grind,h1,hr Oz h⟩⟩
   ·grind
  ·grind
 |f,.int _,_,_,_,_,_,_,_,hs,_,_,_,_=>by simp[NA]at hs
 |f,.bool,_,_,_,_,_,_,_,hs,_,_,_,_=>by simp[NA]at hs
 |f,.str,_,_,_,_,_,_,_,hs,_,_,_,_=>by simp[NA]at hs
 |f,.unit,_,_,_,_,_,_,_,hs,_,_,_,_=>by simp[NA]at hs
 |f,.sl _,_,_,_,_,_,_,_,hs,_,_,_,_=>by simp[NA]at hs
 |f,.O3 _,_,_,_,_,_,_,_,hs,_,_,_,_=>by simp[NA]at hs
theorem TT(u:Ty)(y:u.V):∀(p:AyZ Nat) (t:Ty) (L:AyZ Nat) (x x':t.V) (cs:AyZ Value) (o:Nat),Oj u y p t x=some x'->IP t p=some o->Q.E t L x cs ->
    ∃c0 c1 c2,cs=c0++c1++c2/\c0.length=o/\c1.length=u.size/\∀Oz,Q.E u (P9 p L) y Oz->Q.E t L x' (c0++Oz++c2)
 |[],t,L,x,x',cs,o,hs,ho,h=>by
  simp only[IP,Awb]at ho;subst ho;obtain⟨e,he⟩:=Bn hs;subst e;subst he;exact⟨[],cs,[],by simp,rfl,Q.len h,λOz h'=>by simpa [P9]using h'⟩
 |f::p,t,L,x,x',cs,o,hs,ho,h=>by
  simp only[IP]at ho;split at ho
  ·rename_i t1 o1 h1 h2;split at ho
   ·rename_i o2 h3;injection ho with ho;subst ho;exact bP Q (λt' x'=>Oj u y p t' x') (λv o=>IP v p=some o) (λL Oz=>Q.E u _ y Oz) _
     (λv L x1 y1 cs1 o' Oa G3 Vb=>TT u y p v L x1 y1 cs1 o' Oa G3 Vb) f t L x x' cs t1 o1 o2 hs h1 h2 h3 h
   ·grind
  ·grind
end
theorem Al.mem{own:Nat->Pp}{ks:AyZ Nat}{k b:Nat}{p:AyZ Nat}(hk:k∈ks)(h:own b=.Bs k p):Al own ks b:=.inr ⟨k,hk,p,h⟩
theorem MD{w:World}{g:G}{bs:AyZ Blk}(H:A1 w g bs):∀(t:Ty) (a:AV) (x:t.V) (cs:AyZ Value),rd bs t a=some x->B9 w g bs.length false a cs ->
    FX w (Al g.own (a.PD bs)) t x cs/\∀k∈a.PD bs,k<bs.length:=by
 have plain:∀(t:Ty) (ks:AyZ Nat) (u:Ty) (y:u.V) (x:t.V) (cs:AyZ Value),G2 u t y=some x->B9 w g bs.length false (.Aw ks u y) cs->FX w (Al g.own ks) t x cs/\∀k∈ks,k<bs.length:=by
  intro t ks u y x cs h hx;obtain⟨e,he⟩:=Bn h;subst e;simp only at he;subst he;exact⟨hx.2,hx.1⟩
 intro t;induction t with
 |AH a b yQ yR =>
  intro av x cs h hx;simp only[rd]at h;split at h
  ·exact plain _ _ _ _ _ _ h hx
  ·rename_i u v;split at h
   ·rename_i y z hy hz;injection h with h;subst h;obtain⟨c,d,e,h1,h2⟩:=hx;have r1:=yQ u y c hy h1;have r2:=yR v z d hz h2;refine⟨⟨c,d,e,r1.1.mono λq hq=>⟨hq.mono λk hk=>AwH _ hk,rfl⟩,r2.1.mono λq hq=>⟨hq.mono λk hk=>AwI _ hk,rfl⟩⟩,?_⟩;intro k hk;rcases List.mem_append.1 hk with hk |hk
    ·exact r1.2 k hk
    ·exact r2.2 k hk
   ·cases h
  ·cases h
 |sl t _ =>
  intro av x cs h hx;simp only[rd]at h;split at h
  ·exact plain _ _ _ _ _ _ h hx
  ·injection h with h;subst h;obtain⟨ad,e⟩:=hx;exact⟨⟨ad,0,[],e,Awf _,rfl,.inl rfl⟩,λk hk=>by cases hk⟩
  ·rename_i k;split at h
   ·rename_i e m u ys hb;obtain⟨e',he⟩:=Bn h;injection e' with e';subst e';simp only at he;subst he;obtain⟨hk,hc⟩:=hx;obtain⟨hm,hlen,Mg,BB,hr⟩:=H.Js k _ hb;have mg:(AV.AA k).PD bs=k::m.BX:=by simp[AV.PD,V0,hb]
    rw[mg];refine⟨?_,λj hj=>?_⟩
    ·rcases hr with ⟨hy,Wz⟩|⟨b,Bh,ds,ha,BW,⟨el,_,hh⟩,h1,h2,h3,h4,Nb⟩
     ·subst hy;rw[hlen]at hc;exact⟨(g.AK k).a,(g.AK k).cap,[],hc,by simp,rfl,.inl rfl⟩
     ·rw[hlen]at hc;refine⟨(g.AK k).a,(g.AK k).cap,ds,hc,h1,?_,.inr ⟨b,0,ha,.mem (AwE) BW,λj q hq=>?_⟩⟩
      ·cases m with
       |Ao=>exact Nb.toR λi y c r=>r.rd λb q hb=>.mem (AwE) hb
       |sh ks=>exact Nb.mono λy c r=>r.mono λb a=>⟨a.mono λj hj=>AwB _ hj,rfl⟩
      ·rw[Mi hh,AwF,<-Awn];subst h4;rw[Aw9]at hq;split at hq
       ·exact hq
       ·cases hq
    ·rcases List.mem_cons.1 hj with rfl |hj
     ·exact hk
     ·exact hm j hj
   ·cases h
  ·cases h
 |_ =>
  intro av x cs h hx;simp only[rd]at h;split at h
  ·exact plain _ _ _ _ _ _ h hx
  ·cases h
end Go.Va
namespace Go.Va
theorem J2.step{Bg:AyZ Nat}{n n':Nat}{w w':World}{g g':G}(s:Step Bg n w g w' g')(hn:n<=n'){k:Nat}(hk:k<n)(hm:k∉Bg){b:Blk}(h:J2 w g n k b) :
    J2 w' g' n' k (b.drop λj=>Bg.contains j):=by
 cases b with
 |Be=>trivial
 |map m kt vt es st =>
  obtain⟨Ng,b,FK,CL,ha,ho,hh,NT,YD⟩:=h;simp only[Blk.drop];split
  ·trivial
  ·rename_i hb;have hd:∀j∈m.BX,j∉Bg:=λj hj hc=>hb (List.any_eq_true.2 ⟨j,hj,by grind⟩);have hl:=s.Bs b k [] ho hk hm;refine⟨λj hj=>AwL (Ng j hj) hn,b,FK,CL,by rw[s.AK k hk];exact ha,hl.1,hl.2.trans hh,NT,YD.on λi x cs r=>?_⟩;cases m with
   |Ao=>exact Ht.mono (λb q hb=>s.Bs b k _ hb hk hm) r
   |sh ks=>exact FX.mono (λb a=>a.step s Ng hd) r
 |Nh e t xs i p =>
  obtain⟨h1,h2,h3,h4,h5,u,o,x0,b,Bh,ds,q1,q2,q3,ha,ho,⟨el,RX,hh⟩,c1,c2,c3,c4,hc⟩:=h;have hl:=s.Bs b k [] ho hk hm;refine⟨by rw[s.AK k hk];exact h1,by rw[s.AK k hk];exact h2,h3,h4,h5,u,o,x0,b,Bh,ds,q1,q2,q3,?_⟩;rw[s.AK k hk];exact⟨ha,hl.1,⟨el,RX,hl.2.trans hh⟩,c1,c2,c3,c4,hc.mono λi x c r=>r.mono λb q hb=>s.Bs b k _ hb hk hm⟩
 |tail e t xs =>
  obtain⟨hf,hlen,Mg,BB,hr⟩:=h;refine⟨hf,by rw[s.AK k hk];exact hlen,by rw[s.AK k hk];exact Mg,BB,?_⟩;rw[s.AK k hk];refine hr.imp id λ⟨b,o,Bh,ds,ha,ho,⟨el,RX,hh⟩,h1,h2,h3,h4,hc⟩=>?_;have hl:=s.Bs b k [] ho hk hm;exact⟨b,o,Bh,ds,ha,hl.1,⟨el,RX,hl.2.trans hh⟩,h1,h2,h3,h4,hc.mono λi x c r=>r.mono λb q hb=>s.Bs b k _ hb hk hm⟩
 |box a =>
  obtain⟨h1,b,cs,e,ha,ho,hh,hx⟩:=h;have hl:=s.Bs b k [] ho hk hm;refine⟨by rw[s.AK k hk];exact h1,b,cs,e,by rw[s.AK k hk];exact ha,hl.1,hl.2.trans hh,B9.step s hn a _ hx⟩
 |row e m t xs =>
  obtain⟨Ng,hlen,Mg,BB,hr⟩:=h;simp only[Blk.drop];split
  ·trivial
  ·rename_i hb;have hd:∀j∈m.BX,j∉Bg:=λj hj hc=>hb (List.any_eq_true.2 ⟨j,hj,by grind⟩);refine⟨λj hj=>AwL (Ng j hj) hn,by rw[s.AK k hk];exact hlen,by rw[s.AK k hk];exact Mg,BB,?_⟩;rw[s.AK k hk];refine hr.imp id λ⟨b,Bh,ds,ha,ho,⟨el,RX,hh⟩,h1,h2,h3,h4,hc⟩=>?_;have hl:=s.Bs b k [] ho hk hm;refine⟨b,Bh,ds,ha,hl.1,⟨el,RX,hl.2.trans hh⟩,h1,h2,h3,h4,?_⟩;cases m with
   |Ao=>exact hc.mono λi x c r=>r.mono λb q hb=>s.Bs b k _ hb hk hm
   |sh ks=>exact hc.mono λx c r=>r.mono λb a=>a.step s Ng hd
theorem Vl(b:Blk):(b.drop λ_=>false)=b:=by
 cases b with
 |box a=>simp[Blk.drop,Vw]
 |row e m t xs=>simp[Blk.drop]
 |map m kt vt es st=>simp[Blk.drop]
 |Nh e t xs i p=>rfl
 |tail e t xs=>rfl
 |Be=>rfl
theorem J2.M3{n n':Nat}{w w':World}{g g':G}(s:Step [] n w g w' g')(hn:n<=n'){k:Nat}(hk:k<n){b:Blk}(h:J2 w g n k b):J2 w' g' n' k b:=by
 have:=h.step s hn hk (by simp);rwa [show(λk=>[].contains k)=λ_=>false from funext λ_=>rfl,Vl]at this
theorem AP{α:Type}{l:AyZ α}{k:Nat}{x:α}(h:l[k]?=some x):k<l.length:=by
 grind
theorem A1.M3{w w':World}{g g':G}{bs:AyZ Blk}(H:A1 w g bs)(s:Step [] bs.length w g w' g')(hf:∀b,w'.heap.size<=b->g'.own b=.no):A1 w' g' bs :=
 ⟨hf,λk x hx=>(H.Js k x hx).M3 s (Awf _) (AP hx)⟩
theorem A1.drew{w:World}{g:G}{bs:AyZ Blk}(H:A1 w g bs):A1 w.drew g bs:=H.M3 (Step.drew _ _ _ _) H.Bz
theorem A1.push{w w':World}{g g':G}{bs:AyZ Blk}(H:A1 w g bs)(s:Step [] bs.length w g w' g')(hf:∀b,w'.heap.size<=b->g'.own b=.no){b:Blk}(hb:J2 w' g' (bs.length+1) bs.length b) :
    A1 w' g' (bs++[b]) :=
 ⟨hf,λk x hx=>by
  rw[Awd];rw[Awz]at hx;split at hx
  ·exact(H.Js k x hx).M3 s (AwK _) (AP hx)
  grind⟩
def zeroV:Value->Value->Bool
 |.int k n,.int k' m=>k==k'&&n==m
 |.bool a,.bool b=>a==b
 |.string s,.string t=>s.data.toList==t.data.toList
 |.slice none 0 0,.slice none 0 0=>true
 |.pointer none,.pointer none=>true
 |.map none,.map none=>true
 |.nilFunc,.nilFunc=>true
 |_,_=>false
theorem wj{a b:Value}(h:zeroV a b=true):a=b:=by
 unfold zeroV at h;split at h
 ·grind
 ·grind
 ·rename_i s t;have :=by simpa using h
  cases s;simp at this;rw[this]
 ·rfl
 ·rfl
 ·rfl
 ·rfl
 ·grind
def np:AyZ Value->AyZ Value->Bool
 |[],[]=>true
 |a::r,b::s=>zeroV a b&&np r s
 |_,_=>false
theorem iU:∀{a b:AyZ Value},np a b=true->a=b
 |[],[],_=>rfl
 |a::r,b::s,h=>by
  simp only[np,Awg]at h;rw[wj h.1,iU h.2]
 |[],_::_,h=>by cases h
 |_::_,[],h=>by cases h
def w5:TypeDesc->Bool
 |.struct _=>true
 |.array _ _=>true
 |_=>false
def AmB(P:Program)(t:Nat)(u:Ty):Bool:=match P.underlying t with |some d=>w5 d==u.isAgg |none=>false
def LM(P:Program)(ty:Ty):Nat->AyZ Field->AyZ Nat->Bool
 |_,[],[]=>true
 |i,f::fs,o::os=>f.offset==o&&PK ty i==some o&&(match Z8 ty i with |some u=>(P.info? f.type).map (·.size)==some u.size&&u.size !=0&&AmB P f.type u |none=>false)&&LM P ty (i+1) fs os
 |_,_,_=>false
def kindOk(P:Program)(ti:TI):TypeDesc->Bool
 |.int k=>ti.ty==.int k
 |.bool=>ti.ty==.bool
 |.string=>ti.ty==.str
 |.slice e=>ti.elem==e&&(match ti.ty with |.sl _=>true |_=>false)
 |.struct fs=>ti.ty.isAgg&&LM P ti.ty 0 fs.toList ti.Rb
 |.array _ _=>ti.ty.isAgg
 |.pointer _=>(match ti.ty with |.O3 _=>true |_=>false)
 |.map _ _=>(match ti.ty with |.O3 _=>true |_=>false)
 |.func _ _ _=>(match ti.ty with |.O3 _=>true |_=>false)
 |_=>false
def QW(P:Program):Ty->Nat->AyZ Field->Bool
 |.unit,_,[]=>true
 |.AH a b,o,f::fs=>f.name !="_"&&f.offset==o&&(match a,P.underlying f.type with |.int k,some (.int k')=>k==k' |.bool,some .bool=>true |.str,some .string=>true |_,_=>false)&&QW P b (o+1) fs
 |_,_,_=>false
def sM(P:Program)(t:Nat)(ty:Ty):Bool:=match P.underlying t with
 |some (.struct fs)=>!P.stoodInHeld t&&!P.eqGuardType P.depth t&&QW P ty 0 fs.toList
 |_=>false
def AdN(P:Program)(t:Nat)(ti:TI):Bool :=
 (match P.info? t with
  |some i=>i.size==ti.ty.size&&i.bytes==ti.bytes&&(match i.zero with |some z=>np z.cells.toList (M7 ti.ty)&&(match z with |.agg _=>ti.ty.isAgg |_=>!ti.ty.isAgg)|none=>false)
  |none=>false) &&
 (match P.underlying t with |some d=>kindOk P ti d&&(match d with |.struct _=>true |_=>ti.Rb.isEmpty)&&(match d with |.array n e=>ti.FK==n&&ti.elem==e |_=>ti.FK==0)&&(match d with |.map k e=>ti.Lf==k&&ti.elem==e |_=>ti.Lf==0)&&(!ti.eqs||sM P t ti.ty)|none=>false)
def Xl(P:Program):lA->Bool
 |[]=>true
 |(t,ti)::r=>AdN P t ti&&Xl P r
theorem mX{P:Program}:∀{C6:lA} {t:Nat} {ti:TI},Xl P C6=true->C6.get t=some ti->AdN P t ti=true
 |[],_,_,_,h=>by cases h
 |(k,i)::r,t,ti,ho,h=>by
  simp only[Xl,Awg]at ho;simp only[lA.get]at h;split at h
  ·grind
  ·exact mX ho.2 h
structure Dy (P:Program) (t:Nat) (ti:TI):Prop where
 info:∃i z,P.info? t=some i/\i.size=ti.ty.size/\i.bytes=ti.bytes/\i.zero=some z/\z.cells.toList=M7 ti.ty/\((∃c,z=.agg c)↔ti.ty.isAgg=true)
 Xn:∃d,P.underlying t=some d/\kindOk P ti d=true
 Rb:(∃fs,P.underlying t=some (.struct fs))\/ti.Rb=[]
 FK:ti.FK≠0->P.underlying t=some (.array ti.FK ti.elem)
 eqs:ti.eqs=true->sM P t ti.ty=true
 mp:ti.Lf≠0->P.underlying t=some (.map ti.Lf ti.elem)
theorem Dy.of{P:Program}{C6:lA}{t:Nat}{ti:TI}(ho:Xl P C6=true)(h:C6.get t=some ti):Dy P t ti:=by
 have h1:=mX ho h;unfold AdN at h1;rw[Awg]at h1;obtain⟨h1,h2⟩:=h1;constructor
 ·split at h1
  ·rename_i i hi;simp only[Awg,Axj]at h1;obtain⟨⟨h3,h4⟩,h5⟩:=h1;split at h5
   ·rename_i z hz;rw[Awg]at h5;refine⟨i,z,hi,h3,h4,hz,iU h5.1,?_⟩
    grind
   ·grind
  ·grind
 ·grind
 ·grind
 ·grind
 ·grind
 grind
end Go.Va
namespace Go.Va
section
variable {w:World} {g:G} {n:Nat} {v:Value}
theorem BD{a:AV}(ht:a.Cz=false)(hu:a.KT=false)(h:BF w g n a v):∃cs,B9 w g n false a cs/\BV a.isAgg cs v:=by
 rw[BF.iff ht]at h
 grind
theorem A9{a:AV}(ht:a.Cz=false){cs:AyZ Value}(h:B9 w g n false a cs)(hv:BV a.isAgg cs v):BF w g n a v:=(BF.iff ht).2 (.inr ⟨cs,h,hv⟩)
theorem CH{ks:AyZ Nat}{k:IntKind}{x:Int}(h:BF w g n (.Aw ks (.int k) x) v):v=.int k x:=by
 obtain⟨cs,h,hv⟩:=BD rfl rfl h;have e :=h.2;subst e;simpa [Ty.isAgg]using hv.symm
theorem N4{ks:AyZ Nat}{x:Bool}(h:BF w g n (.Aw ks .bool x) v):v=.bool x:=by
 obtain⟨cs,h,hv⟩:=BD rfl rfl h;have e :=h.2;subst e;simpa [Ty.isAgg]using hv.symm
theorem Rn{ks:AyZ Nat}{x:ByteArray}(h:BF w g n (.Aw ks .str x) v):v=.string x:=by
 obtain⟨cs,h,hv⟩:=BD rfl rfl h;have e :=h.2;subst e;simpa [Ty.isAgg]using hv.symm
theorem Uz{ks:AyZ Nat}{t:Ty}{xs:AyZ t.V}(h:BF w g n (.Aw ks (.sl t) xs) v):(∀k∈ks,k<n)/\∃ad cap ds,v=.slice ad xs.length cap/\xs.length<=cap/\Ca (FX w (Al g.own ks) t) xs ds /\
    (xs=[]\/∃b off,ad=some ⟨b,off,none⟩/\Al g.own ks b/\∀j u,ds[j]?=some u->w.cell? ⟨b,off+j,none⟩=some u):=by
 obtain⟨cs,⟨hk,ad,cap,ds,e,h1,h2,h3⟩,hv⟩:=BD rfl rfl h;subst e;exact⟨hk,ad,cap,ds,by simpa [Ty.isAgg]using hv.symm,h1,h2,h3⟩
theorem Sw(h:BF w g n .zs v):∃ad,v=.slice ad 0 0:=by
 obtain⟨cs,⟨ad,e⟩,hv⟩:=BD rfl rfl h;subst e;exact⟨ad,by simpa [AV.isAgg]using hv.symm⟩
theorem DV{k:Nat}(h:BF w g n (.AA k) v):k<n/\v=.slice (g.AK k).a (g.AK k).len (g.AK k).cap:=by
 obtain⟨cs,⟨hk,e⟩,hv⟩:=BD rfl rfl h;subst e;exact⟨hk,by simpa [AV.isAgg]using hv.symm⟩
theorem IA{k:Nat}{i:Int}{p:AyZ Nat}{o:Nat}(h:BF w g n (.ptr k i p o) v):k<n/\0<=i/\i.toNat<(g.AK k).len/\∃b,(g.AK k).a=some ⟨b,0,none⟩/\v=.pointer (some ⟨b,i.toNat*(g.AK k).aL+o,none⟩):=by
 obtain⟨cs,⟨hk,h0,h1,b,hb,e⟩,hv⟩:=BD rfl rfl h;subst e;exact⟨hk,h0,h1,b,hb,by simpa [AV.isAgg]using hv.symm⟩
theorem Tq{ks:AyZ Nat}{t:Ty}{x:t.V}(h:BF w g n (.D7 ks t x) v):(∀k∈ks,k<n)/\∃b off ds,v=.pointer (some ⟨b,off,none⟩)/\Al g.own ks b/\FX w (Al g.own ks) t x ds/\∀j u,ds[j]?=some u->w.cell? ⟨b,off+j,none⟩=some u:=by
 obtain⟨cs,⟨hk,b,off,ds,e,h1,h2,h3⟩,hv⟩:=BD rfl rfl h;subst e;exact⟨hk,b,off,ds,by simpa [AV.isAgg]using hv.symm,h1,h2,h3⟩
theorem uE(k:IntKind)(x:Int):BF w g n (.int k x) (.int k x):=A9 rfl  ⟨λ_ h=>by grind,rfl⟩ (by simp[BV,AV.isAgg,Ty.isAgg])
theorem VO(x:Bool):BF w g n (.bool x) (.bool x):=A9 rfl  ⟨λ_ h=>by grind,rfl⟩ (by simp[BV,AV.isAgg,Ty.isAgg])
theorem uF(x:ByteArray):BF w g n (.str x) (.string x):=A9 rfl  ⟨λ_ h=>by grind,rfl⟩ (by simp[BV,AV.isAgg,Ty.isAgg])
theorem bm(ad:Ay0 Addr):BF w g n .zs (.slice ad 0 0):=A9 rfl  ⟨ad,rfl⟩ (by simp[BV,AV.isAgg])
theorem M4{k:Nat}:BF w g n (.un k) v:=(BF.iff rfl).2 (.inl rfl)
theorem WL{ks:AyZ Nat}{t:Ty}{x:t.V}{b off:Nat}{ds:AyZ Value}(hk:∀k∈ks,k<n)(h1:Al g.own ks b)(h2:FX w (Al g.own ks) t x ds)(h3:∀j u,ds[j]?=some u->w.cell? ⟨b,off+j,none⟩=some u) :
    BF w g n (.D7 ks t x) (.pointer (some ⟨b,off,none⟩)):=A9 rfl  ⟨hk,b,off,ds,rfl,h1,h2,h3⟩ (by simp[BV,AV.isAgg])
theorem WK{k:Nat}{i:Int}{p:AyZ Nat}{o b:Nat}(hk:k<n)(h0:0<=i)(h1:i.toNat<(g.AK k).len)(hb:(g.AK k).a=some ⟨b,0,none⟩) :
    BF w g n (.ptr k i p o) (.pointer (some ⟨b,i.toNat*(g.AK k).aL+o,none⟩)):=A9 rfl  ⟨hk,h0,h1,b,hb,rfl⟩ (by simp[BV,AV.isAgg])
end
section
variable {P:Program} {w:World} {g:G} {n:Nat} {R:Type}
def Qd(P:Program)(w:World)(g:G)(n:Nat)(s:Sem Value)(z:AV):Prop:=∃c,s.run P w=.ok c w/\BF w g n z c
theorem BK{s:Sem Value}{k:IntKind}{x:Int}(h:s.run P w=.ok (.int k x) w):Qd P w g n s (.int k x):=⟨_,h,uE k x⟩
theorem CB{s:Sem Value}{x:Bool}(h:s.run P w=.ok (.bool x) w):Qd P w g n s (.bool x):=⟨_,h,VO x⟩
theorem TH{s:Sem Value}{x:ByteArray}(h:s.run P w=.ok (.string x) w):Qd P w g n s (.str x):=⟨_,h,uF x⟩
theorem w9{op:BinOp}{x y:AV}{u v:Value}{K:AV->Ay0 R}{r:R}{tb:Bool}(t:TypeId)(ox oy:Operand)(htb:tb=true->P.underlying t=some .bool)(h:ck op tb x y K=some r)(hx:BF w g n x u)(hy:BF w g n y v) :
    ∃z,K z=some r/\Qd P w g n (do eqGuard op t ox oy u v;binOp op t u v) z:=by
 unfold ck at h;split at h
 ·rename_i ks k a Uj k' b;obtain rfl:=CH hx;obtain rfl:=CH hy;split at h
  ·split at h
   ·cases h
   ·rename_i hb;exact⟨_,h,BK (by simp[eqGuard,binOp,Op.shift,hb,KW])⟩
  ·split at h
   ·cases h
   ·rename_i hb;exact⟨_,h,BK (by simp[eqGuard,binOp,Op.shift,hb,Ju])⟩
  ·split at h
   ·rename_i hk;subst hk;cases op<;>simp only[reduceCtorEq]at h
    case add=>exact⟨_,h,BK (by simp[eqGuard,binOp,Op.intArith])⟩
    case sub=>exact⟨_,h,BK (by simp[eqGuard,binOp,Op.intArith])⟩
    case mul=>exact⟨_,h,BK (by simp[eqGuard,binOp,Op.intArith])⟩
    case quo =>
     split at h
     ·cases h
     ·rename_i hb;exact⟨_,h,BK (by simp[eqGuard,binOp,Op.intDiv,hb])⟩
    case rem =>
     split at h
     ·cases h
     ·rename_i hb;exact⟨_,h,BK (by simp[eqGuard,binOp,Op.intDiv,hb])⟩
    case and=>exact⟨_,h,BK (by simp[eqGuard,binOp,Op.intBits,Se])⟩
    case or=>exact⟨_,h,BK (by simp[eqGuard,binOp,Op.intBits,Xe])⟩
    case xor=>exact⟨_,h,BK (by simp[eqGuard,binOp,Op.intBits,AdT])⟩
    case andNot=>exact⟨_,h,BK (by simp[eqGuard,binOp,Op.intBits,lC])⟩
    case eql=>exact⟨_,h,CB (by simp[eqGuard,binOp,Op.intCmp])⟩
    case neq=>exact⟨_,h,CB (by simp[eqGuard,binOp,Op.intCmp])⟩
    case lss=>exact⟨_,h,CB (by simp[eqGuard,binOp,Op.intCmp])⟩
    case leq=>exact⟨_,h,CB (by simp[eqGuard,binOp,Op.intCmp])⟩
    case gtr=>exact⟨_,h,CB (by simp[eqGuard,binOp,Op.intCmp])⟩
    case geq=>exact⟨_,h,CB (by simp[eqGuard,binOp,Op.intCmp])⟩
   ·cases h
 ·rename_i ks a Uj b;obtain rfl:=Rn hx;obtain rfl:=Rn hy;cases op<;>simp only[reduceCtorEq]at h
  case add =>
   split at h
   ·rename_i hb;refine⟨_,h,TH ?_⟩;have:¬(((a.size+b.size:Nat):Int)>IntKind.i64.max):=by simp[IntKind.max,IntKind.signed,IntKind.bits];omega
    simp[eqGuard,binOp,Op.stringOp];omega
   ·cases h
  case eql=>exact⟨_,h,CB (by simp[eqGuard,binOp,Op.stringOp,KL])⟩
  case neq=>exact⟨_,h,CB (by simp[eqGuard,binOp,Op.stringOp,KL])⟩
  case lss=>exact⟨_,h,CB (by simp[eqGuard,binOp,Op.stringOp,strLt])⟩
  case leq=>exact⟨_,h,CB (by simp[eqGuard,binOp,Op.stringOp,strLt,KL])⟩
  case gtr=>exact⟨_,h,CB (by simp[eqGuard,binOp,Op.stringOp,strLt,KL])⟩
  case geq=>exact⟨_,h,CB (by simp[eqGuard,binOp,Op.stringOp,strLt])⟩
 ·rename_i ks a Uj b;obtain rfl:=N4 hx;obtain rfl:=N4 hy;split at h
  ·rename_i hb;have hu:=htb hb;have he:(Op.equal t (.bool a) (.bool b)).run P w=.ok (a==b) w:=run_equal_bool w t a b hu;cases op<;>simp only[reduceCtorEq]at h
   case eql=>exact⟨_,h,CB (by simp[eqGuard,binOp,he])⟩
   case neq=>exact⟨_,h,CB (by simp[eqGuard,binOp,he])⟩
  ·cases h
 ·cases h
theorem AdP{op:UnOp}{x:AV}{u:Value}{K:AV->Ay0 R}{r:R}(h:zI op x K=some r)(hx:BF w g n x u) :
    ∃z,K z=some r/\Qd P w g n (Op.unary op u) z:=by
 unfold zI at h;split at h
 ·obtain rfl:=N4 hx;split at h
  ·exact⟨_,h,CB (by simp[Op.unary])⟩
  ·grind
 ·obtain rfl:=CH hx;split at h
  ·exact⟨_,h,BK (by simp[Op.unary,Op.intArith])⟩
  ·exact⟨_,h,BK (by rfl)⟩
  ·grind
 ·grind
variable {bs:AyZ Blk}
theorem Bf{t:Nat}{ti:TI}(h:Dy P t ti)(hs:ti.Da=true):P.underlying t=some (.slice ti.elem):=by
 obtain⟨d,hd,hk⟩:=h.Xn;unfold TI.Da at hs;split at hs
 ·rename_i u hu;rw[hd];cases d<;>simp[kindOk,hu,Ty.isAgg]at hk;rw[hk]
 ·grind
theorem NN{t:Nat}{ti:TI}(h:Dy P t ti)(hs:ti.ty=.str):P.underlying t=some .string:=by
 obtain⟨d,hd,hk⟩:=h.Xn;rw[hd];cases d<;>simp[kindOk,hs,Ty.isAgg]at hk;rfl
theorem jG{t:Nat}{ti:TI}(h:Dy P t ti)(hs:ti.ty=.bool):P.underlying t=some .bool:=by
 obtain⟨d,hd,hk⟩:=h.Xn;rw[hd];cases d<;>simp[kindOk,hs,Ty.isAgg]at hk;rfl
theorem CR{t:Nat}{ti:TI}(h:Dy P t ti):(sizeOf t).run P w=.ok ti.ty.size w:=by
 obtain⟨i,z,hi,hs,_⟩:=h.info;simp[sizeOf,typeInfo,hi,hs]
theorem Vh{t:Nat}{ti:TI}(h:Dy P t ti):(isAgg t).run P w=.ok ti.ty.isAgg w:=by
 obtain⟨d,hd,hk⟩:=h.Xn;cases d<;>simp[isAgg,underlying,hd,kindOk]at hk⊢
 case int=>rw[hk];rfl
 case bool=>rw[hk];rfl
 case string=>rw[hk];rfl
 case slice =>
  obtain⟨_,hk⟩:=hk;split at hk
  ·rename_i u hu;rw[hu];rfl
  ·grind
 case array=>grind
 case struct=>grind
 case pointer =>
  split at hk
  ·rename_i u hu;rw[hu];rfl
  ·grind
 case map =>
  split at hk
  ·rename_i u hu;rw[hu];rfl
  ·grind
 case func =>
  split at hk
  ·rename_i u hu;rw[hu];rfl
  ·grind
theorem y8(H:A1 w g bs){t:Nat}{ti:TI}(ht:Dy P t ti){x:AV}{u:Value}{K:AV->Ay0 R}{r:R}(h:dp bs ti x K=some r)(hx:BF w g bs.length x u)(ty:TypeId)(ts:Array TypeId)(Qk:ts[0]?=some t) :
    ∃z,K z=some r/\Qd P w g n (Builtin.len_ ts ty #[u]) z:=by
 unfold dp at h;split at h
 ·split at h
  ·rename_i hs;obtain⟨_,ad,cap,ds,rfl,_⟩:=Uz hx;exact⟨_,h,BK (by simp[Builtin.len_,Qk,underlying,Bf ht hs,goInt])⟩
  ·cases h
 ·split at h
  ·rename_i hs;obtain rfl:=Rn hx;exact⟨_,h,BK (by simp[Builtin.len_,Qk,underlying,NN ht hs,goInt])⟩
  ·cases h
 ·split at h
  ·rename_i hs;obtain⟨ad,rfl⟩:=Sw hx;exact⟨_,h,BK (by simp[Builtin.len_,Qk,underlying,Bf ht hs,goInt])⟩
  ·cases h
 ·rename_i k;split at h
  ·rename_i e m t' xs hb;split at h
   ·rename_i hs;obtain⟨hk,rfl⟩:=DV hx;have hl:=(H.Js k _ hb).2.1;exact⟨_,h,BK (by simp[Builtin.len_,Qk,underlying,Bf ht hs,goInt,hl])⟩
   ·cases h
  ·rename_i e t' xs i p hb;split at h
   ·rename_i hs;obtain⟨hk,rfl⟩:=DV hx;have hl:=(H.Js k _ hb).1;exact⟨_,h,BK (by simp[Builtin.len_,Qk,underlying,Bf ht hs,goInt,hl])⟩
   ·cases h
  ·cases h
 ·cases h
theorem AdB{mx:Bool}{x y:AV}{u v:Value}{K:AV->Ay0 R}{r:R}(h:qq mx x y K=some r)(hx:BF w g n x u)(hy:BF w g n y v)(ty:TypeId)(ts:Array TypeId) :
    ∃z,K z=some r/\Qd P w g n (if mx then Builtin.max_ ts ty #[u,v]else Builtin.min_ ts ty #[u,v]) z:=by
 unfold qq at h;split at h
 ·obtain rfl:=CH hx;obtain rfl:=CH hy;split at h
  ·rename_i hk;refine⟨_,h,BK ?_⟩;cases mx
   ·simp[Builtin.min_,Builtin.min2]
   ·simp[Builtin.max_,Builtin.max2]
  ·grind
 ·grind
theorem Rh{i:Int}{n:Nat}(h:0<=i/\i<(n:Int)):i.toNat<n:=by omega
theorem T4(b o i:Nat):(⟨b,o,none⟩:Addr).add i=⟨b,o+i,none⟩:=by unfold Addr.add;split<;>simp_all
theorem Od{t:Nat}{ti:TI}(h:Dy P t ti){b off:Nat}{cs:AyZ Value}(hl:cs.length=ti.ty.size)(hc:∀j u,cs[j]?=some u->w.cell? ⟨b,off+j,none⟩=some u)(hs:ti.ty.isAgg=false->cs.length=1) :
    ∃v,(loadVar t ⟨b,off,none⟩).run P w=.ok v w/\BV ti.ty.isAgg cs v:=by
 unfold loadVar;cases ha:ti.ty.isAgg with
 |true =>
  have hr:=run_loadCells_list (P:=P) w _ cs (λj u hu=>by rw[T4];exact hc j u hu);rw[hl]at hr;exact⟨.agg cs.toArray,by simp[Vh h,ha,CR h,hr],by simp[BV]⟩
 |false =>
  have h1:=hs ha;obtain⟨c,rfl⟩:∃c,cs=[c]:=by
   cases cs with
   |nil=>grind
   |cons c r=>grind
  have DT:=hc 0 c rfl;rw[Nat.add_zero]at DT;exact⟨c,by simp[Vh h,ha,DT],by simp[BV]⟩
theorem Ol{t:Ty}(h:t.isAgg=false):t.size=1:=by cases t<;>simp_all [Ty.isAgg,Ty.size]
theorem AG{t:Ty}(xs:AyZ t.V)(i:Nat)(z:t.V)(h:i<xs.length):xs.getD i z=xs[i]:=by grind
theorem rz(H:A1 w g bs){k:Nat}{i:Int}{a:AV}(h:atB bs k i=some a)(hi:i.toNat<(g.AK k).len){b:Nat}(hb:(g.AK k).a=some ⟨b,0,none⟩) :
    ∃cs,B9 w g bs.length false a cs/\∀j u,cs[j]?=some u->w.cell? ⟨b,i.toNat*(g.AK k).aL+j,none⟩=some u:=by
 unfold atB at h;split at h
 ·rename_i a' hx;injection h with h;subst h;obtain⟨h1,b',cs,e,ha,ho,hh,hr⟩:=H.Js k _ hx;rw[hb]at ha;injection ha with ha;injection ha with ha;subst ha;refine⟨cs.toList,hr,λj u hu=>?_⟩;have:i.toNat=0:=by omega
  rw[this,Nat.zero_mul,AwF,Mi hh,<-Awn];exact hu
 ·rename_i e m t xs hx;injection h with h;subst h;obtain⟨Ng,hlen,Mg,BB,hr⟩:=H.Js k _ hx;have Cw:=AP hx;rw[hlen]at hi;rcases hr with ⟨Ug,_⟩|⟨b',Bh,ds,ha,ho,⟨el,RX,hh⟩,h1,h2,h3,h4,hc⟩
  ·grind
  ·rw[hb]at ha;injection ha with ha;injection ha with ha;subst ha;rw[AG _ _ _ hi,Mg];have CO:∀j u,ds[j]?=some u->w.cell? ⟨b,j,none⟩=some u:=by
    intro j u hu;rw[Mi hh,<-Awn]
    grind
   cases m with
   |Ao =>
    obtain⟨c0,c,d,e1,hl,hr,_,_⟩:=A5.AK (λi x c h=>Ht.len h) hc hi;refine⟨c,⟨TM (λj hj=>by grind),TP (hr.rd λb q hq=>.mem (List.mem_singleton.2 rfl) hq)⟩,λj u hu=>?_⟩;refine CO _ u ?_;rw[e1,<-hl,Awh,Awv (by omega),show c0.length+j-c0.length=j by omega,Aww (AP hu)];exact hu
   |sh ks =>
    obtain⟨c0,c,d,e1,hl,hr,_,_⟩:=Ca.AK (λx c h=>FX.len h) hc hi;refine⟨c,⟨TM Ng,TP hr⟩,λj u hu=>?_⟩;refine CO _ u ?_;rw[e1,<-hl,Awh,Awv (by omega),show c0.length+j-c0.length=j by omega,Aww (AP hu)];exact hu
 ·grind
theorem QQ(H:A1 w g bs){k:Nat}{i:Int}{p:AyZ Nat}{o:Nat}{a:AV}(h:wL bs k i p o=some a)(hi:i.toNat<(g.AK k).len){b:Nat}(hb:(g.AK k).a=some ⟨b,0,none⟩) :
    ∃cs,B9 w g bs.length false a cs/\∀j u,cs[j]?=some u->w.cell? ⟨b,i.toNat*(g.AK k).aL+o+j,none⟩=some u:=by
 unfold wL at h;split at h
 ·rename_i c hc;split at h
  ·rename_i ho;obtain⟨cs,hx,CO⟩:=rz H hc hi hb;obtain⟨c0,c1,c2,e,mo,YI,_⟩:=Nz p c cs a hx h
   grind
  ·grind
 ·grind
theorem QE{a:AV}{cs:AyZ Value}(h:B9 w g n false a cs):a.Cz=false:=by cases a<;>first |rfl |exact h.elim
theorem uw(H:A1 w g bs){t:Nat}{ti:TI}(ht:Dy P t ti){x:AV}{u:Value}{K:AV->Ay0 R}{r:R}(h:Uk bs ti x K=some r)(hx:BF w g bs.length x u) :
    ∃z,K z=some r/\Qd P w g bs.length (Instr.loadAt t u) z:=by
 unfold Uk at h;split at h
 ·split at h
  ·rename_i he;subst he;obtain⟨hk,b,off,ds,rfl,ha,hr,hc⟩:=Tq hx;obtain⟨v,hv,hs⟩:=Od  ht hr.len hc (λhg=>by rw[hr.len];exact Ol hg);exact⟨_,h,v,by simp[Instr.loadAt,Instr.sureAddr,hv],A9 rfl  ⟨TM hk,TP hr⟩ hs⟩
  ·grind
 ·split at h
  ·rename_i a ha;split at h
   ·rename_i hs;obtain⟨hk,h0,h1,b,hb,rfl⟩:=IA hx;obtain⟨cs,ZQ,CO⟩:=QQ H ha h1 hb;obtain⟨v,hv,eO⟩:=Od  ht (by rw[ZQ.len,hs.1]) CO (λhg=>by rw[ZQ.len,hs.1];exact Ol hg);rw[<-hs.2]at eO;exact⟨_,h,v,by simp[Instr.loadAt,Instr.sureAddr,hv],A9 (QE ZQ) ZQ eO⟩
   ·grind
  ·grind
 ·grind
theorem yP(H:A1 w g bs){t:Nat}{ti te:TI}(ht:Dy P t ti)(C9:Dy P ti.elem te)(hs:ti.Da=true){x y:AV}{u v:Value}{K:AV->Ay0 R}{r:R}(h:j9 bs te.ty x y K=some r)(hx:BF w g bs.length x u)(hy:BF w g bs.length y v) :
    ∃z,K z=some r/\Qd P w g bs.length (Instr.indexAt t u v) z:=by
 have hu:=Bf ht hs;unfold j9 at h;split at h
 ·rename_i ks t' xs Uj k i;split at h
  ·rename_i he;subst he;split at h
   ·rename_i hi;obtain rfl:=CH hy;obtain⟨hk,ad,cap,ds,rfl,hl,hr,hm⟩:=Uz hx;have Cw:i.toNat<xs.length:=Rh hi;rcases hm with hm |⟨b,off,rfl,ha,hc⟩
    ·subst hm;simp at Cw
    ·obtain⟨c0,c,d,e1,gm,Vb,_,_⟩:=Ca.AK (λx c h=>FX.len h) hr Cw;refine⟨_,h,.pointer (some ⟨b,off+i.toNat*te.ty.size,none⟩),?_,?_⟩
     ·simp[Instr.indexAt,asIntOf,underlying,hu,hi.1,hi.2,CR C9,T4]
     ·rw[AG _ _ _ Cw];refine WL hk ha Vb λj q hq=>?_;rw[<-gm,Aw7];refine hc _ q ?_;rw[e1,Awh,Awv (by omega),show c0.length+j-c0.length=j by omega,Aww (AP hq)];exact hq
   ·cases h
  ·cases h
 ·rename_i k Uj kk i;split at h
  ·rename_i e m t' xs hb;split at h
   ·rename_i he;subst he;split at h
    ·rename_i hi;obtain rfl:=CH hy;obtain⟨hk,rfl⟩:=DV hx;obtain⟨Ng,hlen,Mg,BB,hr⟩:=H.Js k _ hb;have Cw:i.toNat<xs.length:=Rh hi;rcases hr with ⟨Ug,_⟩|⟨b,Bh,ds,ha,ho,⟨el,RX,hh⟩,h1,h2,h3,h4,hc⟩
     ·subst Ug;simp at Cw
     ·refine⟨_,h,.pointer (some ⟨b,i.toNat*(g.AK k).aL+0,none⟩),?_,WK hk hi.1 (by rw[hlen];exact Cw) ha⟩;simp[Instr.indexAt,asIntOf,underlying,hu,hi.1,hi.2,CR C9,ha,hlen,Mg,T4]
    ·cases h
   ·cases h
  ·rename_i e t' xs i' p' hb;split at h
   ·rename_i he;subst he;split at h
    ·rename_i hi;obtain rfl:=CH hy;obtain⟨hk,rfl⟩:=DV hx;obtain⟨hlen,Mg,BB,_,_,_,_,_,b,_,_,_,_,_,ha,_⟩:=H.Js k _ hb;have Cw:i.toNat<xs.length:=Rh hi;refine⟨_,h,.pointer (some ⟨b,i.toNat*(g.AK k).aL+0,none⟩),?_,WK hk hi.1 (by rw[hlen];exact Cw) ha⟩;simp[Instr.indexAt,asIntOf,underlying,hu,hi.1,hi.2,CR C9,ha,hlen,Mg,T4]
    ·cases h
   ·cases h
  ·cases h
 ·cases h
theorem yc{t:Nat}{ti:TI}(ht:Dy P t ti)(hs:ti.ty=.str){x y:AV}{u v:Value}{K:AV->Ay0 R}{r:R}(h:cu x y K=some r)(hx:BF w g n x u)(hy:BF w g n y v) :
    ∃z,K z=some r/\Qd P w g n (Instr.index t u v) z:=by
 unfold cu at h;split at h
 ·rename_i ks s Uj k i;split at h
  ·rename_i hi;obtain rfl:=CH hy;obtain rfl:=Rn hx;refine⟨_,h,BK ?_⟩;have Cw :=Rh hi;simp[Instr.index,asIntOf,underlying,NN ht hs,hi.1,Cm,Cw]
  ·grind
 ·grind
end
end Go.Va
namespace Go.Va
section
variable {P:Program} {w:World} {g:G} {n:Nat} {R:Type} {bs:AyZ Blk}
theorem cG{ty:Ty}:∀{fs:AyZ Field} {os:AyZ Nat} {i j o:Nat},LM P ty i fs os=true->os[j]?=some o ->
    ∃fd u inf,fs[j]?=some fd/\fd.offset=o/\PK ty (i+j)=some o/\Z8 ty (i+j)=some u/\P.info? fd.type=some inf/\inf.size=u.size/\u.size≠0
 |[],[],_,_,_,_,h=>by grind
 |f::fs,o'::os,i,0,o,h,ho=>by
  simp only[List.getElem?_cons_zero,Awb]at ho;subst ho;simp only[LM,Awg,Axj]at h;obtain⟨⟨⟨h1,h2⟩,h3⟩,_⟩:=h;split at h3
  ·rename_i u hu;cases hi:P.info? f.type with
   |none=>grind
   |some inf=>grind
  ·grind
 |f::fs,o'::os,i,j+1,o,h,ho=>by
  simp only[LM,Awg]at h;obtain⟨fd,u,inf,h1,h2,h3,h4,h5⟩:=cG (i:=i+1) h.2 (by simpa using ho)
  grind
 |[],_::_,_,_,_,h,_=>by simp[LM]at h
 |_::_,[],_,_,_,h,_=>by grind
theorem RF{t:Nat}{ti:TI}(h:Dy P t ti){f o:Nat}(ho:ti.Rb[f]?=some o) :
    ∃fs,P.underlying t=some (.struct fs)/\LM P ti.ty 0 fs.toList ti.Rb=true:=by
 rcases h.Rb with ⟨fs,hfs⟩|he
 ·obtain⟨d,hd,hk⟩:=h.Xn;rw[hfs]at hd;injection hd with hd;subst hd;simp only[kindOk,Awg]at hk;exact⟨fs,hfs,hk.2⟩
 ·grind
theorem Qi{t:Nat}{ti:TI}(h:Dy P t ti){f fo:Nat}(ho:ti.Rb[f]?=some fo)(b o:Nat) :
    (Instr.fieldAt t (.pointer (some ⟨b,o,none⟩)) f).run P w=.ok (.pointer (some ⟨b,o+fo,none⟩)) w/\PK ti.ty f=some fo/\∃u,Z8 ti.ty f=some u:=by
 obtain⟨fs,hu,hf⟩:=RF h ho;obtain⟨fd,u,inf,h1,h2,h3,h4,h5,h6,h7⟩:=cG hf ho;rw[AwF]at h3 h4;refine⟨?_,h3,u,h4⟩;have hfd:fs[f]?=some fd:=by grind
 have J9:(sizeOf fd.type).run P w=.ok u.size w:=by simp[sizeOf,typeInfo,h5,h6]
 simp[Instr.fieldAt,underlying,hu,hfd,Instr.sureAddr,fieldPlace,J9,h7,T4,h2]
theorem yq{t:Nat}{ti:TI}(ht:Dy P t ti){f:Nat}{x:AV}{u:Value}{K:AV->Ay0 R}{r:R}(h:ZM ti f x K=some r)(hx:BF w g n x u) :
    ∃z,K z=some r/\Qd P w g n (Instr.fieldAt t u f) z:=by
 unfold ZM at h;split at h
 ·split at h
  ·rename_i fo tn;obtain⟨hk,h0,h1,b,hb,rfl⟩:=IA hx;refine⟨_,h,_,(Qi ht tn b _).1,?_⟩;rw[Aw7];exact WK hk h0 h1 hb
  ·grind
 ·rename_i ks t' y;split at h
  ·rename_i he;obtain⟨rfl,he⟩:=he;split at h
   ·rename_i Uj v z hz;obtain⟨hk,b,off,ds,rfl,ha,hr,hc⟩:=Tq hx;obtain⟨c0,c1,c2,e,ho,_,⟨u',y',heq,Vb⟩,_⟩:=TG (g:=g) hk f _ y ds _ hr hz;injection heq with _ h2 h3;subst h2;obtain rfl:=eq_of_heq h3;rw[ho]at he;refine⟨_,h,_,(Qi ht he.symm b off).1,WL hk ha Vb λj q hq=>?_⟩;rw[Aw7];refine hc _ q ?_
    grind
   ·grind
  ·grind
 ·grind
theorem lX:∀{x:AV} {i:Nat} {z:AV} {vs:AyZ Value},LV x i=some z->B9 w g n true x vs->∃v,vs[i]?=some v/\(z.Cz=false->BF w g n z v)
 |.cons a b,0,z,vs,h,hx=>by
  simp only[LV,Awb]at h;subst h;obtain⟨v,r,e,h1,_⟩:=hx;subst e;exact⟨v,rfl,λht=>(BF.iff ht).2 h1⟩
 |.cons a b,i+1,z,vs,h,hx=>by
  simp only[LV]at h;obtain⟨v,r,e,_,h2⟩:=hx;subst e;obtain⟨u,hu,hz⟩:=lX h h2
  grind
 |.nil,_,_,_,h,_=>by simp[LV]at h
 |.Aw _ _ _,_,_,_,h,_=>by simp[LV]at h
 |.zs,_,_,_,h,_=>by simp[LV]at h
 |.AA _,_,_,_,h,_=>by simp[LV]at h
 |.mp _,_,_,_,h,_=>by simp[LV]at h
 |.ptr _ _ _ _,_,_,_,h,_=>by simp[LV]at h
 |.D7 _ _ _,_,_,_,h,_=>by simp[LV]at h
 |.JH,_,_,_,h,_=>by simp[LV]at h
 |.pr _ _,_,_,_,h,_=>by simp[LV]at h
 |.fn _ _,_,_,_,h,_=>by simp[LV]at h
 |.O1 _ _ _ _ _,_,_,_,h,_=>by simp[LV]at h
 |.QF _ _ _ _ _ _,_,_,_,h,_=>by simp[LV]at h
 |.un _,_,_,_,h,_=>by simp[LV]at h
def rf(w:World)(g:G)(n:Nat):Ay0 AV->Ay0 Value->Prop
 |none,none=>True
 |some a,some v=>BF w g n a v
 |_,_=>False
theorem Sz{x:Ay0 AV}{v:Ay0 Value}{d i:Int}(h:wM x d=some i)(hx:rf w g n x v):(v=none/\i=d)\/∃k,v=some (.int k i):=by
 unfold wM at h;split at h
 ·cases v with
  |none=>grind
  |some _=>exact hx.elim
 ·cases v with
  |none=>exact hx.elim
  |some u=>simp at h;subst h;exact .inr ⟨_,congrArg some (CH hx)⟩
 ·grind
theorem Nr{isS:Bool}{len cap:Nat}{lo hi:Ay0 Value}{l h:Int}(hl:(lo=none/\l=0)\/∃k,lo=some (.int k l))(hh:(hi=none/\h=(len:Int))\/∃k,hi=some (.int k h))
    (h0:0<=l) (h1:l<=h) (h2:h<=(len:Int)) (hc:len<=cap):(Instr.sliceBounds isS len cap lo hi none).run P w=.ok (l.toNat,h.toNat,cap) w:=by
 have e1:(h.toNat)=h:=by omega
 have e2:h<=cap:=by omega
 have e3:0<=h:=by omega
 rcases hl with ⟨rfl,rfl⟩|⟨k,rfl⟩<;>rcases hh with ⟨rfl,rfl⟩|⟨k',rfl⟩
 ·simp[Instr.sliceBounds]
 ·simp[Instr.sliceBounds,Instr.sliceBound,asIntOf,e2,e3]
 ·simp[Instr.sliceBounds,Instr.sliceBound,asIntOf,h0,h1]
 ·simp[Instr.sliceBounds,Instr.sliceBound,asIntOf,e2,e3,h0,h1,e1]
theorem Io{t:Nat}{ti:TI}(h:Dy P t ti)(hs:ti.Da=true)(a:Ay0 Addr)(len cap:Nat)(lo hi mx:Ay0 Value)(w:World) :
    (Instr.sliceAt t (.slice a len cap) lo hi mx).run P w=(Instr.slice t (.slice a len cap) lo hi mx).run P w:=by
 simp[Instr.sliceAt,underlying,Bf h hs]
theorem iq{t:Nat}{ti:TI}(h:Dy P t ti)(hs:ti.ty=.str)(s:ByteArray)(lo hi mx:Ay0 Value)(w:World) :
    (Instr.sliceAt t (.string s) lo hi mx).run P w=(Instr.slice t (.string s) lo hi mx).run P w:=by
 simp[Instr.sliceAt,underlying,NN h hs]
theorem mP{A:Nat->Prop}{t:Ty}{xs:AyZ t.V}{ad:Ay0 Addr}{cap:Nat}{ds:AyZ Value}{l h:Nat}(h1:l<=h)(h2:h<=xs.length)(hc:xs.length<=cap)
    (hr:Ca (FX w A t) xs ds) (hm:xs=[]\/∃b off,ad=some ⟨b,off,none⟩/\A b/\∀j u,ds[j]?=some u->w.cell? ⟨b,off+j,none⟩=some u) :
    FX w A (.sl t) ((xs.take h).drop l) [.slice (if cap=l then ad else ad.map (·.add (l*t.size))) (h-l) (cap-l)]:=by
 have hlen:((xs.take h).drop l).length=h-l:=by grind
 refine⟨_,cap-l,((ds.take (h*t.size)).drop (l*t.size)),by rw[hlen],by omega,?_,?_⟩
 ·exact Ca.sE (λx c r=>FX.len r) l (Ca.takeN (λx c r=>FX.len r) h hr)
 ·rcases Nat.eq_or_lt_of_le h1 with e |Cw
  ·grind
  ·rcases hm with hx |⟨b,off,rfl,ha,CO⟩
   ·grind
   ·refine .inr ⟨b,off+l*t.size,?_,ha,λj u hu=>?_⟩
    ·rw[Aws (by omega)];simp[T4]
    grind
theorem pG(H:A1 w g bs){t:Nat}{ti:TI}(ht:Dy P t ti){te:Ay0 Ty}(C9:∀u,te=some u->ti.Da=true/\∃ZH,ZH.ty=u/\Dy P ti.elem ZH){x:AV}{lo hi mx:Ay0 AV}{u:Value}{vlo vhi qt:Ay0 Value}
    {K:AV->Ay0 R} {r:R} (h:RB bs ti te x lo hi mx K=some r) (hx:BF w g bs.length x u) (qk:rf w g bs.length lo vlo) (mb:rf w g bs.length hi vhi) (gq:rf w g bs.length mx qt) :
    ∃z,K z=some r/\Qd P w g bs.length (Instr.sliceAt t u vlo vhi qt) z:=by
 unfold RB at h;split at h
 ·rename_i ks k m;split at h
  ·rename_i Uj k' hh;split at h
   ·rename_i hz;obtain⟨rfl,rfl,hs⟩:=hz;obtain⟨u',yL⟩:=Option.isSome_iff_exists.1 hs;obtain⟨hs,ZH,rfl,oM⟩:=C9 _ yL;obtain rfl:vlo=none:=by cases vlo with |none=>rfl |some _=>exact qk.elim
    obtain⟨vh,rfl,e1⟩:∃v,vhi=some v/\v=.int k' 0:=by cases vhi with |none=>exact mb.elim |some v=>exact⟨v,rfl,CH mb⟩
    obtain⟨vm,rfl,e2⟩:∃v,qt=some v/\v=.int k 0:=by cases qt with |none=>exact gq.elim |some v=>exact⟨v,rfl,CH gq⟩
    subst e1;subst e2;have key:∀(a:Ay0 Addr) (len cap:Nat),(Instr.sliceAt t (.slice a len cap) none (some (.int k' 0)) (some (.int k 0))).run P w=.ok (.slice a 0 0) w:=λa len cap=>by
     rw[Io ht hs];simp[Instr.slice,underlying,Bf ht hs,Instr.sliceBounds,Instr.sliceBound,asIntOf,CR oM]
    split at h
    ·obtain⟨_,ad,cap,ds,rfl,_⟩:=Uz hx;exact⟨_,h,_,key _ _ _,bm _⟩
    ·obtain⟨ad,rfl⟩:=Sw hx;exact⟨_,h,_,key _ _ _,bm _⟩
    ·split at h
     ·obtain⟨_,rfl⟩:=DV hx;exact⟨_,h,_,key _ _ _,bm _⟩
     ·cases h
    ·cases h
   ·cases h
  ·cases h
 ·cases h
 ·split at h
  ·rename_i ks s;split at h
   ·rename_i l hh hl hhh;split at h
    ·rename_i hc;obtain⟨hs,h0,h1,h2⟩:=hc;obtain rfl:=Rn hx;obtain rfl:qt=none:=by cases qt with |none=>rfl |some _=>exact gq.elim
     refine⟨_,h,TH ?_⟩;rw[iq ht hs];have hb:=Nr (P:=P) (w:=w) (isS:=false) (cap:=s.size) (Sz hl qk) (Sz hhh mb) h0 h1 h2 (Awf _);simp[Instr.slice,underlying,NN ht hs,hb]
    ·cases h
   ·cases h
  ·rename_i ks t' xs;split at h
   ·rename_i l hh hl hhh;split at h
    ·rename_i he;obtain⟨hs,ZH,rfl,oM⟩:=C9 _ he;split at h
     ·rename_i hc;obtain⟨h0,h1,h2⟩:=hc;obtain⟨hk,ad,cap,ds,rfl,Wz,hr,hm⟩:=Uz hx;obtain rfl:qt=none:=by cases qt with |none=>rfl |some _=>exact gq.elim
      refine⟨_,h,?_⟩;have hb:=Nr (P:=P) (w:=w) (isS:=true) (cap:=cap) (Sz hl qk) (Sz hhh mb) h0 h1 h2 Wz;refine⟨.slice (if cap=l.toNat then ad else ad.map (·.add (l.toNat*ZH.ty.size))) (hh.toNat-l.toNat) (cap-l.toNat),?_,?_⟩
      ·rw[Io ht hs];simp[Instr.slice,underlying,Bf ht hs,hb,CR oM]
      ·exact A9 rfl (cs:=[_]) ⟨hk,mP (by omega) (by omega) Wz hr hm⟩ (by simp[BV,AV.isAgg,Ty.isAgg])
     ·cases h
    ·cases h
   ·cases h
  ·rename_i k;split at h
   ·rename_i e m t' xs hb;split at h
    ·rename_i l hh hl hhh;split at h
     ·rename_i he;obtain⟨hs,ZH,rfl,oM⟩:=C9 _ he;split at h
      ·rename_i hc;obtain⟨h0,h1,h2⟩:=hc;obtain⟨cs,ZQ,hv⟩:=BD rfl rfl hx;have ZT:=MD H (.sl ZH.ty) (.AA k) xs cs (by simp[rd,hb,G2]) ZQ;obtain⟨⟨ad,cap,ds,e1,Wz,hr,hm⟩,mg⟩:=ZT;subst e1;have Ac7:(AV.AA k).PD bs=k::m.BX:=by simp[AV.PD,V0,hb]
       rw[Ac7]at mg hr hm;obtain rfl:u=.slice ad xs.length cap:=by simpa [BV,AV.isAgg]using hv.symm
       obtain rfl:qt=none:=by cases qt with |none=>rfl |some _=>exact gq.elim
       refine⟨_,h,?_⟩;have hb:=Nr (P:=P) (w:=w) (isS:=true) (cap:=cap) (Sz hl qk) (Sz hhh mb) h0 h1 h2 Wz;refine⟨.slice (if cap=l.toNat then ad else ad.map (·.add (l.toNat*ZH.ty.size))) (hh.toNat-l.toNat) (cap-l.toNat),?_,?_⟩
       ·rw[Io ht hs];simp[Instr.slice,underlying,Bf ht hs,hb,CR oM]
       ·exact A9 rfl (cs:=[_]) ⟨mg,mP (by omega) (by omega) Wz hr hm⟩ (by simp[BV,AV.isAgg,Ty.isAgg])
      ·cases h
     ·cases h
    ·cases h
   ·cases h
  ·split at h
   ·rename_i l hh hl hhh;split at h
    ·rename_i hc;obtain⟨hs,rfl,rfl⟩:=hc;obtain⟨u',yL⟩:=Option.isSome_iff_exists.1 hs;obtain⟨hs,ZH,rfl,oM⟩:=C9 _ yL;obtain⟨ad,rfl⟩:=Sw hx;obtain rfl:qt=none:=by cases qt with |none=>rfl |some _=>exact gq.elim
     have hb:=Nr (P:=P) (w:=w) (isS:=true) (len:=0) (cap:=0) (Sz hl qk) (Sz hhh mb) (AxO _) (AxO _) (AxO _) (Awf _);refine⟨_,h,.slice ad 0 0,?_,bm _⟩;rw[Io ht hs];simp[Instr.slice,underlying,Bf ht hs,hb,CR oM]
    ·cases h
   ·cases h
  ·cases h
theorem Pk{t:Nat}{ti:TI}{k:IntKind}(h:Dy P t ti)(hs:ti.ty=.int k):P.underlying t=some (.int k):=by
 obtain⟨d,hd,hk⟩:=h.Xn;rw[hd];cases d<;>simp[kindOk,hs,Ty.isAgg]at hk;rw[hk]
theorem W3{A:Nat->Prop}:∀{xs:AyZ Int} {ds:AyZ Value},Ca (FX w A (.int .u8)) xs ds->ds=xs.map (Value.int .u8)
 |[],_,h=>h
 |x::xs,_,⟨c,d,e,h1,h2⟩=>by
  have h1' :=h1;rw[e,h1',W3 h2];rfl
theorem sx(H:A1 w g bs){s t:Nat}{ts ti:TI}(hs:Dy P s ts)(ht:Dy P t ti){te:Ay0 Ty}(C9:∀u,te=some u->ts.Da=true/\∃ZH,ZH.ty=u/\Dy P ts.elem ZH){x:AV}{u:Value}
    {K:AV->Ay0 R} {r:R} (h:Vq bs te ti.ty x K=some r) (hx:BF w g bs.length x u) :
    ∃z,K z=some r/\Qd P w g bs.length (convert s t u) z:=by
 obtain⟨ds,hds,_⟩:=hs.Xn;unfold Vq at h;split at h
 ·rename_i k hk;split at h
  ·obtain rfl:=CH hx;refine⟨_,h,BK ?_⟩;simp[convert,underlying,hds,Pk ht hk,Conv.intToInt]
  ·cases h
 ·rename_i hk;have hut:=NN ht hk;split at h
  ·obtain rfl:=Rn hx;refine⟨_,h,TH ?_⟩;simp[convert,underlying,hds,hut]
  ·split at h
   ·rename_i he;obtain⟨H7,ZH,XM,oM⟩:=C9 _ he;split at h
    ·rename_i xs hxs;have hu:=Pk oM XM;have hsu:=Bf hs H7;have hnt:x.Cz=false:=by cases x<;>first |rfl |simp[rd]at hxs
     have Nv:x.KT=false:=by cases x<;>first |rfl |simp[rd]at hxs
     have hag:x.isAgg=false:=by
      cases x with
      |Aw ks t' y =>
       simp only[rd]at hxs;obtain⟨e,_⟩:=Bn hxs;subst e;rfl
      |pr a b=>simp[rd]at hxs
      |_=>rfl
     obtain⟨cs,ZQ,hv⟩:=BD hnt Nv hx;obtain⟨⟨ad,cap,dd,e1,Wz,hr,hm⟩,_⟩:=MD H _ _ _ _ hxs ZQ;subst e1;obtain rfl:u=.slice ad xs.length cap:=by
      rw[hag]at hv;have cY:[_]=[u]:=hv;simpa using cY.symm
     refine⟨_,h,TH ?_⟩;have hdd:=W3 hr;have C5:∀b off,ad=some ⟨b,off,none⟩->(∀i,i<xs.length->w.cell? ⟨b,off+i,none⟩=some (.int .u8 (xs.getD i 0)))->(convert s t (.slice ad xs.length cap)).run P w=.ok (.string (bytesOf xs)) w:=by
      intro b off e hc;subst e;exact run_convert_bytes_arg w s ts.elem hsu hu b off xs.length cap xs rfl hc t hut
     rcases hm with Ug |⟨b,off,rfl,_,hc⟩
     ·subst Ug;cases ad with
      |none=>exact run_convert_bytes_nil w s ts.elem hsu hu 0 cap t hut
      |some a0=>simp[convert,underlying,hsu,hut,hu,Conv.bytesToString,loadCells,loadCellsFrom,bytesOf,ByteArray.empty,ByteArray.emptyWithCapacity];rfl
     ·refine C5 b off rfl λi hi=>hc i _ ?_;rw[hdd];simp[List.getD,hi]
    ·cases h
   ·cases h
 ·cases h
end
end Go.Va
namespace Go.Va
section
variable {R:Type}
theorem fe(op:BinOp)(tb:Bool)(x y:AV)(K:AV->Ay0 R):ck op tb x y K=(ck op tb x y some).bind K:=by
 unfold ck
 repeat' split
 all_goals rfl
theorem ng(op:UnOp)(x:AV)(K:AV->Ay0 R):zI op x K=(zI op x some).bind K:=by
 unfold zI
 repeat' split
 all_goals rfl
theorem gK(bs:AyZ Blk)(ti:TI)(x:AV)(K:AV->Ay0 R):dp bs ti x K=(dp bs ti x some).bind K:=by
 unfold dp
 repeat' split
 all_goals rfl
theorem XP(mx:Bool)(x y:AV)(K:AV->Ay0 R):qq mx x y K=(qq mx x y some).bind K:=by
 unfold qq
 repeat' split
 all_goals rfl
theorem uc(bs:AyZ Blk)(te:Ty)(x y:AV)(K:AV->Ay0 R):j9 bs te x y K=(j9 bs te x y some).bind K:=by
 unfold j9
 repeat' split
 all_goals rfl
theorem gD(bs:AyZ Blk)(te:Ty)(x y:AV)(K:AV->Ay0 R):gC bs te x y K=(gC bs te x y some).bind K:=by
 unfold gC;split
 ·grind
 ·exact uc ..
theorem fx(x y:AV)(K:AV->Ay0 R):cu x y K=(cu x y some).bind K:=by
 unfold cu
 repeat' split
 all_goals rfl
theorem fO(ti:TI)(f:Nat)(x:AV)(K:AV->Ay0 R):ZM ti f x K=(ZM ti f x some).bind K:=by
 unfold ZM
 repeat' split
 all_goals rfl
theorem aZ(bs:AyZ Blk)(ti:TI)(x:AV)(K:AV->Ay0 R):Uk bs ti x K=(Uk bs ti x some).bind K:=by
 unfold Uk
 repeat' split
 all_goals rfl
theorem Zi(bs:AyZ Blk)(ti:TI)(te:Ay0 Ty)(x:AV)(lo hi mx:Ay0 AV)(K:AV->Ay0 R):RB bs ti te x lo hi mx K=(RB bs ti te x lo hi mx some).bind K:=by
 unfold RB
 repeat' split
 all_goals rfl
theorem aE(bs:AyZ Blk)(te:Ay0 Ty)(td:Ty)(a:AV)(K:AV->Ay0 R):Vq bs te td a K=(Vq bs te td a some).bind K:=by
 unfold Vq
 repeat' split
 all_goals rfl
theorem kW(bs:AyZ Blk)(ti:TI)(x v:AV)(K:F1->Ay0 R):WV bs ti x v K=(WV bs ti x v some).bind K:=by
 unfold WV
 repeat' split
 all_goals rfl
theorem kU(bs:AyZ Blk)(ti:TI)(x:AV)(K:F1->Ay0 R):U3 bs ti x K=(U3 bs ti x some).bind K:=by
 unfold U3
 repeat' split
 all_goals rfl
theorem bd(bs:AyZ Blk)(tk te:TI)(ok:Bool)(m x:AV)(K:AV->Ay0 R):Xd bs tk te ok m x K=(Xd bs tk te ok m x some).bind K:=by
 unfold Xd
 grind
theorem o5(bs:AyZ Blk)(tk te:TI)(m x:AV)(K:F1->Ay0 R):bf bs tk te m x K=(bf bs tk te m x some).bind K:=by
 unfold bf
 repeat' split
 all_goals rfl
theorem Zu(bs:AyZ Blk)(tk te:TI)(m x v:AV)(K:F1->Ay0 R):V5 bs tk te m x v K=(V5 bs tk te m x v some).bind K:=by
 unfold V5
 repeat' split
 all_goals grind
theorem sI(bs:AyZ Blk)(tk te:TI)(m x:AV)(K:F1->Ay0 R):ou bs tk te m x K=(ou bs tk te m x some).bind K:=by
 unfold ou
 repeat' split
 all_goals rfl
theorem ApQ{c:Bool}{A:Ay0 R}{B:Ay0 F1}{K:F1->Ay0 R}(h:A=B.bind K):(bif c then A else none)=(bif c then B else none).bind K:=by
 grind
theorem sJ(bs:AyZ Blk)(tk te:TI)(m j v:AV)(K:F1->Ay0 R):ov bs tk te m j v K=(ov bs tk te m j v some).bind K:=by
 unfold ov
 repeat' split
 all_goals first
  |rfl
  |exact ApQ (Zu ..)
theorem eY(fi:FI)(bs:AyZ Blk)(e:Nat)(ti:TI)(x y:AV)(K:F1->Ay0 R):Tm fi bs e ti x y K=(Tm fi bs e ti x y some).bind K:=by
 unfold Tm
 repeat' split
 all_goals rfl
theorem eZ(fi:FI)(bs:AyZ Blk)(e:Nat)(ti:TI)(x y:AV)(K:F1->Ay0 R):Tn fi bs e ti x y K=(Tn fi bs e ti x y some).bind K:=by
 unfold Tn
 repeat' split
 all_goals rfl
theorem o6(fi:FI)(bs:AyZ Blk)(e:Nat)(ti:TI)(x y:AV)(K:F1->Ay0 R):bg fi bs e ti x y K=(bg fi bs e ti x y some).bind K:=by
 unfold bg
 repeat' split
 all_goals rfl
theorem sy(te:Ty)(bs:AyZ Blk)(x:AV)(hi:Ay0 AV)(K:F1->Ay0 R):oi te bs x hi K=(oi te bs x hi some).bind K:=by
 unfold oi
 repeat' split
 all_goals rfl
def XW(c:Callee):Prop:=∀(R:Type) args E (K:AV->AyZ Blk->Ay0 R),c.run R args E K=(c.run (AV×AyZ Blk) args E λv b=>some (v,b)).bind λp=>K p.1 p.2
theorem Wo(c:Callee)(hc:XW c)(bs:AyZ Blk)(args:AyZ AV)(K:F1->Ay0 R):SB c bs args K=(SB c bs args some).bind K:=by
 unfold SB;split
 ·rfl
 ·dsimp only
  split
  ·rw[hc R,hc F1]
   grind
  ·rfl
theorem nZ(c:Callee)(hc:XW c)(bs:AyZ Blk)(args:AyZ AV)(K:F1->Ay0 R):X9 c bs args K=(X9 c bs args some).bind K:=by
 have via:∀(bs:AyZ Blk) (args:AyZ AV) (F:F1->Ay0 R) (F':F1->Ay0 F1),(∀e,F e=(F' e).bind K)->SB c bs args F=(SB c bs args F').bind K:=λbs args F F' h=>by
  rw[Wo c hc bs args F,Wo c hc bs args F'];cases SB c bs args some with
  |none=>rfl
  |some e=>grind
 unfold X9;split
 ·grind
 ·split
  ·split
   ·split
    ·grind
    ·rfl
   ·rfl
  ·rfl
theorem XB(f:(R:Type)->(AV->Ay0 R)->Ay0 R)(hf:∀(R:Type) (K:AV->Ay0 R),f R K=(f AV some).bind K)(g:AV->F1)(K:F1->Ay0 R) :
    f R (λv=>K (g v))=(f F1 λv=>some (g v)).bind K:=by
 rw[hf R,hf F1];cases f AV some<;>rfl
def T1(en:Fe):Prop:=∀g c,en.yu g=some c->XW c
theorem cC(en:Fe)(he:T1 en)(σ:St)(c:Call)(K:F1->Ay0 R):QY en σ c K=(QY en σ c some).bind K:=by
 unfold QY;split
 ·split
  ·split
   ·exact XB (λR K=>dp _ _ _ K) (λR K=>gK ..) (λv=>⟨v,_,_⟩) K
   ·rfl
  ·rfl
 ·split
  ·exact XB (λR K=>qq _ _ _ K) (λR K=>XP ..) (λv=>⟨v,_,_⟩) K
  ·rfl
 ·split
  ·exact XB (λR K=>qq _ _ _ K) (λR K=>XP ..) (λv=>⟨v,_,_⟩) K
  ·rfl
 ·split
  ·split
   ·split
    ·split
     ·exact eY ..
     ·split
      ·exact eZ ..
      ·rfl
    ·rfl
   ·rfl
  ·rfl
 ·rfl
 ·split
  ·split
   ·rename_i hg;exact nZ _ (he _ _ hg) ..
   ·rfl
  ·rfl
 ·rfl
theorem J6(en:Fe)(he:T1 en)(σ:St)(o:Oper)(K:F1->Ay0 R):Nk en σ o K=(Nk en σ o some).bind K:=by
 unfold Nk
 dsimp only
 split
 ·rfl
 ·rfl
 ·split
  ·rename_i t _;cases t<;>rfl
  ·rfl
 ·split<;>rfl
 ·split<;>rfl
 ·split
  ·split
   ·rfl
   ·split<;>rfl
  ·rfl
 ·split
  ·split
   ·split
    ·split
     ·split<;>rfl
     ·rfl
    ·rfl
   ·rfl
  ·rfl
 ·split
  ·split
   ·split
    ·exact kU ..
    ·rfl
   ·exact XB (λR K=>Uk _ _ _ K) (λR K=>aZ ..) (λv=>⟨v,_,_⟩) K
  ·rfl
 ·split
  ·split
   ·rfl
   ·split
    ·split<;>rfl
    ·rfl
  ·rfl
 ·split
  ·split
   ·split
    ·split
     ·split
      ·rfl
      ·exact o5 ..
     ·exact XB (λR K=>Xd _ _ _ _ _ _ K) (λR K=>bd ..) (λv=>⟨v,_,_⟩) K
    ·rfl
   ·rfl
  ·rfl
 ·split
  ·split
   ·split
    ·exact Zu ..
    ·rfl
   ·rfl
  ·rfl
 ·split
  ·split
   ·split
    ·exact Zu ..
    ·rfl
   ·rfl
  ·rfl
 ·split
  ·split
   ·split
    ·exact sI ..
    ·rfl
   ·rfl
  ·rfl
 ·split
  ·split
   ·split
    ·exact sJ ..
    ·rfl
   ·rfl
  ·rfl
 ·split
  ·exact kW ..
  ·rfl
 ·split<;>rfl
 ·split
  ·rfl
  ·exact XB (λR K=>ck _ _ _ _ K) (λR K=>fe ..) (λv=>⟨v,_,_⟩) K
 ·exact XB (λR K=>zI _ _ K) (λR K=>ng ..) (λv=>⟨v,_,_⟩) K
 ·split
  ·exact XB (λR K=>Vq _ _ _ _ K) (λR K=>aE ..) (λv=>⟨v,_,_⟩) K
  ·rfl
 ·split
  ·split<;>rfl
  ·rfl
 ·split
  ·split
   ·split
    ·exact o6 ..
    ·rfl
   ·rfl
  ·rfl
 ·split
  ·split
   ·split
    ·split
     ·split
      ·exact sy ..
      ·rfl
     ·rfl
    ·rfl
   ·exact XB (λR K=>RB _ _ _ _ _ _ _ K) (λR K=>Zi ..) (λv=>⟨v,_,_⟩) K
  ·rfl
 ·split
  ·exact XB (λR K=>ZM _ _ _ K) (λR K=>fO ..) (λv=>⟨v,_,_⟩) K
  ·rfl
 ·split
  ·split
   ·split
    ·exact XB (λR K=>gC _ _ _ _ K) (λR K=>gD ..) (λv=>⟨v,_,_⟩) K
    ·rfl
   ·rfl
  ·rfl
 ·split
  ·split
   ·exact XB (λR K=>cu _ _ K) (λR K=>fx ..) (λv=>⟨v,_,_⟩) K
   ·rfl
  ·rfl
 ·split
  ·split<;>rfl
  ·rfl
 ·exact cC en he ..
 ·rfl
theorem QX(en:Fe)(he:T1 en)(σ:St)(o:Oper)(K:F1->Ay0 R):Qh en σ o K=(Qh en σ o some).bind K:=by
 unfold Qh;split
 ·rfl
 split
 ·rfl
 split
 ·grind
 split
 ·cases Yp en o with
  |false=>exact J6 en he σ o K
  |true =>
   simp;refine(J6 en he σ o _).trans (Eq.symm ?_);refine(congrArg (λx=>Option.bind x K) (J6 en he σ o _)).trans ?_
   grind
 ·rename_i t _;refine(J6 en he σ o _).trans (Eq.symm ?_);refine(congrArg (λx=>Option.bind x K) (J6 en he σ o _)).trans ?_
  grind
theorem N7(en:Fe)(he:T1 en)(σ:St)(o:Oper)(K:F1->Ay0 R):exec en σ o K=(exec en σ o some).bind K:=by
 unfold exec;split
 ·split
  ·split
   ·rename_i bs _;rw[QX en he _ o,QX en he _ o (λe=>if e.Bg.isEmpty=true then none else some e),Awq]
    grind
   ·rfl
  ·exact QX en he σ o K
 ·exact QX en he σ o K
end
end Go.Va
namespace Go.Va
structure Ip (w:World) (g:G) (σ:St) (a:Act):Prop where
 heap:A1 w g σ.Ag
 len:σ.Az.length=a.tmps.size
 Az:∀(i:Nat) (x:AV),σ.Az[i]?=some x->BF w g σ.Ag.length x (a.tmps.getD i undef)
structure KO (P:Program) (σ:St) (o:Oper) (e:F1):Prop where
 grow:σ.Ag.length<=e.Ag.length
 ext:e.Bg=[]->∃l,e.Ag=σ.Ag++l
 wp:∀(a:Act) (w:World) (g:G),Ip w g σ a->∀(next:Act->World->Prop) (Q:Exit->Act->World->Prop),
  (∀v w' g',A1 w' g' e.Ag->BF w' g' e.Ag.length e.val v->Step e.Bg σ.Ag.length w g w' g'->next (a.put o.dst v) w')->o.wp P a w next Q
def Qt(P:Program)(σ:St)(o:Oper)(z:AV):Prop :=
 ∀(a:Act) (w:World) (g:G),Ip w g σ a->∃c,(execOp a.eval o).run P w=.ok (.value c) w/\BF w g σ.Ag.length z c
theorem TE{Bg:AyZ Nat}{sl:AyZ AV}{i:Nat}{x:AV}(h:(Pr Bg sl)[i]?=some x):∃y,sl[i]?=some y/\x=y.drop λk=>Bg.contains k:=by
 unfold Pr at h;split at h
 ·exact⟨x,h,by rw[show(λk=>[].contains k)=λ_=>false from funext λ_=>rfl,Vw]⟩
 grind
theorem aH(Bg:AyZ Nat)(sl:AyZ AV):(Pr Bg sl).length=sl.length:=by unfold Pr;split<;>simp
theorem VX(d:Ay0 Nat)(v:AV)(sl:AyZ AV):(T8 d v sl).length=sl.length:=by unfold T8;split<;>simp
theorem Rc(a:Act)(d:Ay0 Tmp)(v:Value):(a.put d v).tmps.size=a.tmps.size:=by cases d<;>simp[Act.put]
theorem bQ{w:World}{g:G}{n:Nat}{sl:AyZ AV}{a:Act}(hlen:sl.length=a.tmps.size)(h:∀(i:Nat) (x:AV),sl[i]?=some x->BF w g n x (a.tmps.getD i undef)){d:Ay0 Nat}{x:AV}{v:Value}(hv:BF w g n x v) :
    ∀(i:Nat) (y:AV),(T8 d x sl)[i]?=some y->BF w g n y ((a.put d v).tmps.getD i undef):=by
 intro i y hy;cases d with
 |none=>exact h i y hy
 |some d =>
  simp only[T8]at hy;rw[Awy]at hy;simp only[Act.put];split at hy
  ·rename_i he;subst he;split at hy
   ·rename_i hd;injection hy with hy;subst hy;rw[hlen]at hd;simpa [hd]using hv
   ·grind
  ·rename_i RY;have:=h i y hy;simpa [Axx RY]using this
theorem Ip.after{w w':World}{g g':G}{σ:St}{a:Act}{e:F1}{d:Ay0 Nat}{v:Value}(h:Ip w g σ a)(hg:σ.Ag.length<=e.Ag.length)(hh:A1 w' g' e.Ag)(hv:BF w' g' e.Ag.length e.val v)
    (hs:Step e.Bg σ.Ag.length w g w' g'):Ip w' g' (σ.after d e) (a.put d v) where
 heap:=hh
 len:=by simp only[St.after,VX,aH,Rc];exact h.len
 Az:=bQ (by rw[aH];exact h.len) (λi x hx=>by
  obtain⟨y,hy,rfl⟩:=TE hx;exact(h.Az i y hy).step hs hg) hv
section
variable {P:Program} {σ:St} {o:Oper} {en:Fe}
theorem KO.GI{z:AV}(h:Qt P σ o z):KO P σ o ⟨z,σ.Ag,[]⟩ where
 grow:=Awf _
 ext _:=⟨[],(AwO _).symm⟩
 wp a w g hs next Q hn:=by
  obtain⟨c,hc,hz⟩:=h a w g hs;unfold Oper.wp;rw[hc];exact hn c w g hs.heap hz (Step.refl _ _ _ _)
theorem Sc{f:(R:Type)->(AV->Ay0 R)->Ay0 R}(hf:∀(R:Type) (K:AV->Ay0 R),f R K=(f AV some).bind K){g:AV->F1}{e:F1}(h:f F1 (λv=>some (g v))=some e) :
    ∃z,f AV some=some z/\e=g z:=by
 rw[hf F1]at h;cases hz:f AV some with
 |none=>grind
 |some z=>grind
theorem sw{w:World}{g:G}{n:Nat}(v:Value):BF w g n (cy v) v:=by
 unfold cy;split
 ·exact uE _ _
 ·exact VO _
 ·exact uF _
 ·exact bm _
 ·exact A9 rfl  rfl (by simp[BV,AV.isAgg])
 ·exact M4
theorem AF{w:World}{g:G}{a:Act}(h:Ip w g σ a)(x:Operand):BF w g σ.Ag.length (σ.BP x) (a.eval x):=by
 cases x with
 |tmp t =>
  simp only[St.BP];cases hx:σ.Az[t]? with
  |none=>exact M4
  |some y=>exact h.Az t y hx
 |const v=>exact sw v
 |func f=>exact A9 (a:=.fn f .nil) rfl  ⟨[],rfl,rfl⟩ (by simp[BV,AV.isAgg,Act.eval])
 |global g=>exact M4
theorem TN{w:World}{g:G}{a:Act}(h:Ip w g σ a)(x:Ay0 Operand):rf w g σ.Ag.length (x.map σ.BP) (x.map a.eval):=by
 cases x with
 |none=>trivial
 |some x=>exact AF h x
theorem IQ{z:AV}{s:(Operand->Value)->Sem Value}(he:∀ρ,execOp ρ o=(do pure (.value (<-s ρ))))(h:∀(a:Act) (w:World) (g:G),Ip w g σ a->Qd P w g σ.Ag.length (s a.eval) z):Qt P σ o z:=by
 intro a w g hs;obtain⟨c,hc,hz⟩:=h a w g hs;exact⟨c,by rw[he];simp[hc],hz⟩
theorem Vi{v:Value}{cs:AyZ Value}{b:Bool}(h:BV b cs v)(h1:∀c∈cs,c.oneCell'=true):v.cells=cs.toArray:=by
 cases b with
 |true=>subst h;rfl
 |false =>
  subst h;have:=h1 v (by simp);cases v<;>first |rfl |cases this
theorem U0:∀{a:AV} {f:Nat} {v a':AV},a.OH f v=some a'->a'.isAgg=true:=by
 intro a f v a' h;cases a with
 |Aw ks t x =>
  simp only[AV.OH]at h;cases t with
  |AH b c =>
   cases f with
   |zero=>simp only[il,Awb]at h;subst h;rfl
   |succ f =>
    simp only[il]at h;split at h
    ·injection h with h;subst h;rfl
    ·grind
  |_=>cases f<;>simp[il]at h
 |pr b c =>
  cases f with
  |zero=>simp only[AV.OH,Awb]at h;subst h;rfl
  |succ f =>
   simp only[AV.OH]at h;split at h
   ·injection h with h;subst h;rfl
   ·grind
 |_=>cases f<;>simp[AV.OH]at h
theorem mU{c0 c1 c2 vs:AyZ Value}(h:vs.length=c1.length):(vs.toArray.zipIdx.foldl (λcs (x:Value×Nat)=>cs.setIfInBounds (c0.length+x.2) x.1) (c0++c1++c2).toArray)=(c0++vs++c2).toArray:=by
 have e:vs.toArray.zipIdx.foldl (λcs (x:Value×Nat)=>cs.setIfInBounds (c0.length+x.2) x.1) (c0++c1++c2).toArray=(vs.zipIdx 0).foldl (λcs (x:Value×Nat)=>cs.setIfInBounds (c0.length+x.2) x.1) (c0++c1++c2).toArray:=by
  grind
 rw[e];obtain⟨h1,h2⟩:=Great.foldl_set c0.length vs 0 (c0++c1++c2).toArray
 grind
theorem bz{ty:Ty}:∀{fs:AyZ Field} {os:AyZ Nat} {i:Nat},LM P ty i fs os=true ->
    ∃pl,fs.mapM (λf=>(P.info? f.type).map λi=>(f.offset,i.size))=some pl/\∀j o,os[j]?=some o->∃u,Z8 ty (i+j)=some u/\pl[j]?=some (o,u.size)
 |[],[],_,_=>⟨[],rfl,λj o h=>by grind⟩
 |f::fs,o::os,i,h=>by
  simp only[LM,Awg,Axj]at h;obtain⟨⟨⟨h1,_⟩,h3⟩,h4⟩:=h;obtain⟨pl,hp,hq⟩:=bz h4;split at h3
  ·rename_i u hu;cases hi:P.info? f.type with
   |none=>grind
   |some inf =>
    simp[hi]at h3;refine⟨(f.offset,inf.size)::pl,by simp[hi,hp],λj o' ho=>?_⟩
    grind
  ·grind
 |[],_::_,_,h=>by simp[LM]at h
 |_::_,[],_,h=>by simp[LM]at h
theorem k8{v:AV}(h:v.WY=true):v.KT=false/\v.Cz=false:=by cases v<;>simp_all [AV.WY,AV.KT,AV.Cz]
theorem X6{w:World}{g:G}{n:Nat}{ti:TI}{pl:AyZ (Nat×Nat)}(jY:∀j o,ti.Rb[j]?=some o->∃u,Z8 ti.ty j=some u/\pl[j]?=some (o,u.size)){ρ:Operand->AV}{ε:Operand->Value}(hρ:∀x,BF w g n (ρ x) (ε x)) :
    ∀{ps:AyZ (Nat×Operand)} {a z:AV} {cs:AyZ Value},SA ti a (ps.map λp=>(p.1,ρ p.2))=some z->B9 w g n false a cs->a.isAgg=true ->
     ∃eK,Instr.fill (pl.toArray[·]?) cs.toArray (ps.map λp=>(p.1,ε p.2))=some eK.toArray/\B9 w g n false z eK/\z.isAgg=true
 |[],a,z,cs,h,hx,hg=>by
  simp only[List.map_nil,SA,Awb]at h;subst h;exact⟨cs,rfl,hx,hg⟩
 |(f,x)::ps,a,z,cs,h,hx,hg=>by
  simp only[AwU,SA]at h;split at h
  ·rename_i bq hold;split at h
   ·rename_i hc;obtain⟨J9,Ads,Mn,XM⟩:=hc;split at h
    ·rename_i a' ha';obtain⟨c0,c1,c2,e,ho,YI,hs⟩:=SK a f cs bq hx hold;obtain⟨Nv,SU⟩:=k8 Ads;obtain⟨cv,Wd,hv⟩:=BD SU Nv (hρ x);have yO:=Vi hv Wd.one;obtain⟨u,hu,hp⟩:=jY f c0.length (by grind);rw[hu]at XM;simp only[Option.map_some,Awb]at XM;have U9:cv.length=c1.length:=by rw[Wd.len,YI.len,J9]
     obtain⟨eK,hf,hz,hza⟩:=X6 jY hρ h (hs _ _ _ ha' Wd) (U0 ha');refine⟨eK,?_,hz,hza⟩;simp only[AwU];unfold Instr.fill;have hp':pl.toArray[f]?=some (c0.length,u.size):=by grind
     simp only[hp'];have Pj:(ε x).cells.size=u.size:=by rw[yO];simp;rw[Wd.len];omega
     have Nc:¬c0.length+(ε x).cells.size>cs.toArray.size:=by
      grind
     simp only[Pj,ne_eq,not_true_eq_false,decide_false,Bool.false_or];rw[Pj]at Nc;simp only[Nc,decide_false,AwX,Axo];rw[<-hf];congr 1;rw[yO,e];exact mU U9
    ·grind
   ·grind
  ·grind
end
end Go.Va
namespace Go.Va
section
variable {P:Program} {σ:St} {o:Oper} {en:Fe} {e:F1}
theorem iz{x:Operand}(ho:o.op=.move x\/o.op=.assign x):KO P σ o ⟨σ.BP x,σ.Ag,[]⟩ :=
 .GI λa w g hs=>⟨a.eval x,by rcases ho with ho |ho<;>simp[execOp,ho],AF hs x⟩
theorem vE{c x y:Operand}(ho:o.op=.pick c x y){ks:AyZ Nat}{t:Bool}(hc:σ.BP c=.Aw ks .bool t):KO P σ o ⟨bif t then σ.BP x else σ.BP y,σ.Ag,[]⟩ :=
 .GI λa w g hs=>by
  have h:=AF hs c;rw[hc]at h;have h:=N4 h;refine⟨if t then a.eval x else a.eval y,by simp[execOp,ho,h,asBool],?_⟩;cases t
  ·exact AF hs y
  ·exact AF hs x
theorem V3{x:Operand}(ho:o.op=.nilCheck x)(hp:∀(w:World) (g:G) n v,BF w g n (σ.BP x) v->∃a,v=.pointer (some a)):KO P σ o ⟨σ.BP x,σ.Ag,[]⟩ :=
 .GI λa w g hs=>by
  obtain⟨ad,h⟩:=hp w g _ _ (AF hs x);exact⟨a.eval x,by simp[execOp,ho,h],AF hs x⟩
theorem pJ{op:BinOp}{t:TypeId}{x y:Operand}{yt:TypeId}(ho:o.op=.binOp op t x y yt){tb:Bool}(htb:tb=true->P.underlying t=some .bool){z:AV}(h:ck op tb (σ.BP x) (σ.BP y) some=some z):KO P σ o ⟨z,σ.Ag,[]⟩ :=
 .GI <| IQ (s:=λρ=>do eqGuard op t x y (ρ x) (ρ y);binOp op t (ρ x) (ρ y)) (λρ=>by simp[execOp,ho]) λa w g hs=>by
  obtain⟨z',e,hG⟩:=w9 t x y htb h (AF hs x) (AF hs y)
  grind
theorem vF{op:UnOp}{t:TypeId}{x:Operand}(ho:o.op=.unOp op t x){z:AV}(h:zI op (σ.BP x) some=some z):KO P σ o ⟨z,σ.Ag,[]⟩ :=
 .GI <| IQ (s:=λρ=>Op.unary op (ρ x)) (λρ=>by simp[execOp,ho]) λa w g hs=>by
  obtain⟨z',e,hG⟩:=AdP h (AF hs x);injection e with e;subst e;exact hG
theorem iw{s t:TypeId}{x:Operand}(ho:o.op=.convert s t x){ts ti:TI}(hs:Dy P s ts)(ht:Dy P t ti){te:Ay0 Ty}(C9:∀u,te=some u->ts.Da=true/\∃ZH,ZH.ty=u/\Dy P ts.elem ZH){z:AV}
    (h:Vq σ.Ag te ti.ty (σ.BP x) some=some z):KO P σ o ⟨z,σ.Ag,[]⟩ :=
 .GI <| IQ (s:=λρ=>convert s t (ρ x)) (λρ=>by simp[execOp,ho]) λa w g BG=>by
  obtain⟨z',e,hG⟩:=sx BG.heap hs ht C9 h (AF BG x)
  grind
theorem vy{t:TypeId}{x:Operand}(ho:o.op=.load t x){ti:TI}(ht:Dy P t ti){z:AV}(h:Uk σ.Ag ti (σ.BP x) some=some z):KO P σ o ⟨z,σ.Ag,[]⟩ :=
 .GI <| IQ (s:=λρ=>Instr.loadAt t (ρ x)) (λρ=>by simp[execOp,ho]) λa w g BG=>by
  obtain⟨z',e,hG⟩:=uw BG.heap ht h (AF BG x)
  grind
theorem Z3{t:TypeId}{x:Operand}{f:Nat}(ho:o.op=.fieldAddr t x f){ti:TI}(ht:Dy P t ti){z:AV}(h:ZM ti f (σ.BP x) some=some z):KO P σ o ⟨z,σ.Ag,[]⟩ :=
 .GI <| IQ (s:=λρ=>Instr.fieldAt t (ρ x) f) (λρ=>by simp[execOp,ho]) λa w g BG=>by
  obtain⟨z',e,hG⟩:=yq  ht h (AF BG x)
  grind
theorem Z4{t:TypeId}{x i:Operand}(ho:o.op=.indexAddr t x i){ti te:TI}(ht:Dy P t ti)(C9:Dy P ti.elem te)(H7:ti.Da=true){z:AV}(h:j9 σ.Ag te.ty (σ.BP x) (σ.BP i) some=some z):KO P σ o ⟨z,σ.Ag,[]⟩ :=
 .GI <| IQ (s:=λρ=>Instr.indexAt t (ρ x) (ρ i)) (λρ=>by simp[execOp,ho]) λa w g BG=>by
  obtain⟨z',e,hG⟩:=yP BG.heap ht C9 H7 h (AF BG x) (AF BG i)
  grind
theorem pO{t:TypeId}{x i:Operand}(ho:o.op=.index t x i){ti:TI}(ht:Dy P t ti)(hs:ti.ty=.str){z:AV}(h:cu (σ.BP x) (σ.BP i) some=some z):KO P σ o ⟨z,σ.Ag,[]⟩ :=
 .GI <| IQ (s:=λρ=>Instr.index t (ρ x) (ρ i)) (λρ=>by simp[execOp,ho]) λa w g BG=>by
  obtain⟨z',e,hG⟩:=yc  ht hs h (AF BG x) (AF BG i)
  grind
theorem pQ{t:TypeId}{x:Operand}{lo hi mx:Ay0 Operand}(ho:o.op=.slice t x lo hi mx){ti:TI}(ht:Dy P t ti){te:Ay0 Ty}(C9:∀u,te=some u->ti.Da=true/\∃ZH,ZH.ty=u/\Dy P ti.elem ZH){z:AV}
    (h:RB σ.Ag ti te (σ.BP x) (lo.map σ.BP) (hi.map σ.BP) (mx.map σ.BP) some=some z):KO P σ o ⟨z,σ.Ag,[]⟩ :=
 .GI <| IQ (s:=λρ=>Instr.sliceAt t (ρ x) (lo.map ρ) (hi.map ρ) (mx.map ρ)) (λρ=>by simp[execOp,ho]) λa w g BG=>by
  obtain⟨z',e,hG⟩:=pG BG.heap ht C9 h (AF BG x) (TN BG lo) (TN BG hi) (TN BG mx)
  grind
theorem ix{x:Operand}{i:Nat}(ho:o.op=.extract x i){z:AV}(h:LV (σ.BP x) i=some z)(hz:z.Cz=false):KO P σ o ⟨z,σ.Ag,[]⟩ :=
 .GI <| IQ (s:=λρ=>Instr.extract (ρ x) i) (λρ=>by simp[execOp,ho]) λa w g BG=>by
  have hx:=AF BG x;cases hq:σ.BP x with
  |cons b c =>
   rw[hq]at hx h;obtain⟨vs,e,hx⟩:=hx;obtain⟨v,hv,hr⟩:=lX h hx;exact⟨v,by simp[Instr.extract,e,hv],hr hz⟩
  |_=>rw[hq]at h;simp[LV]at h
theorem Tk{w:World}{g:G}{n:Nat}:∀{t:Ty},B9 w g n false t.Uv (M7 t)
 |.int k=>⟨λ_ h=>by grind,rfl⟩
 |.bool=>⟨λ_ h=>by grind,rfl⟩
 |.str=>⟨λ_ h=>by grind,rfl⟩
 |.unit=>⟨λ_ h=>by grind,rfl⟩
 |.AH a b=>⟨_,_,rfl,Tk,Tk⟩
 |.sl _=>⟨none,rfl⟩
 |.O3 0=>rfl
 |.O3 1=>⟨rfl,by simp[M7,Value.oneCell']⟩
 |.O3 (_+2)=>⟨rfl,by simp[M7,Value.oneCell']⟩
theorem bT:∀{t:Ty},t.Uv.isAgg=t.isAgg
 |.int _=>rfl
 |.bool=>rfl
 |.str=>rfl
 |.unit=>rfl
 |.AH _ _=>rfl
 |.sl _=>rfl
 |.O3 0=>rfl
 |.O3 (_+1)=>rfl
theorem pK{t:TypeId}{Fu:Array (Nat×Operand)}(ho:o.op=.build t Fu){ti:TI}(ht:Dy P t ti)(cT:ti.Rb≠[]){z:AV}(h:SA ti ti.ty.Uv (Fu.toList.map λp=>(p.1,σ.BP p.2))=some z):KO P σ o ⟨z,σ.Ag,[]⟩ :=
 .GI <| IQ (s:=λρ=>Instr.build t (Fu.map λ(i,x)=>(i,ρ x))) (λρ=>by simp[execOp,ho]) λa w g BG=>by
  obtain⟨o0,ho0⟩:∃o0,ti.Rb[0]?=some o0:=by
   cases hq:ti.Rb with
   |nil=>grind
   |cons o0 r=>exact⟨o0,rfl⟩
  obtain⟨fs,hu,hf⟩:=RF ht ho0;obtain⟨pl,jY,hp⟩:=bz hf;obtain⟨i,zv,hi,J9,jf,hz,AcU,fX⟩:=ht.info;have ha:ti.ty.isAgg=true:=by
   obtain⟨d,hd,hk⟩:=ht.Xn;rw[hu]at hd;injection hd with hd;subst hd;simp only[kindOk,Awg]at hk;exact hk.1
  obtain⟨eK,gg,hx,hxa⟩:=X6  (λj o hj=>by simpa using hp j o hj) (AF BG) h Tk (by rw[bT];exact ha);refine⟨.agg _,run_build w t _ _ ?_,A9 (QE hx) hx (by rw[hxa];rfl)⟩;unfold Program.built;have aU:zv.cells=(M7 ti.ty).toArray:=by grind
  simp only[hi,hu,hz,jY,aU];simpa using gg
theorem AaL{w:World}{g:G}{n:Nat}{ρ:Operand->AV}{ε:Operand->Value}(hρ:∀x,BF w g n (ρ x) (ε x)):∀(l:AyZ Operand),B9 w g n true (Tx (l.map ρ)) (l.map ε)
 |[]=>rfl
 |x::l=>by
  refine⟨ε x,l.map ε,rfl,?_,AaL hρ l⟩;have h:=hρ x;split
  ·exact .inl rfl
  ·rename_i ht;exact(BF.iff (by grind)).1 h
theorem dQ{f:FuncId}{first UD:Array Operand}(ho:o.op=.makeFunc (.func f) first UD)(h0:first.size=0):KO P σ o ⟨.fn f (Tx (UD.toList.map σ.BP)),σ.Ag,[]⟩ :=
 .GI λa w g hs=>by
  have hf:first.map a.eval=#[]:=by
   grind
  have hr:(execOp a.eval o).run P w=.ok (.value (.func (.func f) #[] (UD.map a.eval))) w:=by simp[execOp,ho,Instr.makeFunc,hf]
  have hv:B9 w g _ false (.fn f _) [.func _ #[] (UD.map _)]:=⟨UD.toList.map _,by rw[<-Array.toList_map],AaL (AF hs) _⟩;exact⟨_,hr,A9 rfl hv (by simp[BV,AV.isAgg])⟩
theorem dy{k:Nat}{i:Int}{p:AyZ Nat}{q:Nat}{w:World}{g:G}{n:Nat}{v:Value}(h:BF w g n (.ptr k i p q) v):∃a,v=.pointer (some a):=by
 obtain⟨_,_,_,b,_,e⟩:=IA h;exact⟨_,e⟩
theorem dz{ks:AyZ Nat}{t:Ty}{y:t.V}{w:World}{g:G}{n:Nat}{v:Value}(h:BF w g n (.D7 ks t y) v):∃a,v=.pointer (some a):=by
 obtain⟨_,b,off,_,e,_⟩:=Tq h;exact⟨_,e⟩
end
end Go.Va
namespace Go.Va
theorem lH{u:Ty}:∀{n i:Nat},i<n->Z8 (fb u n) i=some u/\PK (fb u n) i=some (i*u.size)
 |n+1,0,_=>by simp[fb,Z8,PK]
 |n+1,i+1,h=>by
  obtain⟨h1,h2⟩:=lH  (n:=n) (i:=i) (by omega);refine⟨by simpa [fb,Z8]using h1,?_⟩;simp only[fb,PK,h2]
  grind
theorem aM{place uV:Nat->Ay0 (Nat×Nat)}(h:∀i p,place i=some p->uV i=some p):∀{Fu:AyZ (Nat×Value)} {cs r:Array Value},Instr.fill place cs Fu=some r->Instr.fill uV cs Fu=some r
 |[],_,_,hf=>hf
 |(i,v)::XA,cs,r,hf=>by
  unfold Instr.fill at hf⊢;split at hf
  ·grind
  ·rename_i off size hp;rw[h i _ hp];simp only;split at hf
   ·grind
   ·rename_i hc;rw[Aws hc];exact aM h hf
section
variable {P:Program} {σ:St} {o:Oper} {en:Fe}
theorem dO{t:TypeId}{Fu:Array (Nat×Operand)}(ho:o.op=.build t Fu){ti te:TI}(ht:Dy P t ti)(C9:Dy P ti.elem te)(hn:ti.FK≠0)(XM:ti.ty=fb te.ty ti.FK){z:AV}
    (h:SA (ti.plc te) ti.ty.Uv (Fu.toList.map λp=>(p.1,σ.BP p.2))=some z):KO P σ o ⟨z,σ.Ag,[]⟩ :=
 .GI <| IQ (s:=λρ=>Instr.build t (Fu.map λ(i,x)=>(i,ρ x))) (λρ=>by simp[execOp,ho]) λa w g BG=>by
  have hu:=ht.FK hn;have ha:ti.ty.isAgg=true:=by
   rw[XM];cases hq:ti.FK with
   |zero=>grind
   |succ n=>rfl
  obtain⟨i,zv,hi,J9,jf,hz,AcU,fX⟩:=ht.info;obtain⟨eK,gg,hx,hxa⟩:=X6  (pl:=(List.range ti.FK).map λi=>(i*te.ty.size,te.ty.size))    (λj o hj=>by
   simp only[TI.plc,AwC,Option.map_eq_some_iff]at hj;obtain⟨q,hq,rfl⟩:=hj;have WA:j<ti.FK:=by
    grind
   rw[List.getElem?_range WA]at hq;injection hq with hq;subst hq;refine⟨te.ty,by show Z8 ti.ty j=_;rw[XM];exact(lH WA).1,?_⟩;simp[List.getElem?_range WA]) (AF BG) h Tk (by rw[bT];exact ha)
  refine⟨.agg _,?_,A9 (QE hx) hx (by rw[hxa];rfl)⟩;have aU:zv.cells=(M7 ti.ty).toArray:=by grind
  have Ac0:Instr.fill (λi=>some (i*te.ty.size,te.ty.size)) zv.cells (Fu.map λ(i,x)=>(i,a.eval x)).toList=some eK.toArray:=by
   rw[aU];refine aM (λi p hp=>?_) (by simpa using gg)
   grind
  have Ac1 :=by simpa using Ac0
  simp[Instr.build,run_underlying hu,zeroValue,typeInfo,hi,hz,CR C9,Ac1]
theorem dP{t:TypeId}{x i:Operand}(ho:o.op=.index t x i){ti te:TI}(ht:Dy P t ti)(C9:Dy P ti.elem te)(hn:ti.FK≠0){ks:AyZ Nat}{kk:IntKind}{j:Int}(hi:σ.BP i=.Aw ks (.int kk) j)
    (hj:0<=j/\j<(ti.FK:Int)/\(σ.BP x).off j.toNat=some (j.toNat*te.ty.size)/\(σ.BP x).isAgg=true/\(σ.BP x).Cz=false) {v:AV} (hv:(σ.BP x).U6 j.toNat=some v) (J9:v.size=te.ty.size/\v.isAgg=te.ty.isAgg):KO P σ o ⟨v,σ.Ag,[]⟩ :=
 .GI <| IQ (s:=λρ=>Instr.index t (ρ x) (ρ i)) (λρ=>by simp[execOp,ho]) λa w g BG=>by
  have hu:=ht.FK hn;obtain⟨h0,h1,Mn,fX,SU⟩:=hj;have hix:=AF BG i;rw[hi]at hix;have hie:=CH hix;have R3:=AF BG x;have Nv:(σ.BP x).KT=false:=by
   cases hq:σ.BP x<;>rw[hq]at hv<;>first |rfl |simp[AV.U6]at hv
  obtain⟨cs,Pj,j8⟩:=BD SU Nv R3;rw[fX]at j8;have j8:a.eval x=.agg cs.toArray:=j8;obtain⟨c0,c1,c2,e,mn,YI,_⟩:=SK _ _ cs v Pj hv;rw[Mn]at mn;injection mn with mn;have U9:c1.length=te.ty.size:=by rw[YI.len,J9.1]
  rw[hie,j8];cases hg:te.ty.isAgg with
  |true =>
   refine⟨.agg c1.toArray,?_,A9 (QE YI) YI (by rw[J9.2,hg];rfl)⟩;have hex:cs.toArray.extract (j.toNat*te.ty.size) (j.toNat*te.ty.size+te.ty.size)=c1.toArray:=by
    apply Array.ext';rw[Array.toList_extract,mn,e];simp only[List.extract];rw[show c0.length+te.ty.size-c0.length=c1.length by omega,Awh,List.drop_left,AxP]
   have AcZ:List.take te.ty.size (List.drop (j.toNat*te.ty.size) cs)=c1:=by
    rw[mn,e,Awh,List.drop_left,<-U9,AxP]
   simp[Instr.index,asIntOf,run_underlying hu,h0,h1,part,Vh C9,hg,CR C9,AcZ]
  |false =>
   have UJ:te.ty.size=1:=Ol hg;obtain⟨u,hu1⟩:∃u,c1=[u]:=by
    cases c1 with
    |nil=>rw[UJ]at U9;cases U9
    |cons u r=>cases r with
     |nil=>exact⟨u,rfl⟩
     |cons _ _=>rw[UJ]at U9;simp at U9
   subst hu1;refine⟨u,?_,A9 (QE YI) YI (by rw[J9.2,hg];rfl)⟩;have Q3:cs[j.toNat*te.ty.size]?=some u:=by
    rw[mn,e,Awh,Awv (Awf _),Nat.sub_self];rfl
   simp[Instr.index,asIntOf,run_underlying hu,h0,h1,part,Vh C9,hg,CR C9,Q3]
theorem fP{ty:Ty}:∀{fs:AyZ Field} {os:AyZ Nat} {i j:Nat} {fd:Field} {u:Ty},LM P ty i fs os=true->fs[j]?=some fd->Z8 ty (i+j)=some u->∃d,P.underlying fd.type=some d/\w5 d=u.isAgg
 |[],_,_,_,_,_,_,h,_=>by grind
 |_::_,[],_,_,_,_,h,_,_=>by simp[LM]at h
 |f::fs,o'::os,i,0,fd,u,h,hf,hu=>by
  simp only[List.getElem?_cons_zero,Awb]at hf;subst hf;simp only[LM,Awg]at h;obtain⟨⟨_,h3⟩,_⟩:=h;rw[show Z8 ty i=some u from hu]at h3;simp only[Awg]at h3;have h4:=h3.2;unfold AmB at h4
  grind
 |f::fs,o'::os,i,j+1,fd,u,h,hf,hu=>by
  simp only[LM,Awg]at h;exact fP  h.2 (by simpa using hf) (by grind)
theorem rm{w:World}{t:Nat}{d:TypeDesc}(h:P.underlying t=some d):(isAgg t).run P w=.ok (w5 d) w:=by
 cases d<;>simp[isAgg,underlying,h,w5]
theorem pM{t:TypeId}{x:Operand}{f:Nat}(ho:o.op=.field t x f){ti:TI}(ht:Dy P t ti){fo:Nat}(tn:ti.Rb[f]?=some fo){u:Ty}(hu:Z8 ti.ty f=some u){v:AV}(hv:(σ.BP x).U6 f=some v)
    (hc:(σ.BP x).off f=some fo/\(σ.BP x).isAgg=true/\(σ.BP x).Cz=false/\v.size=u.size/\v.isAgg=u.isAgg):KO P σ o ⟨v,σ.Ag,[]⟩ :=
 .GI <| IQ (s:=λρ=>Instr.field t (ρ x) f) (λρ=>by simp[execOp,ho]) λa w g BG=>by
  obtain⟨Mn,fX,SU,Aq5,An7⟩:=hc;obtain⟨fs,Aoa,oH⟩:=RF ht tn;obtain⟨fd,u',inf,h1,h2,h3,h4,h5,h6,h7⟩:=cG oH tn;rw[AwF]at h3 h4;have:u'=u:=by grind
  subst this;obtain⟨d,hd,hda⟩:=fP (i:=0) oH h1 (by rw[AwF];exact hu);have hfd:fs[f]?=some fd:=by grind
  have hsr:(sizeOf fd.type).run P w=.ok u'.size w:=by simp[sizeOf,typeInfo,h5,h6]
  have har:=rm (w:=w) hd;rw[hda]at har;have R3:=AF BG x;have Nv:(σ.BP x).KT=false:=by
   cases hq:σ.BP x<;>rw[hq]at hv<;>first |rfl |simp[AV.U6]at hv
  obtain⟨cs,Pj,j8⟩:=BD SU Nv R3;rw[fX]at j8;obtain⟨c0,c1,c2,e,mn,YI,_⟩:=SK _ _ cs v Pj hv;rw[Mn]at mn;injection mn with mn;have U9:c1.length=u'.size:=by rw[YI.len,Aq5]
  rw[j8];cases hg:u'.isAgg with
  |true =>
   rw[hg]at har;refine⟨.agg c1.toArray,?_,A9 (QE YI) YI (by rw[An7,hg];rfl)⟩;have AcZ:List.take u'.size (List.drop fo cs)=c1:=by
    grind
   simp[Instr.field,underlying,Aoa,hfd,asAgg,part,har,hsr,h2,AcZ]
  |false =>
   rw[hg]at har;have UJ:u'.size=1:=Ol hg;obtain⟨y,hy⟩:∃y,c1=[y]:=by
    cases c1 with
    |nil=>grind
    |cons y r=>grind
   subst hy;refine⟨y,?_,A9 (QE YI) YI (by rw[An7,hg];rfl)⟩;have Q3:cs[fo]?=some y:=by
    grind
   simp[Instr.field,underlying,Aoa,hfd,asAgg,part,har,h2,Q3]
theorem Xc{t:TypeId}{w:World}{ti te:TI}(ht:Dy P t ti)(C9:Dy P ti.elem te)(hn:ti.FK≠0){kk:IntKind}{j:Int}(h0:0<=j)(h1:j<(ti.FK:Int))(b f:Nat) :
    (Instr.indexAt t (.pointer (some ⟨b,f,none⟩)) (.int kk j)).run P w=.ok (.pointer (some ⟨b,f+j.toNat*te.ty.size,none⟩)) w:=by
 have hu:=ht.FK hn;simp[Instr.indexAt,asIntOf,run_underlying hu,Instr.sureAddr,h0,h1,CR C9,T4]
theorem WU{t:TypeId}{x i:Operand}(ho:o.op=.indexAddr t x i){ti te:TI}(ht:Dy P t ti)(C9:Dy P ti.elem te)(hn:ti.FK≠0){ks:AyZ Nat}{kk:IntKind}{j:Int}(hi:σ.BP i=.Aw ks (.int kk) j)
    (h0:0<=j) (h1:j<(ti.FK:Int)) {v:AV}
    (hv : (match σ.BP x with
          |.ptr k q p f=>some (.ptr k q (p++[j.toNat]) (f+j.toNat*te.ty.size))
          |.D7 ks t' y=>if PK t' j.toNat=some (j.toNat*te.ty.size)then match Si ks t' y j.toNat with |some (.Aw _ u z)=>some (.D7 ks u z)|_=>none else none
          |_=>none)=some v):KO P σ o ⟨v,σ.Ag,[]⟩ :=
 .GI <| IQ (s:=λρ=>Instr.indexAt t (ρ x) (ρ i)) (λρ=>by simp[execOp,ho]) λa w g BG=>by
  have hix:=AF BG i;rw[hi]at hix;have hie:=CH hix;have R3:=AF BG x;rw[hie];split at hv
  ·rename_i k q p f hq;injection hv with hv;subst hv;rw[hq]at R3;obtain⟨hk,g0,g1,b,hb,e⟩:=IA R3;rw[e];refine⟨_,Xc ht C9 hn h0 h1 b _,?_⟩;rw[Aw7];exact WK hk g0 g1 hb
  ·rename_i ks t' y hq;rw[hq]at R3;split at hv
   ·rename_i Mn;split at hv
    ·rename_i Uj u z hz;injection hv with hv;subst hv;obtain⟨hk,b,off,ds,e0,ha,hr,hc⟩:=Tq R3;obtain⟨c0,c1,c2,e,mn,_,⟨u',y',heq,Vb⟩,_⟩:=TG (g:=g) hk _ _ y ds _ hr hz;injection heq with _ h2 h3;subst h2;obtain rfl:=eq_of_heq h3;rw[Mn]at mn;injection mn with mn;rw[e0];refine⟨_,Xc ht C9 hn h0 h1 b off,WL hk ha Vb λq' u gx=>?_⟩;rw[Aw7];refine hc _ u ?_
     grind
    ·grind
   ·cases hv
  ·grind
end
end Go.Va
namespace Go.Va
def G.add(g:G)(n b:Nat)(i:BI):G:=⟨λq=>if q=b then .Bs n []else g.own q,λk=>if k=n then i else g.AK k⟩
def G.Ph(g:G)(rs:AyZ Nat):G:=⟨λq=>match g.own q with |.Bs j r=>if j∈rs then .GH else .Bs j r |t=>t,g.AK⟩
section
variable {w:World} {g:G} {bs:AyZ Blk}
theorem Pz(H:A1 w g bs){b:Nat}(h:g.own b≠.no):b<w.heap.size:=by
 rcases Awk b w.heap.size with h' |h'
 ·grind
 ·exact(h (H.Bz b h')).elim
theorem Step.add(H:A1 w g bs)(o:Obj)(i:BI):Step [] bs.length w g (w.alloc o) (g.add bs.length w.heap.size i) where
 os:=rfl
 tape:=rfl
 output:=rfl
 size:=by simp
 no b hb h:=by
  refine⟨by simp[G.add,h,Nat.ne_of_lt hb],heap_alloc_old w o b hb⟩
 GH b h:=by
  have hb:=Pz H (b:=b) (by grind);exact⟨by simp[G.add,h,Nat.ne_of_lt hb],heap_alloc_old w o b hb⟩
 Bs b k p h hk _:=by
  have hb:=Pz H (b:=b) (by grind);exact⟨by simp[G.add,h,Nat.ne_of_lt hb],heap_alloc_old w o b hb⟩
 AK k hk:=by simp[G.add,Nat.ne_of_lt hk]
theorem oA(H:A1 w g bs)(o:Obj)(i:BI):∀b,(w.alloc o).heap.size<=b->(g.add bs.length w.heap.size i).own b=.no:=by
 intro b hb;have J9:(w.alloc o).heap.size=w.heap.size+1:=by simp
 have:b≠w.heap.size:=by omega
 simp[G.add,this,H.Bz b (by omega)]
theorem A1.new(H:A1 w g bs){o:Obj}{i:BI}{b:Blk}(hb:J2 (w.alloc o) (g.add bs.length w.heap.size i) (bs.length+1) bs.length b):A1 (w.alloc o) (g.add bs.length w.heap.size i) (bs++[b]) :=
 H.push (Step.add H o i) (oA H o i) hb
theorem Step.Ph(rs:AyZ Nat)(n:Nat)(w:World)(g:G):Step rs n w g w (g.Ph rs) where
 os:=rfl
 tape:=rfl
 output:=rfl
 size:=Awf _
 no b _ h:=⟨by simp[G.Ph,h],rfl⟩
 GH b h:=⟨by simp[G.Ph,h],rfl⟩
 Bs b k p h _ hm:=⟨by simp[G.Ph,h,hm],rfl⟩
 AK _ _:=rfl
theorem A1.U5{w':World}{g':G}{Bg:AyZ Nat}{FQ:AyZ Blk}(H:A1 w g bs)(s:Step Bg bs.length w g w' g')(hf:∀b,w'.heap.size<=b->g'.own b=.no)(hl:bs.length<=FQ.length)
    (hb:∀(j:Nat) (x:Blk),FQ[j]?=some x->x=.Be\/(j∉Bg/\∃y,bs[j]?=some y/\x=y.drop λk=>Bg.contains k)\/J2 w' g' FQ.length j x):A1 w' g' FQ :=
 ⟨hf,λj x hx=>by
  rcases hb j x hx with h |⟨hm,y,hy,rfl⟩|h
  ·subst h;trivial
  ·exact(H.Js j y hy).step s hl (AP hy) hm
  ·grind⟩
theorem CF{Bg:AyZ Nat}{bs:AyZ Blk}{i:Nat}{x:Blk}(h:(A0 Bg bs)[i]?=some x):∃y,bs[i]?=some y/\x=y.drop λk=>Bg.contains k:=by
 unfold A0 at h;split at h
 ·exact⟨x,h,by rw[show(λk=>[].contains k)=λ_=>false from funext λ_=>rfl,Vl]⟩
 grind
theorem Ar(Bg:AyZ Nat)(bs:AyZ Blk):(A0 Bg bs).length=bs.length:=by unfold A0;split<;>simp
theorem AQ:∀(rs:AyZ Nat) (bs:AyZ Blk),(Blk.Eu bs rs).length=bs.length
 |[],_=>rfl
 |k::r,bs=>by rw[Blk.Eu,AQ r,Awi]
theorem Ha:∀{rs:AyZ Nat} {bs:AyZ Blk} {j:Nat} {x:Blk},(Blk.Eu bs rs)[j]?=some x->x=.Be\/(j∉rs/\bs[j]?=some x)
 |[],_,_,_,h=>.inr ⟨by simp,h⟩
 |k::r,bs,j,x,h=>by
  rcases Ha (rs:=r) h with h' |⟨h1,h2⟩
  ·grind
  grind
end
section
variable {P:Program} {σ:St} {o:Oper} {en:Fe} {e:F1}
theorem Zl{x:AV}{el:TypeId}{f:Act->Value}(ho:∀a:Act,∀w:World,∀g:G,Ip w g σ a->(execOp a.eval o).run P w=.ok (.value (.pointer (some ⟨w.heap.size,0,none⟩))) (w.alloc (.cells (f a).cells el))/\∃cs,B9 w g σ.Ag.length false x cs/\(f a).cells=cs.toArray) :
    KO P σ o ⟨.ptr σ.Ag.length 0 [] 0,σ.Ag++[.box x],[]⟩ where
 grow:=by simp
 ext _:=⟨_,rfl⟩
 wp a w g hs next Q hn:=by
  obtain⟨hr,cs,Pj,hc⟩:=ho a w g hs;unfold Oper.wp;rw[hr];have st:=Step.add hs.heap (.cells (f a).cells el) ⟨some ⟨w.heap.size,0,none⟩,1,1,0⟩;refine hn _ _ _ (hs.heap.new ?_) ?_ st
  ·refine⟨by simp[G.add],w.heap.size,(f a).cells,el,by simp[G.add],by simp[G.add],heap_alloc_new w _,?_⟩;have e1:(f a).cells.toList=cs:=by grind
   rw[e1];exact Pj.M3 st (AwK _)
  ·have:=WK (w:=w.alloc (.cells (f a).cells el)) (g:=g.add σ.Ag.length w.heap.size ⟨some ⟨w.heap.size,0,none⟩,1,1,0⟩) (n:=(σ.Ag++[Blk.box x]).length) (k:=σ.Ag.length)  (p:=[]) (o:=0) (b:=w.heap.size)
     (by simp) (AxO _) (by simp[G.add]) (by simp[G.add])
   simpa using this
theorem zr{el:TypeId}{x:Operand}(ho:o.op=.box el x)(ht:(σ.BP x).WY=true):KO P σ o ⟨.ptr σ.Ag.length 0 [] 0,σ.Ag++[.box (σ.BP x)],[]⟩ :=
 Zl (el:=el)  λa w g hs=>by
  obtain⟨h1,h2⟩:=k8 ht;obtain⟨cs,Pj,hv⟩:=BD h2 h1 (AF hs x);exact⟨by simp[execOp,ho,Instr.box,newVar,newRow],cs,Pj,Vi hv Pj.one⟩
theorem pI{el:TypeId}(ho:o.op=.alloc el){ti:TI}(ht:Dy P el ti):KO P σ o ⟨.ptr σ.Ag.length 0 [] 0,σ.Ag++[.box ti.ty.Uv],[]⟩:=by
 obtain⟨i,z,hi,_,_,hz,hc,_⟩:=ht.info;refine Zl (el:=el) (f:=λ_=>z) λa w g hs=>⟨?_,M7 _,Tk,by grind⟩;simp[execOp,ho,Instr.alloc,zeroValue,typeInfo,hi,hz,newVar,newRow]
theorem WI(z:Array Value){s l c:Nat}(hs:z.size=s)(h0:0<s)(hl:l<=c):(madeCells z (c*s)).toList.take (l*s)=(List.replicate l (Value.agg z)).flatMap λv=>v.cells.toList:=by
 apply Axi;intro k;rw[Great.flat_get h0 _ (λv hv=>by rw[AxQ hv];exact hs),Aw9];have hm :=Aw6 s hl;by_cases hk:k<l*s
 ·have hd :=(Nat.div_lt_iff_lt_mul h0).2 hk;have hr:k%s<s:=Nat.mod_lt _ h0;rw[Awr hk,List.getElem?_replicate,Awr hd];have YC:k<(madeCells z (c*s)).toList.length:=by simp[madeCells];omega
  rw[Axk YC];have hr' :=by omega
  simp only[madeCells,Value.cells,hs]
  grind
 ·have hd :=λh=>hk ((Nat.div_lt_iff_lt_mul h0).1 h)
  grind
theorem TQ{α:Type}{I:Nat->α->AyZ Value->Prop}{x:α}{v:Value}(h:∀i,I i x v.cells.toList):∀(l i:Nat),A5 I i (List.replicate l x) ((List.replicate l v).flatMap λv=>v.cells.toList)
 |0,_=>rfl
 |l+1,i=>by
  exact⟨_,_,rfl,h i,TQ h l _⟩
theorem Zb{t:Ty}(h:t.row=true):t.data=true/\0<t.size:=by
 simp only[Ty.row,Awg,bne_iff_ne]at h
 grind
theorem bW{w:World}{own:Nat->Pp}{k:Nat}{t:Ty}(h:t.data=true){v:Value}(hv:v.cells.toList=M7 t)(l:Nat)(fi:FI) :
    nP w own k (fi.mode t) t (List.replicate l t.zero) ((List.replicate l v).flatMap λv=>v.cells.toList):=by
 unfold FI.mode;split
 ·exact TQ (λi=>by rw[hv];exact Ht.zero h) l 0
 ·exact F8.2 (TQ  (λi=>by rw[hv];exact FX.zero h) l 0)
theorem PH(fi:FI)(t:Ty):(fi.mode t).BX=[]:=by unfold FI.mode;split<;>rfl
theorem Aoj{l c:Int}(h0:0<=l)(h:l<=c)(hm:c<=9223372036854775807):l.toNat<=c.toNat/\c.toNat<=maxLen:=by
 simp only[maxLen];omega
theorem vA{t:TypeId}{l c:Operand}(ho:o.op=.makeSlice t l c){fi:FI}{ti te:TI}(ht:Dy P t ti)(C9:Dy P ti.elem te)(H7:ti.Da=true)
    (h:bg fi σ.Ag ti.elem te (σ.BP l) (σ.BP c) some=some e):KO P σ o e:=by
 unfold bg at h;split at h
 ·rename_i x1 x2 ks1 k1 lv ks2 k2 cv hl hc;split at h
  ·rename_i hg;obtain⟨LN,h0,hlc,jf,gq⟩:=hg;injection h with h;subst h;obtain⟨YA,BB⟩:=Zb LN;obtain⟨i,z,hi,J9,hbs,hz,aU,_⟩:=C9.info;refine⟨by simp,λ_=>⟨_,rfl⟩,λa w g hs next Q hn=>?_⟩
   have e1:=AF hs l;rw[hl]at e1;have e1:=CH e1;have e2:=AF hs c;rw[hc]at e2;have e2:=CH e2;have hr:=run_make  w t _ i z (Bf ht H7) hi hz k1 k2 lv cv h0 hlc (by grind) gq;unfold Oper.wp;simp only[execOp,ho,e1,e2,Sem.run_bind,hr];obtain⟨U7,hcm⟩:=Aoj h0 hlc gq;have st:=Step.add hs.heap (.cells (madeCells z.cells (cv.toNat*i.size)) ti.elem) ⟨some ⟨w.heap.size,0,none⟩,lv.toNat,cv.toNat,te.ty.size⟩;refine hn _ _ _ (hs.heap.new ?_) ?_ st
   ·refine⟨(by rw[PH];intro j hj;cases hj),by simp[G.add],by simp[G.add],BB,.inr ⟨w.heap.size,_,_,by simp[G.add],by simp[G.add],⟨_,.inr rfl,heap_alloc_new w _⟩,by simpa [G.add]using U7,by simpa [G.add]using hcm,by simp[G.add,size_madeCells,J9],rfl,?_⟩⟩;rw[AwG,J9];rw[WI _ (by rw[<-Aw4,aU,NQ]) BB U7];exact bW YA (by exact aU) _ fi
   ·refine A9  rfl ⟨by simp,rfl⟩ ?_;simp[BV,AV.isAgg,G.add]
  ·grind
 ·grind
end
end Go.Va
namespace Go.Va
def G.P7(g:G)(f:Nat->AyZ Nat->Pp)(ob:Ay0 Nat)(n:Nat)(i:BI):G :=
 ⟨λq=>if ob=some q then .Bs n []else match g.own q with |.Bs j r=>f j r |t=>t,λk=>if k=n then i else g.AK k⟩
section
variable {w w':World} {g:G} {bs:AyZ Blk} {f:Nat->AyZ Nat->Pp} {ob:Ay0 Nat} {n N:Nat} {i:BI} {Bg:AyZ Nat}
theorem Step.P7(fr:∀b,w.heap.size<=b->g.own b=.no)(hos:w'.os=w.os)(hta:w'.tape=w.tape)(hou:w'.output=w.output)(J9:w.heap.size<=w'.heap.size)
    (Qj:∀q,q<w.heap.size->(∀k p,g.own q=.Bs k p->k∉Bg)->w'.heap[q]?=w.heap[q]?) (jX:∀q,ob=some q->w.heap.size<=q) (hN:n<=N) (hf:∀j r,j<n->j∉Bg->f j r=.Bs j r) :
    Step Bg n w g w' (g.P7 f ob N i):=by
 have lt:∀b,g.own b≠.no->b<w.heap.size:=λb h=>by
  rcases Awk b w.heap.size with h' |h'
  ·exact h'
  ·exact(h (fr b h')).elim
 have nob:∀b,b<w.heap.size->¬(ob=some b):=λb hb e=>by have:=jX b e;omega
 refine⟨hos,hta,hou,J9,λb hb h=>⟨?_,Qj b hb λk p e=>?_⟩,λb h=>⟨?_,Qj b (lt b (by rw[h];simp)) λk p e=>?_⟩,λb k p h hk hm=>⟨?_,Qj b (lt b (by rw[h];simp)) λk' p' e=>?_⟩,λk hk=>?_⟩
 ·simp[G.P7,nob b hb,h]
 ·rw[h]at e;cases e
 ·simp[G.P7,nob b (lt b (by rw[h];simp)),h]
 ·rw[h]at e;cases e
 ·simp[G.P7,nob b (lt b (by rw[h];simp)),h,hf k p hk hm]
 ·rw[h]at e;injection e with e;subst e;exact hm
 ·have:k≠N:=by omega
  simp[G.P7,this]
theorem J8(fr:∀b,w.heap.size<=b->g.own b=.no)(J9:w.heap.size<=w'.heap.size)(jX:∀q,ob=some q->q<w'.heap.size):∀b,w'.heap.size<=b->(g.P7 f ob N i).own b=.no:=by
 intro b hb;have h1:¬(ob=some b):=λe=>by have:=jX b e;omega
 simp[G.P7,h1,fr b (AwD J9 hb)]
end
def Ia:AV->AyZ Nat->AyZ (Nat×AyZ Nat)
 |.AA k,p=>[(k,p)]
 |.pr a b,p=>Ia a (0::p)++Ia b (1::p)
 |_,_=>[]
theorem EN:∀(a:AV) (p:AyZ Nat),(Ia a p).map (·.1)=a.Ni
 |.AA k,_=>rfl
 |.mp _,_=>rfl
 |.pr a b,p=>by simp[Ia,AV.Ni,EN a,EN b]
 |.Aw _ _ _,_=>rfl
 |.zs,_=>rfl
 |.ptr _ _ _ _,_=>rfl
 |.D7 _ _ _,_=>rfl
 |.JH,_=>rfl
 |.fn _ _,_=>rfl
 |.cons _ _,_=>rfl
 |.nil,_=>rfl
 |.O1 _ _ _ _ _,_=>rfl
 |.QF _ _ _ _ _ _,_=>rfl
 |.un _,_=>rfl
def YT:AyZ (Nat×AyZ Nat)->Nat->Ay0 (AyZ Nat)
 |[],_=>none
 |(k,p)::r,j=>if k=j then some p else YT r j
theorem VM:∀{M:AyZ (Nat×AyZ Nat)},nodup (M.map (·.1))=true->∀{j p},(j,p)∈M->YT M j=some p
 |(k,q)::r,hn,j,p,h=>by
  simp only[AwU,nodup,Awg,Axp]at hn;simp only[YT];rcases List.mem_cons.1 h with h |h
  ·injection h with h1 h2;subst h1;subst h2;simp
  ·split
   ·rename_i e;subst e;have:k∈r.map (·.1):=List.mem_map.2 ⟨_,h,rfl⟩;simp at hn this;obtain⟨x,hx⟩:=this;exact(hn.1 x hx).elim
   ·exact VM hn.2 h
theorem Pl:∀{M:AyZ (Nat×AyZ Nat)} {j:Nat},j∉M.map (·.1)->YT M j=none
 |[],_,_=>rfl
 |(k,q)::r,j,h=>by
  simp only[AwU,Axm,not_or]at h;simp only[YT,Aws (Ne.symm h.1)];exact Pl h.2
section
variable {w:World} {g:G} {bs:AyZ Blk}
theorem pY(H:A1 w g bs){KU:Nat->Pp}{k:Nat}:∀(t:Ty) (v:AV) (y:t.V) (cs:AyZ Value) (p:AyZ Nat),rd bs t v=some y->v.SJ=true->(∀j∈v.Ni,V0 bs j=some .Ao) ->
    (∀jq∈Ia v p,∀b q,g.own b=.Bs jq.1 q->KU b=.Bs k (q++jq.2))->B9 w g bs.length false v cs->Ht w KU k t p y cs:=by
 have plain:∀(t:Ty) (ks:AyZ Nat) (u:Ty) (y:u.V) (x:t.V) (cs:AyZ Value) (p:AyZ Nat),G2 u t y=some x->u.Bu=true->B9 w g bs.length false (.Aw ks u y) cs->Ht w KU k t p x cs:=by
  intro t ks u y x cs p h hf hx;obtain⟨e,he⟩:=Bn h;subst e;simp only at he;subst he;exact(Ht.Bu hf).2 ((FX.Bu hf).1 hx.2)
 intro t;induction t with
 |AH a b yQ yR =>
  intro v y cs p h hf hd hm hx;simp only[rd]at h;split at h
  ·exact plain _ _ _ _ _ _ _ h (by simpa [AV.SJ]using hf) hx
  ·rename_i u z;split at h
   ·rename_i y1 y2 h1 h2;injection h with h;subst h;obtain⟨c,d,e,YI,jl⟩:=hx;simp only[AV.SJ,Awg]at hf;exact⟨c,d,e,yQ u y1 c _ h1 hf.1 (λj hj=>hd j (by simp[AV.Ni,hj])) (λjq hj=>hm jq (by simp[Ia,hj])) YI,
     yR z y2 d _ h2 hf.2 (λj hj=>hd j (by simp[AV.Ni,hj])) (λjq hj=>hm jq (by simp[Ia,hj])) jl⟩
   ·cases h
  ·cases h
 |sl t _ =>
  intro v y cs p h hf hd hm hx;simp only[rd]at h;split at h
  ·exact plain _ _ _ _ _ _ _ h (by simpa [AV.SJ]using hf) hx
  ·injection h with h;subst h;obtain⟨ad,e⟩:=hx;exact⟨ad,0,e,.inl ⟨rfl,rfl⟩⟩
  ·rename_i j;split at h
   ·rename_i el m u ys hb;obtain⟨e',he⟩:=Bn h;injection e' with e';subst e';simp only at he;subst he;obtain⟨hk,hc⟩:=hx;have AaS:=hd j (by simp[AV.Ni]);simp only[V0,hb,Awb]at AaS;subst AaS;obtain⟨_,hlen,Mg,BB,hr⟩:=H.Js j _ hb;have hmj:=hm (j,p) (by simp[Ia]);rw[hlen]at hc;refine⟨_,_,hc,hr.imp id λ⟨b,Bh,ds,ha,BW,⟨el,_,hh⟩,h1,h2,h3,h4,Nb⟩=>⟨b,el,Bh,ds,ha,by simpa using hmj b [] BW,hh,h1,h2,h3,h4,?_⟩⟩;exact A5.mono (λi x c r=>r.mono λb q hb=>⟨by simpa using hmj b _ hb,rfl⟩) Nb
   ·cases h
  ·cases h
 |_ =>
  intro v y cs p h hf hd hm hx;simp only[rd]at h;split at h
  ·exact plain _ _ _ _ _ _ _ h (by simpa [AV.SJ]using hf) hx
  ·cases h
theorem UQ:∀(v:AV) (j:Nat),j∈v.PD bs->j∈v.Ni\/j∈v.Xt\/∃r∈v.Ni,∃l,V0 bs r=some (.sh l)/\j∈l
 |.Aw ks _ _,j,h=>.inr (.inl h)
 |.AA k,j,h=>by
  simp only[AV.PD]at h;rcases List.mem_cons.1 h with h |h
  ·exact .inl (by simp[AV.Ni,h])
  ·cases hm:V0 bs k with
   |none=>rw[hm]at h;cases h
   |some m =>
    rw[hm]at h;cases m with
    |Ao=>cases h
    |sh l=>exact .inr (.inr ⟨k,by simp[AV.Ni],l,hm,h⟩)
 |.pr a b,j,h=>by
  simp only[AV.PD]at h;rcases List.mem_append.1 h with h |h
  ·rcases UQ a j h with h |h |⟨r,h,l,hl⟩
   ·exact .inl (by simp[AV.Ni,h])
   ·exact .inr (.inl (by simp[AV.Xt,h]))
   ·exact .inr (.inr ⟨r,by simp[AV.Ni,h],l,hl⟩)
  ·rcases UQ b j h with h |h |⟨r,h,l,hl⟩
   ·exact .inl (by simp[AV.Ni,h])
   ·exact .inr (.inl (by simp[AV.Xt,h]))
   ·exact .inr (.inr ⟨r,by simp[AV.Ni,h],l,hl⟩)
 |.zs,_,h=>by cases h
 |.ptr _ _ _ _,_,h=>by cases h
 |.D7 _ _ _,_,h=>by cases h
 |.JH,_,h=>by cases h
 |.fn _ _,_,h=>by cases h
 |.cons _ _,_,h=>by cases h
 |.nil,_,h=>by cases h
 |.O1 _ _ _ _ _,_,h=>by cases h
 |.QF _ _ _ _ _ _,_,h=>by cases h
 |.mp _,_,h=>by cases h
 |.un _,_,h=>by cases h
end
end Go.Va
namespace Go.Va
theorem K7{RU:Nat->Bool}:∀{a:AV},(∀k∈a.BX,RU k=false)->a.drop RU=a
 |.Aw ks t x,h=>by
  simp only[AV.drop];rw[Aws];intro hc;obtain⟨k,hk,hb⟩:=List.any_eq_true.1 hc;rw[h k hk]at hb;cases hb
 |.D7 ks t x,h=>by
  simp only[AV.drop];rw[Aws];intro hc;obtain⟨k,hk,hb⟩:=List.any_eq_true.1 hc;rw[h k hk]at hb;cases hb
 |.pr a b,h=>by
  simp only[AV.drop];rw[K7 λk hk=>h k (by simp[AV.BX,hk]),K7 λk hk=>h k (by simp[AV.BX,hk])]
 |.fn g c,h=>by
  simp only[AV.drop];rw[K7 λk hk=>h k (by simpa [AV.BX]using hk)]
 |.cons a b,h=>by
  simp only[AV.drop];rw[K7 λk hk=>h k (by simp[AV.BX,hk]),K7 λk hk=>h k (by simp[AV.BX,hk])]
 |.zs,_=>rfl
 |.AA _,_=>rfl
 |.mp _,_=>rfl
 |.ptr _ _ _ _,_=>rfl
 |.JH,_=>rfl
 |.nil,_=>rfl
 |.O1 k i p o e,h=>by simp[AV.drop,h k (by simp[AV.BX])]
 |.QF k i p o j u,h=>by simp[AV.drop,h k (by simp[AV.BX])]
 |.un _,_=>rfl
theorem CQ{w:World}{own:Nat->Pp}{k:Nat}{m:RM}{t:Ty}{xs:AyZ t.V}{ds:AyZ Value}:nP w own k m t xs ds↔A5 (OV w own k m t) 0 xs ds:=by
 cases m with
 |Ao=>exact Iff.rfl
 |sh ks=>exact F8
theorem OV.len{w:World}{own:Nat->Pp}{k:Nat}{m:RM}{t:Ty}{i:Nat}{x:t.V}{cs:AyZ Value}(h:OV w own k m t i x cs):cs.length=t.size:=by
 cases m with
 |Ao=>exact Ht.len h
 |sh ks=>exact FX.len h
open Classical in
theorem OV.on{w w':World}{own KU:Nat->Pp}{k k':Nat}{m m':RM}{t:Ty}{i i':Nat}{x:t.V}{cs:AyZ Value}(h:OV w own k m t i x cs)
    (hm:match m,m' with
     |.Ao,.Ao=>∀b q,own b=.Bs k (q++[i])->KU b=.Bs k' (q++[i'])/\w'.heap[b]?=w.heap[b]?
     |.sh ks,.sh Uj=>∀b,Al own ks b->Al KU Uj b/\w'.heap[b]?=w.heap[b]?
     |.Ao,.sh Uj=>∀b q,own b=.Bs k (q++[i])->Al KU Uj b/\w'.heap[b]?=w.heap[b]?
     |.sh _,.Ao=>False):OV w' KU k' m' t i' x cs:=by
 cases m with
 |Ao=>cases m' with
  |Ao=>exact Ht.mono (p:=[i]) (p':=[i']) hm h
  |sh Uj =>
   have h1:Ht w' (λb=>if(∃q,own b=.Bs k (q++[i]))then own b else .no) k t [i] x cs :=
    Ht.mono (p:=[i]) (p':=[i]) (λb q hb=>⟨by rw[Awr ⟨q,hb⟩];exact hb,(hm b q hb).2⟩) h
   exact Ht.rd (λb q hb=>by
    split at hb
    ·rename_i hq;obtain⟨q',hq⟩:=hq;exact(hm b q' hq).1
    ·cases hb) h1
 |sh ks=>cases m' with
  |Ao=>exact hm.elim
  |sh Uj=>exact FX.mono hm h
def Abf(bs:AyZ Blk)(v:AV):AyZ Nat:=v.Ni.flatMap (λk=>match V0 bs k with |some (.sh l)=>l |_=>[])
theorem Mc{bs:AyZ Blk}{m m':RM}{t:Ty}{v:AV}{y:t.V}{rs:AyZ Nat}(h:take bs m t v=some (y,m',rs)):rd bs t v=some y/\rs=v.Ni/\nodup v.Ni=true /\
    ((m=.Ao/\m'=.Ao/\v.SJ=true/\∀j∈v.Ni,V0 bs j=some .Ao)\/∃ks,m=.sh ks/\m'=.sh (ks++v.Xt++Abf bs v)):=by
 unfold take at h;split at h
 ·grind
 ·rename_i y' hy
  dsimp only at h
  split at h
  ·grind
  ·split at h
   ·rename_i hc;simp only[Awg]at hc;obtain⟨rfl,rfl,rfl⟩:=h;exact⟨hy,rfl,hc.1,.inr ⟨_,rfl,rfl⟩⟩
   ·grind
theorem vf{w:World}{g:G}{bs:AyZ Blk}(H:A1 w g bs){v:AV}:∀j∈Abf bs v,j<bs.length:=by
 intro j hj;obtain⟨r,_,hr⟩:=List.mem_flatMap.1 hj;split at hr
 ·rename_i l hl;unfold V0 at hl;split at hl
  ·rename_i e m t xs hb;injection hl with hl;subst hl;exact(H.Js r _ hb).1 j hr
  ·grind
 ·grind
theorem dZ{w:World}{g:G}{bs:AyZ Blk}(H:A1 w g bs){m m':RM}{t:Ty}{v:AV}{y:t.V}{rs:AyZ Nat}{cs:AyZ Value}(h:take bs m t v=some (y,m',rs))(hx:B9 w g bs.length false v cs)(hm:∀j∈m.BX,j<bs.length):∀j∈m'.BX,j<bs.length:=by
 obtain⟨_,_,_,hc⟩:=Mc h;rcases hc with ⟨rfl,rfl,_⟩|⟨ks,rfl,rfl⟩
 ·grind
 ·intro j hj;rcases List.mem_append.1 hj with hj |hj
  ·rcases List.mem_append.1 hj with hj |hj
   ·exact hm j hj
   ·exact hx.scope j hj
  ·exact vf H j hj
theorem V4{bs:AyZ Blk}{m m':RM}{t:Ty}{v:AV}{y:t.V}{rs:AyZ Nat}(h:take bs m t v=some (y,m',rs)):(∀j∈m.BX,j∈m'.BX)/\(m=.Ao↔m'=.Ao):=by
 obtain⟨_,_,_,hc⟩:=Mc h;rcases hc with ⟨rfl,rfl,_⟩|⟨ks,rfl,rfl⟩
 ·grind
 ·exact⟨λj hj=>AwH _ (AwH _ hj),by simp⟩
theorem Ra{ks:AyZ Nat}{m:RM}(h:Z1 ks m=true):∀j∈m.BX,j∉ks:=λj hj=>by
 have:=List.all_eq_true.1 h j hj;simpa using this
def Ri(m:RM)(k:Nat)(M:AyZ (Nat×AyZ Nat))(j:Nat)(r:AyZ Nat):Pp :=
 match YT M j with
 |none=>.Bs j r
 |some path=>match m with |.Ao=>.Bs k (r++path)|.sh _=>.GH
theorem LU{m:RM}{k:Nat}{M:AyZ (Nat×AyZ Nat)}{j:Nat}{r:AyZ Nat}(h:j∉M.map (·.1)):Ri m k M j r=.Bs j r:=by simp[Ri,Pl h]
def InR(w:World)(own:Nat->Pp)(k:Nat):RM->(t:Ty)->AyZ Nat->t.V->AyZ Value->Prop
 |.Ao,t,L,x,cs=>Ht w own k t L x cs
 |.sh ks,t,_,x,cs=>FX w (Al own ks) t x cs
theorem zo{w:World}{own:Nat->Pp}{k:Nat}{m:RM}{u:Ty}{y:u.V}{p:AyZ Nat}{t:Ty}{i:Nat}{x x':t.V}{cs:AyZ Value}{o:Nat}(hs:Oj u y p t x=some x')(ho:IP t p=some o)(h:OV w own k m t i x cs) :
    ∃c0 c1 c2,cs=c0++c1++c2/\c0.length=o/\c1.length=u.size/\∀Oz,InR w own k m u (P9 p [i]) y Oz->OV w own k m t i x' (c0++Oz++c2):=by
 cases m with
 |Ao=>exact TT (Abd w own k) u y p t [i] x x' cs o hs ho h
 |sh ks=>exact TT (Aoq w _) u y p t [i] x x' cs o hs ho h
theorem dY{w w':World}{g:G}{bs:AyZ Blk}(H:A1 w g bs){m m':RM}{t:Ty}{v:AV}{y:t.V}{rs:AyZ Nat}{cs:AyZ Value}(h:take bs m t v=some (y,m',rs))(hx:B9 w g bs.length false v cs){k:Nat}{M:AyZ (Nat×AyZ Nat)}{L:AyZ Nat}{KU:Nat->Pp}{m'':RM}
    (hM:∀jq∈Ia v L,YT M jq.1=some jq.2) (Nf:∀j∈m'.BX,j∈m''.BX) (Mn:∀j∈m''.BX,YT M j=none) (ZR:m=.Ao↔m''=.Ao)
    (BW:∀b j r,g.own b=.Bs j r->(j∈M.map (·.1)\/j∈m''.BX)->KU b=Ri m k M j r) (YB:∀b,g.own b=.GH->KU b=.GH)
    (tt:∀b,g.own b=.GH\/(∃j r,g.own b=.Bs j r/\(j∈M.map (·.1)\/j∈m''.BX))->w'.heap[b]?=w.heap[b]?):InR w' KU k m'' t L y cs:=by
 obtain⟨hy,rfl,hn,hc⟩:=Mc h;have Abb:∀j p,YT M j=some p->j∈M.map (·.1):=λj p hj=>Classical.byContradiction λhn=>by rw[Pl hn]at hj;cases hj
 have Arx:∀j∈v.Ni,∃p,YT M j=some p:=λj hj=>by
  rw[<-EN v L]at hj
  grind
 rcases hc with ⟨rfl,rfl,hf,hd⟩|⟨ks,rfl,rfl⟩
 ·obtain rfl:=ZR.1 rfl;have h1:Ht w (λb=>match g.own b with |.Bs j r=>(match YT M j with |some p=>.Bs k (r++p)|none=>.no)|_=>.no) k t L y cs :=
   pY H t v y cs L hy hf hd (λjq hj b q hb=>by grind) hx
  refine Ht.mono (p:=L) (p':=L) (λb q hb=>?_) h1;split at hb
  ·rename_i j r hj;split at hb
   ·rename_i p hp;have hm:=Abb j p hp;refine⟨?_,tt b (.inr ⟨j,r,hj,.inl hm⟩)⟩;rw[BW b j r hj (.inl hm)];simp only[Ri,hp];exact hb
   ·grind
  ·grind
 ·obtain ⟨Adz,rfl⟩:∃l,m''=.sh l:=by
    cases m'' with
    |Ao=>grind
    |sh l=>grind
  have key:∀b j q,g.own b=.Bs j q->(j∈v.Ni\/j∈Adz)->Al KU Adz b:=by
   intro b j q hb hj;rcases hj with hj |hj
   ·obtain⟨p,hp⟩:=Arx j hj;exact .inl (by rw[BW b j q hb (.inl (Abb j p hp))];simp[Ri,hp])
   ·exact .inr ⟨j,hj,q,by rw[BW b j q hb (.inr hj)];simp[Ri,Mn j hj]⟩
  obtain⟨hr,hl⟩:=MD H t v y cs hy hx;refine hr.mono λb hb=>?_;rcases hb with hb |⟨j,hj,q,hq⟩
  ·exact⟨.inl (YB b hb),tt b (.inl hb)⟩
  ·have P5:j∈v.Ni\/j∈Adz:=by
     rcases UQ v j hj with h |h |⟨r,h,l,hm,WA⟩
     ·grind
     ·exact .inr (Nf j (AwH _ (AwI _ h)))
     ·exact .inr (Nf j (AwI _ (List.mem_flatMap.2 ⟨r,h,by grind⟩)))
   refine⟨key b j q hq P5,tt b (.inr ⟨j,q,hq,?_⟩)⟩;rcases P5 with h |h
   ·grind
   ·exact .inr h
end Go.Va
namespace Go.Va
section
variable {P:Program} {σ:St} {o:Oper} {en:Fe} {e:F1} {w:World} {g:G}
theorem O6{t:Nat}{ti:TI}(ht:Dy P t ti){b off:Nat}{Bh:Array Value}{el:TypeId}(hh:w.heap[b]?=some (.cells Bh el (0,0))){v:Value}{cs:AyZ Value}(hv:v.cells=cs.toArray)(hl:cs.length=ti.ty.size)
    (Nc:off+cs.length<=Bh.size) (h1:∀c∈cs,c.oneCell'=true) :
    (storeVar t ⟨b,off,none⟩ v).run P w=.ok () (w.setRow b (Bh.toList.take off++cs++Bh.toList.drop (off+cs.length)).toArray):=by
 have hs:=run_storeCells_at P b off el cs 0 Bh w hh (by grind) h1;simp[storeVar,CR ht,hv,hl,hs]
theorem YK{Bg:AyZ Nat}{b k:Nat}{cs:Array Value}(ho:g.own b=.Bs k [])(hk:k∈Bg):∀q,q<w.heap.size->(∀k p,g.own q=.Bs k p->k∉Bg)->(w.setRow b cs).heap[q]?=w.heap[q]?:=by
 intro q _ hq;refine setRow_other w b q cs λe=>?_;subst e;exact hq k [] ho hk
theorem Gv{f:Nat->AyZ Nat->Pp}{ob:Ay0 Nat}{n:Nat}{i:BI}{b j:Nat}{r:AyZ Nat}(jX:ob≠some b)(h:g.own b=.Bs j r):(g.P7 f ob n i).own b=f j r:=by simp[G.P7,jX,h]
theorem Qs{f:Nat->AyZ Nat->Pp}{ob:Ay0 Nat}{n:Nat}{i:BI}{b:Nat}(jX:ob≠some b)(h:g.own b=.GH):(g.P7 f ob n i).own b=.GH:=by simp[G.P7,jX,h]
theorem iM(H:A1 w g σ.Ag){t:Nat}{ti:TI}(ht:Dy P t ti){k:Nat}{i:Int}{p:AyZ Nat}{of:Nat}{a bq a' v:AV}(hb:σ.Ag[k]?=some (.box a))(hg:a.Qz p=some bq)(hs:a.U1 p v=some a')
    (hc:v.WY/\a.po p=some of/\bq.size=v.size/\v.size=ti.ty.size/\v.isAgg=ti.ty.isAgg/\a'.BX.contains k=false) {u vv:Value} (hu:BF w g σ.Ag.length (.ptr k i p of) u) (hv:BF w g σ.Ag.length v vv) :
    ∃w' g',(Instr.storeAt t u vv).run P w=.ok () w'/\A1 w' g' ((A0 [k] σ.Ag).set k (.box a'))/\Step [k] σ.Ag.length w g w' g':=by
 obtain⟨Ads,cT,J9,BG,fX,U8⟩:=hc;obtain⟨hk,h0,h1,b,KP,rfl⟩:=IA hu;obtain⟨hlen,b',cs,el,ha,ho,hh,hx⟩:=H.Js k _ hb;rw[KP]at ha;injection ha with ha;injection ha with ha;subst ha;obtain⟨Nv,SU⟩:=k8 Ads;obtain⟨cv,Wd,ua⟩:=BD SU Nv hv;have yO:=Vi ua Wd.one;obtain⟨c0,c1,c2,e1,mo,YI,F2⟩:=Nz p a cs.toList bq hx hg;rw[cT]at mo;injection mo with mo;have U9:c1.length=cv.length:=by rw[YI.len,Wd.len,J9]
 have hi0:i.toNat=0:=by omega
 have Aqo:cs.size=c0.length+c1.length+c2.length:=by rw[<-Aw4,e1];simp only[Awd]
 have C5:=O6 (P:=P) ht (off:=of) hh yO (by rw[Wd.len,BG]) (by omega) Wd.one;have VF:(cs.toList.take of++cv++cs.toList.drop (of+cv.length))=c0++cv++c2:=by
  grind
 rw[VF]at C5;have st:Step [k] σ.Ag.length w g (w.setRow b (c0++cv++c2).toArray) g :=
  ⟨rfl,rfl,rfl,by simp,λq hq h=>⟨h,setRow_other w b q _ (λe=>by grind)⟩,λq h=>⟨h,setRow_other w b q _ (λe=>by grind)⟩,
   λq j r h _ hm=>⟨h,setRow_other w b q _ (λe=>by grind)⟩,λ_ _=>rfl⟩
 refine⟨_,g,?_,?_,st⟩
 ·simp only[hi0,Nat.zero_mul,AwF];exact C5
 ·refine H.U5 st (λq hq=>H.Bz q (by simpa using hq)) (by simp[Ar]) λj x hj=>?_;rw[Awy]at hj;split at hj
  ·rename_i hkj;subst hkj;split at hj
   ·injection hj with hj;subst hj;refine .inr (.inr ⟨hlen,b,_,el,KP,ho,setRow_heap w b cs _ el (0,0) hh,?_⟩);have:=B9.step st (Awf _) a' false (F2 v a' cv hs Wd);rw[K7 (λj hj=>by
     grind)]at this
    simpa [Ar]using this
   ·grind
  ·rename_i RY;obtain⟨y,hy,rfl⟩:=CF hj
   grind
theorem QH{bs:AyZ Blk}{t:Ty}{v:AV}{y:t.V}(h:rd bs t v=some y):v.Cz=false/\v.KT=false:=by
 cases v with
 |cons a b=>cases t<;>simp[rd]at h
 |nil=>cases t<;>simp[rd]at h
 |un n=>cases t<;>simp[rd]at h
 |_=>exact⟨rfl,rfl⟩
theorem jQ{α:Type}{l:AyZ α}{i:Nat}(h:i<l.length)(d:α):l.getD i d=l[i]:=by grind
theorem Td(H:A1 w g σ.Ag){t:Nat}{ti:TI}(ht:Dy P t ti){k:Nat}{i:Int}{p:AyZ Nat}{of e:Nat}{m m':RM}{tr:Ty}{xs:AyZ tr.V}{v:AV}{y:ti.ty.V}{x':tr.V}{rs:AyZ Nat}(hb:σ.Ag[k]?=some (.row e m tr xs))
    (Uf:take σ.Ag m ti.ty v=some (y,m',rs)) (hc:IP tr p=some of/\vX tr p=some ti.ty/\Z1 (k::rs) m'=true/\rs.contains k=false) (F2:Oj ti.ty y p tr (xs.getD i.toNat tr.zero)=some x')
    {u vv:Value} (hu:BF w g σ.Ag.length (.ptr k i p of) u) (hv:BF w g σ.Ag.length v vv) :
    ∃w' g',(Instr.storeAt t u vv).run P w=.ok () w'/\A1 w' g' ((Blk.Eu (A0 (k::rs) σ.Ag) rs).set k (.row e m' tr (xs.set i.toNat x')))/\Step (k::rs) σ.Ag.length w g w' g':=by
 obtain⟨cT,XM,Mn,hrk⟩:=hc;obtain⟨hk,h0,h1,b,KP,rfl⟩:=IA hu;obtain⟨Ng,hlen,Mg,BB,hr⟩:=H.Js k _ hb;have Cw:i.toNat<xs.length:=by rw[<-hlen];exact h1
 rcases hr with ⟨Ug,_⟩|⟨b',Bh,ds,ha,BW,⟨el,RX,hh⟩,G3,cO,jT,yB,Nb⟩
 ·rw[Ug]at Cw;simp at Cw
 rw[KP]at ha;injection ha with ha;injection ha with ha;subst ha;obtain⟨hy,yJ,NT,oK⟩:=Mc Uf;obtain⟨SU,Nv⟩:=QH hy;obtain⟨cv,Wd,ua⟩:=BD SU Nv hv;have yO:=Vi ua Wd.one;have U7:cv.length=ti.ty.size:=(MD H _ _ _ _ hy Wd).1.len;obtain⟨c0,c,d,e1,gm,mr,jZ,ZT⟩:=A5.AK (λi x c h=>OV.len h) (CQ.1 Nb) Cw;have Aqo:=OV.len mr;obtain⟨UL,ZR⟩:=V4 Uf;have RZ:=Ra Mn;have jW:k∉rs:=by simpa using hrk
 let M:=Ia v (P9 p [i.toNat])
 have jS:M.map (·.1)=rs:=by rw[yJ];exact EN v _
 let f:=Ri m k M
 let g':=g.P7 f none σ.Ag.length ⟨none,0,0,0⟩
 let off:=i.toNat*tr.size+of
 let new:=Bh.toList.take off++cv++Bh.toList.drop (off+cv.length)
 let w':=w.setRow b new.toArray
 have gw:∀b' r,g.own b'=.Bs k r->g'.own b'=.Bs k r:=λb' r h=>by
  have:=Gv (f:=f) (ob:=none) (n:=σ.Ag.length) (i:=⟨none,0,0,0⟩) (by simp) h;rw[this];exact LU (by rw[jS];exact jW)
 have st:Step (k::rs) σ.Ag.length w g w' g':=Step.P7 H.Bz rfl rfl rfl (by simp[w']) (YK BW (by simp)) (λq h=>by cases h) (Awf _) λj r _ hm =>
  LU (by rw[jS];exact λh=>hm (AwB _ h))
 have tC:∀b' j r,g.own b'=.Bs j r->j≠k->w'.heap[b']?=w.heap[b']?:=λb' j r h hj=>setRow_other w b b' _ λe=>by subst e;rw[BW]at h;injection h with h;exact hj h.symm
 have tE:∀b' q,g.own b'=.Bs k q->q≠[]->w'.heap[b']?=w.heap[b']?:=λb' q h hq=>setRow_other w b b' _ λe=>by subst e;rw[BW]at h;injection h with _ h;exact hq h.symm
 have gu:∀b',g.own b'=.GH->w'.heap[b']?=w.heap[b']?:=λb' h=>setRow_other w b b' _ λe=>by subst e;rw[BW]at h;cases h
 have hon:∀(i':Nat) (x:tr.V) (c:AyZ Value),OV w g.own k m tr i' x c->OV w' g'.own k m' tr i' x c:=by
  intro i' x c RX;refine RX.on ?_;rcases oK with ⟨rfl,rfl,_⟩|⟨ks,rfl,rfl⟩
  ·exact λb' q h=>⟨gw b' _ h,tE b' _ h (by simp)⟩
  ·intro b' h;rcases h with h |⟨j,hj,r,h⟩
   ·exact⟨.inl (Qs (by simp) h),gu b' h⟩
   ·have gj:=UL j hj;have ZG:=RZ j gj;exact⟨.inr ⟨j,gj,r,by
     have:=Gv (f:=f) (ob:=none) (n:=σ.Ag.length) (i:=⟨none,0,0,0⟩) (by simp) h;rw[this];exact LU (by rw[jS];exact λh=>ZG (AwB _ h))⟩,tC b' j r h λe=>ZG (by simp[e])⟩
 rw[AwF]at mr;rw[jQ Cw]at F2;obtain⟨d0,d1,d2,e2,hd0,XK,Hs⟩:=zo F2 cT (hon _ _ _ mr);have UK:InR w' g'.own k m' ti.ty (P9 p [i.toNat]) y cv:=by
  refine dY H Uf Wd (M:=M) (λjq hj=>VM (by rw[EN];exact NT) hj) (λ_ h=>h) (λj hj=>Pl (by rw[jS];exact λh=>RZ j hj (AwB _ h))) ZR
   (λb' j r h _=>Gv (by simp) h) (λb' h=>Qs (by simp) h) λb' h=>?_
  rcases h with h |⟨j,r,h,hj⟩
  ·exact gu b' h
  ·refine tC b' j r h λe=>?_;subst e;rcases hj with hj |hj
   ·rw[jS]at hj;exact jW hj
   ·exact RZ j hj (by simp)
 have gk:=A5.join Cw (jZ.mono λi' x c h=>hon i' x c h) (by rw[AwF];exact Hs cv UK) (ZT.mono λi' x c h=>hon i' x c h);have Ant:Bh.toList=ds++Bh.toList.drop (xs.length*tr.size):=by rw[<-yB,Axs]
 have hds:ds.length=xs.length*tr.size:=by
  have ji:Bh.toList.length=Bh.size:=Aw4;rw[<-yB,Awu,ji,jT];exact Nat.min_eq_left (Aw6 _ G3)
 have tN:(Bh.toList.drop (xs.length*tr.size)).length=Bh.size-xs.length*tr.size:=by simp
 have TK:xs.length*tr.size<=Bh.size:=by rw[jT];exact Aw6 _ G3
 have Auq:c0.length+c.length+d.length=xs.length*tr.size:=by rw[<-hds,e1];simp only[Awd]
 have Auk:d0.length+d1.length+d2.length=c.length:=by rw[e2];simp only[Awd]
 have AaY:off=(c0++d0).length:=by simp only[off,Awd,gm,hd0]
 have Aqq:cv.length=d1.length:=by rw[U7,XK]
 have VF:new=(c0++(d0++cv++d2)++d)++Bh.toList.drop (xs.length*tr.size):=by
  simp only[new];have cX:Bh.toList=(c0++d0)++(d1++(d2++d++Bh.toList.drop (xs.length*tr.size))):=by
   conv=>lhs;rw[Ant,e1,e2]
   simp only[Awh]
  generalize Bh.toList.drop (xs.length*tr.size)=XA at cX⊢;rw[cX,AaY,Aqq,AxP,<-Awd,<-Awh (c0++d0) d1,List.drop_left];simp only[Awh]
 have C5:(storeVar t ⟨b,off,none⟩ vv).run P w=.ok () w':=O6 (P:=P) ht hh yO U7 (by
  have:off=c0.length+d0.length:=by rw[AaY,Awd]
  omega) Wd.one
 refine⟨w',g',?_,?_,by exact st⟩
 ·simp only[Instr.storeAt,Instr.sureAddr,Sem.run_bind,Sem.run_pure,Result.andThen_ok,Mg];exact C5
 ·refine H.U5 st (J8 H.Bz (by simp[w']) (λq h=>by cases h)) (by simp[AQ,Ar]) λj x hj=>?_;rw[Awy]at hj;split at hj
  ·rename_i hkj;subst hkj;split at hj
   ·injection hj with hj;subst hj;have Nu:g'.AK k=g.AK k:=st.AK k hk;have AnM:((Blk.Eu (A0 (k::rs) σ.Ag) rs).set k (.row e m' tr (xs.set i.toNat x'))).length=σ.Ag.length:=by simp[AQ,Ar]
    refine .inr (.inr ⟨by rw[AnM];exact dZ H Uf Wd Ng,by rw[Nu,Awi];exact hlen,by rw[Nu];exact Mg,BB,.inr ⟨b,new.toArray,_,by rw[Nu];exact KP,gw b [] BW,⟨el,RX,setRow_heap w b Bh _ el (0,0) hh⟩,by rw[Nu,Awi];exact G3,by rw[Nu];exact cO,?_,rfl,?_⟩⟩)
    ·rw[Nu,<-jT,VF];simp only[AxX,Awd];omega
    ·rw[CQ,Awi];have:(new.toArray).toList.take (xs.length*tr.size)=c0++(d0++cv++d2)++d:=by
      rw[List.toList_toArray,VF];have ji:(c0++(d0++cv++d2)++d).length=xs.length*tr.size:=by simp only[Awd];omega
      rw[<-ji,AxP]
     rw[this];exact gk
   ·cases hj
  ·rename_i RY;rcases Ha hj with h |⟨cP,h⟩
   ·exact .inl h
   ·obtain⟨y',QB,rfl⟩:=CF h;exact .inr (.inl ⟨by simp only[Axm,not_or];exact⟨λe=>RY e.symm,cP⟩,y',QB,rfl⟩)
theorem kO{f:Nat}{F G:∀u:Ty,u.V->Ay0 u.V}(h:∀(u:Ty) (x x0:u.V),F u x=some x0->G u x0=G u x):∀{t:Ty} {x x0:t.V},NA t x f F=some x0->NA t x0 f G=NA t x f G:=by
 induction f with
 |zero =>
  intro t x x0 hs;cases t with
  |AH a b =>
   simp only[NA]at hs⊢
   grind
  |_=>simp[NA]at hs
 |succ f ih =>
  intro t x x0 hs;cases t with
  |AH a b =>
   simp only[NA]at hs⊢
   grind
  |_=>simp[NA]at hs
theorem Ze{u:Ty}{y z:u.V}:∀(p:AyZ Nat) (t:Ty) (x x0:t.V),Oj u z p t x=some x0->Oj u y p t x0=Oj u y p t x
 |[],_,_,_,_=>rfl
 |f::p,_,_,_,h=>kO  (λu' x x0 hx=>Ze p u' x x0 hx) h
theorem vd{A:Type}{l:AyZ A}{i:Nat}(h:i<l.length)(x d:A):(l.set i x).getD i d=x:=by grind
theorem dX{bs:AyZ Blk}(H:A1 w g bs){t:Nat}{ti:TI}(ht:Dy P t ti){k j e ej of:Nat}{i:Int}{p:AyZ Nat}{tr u:Ty}{xs:AyZ tr.V}{ys:AyZ u.V}{x0 x':tr.V}(hb:bs[k]?=some (.Nh e tr xs i p))(hj:bs[j]?=some (.row ej .Ao u ys))
    (Ug:Oj (.sl u) [] p tr (xs.getD i.toNat tr.zero)=some x0) (j7:Oj (.sl u) ys p tr (xs.getD i.toNat tr.zero)=some x') (hc:ti.ty=.sl u/\IP tr p=some of/\vX tr p=some (.sl u)/\j≠k)
    {uu vv:Value} (hu:BF w g bs.length (.ptr k i p of) uu) (hv:BF w g bs.length (.AA j) vv) :
    ∃w' g',(Instr.storeAt t uu vv).run P w=.ok () w'/\A1 w' g' ((Blk.Eu (A0 [k,j] ((A0 [k] bs).set k (.row e .Ao tr (xs.set i.toNat x0)))) [j]).set k (.row e .Ao tr (xs.set i.toNat x')))/\Step [k,j] bs.length w g w' g':=by
 obtain⟨XM,cT,htp,ZG⟩:=hc;have gl:=AP hb;obtain⟨hlen,Mg,BB,h0,Cw,u1,o1,x1,b,Bh,ds,q1,q2,q3,KP,BW,⟨el,RX,hh⟩,G3,cO,jT,yB,Nb⟩:=H.Js k _ hb;rw[cT]at q1;injection q1 with q1;subst q1;rw[htp]at q2;injection q2 with q2;injection q2 with q2;subst q2;rw[Ug]at q3;injection q3 with q3;subst q3
 let q:=i.toNat*tr.size+of
 let fB:=Bh.setIfInBounds q (.slice none 0 0)
 let w0:=w.setRow b fB
 let rI:=(A0 [k] bs).set k (Blk.row e .Ao tr (xs.set i.toNat x0))
 have U9:rI.length=bs.length:=by simp[rI,Ar]
 have st:Step [k] bs.length w g w0 g :=
  ⟨rfl,rfl,rfl,by simp[w0],λq hq h=>⟨h,setRow_other w b q _ (λe=>by subst e;rw[BW]at h;cases h)⟩,λq h=>⟨h,setRow_other w b q _ (λe=>by subst e;rw[BW]at h;cases h)⟩,
   λq j r h _ hm=>⟨h,setRow_other w b q _ (λe=>by subst e;rw[BW]at h;injection h with h;exact hm (by simp[h]))⟩,λ_ _=>rfl⟩
 have H1:A1 w0 g rI:=by
  refine H.U5 st (λq hq=>H.Bz q (by simpa [w0]using hq)) (by rw[U9];exact Awf _) λm x hm=>?_;rw[Awy]at hm;split at hm
  ·rename_i hkm;subst hkm;split at hm
   ·injection hm with hm;subst hm;exact .inr (.inr ⟨λj hj=>(by cases hj),by rw[Awi];exact hlen,Mg,BB,.inr ⟨b,fB,ds,KP,BW,⟨el,RX,setRow_heap w b Bh _ el (0,0) hh⟩,by rw[Awi];exact G3,cO,by rw[<-jT];simp[fB],by rw[Awi];exact yB,Nb.mono λi x c r=>r.mono λb' q hb=>⟨hb,setRow_other w b b' _ λe=>by subst e;rw[BW]at hb;injection hb with _ hb;simp at hb⟩⟩⟩)
   ·cases hm
  ·rename_i RY;obtain⟨y,hy,rfl⟩:=CF hm;exact .inr (.inl ⟨by simpa using λe:m=k=>RY e.symm,y,hy,rfl⟩)
 have hj1:rI[j]?=some (.row ej .Ao u ys):=by
  simp only[rI];rw[AxZ (Ne.symm ZG)];simp[A0,hj,Blk.drop,RM.BX]
 have hk1:rI[k]?=some (.row e .Ao tr (xs.set i.toNat x0)):=by
  simp only[rI];rw[List.getElem?_set_self (by rw[Ar];exact gl)]
 obtain⟨ty,Rb,elem,bytes,FK,Lf⟩:=ti
 dsimp only at XM
 subst XM;have Uf:take rI .Ao (.sl u) (.AA j)=some (ys,.Ao,[j]):=by
  simp[take,rd,hj1,G2,AV.Ni,AV.SJ,nodup,V0]
 have Aa2:Oj (.sl u) ys p tr ((xs.set i.toNat x0).getD i.toNat tr.zero)=some x':=by
  rw[vd Cw,Ze p tr _ _ Ug,j7]
 have hu1:BF w0 g rI.length (.ptr k i p of) uu:=by
  have:=hu.step st (Awf _);rw[U9];exact this
 have ZV:BF w0 g rI.length (.AA j) vv:=by
  have:=hv.step st (Awf _);rw[U9];exact this
 obtain⟨w',g',C5,hH,BG⟩:=Td (σ:=⟨[],rI⟩) H1 ht hk1 Uf ⟨cT,htp,by simp[Z1,RM.BX],by simpa using Ne.symm ZG⟩ Aa2 hu1 ZV;obtain⟨_,_,_,b',oG,he⟩:=IA hu;rw[KP]at oG;injection oG with oG;injection oG with oG;subst oG;obtain⟨_,ua⟩:=DV hv;have Nc:q+1<=Bh.size:=by
  obtain⟨c0,c,d,e1,gm,mr,jZ,ZT⟩:=A5.AK (λi x c h=>Ht.len h) Nb (by rw[Awi];exact Cw);obtain⟨a0,a1,a2,e2,ha0,l6,_⟩:=TT (Abd w g.own k) (.sl u) ys p tr _ _ _ _ of (by rw[<-Aa2];simp[List.getD,Cw]) cT mr;have U7:=Ht.len mr;have h1:c.length=a0.length+a1.length+a2.length:=by rw[e2];simp only[Awd]
  have h2:a1.length=1:=l6;have h3:(i.toNat+1)*tr.size<=Bh.size:=by rw[jT];exact Aw6 _ (AwD Cw G3)
  rw[Axy,Nat.one_mul]at h3;simp only[q];omega
 have one:∀c∈[vv],c.oneCell'=true:=λc hc=>by simp at hc;subst hc;rw[ua];rfl
 have yO:vv.cells=[vv].toArray:=by rw[ua];rfl
 have r1:=O6 (P:=P) ht (off:=q) (setRow_heap w b Bh fB el (0,0) hh) yO rfl (by simp[fB];exact Nc) one;have r2:=O6 (P:=P) ht (off:=q) hh yO rfl (by simpa using Nc) one;have hX:(fB.toList.take q++[vv]++fB.toList.drop (q+[vv].length))=(Bh.toList.take q++[vv]++Bh.toList.drop (q+[vv].length)):=by
  simp only[fB,Array.toList_setIfInBounds];rw[List.take_set_of_le (Awf _),List.drop_set_of_lt (by simp)]
 rw[hX,setRow_setRow]at r1;have Aa1:(Instr.storeAt t uu vv).run P w0=.ok () (w.setRow b (Bh.toList.take q++[vv]++Bh.toList.drop (q+[vv].length)).toArray):=by
  rw[he];simp only[Instr.storeAt,Instr.sureAddr,Sem.run_bind,Sem.run_pure,Result.andThen_ok,Mg];exact r1
 have ZW:w'=w.setRow b (Bh.toList.take q++[vv]++Bh.toList.drop (q+[vv].length)).toArray:=by
  rw[C5]at Aa1;injection Aa1
 refine⟨w',g',?_,?_,(st.trans BG (by rw[U9];exact Awf _)).weaken (by simp) (Awf _)⟩
 ·rw[he,ZW];simp only[Instr.storeAt,Instr.sureAddr,Sem.run_bind,Sem.run_pure,Result.andThen_ok,Mg];exact r2
 ·rw[List.set_set]at hH;exact hH
theorem pS{t:TypeId}{x v:Operand}(ho:o.op=.store t x v){ti:TI}(ht:Dy P t ti)(h:WV σ.Ag ti (σ.BP x) (σ.BP v) some=some e):KO P σ o e:=by
 have Sl:∀(FQ:AyZ Blk) (Bg:AyZ Nat),Bg≠[]->FQ.length=σ.Ag.length ->
     (∀(a:Act) (w:World) (g:G),Ip w g σ a->∃w' g',(Instr.storeAt t (a.eval x) (a.eval v)).run P w=.ok () w'/\A1 w' g' FQ/\Step Bg σ.Ag.length w g w' g')->KO P σ o ⟨.un 0,FQ,Bg⟩:=by
  intro FQ Bg hm hl hh;refine⟨by grind,λh=>(hm h).elim,λa w g hs next Q hn=>?_⟩
  obtain⟨w',g',hr,hH,BG⟩:=hh a w g hs;unfold Oper.wp;simp only[execOp,ho,Sem.run_bind,hr];exact hn undef w' g' hH M4 BG
 unfold WV at h;split at h
 ·rename_i k i p of vv hx;split at h
  ·rename_i a hb;split at h
   ·rename_i bq a' hg F2;split at h
    ·rename_i hc;injection h with h;subst h;refine Sl _ _ (by simp) (by simp[Ar]) λac w g hs=>?_;have hu:=AF hs x;rw[hx]at hu;exact iM hs.heap ht hb hg F2 hc hu (AF hs v)
    ·grind
   ·grind
  ·rename_i el m tr xs hb;split at h
   ·rename_i y m' rs Uf;split at h
    ·rename_i hc;split at h
     ·rename_i x' F2;injection h with h;subst h;refine Sl _ _ (by simp) (by simp[Ar,AQ]) λac w g hs=>?_;have hu:=AF hs x;rw[hx]at hu;exact Td hs.heap ht hb Uf hc F2 hu (AF hs v)
     ·grind
    ·grind
   ·grind
  ·rename_i el tr xs i' p' hb;split at h
   ·rename_i j hj;split at h
    ·rename_i ej u ys hbj;split at h
     ·rename_i x0 x' Ug j7;split at h
      ·rename_i hc;split at h
       ·rename_i hi;injection h with h;subst h;subst hi;obtain⟨c1,c2,c3,c4,c5⟩:=hc;subst c4;refine Sl _ _ (by simp) (by simp[Ar,AQ]) λac w g hs=>?_;have hu:=AF hs x;rw[hx]at hu;have hv:=AF hs v;rw[hj]at hv;exact dX hs.heap ht hb hbj Ug j7 ⟨c1,c2,c3,c5⟩ hu hv
       ·grind
      ·grind
     ·grind
    ·grind
   ·grind
  ·grind
 ·grind
end
end Go.Va
namespace Go.Va
section
variable {P:Program} {σ:St} {o:Oper} {en:Fe} {e:F1}
theorem S4{bs:AyZ Blk}{t:Ty}:∀{ps:AyZ (Nat×AV)} {m m':RM} {xs qb:AyZ t.V} {rs qs:AyZ Nat},QG bs t m xs rs ps=some (m',qb,qs) ->
    (∀j∈m.BX,j∈m'.BX)/\(m=.Ao↔m'=.Ao)/\qs=rs++ps.flatMap (λp=>p.2.Ni)/\qb.length=xs.length
 |[],m,m',xs,qb,rs,qs,h=>by
  obtain⟨rfl,rfl,rfl⟩:=h
  grind
 |(i,v)::ps,m,m',xs,qb,rs,qs,h=>by
  simp only[QG]at h;split at h
  ·rename_i y m1 l ht;split at h
   ·obtain⟨h1,h2,h3,h4⟩:=S4 h;obtain⟨hs,hd⟩:=V4 ht;obtain⟨_,hl,_⟩:=Mc ht
    grind
   ·grind
  ·grind
theorem Y5{t:Ty}{E:Nat->t.V->AyZ Value->Prop}(hE:∀i x c,E i x c->c.length=t.size){bs:AyZ Blk}{ρ:Operand->AV}{ε:Operand->Value}{m':RM}:∀{ps:AyZ (Nat×Operand)} {m:RM} {xs qb:AyZ t.V} {rs qs:AyZ Nat} {cs:AyZ Value},
    QG bs t m xs rs (ps.map λp=>(p.1,ρ p.2))=some (m',qb,qs)->A5 E 0 xs cs ->
    (∀p∈ps,∀m m1 y rs,take bs m t (ρ p.2)=some (y,m1,rs)->(m=.Ao↔m'=.Ao)->(∀j∈m1.BX,j∈m'.BX)->∃cv,(ε p.2).cells=cv.toArray/\E p.1 y cv) ->
    ∃eK,Instr.fill (λi=>some (i*t.size,t.size)) cs.toArray (ps.map λp=>(p.1,ε p.2))=some eK.toArray/\A5 E 0 qb eK
 |[],m,xs,qb,rs,qs,cs,h,hl,_=>by
  obtain⟨rfl,rfl,rfl⟩:=h;exact⟨cs,rfl,hl⟩
 |(i,x)::ps,m,xs,qb,rs,qs,cs,h,hl,hp=>by
  simp only[AwU,QG]at h;split at h
  ·rename_i y m1 l ht;split at h
   ·rename_i hi;obtain⟨h1,h2,_⟩:=S4 h;obtain⟨hs,hd⟩:=V4 ht;obtain⟨cv,Wd,hey⟩:=hp (i,x) (by simp) m m1 y l ht (hd.trans h2) h1;obtain⟨c0,c,d,e1,gm,mr,jZ,ZT⟩:=A5.AK hE hl hi;have VF:=A5.join hi jZ (by rw[AwF];exact hey) ZT;obtain⟨eK,hf,wR⟩:=Y5 hE h VF λp hp'=>hp p (by grind);refine⟨eK,?_,wR⟩;simp only[AwU];unfold Instr.fill;have Pj:(ε x).cells.size=t.size:=by
     grind
    have hc:=hE _ _ _ mr;have Nc:¬i*t.size+t.size>cs.toArray.size:=by
     grind
    simp only[Pj,ne_eq,not_true_eq_false,decide_false,Bool.false_or,Nc,AwX,Axo];rw[<-hf];congr 1;have Aqp:(ε x).cells=cv.toArray:=Wd;rw[Aqp,e1,<-gm];exact mU (by grind)
   ·grind
  ·grind
theorem iQ{m m':RM}(h:m=.Ao↔m'=.Ao)(k:Nat)(M:AyZ (Nat×AyZ Nat))(j:Nat)(r:AyZ Nat):Ri m k M j r=Ri m' k M j r:=by
 unfold Ri
 grind
def kD(ps:AyZ (Nat×AV)):AyZ (Nat×AyZ Nat):=ps.flatMap λp=>Ia p.2 [p.1]
theorem gX(ps:AyZ (Nat×AV)):(kD ps).map (·.1)=ps.flatMap λp=>p.2.Ni:=by
 induction ps with
 |nil=>rfl
 |cons p ps ih =>
  simp only[kD,List.flatMap_cons,AwY]at ih⊢;rw[EN,ih]
theorem WR{w:World}{g:G}{bs:AyZ Blk}(H:A1 w g bs){t:Ty}{ρ:Operand->AV}{ε:Operand->Value}(hρ:∀x,BF w g bs.length (ρ x) (ε x)):∀{ps:AyZ (Nat×Operand)} {m m':RM} {xs qb:AyZ t.V} {rs qs:AyZ Nat},
    QG bs t m xs rs (ps.map λp=>(p.1,ρ p.2))=some (m',qb,qs)->(∀j∈m.BX,j<bs.length)->∀j∈m'.BX,j<bs.length
 |[],m,m',xs,qb,rs,qs,h,hm=>by
  obtain⟨rfl,rfl,rfl⟩:=h;exact hm
 |(i,x)::ps,m,m',xs,qb,rs,qs,h,hm=>by
  simp only[AwU,QG]at h;split at h
  ·rename_i y m1 l ht;split at h
   ·obtain⟨hy,_⟩:=Mc ht;obtain⟨SU,Nv⟩:=QH hy;obtain⟨cv,Wd,_⟩:=BD SU Nv (hρ x);exact WR H hρ h (dZ H ht Wd hm)
   ·grind
  ·grind
theorem Zj{t:TypeId}{len:Nat}{Fu:Array (Nat×Operand)}(ho:o.op=.buildSlice t len Fu){fi:FI}{ti te:TI}(ht:Dy P t ti)(C9:Dy P ti.elem te){m:RM}{xs:AyZ te.ty.V}{rs:AyZ Nat}
    (hp:QG σ.Ag te.ty (fi.mode te.ty) (List.replicate len te.ty.zero) [] (Fu.toList.map λp=>(p.1,σ.BP p.2))=some (m,xs,rs))
    (hc:(ti.Da&&te.ty.row&&Z1 rs m&&nodup rs&&decide (len*te.ty.size<=16777216))=true) :
    (len=0->KO P σ o ⟨.zs,σ.Ag,[]⟩)/\(len≠0->KO P σ o ⟨.AA σ.Ag.length,Blk.Eu (A0 rs σ.Ag) rs++[.row ti.elem m te.ty xs],rs⟩):=by
 simp only[Awg,Axc]at hc;obtain⟨⟨⟨⟨H7,LN⟩,Mn⟩,NT⟩,yz⟩:=hc;have hu:=Bf ht H7;obtain⟨YA,BB⟩:=Zb LN;obtain⟨ie,z,hi,J9,jf,hz,aU,_⟩:=C9.info;obtain⟨_,ZR,yJ,hxl⟩:=S4 hp;rw[AwG]at hxl;rw[Axe]at yJ;refine⟨λh0=>?_,λh0=>?_⟩
 ·subst h0;have hps:Fu.toList=[]:=by
   cases hq:Fu.toList with
   |nil=>rfl
   |cons p r =>
    rw[hq]at hp;simp only[AwU,QG]at hp;split at hp
    ·split at hp
     ·rename_i h;simp at h
     ·cases hp
    ·cases hp
  have AqU:Fu=#[]:=by apply Array.toList_inj.1;rw[hps]
  refine⟨Awf _,λ_=>⟨[],(AwO _).symm⟩,λa w g hs next Q hn=>?_⟩
  have hr:(execOp a.eval o).run P w=.ok (.value (.slice (some ⟨w.heap.size,0,none⟩) 0 0)) (w.alloc (.cells #[] ti.elem)):=by
   simp[execOp,ho,Instr.buildSlice,run_underlying hu,sizeOf,typeInfo,hi,AqU,Instr.fill,newRow];congr 2;apply Array.eq_empty_of_size_eq_zero;simp
  unfold Oper.wp;rw[hr];have st:Step [] σ.Ag.length w g (w.alloc (.cells #[] ti.elem)) g:=⟨rfl,rfl,rfl,by show w.heap.size<=(w.heap.push _).size;simp,λb hb h=>⟨h,heap_alloc_old w _ b hb⟩,λb h=>⟨h,heap_alloc_old w _ b (Pz hs.heap (by rw[h];simp))⟩,
   λb k p h _ _=>⟨h,heap_alloc_old w _ b (Pz hs.heap (by rw[h];simp))⟩,λ_ _=>rfl⟩
  refine hn _ _ g (hs.heap.M3 st λb hb=>hs.heap.Bz b (AwD st.size hb)) (bm _) st
 ·refine⟨by simp[AQ,Ar],λh=>⟨[.row ti.elem m te.ty xs],?_⟩,λa w g hs next Q hn=>?_⟩
  ·have h:rs=[]:=h;rw[h];rfl
  have H:=hs.heap
  let n:=σ.Ag.length
  let M:=kD (Fu.toList.map λp=>(p.1,σ.BP p.2))
  have jS:M.map (·.1)=rs:=by rw[yJ];exact gX _
  let i:BI:=⟨some ⟨w.heap.size,0,none⟩,len,len,te.ty.size⟩
  let g':=g.P7 (Ri m n M) (some w.heap.size) n i
  have yG:∀b,g.own b≠.no->b≠w.heap.size:=λb h e=>by have:=Pz H h;omega
  have key:∀cells:Array Value,∃w':World,w'=w.alloc (.cells cells ti.elem)/\Step rs n w g w' g':=λcells=>⟨_,rfl,Step.P7 H.Bz rfl rfl rfl (by show w.heap.size<=(w.heap.push _).size;simp) (λq hq _=>heap_alloc_old w _ q hq)
   (λq h=>by injection h with h;omega) (Awf _) λj r _ hm=>LU (by rw[jS];exact hm)⟩
  have Qp:∀b j r,g.own b=.Bs j r->g'.own b=Ri m n M j r:=λb j r h=>Gv (by
   intro e;injection e with e;exact yG b (by rw[h];simp) e.symm) h
  have VQ:∀b,g.own b=.GH->g'.own b=.GH:=λb h=>Qs (by
   intro e;injection e with e;exact yG b (by rw[h];simp) e.symm) h
  have hzero:A5 (OV w g'.own n m te.ty) 0 (List.replicate len te.ty.zero) ((List.replicate len (Value.agg z.cells)).flatMap λv=>v.cells.toList):=by
   refine TQ (λi=>?_) len 0;have Arn:(Value.agg z.cells).cells.toList=M7 te.ty:=aU;rw[Arn];cases m with
   |Ao=>exact Ht.zero YA
   |sh ks=>exact FX.zero YA
  obtain⟨eK,gg,tz⟩:=Y5 (E:=OV w g'.own n m te.ty) (ε:=a.eval) (λi x c h=>h.len) hp hzero (by
   intro p hpm m0 m1 y rs0 Uf hd0 UL;obtain⟨hy,jZ,hn0,_⟩:=Mc Uf;obtain⟨SU,Nv⟩:=QH hy;obtain⟨cv,Wd,ua⟩:=BD SU Nv (AF hs p.2);refine⟨cv,Vi ua Wd.one,?_⟩;have Hs:InR w g'.own n m te.ty [p.1] y cv:=by
    refine dY H Uf Wd (M:=M) (λjq hj=>VM (by rw[jS];exact NT) ?_) UL (λj hj=>Pl (by rw[jS];exact Ra Mn j hj)) hd0
     (λb j r h _=>by rw[Qp b j r h,iQ hd0]) VQ λ_ _=>rfl
    exact List.mem_flatMap.2 ⟨(p.1,σ.BP p.2),List.mem_map.2 ⟨p,hpm,rfl⟩,hj⟩
   cases m with
   |Ao=>exact Hs
   |sh ks=>exact Hs)
  have U7:=A5.len (λi x c h=>OV.len h) tz;rw[hxl]at U7;have hpc:¬len*te.ty.size=0:=by
   have:0<len*te.ty.size:=Nat.mul_pos (AxG h0) BB;omega
  have AnQ:(Array.range (len*ie.size)).map (z.cells[·%z.cells.size]!)=((List.replicate len (Value.agg z.cells)).flatMap λv=>v.cells.toList).toArray:=by
   have h1:=WI z.cells (s:=te.ty.size) (l:=len) (c:=len) (by rw[<-Aw4,aU,NQ]) BB (Awf _);rw[Awj (by rw[Aw4,size_madeCells];exact Awf _)]at h1;rw[<-h1,J9];simp only[madeCells,Array.toArray_toList]
  have hr:(execOp a.eval o).run P w=.ok (.value (.slice (some ⟨w.heap.size,0,none⟩) len len)) (w.alloc (.cells eK.toArray ti.elem)):=by
   have:=run_buildSlice (P:=P) w t ti.elem len (Fu.map λ(i,x)=>(i,a.eval x)) eK.toArray ie z hu hi hz (by rw[J9];omega) (by rw[J9];exact hpc) (by
    rw[AnQ,J9];simpa using gg)
   simp[execOp,ho,this]
  unfold Oper.wp;rw[hr];obtain⟨w',ZW,st⟩:=key eK.toArray;subst ZW;have Mf:g'.AK n=i:=by simp[g',G.P7]
  refine hn _ _ g' (H.U5 st (J8 H.Bz st.size (λq h=>by injection h with h;subst h;show w.heap.size<(w.heap.push _).size;simp)) (by simp[AQ,Ar]) λj x hj=>?_) ?_ st
  ·rw[Awz]at hj;split at hj
   ·rcases Ha hj with h |⟨cP,h⟩
    ·exact .inl h
    ·obtain⟨y',QB,rfl⟩:=CF h;exact .inr (.inl ⟨cP,y',QB,rfl⟩)
   ·rename_i hlen;rw[AQ,Ar]at hj hlen;have aR:j-σ.Ag.length=0:=by
     rcases Awx (j-σ.Ag.length)with h |h
     ·exact h
     ·rw[AwN (by simp;omega)]at hj;cases hj
    rw[aR]at hj;obtain rfl:j=n:=by simp only[n];omega
    simp only[List.getElem?_cons_zero,Awb]at hj;subst hj;refine .inr (.inr ⟨λj hj=>?_,by rw[Mf,hxl],by rw[Mf],BB,.inr ⟨w.heap.size,eK.toArray,_,by rw[Mf],by simp[g',G.P7],⟨_,.inr rfl,heap_alloc_new w _⟩,by rw[Mf,hxl];exact Awf _,?_,by rw[Mf,AxX,U7],rfl,?_⟩⟩)
    ·have:=WR H (AF hs) hp (by rw[PH];intro j hj;cases hj) j hj;simp[AQ,Ar];omega
    ·rw[Mf];have:len<=len*te.ty.size:=AxU _ BB;simp only[maxLen,i];omega
    ·rw[CQ,List.toList_toArray,Awj (by rw[U7,hxl];exact Awf _)];refine tz.mono λi' x c h=>h.on ?_;have hap:∀b,g.own b≠.no\/g'.own b≠.no/\b≠w.heap.size->(w.alloc (.cells eK.toArray ti.elem)).heap[b]?=w.heap[b]?:=λb hb=>by
      refine heap_alloc_old w _ b ?_;rcases hb with hb |⟨hb,RY⟩
      ·exact Pz H hb
      ·rcases Awk b w.heap.size with h' |h'
       ·exact h'
       ·refine(hb ?_).elim;have:=H.Bz b h';simp[g',G.P7,this,Ne.symm RY]
     cases m with
     |Ao =>
      intro b q hb;refine⟨hb,hap b (.inr ⟨by rw[hb];simp,λe=>?_⟩)⟩;subst e;simp[g',G.P7]at hb
     |sh ks =>
      intro b hb;refine⟨hb,hap b (.inr ⟨?_,λe=>?_⟩)⟩
      ·rcases hb with hb |⟨j,_,p,hb⟩<;>rw[hb]<;>simp
      ·subst e;rcases hb with hb |⟨j,hj,p,hb⟩
       ·simp[g',G.P7]at hb
       ·simp[g',G.P7]at hb;have:=WR H (AF hs) hp (by rw[PH];intro j hj;cases hj) j hj;omega
  ·refine A9 (cs:=[_]) rfl ⟨by simp[AQ,Ar],rfl⟩ ?_;have:g'.AK σ.Ag.length=i:=Mf;simp[BV,AV.isAgg,this,i]
end
end Go.Va
namespace Go.Va
section
variable {P:Program} {w:World} {g:G} {bs:AyZ Blk}
theorem u6(w:World)(t tx ty e:TypeId)(i:TypeInfo)(ht:P.underlying t=some (.slice e))(hi:P.info? e=some i)
    (b UY kM:Nat) (Bh:Array Value) {e0:TypeId} (hg:w.heap[b]?=some (.cells Bh e0 (0,0))) (x:Value) (n:Nat) (EB:AyZ Value) (hs:Src P i.size tx x n EB w) (SR:UY+n<=kM) (Nc:UY*i.size+EB.length<=Bh.size) :
    (Builtin.append_ #[t,tx] ty #[.slice (some ⟨b,0,none⟩) UY kM,x]).run P w =
     .ok (.slice (some ⟨b,0,none⟩) (UY+n) kM) (w.setRow b (Bh.toList.take (UY*i.size)++EB++Bh.toList.drop (UY*i.size+EB.length)).toArray):=by
 have BG:=run_storeCells_at P b (UY*i.size) e0 EB 0 Bh w hg (by simpa using Nc) hs.one;simp only[Nat.add_zero]at BG;rcases hs.kind with ⟨e',hk⟩|hk<;>simp[Builtin.append_,run_underlying ht,run_underlying hk,sizeOf,typeInfo,hi,hs.len,SR,hs.cells,Addr.add_lit,BG]
theorem gT(w:World)(t tx ty e:TypeId)(i:TypeInfo)(ht:P.underlying t=some (.slice e))(hi:P.info? e=some i)(ad:Ay0 Addr)(x:Value)(EB:AyZ Value)(hs:Src P i.size tx x 0 EB w) :
    (Builtin.append_ #[t,tx] ty #[.slice ad 0 0,x]).run P w=.ok (.slice ad 0 0) w:=by
 have hn:EB=[]:=by
  have:=hs.newsLen;simpa using this
 subst hn;cases ad<;>rcases hs.kind with ⟨e',hk⟩|hk<;>simp[Builtin.append_,run_underlying ht,run_underlying hk,sizeOf,typeInfo,hi,hs.len,hs.cells,storeCells]
theorem jF(w:World)(t tx ty e:TypeId)(i:TypeInfo)(z:Value)(ht:P.underlying t=some (.slice e))(hi:P.info? e=some i)(hz:i.zero=some z)(ub:z.cells.size=i.size)(BB:0<i.size)
    {Pw:Nat->Prop} {Ek:Prop} {ad:Ay0 Addr} {len cap:Nat} {ds:AyZ Value} (hold:(len=0/\cap=0/\ds=[])\/∃b Bh e0,ad=some ⟨b,0,none⟩/\Pw b/\(w.heap[b]?=some (.cells Bh e0 (0,0))/\(Ek\/e0=e))/\len<=cap/\cap<=maxLen/\Bh.size=cap*i.size/\Bh.toList.take (len*i.size)=ds)
    {x:Value} {n:Nat} {EB:AyZ Value} (hs:Src P i.size tx x n EB w) (jf:i.bytes≠0) (Nc:(len+n)*i.bytes<=140737488355328) :
    ∃jd N5 w',(Builtin.append_ #[t,tx] ty #[.slice ad len cap,x]).run P w=.ok (.slice jd (len+n) N5) w'/\w'.os=w.os/\w'.tape=w.tape/\w'.output=w.output/\w.heap.size<=w'.heap.size /\
     ((len+n=0/\N5=0/\w'=w)\/∃b' Me e1,jd=some ⟨b',0,none⟩/\(w'.heap[b']?=some (.cells Me e1 (0,0))/\(Ek\/e1=e))/\len+n<=N5/\N5<=maxLen/\Me.size=N5*i.size/\Me.toList.take ((len+n)*i.size)=ds++EB /\
      ((∃Bh e0,ad=some ⟨b',0,none⟩/\Pw b'/\w.heap[b']?=some (.cells Bh e0 (0,0))/\w'=w.setRow b' Me)\/(b'=w.heap.size/\b'<w'.heap.size/\∀q,q<w.heap.size->w'.heap[q]?=w.heap[q]?))):=by
 have Ac8:len+n<=140737488355328:=AwD (AxU _ (AxG jf)) Nc;have h63:((len+n:Nat):Int)<=9223372036854775807:=by omega
 have hml:len+n<=maxLen:=by simp only[maxLen];omega
 have aP:ds.length=len*i.size:=by
  rcases hold with ⟨h1,h2,h3⟩|⟨b,Bh,e0,h1,_,h2,h3,h4,h5,h6⟩
  ·subst h1;subst h3;simp
  ·rw[<-h6,Awu,Aw4,h5];exact Nat.min_eq_left (Aw6 _ h3)
 by_cases SR:len+n<=cap
 ·rcases hold with ⟨rfl,rfl,rfl⟩|⟨b,Bh,e0,rfl,hpw,⟨hb,hek⟩,h3,h4,h5,h6⟩
  ·obtain rfl:n=0:=by omega
   exact⟨ad,0,w,gT w t tx ty e i ht hi ad x EB hs,rfl,rfl,rfl,Awf _,.inl ⟨rfl,rfl,rfl⟩⟩
  ·have TK:len*i.size+EB.length<=Bh.size:=by
     rw[hs.newsLen,h5,<-Axy];exact Aw6 _ SR
   refine⟨_,cap,_,u6 w t tx ty e i ht hi b len cap Bh hb x n EB hs SR TK,rfl,rfl,rfl,by simp,.inr ⟨b,_,e0,rfl,⟨setRow_heap w b Bh _ e0 (0,0) hb,hek⟩,SR,h4,?_,?_,.inl ⟨Bh,e0,rfl,hpw,hb,rfl⟩⟩⟩
   ·simp only[AxX,Awd,Awu,AwJ,Aw4];omega
   ·rw[List.toList_toArray,h6];have:(len+n)*i.size=(ds++EB).length:=by rw[Awd,aP,hs.newsLen,Axy]
    rw[this,AxP]
 ·have tq:cap<len+n:=by omega
  have holds:(Builtin.firstCells i.size len (.slice ad len cap)).run P w.drew=.ok ds.toArray w.drew:=by
   rcases hold with ⟨rfl,rfl,rfl⟩|⟨b,Bh,e0,rfl,hpw,⟨hb,hek⟩,h3,h4,h5,h6⟩
   ·cases ad with
    |none=>exact run_firstCells_none w.drew i.size 0 0 0
    |some a=>exact run_firstCells_some w.drew i.size 0 a 0 0 [] (by simp) (by simp)
   ·refine run_firstCells_some w.drew i.size len _ len cap ds aP λj u hu=>?_;rw[T4,AwF];show w.cell? ⟨b,j,none⟩=some u;rw[Mi hb,<-Awn];rw[<-h6,Aw9]at hu;split at hu
    ·exact hu
    ·cases hu
  have hr:=run_append_grow_src (P:=P) w t tx ty e i z ht hi hz ad len cap ds holds x n EB hs tq h63 (growslice_fits tq Nc);refine⟨_,_,_,hr,rfl,rfl,rfl,by simp,.inr ⟨w.heap.size,_,e,rfl,⟨heap_alloc_new w.drew _,.inr rfl⟩,grownCap_ge w _ cap e,grownCap_le_maxLen w _ cap e hml,?_,?_,.inr ⟨rfl,by simp,λq hq=>heap_alloc_old w.drew _ q hq⟩⟩⟩
  ·have jV:=grownCap_ge w (len+n) cap e;simp only[Array.size_append,AxX,Awd,size_zeroCells,ub,aP,hs.newsLen,<-Axy];congr 1;omega
  ·have:(len+n)*i.size=(ds++EB).length:=by rw[Awd,aP,hs.newsLen,Axy]
   rw[this,Array.toList_append,List.toList_toArray,AxP]
end
end Go.Va
namespace Go.Va
def Ub(w:World)(g:G)(t:Ty)(m:RM)(rs:AyZ Nat)(i:Nat)(x:t.V)(c:AyZ Value):Prop :=
 (t.Bu=true/\c=H5 t x)\/(∃ks,m=.sh ks/\FX w (Al g.own ks) t x c)\/∃j,rs=[j]/\OV w g.own j m t i x c
theorem Ub.len{w:World}{g:G}{t:Ty}{m:RM}{rs:AyZ Nat}{i:Nat}{x:t.V}{c:AyZ Value}(h:Ub w g t m rs i x c):c.length=t.size:=by
 rcases h with ⟨hf,rfl⟩|⟨ks,_,h⟩|⟨j,_,h⟩
 ·exact FX.len (w:=default) (A:=λ_=>True) ((FX.Bu hf).2 rfl)
 ·exact h.len
 ·exact h.len
theorem Ub.one{w:World}{g:G}{t:Ty}{m:RM}{rs:AyZ Nat}{i:Nat}{x:t.V}{c:AyZ Value}(h:Ub w g t m rs i x c):∀v∈c,v.oneCell'=true:=by
 rcases h with ⟨hf,rfl⟩|⟨ks,_,h⟩|⟨j,_,h⟩
 ·exact FX.one (w:=default) (A:=λ_=>True) ((FX.Bu hf).2 rfl)
 ·exact h.one
 ·cases m with
  |Ao=>exact Ht.one h
  |sh ks=>exact FX.one h
theorem OV.Bu{w:World}{own:Nat->Pp}{k:Nat}{m:RM}{t:Ty}{i:Nat}{x:t.V}{c:AyZ Value}(hf:t.Bu=true):OV w own k m t i x c↔c=H5 t x:=by
 cases m with
 |Ao=>exact Ht.Bu hf
 |sh ks=>exact FX.Bu hf
section
variable {P:Program} {w:World} {g:G} {bs:AyZ Blk}
theorem sr{ds:AyZ Value}{b:Nat}{Bh:Array Value}{el:TypeId}{fr:Nat×Nat}{n:Nat}(hh:w.heap[b]?=some (.cells Bh el fr))(h4:Bh.toList.take n=ds):∀j u,ds[j]?=some u->w.cell? ((⟨b,0,none⟩:Addr).add j)=some u:=by
 intro j u hu;rw[T4,AwF,Mi hh,<-Awn]
 grind
theorem vQ(H:A1 w g bs){t:Ty}{y:AV}{ys:AyZ t.V}{m:RM}{rs:AyZ Nat}(h:dW bs t y=some (ys,m,rs)){v:Value}(hv:BF w g bs.length y v){tx:TypeId}{WX:TI}(jk:Dy P tx WX)(hk:(WX.Da||WX.ty==.str)=true) :
    ∃EB,Src P t.size tx v ys.length EB w/\A5 (Ub w g t m rs) 0 ys EB/\(∀j∈m.BX,j<bs.length)/\(∀j∈rs,j<bs.length)/\(rs=[]\/∃j,rs=[j]):=by
 have tu:(∃e',P.underlying tx=some (.slice e'))\/P.underlying tx=some .string:=by
  rw[AxJ]at hk;rcases hk with hk |hk
  ·exact .inl ⟨_,Bf jk hk⟩
  ·exact .inr (NN jk (by grind))
 have AdE:∀(ad:Ay0 Addr) (c:Nat),Src P t.size tx (.slice ad 0 c) 0 [] w:=λad c =>
  ⟨tu,λ_=>rfl,by
   cases ad with
   |none=>exact run_firstCells_none w t.size 0 0 c
   |some a=>exact run_firstCells_some w t.size 0 a 0 c [] (by simp) (by simp),by
   cases ad with
   |none=>exact run_firstCells_none w.drew t.size 0 0 c
   |some a=>exact run_firstCells_some w.drew t.size 0 a 0 c [] (by simp) (by simp),by simp,λ_ h=>by grind⟩
 have vk:∀(a:Addr) (n c:Nat) (EB:AyZ Value),EB.length=n*t.size->(∀j u,EB[j]?=some u->w.cell? (a.add j)=some u)->(∀u∈EB,u.oneCell'=true)->Src P t.size tx (.slice (some a) n c) n EB w:=λa n c EB hl hn h1 =>
  ⟨tu,λ_=>rfl,run_firstCells_some w t.size n a n c EB hl hn,run_firstCells_some w.drew t.size n a n c EB hl (by simpa using hn),hl,h1⟩
 unfold dW at h;split at h
 ·obtain⟨rfl,rfl,rfl⟩:=h;obtain⟨ad,rfl⟩:=Sw hv;exact⟨[],AdE ad 0,rfl,λj hj=>by(cases hj),λj hj=>by grind,.inl rfl⟩
 ·rename_i ks u xs;split at h
  ·rename_i l hl;obtain⟨e',he⟩:=Bn hl;injection e' with e';subst e';subst he;obtain⟨rfl,rfl,rfl⟩:=h;obtain⟨tv,ad,cap,ds,rfl,Wz,hr,hm⟩:=Uz hv;have wN:A5 (Ub w g u (if u.Bu=true then RM.Ao else RM.sh ks) []) 0 xs ds:=by
    refine hr.toI λi x c h=>?_;cases hf:u.Bu with
    |true=>exact .inl ⟨hf,(FX.Bu hf).1 h⟩
    |false=>exact .inr (.inl ⟨ks,by simp,h⟩)
   refine⟨ds,?_,wN,λj hj=>?_,λj hj=>by grind,.inl rfl⟩
   ·rcases hm with rfl |⟨b,off,rfl,_,hc⟩
    ·cases hr;exact AdE ad cap
    ·exact vk _ _ _ _ (Ca.len (λx c h=>FX.len h) hr) (λj u hu=>by rw[T4];exact hc j u hu) (Ca.all (λx c h=>FX.one h) hr)
   ·cases hf:u.Bu with
    |true=>rw[hf]at hj;cases hj
    |false=>rw[hf]at hj;exact tv j hj
  ·grind
 ·rename_i ks s;split at h
  ·rename_i l hl;obtain⟨e',he⟩:=Bn hl;injection e' with e';subst e';subst he;obtain⟨rfl,rfl,rfl⟩:=h;obtain rfl:=Rn hv;refine⟨byteCells s,?_,?_,λj hj=>by(cases hj),λj hj=>by grind,.inl rfl⟩
   ·have e1:(s.data.toList.map λb=>(b.toNat:Int)).length=s.size:=by rw[Awl];rfl
    rw[e1];exact⟨tu,λ_=>rfl,firstCells_string s w,firstCells_string s w.drew,by rw[byteCells_length];exact(Nat.mul_one _).symm,λu hu=>by
     obtain⟨_,_,rfl⟩:=List.mem_map.1 hu;rfl⟩
   ·have:∀(l:AyZ UInt8) (i:Nat),A5 (Ub w g (.int .u8) .Ao []) i (l.map λb=>(b.toNat:Int)) (l.map λb=>Value.int .u8 b.toNat):=by
      intro l;induction l with
      |nil=>exact λ_=>rfl
      |cons b l ih=>exact λi=>⟨[_],_,rfl,.inl ⟨rfl,rfl⟩,ih (i+1)⟩
    exact this _ 0
  ·grind
 ·rename_i j;split at h
  ·rename_i el m1 u xs hb;split at h
   ·rename_i l hl;obtain⟨e',he⟩:=Bn hl;injection e' with e';subst e';subst he;obtain⟨rfl,rfl,rfl⟩:=h;obtain⟨hj,rfl⟩:=DV hv;obtain⟨Ng,hlen,Mg,BB,hr⟩:=H.Js j _ hb;rw[hlen];have Nf:∀j'∈(if u.Bu=true then RM.Ao else m1).BX,j'<bs.length:=λj' P5=>by
     split at P5
     ·cases P5
     ·grind
    have yJ:∀j'∈(if u.Bu=true then[]else[j]),j'<bs.length:=λj' P5=>by
     grind
    have hsh:(if u.Bu=true then[]else[j])=[]\/∃j',(if u.Bu=true then[]else[j])=[j']:=by
     grind
    rcases hr with ⟨rfl,DT⟩|⟨b,Bh,ds,ha,BW,⟨elq,_,hh⟩,h1,h2,h3,h4,Nb⟩
    ·rw[DT];exact⟨[],AdE _ 0,rfl,Nf,yJ,hsh⟩
    ·rw[ha];have wN:A5 (Ub w g u (if u.Bu=true then RM.Ao else m1) (if u.Bu=true then[]else[j])) 0 xs ds:=by
      refine(CQ.1 Nb).mono λi x c h=>?_;cases hf:u.Bu with
      |true=>exact .inl ⟨hf,(OV.Bu hf).1 h⟩
      |false=>exact .inr (.inr ⟨j,by simp,by grind⟩)
     exact⟨ds,vk _ _ _ _ (A5.len (λi x c h=>h.len) wN) (sr hh h4) (A5.all (λi x c h=>h.one) wN),wN,Nf,yJ,hsh⟩
   ·grind
  ·grind
 ·grind
def dM(off:Nat):AyZ Nat->AyZ Nat
 |[]=>[]
 |[i]=>[off+i]
 |a::b::r=>a::dM off (b::r)
theorem Xi(off i:Nat):∀(q:AyZ Nat),dM off (q++[i])=q++[off+i]
 |[]=>rfl
 |[a]=>rfl
 |a::b::q=>by
  have:=Xi off i (b::q);simp only[AxR]at this⊢;simp only[dM,this]
def jE(kk:Ay0 Nat)(n off:Nat)(m:RM)(rs:AyZ Nat)(j:Nat)(r:AyZ Nat):Pp :=
 if kk=some j then .Bs n r else if j∈rs then(match m with |.Ao=>.Bs n (dM off r)|.sh _=>.GH)else .Bs j r
theorem YJ{m m2 m':RM}(h:mA m m2=some m'):(∀j,j∈m'.BX↔j∈m.BX\/j∈m2.BX)/\(m=.Ao↔m'=.Ao)/\(m'=.Ao->m2=.Ao):=by
 cases m<;>cases m2<;>simp only[mA,Awb,reduceCtorEq]at h<;>subst h<;>simp[RM.BX]
end
section
variable {P:Program} {σ:St} {o:Oper} {en:Fe} {e:F1}
theorem Vk{w:World}{g:G}{bs:AyZ Blk}(H:A1 w g bs){t tx ty:TypeId}{ti te WX:TI}(ht:Dy P t ti)(C9:Dy P ti.elem te)(H7:ti.Da=true)(jk:Dy P tx WX)(wQ:(WX.Da||WX.ty==.str)=true)(LN:te.ty.row=true)(jf:te.bytes≠0)
    {er:Nat} (her:er=0\/er=ti.elem) {kk:Ay0 Nat} {m m2 m':RM} {xs ys:AyZ te.ty.V} {rs:AyZ Nat} {y:AV} (YH:dW bs te.ty y=some (ys,m2,rs)) {ad:Ay0 Addr} {cap:Nat}
    (hold:(xs=[]/\cap=0)\/∃k b Bh ds,kk=some k/\ad=some ⟨b,0,none⟩/\g.own b=.Bs k []/\Qc w b er Bh/\xs.length<=cap/\cap<=maxLen/\Bh.size=cap*te.ty.size/\Bh.toList.take (xs.length*te.ty.size)=ds/\nP w g.own k m te.ty xs ds)
    (QL:∀k,kk=some k->k∉rs/\k∉m'.BX/\k<bs.length) (Nf:∀j∈m.BX,j∈m'.BX/\j<bs.length) (ZR:xs≠[]->(m=.Ao↔m'=.Ao)) (hj:(∀j∈m2.BX,j∈m'.BX)/\(m'=.Ao->m2=.Ao)) (AqG:∀j∈m'.BX,j<bs.length) (Mn:∀j∈m'.BX,j∉rs)
    (Nc:(xs.length+ys.length)*te.bytes<=140737488355328) {v:Value} (hv:BF w g bs.length y v) {NR:AyZ Blk} (AcT:NR.length=bs.length) (Q3:∀(j:Nat) (x:Blk),NR[j]?=some x->x=.Be\/(j∉kk.toList++rs/\∃y,bs[j]?=some y/\x=y.drop λi=>(kk.toList++rs).contains i)) :
    ∃r w' g',(Builtin.append_ #[t,tx] ty #[.slice ad xs.length cap,v]).run P w=.ok r w'/\A1 w' g' (NR++[.row er m' te.ty (xs++ys)])/\BF w' g' (bs.length+1) (.AA bs.length) r/\Step (kk.toList++rs) bs.length w g w' g':=by
 obtain⟨YA,BB⟩:=Zb LN;obtain⟨i,z,hi,J9,hbi,hz,aU,_⟩:=C9.info;obtain⟨EB,hs,RX,P6,AqY,AuY⟩:=vQ H YH hv jk wQ;have hu:=Bf ht H7;have ub:z.cells.size=i.size:=by rw[<-Aw4,aU,NQ,J9]
 let n:=bs.length
 let f:=jE kk n xs.length m' rs
 obtain ⟨ds,tK,tL⟩:∃ds,((xs.length=0/\cap=0/\ds=[])\/∃b Bh e0,ad=some ⟨b,0,none⟩/\(∃k,kk=some k/\g.own b=.Bs k [])/\(w.heap[b]?=some (.cells Bh e0 (0,0))/\(er=0\/e0=ti.elem))/\xs.length<=cap/\cap<=maxLen/\Bh.size=cap*i.size/\Bh.toList.take (xs.length*i.size)=ds) /\
     ((xs=[]/\ds=[])\/∃k,kk=some k/\nP w g.own k m te.ty xs ds):=by
  rcases hold with ⟨rfl,rfl⟩|⟨k,b,Bh,ds,h1,h2,h3,⟨e0,he0,h4⟩,h5,h6,h7,h8,h9⟩
  ·exact⟨[],.inl ⟨rfl,rfl,rfl⟩,.inl ⟨rfl,rfl⟩⟩
  ·exact⟨ds,.inr ⟨b,Bh,e0,h2,⟨k,h1,h3⟩,⟨h4,by rcases he0 with h |h;exact .inl h;exact her.imp id λh'=>h.trans h'⟩,h5,h6,by rw[J9];exact h7,by rw[J9];exact h8⟩,.inr ⟨k,h1,h9⟩⟩
 obtain⟨jd,N5,w',C5,hos,hta,hou,LX,VH⟩:=jF (P:=P) w t tx ty ti.elem i z hu hi hz ub (by rw[J9];exact BB) tK (by rw[J9];exact hs) (by rw[hbi];exact jf) (by rw[hbi];exact Nc)
 let i':BI:=⟨jd,xs.length+ys.length,N5,te.ty.size⟩
 have lt:∀b,g.own b≠.no->b<w.heap.size:=λb h=>Pz H h;obtain ⟨ob,jX,Qj,hh,Nl⟩:∃ob:Ay0 Nat,(∀q,ob=some q->w.heap.size<=q/\q<w'.heap.size) /\
     (∀q,q<w.heap.size->(∀k p,g.own q=.Bs k p->k∉kk.toList++rs)->w'.heap[q]?=w.heap[q]?) /\
     (∀b,(g.own b=.GH\/∃j r,g.own b=.Bs j r/\(kk≠some j\/r≠[]))->w'.heap[b]?=w.heap[b]?) /\
     ((xs++ys=[]/\N5=0)\/∃b' Me,jd=some ⟨b',0,none⟩/\Qc w' b' er Me/\xs.length+ys.length<=N5/\N5<=maxLen/\Me.size=N5*te.ty.size/\Me.toList.take ((xs.length+ys.length)*te.ty.size)=ds++EB/\(g.P7 f ob n i').own b'=.Bs n []):=by
  rcases VH with ⟨h0,DT,rfl⟩|⟨b',Me,e1,h1,⟨h2,he1⟩,h3,h4,h5,h6,h7⟩
  ·refine⟨none,λq h=>by(cases h),λq _ _=>rfl,λb _=>rfl,.inl ⟨?_,DT⟩⟩;apply Aw3;rw[Awd];omega
  ·rw[J9]at h5 h6;have h2:Qc w' b' er Me:=⟨e1,by rcases her with h |h;exact .inl h;exact he1.imp id λh'=>h'.trans h.symm,h2⟩;rcases h7 with ⟨Bh,e0,_,⟨k,hk,BW⟩,hb,rfl⟩|⟨rfl,Cw,hkp⟩
   ·have RY:∀b,(g.own b=.GH\/∃j r,g.own b=.Bs j r/\(kk≠some j\/r≠[]))->b≠b':=λb hq e=>by
      subst e;rcases hq with hq |⟨j,r,hq,hj⟩
      ·rw[BW]at hq;cases hq
      ·rw[BW]at hq;injection hq with e1 e2;subst e1;subst e2;rcases hj with hj |hj
       ·exact hj hk
       ·exact hj rfl
    refine⟨none,λq h=>by(cases h),YK BW (by simp[hk]),λb hb=>setRow_other w b' b Me (RY b hb),.inr ⟨b',Me,h1,h2,h3,h4,h5,h6,?_⟩⟩;rw[Gv (by simp) BW];simp[f,jE,hk]
   ·refine⟨some w.heap.size,λq h=>by injection h with h;subst h;exact⟨Awf _,Cw⟩,λq hq _=>hkp q hq,λb hb=>hkp b (lt b ?_),.inr ⟨_,Me,h1,h2,h3,h4,h5,h6,by simp[G.P7]⟩⟩;rcases hb with hb |⟨j,r,hb,_⟩<;>rw[hb]<;>simp
 let g':=g.P7 f ob n i'
 have Qp:∀b j r,g.own b=.Bs j r->g'.own b=f j r:=λb j r h=>Gv (λe=>by
  have h1:=(jX b e).1;have h2:=lt b (by rw[h];simp);omega) h
 have VQ:∀b,g.own b=.GH->g'.own b=.GH:=λb h=>Qs (λe=>by
  have h1:=(jX b e).1;have h2:=lt b (by rw[h];simp);omega) h
 have st:Step (kk.toList++rs) n w g w' g':=Step.P7 H.Bz hos hta hou LX Qj (λq h=>(jX q h).1) (Awf _) λj r _ hm=>by
  have h1:kk≠some j:=λe=>hm (by simp[e]);have h2:j∉rs:=λe=>hm (by simp[e]);simp[f,jE,h1,h2]
 have sR:∀j r,j∈m'.BX->f j r=.Bs j r:=λj r hj=>by
  have h1:kk≠some j:=λe=>(QL j e).2.1 hj;simp[f,jE,h1,Mn j hj]
 have AaZ:∀(k i:Nat) (x:te.ty.V) (c:AyZ Value),kk=some k->xs≠[]->OV w g.own k m te.ty i x c->OV w' g'.own n m' te.ty i x c:=by
  intro k i x c hk RY RX;refine RX.on ?_;have hd:=ZR RY;cases m with
  |Ao =>
   have:m'=.Ao:=hd.1 rfl;subst this;intro b q hb;exact⟨by rw[Qp b k _ hb];simp[f,jE,hk],hh b (.inr ⟨k,_,hb,.inr (by simp)⟩)⟩
  |sh ks =>
   cases m' with
   |Ao=>have:=hd.2 rfl;cases this
   |sh Uj =>
    intro b hb;rcases hb with hb |⟨j,hj,r,hb⟩
    ·exact⟨.inl (VQ b hb),hh b (.inl hb)⟩
    ·have gj:j∈Uj:=(Nf j hj).1;exact⟨.inr ⟨j,gj,r,by rw[Qp b j r hb];exact sR j r gj⟩,hh b (.inr ⟨j,r,hb,.inl λe=>(QL j e).2.1 gj⟩)⟩
 have AnT:∀(i:Nat) (x:te.ty.V) (c:AyZ Value),Ub w g te.ty m2 rs i x c->OV w' g'.own n m' te.ty (xs.length+i) x c:=by
  intro i x c RX;rcases RX with ⟨hf,rfl⟩|⟨ks,rfl,hr⟩|⟨j,hrj,hr⟩
  ·exact(OV.Bu hf).2 rfl
  ·cases m' with
   |Ao=>have:=hj.2 rfl;cases this
   |sh Uj =>
    refine FX.mono (λb hb=>?_) hr;rcases hb with hb |⟨j,ZG,r,hb⟩
    ·exact⟨.inl (VQ b hb),hh b (.inl hb)⟩
    ·have gj:j∈Uj:=hj.1 j ZG;exact⟨.inr ⟨j,gj,r,by rw[Qp b j r hb];exact sR j r gj⟩,hh b (.inr ⟨j,r,hb,.inl λe=>(QL j e).2.1 gj⟩)⟩
  ·have ZG:kk≠some j:=λe=>(QL j e).1 (by simp[hrj]);have cP:j∈rs:=by simp[hrj]
   refine hr.on ?_;cases m2 with
   |Ao =>
    cases m' with
    |Ao =>
     intro b q hb;refine⟨?_,hh b (.inr ⟨j,_,hb,.inl ZG⟩)⟩;rw[Qp b j _ hb];simp only[f,jE,Aws ZG,Awr cP,Xi]
    |sh Uj =>
     intro b q hb;exact⟨.inl (by rw[Qp b j _ hb];simp only[f,jE,Aws ZG,Awr cP]),hh b (.inr ⟨j,_,hb,.inl ZG⟩)⟩
   |sh ks =>
    cases m' with
    |Ao=>have:=hj.2 rfl;cases this
    |sh Uj =>
     intro b hb;rcases hb with hb |⟨j',AqA,r,hb⟩
     ·exact⟨.inl (VQ b hb),hh b (.inl hb)⟩
     ·have gj:j'∈Uj:=hj.1 j' AqA;exact⟨.inr ⟨j',gj,r,by rw[Qp b j' r hb];exact sR j' r gj⟩,hh b (.inr ⟨j',r,hb,.inl λe=>(QL j' e).2.1 gj⟩)⟩
 have Mf:g'.AK n=i':=by simp[g',G.P7]
 refine⟨_,w',g',C5,H.U5 st (J8 H.Bz LX λq h=>(jX q h).2) (by simp[AcT]) λj x P5=>?_,?_,st⟩
 ·rw[Awz]at P5;split at P5
  ·rcases Q3 j x P5 with h |h
   ·exact .inl h
   ·exact .inr (.inl h)
  ·rename_i hlen;rw[AcT]at P5 hlen;have aR:j-bs.length=0:=by
    rcases Awx (j-bs.length)with h |h
    ·exact h
    ·rw[AwN (by simp;omega)]at P5;cases P5
   rw[aR]at P5;obtain rfl:j=n:=by simp only[n];omega
   simp only[List.getElem?_cons_zero,Awb]at P5;subst P5;refine .inr (.inr ⟨λj hj=>by have:=AqG j hj;simp[AcT];omega,by rw[Mf,Awd],by rw[Mf],BB,?_⟩);rw[Mf,Awd];refine Nl.imp id λ⟨b',Me,h1,h2,h3,h4,h5,h6,h7⟩=>⟨b',Me,_,h1,h7,h2,h3,h4,h5,h6,?_⟩;rw[CQ];refine A5.append ?_ ?_
   ·rcases tL with ⟨rfl,rfl⟩|⟨k,hk,Nb⟩
    ·rfl
    ·rcases Classical.em (xs=[])with hx |hx
     ·subst hx;have:ds=[]:=by cases m<;>exact Nb
      subst this;rfl
     ·exact(CQ.1 Nb).mono λi x c h=>AaZ k i x c hk hx h
   ·rw[AwF];have shift:∀(ys:AyZ te.ty.V) (cs:AyZ Value) (a b:Nat),A5 (Ub w g te.ty m2 rs) a ys cs->A5 (OV w' g'.own n m' te.ty) (xs.length+a) ys cs:=by
     intro ys;induction ys with
     |nil=>exact λcs a _ h=>h
     |cons y ys ih =>
      intro cs a b ⟨c,d,e,h1,h2⟩;exact⟨c,d,e,AnT a y c h1,ih d (a+1) b h2⟩
    exact shift ys EB 0 0 RX
 ·refine A9 (cs:=[_]) rfl ⟨AwP _,rfl⟩ ?_;have:g'.AK bs.length=i':=Mf;simp[BV,AV.isAgg,this,i']
end
end Go.Va
namespace Go.Va
section
variable {P:Program} {σ:St} {o:Oper} {en:Fe} {e:F1} {fi:FI}
theorem lF{c:Call}{x y:AV}(h:LP σ c.args=[x,y]):∃a b,c.args=#[a,b]/\σ.BP a=x/\σ.BP b=y:=by
 unfold LP at h;cases hc:c.args with
 |mk l =>
  rw[hc]at h
  match l,h with
  |[a,b],h =>
   grind
  |[],h=>grind
  |[_],h=>grind
  |_::_::_::_,h=>grind
theorem ru{c:Call}{x:AV}(h:LP σ c.args=[x]):∃a,c.args=#[a]/\σ.BP a=x:=by
 unfold LP at h;cases hc:c.args with
 |mk l =>
  rw[hc]at h
  match l,h with
  |[a],h =>
   grind
  |[],h=>grind
  |_::_::_,h=>grind
theorem k9{ts:Array TypeId}{t u:TypeId}(h:ts.toList=[t,u]):ts=#[t,u]:=by grind
theorem HB{c:Call}(ho:o.op=.call c){b:Builtin}(hc:c.callee=.builtin b)(ρ:Operand->Value) :
    execOp ρ o=builtin b c.argTypes o.type (c.args.map λ|.const _=>true |_=>false) (c.args.map ρ):=by
 simp only[execOp,ho,resolve,hc];rfl
theorem zy{c:Call}(ho:o.op=.call c)(hc:c.callee=.builtin .len){x:AV}(hx:LP σ c.args=[x]){t:TypeId}{r:AyZ TypeId}(Qk:c.argTypes.toList=t::r){ti:TI}(ht:Dy P t ti){z:AV}(h:dp σ.Ag ti x some=some z):KO P σ o ⟨z,σ.Ag,[]⟩:=by
 obtain⟨a0,ha,rfl⟩:=ru hx;refine .GI <| IQ (s:=λρ=>Builtin.len_ c.argTypes o.type #[ρ a0]) (λρ=>?_) λa w g hs=>?_
 ·rw[HB ho hc,ha];simp[builtin]
 ·obtain⟨z',e,hG⟩:=y8 (n:=σ.Ag.length) hs.heap ht h (AF hs a0) o.type _ (by rw[<-Awn,Qk];rfl)
  grind
theorem vB{c:Call}(ho:o.op=.call c){mx:Bool}(hc:c.callee=.builtin (if mx then .max else .min)){x y:AV}(hx:LP σ c.args=[x,y]){z:AV}(h:qq mx x y some=some z):KO P σ o ⟨z,σ.Ag,[]⟩:=by
 obtain⟨a0,a1,ha,rfl,rfl⟩:=lF hx;refine .GI <| IQ (s:=λρ=>if mx then Builtin.max_ c.argTypes o.type #[ρ a0,ρ a1]else Builtin.min_ c.argTypes o.type #[ρ a0,ρ a1]) (λρ=>?_) λa w g hs=>?_
 ·rw[HB ho hc,ha];cases mx<;>simp[builtin]
 ·obtain⟨z',e,hG⟩:=AdB  h (AF hs a0) (AF hs a1) _ _;injection e with e;subst e;exact hG
theorem vP{w:World}{g:G}{bs:AyZ Blk}(H:A1 w g bs){t:Ty}{y:AV}{ys:AyZ t.V}{m:RM}{rs:AyZ Nat}(h:dW bs t y=some (ys,m,rs)){v:Value}(hv:BF w g bs.length y v):(∀j∈m.BX,j<bs.length):=by
 unfold dW at h;split at h
 ·obtain⟨rfl,rfl,rfl⟩:=h;intro j hj;cases hj
 ·split at h
  ·obtain⟨rfl,rfl,rfl⟩:=h;intro j hj;split at hj
   ·cases hj
   ·exact(Uz hv).1 j hj
  ·grind
 ·split at h
  ·obtain⟨rfl,rfl,rfl⟩:=h;intro j hj;cases hj
  ·grind
 ·rename_i k;split at h
  ·rename_i el m1 u xs hb;split at h
   ·obtain⟨rfl,rfl,rfl⟩:=h;intro j hj;split at hj
    ·cases hj
    ·exact(H.Js k _ hb).1 j hj
   ·grind
  ·grind
 ·grind
theorem kP{c:Call}(ho:o.op=.call c)(hc:c.callee=.builtin .append){x y:AV}(hx:LP σ c.args=[x,y]){t tx:TypeId}(Qk:c.argTypes.toList=[t,tx]){ti te WX:TI}(ht:Dy P t ti)(C9:Dy P ti.elem te)(H7:ti.Da=true)(jk:Dy P tx WX)(wQ:(WX.Da||WX.ty==.str)=true)
    (h:Tm fi σ.Ag ti.elem te x y some=some e):KO P σ o e:=by
 obtain⟨a0,a1,ha,rfl,rfl⟩:=lF hx;have C5:∀(a:Act) (w:World) (r:Value) (w':World),(Builtin.append_ #[t,tx] o.type #[a.eval a0,a.eval a1]).run P w=.ok r w'->(execOp a.eval o).run P w=.ok (.value r) w':=by
  intro a w r w' hr;rw[HB ho hc,ha,k9 Qk];simp[builtin,hr]
 have Sl:∀(FQ:AyZ Blk) (Bg:AyZ Nat),σ.Ag.length+1=FQ.length->(Bg=[]->∃l,FQ=σ.Ag++l) ->
     (∀(a:Act) (w:World) (g:G),Ip w g σ a->∃r w' g',(Builtin.append_ #[t,tx] o.type #[a.eval a0,a.eval a1]).run P w=.ok r w'/\A1 w' g' FQ/\BF w' g' (σ.Ag.length+1) (.AA σ.Ag.length) r/\Step Bg σ.Ag.length w g w' g')->KO P σ o ⟨.AA σ.Ag.length,FQ,Bg⟩:=by
  intro FQ Bg hl hm hh;refine⟨by show σ.Ag.length<=FQ.length;omega,hm,λa w g hs next Q hn=>?_⟩
  obtain⟨r,w',g',hr,hH,hv,BG⟩:=hh a w g hs;unfold Oper.wp;rw[C5 a w r w' hr];exact hn r w' g' hH (by show BF w' g' FQ.length _ _;rw[<-hl];exact hv) BG
 have hlen:∀(Bg l:AyZ Nat),(Blk.Eu (A0 Bg σ.Ag) l).length=σ.Ag.length:=λBg l=>by rw[AQ,Ar]
 unfold Tm at h;split at h
 ·rename_i ub;split at h
  ·cases h
  ·rename_i jZ;have Vb:(te.ty.row&&te.bytes !=0)=true:=by simpa using jZ
   rw[Awg]at Vb;have jf:te.bytes≠0:=by simpa using Vb.2
   split at h
   ·rename_i ys m2 rs YH;split at h
    ·rename_i m' hj;split at h
     ·rename_i Mn;split at h
      ·rename_i Nc;injection h with h;subst h;refine Sl _ _ (by rw[Awd,hlen];rfl) (λh=>⟨[.row ti.elem m' te.ty ys],by have h:rs=[]:=h;rw[h];rfl⟩) λa w g hs=>?_;have ql:=AF hs a0;rw[ub]at ql;obtain⟨ad,ql⟩:=Sw ql;rw[ql];have SS:(∀j∈m'.BX,j∈m2.BX)/\(∀j∈m2.BX,j∈m'.BX)/\(m'=.Ao->m2=.Ao):=by
        obtain⟨h1,h2,h3⟩:=YJ hj;refine⟨λj hj=>?_,λj hj=>(h1 j).2 (.inr hj),h3⟩;rcases(h1 j).1 hj with h |h
        ·cases m2 with
         |Ao=>rw[PH]at h;cases h
         |sh ks=>exact h
        ·exact h
       have:=Vk (er:=ti.elem) (her:=.inr rfl) (kk:=none) (m:=.Ao) (xs:=([]:AyZ te.ty.V)) (cap:=0) (ad:=ad) (m':=m') (NR:=Blk.Eu (A0 rs σ.Ag) rs) (ty:=o.type) hs.heap ht C9 H7 jk wQ Vb.1 jf YH (.inl ⟨rfl,rfl⟩) (λk hk=>by cases hk) (λj hj=>by cases hj) (λh=>(h rfl).elim) SS.2
        (λj hj=>vP hs.heap YH (AF hs a1) j (SS.1 j hj)) (Ra Mn) (by simpa using Nc) (AF hs a1) (hlen rs rs) (λj x hx=>by
         rcases Ha hx with h |⟨cP,h⟩
         ·exact .inl h
         ·obtain⟨y',QB,rfl⟩:=CF h;exact .inr ⟨by simpa using cP,y',QB,rfl⟩)
       simpa using this
      ·cases h
     ·cases h
    ·cases h
   ·cases h
 ·rename_i k hk;split at h
  ·cases h
  ·rename_i jZ;have Vb:(te.ty.row&&te.bytes !=0)=true:=by simpa using jZ
   rw[Awg]at Vb;have jf:te.bytes≠0:=by simpa using Vb.2
   split at h
   ·rename_i e' m t' xs0 ys m2 rs hb YH;split at h
    ·rename_i xs m' ga hj;split at h
     ·rename_i gb;split at h
      ·rename_i Nc;injection h with h;subst h;obtain⟨he,hrk,Mn⟩:=gb;obtain⟨ec,hec⟩:=Bn ga;injection ec with ec;subst ec;simp only at hec;subst hec;have jW:k∉rs:=by simpa using hrk
       have RZ:=Ra Mn;refine Sl _ _ (by rw[Awd,hlen];rfl) (λh=>by cases h) λa w g hs=>?_;have ql:=AF hs a0;rw[hk]at ql;obtain⟨ZS,ql⟩:=DV ql;obtain⟨Ng,hl,Mg,BB,hrr⟩:=hs.heap.Js k _ hb;rw[ql,hl];obtain⟨h1,h2,h3⟩:=YJ hj;have P6:=vP hs.heap YH (AF hs a1);have:=Vk (er:=e') (her:=he.symm.imp id λh=>h.1.symm) (kk:=some k) (m:=m) (xs:=xs0) (ad:=(g.AK k).a) (cap:=(g.AK k).cap) (m':=m') (NR:=Blk.Eu (A0 (k::rs) σ.Ag) (k::rs)) (ty:=o.type) hs.heap ht C9 H7 jk wQ Vb.1 jf YH
        (hrr.imp id λ⟨b,Bh,ds,p1,p2,p3,p4,p5,p6,p7,p8⟩=>⟨k,b,Bh,ds,rfl,p1,p2,p3,p4,p5,p6,p7,p8⟩)
        (λk' YC=>by injection YC with YC;subst YC;exact⟨jW,λh=>RZ k h (by simp),ZS⟩) (λj hj=>⟨(h1 j).2 (.inl hj),Ng j hj⟩) (λ_=>h2) ⟨λj hj=>(h1 j).2 (.inr hj),h3⟩
        (λj hj=>by rcases(h1 j).1 hj with h |h;exact Ng j h;exact P6 j h) (λj hj h=>RZ j hj (AwB _ h)) Nc (AF hs a1) (hlen (k::rs) (k::rs)) (λj x hx=>by
         rcases Ha hx with h |⟨cP,h⟩
         ·exact .inl h
         ·obtain⟨y',QB,rfl⟩:=CF h;exact .inr ⟨by simpa using cP,y',QB,rfl⟩)
       simpa using this
      ·cases h
     ·cases h
    ·cases h
   ·cases h
 ·cases h
theorem zu{t:TypeId}{x:Operand}{hi:Ay0 Operand}(ho:o.op=.slice t x none hi none){ti:TI}(ht:Dy P t ti)(H7:ti.Da=true){te:TI}(C9:Dy P ti.elem te)
    (h:oi te.ty σ.Ag (σ.BP x) (hi.map σ.BP) some=some e):KO P σ o e:=by
 unfold oi at h;split at h
 ·rename_i k ks kk hv hx hh;split at h
  ·rename_i el m tr xs hb;split at h
   ·rename_i Mn;obtain⟨Mn,oN⟩:=Mn;subst oN;split at h
    ·rename_i hc;injection h with h;subst h;obtain⟨h0,h1⟩:=hc;refine⟨by simp[AQ,Ar],λh=>by(cases h),λa w g hs next Q hn=>?_⟩
     have H:=hs.heap;have my:=AF hs x;rw[hx]at my;obtain⟨hk,j8⟩:=DV my;obtain⟨Ng,hlen,Mg,BB,hr⟩:=H.Js k _ hb;have mb:=TN hs hi;rw[hh]at mb;obtain⟨cY,hve⟩:∃v,hi.map a.eval=some v/\v=.int kk hv:=by
      cases hq:hi.map a.eval with
      |none=>rw[hq]at mb;exact mb.elim
      |some v=>rw[hq]at mb;exact⟨v,rfl,CH mb⟩
     obtain⟨Arh,Aob⟩:=hve;subst Aob;have Wz:(g.AK k).len<=(g.AK k).cap:=by
      rw[hlen];rcases hr with ⟨rfl,DT⟩|⟨b,Bh,ds,_,_,_,h1,_⟩
      ·simp
      ·exact h1
     have l7:(if(g.AK k).cap=0 then(g.AK k).a else(g.AK k).a.map (·.add (0*te.ty.size)))=(g.AK k).a:=by
      split
      ·rfl
      ·rename_i DT;rcases hr with ⟨_,G3⟩|⟨b,Bh,ds,ha,_⟩
       ·exact(DT G3).elim
       ·rw[ha];simp[T4]
     have C5:(execOp a.eval o).run P w=.ok (.value (.slice (g.AK k).a hv.toNat (g.AK k).cap)) w:=by
      have fY:=Nr (P:=P) (w:=w) (isS:=true) (len:=(g.AK k).len) (cap:=(g.AK k).cap) (lo:=none) (hi:=some (.int kk hv)) (l:=0) (h:=hv) (.inl ⟨rfl,rfl⟩) (.inr ⟨kk,rfl⟩) (AxO _) h0 (by rw[hlen];exact h1) Wz;have:(Instr.sliceAt t (.slice (g.AK k).a (g.AK k).len (g.AK k).cap) none (some (.int kk hv)) none).run P w=.ok (.slice (g.AK k).a hv.toNat (g.AK k).cap) w:=by
       rw[Io ht H7];simp[Instr.slice,underlying,Bf ht H7,fY,CR C9];simpa using l7
      simp[execOp,ho,j8,Arh,this]
     unfold Oper.wp;rw[C5]
     let n:=σ.Ag.length
     let i':BI:=⟨(g.AK k).a,hv.toNat,(g.AK k).cap,te.ty.size⟩
     let f:Nat->AyZ Nat->Pp:=λj r=>if j=k then .Bs n r else .Bs j r
     let g':=g.P7 f none n i'
     have st:Step [k] n w g w g':=Step.P7 H.Bz rfl rfl rfl (Awf _) (λ_ _ _=>rfl) (λq h=>by cases h) (Awf _) λj r _ hm=>by
      simp only[AwA]at hm;simp[f,hm]
     have Mf:g'.AK n=i':=by simp[g',G.P7]
     have hvl:hv.toNat<=xs.length:=by have h1':(hv:Int)<=(xs.length:Int):=h1;exact Int.toNat_le.2 h1'
     have RZ:=Ra Mn;refine hn _ w g' (H.U5 st (J8 H.Bz (Awf _) λq h=>by cases h) (by simp[AQ,Ar]) λj y hj=>?_) ?_ st
     ·rw[Awz]at hj;split at hj
      ·rcases Ha hj with h |⟨cP,h⟩
       ·exact .inl h
       ·obtain⟨y',QB,rfl⟩:=CF h;exact .inr (.inl ⟨cP,y',QB,rfl⟩)
      ·rename_i Cw;rw[AQ,Ar]at hj Cw;have aR:j-σ.Ag.length=0:=by
        rcases Awx (j-σ.Ag.length)with h |h
        ·exact h
        ·rw[AwN (by simp;omega)]at hj;cases hj
       rw[aR]at hj;obtain rfl:j=n:=by simp only[n];omega
       simp only[List.getElem?_cons_zero,Awb]at hj;subst hj;refine .inr (.inr ⟨λj hj=>by have:=Ng j hj;simp[AQ,Ar];omega,by rw[Mf,Awu];simp only[i'];omega,by rw[Mf],BB,?_⟩);rw[Mf];rcases hr with ⟨rfl,DT⟩|⟨b,Bh,ds,ha,BW,tg,p1,p2,p3,p4,Nb⟩
       ·exact .inl ⟨by simp,DT⟩
       ·refine .inr ⟨b,Bh,ds.take (hv.toNat*te.ty.size),ha,by rw[Gv (by simp) BW];simp[f],tg,by rw[Awu];simp only[i'];omega,p2,p3,?_,?_⟩
        ·rw[Awu,Nat.min_eq_left hvl,<-p4,List.take_take,Nat.min_eq_left (Aw6 _ hvl)]
        ·rw[CQ];refine(A5.takeN (λi x c h=>OV.len h) hv.toNat (CQ.1 Nb)).mono λi x c RX=>RX.on ?_;cases m with
         |Ao=>exact λb q hb=>⟨by rw[Gv (by simp) hb];simp[f],rfl⟩
         |sh ks =>
          intro b hb;rcases hb with hb |⟨j,hj,r,hb⟩
          ·exact⟨.inl (Qs (by simp) hb),rfl⟩
          ·refine⟨.inr ⟨j,hj,r,?_⟩,rfl⟩;have:j≠k:=λe=>RZ j hj (by simp[e]);rw[Gv (by simp) hb];simp[f,this]
     ·refine A9 (cs:=[_]) rfl ⟨by simp[AQ,Ar],rfl⟩ ?_;have:g'.AK σ.Ag.length=i':=Mf;simp[BV,AV.isAgg,this,i']
    ·cases h
   ·cases h
  ·cases h
 ·cases h
theorem qd(w:World)(t tx ty e:TypeId)(i:TypeInfo)(z:Value)(ht:P.underlying t=some (.slice e)){k':IntKind}(hk:P.underlying tx=some (.int k'))(hi:P.info? e=some i)(hz:i.zero=some z)(ad:Ay0 Addr)(k:IntKind)(l:Int)(h0:0<=l)(Nc:l*(i.bytes:Int)<=140737488355328)(hb:i.bytes≠0)(hs:i.size≠0) :
    (l=0/\(Builtin.append_ #[t,tx] ty #[.slice ad 0 0,.int k l]).run P w=.ok (.slice ad 0 0) w)\/(0<l /\
     (Builtin.append_ #[t,tx] ty #[.slice ad 0 0,.int k l]).run P w=.ok (.slice (some ⟨w.heap.size,0,none⟩) l.toNat (grownCap w l.toNat 0 e)) (w.drew.alloc (.cells (Builtin.zeroCells z.cells l.toNat++Builtin.zeroCells z.cells (grownCap w l.toNat 0 e-l.toNat)) e))):=by
 have TK:l<=140737488355328:=by
  have h1:(1:Int)<=(i.bytes:Int):=by omega
  have:=AxB h1 h0;omega
 have hw:IntKind.i64.wrap l=l:=by rw[IntKind.wrap_i64];omega
 have n1:¬l<0:=by omega
 have n2:¬(281474976710656<l*(i.bytes:Int)):=by omega
 rcases Int.le_iff_lt_or_eq.1 h0 with hp |hp
 ·refine .inr ⟨hp,?_⟩;have hn:¬(l.toNat=0):=by omega
  have yH:¬(l<=0):=by omega
  have hns:¬(l.toNat*i.size=0):=λh=>by rcases Nat.mul_eq_zero.1 h with h |h;exact hn h;exact hs h
  have h48:¬(281474976710656<Builtin.nextslicecap l.toNat 0*i.bytes):=by
   unfold Builtin.nextslicecap;rw[Awr (by omega)];have:((l.toNat*i.bytes:Nat):Int)=l*(i.bytes:Int):=by rw[Int.natCast_mul,Int.toNat_of_nonneg h0]
   omega
  have h63:¬(9223372036854775807<max l 0):=by omega
  have hf:(Builtin.firstCells i.size 0 (.slice ad 0 0)).run P w.drew=.ok #[] w.drew:=by
   cases ad with
   |none=>exact run_firstCells_none w.drew i.size 0 0 0
   |some a=>exact run_firstCells_some w.drew i.size 0 a 0 0 [] (by simp) (by simp)
  simp[Builtin.append_,run_underlying ht,run_underlying hk,sizeOf,typeInfo,zeroValue,asInt,asIntOf,hi,hz,hw,n1,n2,yH,h63,h48,hns,Question.forced,hf,newRow,grownCap]
 ·subst hp;refine .inl ⟨rfl,?_⟩;cases ad<;>simp[Builtin.append_,run_underlying ht,run_underlying hk,sizeOf,typeInfo,asInt,asIntOf,hi,IntKind.wrap_i64,storeCells]
theorem qc(l:Int)(b:Nat)(h0:0<=l)(h:l*(b:Int)<=140737488355328)(hb:b≠0):l.toNat<=maxLen:=by
 have h1:1<=(b:Int):=by omega
 have:=AxB h1 h0;simp only[maxLen];omega
theorem bU(z:Array Value)(n:Nat):Builtin.zeroCells z n=madeCells z (n*z.size):=rfl
theorem iu{c:Call}(ho:o.op=.call c)(hc:c.callee=.builtin .append){x y:AV}(hx:LP σ c.args=[x,y]){t tx:TypeId}(Qk:c.argTypes.toList=[t,tx]){ti te WX:TI}(ht:Dy P t ti)(C9:Dy P ti.elem te)(H7:ti.Da=true)(jk:Dy P tx WX)(wQ:WX.ty.isInt=true)
    (h:Tn fi σ.Ag ti.elem te x y some=some e):KO P σ o e:=by
 obtain⟨a0,a1,ha,Ug,YI⟩:=lF hx;obtain⟨k',YC⟩:∃k',WX.ty=.int k':=by
  cases hq:WX.ty with
  |int k=>grind
  |_=>rw[hq]at wQ;cases wQ
 unfold Tn at h;split at h
 ·rename_i ks k l;split at h
  ·rename_i LN;split at h
   ·rename_i hl;injection h with h;subst h;obtain⟨YA,BB⟩:=Zb LN.1;obtain⟨i,z,hi,J9,hbs,hz,aU,_⟩:=C9.info;refine⟨by simp,λ_=>⟨_,rfl⟩,λa w g hs next Q hn=>?_⟩
    have e1:=AF hs a0;rw[Ug]at e1;obtain⟨ad,e1⟩:=Sw e1;have e2:=AF hs a1;rw[YI]at e2;have e2:=CH e2;have hzz:z.cells.size=i.size:=by rw[J9,<-Aw4,aU,NQ]
    have Ud:∀(r:Value) (w':World),(Builtin.append_ #[t,tx] o.type #[.slice ad 0 0,.int k l]).run P w=.ok r w'->(execOp a.eval o).run P w=.ok (.value r) w':=λr w' hr=>by
     rw[HB ho hc,ha,k9 Qk];simp[builtin,e1,e2,hr]
    unfold Oper.wp;rcases qd (P:=P) w t tx o.type ti.elem i z (Bf ht H7) (Pk jk YC) hi hz ad k l hl.1 (by grind) (by grind) (by omega)with ⟨h0,hr⟩|⟨hp,hr⟩
    ·subst h0;rw[Ud _ _ hr]
     let g':G:=⟨g.own,λk=>if k=σ.Ag.length then⟨ad,0,0,te.ty.size⟩else g.AK k⟩
     have st:Step [] σ.Ag.length w g w g':=⟨rfl,rfl,rfl,Awf _,λ_ _ h=>⟨h,rfl⟩,λ_ h=>⟨h,rfl⟩,λ_ _ _ h _ _=>⟨h,rfl⟩,λk hk=>by grind⟩;have ha0:g'.AK σ.Ag.length=⟨ad,0,0,te.ty.size⟩:=by grind
     refine hn _ w g' (hs.heap.push st hs.heap.Bz ?_) ?_ st
     ·refine⟨(by rw[PH];intro j hj;cases hj),by grind,by grind,BB,.inl ⟨rfl,by grind⟩⟩
     ·refine A9 (cs:=[_]) rfl ⟨by simp,rfl⟩ ?_;simp[BV,AV.isAgg,ha0]
    ·rw[Ud _ _ hr];have hml:l.toNat<=maxLen:=qc l te.bytes hl.1 hl.2 LN.2;have jV:=grownCap_ge w l.toNat 0 ti.elem;have TK:=grownCap_le_maxLen w l.toNat 0 ti.elem hml;have st:=(Step.drew [] σ.Ag.length w g).trans (Step.add hs.heap.drew (.cells (Builtin.zeroCells z.cells l.toNat++Builtin.zeroCells z.cells (grownCap w l.toNat 0 ti.elem-l.toNat)) ti.elem) ⟨some ⟨w.heap.size,0,none⟩,l.toNat,grownCap w l.toNat 0 ti.elem,te.ty.size⟩) (Awf _);refine hn _ _ _ (hs.heap.drew.new ?_) ?_ st
     ·refine⟨(by rw[PH];intro j hj;cases hj),by simp[G.add],by simp[G.add],BB,.inr ⟨w.heap.size,_,_,by simp[G.add],by simp[G.add],⟨_,.inr rfl,heap_alloc_new w.drew _⟩,by simpa [G.add]using jV,by simpa [G.add]using TK,?_,rfl,?_⟩⟩
      ·simp only[G.add,AwS,Array.size_append,bU,size_madeCells,hzz,<-Axy];congr 1;omega
      ·rw[AwG,Array.toList_append,bU,hzz,J9];have hk:(madeCells z.cells (l.toNat*te.ty.size)).toList.length=l.toNat*te.ty.size:=by rw[Aw4,size_madeCells]
       rw[List.take_append_of_le_length (by grind),WI z.cells (by grind) BB (Awf _)];exact bW YA (by exact aU) _ fi
     ·refine A9 (cs:=[_]) rfl ⟨by simp,rfl⟩ ?_;simp[BV,AV.isAgg,G.add]
   ·grind
  ·grind
 ·grind
end
end Go.Va
namespace Go.Va
section
variable {P:Program} {σ:St} {o:Oper}
theorem vq{t:TypeId}{x lo:Operand}(ho:o.op=.slice t x (some lo) none none){ti te:TI}(ht:Dy P t ti)(H7:ti.Da=true)(C9:Dy P ti.elem te){k:Nat}{ks:AyZ Nat}{kk:IntKind}{l:Int}(hx:σ.BP x=.AA k)(qk:σ.BP lo=.Aw ks (.int kk) l)
    {el:Nat} {xs:AyZ te.ty.V} (hb:σ.Ag[k]?=some (.tail el te.ty xs)) (h0:0<=l) (h1:l<=(xs.length:Int)) :
    KO P σ o ⟨.AA σ.Ag.length,Blk.Eu (A0 [k] σ.Ag) [k]++[.tail el te.ty (xs.drop l.toNat)],[k]⟩:=by
 refine⟨by simp[AQ,Ar],λh=>by(cases h),λa w g hs next Q hn=>?_⟩
 have H:=hs.heap;have my:=AF hs x;rw[hx]at my;obtain⟨hk,j8⟩:=DV my;obtain⟨hf,hlen,Mg,BB,hr⟩:=H.Js k _ hb;have wS:=AF hs lo;rw[qk]at wS;have wS:a.eval lo=.int kk l:=CH wS;have Wz:(g.AK k).len<=(g.AK k).cap:=by
  rw[hlen];rcases hr with ⟨rfl,DT⟩|⟨b,o',Bh,ds,_,_,_,h1,_⟩
  ·simp
  ·exact h1
 have hvl:l.toNat<=xs.length:=Int.toNat_le.2 h1;obtain⟨ad,l7⟩:∃ad,ad=(if(g.AK k).cap=l.toNat then(g.AK k).a else(g.AK k).a.map (·.add (l.toNat*te.ty.size))):=⟨_,rfl⟩;have C5:(execOp a.eval o).run P w=.ok (.value (.slice ad ((g.AK k).len-l.toNat) ((g.AK k).cap-l.toNat))) w:=by
  have fY:=Nr (P:=P) (w:=w) (isS:=true) (len:=(g.AK k).len) (cap:=(g.AK k).cap) (lo:=some (.int kk l)) (hi:=none) (l:=l) (h:=((g.AK k).len:Int)) (.inr ⟨kk,rfl⟩) (.inl ⟨rfl,rfl⟩) h0 (by rw[hlen];exact h1) (AxO _) Wz;have:(Instr.sliceAt t (.slice (g.AK k).a (g.AK k).len (g.AK k).cap) (some (.int kk l)) none none).run P w=.ok (.slice ad ((g.AK k).len-l.toNat) ((g.AK k).cap-l.toNat)) w:=by
   rw[Io ht H7];simp[Instr.slice,underlying,Bf ht H7,fY,CR C9,l7]
  simp[execOp,ho,j8,wS,this]
 unfold Oper.wp;rw[C5]
 let n:=σ.Ag.length
 let i':BI:=⟨ad,(g.AK k).len-l.toNat,(g.AK k).cap-l.toNat,te.ty.size⟩
 let f:Nat->AyZ Nat->Pp:=λj r=>if j=k then .Bs n r else .Bs j r
 let g':=g.P7 f none n i'
 have st:Step [k] n w g w g':=Step.P7 H.Bz rfl rfl rfl (Awf _) (λ_ _ _=>rfl) (λq h=>by cases h) (Awf _) λj r _ hm=>by
  simp only[AwA]at hm;simp[f,hm]
 have Mf:g'.AK n=i':=by simp[g',G.P7]
 refine hn _ w g' (H.U5 st (J8 H.Bz (Awf _) λq h=>by cases h) (by simp[AQ,Ar]) λj y hj=>?_) ?_ st
 ·rw[Awz]at hj;split at hj
  ·rcases Ha hj with h |⟨cP,h⟩
   ·exact .inl h
   ·obtain⟨y',QB,rfl⟩:=CF h;exact .inr (.inl ⟨cP,y',QB,rfl⟩)
  ·rename_i Cw;rw[AQ,Ar]at hj Cw;have aR:j-σ.Ag.length=0:=by
    rcases Awx (j-σ.Ag.length)with h |h
    ·exact h
    ·rw[AwN (by simp;omega)]at hj;cases hj
   rw[aR]at hj;obtain rfl:j=n:=by simp only[n];omega
   simp only[List.getElem?_cons_zero,Awb]at hj;subst hj;refine .inr (.inr ⟨hf,by rw[Mf,AwJ];simp only[i'];omega,by rw[Mf],BB,?_⟩);rw[Mf];rcases hr with ⟨rfl,DT⟩|⟨b,off,Bh,ds,ha,BW,tg,p1,p2,p3,p4,Nb⟩
   ·exact .inl ⟨by simp,by simp only[i'];omega⟩
   ·rcases Awx ((g.AK k).cap-l.toNat)with hz |hz
    ·exact .inl ⟨by apply Aw3;rw[AwJ];omega,hz⟩
    ·have U7:=congrArg List.length p4;refine .inr ⟨b,off+l.toNat*te.ty.size,Bh,ds.drop (l.toNat*te.ty.size),?_,by rw[Gv (by simp) BW];simp[f],tg,by rw[AwJ];simp only[i'];omega,by simp only[i'];omega,?_,?_,?_⟩
     ·show ad=_;rw[l7,Aws (by omega),ha];simp[T4]
     ·simp only[i'];rw[p3,Aw7,<-Axy];congr 2;omega
     ·rw[AwJ,<-p4,<-List.drop_drop,List.drop_take,<-Nat.sub_mul]
     ·rw[CQ];have j7:=F8 (j:=0).2 ((CQ.1 Nb).mono λi x c h=>(OV.Bu hf).1 h);exact(F8 (j:=0).1 (j7.sE (s:=te.ty.size) (λx c h=>OV.len (w:=w) (own:=g.own) (k:=k) (m:=.Ao) (i:=0) ((OV.Bu hf).2 h)) l.toNat)).mono λi x c h=>(OV.Bu hf).2 h
 ·refine A9 (cs:=[_]) rfl ⟨by simp[AQ,Ar],rfl⟩ ?_;have:g'.AK σ.Ag.length=i':=Mf;simp[BV,AV.isAgg,this,i']
theorem vw{t:TypeId}{x y:Operand}(ho:o.op=.indexAddr t x y){ti te:TI}(ht:Dy P t ti)(H7:ti.Da=true)(C9:Dy P ti.elem te){k:Nat}{ks:AyZ Nat}{kk:IntKind}{i:Int}(hx:σ.BP x=.AA k)(hy:σ.BP y=.Aw ks (.int kk) i)
    {el:Nat} {xs:AyZ te.ty.V} (hb:σ.Ag[k]?=some (.tail el te.ty xs)) (h0:0<=i) (h1:i<(xs.length:Int)) :
    KO P σ o ⟨.D7 [k] te.ty (xs.getD i.toNat te.ty.zero),σ.Ag,[]⟩ :=
 .GI <| IQ (s:=λρ=>Instr.indexAt t (ρ x) (ρ y)) (λρ=>by simp[execOp,ho]) λa w g BG=>by
  have H:=BG.heap;have my:=AF BG x;rw[hx]at my;obtain⟨hk,j8⟩:=DV my;obtain⟨hf,hlen,Mg,BB,hr⟩:=H.Js k _ hb;have hyv:=AF BG y;rw[hy]at hyv;have hyv :=CH hyv;have Cw :=Rh ⟨h0,h1⟩;have hu:=Bf ht H7;rcases hr with ⟨Ug,_⟩|⟨b,off,Bh,ds,ha,BW,⟨el',RX,hh⟩,p1,p2,p3,p4,Nb⟩
  ·grind
  ·have j7:=F8 (j:=0).2 ((CQ.1 Nb).mono λi x c h=>(OV.Bu hf).1 h);obtain⟨c0,c,d,e1,gm,Vb,_,_⟩:=Ca.AK  (λx c h=>OV.len (w:=w) (own:=g.own) (k:=k) (m:=.Ao) (i:=0) ((OV.Bu hf).2 h)) j7 Cw;refine⟨.pointer (some ⟨b,off+i.toNat*te.ty.size,none⟩),?_,?_⟩
   ·rw[j8,hyv];simp[Instr.indexAt,asIntOf,underlying,hu,h0,h1,CR C9,ha,hlen,T4]
   ·rw[AG _ _ _ Cw];refine WL  (by grind) (.inr ⟨k,by simp,[],BW⟩) ((FX.Bu hf).2 Vb) λj q hq=>?_;have gx:ds[i.toNat*te.ty.size+j]?=some q:=by
     rw[e1,Awh,Awv (by omega),show i.toNat*te.ty.size+j-c0.length=j by omega,Aww (AP hq)];exact hq
    rw[<-p4,Aw9]at gx;split at gx
    ·rw[List.getElem?_drop]at gx;rw[Aw7,Mi hh,<-Awn];exact gx
    ·grind
theorem vx{c:Call}(ho:o.op=.call c)(hc:c.callee=.builtin .len){k:Nat}(hx:LP σ c.args=[.AA k]){t:TypeId}(Qk:c.argTypes.toList=[t]){ti:TI}(ht:Dy P t ti)(H7:ti.Da=true)
    {el:Nat} {u:Ty} {xs:AyZ u.V} (hb:σ.Ag[k]?=some (.tail el u xs)):KO P σ o ⟨.int .i64 (xs.length:Int),σ.Ag,[]⟩:=by
 obtain⟨a0,ha,hz⟩:=ru hx;refine .GI <| IQ (s:=λρ=>Builtin.len_ c.argTypes o.type #[ρ a0]) (λρ=>?_) λa w g hs=>?_
 ·rw[HB ho hc,ha];simp[builtin]
 ·have my:=AF hs a0;rw[hz]at my;obtain⟨hk,he⟩:=DV my;have hl:=(hs.heap.Js k _ hb).2.1;have Aq9:c.argTypes[0]?=some t:=by rw[<-Awn,Qk];rfl
  rw[he];exact BK (by simp[Builtin.len_,Aq9,underlying,Bf ht H7,goInt,hl])
theorem pC(w:World)(t tx ty e:TypeId)(i:TypeInfo)(ht:P.underlying t=some (.slice e))(hi:P.info? e=some i)
    (b off UY kM:Nat) (Bh:Array Value) {e0:TypeId} (hg:w.heap[b]?=some (.cells Bh e0 (0,0))) (x:Value) (n:Nat) (EB:AyZ Value) (hs:Src P i.size tx x n EB w) (SR:UY+n<=kM) (Nc:off+UY*i.size+EB.length<=Bh.size) :
    (Builtin.append_ #[t,tx] ty #[.slice (some ⟨b,off,none⟩) UY kM,x]).run P w =
     .ok (.slice (some ⟨b,off,none⟩) (UY+n) kM) (w.setRow b (Bh.toList.take (off+UY*i.size)++EB++Bh.toList.drop (off+UY*i.size+EB.length)).toArray):=by
 have BG:=run_storeCells_at P b (off+UY*i.size) e0 EB 0 Bh w hg (by simpa using Nc) hs.one;simp only[Nat.add_zero]at BG;rcases hs.kind with ⟨e',hk⟩|hk<;>simp[Builtin.append_,run_underlying ht,run_underlying hk,sizeOf,typeInfo,hi,hs.len,SR,hs.cells,T4,BG]
theorem e8(w:World)(t tx ty e:TypeId)(i:TypeInfo)(z:Value)(ht:P.underlying t=some (.slice e))(hi:P.info? e=some i)(hz:i.zero=some z)(ub:z.cells.size=i.size)(BB:0<i.size)
    {Pw:Nat->Prop} {Ek:Prop} {ad:Ay0 Addr} {len cap:Nat} {ds:AyZ Value} (hold:(len=0/\cap=0/\ds=[])\/∃b off Bh e0,ad=some ⟨b,off,none⟩/\Pw b/\(w.heap[b]?=some (.cells Bh e0 (0,0))/\(Ek\/e0=e))/\len<=cap/\cap<=maxLen/\Bh.size=off+cap*i.size/\(Bh.toList.drop off).take (len*i.size)=ds)
    {x:Value} {n:Nat} {EB:AyZ Value} (hs:Src P i.size tx x n EB w) (jf:i.bytes≠0) (Nc:(len+n)*i.bytes<=140737488355328) :
    ∃jd N5 w',(Builtin.append_ #[t,tx] ty #[.slice ad len cap,x]).run P w=.ok (.slice jd (len+n) N5) w'/\w'.os=w.os/\w'.tape=w.tape/\w'.output=w.output/\w.heap.size<=w'.heap.size /\
     ((len+n=0/\N5=0/\w'=w)\/∃b' off Me e1,jd=some ⟨b',off,none⟩/\(w'.heap[b']?=some (.cells Me e1 (0,0))/\(Ek\/e1=e))/\len+n<=N5/\N5<=maxLen/\Me.size=off+N5*i.size/\(Me.toList.drop off).take ((len+n)*i.size)=ds++EB /\
      ((Pw b'/\w'=w.setRow b' Me)\/(b'=w.heap.size/\b'<w'.heap.size/\∀q,q<w.heap.size->w'.heap[q]?=w.heap[q]?))):=by
 have Ac8:len+n<=140737488355328:=AwD (AxU _ (AxG jf)) Nc;have h63:((len+n:Nat):Int)<=9223372036854775807:=by omega
 have hml:len+n<=maxLen:=by simp only[maxLen];omega
 have aP:ds.length=len*i.size:=by
  rcases hold with ⟨h1,h2,h3⟩|⟨b,off,Bh,e0,h1,_,h2,h3,h4,h5,h6⟩
  ·grind
  ·rw[<-h6,Awu,AwJ,Aw4,h5,Nat.add_sub_cancel_left];exact Nat.min_eq_left (Aw6 _ h3)
 by_cases SR:len+n<=cap
 ·rcases hold with ⟨rfl,rfl,rfl⟩|⟨b,off,Bh,e0,rfl,hpw,⟨hb,hek⟩,h3,h4,h5,h6⟩
  ·obtain rfl:n=0:=by omega
   exact⟨ad,0,w,gT w t tx ty e i ht hi ad x EB hs,rfl,rfl,rfl,Awf _,.inl ⟨rfl,rfl,rfl⟩⟩
  ·have TK:off+len*i.size+EB.length<=Bh.size:=by
     rw[hs.newsLen,h5,Aw7,<-Axy];exact Nat.add_le_add_left (Aw6 _ SR) _
   refine⟨_,cap,_,pC w t tx ty e i ht hi b off len cap Bh hb x n EB hs SR TK,rfl,rfl,rfl,by simp,.inr ⟨b,off,_,e0,rfl,⟨setRow_heap w b Bh _ e0 (0,0) hb,hek⟩,SR,h4,?_,?_,.inl ⟨hpw,rfl⟩⟩⟩
   ·grind
   ·have e1:Bh.toList.take (off+len*i.size)=Bh.toList.take off++ds:=by grind
    have:(len+n)*i.size=(ds++EB).length:=by rw[Awd,aP,hs.newsLen,Axy]
    grind
 ·have tq:cap<len+n:=by omega
  have holds:(Builtin.firstCells i.size len (.slice ad len cap)).run P w.drew=.ok ds.toArray w.drew:=by
   rcases hold with ⟨rfl,rfl,rfl⟩|⟨b,off,Bh,e0,rfl,hpw,⟨hb,hek⟩,h3,h4,h5,h6⟩
   ·cases ad with
    |none=>exact run_firstCells_none w.drew i.size 0 0 0
    |some a=>exact run_firstCells_some w.drew i.size 0 a 0 0 [] (by simp) (by simp)
   ·refine run_firstCells_some w.drew i.size len _ len cap ds aP λj u hu=>?_;rw[T4];show w.cell? ⟨b,off+j,none⟩=some u;rw[Mi hb,<-Awn];rw[<-h6,Aw9]at hu
    grind
  have hr:=run_append_grow_src (P:=P) w t tx ty e i z ht hi hz ad len cap ds holds x n EB hs tq h63 (growslice_fits tq Nc);refine⟨_,_,_,hr,rfl,rfl,rfl,by simp,.inr ⟨w.heap.size,0,_,e,rfl,⟨heap_alloc_new w.drew _,.inr rfl⟩,grownCap_ge w _ cap e,grownCap_le_maxLen w _ cap e hml,?_,?_,.inr ⟨rfl,by simp,λq hq=>heap_alloc_old w.drew _ q hq⟩⟩⟩
  ·have jV:=grownCap_ge w (len+n) cap e;simp only[Array.size_append,AxX,Awd,size_zeroCells,ub,aP,hs.newsLen,<-Axy,AwF];congr 1;omega
  ·have:(len+n)*i.size=(ds++EB).length:=by rw[Awd,aP,hs.newsLen,Axy]
   rw[this,List.drop_zero,Array.toList_append,AxP]
theorem vo{c:Call}(ho:o.op=.call c)(hc:c.callee=.builtin .append){k:Nat}{y:AV}(hx:LP σ c.args=[.AA k,y]){t tx:TypeId}(Qk:c.argTypes.toList=[t,tx]){ti te WX:TI}(ht:Dy P t ti)(C9:Dy P ti.elem te)(H7:ti.Da=true)(jk:Dy P tx WX)(wQ:WX.Da=true)
    (jf:te.bytes≠0) {el:Nat} {xs ys:AyZ te.ty.V} (hb:σ.Ag[k]?=some (.tail el te.ty xs)) (RX:el=ti.elem\/el=0) {m2:RM} {rs:AyZ Nat} (YH:dW σ.Ag te.ty y=some (ys,m2,rs)) (Nc:(xs.length+ys.length)*te.bytes<=140737488355328) :
    KO P σ o ⟨.AA σ.Ag.length,Blk.Eu (A0 (k::rs) σ.Ag) (k::rs)++[.tail el te.ty (xs++ys)],k::rs⟩:=by
 obtain⟨a0,a1,ha,hz0,rfl⟩:=lF hx;refine⟨by simp[AQ,Ar],λh=>by grind,λa w g hs next Q hn=>?_⟩
 have H:=hs.heap;have my:=AF hs a0;rw[hz0]at my;obtain⟨hk,j8⟩:=DV my;obtain⟨hf,hlen,Mg,BB,hr⟩:=H.Js k _ hb;obtain⟨i,z,hi,J9,hbi,hz,aU,_⟩:=C9.info;obtain⟨EB,hS,wN,_,AqY,_⟩:=vQ H YH (AF hs a1) jk (by grind);have hu:=Bf ht H7;have ub:z.cells.size=i.size:=by rw[<-Aw4,aU,NQ,J9]
 have Aqa:A5 (λ_ x c=>c=H5 te.ty x) 0 ys EB:=wN.mono λi x c h=>by
  rcases h with ⟨_,h⟩|⟨ks,_,h⟩|⟨j,_,h⟩
  ·grind
  ·exact(FX.Bu hf).1 h
  ·exact(OV.Bu hf).1 h
 obtain ⟨ds,tK,tL⟩:∃ds,((xs.length=0/\(g.AK k).cap=0/\ds=[])\/∃b off Bh e0,(g.AK k).a=some ⟨b,off,none⟩/\g.own b=.Bs k []/\(w.heap[b]?=some (.cells Bh e0 (0,0))/\(el=0\/e0=ti.elem))/\xs.length<=(g.AK k).cap/\(g.AK k).cap<=maxLen/\Bh.size=off+(g.AK k).cap*i.size/\(Bh.toList.drop off).take (xs.length*i.size)=ds) /\
     A5 (λ_ x c=>c=H5 te.ty x) 0 xs ds:=by
  rcases hr with ⟨rfl,h2⟩|⟨b,off,Bh,ds,h2,h3,⟨e0,he0,h4⟩,h5,h6,h7,h8,h9⟩
  ·exact⟨[],.inl ⟨rfl,h2,rfl⟩,rfl⟩
  ·exact⟨ds,.inr ⟨b,off,Bh,e0,h2,h3,⟨h4,by grind⟩,h5,h6,by grind,by grind⟩,(CQ.1 h9).mono λi x c h=>(OV.Bu hf).1 h⟩
 obtain⟨jd,N5,w',C5,hos,hta,hou,LX,VH⟩:=e8 (P:=P) w t tx o.type ti.elem i z hu hi hz ub (by grind) (Pw:=λb=>g.own b=.Bs k []) (Ek:=el=0) tK (by rw[J9];exact hS) (by grind) (by grind);have Ud:(execOp a.eval o).run P w=.ok (.value (.slice jd (xs.length+ys.length) N5)) w':=by
  rw[HB ho hc,ha,k9 Qk];simp[builtin,j8,hlen,C5]
 unfold Oper.wp;rw[Ud]
 let n:=σ.Ag.length
 let i':BI:=⟨jd,xs.length+ys.length,N5,te.ty.size⟩
 let f:Nat->AyZ Nat->Pp:=λj r=>if j=k then .Bs n r else .Bs j r
 obtain ⟨ob,jX,Qj,Nl⟩:∃ob:Ay0 Nat,(∀q,ob=some q->w.heap.size<=q/\q<w'.heap.size) /\
     (∀q,q<w.heap.size->(∀k' p,g.own q=.Bs k' p->k'∉k::rs)->w'.heap[q]?=w.heap[q]?) /\
     ((xs++ys=[]/\N5=0)\/∃b' off Me,jd=some ⟨b',off,none⟩/\Qc w' b' el Me/\xs.length+ys.length<=N5/\N5<=maxLen/\Me.size=off+N5*te.ty.size/\(Me.toList.drop off).take ((xs.length+ys.length)*te.ty.size)=ds++EB/\(g.P7 f ob n i').own b'=.Bs n []):=by
  rcases VH with ⟨h0,DT,rfl⟩|⟨b',off,Me,e1,h1,⟨h2,he1⟩,h3,h4,h5,h6,h7⟩
  ·refine⟨none,λq h=>by grind,λq _ _=>rfl,.inl ⟨?_,DT⟩⟩;apply Aw3;rw[Awd];omega
  ·rw[J9]at h5 h6;have h2:Qc w' b' el Me:=⟨e1,by grind,h2⟩;rcases h7 with ⟨BW,rfl⟩|⟨rfl,Cw,hkp⟩
   ·refine⟨none,λq h=>by grind,YK BW (by simp),.inr ⟨b',off,Me,h1,h2,h3,h4,h5,h6,?_⟩⟩;rw[Gv (by simp) BW];simp[f]
   ·exact⟨some w.heap.size,λq h=>by injection h with h;subst h;exact⟨Awf _,Cw⟩,λq hq _=>hkp q hq,.inr ⟨_,off,Me,h1,h2,h3,h4,h5,h6,by simp[G.P7]⟩⟩
 let g':=g.P7 f ob n i'
 have st:Step (k::rs) n w g w' g':=Step.P7 H.Bz hos hta hou LX Qj (λq h=>(jX q h).1) (Awf _) λj r _ hm=>by
  have h1:j≠k:=λe=>hm (by simp[e]);simp[f,h1]
 have Mf:g'.AK n=i':=by simp[g',G.P7]
 refine hn _ w' g' (H.U5 st (J8 H.Bz LX λq h=>(jX q h).2) (by simp[AQ,Ar]) λj x P5=>?_) ?_ st
 ·rw[Awz]at P5;split at P5
  ·rcases Ha P5 with h |⟨cP,h⟩
   ·exact .inl h
   ·obtain⟨y',QB,rfl⟩:=CF h;exact .inr (.inl ⟨cP,y',QB,rfl⟩)
  ·rename_i Cw;rw[AQ,Ar]at P5 Cw;have aR:j-σ.Ag.length=0:=by
    rcases Awx (j-σ.Ag.length)with h |h
    ·exact h
    ·rw[AwN (by simp;omega)]at P5;cases P5
   rw[aR]at P5;obtain rfl:j=n:=by omega
   simp only[List.getElem?_cons_zero,Awb]at P5;subst P5;refine .inr (.inr ⟨hf,by rw[Mf,Awd],by rw[Mf],BB,?_⟩);rw[Mf,Awd];refine Nl.imp id λ⟨b',off,Me,h1,h2,h3,h4,h5,h6,h7⟩=>⟨b',off,Me,_,h1,h7,h2,h3,h4,h5,h6,?_⟩;rw[CQ];exact(A5.append tL (F8.1 (F8 (j:=0).2 Aqa))).mono λi x c h=>(OV.Bu hf).2 h
 ·refine A9 (cs:=[_]) rfl ⟨by simp[AQ,Ar],rfl⟩ ?_;have:g'.AK σ.Ag.length=i':=Mf;simp[BV,AV.isAgg,this,i']
end
end Go.Va
namespace Go.Va
theorem ia(φ:Nat->Nat)(a:AV):(a.K3 φ).KT=a.KT:=by cases a<;>rfl
theorem bK(φ:Nat->Nat)(a:AV):(a.K3 φ).isAgg=a.isAgg:=by cases a<;>rfl
theorem pB(φ:Nat->Nat)(a:AV):(a.K3 φ).Cz=a.Cz:=by cases a<;>rfl
theorem fE(Iq:AyZ Nat)(a:AV):(a.Qy Iq).KT=a.KT:=by cases a<;>rfl
theorem aG(Iq:AyZ Nat)(a:AV):(a.Qy Iq).isAgg=a.isAgg:=by cases a<;>rfl
theorem oo(Iq:AyZ Nat)(a:AV):(a.Qy Iq).Cz=a.Cz:=by cases a<;>rfl
structure Ren (φ:Nat->Nat) (g g':G) (n' k:Nat):Prop where
 lt:φ k<n'
 AK:g'.AK (φ k)=g.AK k
 own:∀b r,g.own b=.Bs k r->g'.own b=.Bs (φ k) r
theorem Al.u4{φ:Nat->Nat}{g g':G}(hi:∀b,g.own b=.GH->g'.own b=.GH){ks:AyZ Nat}(hk:∀k∈ks,∀b r,g.own b=.Bs k r->g'.own b=.Bs (φ k) r){b:Nat}(h:Al g.own ks b):Al g'.own (ks.map φ) b:=by
 rcases h with h |⟨k,tv,r,h⟩
 ·exact .inl (hi b h)
 ·exact .inr ⟨φ k,List.mem_map.2 ⟨k,tv,rfl⟩,r,hk k tv b r h⟩
theorem K8:∀(a:AV) {k:Nat},k∈a.N9->k∈a.BX
 |.Aw _ _ _,_,h=>h
 |.D7 _ _ _,_,h=>h
 |.O1 _ _ _ _ _,_,h=>h
 |.QF _ _ _ _ _ _,_,h=>h
 |.pr a b,_,h=>(List.mem_append.1 h).elim (λh=>AwH _ (K8 a h)) λh=>AwI _ (K8 b h)
 |.cons a b,_,h=>(List.mem_append.1 h).elim (λh=>AwH _ (K8 a h)) λh=>AwI _ (K8 b h)
 |.fn _ c,_,h=>K8 c h
 |.zs,_,h=>by cases h
 |.AA _,_,h=>by cases h
 |.ptr _ _ _ _,_,h=>by cases h
 |.JH,_,h=>by cases h
 |.nil,_,h=>by cases h
 |.mp _,_,h=>by cases h
 |.un _,_,h=>by cases h
theorem Wm:∀(b:Blk) {k:Nat},k∈b.N9->k∈b.BX
 |.box a,_,h=>K8 a h
 |.row _ _ _ _,_,h=>h
 |.map _ _ _ _ _,_,h=>h
 |.Nh _ _ _ _ _,_,h=>h
 |.tail _ _ _,_,h=>h
 |.Be,_,h=>h
section
variable {w:World} {g g':G} {n n':Nat} {φ:Nat->Nat}
def nO(φ:Nat->Nat)(g g':G)(n' k:Nat):Prop:=φ k<n'/\g'.AK (φ k)=g.AK k
def AbO(φ:Nat->Nat)(g g':G)(k:Nat):Prop:=∀b r,g.own b=.Bs k r->g'.own b=.Bs (φ k) r
theorem mG{ks:AyZ Nat}(hk:∀k∈ks,nO φ g g' n' k):∀k∈ks.map φ,k<n':=λk h=>by
 obtain⟨j,hj,rfl⟩:=List.mem_map.1 h;exact(hk j hj).1
theorem B9.UW(hi:∀b,g.own b=.GH->g'.own b=.GH):∀(a:AV) (m:Bool) {cs:AyZ Value},B9 w g n m a cs->(∀k∈a.BX,nO φ g g' n' k)->(∀k∈a.N9,AbO φ g g' k)->B9 w g' n' m (a.K3 φ) cs
 |.Aw ks t x,false,cs,⟨hk,r⟩,h,ho=>⟨mG h,r.mono λb a=>⟨a.u4 hi ho,rfl⟩⟩
 |.zs,false,_,h,_,_=>h
 |.AA k,false,_,⟨hk,e⟩,h,_=>by
  have:=h k (by simp[AV.BX]);exact⟨this.1,by rw[this.2];exact e⟩
 |.ptr k i p o,false,_,⟨hk,h0,h1,b,hb,e⟩,h,_=>by
  have:=h k (by simp[AV.BX]);exact⟨this.1,h0,by rw[this.2];exact h1,b,by rw[this.2];exact hb,by rw[this.2];exact e⟩
 |.D7 ks t x,false,cs,⟨hk,b,off,ds,e,ha,r,hc⟩,h,ho=>⟨mG h,b,off,ds,e,ha.u4 hi ho,r.mono λb a=>⟨a.u4 hi ho,rfl⟩,hc⟩
 |.JH,false,_,h,_,_=>h
 |.pr a b,false,_,⟨c,d,e,h1,h2⟩,h,ho=>⟨c,d,e,B9.UW hi a false h1 (λk hk=>h k (by simp[AV.BX,hk])) λk hk=>ho k (by simp[AV.N9,hk]),B9.UW hi b false h2 (λk hk=>h k (by simp[AV.BX,hk])) λk hk=>ho k (by simp[AV.N9,hk])⟩
 |.fn f c,false,_,⟨vs,e,hx⟩,h,ho=>⟨vs,e,B9.UW hi c true hx (λk hk=>h k (by simpa [AV.BX]using hk)) λk hk=>ho k (by simpa [AV.N9]using hk)⟩
 |.un k,false,_,h,_,_=>h
 |.cons a b,true,_,⟨v,r,e,h1,h2⟩,h,ho=>by
  refine⟨v,r,e,?_,B9.UW hi b true h2 (λk hk=>h k (by simp[AV.BX,hk])) λk hk=>ho k (by simp[AV.N9,hk])⟩;rw[ia,bK];exact h1.imp id λ⟨cs,hx,hv⟩=>⟨cs,B9.UW hi a false hx (λk hk=>h k (by simp[AV.BX,hk])) (λk hk=>ho k (by simp[AV.N9,hk])),hv⟩
 |.nil,true,_,h,_,_=>h
 |.cons _ _,false,_,h,_,_=>h.elim
 |.nil,false,_,h,_,_=>h.elim
 |.mp k,false,_,⟨hk,b,hb,e⟩,h,_=>by
  have:=h k (by simp[AV.BX]);exact⟨this.1,b,by rw[this.2];exact hb,e⟩
 |.O1 k i p o e,false,_,⟨hk,h0,h1,b,v,ha,ho,e1,e2,hc⟩,h,hO=>by
  have:=h k (by simp[AV.BX]);exact⟨this.1,h0,by rw[this.2];exact h1,b,v,by rw[this.2];exact ha,hO k (by simp[AV.N9]) b [] ho,e1,e2,by rw[this.2];exact hc⟩
 |.QF k i p o j u,false,_,⟨hk,h0,h1,b,b',l,c,ha,ho,e1,e2,hc⟩,h,hO=>by
  have:=h k (by simp[AV.BX]);exact⟨this.1,h0,by rw[this.2];exact h1,b,b',l,c,by rw[this.2];exact ha,hO k (by simp[AV.N9]) b [] ho,e1,e2,by rw[this.2];exact hc⟩
 |.QF _ _ _ _ _ _,true,_,h,_,_=>h.elim
 |.O1 _ _ _ _ _,true,_,h,_,_=>h.elim
 |.Aw _ _ _,true,_,h,_,_=>h.elim
 |.zs,true,_,h,_,_=>h.elim
 |.AA _,true,_,h,_,_=>h.elim
 |.mp _,true,_,h,_,_=>h.elim
 |.ptr _ _ _ _,true,_,h,_,_=>h.elim
 |.D7 _ _ _,true,_,h,_,_=>h.elim
 |.JH,true,_,h,_,_=>h.elim
 |.pr _ _,true,_,h,_,_=>h.elim
 |.fn _ _,true,_,h,_,_=>h.elim
 |.un _,true,_,h,_,_=>h.elim
theorem Ren.r0{k:Nat}(h:Ren φ g g' n' k):nO φ g g' n' k:=⟨h.lt,h.AK⟩
theorem B9.K3(hi:∀b,g.own b=.GH->g'.own b=.GH)(a:AV)(m:Bool){cs:AyZ Value}(h:B9 w g n m a cs)(hk:∀k∈a.BX,Ren φ g g' n' k):B9 w g' n' m (a.K3 φ) cs :=
 h.UW hi a m (λk h=>(hk k h).r0) λk h=>(hk k (K8 a h)).own
theorem B9.OU:∀(a:AV) (m:Bool) {cs:AyZ Value},B9 w g n m a cs->∀k∈a.BX,k<n
 |.Aw ks t x,false,cs,h,k,hk=>h.1 k hk
 |.zs,false,_,_,_,hk=>by cases hk
 |.AA j,false,_,h,k,hk=>by
  have :=by simpa [AV.BX]using hk
  rw[this];exact h.1
 |.ptr j i p o,false,_,h,k,hk=>by
  have :=by simpa [AV.BX]using hk
  rw[this];exact h.1
 |.D7 ks t x,false,cs,h,k,hk=>h.1 k hk
 |.JH,false,_,_,_,hk=>by cases hk
 |.pr a b,false,_,⟨c,d,e,h1,h2⟩,k,hk=>by
  rcases List.mem_append.1 hk with hk |hk
  ·exact B9.OU a _ h1 k hk
  ·exact B9.OU b _ h2 k hk
 |.fn f c,false,_,⟨vs,e,hx⟩,k,hk=>B9.OU c true hx k hk
 |.un _,false,_,_,_,hk=>by cases hk
 |.cons a b,true,_,⟨v,r,e,h1,h2⟩,k,hk=>by
  rcases List.mem_append.1 hk with hk |hk
  ·rcases h1 with h1 |⟨cs,h1,_⟩
   ·cases a<;>simp[AV.KT]at h1;cases hk
   ·exact B9.OU a _ h1 k hk
  ·exact B9.OU b true h2 k hk
 |.nil,true,_,_,_,hk=>by cases hk
 |.cons _ _,false,_,h,_,_=>h.elim
 |.nil,false,_,h,_,_=>h.elim
 |.mp j,false,_,h,k,hk=>by
  have :=by simpa [AV.BX]using hk
  rw[this];exact h.1
 |.O1 j i p o e,false,_,h,k,hk=>by
  have :=by simpa [AV.BX]using hk
  rw[this];exact h.1
 |.QF j i p o q u,false,_,h,k,hk=>by
  have :=by simpa [AV.BX]using hk
  rw[this];exact h.1
 |.QF _ _ _ _ _ _,true,_,h,_,_=>h.elim
 |.O1 _ _ _ _ _,true,_,h,_,_=>h.elim
 |.Aw _ _ _,true,_,h,_,_=>h.elim
 |.zs,true,_,h,_,_=>h.elim
 |.AA _,true,_,h,_,_=>h.elim
 |.mp _,true,_,h,_,_=>h.elim
 |.ptr _ _ _ _,true,_,h,_,_=>h.elim
 |.D7 _ _ _,true,_,h,_,_=>h.elim
 |.JH,true,_,h,_,_=>h.elim
 |.pr _ _,true,_,h,_,_=>h.elim
 |.fn _ _,true,_,h,_,_=>h.elim
 |.un _,true,_,h,_,_=>h.elim
theorem BF.OU{a:AV}{v:Value}(h:BF w g n a v):∀k∈a.BX,k<n:=by
 cases ht:a.Cz with
 |false =>
  rcases(BF.iff ht).1 h with h |⟨cs,h,_⟩
  ·intro k hk;cases a<;>simp[AV.KT]at h;cases hk
  ·exact B9.OU a _ h
 |true =>
  cases a with
  |cons a b=>obtain⟨vs,e,h⟩:=h;exact B9.OU _ true h
  |nil=>intro k hk;cases hk
  |_=>cases ht
theorem BF.UW(hi:∀b,g.own b=.GH->g'.own b=.GH){a:AV}{v:Value}(h:BF w g n a v)(hk:∀k∈a.BX,nO φ g g' n' k)(ho:∀k∈a.N9,AbO φ g g' k):BF w g' n' (a.K3 φ) v:=by
 cases ht:a.Cz with
 |false =>
  rw[BF.iff ht]at h;rw[BF.iff (by rw[pB];exact ht),ia,bK];exact h.imp id λ⟨cs,h,hv⟩=>⟨cs,B9.UW hi a _ h hk ho,hv⟩
 |true =>
  cases a with
  |cons a b=>obtain⟨vs,e,h⟩:=h;exact⟨vs,e,B9.UW hi _ true h hk ho⟩
  |nil=>exact h
  |_=>cases ht
theorem BF.K3(hi:∀b,g.own b=.GH->g'.own b=.GH){a:AV}{v:Value}(h:BF w g n a v)(hk:∀k∈a.BX,Ren φ g g' n' k):BF w g' n' (a.K3 φ) v :=
 h.UW hi (λk h=>(hk k h).r0) λk h=>(hk k (K8 a h)).own
theorem J2.UW(hi:∀b,g.own b=.GH->g'.own b=.GH){k:Nat}{b:Blk}(h:J2 w g n k b)(hk:Ren φ g g' n' k)(Nf:∀j∈b.BX,nO φ g g' n' j)(hO:∀j∈b.N9,AbO φ g g' j):J2 w g' n' (φ k) (b.K3 φ):=by
 cases b with
 |Be=>trivial
 |map m kt vt es st =>
  obtain⟨Ng,b,FK,CL,ha,ho,hh,NT,hm⟩:=h;have oK:(m.K3 φ).BX=m.BX.map φ:=by cases m<;>rfl
  refine⟨by rw[oK];exact mG Nf,b,FK,CL,by rw[hk.AK];exact ha,hk.own b [] ho,hh,NT,hm.on λi x c r=>?_⟩;cases m with
  |Ao=>exact Ht.mono (λb q hb=>⟨hk.own b _ hb,rfl⟩) r
  |sh ks=>exact FX.mono (λb a=>⟨a.u4 hi hO,rfl⟩) r
 |Nh e t xs i p =>
  obtain⟨h1,h2,h3,h4,h5,u,o,x0,b,Bh,ds,q1,q2,q3,ha,ho,hh,c1,c2,c3,c4,hc⟩:=h;refine⟨by rw[hk.AK];exact h1,by rw[hk.AK];exact h2,h3,h4,h5,u,o,x0,b,Bh,ds,q1,q2,q3,?_⟩;rw[hk.AK];exact⟨ha,hk.own b [] ho,hh,c1,c2,c3,c4,hc.mono λi x c r=>r.mono λb q hb=>⟨hk.own b _ hb,rfl⟩⟩
 |tail e t xs =>
  obtain⟨hf,hlen,Mg,BB,hr⟩:=h;refine⟨hf,by rw[hk.AK];exact hlen,by rw[hk.AK];exact Mg,BB,?_⟩;rw[hk.AK];exact hr.imp id λ⟨b,o,Bh,ds,ha,ho,hh,h1,h2,h3,h4,hc⟩=>⟨b,o,Bh,ds,ha,hk.own b [] ho,hh,h1,h2,h3,h4,hc.mono λi x c r=>r.mono λb q hb=>⟨hk.own b _ hb,rfl⟩⟩
 |box a =>
  obtain⟨h1,b,cs,e,ha,ho,hh,hx⟩:=h;exact⟨by rw[hk.AK];exact h1,b,cs,e,by rw[hk.AK];exact ha,hk.own b [] ho,hh,B9.UW hi a _ hx Nf hO⟩
 |row e m t xs =>
  obtain⟨Ng,hlen,Mg,BB,hr⟩:=h;have hm:(m.K3 φ).BX=m.BX.map φ:=by cases m<;>rfl
  refine⟨by rw[hm];exact mG Nf,by rw[hk.AK];exact hlen,by rw[hk.AK];exact Mg,BB,?_⟩;rw[hk.AK];refine hr.imp id λ⟨b,Bh,ds,ha,ho,hh,h1,h2,h3,h4,hc⟩=>⟨b,Bh,ds,ha,hk.own b [] ho,hh,h1,h2,h3,h4,?_⟩;cases m with
  |Ao=>exact hc.mono λi x c r=>r.mono λb q hb=>⟨hk.own b _ hb,rfl⟩
  |sh ks=>exact hc.mono λx c r=>r.mono λb a=>⟨a.u4 hi hO,rfl⟩
theorem J2.K3(hi:∀b,g.own b=.GH->g'.own b=.GH){k:Nat}{b:Blk}(h:J2 w g n k b)(hk:Ren φ g g' n' k)(Nf:∀j∈b.BX,Ren φ g g' n' j):J2 w g' n' (φ k) (b.K3 φ) :=
 h.UW hi hk (λk h=>(Nf k h).r0) λk h=>(Nf k (Wm b h)).own
structure Dep (Iq:List Nat) (g g':G) (n:Nat):Prop where
 GH:∀b,g.own b=.GH->Al g'.own Iq b
 Bs:∀b k r,g.own b=.Bs k r->k<n->g'.own b=.Bs k r
 AK:∀k,k<n->g'.AK k=g.AK k
 lt:∀k∈Iq,k<n
theorem Al.Qy{Iq:AyZ Nat}(d:Dep Iq g g' n){ks:AyZ Nat}(hk:∀k∈ks,k<n){b:Nat}(h:Al g.own ks b):Al g'.own (ks++Iq) b:=by
 rcases h with h |⟨k,tv,r,h⟩
 ·exact(d.GH b h).mono λk hk=>AwI _ hk
 ·exact .inr ⟨k,AwH _ tv,r,d.Bs b k r h (hk k tv)⟩
theorem lD{Iq ks:AyZ Nat}(d:Dep Iq g g' n)(hk:∀k∈ks,k<n):∀k∈ks++Iq,k<n:=λk h=>by
 rcases List.mem_append.1 h with h |h
 ·grind
 ·exact d.lt k h
theorem B9.Qy{Iq:AyZ Nat}(d:Dep Iq g g' n):∀(a:AV) (m:Bool) {cs:AyZ Value},B9 w g n m a cs->B9 w g' n m (a.Qy Iq) cs
 |.Aw ks t x,false,cs,⟨hk,r⟩=>by
  simp only[AV.Qy];cases hf:t.Bu with
  |true=>exact⟨by grind,(FX.Bu hf).2 ((FX.Bu hf).1 r)⟩
  |false=>exact⟨by simpa using lD d hk,by simpa using r.mono λb a=>⟨a.Qy d hk,rfl⟩⟩
 |.zs,false,_,h=>h
 |.AA k,false,_,⟨hk,e⟩=>⟨hk,by rw[d.AK k hk];exact e⟩
 |.mp k,false,_,⟨hk,b,hb,e⟩=>⟨hk,b,by rw[d.AK k hk];exact hb,e⟩
 |.ptr k i p o,false,_,⟨hk,h0,h1,b,hb,e⟩=>⟨hk,h0,by rw[d.AK k hk];exact h1,b,by rw[d.AK k hk];exact hb,by rw[d.AK k hk];exact e⟩
 |.D7 ks t x,false,cs,⟨hk,b,off,ds,e,ha,r,hc⟩=>⟨lD d hk,b,off,ds,e,ha.Qy d hk,r.mono λb a=>⟨a.Qy d hk,rfl⟩,hc⟩
 |.JH,false,_,h=>h
 |.pr a b,false,_,⟨c,e,he,h1,h2⟩=>⟨c,e,he,B9.Qy d a _ h1,B9.Qy d b _ h2⟩
 |.fn f c,false,_,⟨vs,e,hx⟩=>⟨vs,e,B9.Qy d c true hx⟩
 |.un k,false,_,h=>h
 |.cons a b,true,_,⟨v,r,e,h1,h2⟩=>by
  refine⟨v,r,e,?_,B9.Qy d b true h2⟩;rw[fE,aG];exact h1.imp id λ⟨cs,hx,hv⟩=>⟨cs,B9.Qy d a _ hx,hv⟩
 |.nil,true,_,h=>h
 |.cons _ _,false,_,h=>h.elim
 |.nil,false,_,h=>h.elim
 |.O1 k i p o e,false,_,⟨hk,h0,h1,b,v,ha,ho,e1,e2,hc⟩=>⟨hk,h0,by rw[d.AK k hk];exact h1,b,v,by rw[d.AK k hk];exact ha,d.Bs b k [] ho hk,e1,e2,by rw[d.AK k hk];exact hc⟩
 |.QF k i p o j u,false,_,⟨hk,h0,h1,b,b',l,c,ha,ho,e1,e2,hc⟩=>⟨hk,h0,by rw[d.AK k hk];exact h1,b,b',l,c,by rw[d.AK k hk];exact ha,d.Bs b k [] ho hk,e1,e2,by rw[d.AK k hk];exact hc⟩
 |.QF _ _ _ _ _ _,true,_,h=>h.elim
 |.O1 _ _ _ _ _,true,_,h=>h.elim
 |.Aw _ _ _,true,_,h=>h.elim
 |.zs,true,_,h=>h.elim
 |.AA _,true,_,h=>h.elim
 |.mp _,true,_,h=>h.elim
 |.ptr _ _ _ _,true,_,h=>h.elim
 |.D7 _ _ _,true,_,h=>h.elim
 |.JH,true,_,h=>h.elim
 |.pr _ _,true,_,h=>h.elim
 |.fn _ _,true,_,h=>h.elim
 |.un _,true,_,h=>h.elim
theorem BF.Qy{Iq:AyZ Nat}(d:Dep Iq g g' n){a:AV}{v:Value}(h:BF w g n a v):BF w g' n (a.Qy Iq) v:=by
 cases ht:a.Cz with
 |false =>
  rw[BF.iff ht]at h;rw[BF.iff (by rw[oo];exact ht),fE,aG];exact h.imp id λ⟨cs,h,hv⟩=>⟨cs,B9.Qy d a _ h,hv⟩
 |true =>
  cases a with
  |cons a b=>obtain⟨vs,e,h⟩:=h;exact⟨vs,e,B9.Qy d _ true h⟩
  |nil=>exact h
  |_=>cases ht
theorem J2.Qy{Iq:AyZ Nat}(d:Dep Iq g g' n){k:Nat}(hk:k<n){b:Blk}(h:J2 w g n k b):J2 w g' n k (b.Qy Iq):=by
 cases b with
 |Be=>trivial
 |map m kt vt es st =>
  obtain⟨Ng,b,FK,CL,ha,ho,hh,NT,hm⟩:=h;refine⟨?_,b,FK,CL,by rw[d.AK k hk];exact ha,d.Bs b k [] ho hk,hh,NT,hm.on λi x c r=>?_⟩
  ·cases m with
   |Ao=>exact Ng
   |sh ks=>exact lD d Ng
  ·cases m with
   |Ao=>exact Ht.mono (λb q hb=>⟨d.Bs b k _ hb hk,rfl⟩) r
   |sh ks=>exact FX.mono (λb a=>⟨a.Qy d Ng,rfl⟩) r
 |Nh e t xs i p =>
  obtain⟨h1,h2,h3,h4,h5,u,o,x0,b,Bh,ds,q1,q2,q3,ha,ho,hh,c1,c2,c3,c4,hc⟩:=h;refine⟨by rw[d.AK k hk];exact h1,by rw[d.AK k hk];exact h2,h3,h4,h5,u,o,x0,b,Bh,ds,q1,q2,q3,?_⟩;rw[d.AK k hk];exact⟨ha,d.Bs b k [] ho hk,hh,c1,c2,c3,c4,hc.mono λi x c r=>r.mono λb q hb=>⟨d.Bs b k _ hb hk,rfl⟩⟩
 |tail e t xs =>
  obtain⟨hf,hlen,Mg,BB,hr⟩:=h;refine⟨hf,by rw[d.AK k hk];exact hlen,by rw[d.AK k hk];exact Mg,BB,?_⟩;rw[d.AK k hk];exact hr.imp id λ⟨b,o,Bh,ds,ha,ho,hh,h1,h2,h3,h4,hc⟩=>⟨b,o,Bh,ds,ha,d.Bs b k [] ho hk,hh,h1,h2,h3,h4,hc.mono λi x c r=>r.mono λb q hb=>⟨d.Bs b k _ hb hk,rfl⟩⟩
 |box a =>
  obtain⟨h1,b,cs,e,ha,ho,hh,hx⟩:=h;exact⟨by rw[d.AK k hk];exact h1,b,cs,e,by rw[d.AK k hk];exact ha,d.Bs b k [] ho hk,hh,B9.Qy d a _ hx⟩
 |row e m t xs =>
  obtain⟨Ng,hlen,Mg,BB,hr⟩:=h;refine⟨?_,by rw[d.AK k hk];exact hlen,by rw[d.AK k hk];exact Mg,BB,?_⟩
  ·cases m with
   |Ao=>exact Ng
   |sh ks=>exact lD d Ng
  ·rw[d.AK k hk];refine hr.imp id λ⟨b,Bh,ds,ha,ho,hh,h1,h2,h3,h4,hc⟩=>⟨b,Bh,ds,ha,d.Bs b k [] ho hk,hh,h1,h2,h3,h4,?_⟩;cases m with
   |Ao=>exact hc.mono λi x c r=>r.mono λb q hb=>⟨d.Bs b k _ hb hk,rfl⟩
   |sh ks=>exact hc.mono λx c r=>r.mono λb a=>⟨a.Qy d Ng,rfl⟩
end
end Go.Va
