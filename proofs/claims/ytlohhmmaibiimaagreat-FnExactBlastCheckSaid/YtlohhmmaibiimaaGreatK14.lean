import Derived.Test.YtlohhmmaibiimaaGreatK13
set_option linter.unusedVariables false
set_option linter.unusedSimpArgs false
namespace Go.Proofs.X
open Go Go.Va
set_option maxRecDepth 100000
def mkL(bs:List Bool):Ah.V:=mkB bs.length fun i=>bs.getD i false
def sgV:Sg→Ad.V
 | .co bs=>(-1,0,(bs.length:Int),mkL bs,())
 | .va v l n=>((v:Int),(l:Int),(n:Int),(0,[],()),())
def btV:Bt→Af.V
 | .co b=>(-1,bI b,())
 | .va v a=>((v:Int),(a:Int),())
def fV(f:List Sg):List Ad.V:=f.map sgV
def bV(f:List Bt):List Af.V:=f.map btV
def SgB:Sg→Prop
 | .co bs=>bs.length≤4096
 | .va v l n=>v≤4096∧l+n≤4096
theorem Vl{bs:List Bool}{n:Nat}{f:Nat→Bool}(hl:bs.length=n)(h:∀i,i<n→bs.getD i false=f i):mkL bs=mkB n f:=by
 unfold mkL
 rw[hl]
 exact Q2 h
theorem Xy{a b:List Bool}(h:a.length+b.length≤8192):∃r,Cx (mkL b) (mkL a)=some r∧(r.1,r.2,())=mkL (a++b):=by
 refine⟨_,Aaa (by omega),(Vl (by rw[List.length_append]; omega) fun i hi=>?_).symm⟩
 by_cases h:i<a.length
 ·rw[if_pos h]; simp[List.getD,List.getElem?_append,h]
 ·rw[if_neg h]; simp[List.getD,List.getElem?_append,h]
theorem Z8{bs:List Bool}{a w:Nat}(hn:bs.length≤8192)(h1:1≤w)(h:a+w≤bs.length):∃r,Dj (mkL bs) (a:Int) (w:Int)=some r∧(r.1,r.2,())=mkL ((bs.drop a).take w):=by
 refine⟨_,Acd (by omega) h1 h,(Vl (by rw[List.length_take,List.length_drop]; omega) fun i hi=>?_).symm⟩
 simp[List.getD,hi]
theorem WM{a b:Sg}(ha:SgB a):BO (sgV a) (sgV b)=a.meets b:=by
 cases a with
 | co x =>
  cases b with
  | co y=>simp[BO,sgV,Sg.meets,Sg.join]
  | va v l n =>
   simp only[BO,sgV,Sg.meets,Sg.join,Option.isSome_none,Bool.and_eq_false_iff]
   left; simp
 | va v l n =>
  cases b with
  | co y =>
   simp only[BO,sgV,Sg.meets,Sg.join,Option.isSome_none,Bool.and_eq_false_iff]
   left; simp
  | va v' l' n' =>
   simp only[SgB] at ha
   simp only[BO,sgV,Sg.meets,Sg.join]
   rw[show wI ((l:Int)+(n:Int))=((l+n:Nat):Int) from wrapN (by omega) (by omega)]
   by_cases h:v=v'∧l+n=l'
   ·rw[if_pos h]; obtain⟨rfl,rfl⟩:=h; simp
   ·rw[if_neg h]
    simp only[Option.isSome_none,Bool.and_eq_false_iff,Bool.or_eq_false_iff,beq_eq_false_iff_ne,ne_eq]
    by_cases hv:v=v'
    ·exact .inr ⟨show ¬(v:Int)=-1 by omega,fun e=>h ⟨hv,Int.ofNat.inj e⟩⟩
    ·exact .inl fun e=>hv (Int.ofNat.inj e)
theorem NE{A:Type}(g:List A)(x z:A):(g++[x]).getD g.length z=x:=by simp[List.getD]
theorem Pr{A:Type}(g:List A)(x y:A):(g++[x]).set g.length y=g++[y]:=by simp
theorem J2(f g:List Sg):fV (f++g)=fV f++fV g:=List.map_append
theorem FB(f:List Sg):(fV f).length=f.length:=List.length_map _
theorem LT{A B:Type}(f:A→B){l:List A}{k:Nat}{y:A}{z:B}(h:k<l.length):(l.map f).getD k z=f (l.getD k y):=by simp[List.getD,h]
theorem Tn{ss f:List Sg}{k:Nat}{b:Int}(hk:k<ss.length)(hs:SgB (ss.getD k (.co [])))(hf:∀s∈f,SgB s)(hl:f.length≤1048576):ID (fV ss) b (k:Int) (fV f)=some (fV (raise1 f (ss.getD k (.co [])))):=by
 obtain⟨s,hse⟩:∃s,s=ss.getD k (.co []):=⟨_,rfl⟩
 have hget:(fV ss).getD k (Ty.zero Ad)=sgV s:=by rw[hse]; exact LT sgV hk
 rw[←hse] at hs ⊢
 unfold ID
 rw[if_pos (rng (by rw[FB]; exact hk)),Int.toNat_natCast,hget]
 rcases List.eq_nil_or_concat f with rfl | ⟨g,l,rfl⟩
 ·unfold Ij
  rfl
 ·rw[List.concat_eq_append] at hf hl ⊢
  have hbl:SgB l:=hf l (by simp)
  have hfl:(fV (g++[l])).length=g.length+1:=by rw[FB,List.length_append]; rfl
  have e1:wI (((fV (g++[l])).length:Int)-1)=(g.length:Int):=by
   rw[List.length_append] at hl
   rw[hfl]; exact wrapN (by omega) (by simp at hl; omega)
  have hgl:(fV (g++[l])).getD g.length (Ty.zero Ad)=sgV l:=by
   rw[J2,←FB g]; exact NE _ _ _
  have e2:decide ((g.length:Int)<0)=false:=by simp
  have e3:(0:Int)≤(g.length:Int)∧(g.length:Int)<((fV (g++[l])).length:Int):=⟨by omega,by rw[hfl]; omega⟩
  rw[e1,CL]
  unfold Ij
  rw[e2,cond_false,if_pos e3,Int.toNat_natCast,hgl,WM hbl,Option.bind_some]
  cases hj:l.join s with
  | none =>
   rw[show l.meets s=false by unfold Sg.meets; rw[hj]; rfl]
   show(if(_+1)*56≤_ then _ else none)=_
   rw[if_pos (by rw[hfl]; simp at hl; omega)]
   simp[J2,fV]
  | some j =>
   rw[show l.meets s=true by unfold Sg.meets; rw[hj]; rfl]
   show(Ie (fV ss) b (k:Int) (fV (g++[l])) (g.length:Int) (sgV s)).bind _=_
   unfold Ie
   cases l with
   | co x =>
    cases s with
    | va v' l' n'=>simp[Sg.join] at hj
    | co y =>
     simp only[Sg.join,Option.some.injEq] at hj
     subst hj
     simp only[SgB] at hbl hs
     obtain⟨r,hr1,hr2⟩:=Xy (a:=x) (b:=y) (by omega)
     rw[show((sgV (.co y)).1==(-1:Int))=true from rfl,cond_true,if_pos e3,Int.toNat_natCast,hgl]
     rw[show Cx (sgV (.co y)).2.2.2.1 (sgV (.co x)).2.2.2.1=some r from hr1,Option.bind_some,if_pos e3,hr2,Option.bind_some]
     have e4:(0:Int)≤(g.length:Int)∧(g.length:Int)<(((fV (g++[Sg.co x])).set g.length ((sgV (.co x)).1,(sgV (.co x)).2.1,(sgV (.co x)).2.2.1,mkL (x++y),(sgV (.co x)).2.2.2.2)).length:Int):=by rw[List.length_set]; exact e3
     rw[if_pos e4,if_pos e4]
     have hset:(fV (g++[Sg.co x])).set g.length ((sgV (.co x)).1,(sgV (.co x)).2.1,(sgV (.co x)).2.2.1,mkL (x++y),(sgV (.co x)).2.2.2.2)=fV g++[(-1,0,(x.length:Int),mkL (x++y),())]:=by
      rw[J2,←FB g]; exact Pr _ _ _
     rw[hset,show(fV g++[((-1,0,(x.length:Int),mkL (x++y),()):Ad.V)]).getD g.length (Ty.zero Ad)=(-1,0,(x.length:Int),mkL (x++y),()) by rw[←FB g]; exact NE _ _ _]
     simp only
     rw[show wI ((x.length:Int)+(sgV (.co y)).2.2.1)=(((x++y).length:Nat):Int) by
      rw[List.length_append]; exact wrapN (by show(x.length:Int)+(y.length:Int)=_; omega) (by omega)]
     rw[J2,←FB g,Pr]
     rfl
   | va v l n =>
    cases s with
    | co y=>simp[Sg.join] at hj
    | va v' l' n' =>
     simp only[SgB] at hbl hs
     simp only[Sg.join] at hj
     split at hj
     ·rename_i hc
      cases hj
      rw[show((sgV (.va v' l' n')).1==(-1:Int))=false by simp[sgV],cond_false,Option.bind_some,if_pos e3,if_pos e3]
      show some (List.set (fV (g++[Sg.va v l n])) g.length (((fV (g++[Sg.va v l n])).getD g.length (Ty.zero Ad)).1,((fV (g++[Sg.va v l n])).getD g.length (Ty.zero Ad)).2.1,wI (((fV (g++[Sg.va v l n])).getD g.length (Ty.zero Ad)).2.2.1+(sgV (.va v' l' n')).2.2.1),((fV (g++[Sg.va v l n])).getD g.length (Ty.zero Ad)).2.2.2))=_
      rw[hgl]
      rw[show wI ((sgV (.va v l n)).2.2.1+(sgV (.va v' l' n')).2.2.1)=((n+n':Nat):Int) from wrapN (by show(n:Int)+(n':Int)=_; omega) (by omega)]
      rw[J2,←FB g]
      show some (List.set (fV g++[sgV (.va v l n)]) (fV g).length _)=_
      rw[Pr,J2]
      rfl
     ·cases hj
theorem M2{f:List Sg}{s:Sg}(hf:∀x∈f,SgB x)(hs:SgB s)(hw:widL f+s.w≤4096):∀x∈raise1 f s,SgB x:=by
 rcases List.eq_nil_or_concat f with rfl | ⟨g,l,rfl⟩
 ·intro x hx; rw[JQ,List.mem_singleton] at hx; rw[hx]; exact hs
 ·rw[List.concat_eq_append] at hf hw ⊢
  rw[CL]
  have hl:=hf l (by simp)
  cases h:l.join s with
  | none =>
   intro x hx
   simp only[List.mem_append,List.mem_cons,List.not_mem_nil,or_false] at hx
   rcases hx with hx | rfl | rfl
   ·exact hf x (by simp[hx])
   ·exact hl
   ·exact hs
  | some j =>
   intro x hx
   simp only[List.mem_append,List.mem_cons,List.not_mem_nil,or_false] at hx
   rcases hx with hx | rfl
   ·exact hf x (by simp[hx])
   ·cases l<;>cases s<;>simp only[Sg.join] at h
    ·cases h
     simp only[widL,List.map_append,List.sum_append,List.map_cons,List.map_nil,List.sum_cons,List.sum_nil,Sg.w] at hw
     simp only[SgB,List.length_append]; omega
    ·cases h
    ·cases h
    ·split at h
     ·rename_i hc
      cases h
      simp only[SgB] at hl hs ⊢
      omega
     ·cases h
theorem Oe(f:List Sg)(s:Sg):widL (raise1 f s)=widL f+s.w:=by
 rw[←F9,NI,List.length_append,F9,G0]
theorem KL{f:List Sg}{k:Nat}(h:k<f.length):widL (f.take (k+1))=widL (f.take k)+(f.getD k (.co [])).w:=by
 rw[AB h (z:=.co [])]
 simp[widL]
theorem HG(f:List Sg)(k:Nat):widL (f.take k)≤widL f:=by
 have:widL f=widL (f.take k)+widL (f.drop k):=by
  unfold widL
  rw[←List.sum_append,←List.map_append,List.take_append_drop]
 omega
theorem SR{ss f:List Sg}(h1:Full ss)(h2:Full f)(hs:∀s∈ss,SgB s)(hf:∀s∈f,SgB s)(hw:widL f+widL ss≤4096):BX (fV ss) (fV f)=some (fV (raises f ss)):=by
 unfold BX Le
 have hlen:=F4 h1
 have inv:∀k,k≤ss.length→Full (raises f (ss.take k))∧(∀s∈raises f (ss.take k),SgB s)∧widL (raises f (ss.take k))=widL f+widL (ss.take k):=by
  intro k
  induction k with
  | zero=>exact fun _=>⟨h2,hf,rfl⟩
  | succ k ih =>
   intro hk
   obtain⟨i1,i2,i3⟩:=ih (by omega)
   have hm:ss.getD k (.co [])∈ss:=Az (by omega)
   have hwk:=KL (show k<ss.length by omega)
   have:=HG ss (k+1)
   have e:raises f (ss.take (k+1))=raise1 (raises f (ss.take k)) (ss.getD k (.co [])):=by
    rw[AB (show k<ss.length by omega) (z:=.co [])]; exact List.foldl_append
   rw[e]
   exact⟨Nx i1 (h1 _ hm),M2 i2 (hs _ hm) (by omega),by rw[Oe,i3,hwk]; omega⟩
 have:=AG (f:=CM (fV ss) ((fV ss).length:Int)) (fun k=>((k:Int),fV (raises f (ss.take k)))) (t:=fV (raises f ss)) ss.length (fun k hk=>by
  obtain⟨i1,i2,i3⟩:=inv k (by omega)
  have hm:ss.getD k (.co [])∈ss:=Az hk
  have:=HG ss k
  unfold CM HY
  simp only
  rw[FB,dlt hk,cond_true]
  rw[Tn hk (hs _ hm) i2 (by have:=F4 i1; omega),Option.bind_some,stepN hk (by omega),AB hk (z:=.co [])]
  rw[show raises f (ss.take k++[ss.getD k (.co [])])=raise1 (raises f (ss.take k)) (ss.getD k (.co [])) from List.foldl_append]) (by
  unfold CM HY
  simp only
  rw[FB,dge,cond_false,List.take_of_length_le (Nat.le_refl _)])
 rw[show fix (CM (fV ss) ((fV ss).length:Int)) (0,fV f)=some (fV (raises f ss)) from this]
 rfl
theorem QW{f:List Sg}(h1:Full f)(hw:widL f≤4096):DD (fV f)=some (widL f:Int):=by
 unfold DD IJ
 have hlen:=F4 h1
 have:=AG (f:=Bb (fV f) ((fV f).length:Int)) (fun k=>((widL (f.take k):Int),(k:Int))) (t:=(widL f:Int)) f.length (fun k hk=>by
  have h1:=KL hk
  have h2:=HG f (k+1)
  unfold Bb EF
  simp only
  rw[FB,dlt hk,cond_true,if_pos (rng hk),Int.toNat_natCast]
  rw[stepN hk (by omega),show(fV f).getD k (Ty.zero Ad)=sgV (f.getD k (.co [])) from LT sgV hk]
  rw[show(sgV (f.getD k (.co []))).2.2.1=((f.getD k (.co [])).w:Int) by cases f.getD k (.co [])<;>rfl]
  rw[show wI ((widL (f.take k):Int)+((f.getD k (.co [])).w:Int))=(widL (f.take (k+1)):Int) from wrapN (by omega) (by omega)]) (by
  unfold Bb EF
  simp only
  rw[FB,dge,cond_false,List.take_of_length_le (Nat.le_refl _)])
 rw[show fix (Bb (fV f) ((fV f).length:Int)) (0,0)=some (widL f:Int) from this]
 rfl
end Go.Proofs.X
namespace Go.Proofs.X
open Go Go.Va
set_option maxRecDepth 100000
def part(s:Sg)(a w:Nat):Sg :=
 match s with
 | .co bs=>.co ((bs.drop a).take w)
 | .va v l _=>.va v (l+a) w
theorem Qr{s:Sg}{a w:Nat}(h:a+w≤s.w):(part s a w).bits=(s.bits.drop a).take w:=by
 cases s with
 | co bs=>simp[part,Sg.bits]
 | va v l n =>
  simp only[Sg.w] at h
  simp only[part,Sg.bits]
  refine List.ext_getElem (by simp; omega) fun i h1 h2=>?_
  simp[Nat.add_assoc]
theorem Wl{s:Sg}{a w:Nat}(h:a+w≤s.w):(part s a w).w=w:=by
 rw[←G0,Qr h,List.length_take,List.length_drop,G0]; omega
theorem TL{s:Sg}{a w:Nat}(hs:SgB s)(h:a+w≤s.w):SgB (part s a w):=by
 cases s with
 | co bs=>simp only[part,SgB,List.length_take,List.length_drop] at *; omega
 | va v l n=>simp only[part,SgB,Sg.w] at *; omega
theorem TJ{s:Sg}{a w:Nat}(hs:SgB s)(h1:1≤w)(h:a+w≤s.w):∃r,Gs (sgV s) (a:Int) (w:Int)=some r∧(r.1,r.2.1,r.2.2.1,(r.2.2.2.1,r.2.2.2.2,()),())=sgV (part s a w):=by
 unfold Gs
 cases s with
 | co bs =>
  simp only[SgB] at hs
  simp only[Sg.w] at h
  obtain⟨r,hr1,hr2⟩:=Z8 (show bs.length≤8192 by omega) h1 h
  rw[show((sgV (.co bs)).1==(-1:Int))=true from rfl,cond_true,show Dj (sgV (.co bs)).2.2.2.1 (a:Int) (w:Int)=some r from hr1]
  refine⟨_,rfl,?_⟩
  have hw:r.1=(w:Int):=by
   have:=congrArg (fun x:Ah.V=>x.1) hr2
   have e:r.1=((((bs.drop a).take w).length:Nat):Int):=this
   rw[e,List.length_take,List.length_drop]; congr 1; omega
  show(-1,0,r.1,(r.1,r.2,()),())=sgV (.co ((bs.drop a).take w))
  rw[hr2]
  rw[show sgV (.co ((bs.drop a).take w))=(-1,0,(((bs.drop a).take w).length:Int),mkL ((bs.drop a).take w),()) from rfl,hw,show((bs.drop a).take w).length=w by rw[List.length_take,List.length_drop]; omega]
 | va v l n =>
  simp only[SgB] at hs
  simp only[Sg.w] at h
  rw[show((sgV (.va v l n)).1==(-1:Int))=false by simp[sgV],cond_false]
  refine⟨_,rfl,?_⟩
  simp only[part,sgV]
  rw[show wI ((l:Int)+(a:Int))=((l+a:Nat):Int) from wrapN (by omega) (by omega)]
theorem fGet{f:List Sg}{k:Nat}(h:k<f.length):(fV f).getD k (Ty.zero Ad)=sgV (f.getD k (.co [])):=LT sgV h
theorem Ka{f:List Sg}{k:Nat}(h:k<f.length):bitsL (f.take (k+1))=bitsL (f.take k)++(f.getD k (.co [])).bits:=by
 rw[AB h (z:=.co [])]
 simp[bitsL]
theorem XF(s:Sg):(sgV s).2.2.1=(s.w:Int):=by cases s<;>rfl
theorem Xp{B S:List Bt}{lo w:Nat}:((B++S).drop lo).take w=(B.drop lo).take w++(S.drop (max lo B.length-B.length)).take (min (lo+w) (B.length+S.length)-max lo B.length):=by
 rw[List.drop_append,List.take_append,List.length_drop]
 congr 1
 rw[show max lo B.length-B.length=lo-B.length by omega,List.take_eq_take_iff,List.length_drop]
 omega
theorem JR{bs:List Bt}(hb:∀b∈bs,SgB b.sg)(hl:bs.length≤4096):∀s∈norm bs,SgB s:=by
 have:∀(bs:List Bt) (f:List Sg),(∀b∈bs,SgB b.sg)→(∀s∈f,SgB s)→widL f+bs.length≤4096→∀s∈addB f bs,SgB s:=fun bs=>by
  induction bs with
  | nil=>exact fun f _ h _=>h
  | cons b bs ih =>
   intro f hb hf hw
   simp only[List.length_cons] at hw
   exact ih _ (fun x hx=>hb x (List.mem_cons_of_mem _ hx)) (M2 hf (hb b List.mem_cons_self) (by rw[Aij]; omega)) (by rw[Oe,Aij]; omega)
 exact this bs [] hb (fun s hs=>by cases hs) (by show 0+_≤_; omega)
theorem RG{f:List Sg}{lo w:Nat}(h1:Full f)(hf:∀s∈f,SgB s)(hb:∀b∈bitsL f,SgB b.sg)(hw:widL f≤4096)(hlo:lo+w≤8192):BN (fV f) (lo:Int) (w:Int)=some (fV (norm (((bitsL f).drop lo).take w))):=by
 unfold BN Jw
 have hlen:=F4 h1
 have:=AG (f:=BY (lo:Int) (w:Int) (fV f) ((fV f).length:Int)) (fun k=>((widL (f.take k):Int),(k:Int),fV (norm (((bitsL (f.take k)).drop lo).take w)))) (t:=fV (norm (((bitsL f).drop lo).take w))) f.length (fun k hk=>by
  have hwk:=KL hk
  have hle:=HG f (k+1)
  have hm:f.getD k (.co [])∈f:=Az hk
  obtain⟨s,hs⟩:∃s,s=f.getD k (.co []):=⟨_,rfl⟩
  have hB:(bitsL (f.take k)).length=widL (f.take k):=F9 _
  have hpre:∀b∈((bitsL (f.take k)).drop lo).take w,b∈bitsL f:=fun b hb=>by
   have:=List.mem_of_mem_drop (List.mem_of_mem_take hb)
   rw[show bitsL f=bitsL (f.take k)++bitsL (f.drop k) by unfold bitsL; rw[←List.flatMap_append,List.take_append_drop]]
   exact List.mem_append_left _ this
  unfold BY Fv
  simp only
  rw[FB,dlt hk,cond_true,if_pos (rng hk),Int.toNat_natCast,fGet hk,stepN hk (by omega),Ka hk,Xp,hB,G0,hwk]
  rw[←hs] at hm hwk ⊢
  rw[XF,show wI ((widL (f.take k):Int)+(s.w:Int))=((widL (f.take k)+s.w:Nat):Int) from wrapN (by omega) (by omega),show wI ((lo:Int)+(w:Int))=((lo+w:Nat):Int) from wrapN (by omega) (by omega)]
  generalize hA:widL (f.take k)=A at *
  rw[show(if(A:Int)>(lo:Int) then(A:Int) else(lo:Int))=((max lo A:Nat):Int) by split<;>omega]
  rw[show(if((A+s.w:Nat):Int)<((lo+w:Nat):Int) then((A+s.w:Nat):Int) else((lo+w:Nat):Int))=((min (lo+w) (A+s.w):Nat):Int) by split<;>omega]
  unfold GK
  by_cases hlt:max lo A<min (lo+w) (A+s.w)
  ·rw[show decide (((max lo A:Nat):Int)<((min (lo+w) (A+s.w):Nat):Int))=true by simp only[decide_eq_true_eq]; omega,cond_true]
   rw[show wI (((max lo A:Nat):Int)-(A:Int))=((max lo A-A:Nat):Int) from wrapN (by omega) (by omega),show wI (((min (lo+w) (A+s.w):Nat):Int)-((max lo A:Nat):Int))=((min (lo+w) (A+s.w)-max lo A:Nat):Int) from wrapN (by omega) (by omega)]
   have hin:max lo A-A+(min (lo+w) (A+s.w)-max lo A)≤s.w:=by omega
   obtain⟨r,hr1,hr2⟩:=TJ (a:=max lo A-A) (w:=min (lo+w) (A+s.w)-max lo A) (hf s hm) (by omega) hin
   rw[hr1,Option.bind_some,hr2]
   rw[show([sgV (part s (max lo A-A) (min (lo+w) (A+s.w)-max lo A))]:List Ad.V)=fV [part s (max lo A-A) (min (lo+w) (A+s.w)-max lo A)] from rfl]
   rw[SR (fun x hx=>by rw[List.mem_singleton] at hx; rw[hx,Wl hin]; omega) (FD _) (fun x hx=>by rw[List.mem_singleton] at hx; rw[hx]; exact TL (hf s hm) hin)
    (JR (fun b hb'=>hb b (hpre b hb')) (by rw[List.length_take,List.length_drop,hB]; omega)) (by
     rw[Hi,List.length_take,List.length_drop,hB]
     show _+(widL [part s _ _])≤_
     rw[show widL [part s (max lo A-A) (min (lo+w) (A+s.w)-max lo A)]=min (lo+w) (A+s.w)-max lo A by simp only[widL,List.map_cons,List.map_nil,List.sum_cons,List.sum_nil,Wl hin]; rfl]
     omega)]
   simp only[Option.bind_some]
   rw[ND (fun x hx=>by rw[List.mem_singleton] at hx; rw[hx,Wl hin]; omega)]
   rw[show bitsL [part s (max lo A-A) (min (lo+w) (A+s.w)-max lo A)]=(s.bits.drop (max lo A-A)).take (min (lo+w) (A+s.w)-max lo A) by simp[bitsL,Qr hin]]
   rw[show ∀a b:List Bt,addB (norm a) b=norm (a++b) from fun a b=>(Hv [] a b).symm]
  ·rw[show decide (((max lo A:Nat):Int)<((min (lo+w) (A+s.w):Nat):Int))=false by simp only[decide_eq_false_iff_not]; omega,cond_false]
   simp only[Option.bind_some]
   rw[show min (lo+w) (A+s.w)-max lo A=0 by omega,List.take_zero,List.append_nil]) (by
  unfold BY Fv
  simp only
  rw[FB,dge,cond_false,List.take_of_length_le (Nat.le_refl _)])
 have h0:((widL (f.take 0):Int),((0:Nat):Int),fV (norm (((bitsL (f.take 0)).drop lo).take w)))=((0:Int),(0:Int),([]:List Ad.V)):=by
  simp[widL,bitsL,norm,addB,fV]
 rw[h0] at this
 rw[this]
 rfl
def BtB:Bt→Prop
 | .co _=>True
 | .va v a=>v≤4096∧a+1≤4096
theorem Ql{b:Bt}(h:BtB b):SgB b.sg:=by
 cases b with
 | co b=>simp[Bt.sg,SgB]
 | va v a=>exact h
theorem Fn(f:List Bt):(bV f).length=f.length:=List.length_map _
theorem Lx(f g:List Bt):bV (f++g)=bV f++bV g:=List.map_append
theorem bGet{f:List Bt}{k:Nat}(h:k<f.length):(bV f).getD k (Ty.zero Af)=btV (f.getD k (.co false)):=LT btV h
theorem Cv{f:List Bt}{k:Nat}(h:k<f.length):f.take (k+1)=f.take k++[f.getD k (.co false)]:=AB h
theorem UF(bs:List Bool):(mkL bs).2.1.length=nw bs.length∧Words (mkL bs).2.1:=⟨D9 _ _,CK _ _⟩
theorem Aap{bs:List Bool}{k:Nat}(h:k<bs.length)(hl:bs.length≤8192):D6 (mkL bs) (k:Int)=some (bI (bs.getD k false)):=by
 have:=OX (w:=(bs.length:Int)) (CK (low (fun i=>bs.getD i false) bs.length) (nw bs.length)) (i:=k) (by rw[D9]; unfold nw; omega) (by rw[D9]; unfold nw; omega)
 rw[Un h] at this
 exact this
theorem TG{f:List Sg}{i:Nat}{B:List Bt}(hi:i<f.length)(hs:SgB (f.getD i (.co [])))(hB:B.length≤8192):Ji (fV f) (i:Int) 0 (bV B)=some (bV (B++(f.getD i (.co [])).bits)):=by
 unfold Ji
 obtain⟨s,hse⟩:∃s,s=f.getD i (.co []):=⟨_,rfl⟩
 rw[←hse] at hs ⊢
 have hsw:s.w≤4096:=by cases s<;>simp only[SgB,Sg.w] at *<;>omega
 have:=AG (f:=C4 (fV f) (i:Int)) (fun k=>((k:Int),bV (B++s.bits.take k))) (t:=bV (B++s.bits)) s.w (fun k hk=>by
  unfold C4 G9 I6
  simp only
  have hrg:(0:Int)≤(i:Int)∧(i:Int)<((fV f).length:Int):=rng (by rw[FB]; exact hi)
  rw[if_pos hrg,Int.toNat_natCast,fGet hi,←hse,XF,dlt hk,cond_true,if_pos hrg]
  have hlen:(bV (B++s.bits.take k)).length≤20000:=by rw[Fn,List.length_append,List.length_take]; omega
  have hk':k<s.bits.length:=by rw[G0]; exact hk
  rw[stepN hk (by omega),Cv hk',←List.append_assoc,show bV (B++s.bits.take k++[s.bits.getD k (.co false)])=bV (B++s.bits.take k)++[btV (s.bits.getD k (.co false))] from Lx _ _]
  cases s with
  | co bs =>
   simp only[Sg.w] at hk hsw
   rw[show decide ((sgV (.co bs)).1<0)=true from rfl,cond_true,if_pos hrg,show D6 (sgV (.co bs)).2.2.2.1 (k:Int)=some (bI (bs.getD k false)) from Aap hk (by omega),Option.bind_some]
   rw[if_pos (by show(_+1)*16≤_; omega),Option.bind_some]
   rw[show wI (bI (bs.getD k false))=bI (bs.getD k false) by cases bs.getD k false<;>rfl]
   rw[show(Sg.co bs).bits.getD k (.co false)=.co (bs.getD k false) by simp[Sg.bits,List.getD,hk]]
   rfl
  | va v l n =>
   simp only[Sg.w,SgB] at hk hs hsw
   rw[show decide ((sgV (.va v l n)).1<0)=false from decide_eq_false (show ¬((v:Int)<0) by omega),cond_false,if_pos hrg,if_pos hrg,if_pos (by show(_+1)*16≤_; omega),Option.bind_some]
   rw[show wI ((sgV (.va v l n)).2.1+(k:Int))=((l+k:Nat):Int) from wrapN (by show(l:Int)+(k:Int)=_; omega) (by omega)]
   rw[show(Sg.va v l n).bits.getD k (.co false)=.va v (l+k) by simp[Sg.bits,List.getD,hk]]
   rfl) (by
  unfold C4 G9
  simp only
  have hrg:(0:Int)≤(i:Int)∧(i:Int)<((fV f).length:Int):=rng (by rw[FB]; exact hi)
  rw[if_pos hrg,Int.toNat_natCast,fGet hi,←hse,XF,dge,cond_false,←G0,List.take_of_length_le (Nat.le_refl _)])
 rw[List.take_zero,List.append_nil] at this
 exact this
theorem Ug{f:List Sg}(h1:Full f)(hf:∀s∈f,SgB s)(hw:widL f≤4096):FG (fV f)=some (bV (bitsL f)):=by
 unfold FG KC
 have hlen:=F4 h1
 have:=AG (f:=Cc (fV f)) (fun k=>((k:Int),bV (bitsL (f.take k)))) (t:=bV (bitsL f)) f.length (fun k hk=>by
  unfold Cc G6
  simp only
  have:=HG f k
  rw[FB,dlt hk,cond_true,TG hk (hf _ (Az hk)) (by rw[F9]; omega),Option.bind_some,stepN hk (by omega),Ka hk]) (by
  unfold Cc G6
  simp only
  rw[FB,dge,cond_false,List.take_of_length_le (Nat.le_refl _)])
 rw[show fix (Cc (fV f)) (0,([]:List Af.V))=some (bV (bitsL f)) from this]
 rfl
end Go.Proofs.X
namespace Go.Proofs.X
open Go Go.Va
set_option maxRecDepth 100000
theorem Wp(b:Bt):decide ((btV b).1<0)=(match b with | .co _=>true | .va _ _=>false):=by
 cases b with
 | co b=>rfl
 | va v a=>exact decide_eq_false (show ¬((v:Int)<0) by omega)
theorem AdG {B:List Bt} {D:List Ad.V} {i:Nat} {b:Bool} (hi:i<B.length) (hb:B.getD i (.co false)=.co b) (hl:B.length≤4096) :
    Ret (I7 (bV B) D ((i+1:Nat):Int) [bI b]) fun r=>∃bs:List Bool,r=(((i+bs.length:Nat):Int),bs.map bI)∧1≤bs.length∧i+bs.length≤B.length∧bs.getD 0 false=b∧B.take (i+bs.length)=B.take i++bs.map .co∧(i+bs.length<B.length→∃v a,B.getD (i+bs.length) (.co false)=.va v a):=by
 unfold I7
 refine A2 (fun m (x:Int×List Int)=>∃bs:List Bool,x=(((i+bs.length:Nat):Int),bs.map bI)∧1≤bs.length∧i+bs.length≤B.length∧bs.getD 0 false=b∧B.take (i+bs.length)=B.take i++bs.map .co∧m=B.length-(i+bs.length)) (fun m x hI=>?_) (B.length-(i+1)) _ ⟨[b],rfl,by simp,hi,rfl,by
  show B.take (i+1)=_; rw[Cv hi,hb]; rfl,rfl⟩
 obtain⟨bs,rfl,h1,h2,h3,h4,rfl⟩:=hI
 unfold G5 Jx I9
 simp only
 rcases Nat.lt_or_ge (i+bs.length) B.length with h | h
 ·rw[Fn,dlt h,cond_true,if_pos (rng h),Int.toNat_natCast,bGet h,Wp]
  cases hx:B.getD (i+bs.length) (.co false) with
  | co y =>
   simp only[cond_true,Option.bind_some,Sum.elim_inl]
   rw[if_pos (rng h),if_pos (by show(_+1)*1≤_; rw[List.length_map]; omega),stepN h (by omega)]
   refine Ret.mk ⟨_,?_,bs++[y],?_,by simp,by simp; omega,?_,?_,rfl⟩
   ·simp only[List.length_append,List.length_cons,List.length_nil]; omega
   ·rw[show IntKind.u8.wrap (btV (.co y)).2.1=bI y by cases y<;>rfl]
    simp[Nat.add_assoc]
   ·rw[←h3]
    cases bs with
    | nil=>simp at h1
    | cons z zs=>rfl
   ·rw[List.length_append,←Nat.add_assoc]
    show B.take (i+bs.length+1)=_
    rw[Cv h,h4,hx,List.map_append,List.append_assoc]; rfl
  | va v a =>
   simp only[cond_false,Option.bind_some,Sum.elim_inr]
   exact Ret.mk ⟨bs,rfl,h1,h2,h3,h4,fun _=>⟨v,a,hx⟩⟩
 ·rw[Fn,show decide (((i+bs.length:Nat):Int)<(B.length:Int))=false from decide_eq_false (by omega),cond_false,Option.bind_some,Sum.elim_inr]
  exact Ret.mk ⟨bs,rfl,h1,h2,h3,h4,fun h'=>absurd h' (by omega)⟩
theorem AbU {B:List Bt} {D:List Ad.V} {i v a:Nat} (hi:i<B.length) (hb:B.getD i (.co false)=.va v a) (hB:∀b∈B,BtB b) (hl:B.length≤4096) :
    Ret (Jd (bV B) (i:Int) D ((i+1:Nat):Int)) fun r=>∃n,r=((i+n:Nat):Int)∧1≤n∧i+n≤B.length∧B.take (i+n)=B.take i++(Sg.va v a n).bits∧(i+n<B.length→(Sg.va v a n).join (B.getD (i+n) (.co false)).sg=none):=by
 unfold Jd
 refine A2 (fun m (x:Int)=>∃n,x=((i+n:Nat):Int)∧1≤n∧i+n≤B.length∧B.take (i+n)=B.take i++(Sg.va v a n).bits∧m=B.length-(i+n)) (fun m x hI=>?_) (B.length-(i+1)) _ ⟨1,rfl,by omega,hi,by
  rw[Cv hi,hb]; rfl,rfl⟩
 obtain⟨n,rfl,h1,h2,h4,rfl⟩:=hI
 unfold G1 Jy I8
 have hprev:B.getD (i+n-1) (.co false)=.va v (a+n-1):=by
  have e:(B.take (i+n)).getD (i+n-1) (.co false)=B.getD (i+n-1) (.co false):=by
   simp only[List.getD,List.getElem?_take,show i+n-1<i+n by omega,if_true]
  rw[←e,h4]
  have hti:(B.take i).length=i:=by rw[List.length_take]; omega
  simp only[List.getD,List.getElem?_append,hti,show ¬i+n-1<i by omega,if_false]
  rw[show i+n-1-i=n-1 by omega]
  simp only[Sg.bits,List.getElem?_map,List.getElem?_range,show n-1<n by omega,Option.map_some,Option.getD_some]
  congr 1; omega
 have hba:=hB (.va v (a+n-1)) (by rw[←hprev]; exact Az (by omega))
 simp only[BtB] at hba
 rcases Nat.lt_or_ge (i+n) B.length with h | h
 ·rw[Fn,dlt h,cond_true,if_pos (rng h),Int.toNat_natCast,Int.toNat_natCast,bGet h,if_pos (rng hi),bGet hi,hb]
  rw[show wI (((i+n:Nat):Int)-1)=((i+n-1:Nat):Int) from wrapN (by omega) (by omega),Int.toNat_natCast,bGet (by omega),hprev,if_pos (rng h),if_pos (rng (by omega))]
  rw[show wI ((btV (.va v (a+n-1))).2.1+1)=((a+n:Nat):Int) from wrapN (by show((a+n-1:Nat):Int)+1=_; omega) (by omega)]
  by_cases hc:B.getD (i+n) (.co false)=.va v (a+n)
  ·rw[hc]
   rw[show((btV (.va v (a+n))).1==(btV (.va v a)).1)=true from beq_self_eq_true (v:Int),cond_true,show((btV (.va v (a+n))).2.1==((a+n:Nat):Int))=true from beq_self_eq_true _,cond_true,Option.bind_some,Sum.elim_inl,stepN h (by omega)]
   refine Ret.mk ⟨_,?_,n+1,by rw[Nat.add_assoc],by omega,by omega,?_,rfl⟩
   ·omega
   ·rw[←Nat.add_assoc,Cv h,h4,hc]
    simp[Sg.bits,List.range_succ]
  ·have hno:(bif (btV (B.getD (i+n) (.co false))).1==(btV (.va v a)).1 then(bif (btV (B.getD (i+n) (.co false))).2.1==((a+n:Nat):Int) then some (.inl ()) else some (.inr ())) else some (.inr ()):Option (Unit⊕Unit))=some (.inr ()):=by
     cases hx:B.getD (i+n) (.co false) with
     | co y=>rw[show((btV (.co y)).1==(btV (.va v a)).1)=false by simp[btV]]; rfl
     | va v' a' =>
      by_cases hv:v'=v
      ·by_cases ha:a'=a+n
       ·subst hv ha; exact absurd hx hc
       ·rw[show((btV (.va v' a')).2.1==((a+n:Nat):Int))=false from beq_eq_false_iff_ne.2 fun e=>ha (Int.ofNat.inj e)]
        cases ((btV (.va v' a')).1==(btV (.va v a)).1)<;>rfl
      ·rw[show((btV (.va v' a')).1==(btV (.va v a)).1)=false from beq_eq_false_iff_ne.2 fun e=>hv (Int.ofNat.inj e)]; rfl
   refine Ret.of (a:=.inr ((i+n:Nat):Int)) (by
    have:=congrArg (fun o=>o.bind (Sum.elim (fun(_:Unit)=>some (.inl (wI (((i+n:Nat):Int)+1)))) (fun(_:Unit)=>some (.inr ((i+n:Nat):Int):Int⊕Int)))) hno
    exact this) ?_
   refine⟨n,rfl,h1,h2,h4,fun _=>?_⟩
   cases hx:B.getD (i+n) (.co false) with
   | co y=>rfl
   | va v' a' =>
    simp only[Sg.join,Bt.sg]
    rw[if_neg]
    rintro⟨rfl,rfl⟩
    exact hc hx
 ·rw[Fn,show decide (((i+n:Nat):Int)<(B.length:Int))=false from decide_eq_false (by omega),cond_false,Option.bind_some,Sum.elim_inr]
  exact Ret.mk ⟨n,rfl,h1,h2,h4,fun h'=>absurd h' (by omega)⟩
theorem WN{l s:Sg}{b:Bt}{r:List Bt}(hs:s.bits=b::r)(h:l.join b.sg=none):l.join s=none:=by
 cases s with
 | co bs =>
  cases bs with
  | nil=>simp[Sg.bits] at hs
  | cons x xs =>
   simp only[Sg.bits,List.map_cons,List.cons.injEq] at hs
   obtain⟨rfl,_⟩:=hs
   cases l<;>simp[Sg.join,Bt.sg] at h ⊢
 | va v a n =>
  cases n with
  | zero=>simp[Sg.bits] at hs
  | succ n =>
   simp only[Sg.bits,List.range_succ_eq_map,List.map_cons,List.cons.injEq] at hs
   obtain⟨rfl,_⟩:=hs
   cases l with
   | co y=>rfl
   | va v' l' n' =>
    simp only[Sg.join,Bt.sg,Nat.add_zero] at h ⊢
    split at h
    ·cases h
    ·rename_i hc; rw[if_neg hc]
def Stop(f:List Sg)(b:Bt):Prop:=∀l,f.getLast?=some l→l.join b.sg=none
theorem TE{f:List Sg}{s:Sg}{b:Bt}{r:List Bt}(h:Stop f b)(hs:s.bits=b::r):raise1 f s=f++[s]:=by
 unfold raise1
 cases hl:f.getLast? with
 | none=>rw[List.getLast?_eq_none_iff] at hl; subst hl; rfl
 | some l=>simp only[WN hs (h l hl)]
theorem XJ{B:List Bt}{s:Sg}{b:Bt}{r:List Bt}(h:Stop (norm B) b)(hs:s.bits=b::r)(hw:1≤s.w):norm (B++s.bits)=norm B++[s]:=by
 rw[show norm (B++s.bits)=addB (norm B) s.bits from Hv [] B s.bits,←Ma _ s _ rfl hw,TE h hs]
theorem UO{B:List Bt}(hB:∀b∈B,BtB b)(hl:B.length≤4096):IY (bV B)=some (decide ((norm B).length≤2000),fV (norm B)):=by
 unfold IY JX
 refine Ret.eq_ (Ret.bind (P:=fun r=>r=fV (norm B)) ?_ fun r hr=>Ret.mk (by
  rw[hr,FB]
  congr 1
  rw[decide_eq_decide]; omega))
 refine A2 (fun m (x:Int×List Ad.V)=>∃i:Nat,x=((i:Int),fV (norm (B.take i)))∧i≤B.length∧(i<B.length→Stop (norm (B.take i)) (B.getD i (.co false)))∧m=B.length-i) (fun m x hI=>?_) B.length _ ⟨0,rfl,Nat.zero_le _,fun _ l hl=>by simp[norm,addB] at hl,rfl⟩
 obtain⟨i,rfl,hi,hst,rfl⟩:=hI
 unfold Gb IT
 simp only
 rcases Nat.lt_or_ge i B.length with h | h
 ·rw[Fn,dlt h,cond_true,stepN h (by omega)]
  have hfl:(fV (norm (B.take i))).length≤4096:=by
   have h1:=F4 (FD (B.take i))
   rw[Hi,List.length_take] at h1
   rw[FB]; omega
  have key:∀s:Sg,∀n,n=s.w→1≤n→i+n≤B.length→B.take (i+n)=B.take i++s.bits→(i+n<B.length→s.join (B.getD (i+n) (.co false)).sg=none)→(s.bits.head?=some (B.getD i (.co false))) →
      (fV (norm (B.take i))++[sgV s]=fV (norm (B.take (i+n))))∧(i+n<B.length→Stop (norm (B.take (i+n))) (B.getD (i+n) (.co false))):=by
   rintro s n rfl h1 h2 h3 h4 h5
   obtain⟨r,hr⟩:∃r,s.bits=B.getD i (.co false)::r:=by
    cases hs:s.bits with
    | nil=>rw[hs] at h5; cases h5
    | cons c r=>rw[hs] at h5; simp only[List.head?_cons,Option.some.injEq] at h5; exact⟨r,by rw[h5]⟩
   have hn:=XJ (hst h) hr h1
   rw[h3,hn]
   refine⟨by rw[J2]; rfl,fun hlt l hl=>?_⟩
   rw[List.getLast?_append] at hl
   simp only[List.getLast?_singleton,Option.some_or,Option.some.injEq] at hl
   subst hl
   exact h4 hlt
  unfold I5
  rw[Fn,if_pos (rng h),Int.toNat_natCast,bGet h,Wp]
  cases hx:B.getD i (.co false) with
  | co b =>
   simp only[cond_true]
   rw[if_pos (rng h),show IntKind.u8.wrap (btV (.co b)).2.1=bI b by cases b<;>rfl]
   have hrun:=AdG (D:=fV (norm (B.take i))) h hx hl
   refine Ret.bind (P:=fun y=>∃n,y=(((i+n:Nat):Int),fV (norm (B.take (i+n))))∧1≤n∧i+n≤B.length∧(i+n<B.length→Stop (norm (B.take (i+n))) (B.getD (i+n) (.co false)))) (hrun.bind fun y hy=>?_) fun y hy=>?_
   ·obtain⟨bs,rfl,h1,h2,h3,h4,h5⟩:=hy
    have hk:=key (.co bs) bs.length rfl h1 h2 h4 (fun hlt=>by obtain⟨v,a,e⟩:=h5 hlt; rw[e]; rfl) (by
     rw[hx]
     cases bs with
     | nil=>simp at h1
     | cons z zs=>simp only[Sg.bits,List.map_cons,List.head?_cons]; rw[←h3]; rfl)
    rw[P2 h1 (by omega),Option.bind_some,if_pos (by show(_+1)*56≤_; omega)]
    exact Ret.mk ⟨bs.length,by rw[←hk.1]; rfl,h1,h2,hk.2⟩
   ·obtain⟨n,rfl,h1,h2,h3⟩:=hy
    exact Ret.mk ⟨B.length-(i+n),by omega,i+n,rfl,h2,h3,rfl⟩
  | va v a =>
   simp only[cond_false]
   have hrun:=AbU (D:=fV (norm (B.take i))) h hx hB hl
   refine Ret.bind (P:=fun y=>∃n,y=(((i+n:Nat):Int),fV (norm (B.take (i+n))))∧1≤n∧i+n≤B.length∧(i+n<B.length→Stop (norm (B.take (i+n))) (B.getD (i+n) (.co false)))) (hrun.bind fun y hy=>?_) fun y hy=>?_
   ·obtain⟨n,rfl,h1,h2,h4,h5⟩:=hy
    have hk:=key (.va v a n) n rfl h1 h2 h4 h5 (by
     rw[hx]
     obtain⟨m,rfl⟩:∃m,n=m+1:=⟨n-1,by omega⟩
     simp[Sg.bits,List.range_succ_eq_map])
    rw[if_pos (rng h),if_pos (rng h),if_pos (by show(_+1)*56≤_; omega),show wI (((i+n:Nat):Int)-(i:Int))=(n:Int) from wrapN (by omega) (by omega)]
    exact Ret.mk ⟨n,by rw[←hk.1]; rfl,h1,h2,hk.2⟩
   ·obtain⟨n,rfl,h1,h2,h3⟩:=hy
    exact Ret.mk ⟨B.length-(i+n),by omega,i+n,rfl,h2,h3,rfl⟩
 ·have:i=B.length:=by omega
  subst this
  rw[Fn,dge,cond_false,List.take_of_length_le (Nat.le_refl _)]
  exact Ret.mk rfl
end Go.Proofs.X
namespace Go.Proofs.X
open Go Go.Va
set_option maxRecDepth 100000
def dig(c:Int):Prop:=48≤c∧c≤57
def lowc(c:Int):Prop:=97≤c∧c≤122
instance (c:Int):Decidable (dig c):=inferInstanceAs (Decidable (_∧_))
instance (c:Int):Decidable (lowc c):=inferInstanceAs (Decidable (_∧_))
def NameP(s:ByteArray):Prop:=1≤s.size∧s.size≤12∧¬dig (bgetI s 0)∧∀i:Nat,i<s.size→dig (bgetI s i)∨lowc (bgetI s i)
theorem Oy(c:Int):HD c=decide (dig c):=(Bool.decide_and _ _).symm
theorem P9{s:ByteArray}{i:Nat}(hi:i<s.size):GG s (i:Int)=some (decide ¬(dig (bgetI s i)∨lowc (bgetI s i))):=by
 unfold GG
 rw[if_pos (rng hi),if_pos (rng hi),if_pos (rng hi),Oy]
 generalize bgetI s (i:Int)=c
 by_cases h1:dig c
 ·rw[decide_eq_true h1,decide_eq_false (p:=¬(dig c∨lowc c)) (fun h=>h (.inl h1))]; rfl
 ·rw[decide_eq_false h1]
  by_cases h2:c<97
  ·rw[decide_eq_true h2,decide_eq_true (p:=¬(dig c∨lowc c)) (by unfold lowc; rintro(h | h); exact h1 h; omega)]; rfl
  ·rw[decide_eq_false h2]
   refine congrArg some (decide_eq_decide.2 ?_)
   unfold lowc dig at *; omega
theorem QB{s:ByteArray}{i:Nat}(hi:i<s.size):GH s (i:Int)=some (decide ¬(dig (bgetI s i)∨lowc (bgetI s i))):=by
 unfold GH
 simp only[if_pos (rng hi)]
 generalize bgetI s (i:Int)=c
 by_cases h1:c<97
 ·rw[decide_eq_true h1,cond_true]
  by_cases h2:c<48
  ·rw[decide_eq_true h2,cond_true]
   exact congrArg some (decide_eq_true (by unfold dig lowc; omega)).symm
  ·rw[decide_eq_false h2,cond_false]
   exact congrArg some (decide_eq_decide.2 (by unfold dig lowc; omega))
 ·rw[decide_eq_false h1,cond_false]
  by_cases h2:c>122
  ·rw[decide_eq_true h2,cond_true]
   by_cases h3:c<48
   ·rw[decide_eq_true h3,cond_true]
    exact congrArg some (decide_eq_true (by unfold dig lowc; omega)).symm
   ·rw[decide_eq_false h3,cond_false]
    exact congrArg some (decide_eq_decide.2 (by unfold dig lowc; omega))
  ·rw[decide_eq_false h2,cond_false]
   exact congrArg some (decide_eq_false (by unfold dig lowc; omega)).symm
theorem Ra(s:ByteArray):Ret (Hp s) fun r=>r=true↔NameP s:=by
 unfold Hp Jg
 by_cases h1:s.size<1
 ·rw[decide_eq_true (by omega:(s.size:Int)<1)]
  exact Ret.mk ⟨fun h=>by(cases h),fun h=>absurd h.1 (by omega)⟩
 ·rw[decide_eq_false (by omega:¬(s.size:Int)<1),cond_false]
  by_cases h2:s.size>12
  ·rw[decide_eq_true (by omega:(s.size:Int)>12)]
   exact Ret.mk ⟨fun h=>by(cases h),fun h=>absurd h.2.1 (by omega)⟩
  ·rw[decide_eq_false (by omega:¬(s.size:Int)>12),cond_false,if_pos ⟨by omega,by omega⟩,Option.bind_some,Oy]
   by_cases h3:dig (bgetI s 0)
   ·rw[decide_eq_true h3]
    exact Ret.mk ⟨fun h=>by(cases h),fun h=>absurd h3 h.2.2.1⟩
   ·rw[decide_eq_false h3,cond_false]
    refine Ret.bind (P:=fun t=>(t=.inl ()∧¬∀i:Nat,i<s.size→dig (bgetI s i)∨lowc (bgetI s i))∨(t=.inr ()∧∀i:Nat,i<s.size→dig (bgetI s i)∨lowc (bgetI s i))) ?_ fun t ht=>?_
    ·unfold KK
     refine B1 (fun k (_:Unit)=>(k:Int)) s.size (fun k _=>∀i:Nat,i<k→dig (bgetI s i)∨lowc (bgetI s i)) (fun k _ hk hI=>?_) (fun _ hI=>?_) (s0:=()) (fun i h=>by omega)
     ·unfold EK He
      rw[dlt hk,cond_true,P9 hk,Option.bind_some]
      by_cases h:dig (bgetI s k)∨lowc (bgetI s k)
      ·rw[decide_eq_false (fun hn=>hn h),cond_false,stepN hk (by omega)]
       refine Ret.mk ⟨(),rfl,fun i hi=>?_⟩
       rcases Nat.lt_or_ge i k with h' | h'
       ·exact hI i h'
       ·rw[show i=k by omega]; exact h
      ·rw[decide_eq_true h,cond_true]
       exact Ret.mk (.inl ⟨rfl,fun h'=>h (h' k hk)⟩)
     ·unfold EK He
      rw[dge,cond_false]
      exact Ret.mk (.inr ⟨rfl,hI⟩)
    ·rcases ht with ⟨rfl,h⟩| ⟨rfl,h⟩
     ·exact Ret.mk ⟨fun h=>by(cases h),fun h'=>absurd h'.2.2.2 h⟩
     ·exact Ret.mk ⟨fun _=>⟨by omega,by omega,h3,h⟩,fun _=>rfl⟩
theorem RU(s:ByteArray):Ret (Ht s) fun r=>r=true↔NameP s:=by
 unfold Ht Jc
 by_cases h1:s.size<1
 ·rw[decide_eq_true (by omega:(s.size:Int)<1)]
  exact Ret.mk ⟨fun h=>by(cases h),fun h=>absurd h.1 (by omega)⟩
 ·rw[decide_eq_false (by omega:¬(s.size:Int)<1),cond_false]
  by_cases h2:s.size>12
  ·rw[decide_eq_true (by omega:(s.size:Int)>12)]
   exact Ret.mk ⟨fun h=>by(cases h),fun h=>absurd h.2.1 (by omega)⟩
  ·rw[decide_eq_false (by omega:¬(s.size:Int)>12),cond_false,if_pos ⟨by omega,by omega⟩,if_pos ⟨by omega,by omega⟩]
   by_cases h3:lowc (bgetI s 0)
   ·have h4:(bif decide (bgetI s 0<97) then some true else some (decide (bgetI s 0>122)))=some false:=by
      unfold lowc at h3
      rw[decide_eq_false (by omega),cond_false,decide_eq_false (by omega)]
    rw[h4,Option.bind_some,cond_false]
    refine Ret.bind (P:=fun t=>(t=.inl ()∧¬∀i:Nat,i<s.size→dig (bgetI s i)∨lowc (bgetI s i))∨(t=.inr ()∧∀i:Nat,i<s.size→dig (bgetI s i)∨lowc (bgetI s i))) ?_ fun t ht=>?_
    ·unfold KQ
     refine B1 (fun k (_:Unit)=>(k:Int)) s.size (fun k _=>∀i:Nat,i<k→dig (bgetI s i)∨lowc (bgetI s i)) (fun k _ hk hI=>?_) (fun _ hI=>?_) (s0:=()) (fun i h=>by omega)
     ·unfold EJ GO
      rw[dlt hk,cond_true,QB hk,Option.bind_some]
      by_cases h:dig (bgetI s k)∨lowc (bgetI s k)
      ·rw[decide_eq_false (fun hn=>hn h),cond_false,stepN hk (by omega)]
       refine Ret.mk ⟨(),rfl,fun i hi=>?_⟩
       rcases Nat.lt_or_ge i k with h' | h'
       ·exact hI i h'
       ·rw[show i=k by omega]; exact h
      ·rw[decide_eq_true h,cond_true]
       exact Ret.mk (.inl ⟨rfl,fun h'=>h (h' k hk)⟩)
     ·unfold EJ GO
      rw[dge,cond_false]
      exact Ret.mk (.inr ⟨rfl,hI⟩)
    ·rcases ht with ⟨rfl,h⟩| ⟨rfl,h⟩
     ·exact Ret.mk ⟨fun h=>by(cases h),fun h'=>absurd h'.2.2.2 h⟩
     ·refine Ret.mk ⟨fun _=>⟨by omega,by omega,?_,h⟩,fun _=>rfl⟩
      unfold lowc at h3; unfold dig; omega
   ·have h4:(bif decide (bgetI s 0<97) then some true else some (decide (bgetI s 0>122)))=some true:=by
      unfold lowc at h3
      by_cases h5:bgetI s 0<97
      ·rw[decide_eq_true h5]; rfl
      ·rw[decide_eq_false h5,cond_false,decide_eq_true (by omega)]
    rw[h4,Option.bind_some,cond_true]
    refine Ret.mk ⟨fun h=>by(cases h),fun h=>?_⟩
    rcases h.2.2.2 0 (by omega) with h' | h'
    ·exact absurd h' h.2.2.1
    ·exact absurd h' h3
theorem IN(n a b:Int):Ay n a b=decide (a≤n∧n≤b):=by unfold Ay; rw[Bool.decide_and]
theorem FQ(n a b:Int):Aq n a b=decide (a≤n∧n≤b):=by unfold Aq; rw[Bool.decide_and]
def dcl(d:List Aa.V)(i:Nat):Aa.V:=d.getD i (Ty.zero Aa)
def dw(d:List Aa.V)(i:Nat):Int:=(dcl d i).2.1
def dSum(d:List Aa.V)(k:Nat):Int:=((d.take k).map fun x=>x.2.1).sum
theorem Iw{d:List Aa.V}{k:Nat}(h:k<d.length):dSum d (k+1)=dSum d k+dw d k:=by
 unfold dSum
 rw[AB h (z:=Ty.zero Aa),List.map_append,List.sum_append]
 simp[dw,dcl]
def DeclP(d:List Aa.V)(i:Nat):Prop:=NameP (dcl d i).1∧(1≤dw d i∧dw d i≤4096)∧∀k,k<i→(dcl d k).1≠(dcl d i).1
def DeclsP(d:List Aa.V):Prop:=d.length≤60∧(∀i,i<d.length→DeclP d i)∧dSum d d.length≤20000
theorem MH{d:List Aa.V}{k:Nat}(hk:k≤d.length)(h:∀i,i<k→DeclP d i):0≤dSum d k∧dSum d k≤4096*k:=by
 induction k with
 | zero=>simp[dSum]
 | succ k ih =>
  rw[Iw (by omega)]
  have:=ih (by omega) fun i hi=>h i (by omega)
  have:=(h k (by omega)).2.1
  omega
theorem Lv(d:List Aa.V):Ret (En d) fun r=>r=true↔DeclsP d:=by
 unfold En
 by_cases hl:d.length≤60
 ·rw[decide_eq_false (by omega:¬(d.length:Int)>60),cond_false]
  unfold JY
  refine Ret.bind (P:=fun t=>(∃x,t=.inl x∧¬∀i,i<d.length→DeclP d i)∨(t=.inr (dSum d d.length)∧∀i,i<d.length→DeclP d i)) (B1 (fun k (_:Unit)=>(dSum d k,(k:Int))) d.length (fun k _=>∀i,i<k→DeclP d i) (fun k _ hk hI=>?_) (fun _ hI=>?_) (s0:=()) (fun i h=>by omega)) fun t ht=>?_
  ·unfold Eh F0 Ic
   simp only
   rw[dlt hk,cond_true,if_pos (rng hk),Int.toNat_natCast]
   show Ret (((Hp (dcl d k).1).bind _).bind _) _
   obtain⟨r,hr,hq⟩:=Ra (dcl d k).1
   rw[hr,Option.bind_some]
   by_cases h1:NameP (dcl d k).1
   ·rw[hq.2 h1]
    simp only[Bool.not_true,cond_false]
    rw[if_pos (rng hk),if_pos (rng hk),Option.bind_some]
    by_cases h2:1≤dw d k∧dw d k≤4096
    ·rw[show Ay (d.getD k (Ty.zero Aa)).2.1 1 4096=true from(IN _ _ _).trans (decide_eq_true h2)]
     simp only[Bool.not_true,cond_false]
     refine Ret.bind (P:=fun t=>(t=.inl ()∧¬∀j,j<k→(dcl d j).1≠(dcl d k).1)∨(t=.inr ()∧∀j,j<k→(dcl d j).1≠(dcl d k).1)) ?_ fun t ht=>?_
     ·unfold JZ
      refine B1 (fun j (_:Unit)=>(j:Int)) k (fun j _=>∀i,i<j→(dcl d i).1≠(dcl d k).1) (fun j _ hj hJ=>?_) (fun _ hJ=>?_) (s0:=()) (fun i h=>by omega)
      ·unfold Ea FX
       rw[dlt hj,cond_true,if_pos (rng (by omega)),if_pos (rng hk),Int.toNat_natCast,Int.toNat_natCast]
       show Ret (bif strEq (dcl d j).1 (dcl d k).1 then _ else _) _
       cases he:strEq (dcl d j).1 (dcl d k).1 with
       | true=>exact Ret.mk (.inl ⟨rfl,fun h=>h j hj ((LE _ _).1 he)⟩)
       | false =>
        rw[cond_false,stepN hj (by omega)]
        refine Ret.mk ⟨(),rfl,fun i hi=>?_⟩
        rcases Nat.lt_or_ge i j with h' | h'
        ·exact hJ i h'
        ·rw[show i=j by omega]; intro e; rw[(LE _ _).2 e] at he; cases he
      ·unfold Ea FX
       rw[dge,cond_false]
       exact Ret.mk (.inr ⟨rfl,hJ⟩)
     ·rcases ht with ⟨rfl,h⟩| ⟨rfl,h⟩
      ·exact Ret.mk (.inl ⟨_,rfl,fun h'=>h (h' k hk).2.2⟩)
      ·simp only[Sum.elim_inr]
       rw[stepN hk (by omega)]
       have hb:=MH (by omega) hI
       rw[show wI (dSum d k+(d.getD k (Ty.zero Aa)).2.1)=dSum d (k+1) by
        rw[Iw hk]
        have:(d.getD k (Ty.zero Aa)).2.1=dw d k:=rfl
        rw[this,wrap64 (by omega) (by omega)]]
       refine Ret.mk ⟨(),rfl,fun i hi=>?_⟩
       rcases Nat.lt_or_ge i k with h' | h'
       ·exact hI i h'
       ·rw[show i=k by omega]; exact⟨h1,h2,h⟩
    ·rw[show Ay (d.getD k (Ty.zero Aa)).2.1 1 4096=false from(IN _ _ _).trans (decide_eq_false h2)]
     exact Ret.mk (.inl ⟨_,rfl,fun h=>h2 (h k hk).2.1⟩)
   ·rw[show r=false by cases r; rfl; exact absurd (hq.1 rfl) h1]
    exact Ret.mk (.inl ⟨_,rfl,fun h=>h1 (h k hk).1⟩)
  ·unfold Eh F0
   simp only
   rw[dge,cond_false]
   exact Ret.mk (.inr ⟨rfl,hI⟩)
  ·rcases ht with ⟨x,rfl,h⟩| ⟨rfl,h⟩
   ·exact Ret.mk ⟨fun h=>by(cases h),fun h'=>absurd h'.2.1 h⟩
   ·refine Ret.mk ⟨fun h'=>⟨hl,h,of_decide_eq_true h'⟩,fun h'=>decide_eq_true h'.2.2⟩
 ·rw[decide_eq_true (by omega:(d.length:Int)>60),cond_true]
  exact Ret.mk ⟨fun h=>by(cases h),fun h=>absurd h.1 hl⟩
theorem Rk{d:List Aa.V}{i:Nat}{name:ByteArray}(hi:i≤d.length)(hl:d.length≤1048576):Ret (EE ((d.take i).drop 0) name) fun r=>0≤r↔∃j,j<i∧(dcl d j).1=name:=by
 unfold EE BQ D8
 have hlen:(d.take i).length=i:=by rw[List.length_take]; omega
 rw[List.drop_zero,hlen]
 refine Ret.bind (P:=fun r=>0≤r.1↔∃j,j<i∧(dcl d j).1=name) (Ret.bind (P:=fun t=>(∃j:Nat,t=.inl (j:Int)∧j<i∧(dcl d j).1=name)∨(t=.inr ()∧∀j,j<i→(dcl d j).1≠name)) ?_ fun t ht=>?_) fun r hr=>Ret.mk hr
 ·refine B1 (fun j (_:Unit)=>(j:Int)) i (fun j _=>∀k,k<j→(dcl d k).1≠name) (fun j _ hj hJ=>?_) (fun _ hJ=>?_) (s0:=()) (fun i h=>by omega)
  ·unfold AX Bw
   have hg:(d.take i).getD j (Ty.zero Aa)=dcl d j:=by simp[dcl,List.getD,hj]
   rw[dlt hj,cond_true,hlen,if_pos (rng hj),Int.toNat_natCast,hg]
   unfold In
   cases he:strEq (dcl d j).1 name with
   | true=>exact Ret.mk (.inl ⟨j,rfl,hj,(LE _ _).1 he⟩)
   | false =>
    rw[cond_false,stepN hj (by omega)]
    refine Ret.mk ⟨(),rfl,fun k hk=>?_⟩
    rcases Nat.lt_or_ge k j with h' | h'
    ·exact hJ k h'
    ·rw[show k=j by omega]; intro e; rw[(LE _ _).2 e] at he; cases he
  ·unfold AX Bw
   rw[dge,cond_false]
   exact Ret.mk (.inr ⟨rfl,hJ⟩)
 ·rcases ht with ⟨j,rfl,h1,h2⟩| ⟨rfl,h⟩
  ·exact Ret.mk ⟨fun _=>⟨j,h1,h2⟩,fun _=>by show(0:Int)≤(j:Int); omega⟩
  ·exact Ret.mk ⟨fun h'=>absurd (show(0:Int)≤-1 from h') (by omega),fun⟨j,h1,h2⟩=>absurd h2 (h j h1)⟩
theorem M7(d:List Aa.V):Ret (FL d) fun r=>r=true↔DeclsP d:=by
 unfold FL
 by_cases hl:d.length≤60
 ·rw[decide_eq_false (by omega:¬(d.length:Int)>60),cond_false]
  unfold J5
  refine Ret.bind (P:=fun t=>(∃x,t=.inl x∧¬∀i,i<d.length→DeclP d i)∨(t=.inr (dSum d d.length)∧∀i,i<d.length→DeclP d i)) (B1 (fun k (_:Unit)=>(dSum d k,(k:Int))) d.length (fun k _=>∀i,i<k→DeclP d i) (fun k _ hk hI=>?_) (fun _ hI=>?_) (s0:=()) (fun i h=>by omega)) fun t ht=>?_
  ·unfold D3 F3 Ih
   simp only
   rw[dlt hk,cond_true,if_pos (rng hk),Int.toNat_natCast]
   show Ret (((Ht (dcl d k).1).bind _).bind _) _
   obtain⟨r,hr,hq⟩:=RU (dcl d k).1
   rw[hr,Option.bind_some]
   by_cases h1:NameP (dcl d k).1
   ·rw[hq.2 h1]
    simp only[Bool.not_true,cond_false]
    by_cases h2:1≤dw d k∧dw d k≤4096
    ·rw[show Aq (d.getD k (Ty.zero Aa)).2.1 1 4096=true from(FQ _ _ _).trans (decide_eq_true h2)]
     simp only[Bool.not_true,cond_false]
     rw[if_pos ⟨by omega,by omega,by omega⟩]
     obtain⟨r',hr',hq'⟩:=Rk (d:=d) (i:=k) (name:=(dcl d k).1) (by omega) (by omega)
     rw[show EE ((d.take k).drop 0) (d.getD k (Ty.zero Aa)).1=some r' from hr',Option.bind_some,Option.bind_some]
     by_cases h3:0≤r'
     ·rw[decide_eq_true (show r'≥0 from h3)]
      obtain⟨j,hj1,hj2⟩:=hq'.1 h3
      exact Ret.mk (.inl ⟨_,rfl,fun h=>(h k hk).2.2 j hj1 hj2⟩)
     ·rw[decide_eq_false (show ¬r'≥0 from h3),cond_false,stepN hk (by omega)]
      have hb:=MH (by omega) hI
      rw[show wI (dSum d k+(d.getD k (Ty.zero Aa)).2.1)=dSum d (k+1) by
       rw[Iw hk]
       have:(d.getD k (Ty.zero Aa)).2.1=dw d k:=rfl
       rw[this,wrap64 (by omega) (by omega)]]
      refine Ret.mk ⟨(),rfl,fun i hi=>?_⟩
      rcases Nat.lt_or_ge i k with h' | h'
      ·exact hI i h'
      ·rw[show i=k by omega]; exact⟨h1,h2,fun j hj e=>h3 (hq'.2 ⟨j,hj,e⟩)⟩
    ·rw[show Aq (d.getD k (Ty.zero Aa)).2.1 1 4096=false from(FQ _ _ _).trans (decide_eq_false h2)]
     exact Ret.mk (.inl ⟨_,rfl,fun h=>h2 (h k hk).2.1⟩)
   ·rw[show r=false by cases r; rfl; exact absurd (hq.1 rfl) h1]
    exact Ret.mk (.inl ⟨_,rfl,fun h=>h1 (h k hk).1⟩)
  ·unfold D3 F3
   simp only
   rw[dge,cond_false]
   exact Ret.mk (.inr ⟨rfl,hI⟩)
  ·rcases ht with ⟨x,rfl,h⟩| ⟨rfl,h⟩
   ·exact Ret.mk ⟨fun h=>by(cases h),fun h'=>absurd h'.2.1 h⟩
   ·refine Ret.mk ⟨fun h'=>⟨hl,h,of_decide_eq_true h'⟩,fun h'=>decide_eq_true h'.2.2⟩
 ·rw[decide_eq_true (by omega:(d.length:Int)>60),cond_true]
  exact Ret.mk ⟨fun h=>by(cases h),fun h=>absurd h.1 hl⟩
theorem WP{a b:Bool}{P:Prop}(h1:a=true↔P)(h2:b=true↔P):a=b:=by
 cases a<;>cases b<;>simp_all
end Go.Proofs.X
namespace Go.Proofs.X
open Go Go.Va
set_option maxRecDepth 100000
def nOp(n:Ab.V):Int:=n.1
def nVar(n:Ab.V):Int:=n.2.1
def nA(n:Ab.V):Int:=n.2.2.1
def nB(n:Ab.V):Int:=n.2.2.2.1
def nW(n:Ab.V):Int:=n.2.2.2.2.1.1
def nWs(n:Ab.V):List Int:=n.2.2.2.2.1.2.1
def nKids(n:Ab.V):List Int:=n.2.2.2.2.2.1
def NodeB(n:Ab.V):Prop:=(nKids n).length≤1048576∧(nWs n).length≤1048576∧Words (nWs n)
def KidsIn(n:Ab.V)(i:Nat):Prop:=∀k∈nKids n,0≤k∧k<(i:Int)
def NoB(n:Ab.V):Prop:=nW n=0∧(nWs n).length=0
def OneP(n:Ab.V):Prop:=4≤nOp n∧nOp n≤9
instance (n:Ab.V):Decidable (NoB n):=inferInstanceAs (Decidable (_∧_))
instance (n:Ab.V):Decidable (OneP n):=inferInstanceAs (Decidable (_∧_))
def PlainP(n:Ab.V):Prop:=(nOp n≠1→nVar n=0)∧(nOp n≠2→NoB n)∧(nOp n≠4→nB n=0)∧(¬OneP n→nA n=0)
def ValP(n:Ab.V):Prop:=∃m:Nat,nW n=(m:Int)∧BitsP m (nWs n)
def FormP(d:List Aa.V)(n:Ab.V):Prop :=
 (nOp n=1∧(nKids n).length=0∧0≤nVar n∧nVar n<(d.length:Int))∨(nOp n=2∧(nKids n).length=0∧ValP n)∨(nOp n=3∧2≤(nKids n).length)∨(4≤nOp n∧nOp n≤9∧(nKids n).length=1)
def widF(d:List Aa.V)(n:Ab.V)(s:Int):Int :=
 if nOp n=1 then dw d (nVar n).toNat else if nOp n=2 then nW n else
 if nOp n=4 then(if 0≤nB n∧nB n≤nA n∧nA n<s then nA n-nB n+1 else -1) else
 if nOp n=5∨nOp n=6 then(if 0≤nA n∧nA n≤4096 then s+nA n else -1) else
 if nOp n=7∨nOp n=8 then(if 0≤nA n∧nA n≤4096 then s else -1) else
 if nOp n=9 then(if 1≤nA n∧nA n≤4096 then s*nA n else -1) else s
def kidW(wide:List Int)(n:Ab.V):List Int:=(nKids n).map fun k=>wide.getD k.toNat 0
def NodeP(d:List Aa.V)(wide:List Int)(n:Ab.V)(w:Int):Prop :=
 KidsIn n wide.length∧PlainP n∧FormP d n∧w=widF d n (kidW wide n).sum∧1≤w∧w≤4096
theorem RC{A:Type}(l:List A):((l.length:Int)==0)=decide (l.length=0):=by
 cases h:decide (l.length=0) with
 | true=>have:=of_decide_eq_true h; rw[this]; rfl
 | false=>have:=of_decide_eq_false h; exact beq_eq_false_iff_ne.2 (by omega)
theorem Lf{a b:Int}:(a !=b)=decide (a≠b):=by
 cases h:decide (a≠b) with
 | true=>exact bne_iff_ne.2 (of_decide_eq_true h)
 | false=>have:=of_decide_eq_false h; simp at this; rw[this]; simp
theorem Ln{a b:Int}:(a==b)=decide (a=b):=by
 cases h:decide (a=b) with
 | true=>rw[of_decide_eq_true h]; simp
 | false=>exact beq_eq_false_iff_ne.2 (of_decide_eq_false h)
theorem PU(n:Ab.V):A8 n.2.2.2.2.1=decide (NoB n):=by
 have h1:(nW n==0)=decide (nW n=0):=Ln
 have h2:=RC (nWs n)
 show((nW n==0)&&(((nWs n).length:Int)==0))=_
 rw[h1,h2]
 exact(Bool.decide_and _ _).symm
theorem S2(n:Ab.V):As n.1=decide (OneP n):=by
 unfold As; exact IN _ _ _
theorem Rr{d:List Aa.V}{n:Ab.V}{i:Nat}(hn:NodeB n)(hi:i≤1048576)(hd:d.length≤1048576):Ret (Hk d n (i:Int)) fun r=>r=true↔KidsIn n i∧PlainP n∧FormP d n:=by
 unfold Hk
 refine Ret.bind (P:=fun t=>(t=.inl ()∧¬KidsIn n i)∨(t=.inr ()∧KidsIn n i)) ?_ fun t ht=>?_
 ·unfold KH
  refine B1 (fun j (_:Unit)=>(j:Int)) (nKids n).length (fun j _=>∀k,k<j→0≤(nKids n).getD k 0∧(nKids n).getD k 0<(i:Int)) (fun j _ hj hJ=>?_) (fun _ hJ=>?_) (s0:=()) (fun i h=>by omega)
  ·unfold EI Hh
   have hlen:=hn.1
   show Ret (bif decide ((j:Int)<((nKids n).length:Int)) then(if 0≤(j:Int)∧(j:Int)<((nKids n).length:Int) then(bif !Ay ((nKids n).getD (j:Int).toNat 0) 0 (wI ((i:Int)-1)) then _ else _) else none) else _) _
   rw[dlt hj,cond_true,if_pos (rng hj),Int.toNat_natCast,wrap64 (x:=(i:Int)-1) (by omega) (by omega),IN]
   by_cases h:0≤(nKids n).getD j 0∧(nKids n).getD j 0<(i:Int)
   ·rw[decide_eq_true (by omega)]
    simp only[Bool.not_true,cond_false]
    rw[stepN hj (by omega)]
    refine Ret.mk ⟨(),rfl,fun k hk=>?_⟩
    rcases Nat.lt_or_ge k j with h' | h'
    ·exact hJ k h'
    ·rw[show k=j by omega]; exact h
   ·rw[decide_eq_false (by omega)]
    exact Ret.mk (.inl ⟨rfl,fun hk=>h (hk _ (Az hj))⟩)
  ·unfold EI Hh
   show Ret (bif decide (((nKids n).length:Int)<((nKids n).length:Int)) then _ else _) _
   rw[dge,cond_false]
   refine Ret.mk (.inr ⟨rfl,fun k hk=>?_⟩)
   obtain⟨m,hm,rfl⟩:=List.getElem_of_mem hk
   have:=hJ m hm
   rwa [show(nKids n).getD m 0=(nKids n)[m] by simp[List.getD,hm]] at this
 ·rcases ht with ⟨rfl,h⟩| ⟨rfl,h⟩
  ·exact Ret.mk ⟨fun h=>by(cases h),fun h'=>absurd h'.1 h⟩
  ·refine Ret.bind (P:=fun t=>(t=.inl ()∧¬PlainP n)∨(t=.inr ()∧PlainP n)) ?_ fun t ht=>?_
   ·unfold Jj mkr
    have hb:=PU n
    have h1:=S2 n
    have e1:∀x:Int,(n.1 !=x)=decide (nOp n≠x):=fun x=>Lf
    have e2:(n.2.1 !=(0:Int))=decide (nVar n≠0):=Lf
    have e3:(n.2.2.2.1 !=(0:Int))=decide (nB n≠0):=Lf
    have e4:(n.2.2.1 !=(0:Int))=decide (nA n≠0):=Lf
    rw[hb,h1,e1,e1,e1,e2,e3,e4]
    unfold PlainP
    by_cases a1:nOp n=1<;>by_cases a2:nOp n=2<;>by_cases a3:nOp n=4<;>by_cases a4:OneP n<;>by_cases a5:nVar n=0<;>by_cases a6:NoB n<;>by_cases a7:nB n=0<;>by_cases a8:nA n=0 <;>
     first | (exfalso; omega)| (simp[a1,a2,a3,a4,a5,a6,a7,a8,Kz]; done)
   ·rcases ht with ⟨rfl,h2⟩| ⟨rfl,h2⟩
    ·exact Ret.mk ⟨fun h=>by(cases h),fun h'=>absurd h'.2.1 h2⟩
    ·have hk:=hn.1
     have e1:∀x:Int,(n.1==x)=decide (nOp n=x):=fun x=>Ln
     have e2:((n.2.2.2.2.2.1.length:Int)==0)=decide ((nKids n).length=0):=RC (nKids n)
     have e3:((n.2.2.2.2.2.1.length:Int)==1)=decide ((nKids n).length=1):=by
      show(((nKids n).length:Int)==1)=_
      rw[Ln,decide_eq_decide]; omega
     have e4:decide ((n.2.2.2.2.2.1.length:Int)≥2)=decide (2≤(nKids n).length):=by
      show decide (((nKids n).length:Int)≥2)=_
      rw[decide_eq_decide]; omega
     have e5:Ay n.2.1 0 (wI ((d.length:Int)-1))=decide (0≤nVar n∧nVar n<(d.length:Int)):=by
      rw[IN,wrap64 (x:=(d.length:Int)-1) (by omega) (by omega),decide_eq_decide]
      show 0≤nVar n∧nVar n≤(d.length:Int)-1↔_
      omega
     obtain⟨r,hr,hq⟩:=O3 (w:=nW n) hn.2.2 hn.2.1
     have e6:Hy n.2.2.2.2.1=some r:=hr
     have hv:ValP n↔r=true:=hq.symm
     have h1:=S2 n
     simp only[Sum.elim_inr]
     rw[e1,e1,e1,e2,e3,e4,e5,e6,h1]
     unfold FormP
     rw[show(4≤nOp n∧nOp n≤9∧(nKids n).length=1)=(OneP n∧(nKids n).length=1) from propext and_assoc.symm,hv]
     have hone:OneP n↔4≤nOp n∧nOp n≤9:=Iff.rfl
     by_cases a1:nOp n=1
     ·have a4:¬OneP n:=by rw[hone]; omega
      by_cases a5:(nKids n).length=0
      ·simp[a1,a4,a5,h,h2,Kz]
      ·simp[a1,a4,a5,h,h2,Kz]
     ·by_cases a2:nOp n=2
      ·have a4:¬OneP n:=by rw[hone]; omega
       by_cases a5:(nKids n).length=0
       ·simp[a2,a4,a5,h,h2,Kz]
       ·simp[a2,a4,a5,h,h2,Kz]
      ·by_cases a3:nOp n=3
       ·have a4:¬OneP n:=by rw[hone]; omega
        simp[a3,a4,h,h2,Kz]
       ·by_cases a4:OneP n
        ·simp[a1,a2,a3,a4,h,h2,Kz]
        ·simp[a1,a2,a3,a4,h,h2,Kz]
def sumK(wide:List Int)(n:Ab.V):Int:=(kidW wide n).sum
def WideB(wide:List Int):Prop:=wide.length≤1048576∧∀w∈wide,1≤w∧w≤4096
theorem Pc{wide:List Int}(h:WideB wide){k:Int}(hk:0≤k∧k<(wide.length:Int)):1≤wide.getD k.toNat 0∧wide.getD k.toNat 0≤4096:=h.2 _ (Az (by omega))
theorem N8{wide:List Int}{n:Ab.V}{k:Nat}(hk:k<(nKids n).length):((kidW wide n).take (k+1)).sum=((kidW wide n).take k).sum+wide.getD ((nKids n).getD k 0).toNat 0:=by
 have hl:k<(kidW wide n).length:=by unfold kidW; rw[List.length_map]; exact hk
 rw[AB hl (z:=0),List.sum_append]
 unfold kidW
 rw[LT (fun k=>wide.getD k.toNat 0) hk (y:=0)]
 simp
theorem MI{wide:List Int}{n:Ab.V}(hw:WideB wide)(hin:KidsIn n wide.length):∀k,k≤(nKids n).length→(k:Int)≤((kidW wide n).take k).sum∧((kidW wide n).take k).sum≤4096*k:=by
 intro k
 induction k with
 | zero=>simp
 | succ k ih =>
  intro hk
  rw[N8 (by omega)]
  have:=ih (by omega)
  have:=Pc hw (hin _ (Az (z:=0) (show k<(nKids n).length by omega)))
  omega
theorem PL(wide:List Int)(n:Ab.V):(kidW wide n).take (nKids n).length=kidW wide n:=List.take_of_length_le (by unfold kidW; rw[List.length_map]; exact Nat.le_refl _)
theorem LQ{wide:List Int}{n:Ab.V}(hw:WideB wide)(hin:KidsIn n wide.length):((nKids n).length:Int)≤sumK wide n∧sumK wide n≤4096*(nKids n).length:=by
 have:=MI hw hin _ (Nat.le_refl _)
 rw[PL] at this
 exact this
theorem RN{d:List Aa.V}{wide:List Int}{n:Ab.V}(hn:NodeB n)(hw:WideB wide)(hin:KidsIn n wide.length)(hf:FormP d n):Ret (Hw d n wide) fun r=>r=widF d n (min 8192 (sumK wide n)):=by
 unfold Hw
 have hlen:=hn.1
 refine Ret.bind (P:=fun t=>t=min 8192 (sumK wide n)) ?_ fun t ht=>?_
 ·unfold KD
  have h0:min 8192 (((kidW wide n).take 0).sum)=0:=rfl
  have:=B1 (f:=C6 d wide n) (fun k (_:Unit)=>(min 8192 (((kidW wide n).take k).sum),(k:Int))) (nKids n).length (fun _ _=>True) (Q:=fun t=>t=min 8192 (sumK wide n)) (fun k _ hk _=>?_) (fun _ _=>?_) (s0:=()) trivial
  ·rw[h0] at this; exact this
  ·unfold C6 GV
   have hkin:=hin _ (Az (z:=0) hk)
   have hb:=MI hw hin k (by omega)
   have hwk:=Pc hw hkin
   show Ret (bif decide ((k:Int)<((nKids n).length:Int)) then(if 0≤(k:Int)∧(k:Int)<((nKids n).length:Int) then(if 0≤(nKids n).getD (k:Int).toNat 0∧(nKids n).getD (k:Int).toNat 0<(wide.length:Int) then some (Sum.inl (if wI (min 8192 (((kidW wide n).take k).sum)+wide.getD ((nKids n).getD (k:Int).toNat 0).toNat 0)<8192 then wI (min 8192 (((kidW wide n).take k).sum)+wide.getD ((nKids n).getD (k:Int).toNat 0).toNat 0) else 8192,wI ((k:Int)+1))) else none) else none) else _) _
   rw[dlt hk,cond_true,if_pos (rng hk),Int.toNat_natCast,if_pos hkin,stepN hk (by omega)]
   refine Ret.mk ⟨(),?_,trivial⟩
   rw[wrap64 (by omega) (by omega),N8 hk]
   refine congrArg (·,((k+1:Nat):Int)) ?_
   split<;>omega
  ·unfold C6 GV
   show Ret (bif decide (((nKids n).length:Int)<((nKids n).length:Int)) then _ else _) _
   rw[dge,cond_false]
   refine Ret.mk ?_
   show min 8192 (((kidW wide n).take (nKids n).length).sum)=_
   rw[PL]; rfl
 ·subst ht
  generalize hS:min 8192 (sumK wide n)=S
  have hSb:0≤S∧S≤8192:=by have:=LQ hw hin; omega
  have e1:∀x:Int,(n.1==x)=decide (nOp n=x):=fun x=>Ln
  have e2:Ay n.2.2.1 0 4096=decide (0≤nA n∧nA n≤4096):=IN _ _ _
  have e3:Ay n.2.2.1 1 4096=decide (1≤nA n∧nA n≤4096):=IN _ _ _
  have e4:(decide (n.2.2.2.1<0)||(decide (n.2.2.1<n.2.2.2.1)||decide (n.2.2.1≥S)))=decide (¬(0≤nB n∧nB n≤nA n∧nA n<S)):=by
   show(decide (nB n<0)||(decide (nA n<nB n)||decide (nA n≥S)))=_
   rw[←Bool.decide_or,←Bool.decide_or,decide_eq_decide]; omega
  unfold Ja widF mkr
  rw[e1,e1,e1,e1,e1,e1,e1,e1,e2,e3,e4]
  by_cases a1:nOp n=1
  ·have hv:0≤nVar n∧nVar n<(d.length:Int):=by
     rcases hf with h | h | h | h
     ·exact h.2.2
     ·omega
     ·omega
     ·omega
   rw[if_pos a1,decide_eq_true a1,cond_true,if_pos (show 0≤n.2.1∧n.2.1<(d.length:Int) from hv)]
   exact Ret.mk rfl
  ·rw[if_neg a1,decide_eq_false a1,cond_false]
   by_cases a2:nOp n=2
   ·rw[if_pos a2,decide_eq_true a2,cond_true]
    exact Ret.mk rfl
   ·rw[if_neg a2,decide_eq_false a2,cond_false]
    by_cases a4:nOp n=4
    ·rw[if_pos a4,decide_eq_true a4,cond_true]
     by_cases h:0≤nB n∧nB n≤nA n∧nA n<S
     ·rw[if_pos h,decide_eq_false (fun hh=>hh h),cond_false]
      refine Ret.mk ?_
      show wI (wI (nA n-nB n)+1)=_
      rw[wrap64 (x:=nA n-nB n) (by omega) (by omega),wrap64 (by omega) (by omega)]
     ·rw[if_neg h,decide_eq_true h,cond_true]
      exact Ret.mk rfl
    ·rw[if_neg a4,decide_eq_false a4,cond_false]
     by_cases a5:nOp n=5∨nOp n=6
     ·rw[if_pos a5]
      have hc:(bif decide (nOp n=5) then decide (nOp n=5) else decide (nOp n=6))=true:=by
       rcases a5 with h | h
       ·simp[h]
       ·simp[h]
      rw[hc,cond_true]
      by_cases h:0≤nA n∧nA n≤4096
      ·rw[if_pos h,decide_eq_true h]
       refine Ret.mk ?_
       show wI (S+nA n)=_
       rw[wrap64 (by omega) (by omega)]
      ·rw[if_neg h,decide_eq_false h]
       exact Ret.mk rfl
     ·rw[if_neg a5]
      have hc:(bif decide (nOp n=5) then decide (nOp n=5) else decide (nOp n=6))=false:=by
       simp only[not_or] at a5
       simp[a5]
      rw[hc,cond_false]
      by_cases a7:nOp n=7∨nOp n=8
      ·rw[if_pos a7]
       have hc:(bif decide (nOp n=7) then decide (nOp n=7) else decide (nOp n=8))=true:=by
        rcases a7 with h | h
        ·simp[h]
        ·simp[h]
       rw[hc,cond_true]
       by_cases h:0≤nA n∧nA n≤4096
       ·rw[if_pos h,decide_eq_true h]
        exact Ret.mk rfl
       ·rw[if_neg h,decide_eq_false h]
        exact Ret.mk rfl
      ·rw[if_neg a7]
       have hc:(bif decide (nOp n=7) then decide (nOp n=7) else decide (nOp n=8))=false:=by
        simp only[not_or] at a7
        simp[a7]
       rw[hc,cond_false]
       by_cases a9:nOp n=9
       ·rw[if_pos a9,decide_eq_true a9,cond_true]
        by_cases h:1≤nA n∧nA n≤4096
        ·rw[if_pos h,decide_eq_true h]
         refine Ret.mk ?_
         show wI (S*nA n)=_
         have h1:0≤S*nA n:=Int.mul_nonneg hSb.1 (by omega)
         have h2:S*nA n≤8192*4096:=Int.mul_le_mul hSb.2 h.2 (by omega) (by omega)
         rw[wrap64 (by omega) (by omega)]
        ·rw[if_neg h,decide_eq_false h]
         exact Ret.mk rfl
       ·rw[if_neg a9,decide_eq_false a9,cond_false]
        exact Ret.mk rfl
end Go.Proofs.X
namespace Go.Proofs.X
open Go Go.Va
set_option maxRecDepth 100000
theorem X2{d:List Aa.V}{wide:List Int}{n:Ab.V}(hw:WideB wide)(hin:KidsIn n wide.length)(hf:FormP d n):widF d n (min 8192 (sumK wide n))=widF d n (sumK wide n)∨(4096<widF d n (min 8192 (sumK wide n))∧4096<widF d n (sumK wide n)):=by
 have hb:=LQ hw hin
 rcases hf with h | h | h | h
 ·left; simp[widF,h.1]
 ·left; simp[widF,h.1]
 ·by_cases hs:sumK wide n≤8192
  ·left; rw[show min 8192 (sumK wide n)=sumK wide n by omega]
  ·right
   have e:∀S,widF d n S=S:=fun S=>by simp[widF,h.1]
   rw[e,e]; omega
 ·left; rw[show min 8192 (sumK wide n)=sumK wide n by omega]
instance (n:Ab.V):Decidable (PlainP n):=inferInstanceAs (Decidable (_∧_∧_∧_))
theorem Xi(n:Ab.V):Ca n=decide (PlainP n):=by
 have hb:((n.2.2.2.2.1.1==(0:Int))&&((n.2.2.2.2.1.2.1.length:Int)==0))=decide (NoB n):=PU n
 have h1:(decide (n.1≥4)&&decide (n.1≤9))=decide (OneP n):=(Bool.decide_and _ _).symm
 have e1:∀x:Int,(n.1 !=x)=decide (nOp n≠x):=fun x=>Lf
 have e0:(n.1==(2:Int))=decide (nOp n=2):=Ln
 have e2:(n.2.1 !=(0:Int))=decide (nVar n≠0):=Lf
 have e3:(n.2.2.2.1 !=(0:Int))=decide (nB n≠0):=Lf
 have e4:(n.2.2.1 !=(0:Int))=decide (nA n≠0):=Lf
 have hp:decide (PlainP n)=decide ((nOp n≠1→nVar n=0)∧(nOp n≠2→NoB n)∧(nOp n≠4→nB n=0)∧(¬OneP n→nA n=0)):=rfl
 rw[hp]
 unfold Ca
 rw[hb,h1,e1,e1,e0,e2,e3,e4]
 by_cases a1:nOp n=1<;>by_cases a2:nOp n=2<;>by_cases a3:nOp n=4<;>by_cases a4:OneP n<;>by_cases a5:nVar n=0<;>by_cases a6:NoB n<;>by_cases a7:nB n=0<;>by_cases a8:nA n=0 <;>
  first | (exfalso; omega)| (simp[a1,a2,a3,a4,a5,a6,a7,a8]; done)
theorem RK{d:List Aa.V}{wide:List Int}{n:Ab.V}(hn:NodeB n)(hw:WideB wide)(hd:d.length≤1048576)(hin:KidsIn n wide.length):Ret (B6 n d (kidW wide n)) fun r=>(FormP d n→r=widF d n (sumK wide n))∧(¬FormP d n→r=-1):=by
 have hlen:=hn.1
 have hkl:(kidW wide n).length=(nKids n).length:=by unfold kidW; rw[List.length_map]
 have hS:=LQ hw hin
 have e1:∀x:Int,(n.1==x)=decide (nOp n=x):=fun x=>Ln
 have e2:((((kidW wide n).length:Nat):Int)==0)=decide ((nKids n).length=0):=by rw[RC,hkl]
 have e3:((((kidW wide n).length:Nat):Int) !=1)=decide ((nKids n).length≠1):=by rw[Lf,decide_eq_decide]; omega
 have e4:decide ((((kidW wide n).length:Nat):Int)>1)=decide (2≤(nKids n).length):=by rw[decide_eq_decide]; omega
 have e5:Aq n.2.1 0 (wI ((d.length:Int)-1))=decide (0≤nVar n∧nVar n<(d.length:Int)):=by
  rw[FQ,wrap64 (x:=(d.length:Int)-1) (by omega) (by omega),decide_eq_decide]
  show 0≤nVar n∧nVar n≤(d.length:Int)-1↔_
  omega
 have e6:Aq n.2.2.1 0 4096=decide (0≤nA n∧nA n≤4096):=FQ _ _ _
 have e7:Aq n.2.2.1 1 4096=decide (1≤nA n∧nA n≤4096):=FQ _ _ _
 have hone:OneP n↔4≤nOp n∧nOp n≤9:=Iff.rfl
 obtain⟨f,hf⟩:∃f,f=(bif decide ((((kidW wide n).length:Nat):Int)>0) then(kidW wide n).getD 0 0 else 0):=⟨_,rfl⟩
 have hf1:(nKids n).length=1→f=sumK wide n:=fun h=>by
  rw[hf,decide_eq_true (by omega),cond_true]
  unfold sumK
  obtain⟨x,hx⟩:=List.length_eq_one_iff.1 (show(kidW wide n).length=1 by omega)
  rw[hx]; simp
 unfold B6 mkr
 rw[show CO n d (kidW wide n)=some f by
  unfold CO
  rw[hf]
  by_cases h:(nKids n).length=0
  ·rw[decide_eq_false (by omega)]; rfl
  ·rw[decide_eq_true (by omega),cond_true,cond_true,if_pos ⟨by omega,by omega⟩]; rfl,Option.bind_some,e5,e6,e7]
 rw[e1,e1,e1,e1,e1,e1,e1,e1,e2,e3,e4]
 have hF:FormP d n↔(nOp n=1∧(nKids n).length=0∧0≤nVar n∧nVar n<(d.length:Int))∨(nOp n=2∧(nKids n).length=0∧ValP n)∨(nOp n=3∧2≤(nKids n).length)∨(4≤nOp n∧nOp n≤9∧(nKids n).length=1):=Iff.rfl
 have neg1:¬FormP d n→Ret (some (-1:Int)) fun r=>(FormP d n→r=widF d n (sumK wide n))∧(¬FormP d n→r=-1):=fun h=>Ret.mk ⟨fun h'=>absurd h' h,fun _=>rfl⟩
 have pos:∀v:Int,FormP d n→v=widF d n (sumK wide n)→Ret (some v) fun r=>(FormP d n→r=widF d n (sumK wide n))∧(¬FormP d n→r=-1):=fun v h e=>Ret.mk ⟨fun _=>e,fun h'=>absurd h h'⟩
 by_cases c1:nOp n=1∧(nKids n).length=0∧(0≤nVar n∧nVar n<(d.length:Int))
 ·rw[←Bool.decide_and,←Bool.decide_and,decide_eq_true c1,cond_true,if_pos (show 0≤n.2.1∧n.2.1<(d.length:Int) from c1.2.2)]
  exact pos _ (hF.2 (.inl c1)) (by unfold widF; rw[if_pos c1.1]; rfl)
 ·rw[←Bool.decide_and,←Bool.decide_and,decide_eq_false c1,cond_false]
  obtain⟨b,hb1,hb2⟩:∃b,CN n (kidW wide n) f=some b∧(b=true↔nOp n=2∧(nKids n).length=0∧ValP n):=by
   unfold CN
   rw[e1,e2]
   obtain⟨r,hr,hq⟩:=OQ (w:=nW n) hn.2.2 hn.2.1
   have e6:Hz n.2.2.2.2.1=some r:=hr
   rw[e6]
   have hq:r=true↔ValP n:=hq
   by_cases a2:nOp n=2
   ·by_cases a3:(nKids n).length=0
    ·rw[decide_eq_true a2,decide_eq_true a3]
     exact⟨r,rfl,by rw[hq]; exact⟨fun h=>⟨a2,a3,h⟩,fun h=>h.2.2⟩⟩
    ·rw[decide_eq_true a2,decide_eq_false a3]
     exact⟨false,rfl,fun h=>by(cases h),fun h=>absurd h.2.1 a3⟩
   ·rw[decide_eq_false a2]
    exact⟨false,rfl,fun h=>by(cases h),fun h=>absurd h.1 a2⟩
  rw[hb1,Option.bind_some]
  cases b with
  | true =>
   have c2:=hb2.1 rfl
   exact pos _ (hF.2 (.inr (.inl c2))) (by unfold widF; rw[if_neg (by omega),if_pos c2.1]; rfl)
  | false =>
   have c2:¬(nOp n=2∧(nKids n).length=0∧ValP n):=fun h=>by have:=hb2.2 h; cases this
   rw[cond_false,←Bool.decide_and]
   by_cases c3:nOp n=3∧2≤(nKids n).length
   ·rw[decide_eq_true c3,cond_true]
    unfold Hj
    have:=AG (f:=AR (kidW wide n) (((kidW wide n).length:Nat):Int)) (fun k=>((((kidW wide n).take k).sum:Int),(k:Int))) (t:=sumK wide n) (kidW wide n).length (fun k hk=>by
     unfold AR Du
     rw[hkl] at hk
     have hb:=MI hw hin k (by omega)
     have hwk:=Pc hw (hin _ (Az (z:=0) hk))
     have hg:(kidW wide n).getD k 0=wide.getD ((nKids n).getD k 0).toNat 0:=by unfold kidW; exact LT (fun k=>wide.getD k.toNat 0) hk
     simp only
     rw[hkl,dlt hk,cond_true,if_pos (rng hk),Int.toNat_natCast,stepN hk (by omega),N8 hk]
     show some (Sum.inl (wI (((kidW wide n).take k).sum+(kidW wide n).getD k 0),_))=_
     rw[hg,wrap64 (by omega) (by omega)]) (by
     unfold AR Du
     simp only
     rw[dge,cond_false,List.take_of_length_le (Nat.le_refl _)]; rfl)
    rw[show fix (AR (kidW wide n) (((kidW wide n).length:Nat):Int)) (0,0)=some (sumK wide n) from this]
    exact pos _ (hF.2 (.inr (.inr (.inl c3)))) (by unfold widF; simp[c3.1])
   ·rw[decide_eq_false c3,cond_false]
    by_cases c4:(nKids n).length=1
    ·rw[decide_eq_false (fun h=>h c4),cond_false]
     have hfS:=hf1 c4
     have hSb:0≤f∧f≤4096:=by omega
     have hpos:4≤nOp n∧nOp n≤9→FormP d n:=fun h=>hF.2 (.inr (.inr (.inr ⟨h.1,h.2,c4⟩)))
     have e4':(decide (n.2.2.2.1≥0)&&(decide (n.2.2.2.1≤n.2.2.1)&&decide (n.2.2.1<f)))=decide (0≤nB n∧nB n≤nA n∧nA n<f):=by
      show(decide (nB n≥0)&&(decide (nB n≤nA n)&&decide (nA n<f)))=_
      rw[←Bool.decide_and,←Bool.decide_and]
     rw[e4',←Bool.decide_and,←Bool.decide_and,←Bool.decide_and,←Bool.decide_and]
     have ecx:(n.2.2.1:Int)=nA n:=rfl
     have ecb:(n.2.2.2.1:Int)=nB n:=rfl
     have hw0:∀v,v=widF d n f→v=widF d n (sumK wide n):=fun v h=>by rw[←hfS]; exact h
     by_cases a4:nOp n=4
     ·by_cases h:0≤nB n∧nB n≤nA n∧nA n<f
      ·rw[decide_eq_true ⟨a4,h⟩,cond_true]
       refine pos _ (hpos (by omega)) (hw0 _ ?_)
       show wI (wI (nA n-nB n)+1)=_
       rw[wrap64 (x:=nA n-nB n) (by omega) (by omega),wrap64 (by omega) (by omega)]
       unfold widF; simp[a4,h]
      ·have:∀v:Int,v=-1→v=widF d n f:=fun v hv=>by unfold widF; simp[a4,h,hv]
       simp[a4,h]
       exact pos _ (hpos (by omega)) (hw0 _ (this _ rfl))
     ·by_cases a5:nOp n=5∨nOp n=6
      ·by_cases h:0≤nA n∧nA n≤4096
       ·have:(bif decide (nOp n=5) then decide (0≤nA n∧nA n≤4096) else decide (nOp n=6∧0≤nA n∧nA n≤4096))=true:=by
          rcases a5 with h' | h'<;>simp[h',h]
        rw[decide_eq_false (by omega),cond_false,this,cond_true]
        refine pos _ (hpos (by omega)) (hw0 _ ?_)
        show wI (f+nA n)=_
        rw[wrap64 (by omega) (by omega)]
        unfold widF; rcases a5 with h' | h'<;>simp[h',h]
       ·have:∀v:Int,v=-1→v=widF d n f:=fun v hv=>by unfold widF; rcases a5 with h' | h'<;>simp[h',h,hv]
        have h2:=pos _ (hpos (by omega)) (hw0 _ (this _ rfl))
        rcases a5 with h' | h'<;>simp[h',h]<;>exact h2
      ·by_cases a7:nOp n=7∨nOp n=8
       ·by_cases h:0≤nA n∧nA n≤4096
        ·have h2:=pos f (hpos (by omega)) (hw0 _ (by unfold widF; rcases a7 with h' | h'<;>simp[h',h]))
         rcases a7 with h' | h'<;>simp[h',h]<;>exact h2
        ·have:∀v:Int,v=-1→v=widF d n f:=fun v hv=>by unfold widF; rcases a7 with h' | h'<;>simp[h',h,hv]
         have h2:=pos _ (hpos (by omega)) (hw0 _ (this _ rfl))
         rcases a7 with h' | h'<;>simp[h',h]<;>exact h2
       ·by_cases a9:nOp n=9
        ·by_cases h:1≤nA n∧nA n≤4096
         ·have h1:0≤f*nA n:=Int.mul_nonneg hSb.1 (by omega)
          have h2:f*nA n≤4096*4096:=Int.mul_le_mul hSb.2 h.2 (by omega) (by omega)
          have h3:=pos (wI (f*nA n)) (hpos (by omega)) (hw0 _ (by rw[wrap64 (by omega) (by omega)]; unfold widF; simp[a9,h]))
          simp[a9,h]
          exact h3
         ·have:∀v:Int,v=-1→v=widF d n f:=fun v hv=>by unfold widF; simp[a9,h,hv]
          have h2:=pos _ (hpos (by omega)) (hw0 _ (this _ rfl))
          simp[a9,h]
          exact h2
        ·simp only[not_or] at a5 a7
         have h2:=neg1 (by rw[hF]; omega)
         simp[a4,a5,a7,a9]
         exact h2
    ·rw[decide_eq_true c4,cond_true]
     exact neg1 (by rw[hF]; intro h; rcases h with h | h | h | h; exact c1 h; exact c2 h; exact c3 h; exact c4 h.2.2)
end Go.Proofs.X
namespace Go.Proofs.X
open Go Go.Va
set_option maxRecDepth 100000
def nd(t:List Ab.V)(i:Nat):Ab.V:=t.getD i (Ty.zero Ab)
def Pre(d:List Aa.V)(t:List Ab.V)(ws:List Int):Prop:=ws.length≤t.length∧∀j,j<ws.length→NodeP d (ws.take j) (nd t j) (ws.getD j 0)
def UsedBy(t:List Ab.V)(k i:Nat):Prop:=∃j,j<i∧(k:Int)∈nKids (nd t j)
def TermP(d:List Aa.V)(t:List Ab.V)(ws:List Int):Prop:=1≤t.length∧t.length≤400∧ws.length=t.length∧Pre d t ws∧∀k,k+1<t.length→UsedBy t k t.length
def TermB(t:List Ab.V):Prop:=t.length≤1048576∧∀n∈t,NodeB n
theorem Pre.take{d:List Aa.V}{t:List Ab.V}{ws:List Int}(h:Pre d t ws)(i:Nat):Pre d t (ws.take i):=by
 have hl:=h.1
 refine⟨by rw[List.length_take]; omega,fun j hj=>?_⟩
 rw[List.length_take] at hj
 have:=h.2 j (by omega)
 rwa [List.take_take,Nat.min_eq_left (by omega),show(ws.take i).getD j 0=ws.getD j 0 by simp[List.getD,show j<i by omega]]
theorem Pre.unique{d:List Aa.V}{t:List Ab.V}{a b:List Int}(ha:Pre d t a)(hb:Pre d t b)(hl:a.length=b.length):a=b:=by
 have:∀k,k≤a.length→a.take k=b.take k:=by
  intro k
  induction k with
  | zero=>simp
  | succ k ih =>
   intro hk
   have e:=ih (by omega)
   have h1:=ha.2 k (by omega)
   have h2:=hb.2 k (by omega)
   rw[AB (show k<a.length by omega) (z:=0),AB (show k<b.length by omega) (z:=0),e]
   rw[e] at h1
   rw[h1.2.2.2.1,h2.2.2.2.1]
 have:=this a.length (Nat.le_refl _)
 rwa [List.take_of_length_le (Nat.le_refl _),List.take_of_length_le (by omega)] at this
theorem Pre.wide{d:List Aa.V}{t:List Ab.V}{ws:List Int}(h:Pre d t ws)(hl:t.length≤1048576):WideB ws:=by
 refine⟨Nat.le_trans h.1 hl,fun w hw=>?_⟩
 obtain⟨j,hj,rfl⟩:=List.getElem_of_mem hw
 have:=(h.2 j hj).2.2.2.2
 rwa [show ws.getD j 0=ws[j] by simp[List.getD,hj]] at this
theorem Pre.snoc{d:List Aa.V}{t:List Ab.V}{ws:List Int}{w:Int}(h:Pre d t ws)(hl:ws.length<t.length)(hn:NodeP d ws (nd t ws.length) w):Pre d t (ws++[w]):=by
 refine⟨by rw[List.length_append]; exact hl,fun j hj=>?_⟩
 rw[List.length_append] at hj
 simp only[List.length_cons,List.length_nil] at hj
 rcases Nat.lt_or_ge j ws.length with h' | h'
 ·rw[List.take_append_of_le_length (by omega),show(ws++[w]).getD j 0=ws.getD j 0 by simp[List.getD,List.getElem?_append,h']]
  exact h.2 j h'
 ·have:j=ws.length:=by omega
  subst this
  rw[NE,List.take_append_of_le_length (Nat.le_refl _),List.take_of_length_le (Nat.le_refl _)]
  exact hn
theorem TermP.node{d:List Aa.V}{t:List Ab.V}{ws ws':List Int}(h:TermP d t ws')(hp:Pre d t ws)(hl:ws.length<t.length):∃w,NodeP d ws (nd t ws.length) w:=by
 have e:ws=ws'.take ws.length:=hp.unique (h.2.2.2.1.take _) (by rw[List.length_take,h.2.2.1]; omega)
 have:=h.2.2.2.1.2 ws.length (by rw[h.2.2.1]; exact hl)
 rw[←e] at this
 exact⟨_,this⟩
theorem Vv(wide:List Int)(n:Ab.V):fillN (fun m=>wide.getD ((nKids n).getD m 0).toNat 0) 0 (nKids n).length (nKids n).length=kidW wide n:=by
 refine List.ext_getElem (by simp[fillN,kidW]) fun i h1 h2=>?_
 have:i<(nKids n).length:=by simpa [fillN] using h1
 simp[fillN,kidW,List.getD,this]
theorem LB{l:List Int}{x:Int}:x∈l↔∃m,m<l.length∧l.getD m 0=x:=by
 constructor
 ·intro h
  obtain⟨m,hm,rfl⟩:=List.getElem_of_mem h
  exact⟨m,hm,by simp[List.getD,hm]⟩
 ·rintro⟨m,hm,rfl⟩
  exact Az hm
theorem Mk{l:List Bool}{k j:Nat}(hk:k<l.length):(l.set k true).getD j false=if j=k then true else l.getD j false:=by
 by_cases h:j=k
 ·subst h; simp[List.getD,hk]
 ·simp[List.getD,h,show ¬k=j from fun e=>h e.symm]
theorem Rs {D:List Aa.V} {C E:Int} {t:Aj.V} {q:Ab.V} {ws out:List Int} {used:List Bool} {n:Ab.V} {N:Nat} (hn:NodeB n) (hl:ws.length<N) (hN:N≤1048576) (ho:out=ws++List.replicate (N-ws.length) 0) (hu:used.length=N) :
    Ret (GE D C (ws.length:Int) E t out q (nKids n) ((nKids n).length:Int) 0 used (List.replicate (nKids n).length 0)) fun r=>(∃x,r=.inl x∧¬KidsIn n ws.length)∨(∃u,r=.inr (kidW ws n,u)∧KidsIn n ws.length∧u.length=N∧∀k:Nat,k<N→(u.getD k false=true↔used.getD k false=true∨(k:Int)∈nKids n)):=by
 unfold GE
 have hlen:=hn.1
 have hol:out.length=N:=by rw[ho,List.length_append,List.length_replicate]; omega
 have hget:∀k:Nat,k<ws.length→out.getD k 0=ws.getD k 0:=fun k hk=>by rw[ho]; simp[List.getD,List.getElem?_append,hk]
 have:=B1 (f:=C3 D C (ws.length:Int) E t out q (nKids n) ((nKids n).length:Int)) (fun j (u:List Bool)=>((j:Int),u,fillN (fun m=>ws.getD ((nKids n).getD m 0).toNat 0) 0 (nKids n).length j)) (nKids n).length
  (fun j u=>(∀m,m<j→0≤(nKids n).getD m 0∧(nKids n).getD m 0<(ws.length:Int))∧u.length=N∧∀k:Nat,k<N→(u.getD k false=true↔used.getD k false=true∨∃m,m<j∧(nKids n).getD m 0=(k:Int)))
  (Q:=fun r=>(∃x,r=.inl x∧¬KidsIn n ws.length)∨(∃u,r=.inr (kidW ws n,u)∧KidsIn n ws.length∧u.length=N∧∀k:Nat,k<N→(u.getD k false=true↔used.getD k false=true∨(k:Int)∈nKids n))) (fun j u hj hI=>?_) (fun u hI=>?_) (s0:=used) ⟨fun m hm=>by omega,hu,fun k _=>⟨fun h=>.inl h,fun h=>by rcases h with h | ⟨m,hm,_⟩; exact h; omega⟩⟩
 ·rw[fillN_zero] at this; exact this
 ·unfold C3 GS
  simp only
  rw[dlt hj,cond_true,if_pos (rng hj),Int.toNat_natCast,FQ,wrap64 (x:=(ws.length:Int)-1) (by omega) (by omega)]
  show Ret (bif !decide (0≤(nKids n).getD j 0∧(nKids n).getD j 0≤(ws.length:Int)-1) then _ else _) _
  by_cases h:0≤(nKids n).getD j 0∧(nKids n).getD j 0≤(ws.length:Int)-1
  ·rw[decide_eq_true h]
   simp only[Bool.not_true,cond_false]
   obtain⟨k,hk⟩:∃k:Nat,(nKids n).getD j 0=(k:Int):=⟨((nKids n).getD j 0).toNat,by omega⟩
   have hkl:k<ws.length:=by omega
   rw[show(nKids n).getD j (Ty.zero (.int .i64))=(k:Int) from hk,Int.toNat_natCast,if_pos ⟨by omega,by rw[hol]; omega⟩,if_pos ⟨by omega,by rw[hI.2.1]; omega⟩,fillN_len,if_pos (rng hj),stepN hj (by omega)]
   refine Ret.mk ⟨u.set k true,?_,fun m hm=>?_,by rw[List.length_set]; exact hI.2.1,fun i hi=>?_⟩
   ·rw[←fillN_set]
    have hg:out.getD k (Ty.zero (.int .i64))=ws.getD ((nKids n).getD j 0).toNat 0:=by
     rw[hk,Int.toNat_natCast]; exact hget k hkl
    rw[hg]
   ·rcases Nat.lt_or_ge m j with h' | h'
    ·exact hI.1 m h'
    ·rw[show m=j by omega]; omega
   ·rw[Mk (by rw[hI.2.1]; omega)]
    by_cases hik:i=k
    ·subst hik
     simp only[if_true,true_iff]
     exact .inr ⟨j,by omega,hk⟩
    ·rw[if_neg hik,hI.2.2 i hi]
     constructor
     ·rintro(h | ⟨m,h1,h2⟩)
      ·exact .inl h
      ·exact .inr ⟨m,by omega,h2⟩
     ·rintro(h | ⟨m,h1,h2⟩)
      ·exact .inl h
      ·rcases Nat.lt_or_ge m j with h' | h'
       ·exact .inr ⟨m,h',h2⟩
       ·have:m=j:=by omega
        subst this
        rw[hk] at h2; omega
  ·rw[decide_eq_false h]
   exact Ret.mk (.inl ⟨_,rfl,fun hk=>h (by have:=hk _ (Az (z:=0) hj); omega)⟩)
 ·unfold C3 GS
  simp only
  rw[dge,cond_false]
  refine Ret.mk (.inr ⟨u,by rw[Vv],fun k hk=>?_,hI.2.1,fun k hk=>?_⟩)
  ·obtain⟨m,hm,rfl⟩:=LB.1 hk
   exact hI.1 m hm
  ·rw[hI.2.2 k hk,LB]
theorem RO{u:List Bool}(hl:u.length≤1048576):Ret (Bq u false) fun r=>r=true↔∃k,k<u.length∧u.getD k false=false:=by
 unfold Bq D0 GA
 refine Ret.bind (P:=fun r=>0≤r↔∃k,k<u.length∧u.getD k false=false) (Ret.bind (P:=fun t=>(∃j:Nat,t=.inl (j:Int)∧j<u.length∧u.getD j false=false)∨(t=.inr ()∧∀j,j<u.length→u.getD j false=true)) ?_ fun t ht=>?_) fun r hr=>Ret.mk (by rw[decide_eq_true_iff]; exact hr)
 ·refine B1 (fun j (_:Unit)=>(j:Int)) u.length (fun j _=>∀k,k<j→u.getD k false=true) (fun j _ hj hJ=>?_) (fun _ hJ=>?_) (s0:=()) (fun i h=>by omega)
  ·unfold BB CY
   rw[dlt hj,cond_true,if_pos (rng hj),Int.toNat_natCast]
   show Ret (bif false==u.getD j false then _ else _) _
   cases he:u.getD j false with
   | false=>exact Ret.mk (.inl ⟨j,rfl,hj,he⟩)
   | true =>
    rw[stepN hj (by omega)]
    refine Ret.mk ⟨(),rfl,fun k hk=>?_⟩
    rcases Nat.lt_or_ge k j with h' | h'
    ·exact hJ k h'
    ·rw[show k=j by omega]; exact he
  ·unfold BB CY
   rw[dge,cond_false]
   exact Ret.mk (.inr ⟨rfl,hJ⟩)
 ·rcases ht with ⟨j,rfl,h1,h2⟩| ⟨rfl,h⟩
  ·exact Ret.mk ⟨fun _=>⟨j,h1,h2⟩,fun _=>by show(0:Int)≤(j:Int); omega⟩
  ·exact Ret.mk ⟨fun h'=>absurd (show(0:Int)≤-1 from h') (by omega),fun⟨j,h1,h2⟩=>by rw[h j h1] at h2; cases h2⟩
theorem OT{d:List Aa.V}{t:List Ab.V}(ht:TermB t)(hd:d.length≤1048576):Ret (IV d (t,())) fun r=>(r.1=true∧TermP d t r.2)∨(r.1=false∧¬∃ws,TermP d t ws):=by
 unfold IV mkr
 show Ret (bif decide ((t.length:Int)<1)||decide ((t.length:Int)>400) then _ else _) _
 by_cases hl:1≤t.length∧t.length≤400
 ·rw[decide_eq_false (by omega),decide_eq_false (by omega),Bool.or_false,cond_false]
  rw[show GD d (t,()) (t.length:Int)=some (List.replicate t.length 0,List.replicate t.length false) by
   unfold GD
   rw[if_pos ⟨rfl,by omega,by omega,by omega,by omega⟩,if_pos ⟨rfl,by omega,by omega,by omega,by omega⟩,Int.toNat_natCast],Option.bind_some]
  refine Ret.bind (P:=fun r=>(∃x,r=.inl x∧¬∃ws,TermP d t ws)∨(∃ws u,r=.inr (u,ws)∧ws.length=t.length∧Pre d t ws∧u.length=t.length∧∀k:Nat,k<t.length→(u.getD k false=true↔UsedBy t k t.length))) ?_ fun r hr=>?_
  ·unfold KJ
   have:=B1 (f:=C7 d (t,()) (t.length:Int) (t.length:Int)) (fun i (s:List Int×List Bool)=>((i:Int),s.1,s.2)) t.length
    (fun i s=>∃ws:List Int,ws.length=i∧Pre d t ws∧s.1=ws++List.replicate (t.length-i) 0∧s.2.length=t.length∧∀k:Nat,k<t.length→(s.2.getD k false=true↔UsedBy t k i))
    (Q:=fun r=>(∃x,r=.inl x∧¬∃ws,TermP d t ws)∨(∃ws u,r=.inr (u,ws)∧ws.length=t.length∧Pre d t ws∧u.length=t.length∧∀k:Nat,k<t.length→(u.getD k false=true↔UsedBy t k t.length))) (fun i s hi hI=>?_) (fun s hI=>?_) (s0:=(List.replicate t.length 0,List.replicate t.length false)) ⟨[],rfl,⟨Nat.zero_le _,fun j hj=>by simp at hj⟩,rfl,List.length_replicate,fun k hk=>by
     have h0:(List.replicate t.length false).getD k false=false:=by simp[List.getD,hk]
     constructor
     ·intro h; rw[h0] at h; cases h
     ·rintro⟨j,hj,_⟩; omega⟩
   ·exact this
   ·obtain⟨out,used⟩:=s
    obtain⟨ws,rfl,hp,ho,hul,hu⟩:=hI
    simp only at ho hul hu
    have hn:NodeB (nd t ws.length):=ht.2 _ (Az hi)
    have hkl:=hn.1
    unfold C7 Ha
    simp only
    rw[show decide ((ws.length:Int)<(t.length:Int))=true from dlt hi,cond_true,if_pos (rng hi),Int.toNat_natCast]
    show Ret (bif decide (((nKids (nd t ws.length)).length:Int)>4096) then _ else if Ty.row (.int .i64)=true∧(0:Int)≤((nKids (nd t ws.length)).length:Int)∧((nKids (nd t ws.length)).length:Int)≤((nKids (nd t ws.length)).length:Int)∧((8:Nat):Int)*((nKids (nd t ws.length)).length:Int)≤(281474976710656:Int)∧((nKids (nd t ws.length)).length:Int)≤(9223372036854775807:Int) then(GE d (t.length:Int) (ws.length:Int) (t.length:Int) (t,()) out (nd t ws.length) (nKids (nd t ws.length)) ((nKids (nd t ws.length)).length:Int) 0 used (List.replicate ((nKids (nd t ws.length)).length:Int).toNat 0)).bind _ else none) _
    by_cases hk4:(nKids (nd t ws.length)).length>4096
    ·rw[decide_eq_true (by omega)]
     refine Ret.mk (.inl ⟨_,rfl,fun⟨ws',h'⟩=>?_⟩)
     obtain⟨w,hw⟩:=h'.node hp hi
     have hb:=LQ (hp.wide ht.1) hw.1
     have hform:=hw.2.2.1
     have heq:=hw.2.2.2.1
     have hw4:=hw.2.2.2.2.2
     rcases hform with h | h | h | h
     ·omega
     ·omega
     ·have:widF d (nd t ws.length) (kidW ws (nd t ws.length)).sum=sumK ws (nd t ws.length):=by unfold sumK widF; simp[h.1]
      omega
     ·omega
    ·rw[decide_eq_false (by omega),cond_false,if_pos ⟨rfl,by omega,by omega,by omega,by omega⟩,Int.toNat_natCast]
     refine Ret.bind (Rs hn hi ht.1 ho hul) fun r hr=>?_
     rcases hr with ⟨x,rfl,h⟩| ⟨u,rfl,hin,hul',hu'⟩
     ·refine Ret.mk (.inl ⟨_,rfl,fun⟨ws',h'⟩=>?_⟩)
      obtain⟨w,hw⟩:=h'.node hp hi
      exact h hw.1
     ·simp only[Sum.elim_inr]
      obtain⟨r,hr,hq⟩:=RK (d:=d) hn (hp.wide ht.1) hd hin
      rw[show B6 (t.getD ws.length (Ty.zero Ab)) d (kidW ws (nd t ws.length))=some r from hr,Option.bind_some]
      have hol:out.length=t.length:=by rw[ho,List.length_append,List.length_replicate]; omega
      rw[if_pos ⟨by omega,by rw[hol]; omega⟩]
      unfold Jf
      rw[show Ca (t.getD ws.length (Ty.zero Ab))=_ from Xi (nd t ws.length),List.length_set,if_pos ⟨by omega,by rw[hol]; omega⟩,Int.toNat_natCast]
      have hgs:(out.set ws.length r).getD ws.length (Ty.zero (.int .i64))=r:=by simp[List.getD,hol,hi]
      rw[hgs,FQ]
      have hset:out.set ws.length r=(ws++[r])++List.replicate (t.length-(ws.length+1)) 0:=by
       rw[ho,show t.length-ws.length=(t.length-(ws.length+1))+1 by omega,List.replicate_succ]
       simp
      by_cases hpl:PlainP (nd t ws.length)
      ·by_cases hrg:1≤r∧r≤4096
       ·rw[decide_eq_true hpl,decide_eq_true hrg]
        simp only[Bool.not_true,cond_false,Option.bind_some]
        have hform:FormP d (nd t ws.length):=by
         by_cases hf:FormP d (nd t ws.length)
         ·exact hf
         ·have:=hq.2 hf; omega
        have hnode:NodeP d ws (nd t ws.length) r:=⟨hin,hpl,hform,hq.1 hform,hrg⟩
        refine Ret.mk ⟨(out.set ws.length r,u),by rw[stepN hi ht.1],ws++[r],by simp,hp.snoc hi hnode,hset,hul',fun k hk=>?_⟩
        rw[hu' k hk,hu k hk]
        constructor
        ·rintro(⟨j,h1,h2⟩| h)
         ·exact⟨j,by omega,h2⟩
         ·exact⟨ws.length,by omega,h⟩
        ·rintro⟨j,h1,h2⟩
         rcases Nat.lt_or_ge j ws.length with h' | h'
         ·exact .inl ⟨j,h',h2⟩
         ·rw[show j=ws.length by omega] at h2; exact .inr h2
       ·rw[decide_eq_true hpl,decide_eq_false hrg]
        refine Ret.mk (.inl ⟨_,rfl,fun⟨ws',h'⟩=>?_⟩)
        obtain⟨w,hw⟩:=h'.node hp hi
        have:=hq.1 hw.2.2.1
        have h3:=hw.2.2.2
        unfold sumK at this
        rw[←this] at h3
        exact hrg (by rw[←h3.1]; exact h3.2)
      ·rw[decide_eq_false hpl]
       refine Ret.mk (.inl ⟨_,rfl,fun⟨ws',h'⟩=>?_⟩)
       obtain⟨w,hw⟩:=h'.node hp hi
       exact hpl hw.2.1
   ·obtain⟨out,used⟩:=s
    obtain⟨ws,hwl,hp,ho,hul,hu⟩:=hI
    simp only at ho hul hu
    unfold C7 Ha
    simp only
    rw[dge,cond_false]
    rw[Nat.sub_self,List.replicate_zero,List.append_nil] at ho
    subst ho
    exact Ret.mk (.inr ⟨out,used,rfl,hwl,hp,hul,hu⟩)
  ·rcases hr with ⟨x,rfl,h⟩| ⟨ws,u,rfl,hwl,hp,hul,hu⟩
   ·exact Ret.mk (.inr ⟨rfl,h⟩)
   ·simp only[Sum.elim_inr]
    have e1:wI ((t.length:Int)-1)=((t.length-1:Nat):Int):=wrapN (by omega) (by omega)
    rw[e1,if_pos ⟨by omega,by omega,by rw[hul]; omega⟩,Int.toNat_natCast,List.drop_zero]
    have htl:(u.take (t.length-1)).length=t.length-1:=by rw[List.length_take]; omega
    have hgt:∀k,k<t.length-1→(u.take (t.length-1)).getD k false=u.getD k false:=fun k hk=>by simp[List.getD,hk]
    refine Ret.bind (RO (by omega)) fun r hr=>Ret.mk ?_
    rw[htl] at hr
    cases r with
    | false =>
     refine .inl ⟨rfl,hl.1,hl.2,hwl,hp,fun k hk=>(hu k (by omega)).1 ?_⟩
     cases hc:u.getD k false with
     | true=>rfl
     | false=>have:=hr.2 ⟨k,by omega,by rw[hgt k (by omega)]; exact hc⟩; cases this
    | true =>
     obtain⟨k,hk,hf⟩:=hr.1 rfl
     rw[hgt k hk] at hf
     refine .inr ⟨rfl,fun⟨ws',h'⟩=>?_⟩
     have:=(hu k (by omega)).2 (h'.2.2.2.2 k (by omega))
     rw[this] at hf; cases hf
 ·have hc:(decide ((t.length:Int)<1)||decide ((t.length:Int)>400))=true:=by simp; omega
  rw[hc]
  exact Ret.mk (.inr ⟨rfl,fun⟨ws,h⟩=>hl ⟨h.1,h.2.1⟩⟩)
end Go.Proofs.X
