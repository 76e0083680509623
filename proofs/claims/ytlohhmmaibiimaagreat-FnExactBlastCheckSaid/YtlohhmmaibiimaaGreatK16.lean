import Derived.Test.YtlohhmmaibiimaaGreatK15
set_option linter.unusedVariables false
set_option linter.unusedSimpArgs false
namespace Go.Va
def OkS(n:Nat)(S:List Int):Prop:=(∀x∈S,x≠0∧x.natAbs≤n)∧(S.map Int.natAbs).Nodup
def ClP(n:Nat)(c:List Int):Prop:=c.length≤400∧(∀m∈c,m≠0∧m.natAbs≤n)∧c.Pairwise fun a b=>a.natAbs<b.natAbs
def CnP(n:Nat)(L:List (List Int)):Prop:=n≤400∧L.length≤4000∧∀c∈L,ClP n c
def atS(S:List Int)(k:Nat):Int:=if(k:Int)∈S then k else if -(k:Int)∈S then -k else 0
def isV(n:Nat)(S:List Int):List Int:=(List.range (n+1)).map (atS S)
theorem OkS.nil{n:Nat}:OkS n []:=⟨fun x h=>absurd h List.not_mem_nil,List.nodup_nil⟩
theorem Pl{S:List Int}{m:Int}:m.natAbs∈S.map Int.natAbs↔m∈S∨-m∈S:=by
 rw[List.mem_map]
 constructor
 ·rintro⟨x,hx,e⟩
  rcases Int.natAbs_eq_natAbs_iff.1 e with rfl | rfl
  ·exact .inl hx
  ·exact .inr (by simpa using hx)
 ·rintro(h | h)
  ·exact⟨m,h,rfl⟩
  ·exact⟨-m,h,by simp⟩
theorem OkS.snoc{n:Nat}{S:List Int}{m:Int}:OkS n (S++[m])↔OkS n S∧m≠0∧m.natAbs≤n∧m∉S∧-m∉S:=by
 unfold OkS
 rw[List.map_append,List.nodup_append]
 constructor
 ·rintro⟨h1,h2,_,h3⟩
  have hm:=h1 m (by simp)
  have:m.natAbs∉S.map Int.natAbs:=fun h=>h3 _ h m.natAbs (by simp) rfl
  rw[Pl,not_or] at this
  exact⟨⟨fun x hx=>h1 x (by simp[hx]),h2⟩,hm.1,hm.2,this.1,this.2⟩
 ·rintro⟨⟨h1,h2⟩,h3,h4,h5,h6⟩
  refine⟨fun x hx=>?_,h2,by simp,fun a ha b hb=>?_⟩
  ·rcases List.mem_append.1 hx with h | h
   ·exact h1 x h
   ·rw[List.mem_singleton.1 h]; exact⟨h3,h4⟩
  ·rintro rfl
   have:a=m.natAbs:=by simpa using hb
   subst this
   rcases Pl.1 ha with h | h
   ·exact h5 h
   ·exact h6 h
theorem OkS.fore{n:Nat}{S T:List Int}(h:OkS n (S++T)):OkS n S:=by
 refine⟨fun x hx=>h.1 x (by simp[hx]),?_⟩
 have:=h.2
 rw[List.map_append,List.nodup_append] at this
 exact this.1
theorem Qw:∀(n:Nat) (l:List Nat),l.Nodup→(∀x∈l,1≤x∧x≤n)→l.length≤n
 | 0,l,_,h=>by
  cases l with
  | nil=>simp
  | cons x l=>have:=h x (by simp); omega
 | n+1,l,hn,h=>by
  have:=Qw n (l.erase (n+1)) (hn.erase _) fun x hx=>by
   have h1:=(hn.mem_erase_iff).1 hx
   have:=h x h1.2
   omega
  have:=List.length_erase (a:=n+1) (l:=l)
  split at this<;>omega
theorem OkS.len{n:Nat}{S:List Int}(h:OkS n S):S.length≤n:=by
 have:=Qw n (S.map Int.natAbs) h.2 fun x hx=>by
  obtain⟨y,hy,rfl⟩:=List.mem_map.1 hx
  have:=h.1 y hy
  omega
 simpa using this
theorem OkS.not_both{n:Nat}{S:List Int}(h:OkS n S){m:Int}(h1:m∈S):-m∉S:=fun h2=>by
 have hm:=(h.1 m h1).1
 obtain⟨a,b,rfl⟩:=List.append_of_mem h1
 have hn:=h.2
 rw[List.map_append,List.map_cons,List.nodup_append,List.nodup_cons] at hn
 obtain⟨_,⟨h4,_⟩,h5⟩:=hn
 rcases List.mem_append.1 h2 with h6 | h6
 ·exact h5 m.natAbs (Pl.2 (.inr h6)) m.natAbs (by simp) rfl
 ·rcases List.mem_cons.1 h6 with h7 | h7
  ·omega
  ·exact h4 (Pl.2 (.inr h7))
theorem Gz(n:Nat)(S:List Int):(isV n S).length=n+1:=by simp[isV]
theorem Pp{n:Nat}{S:List Int}{k:Nat}(h:k≤n):(isV n S).getD k 0=atS S k:=by
 simp[isV,List.getD,show k<n+1 by omega]
theorem VE{n:Nat}{S:List Int}(h:OkS n S){m:Int}(hm:m≠0):atS S m.natAbs=m↔m∈S:=by
 unfold atS
 rcases Int.natAbs_eq m with e | e
 ·rw[←e]
  split
  ·rename_i h1; simp[h1]
  ·rename_i h1; split<;>simp[h1]<;>omega
 ·have e':(m.natAbs:Int)=-m:=by omega
  rw[e']
  split
  ·rename_i h1
   have:=h.not_both h1
   simp at this
   simp[this]; omega
  ·simp only[Int.neg_neg]
   split
   ·rename_i h2; simp[h2]
   ·rename_i h2; simp[h2]; omega
theorem Kr{S:List Int}{m:Int}(hm:m≠0):atS S m.natAbs=0↔m∉S∧-m∉S:=by
 unfold atS
 have go:∀a:Int,a≠0→((if a∈S then a else if -a∈S then -a else 0)=0↔a∉S∧-a∉S):=fun a ha=>by
  split
  ·rename_i h1; exact⟨fun h=>(ha h).elim,fun h=>(h.1 h1).elim⟩
  ·rename_i h1
   split
   ·rename_i h2; exact⟨fun h=>by omega,fun h=>(h.2 h2).elim⟩
   ·rename_i h2; exact⟨fun _=>⟨h1,h2⟩,fun _=>rfl⟩
 rcases Int.natAbs_eq m with e | e
 ·rw[←e]; exact go m hm
 ·have e':(m.natAbs:Int)=-m:=by omega
  rw[e',go (-m) (by omega),Int.neg_neg,and_comm]
theorem So{n:Nat}{S:List Int}{m:Int}(h:OkS n (S++[m]))(k:Nat):atS (S++[m]) k=if k=m.natAbs then m else atS S k:=by
 have hm:=(OkS.snoc.1 h).2.1
 split
 ·rename_i e; subst e; exact(VE h hm).2 (by simp)
 ·rename_i e
  unfold atS
  have h1:(k:Int)≠m:=by omega
  have h2:-(k:Int)≠m:=by omega
  simp[h1,h2]
theorem Pk{n:Nat}{S:List Int}{m:Int}(h:OkS n (S++[m])):(isV n S).set m.natAbs m=isV n (S++[m]):=by
 apply List.ext_getElem (by rw[List.length_set,Gz,Gz])
 intro k h1 h2
 simp only[isV,List.getElem_set,List.getElem_map,List.getElem_range,So h]
 by_cases e:m.natAbs=k
 ·rw[if_pos e,if_pos e.symm]
 ·rw[if_neg e,if_neg (Ne.symm e)]
theorem Wx{n:Nat}{S:List Int}{m:Int}(h:OkS n (S++[m])):(isV n (S++[m])).set m.natAbs 0=isV n S:=by
 have h0:=OkS.snoc.1 h
 apply List.ext_getElem (by rw[List.length_set,Gz,Gz])
 intro k h1 h2
 simp only[isV,List.getElem_set,List.getElem_map,List.getElem_range,So h]
 by_cases e:m.natAbs=k
 ·subst e; rw[if_pos rfl,(Kr h0.2.1).2 ⟨h0.2.2.2.1,h0.2.2.2.2⟩]
 ·rw[if_neg e,if_neg (Ne.symm e)]
def lft(S c:List Int):List Int:=c.filter fun m=>!decide (m∈S)&&!decide (-m∈S)
def St0(S c:List Int):Prop:=(∃m∈c,m∈S)∨2≤(lft S c).length
def St1(S c:List Int)(m:Int):Prop:=(∀m∈c,m∉S)∧lft S c=[m]
def St2(S c:List Int):Prop:=(∀m∈c,m∉S)∧lft S c=[]
theorem Sc(S c:List Int):St0 S c∨(∃m,St1 S c m)∨St2 S c:=by
 by_cases h:∃m∈c,m∈S
 ·exact .inl (.inl h)
 ·have h':∀m∈c,m∉S:=fun m hm hs=>h ⟨m,hm,hs⟩
  match e:lft S c with
  | []=>exact .inr (.inr ⟨h',e⟩)
  | [m]=>exact .inr (.inl ⟨m,h',e⟩)
  | a::b::r=>exact .inl (.inr (by rw[e]; simp))
theorem PX{n:Nat}{S c:List Int}{m:Int}(h:St1 S c m)(hc:ClP n c)(hS:OkS n S):OkS n (S++[m])∧m∈c:=by
 have:m∈lft S c:=by rw[h.2]; simp
 unfold lft at this
 rw[List.mem_filter] at this
 obtain⟨h1,h2⟩:=this
 have h2:m∉S∧-m∉S:=by simpa using h2
 exact⟨OkS.snoc.2 ⟨hS,(hc.2.1 m h1).1,(hc.2.1 m h1).2,h2.1,h2.2⟩,h1⟩
def cG(S c:List Int):Nat:=c.countP fun m=>decide (m∈S)
def cB(S c:List Int):Nat:=c.countP fun m=>decide (-m∈S)
theorem Pj{n:Nat}{S:List Int}(h:OkS n S):∀c:List Int,cG S c+cB S c+(lft S c).length=c.length
 | []=>rfl
 | m::c=>by
  have:=Pj h c
  unfold cG cB lft at this ⊢
  rw[List.countP_cons,List.countP_cons,List.filter_cons]
  by_cases h1:m∈S
  ·have:=h.not_both h1
   simp[h1,this]; omega
  ·by_cases h2:-m∈S
   ·simp[h1,h2]; omega
   ·simp[h1,h2]; omega
theorem Wo{S c:List Int}:0<cG S c↔∃m∈c,m∈S:=by
 unfold cG
 rw[List.countP_pos_iff]
 simp
theorem Ah4(S c:List Int):cG S c≤c.length:=List.countP_le_length
theorem AgK(S c:List Int):cB S c≤c.length:=List.countP_le_length
theorem RT{n:Nat}{S:List Int}{m:Int}(h:OkS n (S++[m])):∀{c:List Int},c.Pairwise (fun a b=>a.natAbs<b.natAbs)→cG (S++[m]) c=cG S c+if m∈c then 1 else 0
 | [],_=>rfl
 | x::c,hp=>by
  rw[List.pairwise_cons] at hp
  have ih:=RT h hp.2
  have h0:=OkS.snoc.1 h
  unfold cG at ih ⊢
  rw[List.countP_cons,List.countP_cons,ih]
  by_cases e:x=m
  ·subst e
   have hx:x∉c:=fun hx=>by have:=hp.1 x hx; omega
   simp[h0.2.2.2.1,hx]
  ·have e':m≠x:=Ne.symm e
   simp[e,e']; omega
theorem Rn{n:Nat}{S:List Int}{m:Int}(h:OkS n (S++[m])):∀{c:List Int},c.Pairwise (fun a b=>a.natAbs<b.natAbs)→cB (S++[m]) c=cB S c+if -m∈c then 1 else 0
 | [],_=>rfl
 | x::c,hp=>by
  rw[List.pairwise_cons] at hp
  have ih:=Rn h hp.2
  have h0:=OkS.snoc.1 h
  unfold cB at ih ⊢
  rw[List.countP_cons,List.countP_cons,ih]
  by_cases e:x=-m
  ·subst e
   have hx:-m∉c:=fun hx=>by have:=hp.1 _ hx; omega
   simp[h0.2.2.2.1,hx]
  ·have e':-m≠x:=Ne.symm e
   have e2:-x≠m:=by omega
   simp[e',e2]; omega
inductive UnitR (L:List (List Int)):List Int→Bool→List Int→Prop
 | done (S:List Int):(∀k,k<L.length→St0 S (L.getD k []))→UnitR L S true S
 | fail (S:List Int) (k:Nat):k<L.length→(∀j,j<k→St0 S (L.getD j []))→St2 S (L.getD k [])→UnitR L S false S
 | step (S:List Int) (k:Nat) (m:Int) (b:Bool) (T:List Int):k<L.length→(∀j,j<k→St0 S (L.getD j []))→St1 S (L.getD k []) m→UnitR L (S++[m]) b T→UnitR L S b T
theorem A9{A:Type}{l:List A}{z:A}{k:Nat}(h:k<l.length):l.getD k z∈l:=by simp[List.getD,h]
theorem firstN(P:Nat→Prop):∀N:Nat,(∀k,k<N→P k)∨∃k,k<N∧(∀j,j<k→P j)∧¬P k
 | 0=>.inl fun k h=>by omega
 | N+1=>by
  rcases firstN P N with h | ⟨k,h1,h2,h3⟩
  ·by_cases hN:P N
   ·exact .inl fun k hk=>by rcases Nat.lt_or_ge k N with h' | h'; exact h k h'; rw[show k=N by omega]; exact hN
   ·exact .inr ⟨N,by omega,h,hN⟩
  ·exact .inr ⟨k,by omega,h2,h3⟩
theorem AaR{n:Nat}{L:List (List Int)}(hL:CnP n L):∀(N:Nat) (S:List Int),OkS n S→n-S.length≤N→∃b T,UnitR L S b T∧OkS n T∧S <+: T:=by
 intro N
 induction N with
 | zero =>
  intro S hS hN
  rcases firstN (fun k=>St0 S (L.getD k [])) L.length with h | ⟨k,h1,h2,h3⟩
  ·exact⟨_,_,.done S h,hS,List.prefix_refl _⟩
  ·rcases Sc S (L.getD k []) with h | ⟨m,h⟩| h
   ·exact(h3 h).elim
   ·have:=(PX h (hL.2.2 _ (A9 h1)) hS).1.len
    rw[List.length_append,List.length_singleton] at this
    omega
   ·exact⟨_,_,.fail S k h1 h2 h,hS,List.prefix_refl _⟩
 | succ N ih =>
  intro S hS hN
  rcases firstN (fun k=>St0 S (L.getD k [])) L.length with h | ⟨k,h1,h2,h3⟩
  ·exact⟨_,_,.done S h,hS,List.prefix_refl _⟩
  ·rcases Sc S (L.getD k []) with h | ⟨m,h⟩| h
   ·exact(h3 h).elim
   ·have h4:=(PX h (hL.2.2 _ (A9 h1)) hS).1
    have:=h4.len
    rw[List.length_append,List.length_singleton] at this
    obtain⟨b,T,h5,h6,h7⟩:=ih (S++[m]) h4 (by rw[List.length_append,List.length_singleton]; omega)
    exact⟨b,T,.step S k m b T h1 h2 h h5,h6,(List.prefix_append _ _).trans h7⟩
   ·exact⟨_,_,.fail S k h1 h2 h,hS,List.prefix_refl _⟩
end Go.Va
namespace Go.Proofs.X
open Go Go.Va
set_option maxRecDepth 100000
theorem nAbs{x:Int}{n:Nat}(h:x.natAbs≤n)(hn:n≤1000000):(if(wI (0-x))>x then(wI (0-x)) else x)=(x.natAbs:Int):=by
 rw[wrap64 (by omega) (by omega)]; split<;>omega
theorem wNeg{n:Nat}(hn:n≤1000000):wI (0-(n:Int))=-(n:Int):=by rw[wrap64 (by omega) (by omega)]; omega
theorem wPred{k n:Nat}(h:0<k)(hk:k≤n)(hn:n≤1048576):wI ((k:Int)-1)=((k-1:Nat):Int):=by rw[wrap64 (by omega) (by omega)]; omega
def ElP(n:Nat)(c:List Int)(j:Nat):Prop:=c.getD j 0≠0∧(c.getD j 0).natAbs≤n∧(0<j→(c.getD (j-1) 0).natAbs<(c.getD j 0).natAbs)
instance (n:Nat) (c:List Int) (j:Nat):Decidable (ElP n c j):=inferInstanceAs (Decidable (_∧_∧_))
theorem gD{A:Type}{l:List A}{z:A}{k:Nat}(h:k<l.length):l.getD k z=l[k]:=by simp[List.getD,h]
theorem VA{n:Nat}{c:List Int}(h:c.length≤400):ClP n c↔∀j,j<c.length→ElP n c j:=by
 constructor
 ·rintro⟨_,h1,h2⟩ j hj
  have hm:=h1 _ (A9 (z:=0) hj)
  refine⟨hm.1,hm.2,fun h0=>?_⟩
  have:=List.pairwise_iff_getElem.1 h2 (j-1) j (by omega) hj (by omega)
  simpa [List.getD,hj,show j-1<c.length by omega] using this
 ·intro hE
  refine⟨h,fun m hm=>?_,?_⟩
  ·obtain⟨j,hj,rfl⟩:=List.mem_iff_getElem.1 hm
   have:=hE j hj
   rw[←gD (z:=0) hj]; exact⟨this.1,this.2.1⟩
  ·rw[List.pairwise_iff_getElem]
   have go:∀d i:Nat,(hi:i+d+1<c.length)→(c[i]'(by omega)).natAbs<(c[i+d+1]).natAbs:=by
    intro d
    induction d with
    | zero =>
     intro i hi
     have:=(hE (i+1) hi).2.2 (by omega)
     simpa [List.getD,show i+1<c.length by omega,show i<c.length by omega] using this
    | succ d ih =>
     intro i hi
     have h1:=ih i (by omega)
     have:=(hE (i+d+1+1) hi).2.2 (by omega)
     have h2:(c[i+d+1]).natAbs<(c[i+d+1+1]'(by omega)).natAbs:=by
      rw[←gD (z:=0) (show i+d+1<c.length by omega),←gD (z:=0) (show i+d+1+1<c.length by omega)]; exact this
     exact Nat.lt_trans h1 h2
   intro i j hi hj hij
   have:=go (j-i-1) i (by omega)
   simpa [show i+(j-i-1)+1=j by omega] using this
theorem Ub{n n':Nat}{L:List (List Int)}(e:(n:Int)=(n':Int))(h:CnP n' L):∀c∈L,ClP n c:=by
 have:n'=n:=by omega
 subst this; exact h.2.2
section
variable {x:Int} {L:List (List Int)} {n:Nat}
theorem Uh{k:Nat}(hn:n≤400)(hk:k<L.length)(hc:(L.getD k []).length≤1048576):Ret (JF (k:Int) ((n:Int),L,()) 0) fun t=>(t=.inr ()∧∀j,j<(L.getD k []).length→ElP n (L.getD k []) j)∨(t=.inl ()∧¬∀j,j<(L.getD k []).length→ElP n (L.getD k []) j):=by
 unfold JF
 refine A2 (fun m (i:Int)=>∃j:Nat,i=(j:Int)∧j≤(L.getD k []).length∧m=(L.getD k []).length-j∧∀j',j'<j→ElP n (L.getD k []) j') (fun m i hI=>?_) (L.getD k []).length 0 ⟨0,rfl,Nat.zero_le _,rfl,fun _ h=>by omega⟩
 obtain⟨j,rfl,hj,rfl,hE⟩:=hI
 unfold HQ JW
 simp only
 rw[if_pos (rng hk),Int.toNat_natCast,show(Ty.zero (.sl (.int .i64)))=([]:List Int) from rfl]
 rcases Nat.lt_or_ge j (L.getD k []).length with h | h
 ·rw[dlt h,cond_true,if_pos (rng hk),if_pos (rng h),Int.toNat_natCast,show(Ty.zero (.int .i64))=(0:Int) from rfl]
  have key:Iq (k:Int) (j:Int) ((n:Int),L,()) ((L.getD k []).getD j 0)=some (decide ¬ElP n (L.getD k []) j):=by
   unfold Iq
   generalize hy:(L.getD k []).getD j 0=y
   have eP:ElP n (L.getD k []) j↔y≠0∧y.natAbs≤n∧(0<j→((L.getD k []).getD (j-1) 0).natAbs<y.natAbs):=by unfold ElP; rw[hy]
   simp only
   rw[IN,wNeg (by omega)]
   by_cases h0:y=0
   ·rw[show(y==0)=true by simp[h0],cond_true]
    rw[decide_eq_true (p:=¬_) fun h=>(eP.1 h).1 h0]
   ·rw[show(y==0)=false by simp[h0],cond_false]
    by_cases h1:y.natAbs≤n
    ·rw[show decide (-(n:Int)≤y∧y≤(n:Int))=true by simp; omega,show(!true)=false from rfl,cond_false]
     by_cases h2:0<j
     ·rw[show decide ((j:Int)>0)=true by simp; omega,cond_true,if_pos (rng hk),wPred h2 hj hc,Int.toNat_natCast,show(Ty.zero (.sl (.int .i64)))=([]:List Int) from rfl,if_pos (rng (by omega)),Int.toNat_natCast,show(Ty.zero (.int .i64))=(0:Int) from rfl]
      have hp:=(hE (j-1) (by omega)).2.1
      unfold AN
      rw[nAbs h1 (by omega),nAbs hp (by omega)]
      congr 1
      exact decide_eq_decide.2 ⟨fun hle h=>by have:=(eP.1 h).2.2 h2; omega,fun hn=>Int.not_lt.1 fun hlt=>hn (eP.2 ⟨h0,h1,fun _=>by omega⟩)⟩
     ·rw[show decide ((j:Int)>0)=false by simp; omega,cond_false,decide_eq_false (p:=¬_) fun h=>h (eP.2 ⟨h0,h1,fun h=>absurd h h2⟩)]
    ·rw[show decide (-(n:Int)≤y∧y≤(n:Int))=false by simp; omega,show(!false)=true from rfl,cond_true]
     rw[decide_eq_true (p:=¬_) fun h=>h1 (eP.1 h).2.1]
  rw[key,Option.bind_some]
  by_cases he:ElP n (L.getD k []) j
  ·rw[decide_eq_false (p:=¬_) (not_not_intro he),cond_false,stepN h hc]
   exact Ret.mk ⟨_,by omega,j+1,rfl,h,rfl,fun j' hj'=>by rcases Nat.lt_or_ge j' j with h' | h'; exact hE j' h'; rw[show j'=j by omega]; exact he⟩
  ·rw[decide_eq_true (p:=¬_) he,cond_true]
   exact Ret.mk (.inr ⟨rfl,fun h'=>he (h' j h)⟩)
 ·have:j=(L.getD k []).length:=by omega
  subst this
  rw[dge,cond_false]
  exact Ret.mk (.inl ⟨rfl,hE⟩)
theorem OM(hx:x<4611686018427387904)(hl:L.length≤1048576)(hc:∀c∈L,c.length≤1048576):Ret (IH (x,L,())) fun r=>r=true↔∃n:Nat,x=(n:Int)∧CnP n L:=by
 unfold IH mkr
 simp only
 rw[IN]
 refine Ret.cond (fun h=>Ret.mk ⟨fun h'=>(by cases h'),fun⟨n,h1,h2,h3,_⟩=>?_⟩) fun h=>?_
 ·simp at h
  omega
 ·simp at h
  obtain⟨n,rfl⟩:∃n:Nat,x=(n:Int):=⟨x.toNat,by omega⟩
  have hn:n≤400:=by omega
  have h4:L.length≤4000:=by omega
  refine Ret.bind (P:=fun t=>(t=.inr ()∧∀c∈L,ClP n c)∨(t=.inl ()∧¬∀c∈L,ClP n c)) ?_ fun t ht=>?_
  ·unfold La
   refine A2 (fun m (i:Int)=>∃k:Nat,i=(k:Int)∧k≤L.length∧m=L.length-k∧∀j,j<k→ClP n (L.getD j [])) (fun m i hI=>?_) L.length 0 ⟨0,rfl,Nat.zero_le _,rfl,fun _ h=>by omega⟩
   obtain⟨k,rfl,hk,rfl,hE⟩:=hI
   unfold HP JV
   simp only
   rcases Nat.lt_or_ge k L.length with h' | h'
   ·have hck:=hc _ (A9 (z:=[]) h')
    rw[dlt h',cond_true,if_pos (rng h'),Int.toNat_natCast,show(Ty.zero (.sl (.int .i64)))=([]:List Int) from rfl]
    refine Ret.cond (fun hb=>Ret.mk (.inr ⟨rfl,fun hall=>?_⟩)) fun hb=>Ret.bind (Uh hn h' hck) fun t ht=>?_
    ·have:=(hall _ (A9 (z:=[]) h')).1
     have:=of_decide_eq_true hb; omega
    ·have hb:(L.getD k []).length≤400:=by have:=of_decide_eq_false hb; omega
     rw[←VA hb] at ht
     rcases ht with ⟨rfl,he⟩| ⟨rfl,he⟩
     ·simp only[Sum.elim_inr]
      rw[stepN h' (by omega)]
      exact Ret.mk ⟨_,by omega,k+1,rfl,h',rfl,fun j' hj'=>by rcases Nat.lt_or_ge j' k with h'' | h''; exact hE j' h''; rw[show j'=k by omega]; exact he⟩
     ·exact Ret.mk (.inr ⟨rfl,fun hall=>he (hall _ (A9 (z:=[]) h'))⟩)
   ·have:k=L.length:=by omega
    subst this
    rw[dge,cond_false]
    refine Ret.mk (.inl ⟨rfl,fun c hc'=>?_⟩)
    obtain⟨j,hj,rfl⟩:=List.mem_iff_getElem.1 hc'
    have:=hE j hj
    simpa [List.getD,hj] using this
  ·rcases ht with ⟨rfl,h1⟩| ⟨rfl,h1⟩
   ·exact Ret.mk ⟨fun _=>⟨n,rfl,hn,h4,h1⟩,fun _=>rfl⟩
   ·exact Ret.mk ⟨fun h'=>(by cases h'),fun⟨_,e,h2⟩=>(h1 (Ub e h2)).elim⟩
theorem Uq{c:List Int}(hn:n≤400)(hc:c.length≤1048576):Ret (Gp c (n:Int)) fun r=>r=true↔ClP n c:=by
 unfold Gp
 refine Ret.cond (fun hb=>Ret.mk ⟨fun h=>(by cases h),fun h=>?_⟩) fun hb=>?_
 ·have:=h.1; simp at hb; omega
 ·have hb:c.length≤400:=by simp at hb; omega
  refine Ret.bind (P:=fun t=>(t=.inr ()∧∀j,j<c.length→ElP n c j)∨(t=.inl ()∧¬∀j,j<c.length→ElP n c j)) ?_ fun t ht=>?_
  ·unfold Jq
   refine A2 (fun m (s:Int×Int)=>∃j:Nat,s.2=(j:Int)∧s.1=(if j=0 then 0 else((c.getD (j-1) 0).natAbs:Int))∧j≤c.length∧m=c.length-j∧∀j',j'<j→ElP n c j') (fun m s hI=>?_) c.length (0,0) ⟨0,rfl,rfl,Nat.zero_le _,rfl,fun _ h=>by omega⟩
   obtain⟨g,i⟩:=s
   obtain⟨j,rfl,hg,hj,rfl,hE⟩:=hI
   simp only at hg
   unfold Fm H5 mkr
   simp only
   rcases Nat.lt_or_ge j c.length with h | h
   ·rw[dlt h,cond_true,if_pos (rng h),Int.toNat_natCast,show(Ty.zero (.int .i64))=(0:Int) from rfl,FQ,wNeg (by omega)]
    generalize hy:c.getD j 0=y
    have eP:ElP n c j↔y≠0∧y.natAbs≤n∧(0<j→(c.getD (j-1) 0).natAbs<y.natAbs):=by unfold ElP; rw[hy]
    have key:((y==0)||((!decide (-(n:Int)≤y∧y≤(n:Int)))||decide ((if wI (0-y)>y then wI (0-y) else y)≤g)))=decide (¬ElP n c j):=by
     by_cases h0:y=0
     ·rw[decide_eq_true (p:=¬_) fun h=>(eP.1 h).1 h0]; simp[h0]
     ·by_cases h1:y.natAbs≤n
      ·rw[nAbs h1 (by omega),show decide (-(n:Int)≤y∧y≤(n:Int))=true by simp; omega,show(y==0)=false by simp[h0],Bool.false_or,show(!true)=false from rfl,Bool.false_or,hg]
       refine decide_eq_decide.2 ⟨fun hle h=>?_,fun hn=>Int.not_lt.1 fun hlt=>hn (eP.2 ⟨h0,h1,fun h2=>?_⟩)⟩
       ·by_cases h2:j=0
        ·rw[if_pos h2] at hle; omega
        ·rw[if_neg h2] at hle
         have:=(eP.1 h).2.2 (by omega); omega
       ·rw[if_neg (by omega)] at hlt; omega
      ·rw[decide_eq_true (p:=¬_) fun h=>h1 (eP.1 h).2.1,show decide (-(n:Int)≤y∧y≤(n:Int))=false by simp; omega]; simp
    rw[key]
    by_cases he:ElP n c j
    ·rw[decide_eq_false (p:=¬_) (not_not_intro he),cond_false,stepN h hc,nAbs (n:=n) (by rw[←hy]; exact he.2.1) (by omega)]
     exact Ret.mk ⟨_,by omega,j+1,rfl,by show(y.natAbs:Int)=_; rw[if_neg (by omega),Nat.add_sub_cancel,hy],h,rfl,fun j' hj'=>by rcases Nat.lt_or_ge j' j with h' | h'; exact hE j' h'; rw[show j'=j by omega]; exact he⟩
    ·rw[decide_eq_true (p:=¬_) he,cond_true]
     exact Ret.mk (.inr ⟨rfl,fun h'=>he (h' j h)⟩)
   ·have:j=c.length:=by omega
    subst this
    rw[dge,cond_false]
    exact Ret.mk (.inl ⟨rfl,hE⟩)
  ·rw[←VA hb] at ht
   rcases ht with ⟨rfl,h1⟩| ⟨rfl,h1⟩
   ·exact Ret.mk ⟨fun _=>h1,fun _=>rfl⟩
   ·exact Ret.mk ⟨fun h'=>(by cases h'),fun h'=>(h1 h').elim⟩
theorem Tv(hx:x<4611686018427387904)(hl:L.length≤1048576)(hc:∀c∈L,c.length≤1048576):Ret (JP (x,L,())) fun r=>r=true↔∃n:Nat,x=(n:Int)∧CnP n L:=by
 unfold JP mkr
 simp only
 rw[FQ]
 refine Ret.cond (fun h=>Ret.mk ⟨fun h'=>(by cases h'),fun⟨n,h1,h2,h3,_⟩=>?_⟩) fun h=>?_
 ·simp at h
  omega
 ·simp at h
  obtain⟨n,rfl⟩:∃n:Nat,x=(n:Int):=⟨x.toNat,by omega⟩
  have hn:n≤400:=by omega
  have h4:L.length≤4000:=by omega
  unfold A4 Bz
  simp only[Option.bind_assoc]
  refine Ret.bind (P:=fun t=>(t=.inr ()∧∀c∈L,ClP n c)∨(∃i:Nat,t=.inl (i:Int)∧¬∀c∈L,ClP n c)) ?_ fun t ht=>?_
  ·unfold DG
   refine A2 (fun m (i:Int)=>∃k:Nat,i=(k:Int)∧k≤L.length∧m=L.length-k∧∀j,j<k→ClP n (L.getD j [])) (fun m i hI=>?_) L.length 0 ⟨0,rfl,Nat.zero_le _,rfl,fun _ h=>by omega⟩
   obtain⟨k,rfl,hk,rfl,hE⟩:=hI
   unfold Bk CR Jn
   simp only
   rcases Nat.lt_or_ge k L.length with h' | h'
   ·have hck:=hc _ (A9 (z:=[]) h')
    rw[dlt h',cond_true,if_pos (rng h'),Int.toNat_natCast,show(Ty.zero (.sl (.int .i64)))=([]:List Int) from rfl]
    simp only[Option.bind_assoc]
    refine Ret.bind (Uq hn hck) fun r hr=>?_
    rw[Option.bind_some]
    cases r with
    | true =>
     show Ret (bif false then _ else _) _
     rw[cond_false,stepN h' (by omega)]
     exact Ret.mk ⟨_,by omega,k+1,rfl,h',rfl,fun j' hj'=>by rcases Nat.lt_or_ge j' k with h'' | h''; exact hE j' h''; rw[show j'=k by omega]; exact hr.1 rfl⟩
    | false=>exact Ret.mk (.inr ⟨k,rfl,fun hall=>by cases hr.2 (hall _ (A9 (z:=[]) h'))⟩)
   ·have:k=L.length:=by omega
    subst this
    rw[dge,cond_false]
    refine Ret.mk (.inl ⟨rfl,fun c hc'=>?_⟩)
    obtain⟨j,hj,rfl⟩:=List.mem_iff_getElem.1 hc'
    have:=hE j hj
    simpa [List.getD,hj] using this
  ·rcases ht with ⟨rfl,h1⟩| ⟨i,rfl,h1⟩
   ·exact Ret.mk ⟨fun _=>⟨n,rfl,hn,h4,h1⟩,fun _=>rfl⟩
   ·refine Ret.mk ⟨fun h'=>?_,fun⟨_,e,h2⟩=>(h1 (Ub e h2)).elim⟩
    have:decide ((i:Int)≥0)=true:=by simp
    simp[this] at h'
end
end Go.Proofs.X
namespace Go.Proofs.X
open Go Go.Va
set_option maxRecDepth 100000
noncomputable def sidesL(d:List Aa.V)(l:List Ae.V)(k:Nat):List (List Ad.V):=(List.range k).flatMap fun i=>[(flatF d (lS l i)).2,(flatF d (lT l i)).2]
noncomputable def pairV(d:List Aa.V)(l:List Ae.V)(i:Nat):List Ad.V×List Ad.V×Unit:=((flatF d (lS l i)).2,(flatF d (lT l i)).2,())
theorem Ll(d:List Aa.V)(l:List Ae.V)(k:Nat):sidesL d l (k+1)=sidesL d l k++[(flatF d (lS l k)).2,(flatF d (lT l k)).2]:=by
 unfold sidesL
 rw[List.range_succ,List.flatMap_append]
 simp
theorem LU(d:List Aa.V)(l:List Ae.V):∀k,(sidesL d l k).length=2*k
 | 0=>rfl
 | k+1=>by rw[Ll,List.length_append,LU d l k]; simp; omega
theorem Os(d:List Aa.V)(l:List Ae.V):∀k i,i<k→(sidesL d l k).getD (2*i) []=(flatF d (lS l i)).2∧(sidesL d l k).getD (2*i+1) []=(flatF d (lT l i)).2
 | 0,i,h=>by omega
 | k+1,i,h=>by
  have hl:=LU d l k
  rcases Nat.lt_or_ge i k with h' | h'
  ·have:=Os d l k i h'
   rw[Ll]
   simp only[List.getD,List.getElem?_append,hl,show 2*i<2*k by omega,show 2*i+1<2*k by omega,if_true] at this ⊢
   exact this
  ·have:i=k:=by omega
   subst this
   rw[Ll]
   simp[List.getD,List.getElem?_append,hl]
theorem specSidesV{d:List Aa.V}{l:List Ae.V}(hd:DeclsP d)(hl:∀x∈l,LitB x)(hlen:l.length≤60):Ret (FT d l) fun r=>(r=(true,sidesL d l l.length)∧SidesP d l)∨(r.1=false∧¬SidesP d l):=by
 unfold FT
 refine Ret.bind (P:=fun t=>(∃x,t=.inl x∧¬SidesP d l)∨(t=.inr (sidesL d l l.length)∧SidesP d l)) ?_ fun t ht=>?_
 ·unfold Ki
  refine A2 (fun m (x:Int×List (List Ad.V))=>∃k:Nat,k≤l.length∧m=l.length-k∧x.1=(k:Int)∧x.2=sidesL d l k∧∀i,i<k→SideOk d l i) (fun m x hI=>?_) l.length _ ⟨0,Nat.zero_le _,rfl,rfl,rfl,fun i hi=>by omega⟩
  obtain⟨x1,x2⟩:=x
  obtain⟨k,hk,rfl,h1,h2,h3⟩:=hI
  simp only at h1 h2
  subst h1
  subst h2
  unfold F2 IP mkr
  simp only
  rcases Nat.lt_or_ge k l.length with h | h
  ·have hB:=hl _ (Az (z:=Ty.zero Ae) h)
   have e1:Dc d (l.getD k (Ty.zero Ae)).2.2.1=some (flatF d (lS l k)):=L2 hd hB.1
   have e2:Dc d (l.getD k (Ty.zero Ae)).2.2.2.1=some (flatF d (lT l k)):=L2 hd hB.2
   rw[dlt h,cond_true,if_pos (rng h),Int.toNat_natCast,e1,Option.bind_some,if_pos (rng h),e2,Option.bind_some]
   cases hc:(!(flatF d (lS l k)).1||!(flatF d (lT l k)).1) with
   | true =>
    refine Ret.mk (.inl ⟨_,rfl,fun h'=>?_⟩)
    have:=Sr.2 (h' k h)
    rw[hc] at this; cases this
   | false =>
    rw[cond_false,if_pos (by show((sidesL d l k).length+2)*24≤_; rw[LU]; omega),stepN h (by omega)]
    refine Ret.mk ⟨l.length-(k+1),by omega,k+1,h,rfl,rfl,(Ll d l k).symm,fun i hi=>?_⟩
    rcases Nat.lt_or_ge i k with h' | h'
    ·exact h3 i h'
    ·rw[show i=k by omega]; exact Sr.1 hc
  ·have:k=l.length:=by omega
   subst this
   rw[dge,cond_false]
   exact Ret.mk (.inr ⟨rfl,h3⟩)
 ·rcases ht with ⟨x,rfl,h⟩| ⟨rfl,h⟩
  ·exact Ret.mk (.inr ⟨rfl,h⟩)
  ·exact Ret.mk (.inl ⟨rfl,h⟩)
theorem implSidesV{d:List Aa.V}{l:List Ae.V}(hd:DeclsP d)(hl:∀x∈l,LitB x)(hp:LitsP d l):Ret (IW d l) fun r=>(r=(true,(List.range l.length).map (pairV d l))∧SidesP d l)∨(r.1=false∧¬SidesP d l):=by
 unfold IW
 have hlen:=hp.1
 rw[if_pos ⟨rfl,by omega,by omega,by omega,by omega⟩,Int.toNat_natCast]
 refine Ret.bind (P:=fun t=>(∃x,t=.inl x∧¬SidesP d l)∨(t=.inr ((List.range l.length).map (pairV d l))∧SidesP d l)) ?_ fun t ht=>?_
 ·unfold K6
  have z0:∀n,fillN (pairV d l) (([]:List Ad.V),([]:List Ad.V),()) n 0=List.replicate n (([]:List Ad.V),([]:List Ad.V),()):=fun n=>fillN_zero _ _ _
  refine A2 (fun m (x:Int×List (List Ad.V×List Ad.V×Unit))=>∃k:Nat,k≤l.length∧m=l.length-k∧x=((k:Int),fillN (pairV d l) (([]:List Ad.V),([]:List Ad.V),()) l.length k)∧∀i,i<k→SideOk d l i) (fun m x hI=>?_) l.length _ ⟨0,Nat.zero_le _,rfl,by rw[z0]; rfl,fun i hi=>by omega⟩
  obtain⟨k,hk,rfl,rfl,h3⟩:=hI
  unfold HV JU mkr
  simp only
  rcases Nat.lt_or_ge k l.length with h | h
  ·have hB:=hl _ (Az (z:=Ty.zero Ae) h)
   have hlit:=hp.2 k h
   obtain⟨ws,hw⟩:=LL hlit.2.2.1
   obtain⟨ws',hw'⟩:=LL (show 0≤termW d (lT l k) by rw[hlit.2.2.2]; exact hlit.2.2.1)
   have e1:C9 d (l.getD k (Ty.zero Ae)).2.2.1=some (flatF d (lS l k)):=LZ hd hB.1 hw
   have e2:C9 d (l.getD k (Ty.zero Ae)).2.2.2.1=some (flatF d (lT l k)):=LZ hd hB.2 hw'
   rw[dlt h,cond_true,if_pos (rng h),Int.toNat_natCast,e1,Option.bind_some,e2,Option.bind_some]
   cases hc:(!(flatF d (lS l k)).1||!(flatF d (lT l k)).1) with
   | true =>
    refine Ret.mk (.inl ⟨_,rfl,fun h'=>?_⟩)
    have:=Sr.2 (h' k h)
    rw[hc] at this; cases this
   | false =>
    rw[cond_false,fillN_len,if_pos (rng h),stepN h (by omega)]
    refine Ret.mk ⟨l.length-(k+1),by omega,k+1,h,rfl,?_,fun i hi=>?_⟩
    ·rw[←fillN_set]; rfl
    ·rcases Nat.lt_or_ge i k with h' | h'
     ·exact h3 i h'
     ·rw[show i=k by omega]; exact Sr.1 hc
  ·have:k=l.length:=by omega
   subst this
   rw[dge,cond_false]
   refine Ret.mk (.inr ⟨?_,h3⟩)
   congr 1
   unfold fillN
   refine List.map_congr_left fun i hi=>?_
   rw[if_pos (List.mem_range.1 hi)]
 ·rcases ht with ⟨x,rfl,h⟩| ⟨rfl,h⟩
  ·exact Ret.mk (.inr ⟨rfl,h⟩)
  ·exact Ret.mk (.inl ⟨rfl,h⟩)
theorem VK{d:List Aa.V}{l:List Ae.V}(hd:DeclsP d)(hl:∀x∈l,LitB x)(hp:LitsP d l){i:Nat}(hi:i<l.length):(lastB d (lS l i)).length=(lastB d (lT l i)).length:=by
 have hB:=hl _ (Az (z:=Ty.zero Ae) hi)
 have hlit:=hp.2 i hi
 obtain⟨ws,hw⟩:=LL hlit.2.2.1
 obtain⟨ws',hw'⟩:=LL (show 0≤termW d (lT l i) by rw[hlit.2.2.2]; exact hlit.2.2.1)
 have h1:=Rg (t:=lS l i) hd hB.1 hw _ (Nat.le_refl _) ((lS l i).length-1) (by have:=hw.1; omega)
 have h2:=Rg (t:=lT l i) hd hB.2 hw' _ (Nat.le_refl _) ((lT l i).length-1) (by have:=hw'.1; omega)
 have e:=hlit.2.2.2
 rw[Mv hw,Mv hw'] at e
 have h1:=h1.2
 have h2:=h2.2
 unfold lastB
 omega
def swI(d:List Aa.V):Bt→Int
 | .co b=>-bI b
 | .va v a=>dSum d v+a+1
def flV(d:List Aa.V):Bt→Ai.V
 | .co b=>(0,bI b,())
 | .va v a=>(dSum d v+1+a,0,())
theorem JB{d:List Aa.V}(hd:DeclsP d){k:Nat}(hk:k≤d.length):0≤dSum d k∧dSum d k≤245760:=by
 have:=MH hk fun i hi=>hd.2.1 i (by omega)
 have:=hd.1
 exact⟨by omega,by omega⟩
theorem AiT{d:List Aa.V}(hd:DeclsP d){b:Bt}(h:BitIn d b):-1≤swI d b∧swI d b≤300000∧(∀v a,b=.va v a→1≤swI d b):=by
 cases b with
 | co b=>cases b<;>simp[swI,bI]
 | va v a =>
  have:=JB hd (Nat.le_of_lt h.1)
  have:=(hd.2.1 v h.1).2.1
  have:=h.2
  simp only[swI]
  exact⟨by omega,by omega,fun _ _ _=>by omega⟩
theorem OF{d:List Aa.V}(hd:DeclsP d):CQ d=some (dSum d d.length,(List.range d.length).map (dSum d)):=by
 unfold CQ Ib
 have hl:=hd.1
 have:=AG (f:=A1 d) (fun k=>(dSum d k,(k:Int),(List.range k).map (dSum d))) (t:=(dSum d d.length,(List.range d.length).map (dSum d))) d.length (fun k hk=>by
  unfold A1 DT
  simp only
  have h1:=JB hd (Nat.le_of_lt hk)
  have h2:=(hd.2.1 k hk).2.1
  have h3:dSum d (k+1)=dSum d k+(d.getD k (Ty.zero Aa)).2.1:=Iw hk
  have h4:=JB hd (show k+1≤d.length from hk)
  rw[dlt hk,cond_true,if_pos (by simp; omega),if_pos (rng hk),Int.toNat_natCast,stepN hk (by omega),wrap64 (by omega) (by omega),←h3,List.range_succ,List.map_append]
  rfl) (by
  unfold A1 DT
  simp only
  rw[dge,cond_false])
 rw[show fix (A1 d) (0,0,([]:List Int))=_ from this]
 rfl
theorem VO{d:List Aa.V}(hd:DeclsP d):I2 d=some ((List.range d.length).map fun k=>dSum d k+1):=by
 unfold I2 KE
 have hl:=hd.1
 rw[if_pos ⟨rfl,by omega,by omega,by omega,by omega⟩,Int.toNat_natCast]
 have:=AG (f:=B8 d (d.length:Int)) (fun k=>(dSum d k+1,(k:Int),fillN (fun k=>dSum d k+1) 0 d.length k)) (t:=fillN (fun k=>dSum d k+1) 0 d.length d.length) d.length (fun k hk=>by
  unfold B8 GP
  simp only
  have h1:=JB hd (Nat.le_of_lt hk)
  have h2:=(hd.2.1 k hk).2.1
  have h3:dSum d (k+1)=dSum d k+(d.getD k (Ty.zero Aa)).2.1:=Iw hk
  have h4:=JB hd (show k+1≤d.length from hk)
  rw[dlt hk,cond_true,if_pos (rng hk),fillN_len,if_pos (rng hk),Int.toNat_natCast,stepN hk (by omega),wrap64 (by omega) (by omega),←fillN_set,h3]
  congr 3; omega) (by
  unfold B8 GP
  simp only
  rw[dge,cond_false])
 rw[fillN_zero] at this
 rw[show fix (B8 d (d.length:Int)) (1,0,List.replicate d.length 0)=_ from this,Option.bind_some]
 congr 1
 unfold fillN
 exact List.map_congr_left fun i hi=>by rw[if_pos (List.mem_range.1 hi)]
theorem SA{d:List Aa.V}(hd:DeclsP d):CP d=some (dSum d d.length):=by
 unfold CP HZ
 have hl:=hd.1
 have:=AG (f:=AY d (d.length:Int)) (fun k=>(dSum d k,(k:Int))) (t:=dSum d d.length) d.length (fun k hk=>by
  unfold AY DU
  simp only
  have h1:=JB hd (Nat.le_of_lt hk)
  have h2:=(hd.2.1 k hk).2.1
  have h3:dSum d (k+1)=dSum d k+(d.getD k (Ty.zero Aa)).2.1:=Iw hk
  have h4:=JB hd (show k+1≤d.length from hk)
  rw[dlt hk,cond_true,if_pos (rng hk),Int.toNat_natCast,stepN hk (by omega),wrap64 (by omega) (by omega),←h3]) (by
  unfold AY DU
  simp only
  rw[dge,cond_false])
 rw[show fix (AY d (d.length:Int)) (0,0)=_ from this]
 rfl
theorem NN{f:Nat→Int}{n v:Nat}(h:v<n):((List.range n).map f).getD v (Ty.zero (.int .i64))=f v:=by simp[List.getD,h]
theorem Qg{d:List Aa.V}(hd:DeclsP d){b:Bt}(h:BitIn d b):DB ((List.range d.length).map (dSum d)) (btV b)=some (swI d b):=by
 unfold DB
 cases b with
 | co b=>cases b<;>rfl
 | va v a =>
  have h1:=JB hd (Nat.le_of_lt h.1)
  have h2:=(hd.2.1 v h.1).2.1
  have h3:=h.2
  show(bif decide ((v:Int)<0) then _ else _)=_
  rw[decide_eq_false (by omega),cond_false]
  show(if(0:Int)≤(v:Int)∧(v:Int)<_ then some (wI (wI (_+(a:Int))+1)) else none)=_
  rw[if_pos (by simp; exact h.1),show(btV (.va v a)).1.toNat=v from Int.toNat_natCast v,NN h.1,wrap64 (x:=dSum d v+(a:Int)) (by omega) (by omega),wrap64 (by omega) (by omega)]
  rfl
theorem TP{bs:List Bool}{k:Nat}(h:k<bs.length)(hl:bs.length≤8192):Ep (mkL bs) (k:Int)=some (bI (bs.getD k false)):=by
 have hw:=CK (low (fun i=>bs.getD i false) bs.length) (nw bs.length)
 have hlen:=D9 (low (fun i=>bs.getD i false) bs.length) (nw bs.length)
 unfold Ep
 rw[tdiv64 (by omega),tmod64,if_pos ⟨by omega,by show((k/64:Nat):Int)<((mkW (low (fun i=>bs.getD i false) bs.length) (nw bs.length)).length:Int); rw[hlen]; unfold nw; omega⟩,if_neg (by omega),Int.toNat_natCast]
 show some (andI .u64 (shrI .u64 ((mkW (low (fun i=>bs.getD i false) bs.length) (nw bs.length)).getD (k/64) 0) ((k%64:Nat):Int)) 1)=_
 rw[QQ (N9 (hw.getD _) rfl (by omega)),NO (hw.getD _) rfl (by omega),Nat.zero_add]
 show some (bI (bt (mkW (low (fun i=>bs.getD i false) bs.length) (nw bs.length)) k))=_
 rw[Un h]
theorem UP{d:List Aa.V}(hd:DeclsP d){b:List Ad.V}{c e:Int}{s:Sg}(hs:SgB s)(hb:∀x∈s.bits,BitIn d x){B:List Bt}(hB:B.length≤8192):IG ((List.range d.length).map fun k=>dSum d k+1) b c e (s.w:Int) (sgV s) 0 (B.map (flV d))=some ((B++s.bits).map (flV d)):=by
 unfold IG
 have hsw:s.w≤4096:=by cases s<;>simp only[SgB,Sg.w] at *<;>omega
 have:=AG (f:=CJ ((List.range d.length).map fun k=>dSum d k+1) b c e (s.w:Int) (sgV s)) (fun k=>((k:Int),(B++s.bits.take k).map (flV d))) (t:=(B++s.bits).map (flV d)) s.w (fun k hk=>by
  unfold CJ Ge Ia
  simp only
  have hlen:((B++s.bits.take k).map (flV d)).length≤20000:=by rw[List.length_map,List.length_append,List.length_take]; omega
  have hk':k<s.bits.length:=by rw[G0]; exact hk
  rw[dlt hk,cond_true,stepN hk (by omega),Cv hk',←List.append_assoc,List.map_append (l₂:=[s.bits.getD k (.co false)])]
  cases s with
  | co bs =>
   simp only[Sg.w] at hk hsw
   rw[show((sgV (.co bs)).1==(-1))=true from rfl,cond_true,show Ep (sgV (.co bs)).2.2.2.1 (k:Int)=some (bI (bs.getD k false)) from TP hk (by omega),Option.bind_some]
   rw[if_pos (by show(_+1)*16≤_; omega),Option.bind_some]
   rw[show(Sg.co bs).bits.getD k (.co false)=.co (bs.getD k false) by simp[Sg.bits,List.getD,hk]]
   rfl
  | va v l n =>
   simp only[Sg.w,SgB] at hk hs hsw
   have hx:BitIn d (.va v (l+k)):=hb _ (List.mem_map.2 ⟨k,List.mem_range.2 hk,rfl⟩)
   have h1:=JB hd (Nat.le_of_lt hx.1)
   have h2:=(hd.2.1 v hx.1).2.1
   have h3:=hx.2
   rw[show((sgV (.va v l n)).1==(-1))=false from beq_eq_false_iff_ne.2 (show((v:Int)≠-1) by omega),cond_false,show(sgV (.va v l n)).1=(v:Int) from rfl,if_pos (by simp; exact hx.1),if_pos (by show(_+1)*16≤_; omega),Option.bind_some,Int.toNat_natCast,NN hx.1]
   rw[show wI (wI (dSum d v+1+(sgV (.va v l n)).2.1)+(k:Int))=dSum d v+1+((l+k:Nat):Int) by
    show wI (wI (dSum d v+1+(l:Int))+(k:Int))=_
    rw[wrap64 (x:=dSum d v+1+(l:Int)) (by omega) (by omega),wrap64 (by omega) (by omega)]; omega]
   rw[show(Sg.va v l n).bits.getD k (.co false)=.va v (l+k) by simp[Sg.bits,List.getD,hk]]
   rfl) (by
  unfold CJ Ge
  simp only
  rw[dge,cond_false,←G0,List.take_of_length_le (Nat.le_refl _)])
 rw[List.take_zero,List.append_nil] at this
 exact this
theorem OB{d:List Aa.V}(hd:DeclsP d){B:List Bt}(h:BitsIn d B):Da (fN B) ((List.range d.length).map fun k=>dSum d k+1)=some (B.map (flV d)):=by
 unfold Da J9 fN
 have h4:=h.2.1
 have hs:∀x∈B,SgB x.sg:=fun x hx=>Ql (KR hd (h.2.2 x hx))
 have hsm:=JR hs h4
 have hw:widL (norm B)≤4096:=by rw[Hi]; exact h4
 have hlen:=F4 (FD B)
 have hbits:∀s∈norm B,∀x∈s.bits,BitIn d x:=fun s hs x hx=>h.2.2 x (by rw[←J7 B]; exact List.mem_flatMap.2 ⟨s,hs,hx⟩)
 have:=AG (f:=BG ((List.range d.length).map fun k=>dSum d k+1) (fV (norm B)) ((fV (norm B)).length:Int)) (fun k=>((k:Int),(bitsL ((norm B).take k)).map (flV d))) (t:=(bitsL (norm B)).map (flV d)) (norm B).length (fun k hk=>by
  unfold BG FW
  simp only
  have:=HG (norm B) k
  rw[FB,dlt hk,cond_true,if_pos (rng hk),Int.toNat_natCast,fGet hk,XF,UP hd (hsm _ (Az hk)) (hbits _ (Az hk)) (by rw[F9]; omega),Option.bind_some,stepN hk (by omega),Ka hk]) (by
  unfold BG FW
  simp only
  rw[FB,dge,cond_false,List.take_of_length_le (Nat.le_refl _)])
 rw[show fix (BG ((List.range d.length).map fun k=>dSum d k+1) (fV (norm B)) ((fV (norm B)).length:Int)) (0,([]:List Ai.V))=_ from this,J7]
 rfl
end Go.Proofs.X
namespace Go.Proofs.X
open Go Go.Va
set_option maxRecDepth 100000
def mxI(a b:Int):Int:=if b>a then b else a
def mnI(a b:Int):Int:=if b<a then b else a
def eqC(a b:Int):List (List Int):=if a=b then[] else if mxI a b≤0 then[[]] else if mnI a b=0 then[[-mxI a b]] else if mnI a b<0 then[[mxI a b]] else[[-mnI a b,mxI a b],[mnI a b,-mxI a b]]
def apC(d a b:Int):List (List Int):=if mnI a b=0 then[[mxI a b,-d]] else if mnI a b<0 then[[-mxI a b,-d]] else[[mnI a b,mxI a b,-d],[-mnI a b,-mxI a b,-d]]
def Fl(f:Ai.V)(s:Int):Prop:=(∃b:Bool,f=(0,bI b,())∧s=-bI b)∨(f=(s,0,())∧1≤s∧s≤300000)
theorem Afi{d:List Aa.V}(hd:DeclsP d){b:Bt}(h:BitIn d b):Fl (flV d b) (swI d b):=by
 have:=AiT hd h
 cases b with
 | co b=>exact .inl ⟨b,rfl,rfl⟩
 | va v a=>exact .inr ⟨by show((_:Int),(0:Int),())=_; rw[show dSum d v+1+(a:Int)=swI d (.va v a) by simp only[swI]; omega],this.2.2 v a rfl,this.2.1⟩
theorem Fl.bd{f:Ai.V}{s:Int}(h:Fl f s):-1≤s∧s≤300000:=by
 rcases h with ⟨b,rfl,rfl⟩| ⟨rfl,h1,h2⟩
 ·cases b<;>decide
 ·omega
theorem Fl.zero{f:Ai.V}{s:Int}(h:Fl f s):(f.1==0)=decide (s≤0):=by
 rcases h with ⟨b,rfl,rfl⟩| ⟨rfl,h1,h2⟩
 ·cases b<;>rfl
 ·rw[decide_eq_false (by omega)]
  exact beq_eq_false_iff_ne.2 (show s≠0 by omega)
theorem Fl.eq{f g:Ai.V}{s t:Int}(hf:Fl f s)(hg:Fl g t):flatEq Ai f g=decide (s=t):=by
 rcases hf with ⟨b,rfl,rfl⟩| ⟨rfl,h1,h2⟩<;>rcases hg with ⟨c,rfl,rfl⟩| ⟨rfl,h3,h4⟩
 ·cases b<;>cases c<;>rfl
 ·rw[decide_eq_false (by cases b<;>simp only[bI]<;>omega)]
  show((0==t)&&_)=false
  rw[show((0:Int)==t)=false from beq_eq_false_iff_ne.2 (by omega)]; rfl
 ·rw[decide_eq_false (by cases c<;>simp only[bI]<;>omega)]
  show((s==0)&&_)=false
  rw[show(s==(0:Int))=false from beq_eq_false_iff_ne.2 (by omega)]; rfl
 ·show((s==t)&&(((0:Int)==0)&&true))=_
  by_cases h:s=t<;>simp[h]
theorem Kl{x:Int}(h1:-1048576≤x)(h2:x≤1048576):wI (0-x)=-x:=by rw[wrap64 (by omega) (by omega)]; omega
section
variable {n a b:Int} {L:List (List Int)}
theorem app1(hL:L.length≤1048576)(c:List Int):(L.length+[c].length)*24≤140737488355328:=by simp; omega
theorem app2(hL:L.length≤1048576)(c e:List Int):(L.length+[c,e].length)*24≤140737488355328:=by simp; omega
theorem clA(hL:L.length≤1048576)(t:Int)(c:List Int):Ao t n c L=some (n,L++[c]):=by unfold Ao; rw[if_pos (app1 hL c)]
theorem clB(hL:L.length≤1048576)(t:Int):Bd t n L=some (n,L++[[]]):=by unfold Bd; rw[if_pos (app1 hL [])]
theorem UN(ha:-1≤a∧a≤300000)(hb:-1≤b∧b≤300000)(hL:L.length≤1048576):Gt n a b L=some (n,L++eqC a b):=by
 unfold Gt eqC
 have h1:-1≤mxI a b∧mxI a b≤300000:=by unfold mxI; split<;>omega
 have h2:-1≤mnI a b∧mnI a b≤300000:=by unfold mnI; split<;>omega
 by_cases h:a=b
 ·rw[show(a==b)=true by simp[h],cond_true,if_pos h,List.append_nil]
 ·rw[show(a==b)=false by simp[h],cond_false,if_neg h]
  unfold G8
  show((bif decide (mxI a b≤0) then _ else bif mnI a b==0 then _ else bif decide (mnI a b<0) then _ else _:Option (List (List Int))).bind _)=_
  by_cases h3:mxI a b≤0
  ·rw[decide_eq_true h3,cond_true,if_pos (app1 hL _),if_pos h3]; rfl
  ·rw[decide_eq_false h3,cond_false,if_neg h3]
   by_cases h4:mnI a b=0
   ·rw[show(mnI a b==0)=true by simp[h4],cond_true,if_pos (app1 hL _),if_pos h4]
    show some (n,L++[[wI (0-mxI a b)]])=_
    rw[Kl (by omega) (by omega)]
   ·rw[show(mnI a b==0)=false by simp[h4],cond_false,if_neg h4]
    by_cases h5:mnI a b<0
    ·rw[decide_eq_true h5,cond_true,if_pos (app1 hL _),if_pos h5]; rfl
    ·rw[decide_eq_false h5,cond_false,if_pos (app2 hL _ _),if_neg h5]
     show some (n,L++[[wI (0-mnI a b),mxI a b],[mnI a b,wI (0-mxI a b)]])=_
     rw[Kl (by omega) (by omega),Kl (by omega) (by omega)]
theorem Ue(h:a>b):mxI a b=a∧mnI a b=b:=by unfold mxI mnI; rw[if_neg (by omega),if_pos (by omega)]; exact⟨rfl,rfl⟩
theorem AeE(h:¬a>b):mxI a b=b∧mnI a b=a:=by unfold mxI mnI; constructor<;>split<;>omega
theorem Uo {f g:Ai.V} {s t:Int} (hf:Fl f s) (hg:Fl g t):∃x y:Ai.V,(bif decide (f.1>g.1) then g else f)=x∧(bif decide (f.1>g.1) then f else g)=y ∧
    ((x.1=0∧y.1=0∧s≤0∧t≤0∧x=f∧y=g)∨(∃b:Bool,x=(0,bI b,())∧mnI s t=-bI b∧y=(mxI s t,0,())∧1≤mxI s t)∨(x=(mnI s t,0,())∧y=(mxI s t,0,())∧1≤mnI s t∧1≤mxI s t)):=by
 refine⟨_,_,rfl,rfl,?_⟩
 rcases hf with ⟨b,rfl,rfl⟩| ⟨rfl,h1,h2⟩<;>rcases hg with ⟨c,rfl,rfl⟩| ⟨rfl,h3,h4⟩
 ·exact .inl ⟨rfl,rfl,by cases b<;>decide,by cases c<;>decide,rfl,rfl⟩
 ·show _∨(∃b':Bool,(bif decide ((0:Int)>t) then _ else _)=_∧_∧(bif decide ((0:Int)>t) then _ else _)=_∧_)∨_
  have e:=AeE (a:=-bI b) (b:=t) (by cases b<;>simp only[bI]<;>omega)
  rw[decide_eq_false (show ¬(0:Int)>t by omega),e.1,e.2]
  exact .inr (.inl ⟨b,rfl,rfl,rfl,h3⟩)
 ·show _∨(∃b':Bool,(bif decide (s>(0:Int)) then _ else _)=_∧_∧(bif decide (s>(0:Int)) then _ else _)=_∧_)∨_
  have e:=Ue (a:=s) (b:=-bI c) (by cases c<;>simp only[bI]<;>omega)
  rw[decide_eq_true (show s>(0:Int) by omega),e.1,e.2]
  exact .inr (.inl ⟨c,rfl,rfl,rfl,h1⟩)
 ·show _∨_∨((bif decide (s>t) then _ else _)=_∧(bif decide (s>t) then _ else _)=_∧_)
  by_cases h:s>t
  ·have e:=Ue h
   rw[decide_eq_true h,e.1,e.2]
   exact .inr (.inr ⟨rfl,rfl,h3,h1⟩)
  ·have e:=AeE h
   rw[decide_eq_false h,e.1,e.2]
   exact .inr (.inr ⟨rfl,rfl,h1,h3⟩)
theorem Zv{s t:Int}(hs:-1≤s∧s≤300000)(ht:-1≤t∧t≤300000):(-1≤mxI s t∧mxI s t≤300000)∧(-1≤mnI s t∧mnI s t≤300000)∧(s=t↔mxI s t=mnI s t):=by unfold mxI mnI; split<;>split<;>omega
theorem VQ{f g:Ai.V}{s t:Int}(hf:Fl f s)(hg:Fl g t)(hL:L.length≤1048000)(z:Int):BW z f g n L=some (n,L++eqC s t):=by
 unfold BW mkr
 have hL1:L.length≤1048576:=by omega
 obtain⟨x,y,hx,hy,hc⟩:=Uo hf hg
 have hb:=Zv hf.bd hg.bd
 simp only[hx,hy]
 unfold eqC
 rcases hc with ⟨h1,h2,h3,h4,e1,e2⟩| ⟨b,rfl,h2,rfl,h3⟩| ⟨rfl,rfl,h3,h4⟩
 ·subst e1; subst e2
  rw[hf.eq hg]
  by_cases h:s=t
  ·rw[decide_eq_true h,cond_true,if_pos h,List.append_nil]
  ·rw[decide_eq_false h,cond_false,if_neg h,h2,show((0:Int)==0)=true from rfl,cond_true,clB hL1,if_pos (by unfold mxI; split<;>omega)]
   rfl
 ·have hb0:-bI b≤0:=by cases b<;>decide
  show(bif ((0:Int)==mxI s t)&&_ then _ else bif mxI s t==(0:Int) then _ else bif ((0:Int)==0)&&(bI b==1) then _ else _)=_
  rw[show((0:Int)==mxI s t)=false from beq_eq_false_iff_ne.2 (by omega),Bool.false_and,cond_false,show(mxI s t==(0:Int))=false from beq_eq_false_iff_ne.2 (by omega),cond_false,show((0:Int)==0)=true from rfl,Bool.true_and,if_neg (by omega),if_neg (by omega),h2]
  cases b with
  | true =>
   rw[show(bI true==1)=true from rfl,cond_true,if_neg (show ¬(-bI true=0) by decide),if_pos (show -bI true<0 by decide)]
   show(Ao z n [mxI s t] L).bind _=_
   rw[clA hL1]; rfl
  | false =>
   rw[show(bI false==1)=false from rfl,cond_false,if_pos (show(-bI false=0) by decide)]
   show(Ao z n [wI (0-mxI s t)] L).bind _=_
   rw[clA hL1,Kl (by omega) (by omega)]; rfl
 ·show(bif (mnI s t==mxI s t)&&((0:Int)==0&&true) then _ else bif mxI s t==(0:Int) then _ else bif (mnI s t==(0:Int))&&_ then _ else bif mnI s t==(0:Int) then _ else _)=_
  by_cases h:s=t
  ·rw[show(mnI s t==mxI s t)=true from beq_iff_eq.2 (hb.2.2.1 h).symm,show((true&&((0:Int)==0&&true))=true) from rfl,cond_true,if_pos h,List.append_nil]
  ·rw[show(mnI s t==mxI s t)=false from beq_eq_false_iff_ne.2 (fun e=>h (hb.2.2.2 e.symm)),Bool.false_and,cond_false,show(mxI s t==(0:Int))=false from beq_eq_false_iff_ne.2 (by omega),cond_false,show(mnI s t==(0:Int))=false from beq_eq_false_iff_ne.2 (by omega),Bool.false_and,cond_false,cond_false,if_neg h,if_neg (by omega),if_neg (by omega),if_neg (by omega)]
   show(Ao z n [wI (0-mnI s t),mxI s t] L).bind _=_
   rw[clA hL1,Option.bind_some]
   show(Ao z n [mnI s t,wI (0-mxI s t)] (L++[[wI (0-mnI s t),mxI s t]])).bind _=_
   rw[clA (by rw[List.length_append]; show L.length+1≤_; omega),Kl (by omega) (by omega),Kl (by omega) (by omega),List.append_assoc]; rfl
theorem Vi{n:Int}(h0:0≤n)(h1:n≤1000000):wI (n+1)=n+1:=wrap64 (by omega) (by omega)
theorem Uf{f g:Ai.V}{s t:Int}(hf:Fl f s)(hg:Fl g t)(hn:¬(s≤0∧t≤0))(h0:0≤n)(h1:n≤1000000)(hL:L.length≤1048000)(z:Int):AF z f g n L=some (n+1,n+1,L++apC (n+1) s t):=by
 unfold AF mkr
 have hL1:L.length≤1048576:=by omega
 obtain⟨x,y,hx,hy,hc⟩:=Uo hf hg
 have hb:=Zv hf.bd hg.bd
 simp only[hx,hy]
 rw[Vi h0 h1]
 unfold Dw mkr apC
 rcases hc with ⟨_,_,h3,h4,_⟩| ⟨b,rfl,h2,rfl,h3⟩| ⟨rfl,rfl,h3,h4⟩
 ·exact(hn ⟨h3,h4⟩).elim
 ·show((bif ((0:Int)==0)&&(bI b==1) then _ else _:Option (Int×List (List Int))).bind _)=_
  rw[show((0:Int)==0)=true from rfl,Bool.true_and,h2]
  cases b with
  | true =>
   rw[show(bI true==1)=true from rfl,cond_true,if_neg (show ¬(-bI true=0) by decide),if_pos (show -bI true<0 by decide)]
   show((Ao z (n+1) [wI (0-mxI s t),wI (0-(n+1))] L).bind _).bind _=_
   rw[clA hL1,Kl (by omega) (by omega),Kl (by omega) (by omega)]; rfl
  | false =>
   rw[show(bI false==1)=false from rfl,cond_false,if_pos (show(-bI false=0) by decide),cond_true]
   show((Ao z (n+1) [mxI s t,wI (0-(n+1))] L).bind _).bind _=_
   rw[clA hL1,Kl (by omega) (by omega)]; rfl
 ·show((bif (mnI s t==(0:Int))&&_ then _ else bif mnI s t==(0:Int) then _ else _:Option (Int×List (List Int))).bind _)=_
  rw[show(mnI s t==(0:Int))=false from beq_eq_false_iff_ne.2 (by omega),Bool.false_and,cond_false,cond_false,if_neg (by omega),if_neg (by omega)]
  show((Ao z (n+1) [mnI s t,mxI s t,wI (0-(n+1))] L).bind _).bind _=_
  rw[clA hL1,Option.bind_some]
  show((Ao z (n+1) [wI (0-mnI s t),wI (0-mxI s t),wI (0-(n+1))] (L++[[mnI s t,mxI s t,wI (0-(n+1))]])).bind _).bind _=_
  rw[clA (by rw[List.length_append]; show L.length+1≤_; omega),Kl (x:=n+1) (by omega) (by omega),Kl (by omega) (by omega),Kl (by omega) (by omega),List.append_assoc]; rfl
end
def RL(f:List Ai.V)(a:List Int)(m:Nat):Prop:=f.length=m∧a.length=m∧∀k,k<m→Fl (f.getD k (Ty.zero Ai)) (a.getD k 0)
def eqK(a b:List Int)(L:List (List Int)):Nat→List (List Int)
 | 0=>L
 | k+1=>eqK a b L k++eqC (a.getD k 0) (b.getD k 0)
def unS(x:Int×List Int×List (List Int))(s t:Int):Int×List Int×List (List Int):=if s=t then x else(x.1+1,x.2.1++[x.1+1],x.2.2++apC (x.1+1) s t)
def unK(a b:List Int)(n:Int)(L:List (List Int)):Nat→Int×List Int×List (List Int)
 | 0=>(n,[],L)
 | k+1=>unS (unK a b n L k) (a.getD k 0) (b.getD k 0)
def BadA(a b:List Int)(k:Nat):Prop:=a.getD k 0≤0∧b.getD k 0≤0∧a.getD k 0≠b.getD k 0
instance (a b:List Int) (k:Nat):Decidable (BadA a b k):=inferInstanceAs (Decidable (_∧_∧_))
theorem ZS(a b:Int):(eqC a b).length≤2∧∀c∈eqC a b,c.length≤4096:=by
 unfold eqC
 split
 ·simp
 ·split
  ·simp
  ·split
   ·simp
   ·split<;>simp
theorem Aae(d a b:Int):(apC d a b).length≤2∧∀c∈apC d a b,c.length≤4096:=by
 unfold apC
 split
 ·simp
 ·split<;>simp
theorem NG(a b:List Int)(L:List (List Int)):∀k,L.length≤(eqK a b L k).length∧(eqK a b L k).length≤L.length+2*k∧((∀c∈L,c.length≤4096)→∀c∈eqK a b L k,c.length≤4096)
 | 0=>⟨Nat.le_refl _,Nat.le_refl _,fun h=>h⟩
 | k+1=>by
  have ih:=NG a b L k
  have h:=ZS (a.getD k 0) (b.getD k 0)
  unfold eqK
  rw[List.length_append]
  refine⟨by omega,by omega,fun hc c hx=>?_⟩
  rcases List.mem_append.1 hx with h' | h'
  ·exact ih.2.2 hc c h'
  ·exact h.2 c h'
theorem MK(a b:List Int)(n:Int)(L:List (List Int)):∀k,n≤(unK a b n L k).1∧(unK a b n L k).1≤n+(k:Int)∧(unK a b n L k).2.1.length≤k∧L.length≤(unK a b n L k).2.2.length∧(unK a b n L k).2.2.length≤L.length+2*k∧((∀c∈L,c.length≤4096)→∀c∈(unK a b n L k).2.2,c.length≤4096)
 | 0=>⟨Int.le_refl _,by show n≤n+_; omega,Nat.le_refl _,Nat.le_refl _,Nat.le_refl _,fun h=>h⟩
 | k+1=>by
  have ih:=MK a b n L k
  unfold unK unS
  split
  ·exact⟨ih.1,by omega,by omega,ih.2.2.2.1,by omega,ih.2.2.2.2.2⟩
  ·have h:=Aae ((unK a b n L k).1+1) (a.getD k 0) (b.getD k 0)
   simp only[List.length_append,List.length_cons,List.length_nil]
   refine⟨by omega,by omega,by omega,by omega,by omega,fun hc c hx=>?_⟩
   rcases List.mem_append.1 hx with h' | h'
   ·exact ih.2.2.2.2.2 hc c h'
   ·exact h.2 c h'
end Go.Proofs.X
namespace Go.Proofs.X
open Go Go.Va
set_option maxRecDepth 100000
open Classical in
noncomputable def unR(a b:List Int)(n:Int)(L:List (List Int))(m:Nat):Int×List (List Int):=if ∃k,k<m∧BadA a b k then(n,L) else((unK a b n L m).1,(unK a b n L m).2.2++[(unK a b n L m).2.1])
theorem app8{ds:List Int}(h:ds.length≤1048576)(c:Int):(ds.length+[c].length)*8≤140737488355328:=by simp; omega
theorem zi:(Ty.zero (.int .i64))=(0:Int):=rfl
section
variable {a b:List Int} {f g:List Ai.V} {n z:Int} {L:List (List Int)} {m:Nat}
theorem specBad(ha:a.length=m)(hb:b.length=m)(hm:m≤1048576):Ret (Gu a b L n 0) fun t=>(t=.inl ()∧∃k,k<m∧BadA a b k)∨(t=.inr ()∧¬∃k,k<m∧BadA a b k):=by
 unfold Gu
 refine A2 (fun w (i:Int)=>∃k:Nat,i=(k:Int)∧k≤m∧w=m-k∧∀j,j<k→¬BadA a b j) (fun w i hI=>?_) m 0 ⟨0,rfl,Nat.zero_le _,rfl,fun _ h=>by omega⟩
 obtain⟨k,rfl,hk,rfl,hE⟩:=hI
 unfold EC Ho
 rcases Nat.lt_or_ge k m with h | h
 ·have key:D7 a b (k:Int) L n=some (decide (BadA a b k)):=by
    unfold D7
    rw[if_pos (rng (by omega)),Int.toNat_natCast,zi]
    by_cases h1:a.getD k 0≤0
    ·rw[decide_eq_true h1,cond_true,if_pos (rng (by omega))]
     by_cases h2:b.getD k 0≤0
     ·rw[decide_eq_true h2,cond_true,if_pos (rng (by omega)),if_pos (rng (by omega))]
      by_cases h3:a.getD k 0=b.getD k 0
      ·rw[decide_eq_false (p:=BadA a b k) (fun h=>h.2.2 h3),show(a.getD k 0 !=b.getD k 0)=false by rw[h3]; simp]
      ·rw[decide_eq_true (p:=BadA a b k) ⟨h1,h2,h3⟩,show(a.getD k 0 !=b.getD k 0)=true from bne_iff_ne.2 h3]
     ·rw[decide_eq_false h2,cond_false,decide_eq_false (p:=BadA a b k) (fun h=>h2 h.2.1)]
    ·rw[decide_eq_false h1,cond_false,decide_eq_false (p:=BadA a b k) (fun h=>h1 h.1)]
  rw[ha,dlt h,cond_true,key,Option.bind_some]
  by_cases hx:BadA a b k
  ·rw[decide_eq_true hx,cond_true]; exact Ret.mk (.inl ⟨rfl,k,h,hx⟩)
  ·rw[decide_eq_false hx,cond_false,stepN h hm]
   exact Ret.mk ⟨_,by omega,k+1,rfl,h,rfl,fun j hj=>by rcases Nat.lt_or_ge j k with h' | h'; exact hE j h'; rw[show j=k by omega]; exact hx⟩
 ·have:k=m:=by omega
  subst this
  rw[ha,dge,cond_false]
  exact Ret.mk (.inr ⟨rfl,fun⟨j,hj,hx⟩=>hE j hj hx⟩)
theorem implBad(hf:RL f a m)(hg:RL g b m)(hm:m≤1048576):Ret (CX z f g n L (f.length:Int) 0) fun t=>(t=.inl ()∧∃k,k<m∧BadA a b k)∨(t=.inr ()∧¬∃k,k<m∧BadA a b k):=by
 unfold CX
 refine A2 (fun w (i:Int)=>∃k:Nat,i=(k:Int)∧k≤m∧w=m-k∧∀j,j<k→¬BadA a b j) (fun w i hI=>?_) m 0 ⟨0,rfl,Nat.zero_le _,rfl,fun _ h=>by omega⟩
 obtain⟨k,rfl,hk,rfl,hE⟩:=hI
 unfold B2 Ee
 have hfl:=hf.1
 have hgl:=hg.1
 rcases Nat.lt_or_ge k m with h | h
 ·have h1:=hf.2.2 k h
  have h2:=hg.2.2 k h
  have key:Bx z f g (f.length:Int) (k:Int) n L=some (if BadA a b k then .inl () else .inr ()):=by
   unfold Bx
   rw[if_pos (rng (by omega)),Int.toNat_natCast,h1.zero]
   by_cases h3:a.getD k 0≤0
   ·rw[decide_eq_true h3,cond_true,if_pos (rng (by omega)),h2.zero]
    by_cases h4:b.getD k 0≤0
    ·rw[decide_eq_true h4,cond_true,if_pos (rng (by omega)),if_pos (rng (by omega)),h1.eq h2]
     by_cases h5:a.getD k 0=b.getD k 0
     ·rw[decide_eq_true h5,if_neg (fun h=>h.2.2 h5)]; rfl
     ·rw[decide_eq_false h5,if_pos ⟨h3,h4,h5⟩]; rfl
    ·rw[decide_eq_false h4,cond_false,if_neg (fun h=>h4 h.2.1)]
   ·rw[decide_eq_false h3,cond_false,if_neg (fun h=>h3 h.1)]
  rw[show decide ((k:Int)<(f.length:Int))=true by rw[hfl]; exact dlt h,cond_true,key,Option.bind_some]
  by_cases hx:BadA a b k
  ·rw[if_pos hx]; exact Ret.mk (.inl ⟨rfl,k,h,hx⟩)
  ·rw[if_neg hx,Sum.elim_inr,stepN h hm]
   exact Ret.mk ⟨_,by omega,k+1,rfl,h,rfl,fun j hj=>by rcases Nat.lt_or_ge j k with h' | h'; exact hE j h'; rw[show j=k by omega]; exact hx⟩
 ·have:k=m:=by omega
  subst this
  rw[hfl,dge,cond_false]
  exact Ret.mk (.inr ⟨rfl,fun⟨j,hj,hx⟩=>hE j hj hx⟩)
def SwB(a:List Int)(m:Nat):Prop:=a.length=m∧∀k,k<m→-1≤a.getD k 0∧a.getD k 0≤300000
theorem RL.sw(h:RL f a m):SwB a m:=⟨h.2.1,fun k hk=>(h.2.2 k hk).bd⟩
theorem VG(ha:SwB a m)(hb:SwB b m)(hm:m≤4096)(h0:0≤n)(h1:n≤900000)(hL:L.length≤1000000):DE n a b L=some (unR a b n L m):=by
 unfold DE
 refine Ret.eq_ (Ret.bind (specBad ha.1 hb.1 (by omega)) fun t ht=>?_)
 rcases ht with ⟨rfl,hx⟩| ⟨rfl,hx⟩
 ·rw[Sum.elim_inl]
  refine Ret.mk ?_
  unfold unR
  rw[if_pos hx]
 ·rw[Sum.elim_inr]
  have hrun:F1 a b 0 n ([]:List Int) L=some (unK a b n L m):=by
   unfold F1
   exact AG (f:=BC a b) (fun k=>((k:Int),unK a b n L k)) (t:=unK a b n L m) m (fun k hk=>by
    have hu:=MK a b n L k
    have ba:=ha.2 k hk
    have bb:=hb.2 k hk
    have hal:=ha.1
    have hbl:=hb.1
    unfold BC Ey
    simp only
    rw[hal,dlt hk,cond_true,stepN hk (by omega)]
    show((D1 a b (k:Int) (unK a b n L k).1 (unK a b n L k).2.1 (unK a b n L k).2.2).bind _)=some (Sum.inl (((k+1:Nat):Int),unS (unK a b n L k) (a.getD k 0) (b.getD k 0)))
    generalize unK a b n L k=x at hu ⊢
    obtain⟨e,ds,M⟩:=x
    simp only at hu ⊢
    unfold D1 unS
    rw[if_pos (rng (by omega)),if_pos (rng (by omega)),Int.toNat_natCast,zi]
    generalize a.getD k 0=s at ba ⊢
    generalize b.getD k 0=t at bb ⊢
    have hmx:=Zv ba bb
    by_cases h:s=t
    ·rw[show(s==t)=true from beq_iff_eq.2 h,cond_true,if_pos h]; rfl
    ·rw[show(s==t)=false from beq_eq_false_iff_ne.2 h,cond_false,if_neg h,if_pos (rng (by omega)),if_pos (rng (by omega)),if_pos (rng (by omega)),if_pos (rng (by omega)),Vi (by omega) (by omega),if_pos (app8 (by omega) _)]
     unfold apC
     show(bif mnI s t==0 then _ else bif decide (mnI s t<0) then _ else _:Option (Int×List Int×List (List Int))).bind _=_
     by_cases h4:mnI s t=0
     ·rw[show(mnI s t==0)=true from beq_iff_eq.2 h4,cond_true,if_pos (app1 (by omega) _),if_pos h4]
      show some (Sum.inl (((k+1:Nat):Int),e+1,ds++[e+1],M++[[mxI s t,wI (0-(e+1))]]))=_
      rw[Kl (x:=e+1) (by omega) (by omega)]
     ·rw[show(mnI s t==0)=false from beq_eq_false_iff_ne.2 h4,cond_false,if_neg h4]
      by_cases h5:mnI s t<0
      ·rw[decide_eq_true h5,cond_true,if_pos (app1 (by omega) _),if_pos h5]
       show some (Sum.inl (((k+1:Nat):Int),e+1,ds++[e+1],M++[[wI (0-mxI s t),wI (0-(e+1))]]))=_
       rw[Kl (x:=e+1) (by omega) (by omega),Kl (by omega) (by omega)]
      ·rw[decide_eq_false h5,cond_false,if_pos (app2 (by omega) _ _),if_neg h5]
       show some (Sum.inl (((k+1:Nat):Int),e+1,ds++[e+1],M++[[mnI s t,mxI s t,wI (0-(e+1))],[wI (0-mnI s t),wI (0-mxI s t),wI (0-(e+1))]]))=_
       rw[Kl (x:=e+1) (by omega) (by omega),Kl (by omega) (by omega),Kl (by omega) (by omega)]) (by
    unfold BC Ey
    simp only
    rw[ha.1,dge,cond_false])
  have hu:=MK a b n L m
  rw[hrun,Option.bind_some,if_pos (app1 (by omega) _)]
  refine Ret.mk ?_
  unfold unR
  rw[if_neg hx]
theorem T3(hf:RL f a m)(hg:RL g b m)(hm:m≤4096)(h0:0≤n)(h1:n≤900000)(hL:L.length≤1000000):BK z f g n L=some (unR a b n L m):=by
 unfold BK
 refine Ret.eq_ (Ret.bind (implBad hf hg (by omega)) fun t ht=>?_)
 rcases ht with ⟨rfl,hx⟩| ⟨rfl,hx⟩
 ·rw[Sum.elim_inl]
  refine Ret.mk ?_
  unfold unR
  rw[if_pos hx]
 ·rw[Sum.elim_inr]
  have hfl:=hf.1
  have hgl:=hg.1
  have hrun:Ct z f g (f.length:Int) 0 n ([]:List Int) L=some (unK a b n L m):=by
   unfold Ct
   exact AG (f:=AK z f g (f.length:Int)) (fun k=>((k:Int),unK a b n L k)) (t:=unK a b n L m) m (fun k hk=>by
    have hu:=MK a b n L k
    have ba:=hf.2.2 k hk
    have bb:=hg.2.2 k hk
    have hnb:¬BadA a b k:=fun h=>hx ⟨k,hk,h⟩
    unfold BadA at hnb
    unfold AK BP
    simp only
    rw[hfl,dlt hk,cond_true,stepN hk (by omega)]
    show((By z f g (m:Int) (k:Int) (unK a b n L k).1 (unK a b n L k).2.1 (unK a b n L k).2.2).bind _)=some (Sum.inl (((k+1:Nat):Int),unS (unK a b n L k) (a.getD k 0) (b.getD k 0)))
    generalize unK a b n L k=x at hu ⊢
    obtain⟨e,ds,M⟩:=x
    simp only at hu ⊢
    unfold By CZ unS
    rw[if_pos (rng (by omega)),if_pos (rng (by omega)),Int.toNat_natCast,ba.eq bb]
    generalize a.getD k 0=s at ba hnb ⊢
    generalize b.getD k 0=t at bb hnb ⊢
    by_cases h:s=t
    ·rw[decide_eq_true h,if_pos h]; rfl
    ·rw[decide_eq_false h,if_neg h,Bool.not_false,cond_true,if_pos (rng (by omega)),if_pos (rng (by omega)),Uf ba bb (fun h'=>hnb ⟨h'.1,h'.2,h⟩) (by omega) (by omega) (by omega),Option.bind_some,if_pos (app8 (by omega) _)]
     rfl) (by
    unfold AK BP
    simp only
    rw[hfl,dge,cond_false])
  have hu:=MK a b n L m
  rw[hrun,Option.bind_some,clA (by omega),Option.bind_some]
  refine Ret.mk ?_
  unfold unR
  rw[if_neg hx]
theorem TY(a b:List Int)(n:Int)(L:List (List Int))(m:Nat):n≤(unR a b n L m).1∧(unR a b n L m).1≤n+(m:Int)∧L.length≤(unR a b n L m).2.length∧(unR a b n L m).2.length≤L.length+2*m+1∧(m≤4096→(∀c∈L,c.length≤4096)→∀c∈(unR a b n L m).2,c.length≤4096):=by
 have hu:=MK a b n L m
 unfold unR
 split
 ·exact⟨Int.le_refl _,by show n≤_; omega,Nat.le_refl _,by show L.length≤_; omega,fun _ h=>h⟩
 ·simp only[List.length_append,List.length_cons,List.length_nil]
  refine⟨hu.1,hu.2.1,by omega,by omega,fun hm h c hc=>?_⟩
  rcases List.mem_append.1 hc with h' | h'
  ·exact hu.2.2.2.2.2 h c h'
  ·rw[List.mem_singleton.1 h']; omega
end
end Go.Proofs.X
namespace Go.Proofs.X
open Go Go.Va
set_option maxRecDepth 100000
theorem mapGet{A B:Type}{f:A→B}{l:List A}{z:A}{y:B}{k:Nat}(h:k<l.length):(l.map f).getD k y=f (l.getD k z):=by simp[List.getD,h]
noncomputable def aK(d:List Aa.V)(l:List Ae.V)(i:Nat):List Int:=(lastB d (lS l i)).map (swI d)
noncomputable def bK(d:List Aa.V)(l:List Ae.V)(i:Nat):List Int:=(lastB d (lT l i)).map (swI d)
noncomputable def mK(d:List Aa.V)(l:List Ae.V)(i:Nat):Nat:=(lastB d (lS l i)).length
noncomputable def blK(d:List Aa.V)(l:List Ae.V):Nat→Int×List (List Int)
 | 0=>(dSum d d.length,[])
 | i+1=>bif !(l.getD i (Ty.zero Ae)).2.1 then unR (aK d l i) (bK d l i) (blK d l i).1 (blK d l i).2 (mK d l i) else((blK d l i).1,eqK (aK d l i) (bK d l i) (blK d l i).2 (mK d l i))
def CnQ(x:Int×List (List Int)):Prop:=∃n:Nat,x.1=(n:Int)∧CnP n x.2
structure BlO (d:List Aa.V) (l:List Ae.V):Prop where
 hd:DeclsP d
 hl:∀x∈l,LitB x
 hp:LitsP d l
 hs:SidesP d l
section
variable {d:List Aa.V} {l:List Ae.V} {z:Int}
theorem BlO.A(h:BlO d l){i:Nat}(hi:i<l.length):FormB d (lastB d (lS l i))∧(flatF d (lS l i)).2=fN (lastB d (lS l i)):=Oj h.hd (h.hl _ (Az (z:=Ty.zero Ae) hi)).1 (h.hs i hi).1
theorem BlO.B(h:BlO d l){i:Nat}(hi:i<l.length):FormB d (lastB d (lT l i))∧(flatF d (lT l i)).2=fN (lastB d (lT l i)):=Oj h.hd (h.hl _ (Az (z:=Ty.zero Ae) hi)).2 (h.hs i hi).2
theorem BlO.len(h:BlO d l){i:Nat}(hi:i<l.length):(lastB d (lT l i)).length=mK d l i:=(VK h.hd h.hl h.hp hi).symm
theorem Acc(hd:DeclsP d){B:List Bt}(hB:BitsIn d B):RL (B.map (flV d)) (B.map (swI d)) B.length:=by
 refine⟨by simp,by simp,fun k hk=>?_⟩
 rw[mapGet (z:=Bt.co false) hk,mapGet (z:=Bt.co false) hk]
 exact Afi hd (hB.2.2 _ (A9 hk))
theorem BlO.ra(h:BlO d l){i:Nat}(hi:i<l.length):RL ((lastB d (lS l i)).map (flV d)) (aK d l i) (mK d l i):=Acc h.hd (h.A hi).1.1
theorem BlO.rb(h:BlO d l){i:Nat}(hi:i<l.length):RL ((lastB d (lT l i)).map (flV d)) (bK d l i) (mK d l i):=by
 rw[←h.len hi]; exact Acc h.hd (h.B hi).1.1
theorem BlO.m(h:BlO d l){i:Nat}(hi:i<l.length):mK d l i≤4096:=(h.A hi).1.1.2.1
theorem MO(h:BlO d l):∀k,k≤l.length→(0≤(blK d l k).1∧(blK d l k).1≤245760+4096*(k:Int))∧(blK d l k).2.length≤8193*k∧∀c∈(blK d l k).2,c.length≤4096
 | 0,_=>⟨by have:=JB h.hd (Nat.le_refl _); exact⟨this.1,by show dSum d d.length≤_; omega⟩,Nat.le_refl _,fun c hc=>by cases hc⟩
 | k+1,hk=>by
  have ih:=MO h k (by omega)
  have hm:=h.m (i:=k) (by omega)
  have hu:=TY (aK d l k) (bK d l k) (blK d l k).1 (blK d l k).2 (mK d l k)
  have he:=NG (aK d l k) (bK d l k) (blK d l k).2 (mK d l k)
  unfold blK
  cases (!(l.getD k (Ty.zero Ae)).2.1) with
  | true=>simp only[cond_true]; exact⟨by omega,by omega,hu.2.2.2.2 hm ih.2.2⟩
  | false=>simp only[cond_false]; exact⟨by omega,by omega,he.2.2 ih.2.2⟩
theorem X4(k:Nat):(blK d l k).1≤(blK d l (k+1)).1∧(blK d l k).2.length≤(blK d l (k+1)).2.length:=by
 have hu:=TY (aK d l k) (bK d l k) (blK d l k).1 (blK d l k).2 (mK d l k)
 have he:=NG (aK d l k) (bK d l k) (blK d l k).2 (mK d l k)
 rw[blK]
 cases (!(l.getD k (Ty.zero Ae)).2.1) with
 | true=>simp only[cond_true]; omega
 | false=>simp only[cond_false]; omega
theorem O2(k:Nat):∀j,(blK d l k).1≤(blK d l (k+j)).1∧(blK d l k).2.length≤(blK d l (k+j)).2.length
 | 0=>⟨Int.le_refl _,Nat.le_refl _⟩
 | j+1=>by
  have h1:=O2 k j
  have h2:=X4 (d:=d) (l:=l) (k+j)
  rw[←Nat.add_assoc]
  omega
theorem VW(hd:DeclsP d){B:List Bt}(h:FormB d B):FG (fN B)=some (bV B):=by
 have h4:=h.1.2.1
 have hs:∀x∈B,SgB x.sg:=fun x hx=>Ql (KR hd (h.1.2.2 x hx))
 unfold fN
 rw[Ug (FD B) (JR hs h4) (by rw[Hi]; exact h4),J7]
theorem UI(hd:DeclsP d){A B:List Bt}(hA:BitsIn d A)(hB:BitsIn d B)(hl:A.length=B.length){b:List (List Ad.V)}{e g:Int}{L:List (List Int)}:JL l b ((List.range d.length).map (dSum d)) e (bV A) (bV B) g L 0 ([]:List Int) ([]:List Int)=some (A.map (swI d),B.map (swI d)):=by
 unfold JL
 have h4:=hA.2.1
 exact AG (f:=El l b ((List.range d.length).map (dSum d)) e (bV A) (bV B) g L) (fun k=>((k:Int),(A.take k).map (swI d),(B.take k).map (swI d))) (t:=(A.map (swI d),B.map (swI d))) A.length (fun k hk=>by
  unfold El HS
  simp only
  have hk':k<B.length:=by omega
  have l1:((A.take k).map (swI d)).length≤1048576:=by rw[List.length_map,List.length_take]; omega
  have l2:((B.take k).map (swI d)).length≤1048576:=by rw[List.length_map,List.length_take]; omega
  rw[Fn,dlt hk,cond_true,if_pos (rng hk),Int.toNat_natCast,bGet hk,Qg hd (hA.2.2 _ (A9 hk)),Option.bind_some,if_pos (app8 l1 _),Fn,if_pos (rng hk'),bGet hk',Qg hd (hB.2.2 _ (A9 hk')),Option.bind_some,if_pos (app8 l2 _),stepN hk (by omega),Cv hk,Cv hk',List.map_append,List.map_append]
  rfl) (by
  unfold El HS
  simp only
  rw[Fn,dge,cond_false,List.take_of_length_le (Nat.le_refl _),List.take_of_length_le (by omega)])
theorem V7{a b:List Int}{m:Nat}(ha:SwB a m)(hb:SwB b m)(hm:m≤4096){l':List (List Ad.V)}{c:List Int}{e n:Int}{L:List (List Int)}(hL:L.length≤1000000):Iu l l' c e a b 0 n L=some (n,eqK a b L m):=by
 unfold Iu
 exact AG (f:=Ei l l' c e a b) (fun k=>((k:Int),n,eqK a b L k)) (t:=(n,eqK a b L m)) m (fun k hk=>by
  have hu:=NG a b L k
  have hal:=ha.1
  have hbl:=hb.1
  unfold Ei H8
  simp only
  rw[hal,dlt hk,cond_true,if_pos (rng hk),if_pos (rng (by omega)),Int.toNat_natCast,zi,UN (ha.2 k hk) (hb.2 k hk) (by omega),Option.bind_some,stepN hk (by omega)]
  rfl) (by
  unfold Ei H8
  simp only
  rw[ha.1,dge,cond_false])
theorem Uv{f g:List Ai.V}{a b:List Int}{m:Nat}(ha:RL f a m)(hb:RL g b m)(hm:m≤4096){c:List ((List Ad.V)×((List Ad.V)×Unit))}{c':List Int}{e i n:Int}{L:List (List Int)}(hL:L.length≤1000000):JN c c' f g l e i (f.length:Int) 0 n L=some (n,eqK a b L m):=by
 unfold JN
 exact AG (f:=DX c c' f g l e i (f.length:Int)) (fun k=>((k:Int),n,eqK a b L k)) (t:=(n,eqK a b L m)) m (fun k hk=>by
  have hu:=NG a b L k
  have hal:=ha.1
  have hbl:=hb.1
  unfold DX Iv
  simp only
  rw[hal,dlt hk,cond_true,if_pos (rng hk),if_pos (rng (by omega)),Int.toNat_natCast,VQ (ha.2.2 k hk) (hb.2.2 k hk) (by omega),Option.bind_some,stepN hk (by omega)]
  rfl) (by
  unfold DX Iv
  simp only
  rw[ha.1,dge,cond_false])
theorem QR(h:BlO d l):Ret (JO d l) fun r=>(r=((blK d l l.length).1,true,(blK d l l.length).2)∧CnQ (blK d l l.length))∨(r.2.1=false∧¬CnQ (blK d l l.length)):=by
 have hlen:=h.hp.1
 have hfin:=MO h l.length (Nat.le_refl _)
 unfold JO
 refine Ret.bind (NX h.hl) fun r hr=>?_
 rw[hr.2 ⟨h.hd,h.hp⟩,Bool.not_true,cond_false]
 refine Ret.bind (specSidesV h.hd h.hl hlen) fun r hr=>?_
 rcases hr with ⟨rfl,_⟩| ⟨_,hx⟩
 ·simp only[Bool.not_true,cond_false]
  rw[OF h.hd,Option.bind_some]
  have hrun:JK l (sidesL d l l.length) ((List.range d.length).map (dSum d)) 0 (dSum d d.length) ([]:List (List Int))=some (blK d l l.length):=by
   unfold JK
   exact AG (f:=Ej l (sidesL d l l.length) ((List.range d.length).map (dSum d))) (fun k=>((k:Int),(blK d l k).1,(blK d l k).2)) (t:=blK d l l.length) l.length (fun k hk=>by
    have hb:=MO h k (by omega)
    have hm:=h.m hk
    have hg:=Os d l l.length k hk
    have hsl:=LU d l l.length
    have ra:=h.ra hk
    have rb:=h.rb hk
    have e2:wI (2*(k:Int))=((2*k:Nat):Int):=wrapN (by omega) (by omega)
    have e3:wI (((2*k:Nat):Int)+1)=((2*k+1:Nat):Int):=wrapN (by omega) (by omega)
    have hmm:(lastB d (lS l k)).length=(lastB d (lT l k)).length:=(h.len hk).symm
    unfold Ej Iy JH
    simp only
    rw[dlt hk,cond_true,e2,e3,if_pos (rng (by omega)),Int.toNat_natCast,show Ty.zero (.sl Ad)=([]:List Ad.V) from rfl,hg.1,(h.A hk).2,VW h.hd (h.A hk).1,Option.bind_some,if_pos (rng (by omega)),Int.toNat_natCast,hg.2,(h.B hk).2,VW h.hd (h.B hk).1,Option.bind_some,UI h.hd (h.A hk).1.1 (h.B hk).1.1 hmm,Option.bind_some,if_pos (rng hk),Int.toNat_natCast,stepN hk (by omega)]
    show((bif !(l.getD k (Ty.zero Ae)).2.1 then(DE (blK d l k).1 (aK d l k) (bK d l k) (blK d l k).2).bind _ else(Iu l _ _ _ (aK d l k) (bK d l k) 0 (blK d l k).1 (blK d l k).2).bind _:Option (Int×List (List Int))).bind _)=_
    rw[VG ra.sw rb.sw hm hb.1.1 (by omega) (by omega),V7 ra.sw rb.sw hm (by omega),blK]
    cases (!(l.getD k (Ty.zero Ae)).2.1)<;>rfl) (by
    unfold Ej Iy
    simp only
    rw[dge,cond_false])
  rw[hrun,Option.bind_some]
  refine Ret.bind (OM (by omega) (by omega) (fun c hc=>by have:=hfin.2.2 c hc; omega)) fun r hr=>?_
  cases r with
  | true=>exact Ret.mk (.inl ⟨rfl,hr.1 rfl⟩)
  | false=>exact Ret.mk (.inr ⟨rfl,fun hq=>by cases hr.2 hq⟩)
 ·exact(hx h.hs).elim
theorem PB(h:BlO d l):Ret (JS d l) fun r=>(r=((blK d l l.length).1,true,(blK d l l.length).2)∧CnQ (blK d l l.length))∨(r.2.1=false∧¬CnQ (blK d l l.length)):=by
 have hlen:=h.hp.1
 have hfin:=MO h l.length (Nat.le_refl _)
 unfold JS
 refine Ret.bind (implSidesV h.hd h.hl h.hp) fun r hr=>?_
 rcases hr with ⟨rfl,_⟩| ⟨_,hx⟩
 ·rw[VO h.hd,Option.bind_some,SA h.hd,Option.bind_some]
  refine Ret.bind (P:=fun t=>(∃x,t=.inl x∧¬CnQ (blK d l l.length))∨t=.inr (blK d l l.length)) ?_ fun t ht=>?_
  ·unfold Lb
   refine A2 (fun w (s:Int×Int×List (List Int))=>∃k:Nat,s=((k:Int),blK d l k)∧k≤l.length∧w=l.length-k) (fun w s hI=>?_) l.length _ ⟨0,rfl,Nat.zero_le _,rfl⟩
   obtain⟨k,rfl,hk,rfl⟩:=hI
   unfold Ig Kh
   simp only
   rcases Nat.lt_or_ge k l.length with hk | hk'
   ·have hb:=MO h k (by omega)
    have hm:=h.m hk
    have ra:=h.ra hk
    have rb:=h.rb hk
    have hpl:((List.range l.length).map (pairV d l)).length=l.length:=by simp
    have hpg:((List.range l.length).map (pairV d l)).getD k (Ty.zero (.pair (.sl Ad) (.pair (.sl Ad) .unit)))=pairV d l k:=by simp[List.getD,hk]
    rw[dlt hk,cond_true,stepN hk (by omega)]
    unfold JG mkr
    rw[if_pos (rng hk)]
    cases hc:(decide ((blK d l k).1>400)||decide (((blK d l k).2.length:Int)>4000)) with
    | true =>
     refine Ret.mk (.inl ⟨_,rfl,fun⟨n,h1,h2,h3,_⟩=>?_⟩)
     have hmono:=O2 (d:=d) (l:=l) k (l.length-k)
     rw[show k+(l.length-k)=l.length by omega] at hmono
     simp at hc
     omega
    | false =>
     rw[cond_false,hpl,if_pos (rng hk),if_pos (rng hk),Int.toNat_natCast,hpg]
     show Ret ((((Da (flatF d (lS l k)).2 _).bind fun o=>(Da (flatF d (lT l k)).2 _).bind fun q=>_:Option (Unit⊕(Int×List (List Int)))).bind _)) _
     rw[(h.A hk).2,OB h.hd (h.A hk).1.1,Option.bind_some,(h.B hk).2,OB h.hd (h.B hk).1.1,Option.bind_some,T3 ra rb hm hb.1.1 (by omega) (by omega),Uv ra rb hm (by omega)]
     refine Ret.of (a:=.inl (((k+1:Nat):Int),blK d l (k+1))) ?_ ⟨_,by omega,k+1,rfl,hk,rfl⟩
     rw[blK]
     cases (!(l.getD k (Ty.zero Ae)).2.1)<;>rfl
   ·have:k=l.length:=by omega
    subst this
    rw[dge,cond_false]
    exact Ret.mk (.inr rfl)
  ·rcases ht with ⟨x,rfl,hx⟩| rfl
   ·exact Ret.mk (.inr ⟨rfl,hx⟩)
   ·rw[Sum.elim_inr]
    refine Ret.bind (Tv (by omega) (by omega) (fun c hc=>by have:=hfin.2.2 c hc; omega)) fun r hr=>?_
    cases r with
    | true=>exact Ret.mk (.inl ⟨rfl,hr.1 rfl⟩)
    | false=>exact Ret.mk (.inr ⟨rfl,fun hq=>by cases hr.2 hq⟩)
 ·exact(hx h.hs).elim
end
end Go.Proofs.X
namespace Go.Proofs.X
open Go Go.Va
set_option maxRecDepth 100000
def addAt(δ:Int)(ix:List Nat)(g:List Int):List Int:=(List.range g.length).map fun i=>g.getD i 0+if i∈ix then δ else 0
theorem CS(δ:Int)(ix:List Nat)(g:List Int):(addAt δ ix g).length=g.length:=by simp[addAt]
theorem GB{δ:Int}{ix:List Nat}{g:List Int}{i:Nat}(h:i<g.length):(addAt δ ix g).getD i 0=g.getD i 0+if i∈ix then δ else 0:=by simp[addAt,List.getD,h]
theorem JI{a b:List Int}(hl:a.length=b.length)(h:∀i,i<a.length→a.getD i 0=b.getD i 0):a=b:=by
 apply List.ext_getElem hl
 intro i h1 h2
 have:=h i h1
 rw[gD h1,gD h2] at this
 exact this
theorem K7{g:List Int}{i j:Nat}{v:Int}(hj:j<g.length):(g.set i v).getD j 0=if i=j then v else g.getD j 0:=by
 simp only[List.getD,List.getElem?_set]
 by_cases h:i=j
 ·subst h; simp[hj]
 ·simp[h]
theorem UL(δ:Int)(g:List Int):addAt δ [] g=g:=JI (CS _ _ _) fun i hi=>by rw[CS] at hi; rw[GB hi]; simp
theorem Up {δ:Int} {ix:List Nat} {g:List Int} {k:Nat} (hk:k<ix.length) (hnd:ix.Nodup) (hlt:ix.getD k 0<g.length) :
    (addAt δ (ix.take k) g).set (ix.getD k 0) ((addAt δ (ix.take k) g).getD (ix.getD k 0) 0+δ)=addAt δ (ix.take (k+1)) g:=by
 have hni:ix.getD k 0∉ix.take k:=fun h=>by
  rw[←List.take_append_drop k ix,List.nodup_append] at hnd
  refine hnd.2.2 _ h (ix.getD k 0) ?_ rfl
  rw[List.drop_eq_getElem_cons hk,gD hk]; exact List.mem_cons_self
 refine JI (by rw[List.length_set,CS,CS]) fun i hi=>?_
 rw[List.length_set,CS] at hi
 rw[K7 (by rw[CS]; exact hi),GB hi,GB hlt,GB hi,if_neg hni,AB (z:=0) hk]
 by_cases e:ix.getD k 0=i
 ·subst e
  rw[if_pos rfl,if_pos (by simp)]; omega
 ·rw[if_neg e]
  have e':¬i=ix.getD k 0:=Ne.symm e
  simp only[List.mem_append,List.mem_singleton,e',or_false]
theorem Nk {f:Int×List Int→Option ((Int×List Int)⊕List Int)} {ix:List Nat} {g:List Int} {δ:Int} (hnd:ix.Nodup) (hlt:∀i∈ix,i<g.length) (hn:ix.length≤1048576) (hb:∀i,-1000≤g.getD i 0∧g.getD i 0≤1000) (hδ:-1≤δ∧δ≤1)
    (hs:∀(l:Nat) (x:List Int),l<ix.length→x.length=g.length→ix.getD l 0<g.length→f ((l:Int),x)=some (.inl (wI ((l:Int)+1),x.set (ix.getD l 0) (wI (x.getD (ix.getD l 0) 0+δ)))))
    (he:∀x,f ((ix.length:Int),x)=some (.inr x)):fix f (0,g)=some (addAt δ ix g):=by
 have:=AG (f:=f) (fun k=>((k:Int),addAt δ (ix.take k) g)) (t:=addAt δ ix g) ix.length (fun k hk=>by
  have hi:=hlt _ (A9 (z:=0) hk)
  have hbi:=hb (ix.getD k 0)
  rw[hs k _ hk (CS _ _ _) hi,stepN hk hn,wrap64 (x:=(addAt δ (ix.take k) g).getD (ix.getD k 0) 0+δ) (by rw[GB hi]; split<;>omega) (by rw[GB hi]; split<;>omega),Up hk hnd hi]) (by
  rw[he,List.take_of_length_le (Nat.le_refl _)])
 rw[List.take_zero,UL] at this
 exact this
def hasIx(L:List (List Int))(m:Int):List Nat:=(List.range L.length).filter fun i=>decide (m∈L.getD i [])
def gdV(L:List (List Int))(S:List Int):List Int:=L.map fun c=>(cG S c:Int)
def bdV(L:List (List Int))(S:List Int):List Int:=L.map fun c=>(cB S c:Int)
def ixV(ix:List Nat):List Int:=ix.map fun i:Nat=>(i:Int)
def HasP(L:List (List Int))(q:List (Int×List Int)):Prop:=∀m,mget (.int .i64) (.sl (.int .i64)) q m=ixV (hasIx L m)
theorem Nb(L:List (List Int))(m:Int):(hasIx L m).Nodup:=List.nodup_range.filter _
theorem EM{L:List (List Int)}{m:Int}{i:Nat}:i∈hasIx L m↔i<L.length∧m∈L.getD i []:=by unfold hasIx; rw[List.mem_filter,List.mem_range]; simp
theorem Mo(L:List (List Int))(m:Int):(hasIx L m).length≤L.length:=by
 have:=List.length_filter_le (fun i=>decide (m∈L.getD i [])) (List.range L.length)
 rw[List.length_range] at this
 exact this
theorem L9{L:List (List Int)}{S:List Int}{k:Nat}(h:k<L.length):(gdV L S).getD k 0=(cG S (L.getD k []):Int):=mapGet (z:=[]) h
theorem K8{L:List (List Int)}{S:List Int}{k:Nat}(h:k<L.length):(bdV L S).getD k 0=(cB S (L.getD k []):Int):=mapGet (z:=[]) h
theorem II(L:List (List Int))(S:List Int):(gdV L S).length=L.length:=by simp[gdV]
theorem Hx(L:List (List Int))(S:List Int):(bdV L S).length=L.length:=by simp[bdV]
theorem S5{l:List Int}{k:Nat}(h:l.length≤k):l.getD k 0=0:=by simp[List.getD,h]
section
variable {n:Nat} {L:List (List Int)} {S:List Int} {m z:Int} {q:List (Int×List Int)}
theorem AcD(hL:CnP n L)(S:List Int)(i:Nat):-1000≤(gdV L S).getD i 0∧(gdV L S).getD i 0≤1000:=by
 rcases Nat.lt_or_ge i L.length with h | h
 ·rw[L9 h]
  have:=Ah4 S (L.getD i [])
  have:=(hL.2.2 _ (A9 (z:=[]) h)).1
  omega
 ·rw[S5 (by rw[II]; exact h)]; omega
theorem Ac3(hL:CnP n L)(S:List Int)(i:Nat):-1000≤(bdV L S).getD i 0∧(bdV L S).getD i 0≤1000:=by
 rcases Nat.lt_or_ge i L.length with h | h
 ·rw[K8 h]
  have:=AgK S (L.getD i [])
  have:=(hL.2.2 _ (A9 (z:=[]) h)).1
  omega
 ·rw[S5 (by rw[Hx]; exact h)]; omega
theorem AcL(hL:CnP n L)(hS:OkS n (S++[m])):addAt 1 (hasIx L m) (gdV L S)=gdV L (S++[m]):=by
 refine JI (by rw[CS,II,II]) fun i hi=>?_
 rw[CS,II] at hi
 rw[GB (by rw[II]; exact hi),L9 hi,L9 hi,RT hS (hL.2.2 _ (A9 hi)).2.2]
 by_cases h:m∈L.getD i []
 ·rw[if_pos (EM.2 ⟨hi,h⟩),if_pos h]; omega
 ·rw[if_neg (fun h'=>h (EM.1 h').2),if_neg h]; omega
theorem AbP(hL:CnP n L)(hS:OkS n (S++[m])):addAt 1 (hasIx L (-m)) (bdV L S)=bdV L (S++[m]):=by
 refine JI (by rw[CS,Hx,Hx]) fun i hi=>?_
 rw[CS,Hx] at hi
 rw[GB (by rw[Hx]; exact hi),K8 hi,K8 hi,Rn hS (hL.2.2 _ (A9 hi)).2.2]
 by_cases h:-m∈L.getD i []
 ·rw[if_pos (EM.2 ⟨hi,h⟩),if_pos h]; omega
 ·rw[if_neg (fun h'=>h (EM.1 h').2),if_neg h]; omega
theorem Abt(hL:CnP n L)(hS:OkS n (S++[m])):addAt (-1) (hasIx L m) (gdV L (S++[m]))=gdV L S:=by
 refine JI (by rw[CS,II,II]) fun i hi=>?_
 rw[CS,II] at hi
 rw[GB (by rw[II]; exact hi),L9 hi,L9 hi,RT hS (hL.2.2 _ (A9 hi)).2.2]
 by_cases h:m∈L.getD i []
 ·rw[if_pos (EM.2 ⟨hi,h⟩),if_pos h]; omega
 ·rw[if_neg (fun h'=>h (EM.1 h').2),if_neg h]; omega
theorem AdL(hL:CnP n L)(hS:OkS n (S++[m])):addAt (-1) (hasIx L (-m)) (bdV L (S++[m]))=bdV L S:=by
 refine JI (by rw[CS,Hx,Hx]) fun i hi=>?_
 rw[CS,Hx] at hi
 rw[GB (by rw[Hx]; exact hi),K8 hi,K8 hi,Rn hS (hL.2.2 _ (A9 hi)).2.2]
 by_cases h:-m∈L.getD i []
 ·rw[if_pos (EM.2 ⟨hi,h⟩),if_pos h]; omega
 ·rw[if_neg (fun h'=>h (EM.1 h').2),if_neg h]; omega
theorem ON{ix:List Nat}{k:Nat}(h:k<ix.length):(ixV ix).getD k 0=((ix.getD k 0:Nat):Int):=mapGet (f:=fun i:Nat=>(i:Int)) (z:=0) h
theorem Li(ix:List Nat):(ixV ix).length=ix.length:=by simp[ixV]
theorem absM(h:OkS n (S++[m]))(hn:n≤400):(if(wI (0-m))>m then(wI (0-m)) else m)=(m.natAbs:Int)∧m.natAbs≤n∧wI (0-m)=-m:=by
 have:=OkS.snoc.1 h
 exact⟨nAbs this.2.2.1 (by omega),this.2.2.1,Kl (by omega) (by omega)⟩
theorem Px(hL:CnP n L)(hS:OkS n (S++[m]))(hh:HasP L q){x:Ag.V}:Cb z m x q (gdV L S) (bdV L S) S (isV n S)=some (x,q,gdV L (S++[m]),bdV L (S++[m]),isV n (S++[m]),S++[m]):=by
 have hl:=hS.len
 rw[List.length_append] at hl
 have hll:=hL.2.1
 obtain⟨e1,e2,e3⟩:=absM hS hL.1
 have hlen1:=Mo L m
 have hlen2:=Mo L (-m)
 have h400:=hL.1
 unfold Cb
 rw[if_pos (app8 (by omega) _),e1,e3,Gz,if_pos ⟨by omega,by omega⟩,Int.toNat_natCast,Pk hS,hh m,hh (-m),Li,Li]
 have g1:EG z m x q (bdV L S) (ixV (hasIx L m)) ((hasIx L m).length:Int) (isV n (S++[m])) (S++[m]) 0 (gdV L S)=some (gdV L (S++[m])):=by
  unfold EG
  rw[←AcL hL hS]
  refine Nk (Nb L m) (fun i hi=>by rw[II]; exact(EM.1 hi).1) (by omega) (AcD hL S) (by omega) (fun l w hl hw hi=>?_) (fun w=>?_)
  ·unfold BT Dz
   simp only
   rw[dlt hl,cond_true,Li,if_pos (rng hl),Int.toNat_natCast,zi,ON hl,if_pos (rng (by omega)),if_pos (rng (by omega)),Int.toNat_natCast]
  ·unfold BT Dz
   simp only
   rw[dge,cond_false]
 have g2:Eo z x q (gdV L (S++[m])) (ixV (hasIx L (-m))) ((hasIx L (-m)).length:Int) (isV n (S++[m])) (S++[m]) 0 (bdV L S)=some (bdV L (S++[m])):=by
  unfold Eo
  rw[←AbP hL hS]
  refine Nk (Nb L (-m)) (fun i hi=>by rw[Hx]; exact(EM.1 hi).1) (by omega) (Ac3 hL S) (by omega) (fun l w hl hw hi=>?_) (fun w=>?_)
  ·unfold BR De
   simp only
   rw[dlt hl,cond_true,Li,if_pos (rng hl),Int.toNat_natCast,zi,ON hl,if_pos (rng (by omega)),if_pos (rng (by omega)),Int.toNat_natCast]
  ·unfold BR De
   simp only
   rw[dge,cond_false]
 rw[g1,Option.bind_some,g2,Option.bind_some]
theorem back1 (hL:CnP n L) (hS:OkS n (S++[m])) (hh:HasP L q) {x:Ag.V} {k:Nat} (hk:k≤S.length) :
    AZ z (k:Int) x q (gdV L (S++[m]),bdV L (S++[m]),isV n (S++[m]),S++[m])=some (.inl (gdV L S,bdV L S,isV n S,S)):=by
 have hl:=hS.len
 have hll:=hL.2.1
 obtain⟨e1,e2,e3⟩:=absM hS hL.1
 have hlen1:=Mo L m
 have hlen2:=Mo L (-m)
 have h400:=hL.1
 have eS:(S++[m]).length=S.length+1:=by simp
 rw[eS] at hl
 have ep:wI (((S.length+1:Nat):Int)-1)=(S.length:Int):=by rw[wrap64 (by omega) (by omega)]; omega
 have eg:(S++[m]).getD S.length 0=m:=by simp[List.getD]
 have et:(S++[m]).take S.length=S:=by simp
 unfold AZ DL
 simp only
 rw[eS,decide_eq_true (show((S.length+1:Nat):Int)>(k:Int) by omega),cond_true,ep,if_pos ⟨by omega,by omega⟩,Int.toNat_natCast,zi,eg,et]
 rw[show Di z (k:Int) x q (gdV L (S++[m])) (bdV L (S++[m])) (isV n (S++[m])) (S++[m]) m=some () by
  unfold Di
  rw[eS,ep,if_pos ⟨by omega,by omega⟩]]
 rw[Option.bind_some,e1,e3,Gz,if_pos ⟨by omega,by omega⟩,Int.toNat_natCast,Wx hS,hh m,hh (-m),Li,Li]
 have g1:EX z (k:Int) x q (bdV L (S++[m])) m (ixV (hasIx L m)) ((hasIx L m).length:Int) (isV n S) S 0 (gdV L (S++[m]))=some (gdV L S):=by
  unfold EX
  rw[←Abt hL hS]
  refine Nk (Nb L m) (fun i hi=>by rw[II]; exact(EM.1 hi).1) (by omega) (AcD hL _) (by omega) (fun l w hl hw hi=>?_) (fun w=>?_)
  ·unfold Ce DR
   simp only
   rw[dlt hl,cond_true,Li,if_pos (rng hl),Int.toNat_natCast,zi,ON hl,if_pos (rng (by omega)),if_pos (rng (by omega)),Int.toNat_natCast]
   rfl
  ·unfold Ce DR
   simp only
   rw[dge,cond_false]
 have g2:EW z (k:Int) x q (gdV L S) (ixV (hasIx L (-m))) ((hasIx L (-m)).length:Int) (isV n S) S 0 (bdV L (S++[m]))=some (bdV L S):=by
  unfold EW
  rw[←AdL hL hS]
  refine Nk (Nb L (-m)) (fun i hi=>by rw[Hx]; exact(EM.1 hi).1) (by omega) (Ac3 hL _) (by omega) (fun l w hl hw hi=>?_) (fun w=>?_)
  ·unfold Cd DO
   simp only
   rw[dlt hl,cond_true,Li,if_pos (rng hl),Int.toNat_natCast,zi,ON hl,if_pos (rng (by omega)),if_pos (rng (by omega)),Int.toNat_natCast]
   rfl
  ·unfold Cd DO
   simp only
   rw[dge,cond_false]
 rw[g1,Option.bind_some,g2,Option.bind_some]
theorem UU(hL:CnP n L)(hh:HasP L q){x:Ag.V}:∀(N:Nat) (T:List Int),T.length=N→OkS n (S++T)→fix (AZ z (S.length:Int) x q) (gdV L (S++T),bdV L (S++T),isV n (S++T),S++T)=some (gdV L S,bdV L S,isV n S,S)
 | 0,T,hT,hS=>by
  have:T=[]:=List.length_eq_zero_iff.1 hT
  subst this
  rw[List.append_nil]
  refine Bv ?_
  unfold AZ DL
  simp only
  rw[decide_eq_false (by omega),cond_false]
 | N+1,T,hT,hS=>by
  obtain⟨T',m,rfl⟩:∃T' m,T=T'++[m]:=⟨T.dropLast,T.getLast (by intro h; rw[h] at hT; cases hT),(List.dropLast_concat_getLast _).symm⟩
  rw[←List.append_assoc] at hS ⊢
  rw[HM (back1 hL hS hh (by rw[List.length_append]; omega))]
  exact UU hL hh N T' (by simpa using hT) hS.fore
theorem M0(hL:CnP n L)(hh:HasP L q){x:Ag.V}{T:List Int}(hS:OkS n (S++T)):DZ z (S.length:Int) x q (gdV L (S++T)) (bdV L (S++T)) (S++T) (isV n (S++T))=some (x,q,gdV L S,bdV L S,isV n S,S):=by
 unfold DZ HH
 rw[UU hL hh T.length T rfl hS]
 rfl
end
end Go.Proofs.X
