import Derived.Test.YthpbadopmihmpaaGreatPlScene
import Derived.Test.YthpbadopmihmpaaGreatG7
namespace Go.Proofs.T1
open Go Go.Sx
section
variable {p v:V26} {ang spin mass inertia bounce rub:Int} {l:List V26} {asleep:Bool} {calm:Int}
end
end Go.Proofs.T1
namespace Go.Proofs.T1
open Go Go.Sx Go.Sort
theorem take_succ_getD {α:Type} (z:α) (l:List α) {j:Nat} (h:j<l.length):l.take (j+1)=l.take j++[l.getD j z]:=by
 rw [List.take_add_one,List.getD_eq_getElem?_getD,List.getElem?_eq_getElem h]
 rfl
theorem take_set {α:Type} (l:List α) (i:Nat) (y:α) (h:i<l.length):(l.set i y).take (i+1)=l.take i++[y]:=by
 rw [take_succ_getD y _ (by rw [List.length_set]; exact h),List.getD_eq_getElem?_getD,List.getElem?_set_self h,List.take_set_of_le (Nat.le_refl i)]
 rfl
theorem drop_set {α:Type} (l:List α) (i j:Nat) (y:α) (h:i<j):(l.set i y).drop j=l.drop j:=List.drop_set_of_lt h
theorem getD_drop {α:Type} (z:α) (l:List α) (j:Nat):l.getD j z=(l.drop j).getD 0 z:=by
 rw [List.getD_eq_getElem?_getD,List.getD_eq_getElem?_getD,List.getElem?_drop]; rfl
theorem drop_next {α:Type} {l m:List α} {j:Nat} (h:l.drop j=m.drop j):l.drop (j+1)=m.drop (j+1):=by
 rw [← List.drop_drop,← List.drop_drop,h]
theorem filter_one {α:Type} (g:α→Bool) (x:α):[x].filter (fun y=>!g y)=if g x then [] else [x]:=by
 cases h:g x <;> simp [h]
theorem del_loop {α:Type} (z:α) (g:α→Bool) (F:Nat→Int→Int→List α→Option (Int × List α)) (l:List α)
  (hstep:∀ (n i j:Nat) (v:List α),v.length=l.length→i<j→j<l.length→v.getD j z∈l→F (n+1) i j v=if g (v.getD j z) then F n i (j+1:Nat) v else F n (i+1:Nat) (j+1:Nat) (v.set i (v.getD j z)))
  (hend:∀ (n i:Nat) (v:List α),v.length=l.length→F (n+1) i l.length v=some ((i:Int),v)) :
  ∀ (n i j:Nat) (v:List α),v.length=l.length→i<j→j≤l.length→l.length<j+n→v.drop j=l.drop j→v.take i=(l.take j).filter (fun x=>!g x) →
   ∃ (i':Nat) (v':List α),F n i j v=some ((i':Int),v')∧i'≤l.length∧v'.length=l.length∧v'.take i'=l.filter (fun x=>!g x):=by
 intro n
 induction n with
 | zero=>intro i j v _ _ h1 h2; omega
 | succ n ih =>
  intro i j v hv hij hj hn hd ht
  by_cases hjN:j<l.length
  ·have e:v.getD j z=l.getD j z:=by rw [getD_drop,getD_drop z l,hd]
   have hm:v.getD j z∈l:=by
    rw [e,List.getD_eq_getElem?_getD,List.getElem?_eq_getElem hjN]
    exact List.getElem_mem _
   have ht':(l.take (j+1)).filter (fun x=>!g x)=v.take i++(if g (v.getD j z) then [] else [v.getD j z]):=by
    rw [take_succ_getD z l (by omega),List.filter_append,ht,← e,filter_one]
   rw [hstep n i j v hv hij hjN hm]
   cases hg:g (v.getD j z) with
   | true =>
    rw [if_pos rfl]
    refine ih i (j+1) v hv (by omega) (by omega) (by omega) (drop_next hd) ?_
    rw [ht',hg]
    simp
   | false =>
    simp only [Bool.false_eq_true,if_false]
    refine ih (i+1) (j+1) _ (by rw [List.length_set]; exact hv) (by omega) (by omega) (by omega) ?_ ?_
    ·rw [drop_set _ _ _ _ (by omega)]; exact drop_next hd
    ·rw [ht',hg,take_set _ _ _ (by omega)]
     simp
  ·have:j=l.length:=by omega
   subst this
   refine ⟨i,v,hend n i v hv,by omega,hv,?_⟩
   rw [ht,List.take_of_length_le (by omega)]
theorem clr_take {α:Type} (z:α) (l:List α) (n:Nat) (h:n≤l.length):(clr z l n).take n=l.take n:=by
 unfold clr
 rw [List.take_append_of_le_length (by rw [List.length_take]; omega),List.take_take,Nat.min_self]
theorem clr_length {α:Type} (z:α) (l:List α) (n:Nat) (h:n≤l.length):(clr z l n).length=l.length:=by
 unfold clr
 rw [List.length_append,List.length_take,List.length_replicate]
 omega
theorem Delete_ok {k:Nat} {a1:(Int × Unit)→Option Bool} {g:Int→Bool} {l:List Int} (hg:∀ x,x∈l→a1 (x,())=some (g x)) (hk:l.length+1<k) (hl:l.length≤1000000000) :
  slices_DeleteFunc k a1 l=some (l.filter (fun x=>!g x)):=by
 have ll:len l=(l.length:Int):=rfl
 have hm:∀ j:Int,0≤j→j<len l→el 0 l j∈l:=by
  intro j h0 h1
  have:j.toNat<l.length:=by omega
  unfold el
  rw [List.getD_eq_getElem?_getD,List.getElem?_eq_getElem this]
  exact List.getElem_mem _
 have H:=find_loop (fun n v=>slices_IndexFunc_161.c1 k l a1 n v) 0 (len l) (fun j=>g (el 0 l j)=true) (fun j=>j)
  (by
   intro n v h0 h1 hp
   show slices_IndexFunc_161.c1 k l a1 (n+1) v=_
   rw [slices_IndexFunc_161.c1,ilt_pos h1,bT,rP (inL_of h0 h1),hg _ (hm v h0 h1),bS,hp,bT])
  (by
   intro n v h0 h1 hp
   show slices_IndexFunc_161.c1 k l a1 (n+1) v=slices_IndexFunc_161.c1 k l a1 n (v+1)
   have hp:g (el 0 l v)=false:=by simpa using hp
   rw [slices_IndexFunc_161.c1,ilt_pos h1,bT,rP (inL_of h0 h1),hg _ (hm v h0 h1),bS,hp,bF,iadd_i64 (by omega) (by omega)])
  (by
   intro n v h0 h1
   show slices_IndexFunc_161.c1 k l a1 (n+1) v=_
   rw [slices_IndexFunc_161.c1,ilt_neg h1,bF])
  k 0 (by omega) (by omega)
 unfold slices_DeleteFunc slices_IndexFunc_161
 rcases H with ⟨j,j0,j1,hj,hbef,e⟩ | ⟨hno,e⟩
 ·have e:slices_IndexFunc_161.c1 k l a1 k 0=some (.inl j):=e
  rw [e,bS,two_inl,bS,ieq_neg (by omega),bF]
  obtain ⟨j,rfl⟩:=Int.eq_ofNat_of_zero_le j0
  have hjl:j<l.length:=by omega
  rw [iadd_i64 (by omega) (by omega)]
  obtain ⟨i',v',e1,hi',hv',ht⟩:=del_loop (0:Int) g (fun n i j v=>slices_DeleteFunc.c1 k a1 n i j v) l
   (by
    intro n i j v hv hij hj hm
    show slices_DeleteFunc.c1 k a1 (n+1) i j v=_
    have h1:(j:Int)<len v:=by unfold len; omega
    have e:el 0 v (j:Int)=v.getD j 0:=rfl
    have e2:st v (i:Int) (v.getD j 0)=v.set i (v.getD j 0):=rfl
    rw [slices_DeleteFunc.c1,ilt_pos h1,bT,rP (inL_of (by omega) h1),e,hg _ hm,bS]
    unfold slices_DeleteFunc.c2
    rw [iadd_i64 (by omega) (by omega)]
    cases hg':g (v.getD j 0) with
    | true =>
     rw [bT,bS,iadd_i64 (by omega) (by omega)]
     rfl
    | false =>
     rw [bF,rP (inL_of (by omega) (by unfold len; omega)),bS,iadd_i64 (by omega) (by omega),e,e2]
     rfl)
   (by
    intro n i v hv
    show slices_DeleteFunc.c1 k a1 (n+1) i l.length v=_
    rw [slices_DeleteFunc.c1,ilt_neg (by unfold len; omega),bF])
   k j (j+1) l rfl (by omega) (by omega) (by omega) rfl
   (by
    rw [take_succ_getD (0:Int) l hjl,List.filter_append]
    have h1:(l.take j).filter (fun x=>!g x)=l.take j:=by
     rw [List.filter_eq_self]
     intro x hx
     obtain ⟨i,hi,rfl⟩:=List.mem_iff_getElem.1 hx
     rw [List.length_take] at hi
     have:=hbef i (by omega) (by omega)
     have e:el 0 l (i:Int)=l[i]'(by omega):=by
      show l.getD i 0=_
      rw [List.getD_eq_getElem?_getD,List.getElem?_eq_getElem (by omega)]
      rfl
     rw [e] at this
     rw [List.getElem_take]
     simpa using this
    have h2:g (l.getD j 0)=true:=hj
    rw [h1,filter_one,h2]
    simp)
  have e1:slices_DeleteFunc.c1 k a1 k (j:Int) ((j:Int)+1) l=some ((i':Int),v'):=e1
  rw [e1,bS]
  dsimp only
  rw [rP (show sufIn (i':Int) v'.length from ⟨by omega,by omega⟩),rP (show Int.toNat (i':Int)≤v'.length by omega),
   rP (show tkOk (clr 0 v' (Int.toNat (i':Int))) (i':Int) from ⟨by omega,by rw [clr_length _ _ _ (by omega)]; omega⟩)]
  show some ((clr 0 v' i').take i')=_
  rw [clr_take _ _ _ (by omega),ht]
 ·have e:slices_IndexFunc_161.c1 k l a1 k 0=some (.inr ()):=e (by omega)
  rw [e,bS,two_inr,bS,ieq_pos rfl,bT]
  congr 1
  symm
  rw [List.filter_eq_self]
  intro x hx
  obtain ⟨i,hi,rfl⟩:=List.mem_iff_getElem.1 hx
  have:=hno i (by omega) (by omega)
  have e:el 0 l (i:Int)=l[i]:=by
   show l.getD i 0=_
   rw [List.getD_eq_getElem?_getD,List.getElem?_eq_getElem hi]
   rfl
  rw [e] at this
  simpa using this
theorem sort_of {e:Ty} {l:List e.den} {cmp:CmpF e} (lt:e.den→e.den→Bool) (tot:∀ a,a∈l→∀ b,b∈l→∃ r,cmp (a,b,())=some r∧(r<0↔lt a b=true))
  (irr:∀ a,a∈l→lt a a=false) (tr:∀ a b c,lt a b=true→lt b c=true→lt a c=true) (ntr:∀ a b c,lt a b=false→lt b c=false→lt a c=false) (hl:l.length≤1000000000000) :
  ∃ y,sortG e l cmp=some y∧y.Perm l∧y.Pairwise (fun a b=>lt b a=false):=by
 have key:∀ a b:{a // a∈l},ltOf (cfOf l cmp) a b=lt a.1 b.1:=by
  intro a b
  obtain ⟨r,h1,h2⟩:=tot a.1 a.2 b.1 b.2
  unfold ltOf cfOf
  rw [h1]
  show decide (r<0)=_
  cases h:lt a.1 b.1 with
  | true=>exact decide_eq_true (h2.2 h)
  | false=>exact decide_eq_false fun g=>by rw [h2.1 g] at h; cases h
 have ok:SortOk l cmp:=by
  refine ⟨fun a ha b hb=>?_,⟨fun a=>?_,fun a b c=>?_,fun a b c=>?_⟩,by omega⟩
  ·obtain ⟨r,h,_⟩:=tot a ha b hb
   exact ⟨r,h⟩
  ·rw [key]; exact irr a.1 a.2
  ·rw [key,key,key]; exact tr _ _ _
  ·rw [key,key,key]; exact ntr _ _ _
 obtain ⟨hp,hs⟩:=sortL_spec ok
 refine ⟨sortL l cmp,if_pos ok,hp,?_⟩
 refine hs.imp_of_mem fun {a b} ha hb h=>?_
 obtain ⟨r,h1,h2⟩:=tot b (hp.mem_iff.1 hb) a (hp.mem_iff.1 ha)
 have h3:=h r h1
 cases h4:lt b a with
 | true=>exact absurd (h2.2 h4) h3
 | false=>rfl
def cmpT (a b:Int):Int:=if a<b then -1 else if b<a then 1 else 0
theorem Compare_eq (k:Nat) (a b:Int):cmp_Compare k a b=some (cmpT a b):=by
 unfold cmp_Compare cmp_isNaN cmpT
 rw [bS,bS,ine_neg rfl,bF,ine_neg rfl,bF]
 by_cases h:a<b
 ·rw [ilt_pos h,bT,if_pos h]
 ·rw [ilt_neg (by omega),bF,if_neg h]
  by_cases h':b<a
  ·rw [igt_pos h',bT,if_pos h']
  ·rw [igt_neg (by omega),bF,if_neg h']
theorem cmpT_lt (a b:Int):cmpT a b<0↔a<b:=by unfold cmpT; split <;> (try split) <;> omega
def bxa (l:List V133) (i:Int):V133:=el Z133 l i
def vbx (b:V133):Prop:=b.1.1≤b.2.1.1∧b.1.2.1≤b.2.1.2.1
instance (b:V133):Decidable (vbx b):=by unfold vbx; infer_instance
def mbx (a b:V133):Prop:=vbx a∧vbx b∧a.1.1≤b.2.1.1∧b.1.1≤a.2.1.1∧a.1.2.1≤b.2.1.2.1∧b.1.2.1≤a.2.1.2.1
instance (a b:V133):Decidable (mbx a b):=by unfold mbx; infer_instance
theorem mbx_comm {a b:V133}:mbx a b↔mbx b a:=⟨fun ⟨h1,h2,h3,h4,h5,h6⟩=>⟨h2,h1,h4,h3,h6,h5⟩,fun ⟨h1,h2,h3,h4,h5,h6⟩=>⟨h2,h1,h4,h3,h6,h5⟩⟩
theorem Valid_eq (k:Nat) (b:V133):sweep_Valid k b=some (decide (vbx b)):=by
 unfold sweep_Valid vbx
 by_cases h:b.1.1≤b.2.1.1
 ·rw [ile_pos h,bT]
  unfold ile
  simp [h]
 ·rw [ile_neg (by omega),bF]
  simp [h]
def plt (p r:List Int):Bool:=decide (p.getD 0 0<r.getD 0 0∨p.getD 0 0=r.getD 0 0∧p.getD 1 0<r.getD 1 0)
def PairsOf (l:List V133) (r:List (List Int)):Prop :=
 r.Pairwise (fun p s=>plt p s=true)∧∀ p,p∈r↔∃ a b:Int,0≤a∧a<b∧b<len l∧mbx (bxa l a) (bxa l b)∧p=[a,b]
theorem plt_irr (p:List Int):plt p p=false:=by unfold plt; exact decide_eq_false (by omega)
theorem plt_tr {p s r:List Int} (h1:plt p s=true) (h2:plt s r=true):plt p r=true:=by
 unfold plt at *
 simp only [decide_eq_true_eq] at *
 omega
theorem plt_ntr {p s r:List Int} (h1:plt p s=false) (h2:plt s r=false):plt p r=false:=by
 unfold plt at *
 simp only [decide_eq_false_iff_not] at *
 omega
theorem sorted_eq:∀ {r s:List (List Int)},r.Pairwise (fun p q=>plt p q=true)→s.Pairwise (fun p q=>plt p q=true)→(∀ p,p∈r↔p∈s)→r=s
 | [],[],_,_,_=>rfl
 | [],b :: s,_,_,h=>absurd ((h b).2 List.mem_cons_self) (by simp)
 | a :: r,[],_,_,h=>absurd ((h a).1 List.mem_cons_self) (by simp)
 | a :: r,b :: s,hr,hs,h=>by
  rw [List.pairwise_cons] at hr hs
  have hab:a=b:=by
   rcases List.mem_cons.1 ((h a).1 List.mem_cons_self) with e | e
   ·exact e
   ·rcases List.mem_cons.1 ((h b).2 List.mem_cons_self) with e' | e'
    ·exact e'.symm
    ·have:=plt_tr (hs.1 a e) (hr.1 b e')
     rw [plt_irr] at this
     cases this
  subst hab
  congr 1
  refine sorted_eq hr.2 hs.2 fun p=>⟨fun hp=>?_,fun hp=>?_⟩
  ·rcases List.mem_cons.1 ((h p).1 (List.mem_cons_of_mem _ hp)) with e | e
   ·subst e
    have:=hr.1 p hp
    rw [plt_irr] at this
    cases this
   ·exact e
  ·rcases List.mem_cons.1 ((h p).2 (List.mem_cons_of_mem _ hp)) with e | e
   ·subst e
    have:=hs.1 p hp
    rw [plt_irr] at this
    cases this
   ·exact e
theorem PairsOf_eq {l:List V133} {r s:List (List Int)} (h1:PairsOf l r) (h2:PairsOf l s):r=s :=
 sorted_eq h1.1 h2.1 fun p=>(h1.2 p).trans (h2.2 p).symm
end Go.Proofs.T1
