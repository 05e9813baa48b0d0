import Derived.Test.YtipddonkkhjegaaGreatPlClip
namespace Go.Proofs.T1
open Go Go.Sx
theorem dv_smallG {k:Nat} (hk:40≤k) {l:List V26} (hv:Val l) {e:Int} (e0:0≤e) (e1:e<len l) {A B:Int} (hA:Bx A (q l e)) {x:V26} (hB:Bx B x) (hs:A+B=2359296) (h:0≤tv l e x):0≤dv l e x∧dv l e x≤4718592:=by
 obtain ⟨_,l0,l1,hr⟩:=Length_eq (k:=k) hk hv e0 e1
 have hS:=msum hr l0
 have sm:tv l e x≤2359296*(mag (outw l e).1+mag (outw l e).2.1):=by
  unfold Bx at hA hB
  have e1:tv l e x=-((x.2.1 - (q l e).2.1)*(outw l e).2.1)+-((x.1 - (q l e).1)*(outw l e).1):=by unfold tv tri outw; grind
  have g1:=emul (e:=x.2.1 - (q l e).2.1) (n:=(outw l e).2.1) (l:=2359296) (by omega) (by omega) (by omega)
  have g2:=emul (e:=x.1 - (q l e).1) (n:=(outw l e).1) (l:=2359296) (by omega) (by omega) (by omega)
  rw [e1,Int.mul_add]
  omega
 refine ⟨rnd_nn l0 h,?_⟩
 unfold dv
 have hm:=Int.mul_ediv_add_emod (2*tv l e x+lenN l e) (2*lenN l e)
 have em0:=Int.emod_nonneg (2*tv l e x+lenN l e) (show 2*lenN l e≠0 by omega)
 unfold rnd
 generalize (2*tv l e x+lenN l e) / (2*lenN l e)=D at *
 rcases Int.lt_or_le 4718592 D with g | g
 ·exfalso
  have:=Int.mul_le_mul_of_nonneg_left (show 4718593≤D by omega) (show 0≤2*lenN l e by omega)
  omega
 ·exact g
def PtsG (B:Int) (u:V26) (X:List (V26 × (V26 × V26))):Prop :=
 X.length≤2∧(∀ c∈X,Bx B c.1∧c.2.1=u∧0≤c.2.2.1∧c.2.2.1≤4718592∧0≤c.2.2.2.1∧c.2.2.2.1≤255)∧X.Pairwise (fun c d=>c.2.2.2.1<d.2.2.2.1)
section
variable {k:Nat} {ref inc:List V26} {e d:Int} {u:V26} {s ok:Bool} {x y:V26} {id kk:Int}
theorem PtsG_ptl (hk:40≤k) (hv:Val ref) (e0:0≤e) (e1:e<len ref) {A B:Int} (hA:Bx A (q ref e)) (hx:Bx B x) (hy:Bx B y) (hs:A+B=2359296) (id0:0≤id) (id1:id≤254):PtsG B u (ptl ref e u id ok x y):=by
 have good:∀ {z:V26} {i:Int},Bx B z→0≤i→i≤1→0≤tv ref e z→Bx B (ptv ref e u id z i).1∧(ptv ref e u id z i).2.1=u∧0≤(ptv ref e u id z i).2.2.1∧(ptv ref e u id z i).2.2.1≤4718592∧0≤(ptv ref e u id z i).2.2.2.1∧(ptv ref e u id z i).2.2.2.1≤255:=by
  intro z i hz i0 i1 ht
  have:=dv_smallG hk hv e0 e1 hA hz hs ht
  unfold ptv
  dsimp only
  exact ⟨hz,rfl,this.1,this.2,by omega,by omega⟩
 unfold ptl
 by_cases c1:ok=true∧0≤tv ref e x <;> by_cases c2:ok=true∧0≤tv ref e y∧¬ y=x
 ·rw [if_pos c1,if_pos c2]
  refine ⟨by simp,fun c hc=>?_,?_⟩
  ·rcases List.mem_cons.1 hc with g | g
   ·rw [g]; exact good hx (by decide) (by decide) c1.2
   ·rw [List.mem_singleton.1 g]; exact good hy (by decide) (by decide) c2.2.1
  ·refine List.pairwise_cons.2 ⟨fun c hc=>?_,List.pairwise_singleton _ _⟩
   rw [List.mem_singleton.1 hc]
   show id+0<id+1
   omega
 ·rw [if_pos c1,if_neg c2]
  refine ⟨by simp,fun c hc=>?_,List.pairwise_singleton _ _⟩
  rw [List.mem_singleton.1 hc]; exact good hx (by decide) (by decide) c1.2
 ·rw [if_neg c1,if_pos c2]
  refine ⟨by simp,fun c hc=>?_,List.pairwise_singleton _ _⟩
  rw [List.mem_singleton.1 hc]; exact good hy (by decide) (by decide) c2.2.1
 ·rw [if_neg c1,if_neg c2]
  exact ⟨by simp,fun c hc=>(nomatch hc),List.Pairwise.nil⟩
theorem Of_formG (hk:60≤k) {a b:List V26} (hv:Val ref) (hi:Val inc) (e0:0≤e) (e1:e<len ref) {f0 idx:Int} (hf:f0=0∨f0=1) (hidx:idx=8*f0+e) (hdp:0≤dp ref inc e)
  {A B:Int} (hA:∀ i,0≤i→i<len ref→Bx A (q ref i)) (hB:∀ i,0≤i→i<len inc→Bx B (q inc i)) (hAB:A+B=2359296)
  (hL:sat_Least k a b=some ((s,e,d,()),true,0)) (hT:sat_Test k a b=some (true,d,u)) (h2:contact_Of.c2 k a b ((s,e,d,()),true,0)=some (ref,inc,idx)) :
  ∃ X,contact_Of k a b=some X∧PtsG B u X:=by
 obtain ⟨r3,r8,rw_,re⟩:=hv
 obtain ⟨i3,i8,iw,ie⟩:=hi
 have hv:Val ref:=⟨r3,r8,rw_,re⟩
 have hi:Val inc:=⟨i3,i8,iw,ie⟩
 have hx:=nx_range e0 e1
 have ow:Ww (outw ref e):=outw_bd rw_ e0 e1
 obtain ⟨i,fa,far⟩:=facing_C (k:=k) (by omega) i3 i8 iw ow
 have kr:=facV_range (n:=outw ref e) far.1 far.2.1
 generalize facV inc (outw ref e) i=kk at *
 have kx:=nx_range kr.1 kr.2
 have w1:=rw_ e e0 e1
 have w2:=rw_ _ hx.1 hx.2
 have w3:=iw kk kr.1 kr.2
 have w4:=iw _ kx.1 kx.2
 have wi:=iw i far.1 far.2.1
 have idb:0≤(idx*8+kk)*2∧(idx*8+kk)*2≤254:=by rcases hf with h | h <;> subst h <;> omega
 have ib:0≤idx∧idx≤16:=by rcases hf with h | h <;> subst h <;> omega
 have id1:imul .i64 (iadd .i64 (imul .i64 idx 8) kk) 2=(idx*8+kk)*2:=by
  rw [imul_i64 (x:=idx) (by omega) (by omega),iadd_i64 (by omega) (by omega),imul_i64 (by omega) (by omega)]
 have y18:Ww (sb (q ref (nx (len ref) e)) (q ref e)):=sb_W w2 w1
 have y27:Ww (sb (q ref e) (q ref (nx (len ref) e))):=sb_W w1 w2
 have cw:=clV_W (at_:=q ref e) (w:=sb (q ref (nx (len ref) e)) (q ref e)) w3 w4
 have cM:=clV_M (at_:=q ref e) (w:=sb (q ref (nx (len ref) e)) (q ref e)) (hB kk kr.1 kr.2) (hB _ kx.1 kx.2)
 have A1:=clip_V (k:=k) (by omega) w3 w4 w1 y18
 generalize clV (q inc kk) (q inc (nx (len inc) kk)) (q ref e) (sb (q ref (nx (len ref) e)) (q ref e))=C at *
 obtain ⟨c1,c2,ok⟩:=C
 dsimp only at cw cM
 have second:∃ ok' z1 z2,contact_Of.c3 k (ref,inc,idx) ((s,e,d,()),true,0) (c1,c2,ok)=some (ok',z1,z2)∧(Wn z1∧Wn z2)∧Bx B z1∧Bx B z2:=by
  unfold contact_Of.c3
  dsimp only
  cases ok with
  | false =>
   rw [bF]
   exact ⟨false,c1,c2,rfl,cw,cM⟩
  | true =>
   have A2:=clip_V (k:=k) (by omega) cw.1 cw.2 w2 y27
   have cw2:=clV_W (at_:=q ref (nx (len ref) e)) (w:=sb (q ref e) (q ref (nx (len ref) e))) cw.1 cw.2
   have cM2:=clV_M (at_:=q ref (nx (len ref) e)) (w:=sb (q ref e) (q ref (nx (len ref) e))) cM.1 cM.2
   rw [bT,irem_nx e0 e1 (by omega)]
   have m1:contact_minus k (el Z26 ref e) (el Z26 ref (nx (len ref) e))=some (sb (q ref e) (q ref (nx (len ref) e))):=cminus_eq k w1 w2
   have A2:contact_clip k c1 c2 (el Z26 ref (nx (len ref) e)) (sb (q ref e) (q ref (nx (len ref) e)))=_:=A2
   rw [m1,bS,A2,bS]
   exact ⟨_,_,_,rfl,cw2,cM2⟩
 obtain ⟨ok',z1,z2,S1,⟨v1,v2⟩,g1,g2⟩:=second
 have o1:=Of_c4 (k:=k) (inc:=inc) (s:=s) (d:=d) (u:=u) (ok:=ok') (b1:=true) (b2:=0) (b3:=d) (d':=d) (b4:=true) (by omega) hv e0 e1 v1 v2 id1 idb.1 (by omega) (k - 3)
 rw [show k - 3+3=k by omega] at o1
 have sup:∃ j,poly_Support k inc (ng (outw ref e))=some j∧FarP inc (ng (outw ref e)) j:=by
  refine Supp_val (by omega) hi ?_ ?_ <;> (unfold Ww at ow; unfold I64 ng; dsimp only; omega)
 obtain ⟨j,sj,fj⟩:=sup
 have:=Far_uniq fj far
 subst this
 have nn:((ineg .i64 (outw ref e).1,ineg .i64 (outw ref e).2.1,()):V26)=ng (outw ref e):=by
  unfold Ww at ow
  rw [ineg_in (by omega) (by omega),ineg_in (by omega) (by omega)]
  rfl
 have gl:∀ z:List (V26 × (V26 × V26)),z=ptl ref e u ((idx*8+kk)*2) ok' z1 z2→z.length≤2:=by
  intro z hz
  rw [hz]
  unfold ptl
  rw [List.length_append]
  split <;> split <;> simp
 have m0:contact_minus k (el Z26 ref (nx (len ref) e)) (el Z26 ref e)=some (sb (q ref (nx (len ref) e)) (q ref e)):=cminus_eq k w2 w1
 have A1:contact_clip k (el Z26 inc kk) (el Z26 inc (nx (len inc) kk)) (el Z26 ref e) (sb (q ref (nx (len ref) e)) (q ref e))=some (c1,c2,ok):=A1
 have dj:contact_Of_1 k (el Z26 inc j) (el Z26 ref e) (outw ref e)=some (dv ref e (q inc j),decide (0≤tv ref e (q inc j))):=deep_V (by omega) hv e0 e1 wi
 have P1:contact_Of k a b=bif' (ieq (len (ptl ref e u ((idx*8+kk)*2) ok' z1 z2)) 0) (some ((ptl ref e u ((idx*8+kk)*2) ok' z1 z2)++[(el Z26 inc j,u,dv ref e (q inc j),(idx*8+kk)*2,())])) (some (ptl ref e u ((idx*8+kk)*2) ok' z1 z2)):=by
  unfold contact_Of
  rw [hL,bS]
  unfold contact_Of.c1
  dsimp only
  rw [ine_neg rfl,bF,bS]
  show bif' false _ _=_
  rw [bF,hT,bS,h2,bS]
  dsimp only
  rw [Normal_eq k r8 rw_ e0 e1,bS,rP (inL_of e0 e1),rP (show nz (len ref) by unfold nz; omega),irem_nx e0 e1 (by omega),rP (inL_of hx.1 hx.2),fa,bS,rP (inL_of kr.1 kr.2),rP (show nz (len inc) by unfold nz; omega),irem_nx kr.1 kr.2 (by omega),rP (inL_of kx.1 kx.2),
   m0,bS,A1,bS,S1,bS,o1,bS,nn,sj,bS,rP (inL_of far.1 far.2.1),dj,bS,id1]
  congr 1
  exact rP (by
   have:=gl _ rfl
   show ((ptl ref e u ((idx*8+kk)*2) ok' z1 z2).length+1)*48≤140737488355328
   omega) _
 by_cases c:len (ptl ref e u ((idx*8+kk)*2) ok' z1 z2)=0
 ·rw [ieq_pos c,bT] at P1
  have c0:ptl ref e u ((idx*8+kk)*2) ok' z1 z2=[]:=List.eq_nil_of_length_eq_zero (by unfold len at c; omega)
  rw [c0,List.nil_append] at P1
  refine ⟨_,P1,?_⟩
  obtain ⟨m,m0',m1',em⟩:=dp_ex (a:=ref) (b:=inc) e (by omega)
  have fm:=far.2.2 m m0' m1'
  have tt:∀ z:V26,tv ref e z=dt z (ng (outw ref e)) - dt (q ref e) (ng (outw ref e)):=by intro z; unfold tv tri dt ng outw; grind
  have tm:tv ref e (q inc m)=dp ref inc e:=em.symm
  have hj:0≤tv ref e (q inc j):=by
   have a1:=tt (q inc m)
   have a2:=tt (q inc j)
   omega
  have:=dv_smallG (k:=k) (by omega) hv e0 e1 (hA e e0 e1) (hB j far.1 far.2.1) hAB hj
  refine ⟨by simp,fun c hc=>?_,List.pairwise_singleton _ _⟩
  rw [List.mem_singleton.1 hc]
  exact ⟨hB j far.1 far.2.1,rfl,this.1,this.2,idb.1,by dsimp only; omega⟩
 ·rw [ieq_neg c,bF] at P1
  exact ⟨_,P1,PtsG_ptl (k:=k) (by omega) hv e0 e1 (hA e e0 e1) g1 g2 hAB idb.1 idb.2⟩
end
theorem unit_bd {k:Nat} (hk:70≤k) {v u:V26} (h:-1099511627776≤v.1∧v.1≤1099511627776∧-1099511627776≤v.2.1∧v.2.1≤1099511627776) (hv:¬ (v.1=0∧v.2.1=0)) (hu:vec_Unit k v=some u) :
  -65536≤u.1∧u.1≤65536∧-65536≤u.2.1∧u.2.1≤65536:=by
 obtain ⟨x,y,l,e,⟨l0,h1,h2⟩,h3⟩:=Unit_eq hk h hv
 rw [e] at hu
 cases hu
 have bd:∀ {z w:Int},z*z+w*w<(l+1)*(l+1)→-l≤z∧z≤l:=by
  intro z w hz
  have ww:=sq_nn w
  rcases Int.lt_or_le z 0 with g | g
  ·have e:-z*-z=z*z:=by grind
   have:=sq_lt (a:=-z) (b:=l+1) (by omega) (by omega) (by omega)
   omega
  ·have:=sq_lt (a:=z) (b:=l+1) (by omega) (by omega) (by omega)
   omega
 have bx:=bd h2
 have b2:=bd (z:=y) (w:=x) (by omega)
 have r1:=rnd_bd (x:=65536*x) (n:=l) (c:=65536) (by omega) (by omega) (by omega)
 have r2:=rnd_bd (x:=65536*y) (n:=l) (c:=65536) (by omega) (by omega) (by omega)
 exact ⟨r1.1,r1.2,r2.1,r2.2⟩
theorem Of_any {k:Nat} (hk:220≤k) {a b:List V26} (va:Val a) (vb:Val b) (ha:∀ i,0≤i→i<len a→Bx 1179648 (q a i)) (hb:∀ i,0≤i→i<len b→Bx 1179648 (q b i)) :
  ∃ X u,contact_Of k a b=some X∧PtsG 1179648 u X∧(-65536≤u.1∧u.1≤65536∧-65536≤u.2.1∧u.2.1≤65536):=by
 rcases Test_eq (k:=k) (by omega) va vb with ⟨n,T⟩ | ⟨n,s,e,d,u,T,pb,hu⟩ <;> rcases Least_eq (k:=k) (by omega) va vb with ⟨n',L⟩ | ⟨n',s',e',d',L,pb'⟩
 ·have O:contact_Of k a b=some []:=by
   unfold contact_Of
   rw [L,bS]
   have c1:contact_Of.c1 k ((false,0,0,()),false,0)=some true:=by
    unfold contact_Of.c1
    dsimp only
    rw [ine_neg rfl,bF]
    rfl
   rw [c1,bS,bT]
  exact ⟨[],(0,0,()),O,⟨by simp,fun c hc=>(nomatch hc),List.Pairwise.nil⟩,by decide,by decide,by decide,by decide⟩
 ·exact absurd n' n
 ·exact absurd n n'
 ·obtain ⟨x1,x2,x3⟩:=PB_uniq pb' pb
  subst x1 x2 x3
  have rg:=PB_range pb
  have da:=(NoSep_dp (by have:=vb.1; omega)).1 n.1
  have db:=(NoSep_dp (by have:=va.1; omega)).1 n.2
  have w:=wayV_ok va vb pb
  have ub:-65536≤u.1∧u.1≤65536∧-65536≤u.2.1∧u.2.1≤65536:=unit_bd (k:=k) (by omega) w.2 w.1 hu
  cases s' with
  | false =>
   have rg:=rg.1 rfl
   obtain ⟨X,O,P⟩:=Of_formG (k:=k) (ref:=a) (inc:=b) (s:=false) (by omega) va vb rg.1 rg.2 (f0:=0) (idx:=e') (Or.inl rfl) (by omega) (da e' rg.1 rg.2) ha hb (by decide) L T rfl
   exact ⟨X,u,O,P,ub⟩
  | true =>
   have rg:=rg.2 rfl
   have b8:=vb.2.1
   have c2:contact_Of.c2 k a b ((true,e',d',()),true,0)=some (b,a,8+e'):=by
    unfold contact_Of.c2
    dsimp only
    rw [bT,iadd_i64 (by omega) (by omega)]
   obtain ⟨X,O,P⟩:=Of_formG (k:=k) (ref:=b) (inc:=a) (s:=true) (by omega) vb va rg.1 rg.2 (f0:=1) (idx:=8+e') (Or.inr rfl) (by omega) (db e' rg.1 rg.2) hb ha (by decide) L T c2
   exact ⟨X,u,O,P,ub⟩
end Go.Proofs.T1
