import Derived.Test.YthpbadopmihmpaaGreatPlGeo
import Derived.Test.YthpbadopmihmpaaGreatPlTurn
import Derived.Test.YthpbadopmihmpaaGreatG4
namespace Go.Proofs.T1
open Go Go.Sx
theorem lowest_c2 (k:Nat) {l:List V26} {s v:Int} (h:inL s l):∃ b:Bool,near_lowest.c2 k l s v=some b∧(b=true↔Up (sb (q l s) (q l v))):=by
 unfold near_lowest.c2
 rw [rP h]
 show ∃ b:Bool,bif' (ilt (q l v).2.1 (q l s).2.1) (some true) (bif' (ieq (q l v).2.1 (q l s).2.1) (some (ilt (q l v).1 (q l s).1)) (some false))=some b∧_
 unfold Up sb
 dsimp only
 rcases Int.lt_trichotomy (q l v).2.1 (q l s).2.1 with c | c | c
 ·rw [ilt_pos c,bT]
  exact ⟨true,rfl,fun _=>by omega,fun _=>rfl⟩
 ·rw [ilt_neg (by omega),bF,ieq_pos c,bT]
  refine ⟨_,rfl,?_⟩
  unfold ilt
  rw [decide_eq_true_iff]
  omega
 ·rw [ilt_neg (by omega),bF,ieq_neg (by omega),bF]
  exact ⟨false,rfl,fun h=>(by cases h),fun h=>(by omega)⟩
theorem lowest_eq {k:Nat} (hk:10≤k) {l:List V26} (he:EdgeP l) (h3:3≤len l) (h8:len l≤8):∃ i0:Nat,near_lowest k l=some (i0:Int)∧LowP l i0:=by
 obtain ⟨s,⟨_,b⟩,e⟩:=inv_loop (fun n s v=>near_lowest.c1 k l n s v) 0 (len l) (fun s v=>(v=0→s=0)∧(0<v→0≤s∧s<v∧∀ j,0≤j→j<v→j≠s→Up (sb (q l j) (q l s))))
  (by
   intro n s v v0 v1 ⟨h1,h2⟩
   have hs:inL s l:=by
    by_cases c:v=0
    ·rw [h1 c]; exact inL_of (by omega) (by omega)
    ·exact inL_of (h2 (by omega)).1 (by have:=(h2 (by omega)).2.1; omega)
   obtain ⟨b,e,hb⟩:=lowest_c2 k (v:=v) hs
   refine ⟨if b then v else s,⟨fun h=>by omega,fun _=>?_⟩,?_⟩
   ·by_cases c:v=0
    ·have s0:=h1 c
     have:(if b then v else s)=0:=by split <;> omega
     rw [this]
     exact ⟨by omega,by omega,fun j j0 j1 j2=>by omega⟩
    ·obtain ⟨s0,s1,s2⟩:=h2 (by omega)
     cases b with
     | true =>
      have u:=hb.1 rfl
      refine ⟨v0,(by show v<v+1; omega),fun j j0 j1 j2=>?_⟩
      have j2:j≠v:=j2
      show Up (sb (q l j) (q l v))
      by_cases c2:j=s
      ·rw [c2]; exact u
      ·exact Up_add (s2 j j0 (by omega) c2) u
     | false =>
      refine ⟨s0,(by show s<v+1; omega),fun j j0 j1 j2=>?_⟩
      have j2:j≠s:=j2
      show Up (sb (q l j) (q l s))
      by_cases c2:j=v
      ·rw [c2]
       rcases Up_tot (EdgeP_ne he h3 (i:=s) (j:=v) s0 (by omega) v0 v1 (by omega)) with u | u
       ·exact u
       ·exact absurd (hb.2 u) (by decide)
      ·exact s2 j j0 (by omega) j2
   ·show near_lowest.c1 k l (n+1) s v=near_lowest.c1 k l n (if b then v else s) (v+1)
    rw [near_lowest.c1,ilt_pos v1,bT,rP (inL_of v0 v1),e,bS,iadd_i64 (by omega) (by omega)]
    cases b <;> rfl)
  (by
   intro n s v a b
   show near_lowest.c1 k l (n+1) s v=some s
   rw [near_lowest.c1,ilt_neg b,bF])
  k 0 0 (by omega) (by omega) (by omega) ⟨fun _=>rfl,fun h=>by omega⟩
 have e:near_lowest.c1 k l k 0 0=some s:=e
 obtain ⟨s0,s1,s2⟩:=b (by omega)
 refine ⟨s.toNat,?_,?_,?_⟩
 ·unfold near_lowest
  rw [e,bS,show ((s.toNat:Nat):Int)=s by omega]
 ·omega
 ·rw [show ((s.toNat:Nat):Int)=s by omega]
  exact s2
theorem emod_small {n m:Int} (h0:0≤n) (h:n<2*m):n % m=if n<m then n else n - m:=by
 split
 ·exact Int.emod_eq_of_lt h0 (by assumption)
 ·have e:=Int.mul_ediv_add_emod n m
  have a:=Int.emod_nonneg n (show m≠0 by omega)
  have b:=Int.emod_lt_of_pos n (show 0<m by omega)
  have d1:n / m=1:=by
   rcases Int.lt_trichotomy (n / m) 1 with g | g | g
   ·have:m*(n / m)≤0:=Int.mul_nonpos_of_nonneg_of_nonpos (by omega) (by omega)
    omega
   ·exact g
   ·have:=Int.mul_le_mul_of_nonneg_left (show 2≤n / m by omega) (show 0≤m by omega)
    omega
  rw [d1,Int.mul_one] at e
  omega
theorem rot_W {l:List V26} (hw:AllW l) {i0 x:Nat} (h0:(i0:Int)<len l) (hx:(x:Int)≤len l):Wn (rot l i0 x):=by
 unfold rot
 split
 ·exact hw _ (by omega) (by omega)
 ·exact hw _ (by omega) (by omega)
theorem edge_eq (k:Nat) {l:List V26} (h8:len l≤8) (hw:AllW l) {i0 x:Nat} (h0:(i0:Int)<len l) (hx:(x:Int)≤len l) :
  ∃ e,near_edge k l i0 x=some e∧((x:Int)<len l→e=ed (rot l i0) x):=by
 have em:∀ n:Int,0≤n→inL (n % len l) l:=fun n hn=>inL_of (Int.emod_nonneg _ (by omega)) (Int.emod_lt_of_pos _ (by omega))
 unfold near_edge
 rw [iadd_i64 (x:=(i0:Int)) (by omega) (by omega),iadd_i64 (by omega) (by omega),irem_nonneg (by omega),irem_nonneg (by omega)]
 rw [rP (show nz (len l) by unfold nz; omega),rP (em _ (by omega)),rP (em _ (by omega))]
 refine ⟨_,rfl,fun h=>?_⟩
 show (isub .i64 (q l (((i0:Int)+x+1) % len l)).1 (q l (((i0:Int)+x) % len l)).1,isub .i64 (q l (((i0:Int)+x+1) % len l)).2.1 (q l (((i0:Int)+x) % len l)).2.1,())=sb (rot l i0 (x+1)) (rot l i0 x)
 have e1:q l (((i0:Int)+x) % len l)=rot l i0 x:=by
  rw [emod_small (by omega) (by omega)]; rfl
 have e2:q l (((i0:Int)+x+1) % len l)=rot l i0 (x+1):=by
  rw [emod_small (by omega) (by omega),show (i0:Int)+x+1=(i0:Int)+((x+1:Nat):Int) by omega]; rfl
 have w1:=rot_W hw h0 (x:=x) hx
 have w2:=rot_W hw h0 (x:=x+1) (by omega)
 rw [e1,e2]
 unfold Wn at w1 w2
 rw [isub_i64 (by omega) (by omega),isub_i64 (by omega) (by omega)]
 rfl
theorem ncross_eq (k:Nat) {u v:V26} (hu:-500000000≤u.1∧u.1≤500000000∧-500000000≤u.2.1∧u.2.1≤500000000) (hv:-500000000≤v.1∧v.1≤500000000∧-500000000≤v.2.1∧v.2.1≤500000000):near_cross k u v=some (cr u v):=by
 have h1:=mul_bd (x:=u.1) (y:=v.2.1) (M:=500000000) (N:=500000000) (by omega) (by omega) (by omega) (by omega)
 have h2:=mul_bd (x:=u.2.1) (y:=v.1) (M:=500000000) (N:=500000000) (by omega) (by omega) (by omega) (by omega)
 unfold near_cross
 rw [imul_i64 (by omega) (by omega),imul_i64 (by omega) (by omega),isub_i64 (by omega) (by omega)]
 rfl
theorem lst_succ (t:Nat) (M:Nat→V26):lst (t+1) M=lst t M++[M t]:=by
 unfold lst
 rw [List.range_succ,List.map_append]
 rfl
theorem merge_loop {k:Nat} {a c:List V26} (ha:len a≤8) (wa:AllW a) (hc:len c≤8) (wc:AllW c) {i0 k0:Nat} (h0:(i0:Int)<len a) (h1:(k0:Int)<len c) {T:Nat}
  (P:Path a.length c.length (rot a i0) (rot c k0) T):∀ n t:Nat,t≤T→T - t<n →
  near_Minus.c2 k a c i0 k0 n (sta a.length c.length (rot a i0) (rot c k0) t).1 (sta a.length c.length (rot a i0) (rot c k0) t).2 (Mt a.length c.length (rot a i0) (rot c k0) t).1 (Mt a.length c.length (rot a i0) (rot c k0) t).2.1 (lst t (Mt a.length c.length (rot a i0) (rot c k0)))=some (lst T (Mt a.length c.length (rot a i0) (rot c k0))):=by
 have la:len a=(a.length:Int):=rfl
 have lc:len c=(c.length:Int):=rfl
 intro n
 induction n with
 | zero=>intro t h g; omega
 | succ n ih =>
  intro t ht hn
  by_cases hT:t=T
  ·subst hT
   rw [P.fin,near_Minus.c2]
   unfold near_Minus.c3
   rw [ilt_neg (by rw [la]; exact Int.le_refl _),bF,ilt_neg (by rw [lc]; exact Int.le_refl _),bS,bF]
  ·have I:=ih (t+1) (by omega) (by omega)
   have hne:=P.ne t (by omega)
   have hi:=P.inv t ht
   have hle:=P.le
   have hs:sta a.length c.length (rot a i0) (rot c k0) (t+1)=stp a.length c.length (rot a i0) (rot c k0) (sta a.length c.length (rot a i0) (rot c k0) t):=rfl
   rw [lst_succ] at I
   have hM:Mt a.length c.length (rot a i0) (rot c k0) t=mp (rot a i0) (rot c k0) (sta a.length c.length (rot a i0) (rot c k0) t):=rfl
   have hM2:Mt a.length c.length (rot a i0) (rot c k0) (t+1)=mp (rot a i0) (rot c k0) (sta a.length c.length (rot a i0) (rot c k0) (t+1)):=rfl
   rw [hM2,hs] at I
   generalize hout:lst t (Mt a.length c.length (rot a i0) (rot c k0))=out at *
   have hol:out.length=t:=by rw [← hout]; unfold lst; simp
   generalize lst T (Mt a.length c.length (rot a i0) (rot c k0))=R at *
   rw [hM] at I ⊢
   generalize sta a.length c.length (rot a i0) (rot c k0) t=s at *
   obtain ⟨x,y⟩:=s
   have xn:=hi.xn
   have ym:=hi.ym
   dsimp only at *
   obtain ⟨e,he,he'⟩:=edge_eq k (x:=x) ha wa h0 (by omega)
   obtain ⟨f,hf,hf'⟩:=edge_eq k (x:=y) hc wc h1 (by omega)
   have W1:∀ z:Nat,z≤a.length→Wn (rot a i0 z):=fun z hz=>rot_W wa h0 (by omega)
   have W2:∀ z:Nat,z≤c.length→Wn (rot c k0 z):=fun z hz=>rot_W wc h1 (by omega)
   generalize rot a i0=A at *
   generalize rot c k0=C at *
   obtain ⟨z,hz,hz'⟩:∃ z,near_cross k e f=some z∧(x<a.length→y<c.length→z=cr (ed A x) (ed C y)):=by
    by_cases g:x<a.length∧y<c.length
    ·have e1:=he' (by omega)
     have f1:=hf' (by omega)
     have b1:=W1 x (by omega)
     have b2:=W1 (x+1) (by omega)
     have b3:=W2 y (by omega)
     have b4:=W2 (y+1) (by omega)
     unfold Wn at b1 b2 b3 b4
     refine ⟨_,ncross_eq k ?_ ?_,fun _ _=>by rw [e1,f1]⟩
     ·rw [e1]; unfold ed sb; dsimp only; omega
     ·rw [f1]; unfold ed sb; dsimp only; omega
    ·exact ⟨_,rfl,fun p r=>absurd ⟨p,r⟩ g⟩
   have c3:near_Minus.c3 k a c x y=some true:=by
    unfold near_Minus.c3
    by_cases g:x<a.length
    ·rw [ilt_pos (by omega),bT]
    ·rw [ilt_neg (by omega),bF,ilt_pos (by omega)]
   have c4:near_Minus.c4 k a c x y z=some (decide (Fi a.length c.length A C x y)):=by
    unfold near_Minus.c4
    by_cases g:y=c.length
    ·rw [ieq_pos (by omega),bT,decide_eq_true (show Fi a.length c.length A C x y from ⟨by omega,Or.inl g⟩)]
    ·rw [ieq_neg (by omega),bF]
     by_cases g2:x<a.length
     ·rw [ilt_pos (by omega),bT,hz' g2 (by omega)]
      have key:cr (ed A x) (ed C y) ≥ 0↔Fi a.length c.length A C x y:=by
       unfold Fi
       omega
      unfold ige
      congr 1
      exact decide_eq_decide.2 key
     ·rw [ilt_neg (by omega),bF,decide_eq_false (show ¬ Fi a.length c.length A C x y from fun q=>g2 q.1)]
   have c5:near_Minus.c5 k a c x y z=some (decide (Fi c.length a.length C A y x)):=by
    unfold near_Minus.c5
    by_cases g:x=a.length
    ·rw [ieq_pos (by omega),bT,decide_eq_true (show Fi c.length a.length C A y x from ⟨by omega,Or.inl g⟩)]
    ·rw [ieq_neg (by omega),bF]
     by_cases g2:y<c.length
     ·rw [ilt_pos (by omega),bT,hz' (by omega) g2]
      have ca:=cr_anti (ed A x) (ed C y)
      have key:cr (ed A x) (ed C y)≤0↔Fi c.length a.length C A y x:=by
       unfold Fi
       omega
      unfold ile
      congr 1
      exact decide_eq_decide.2 key
     ·rw [ilt_neg (by omega),bF,decide_eq_false (show ¬ Fi c.length a.length C A y x from fun q=>g2 q.1)]
   rw [near_Minus.c2,c3,bS,bT,rP (show room 16 out [((mp A C (x,y)).1,(mp A C (x,y)).2.1,())] by show (out.length+1)*16≤140737488355328; omega)]
   rw [he,bS,hf,bS,hz,bS,c4,bS,c5,bS]
   have Q:∀ {u u' v v' X X' Y Y':Int} {o o':List V26},u=u'→v=v'→X=X'→Y=Y'→o=o'→near_Minus.c2 k a c i0 k0 n u v X Y o=near_Minus.c2 k a c i0 k0 n u' v' X' Y' o':=by
    intro u u' v v' X X' Y Y' o o' h1 h2 h3 h4 h5
    rw [h1,h2,h3,h4,h5]
   unfold stp fi at I
   unfold near_Minus.c6
   have bx:=W1 x xn
   have by_:=W2 y ym
   unfold Wn at bx by_
   by_cases F1:Fi a.length c.length A C x y <;> by_cases F2:Fi c.length a.length C A y x
   ·have e1:=he' (by have:=F1.1; omega)
    have f1:=hf' (by have:=F2.1; omega)
    have b2:=W1 (x+1) (by have:=F1.1; omega)
    have b4:=W2 (y+1) (by have:=F2.1; omega)
    unfold Wn at b2 b4
    rw [decide_eq_true F1,decide_eq_true F2,bT,bS,bT]
    rw [if_pos F1,if_pos F2] at I
    subst e1 f1
    refine (Q ?_ ?_ ?_ ?_ rfl).trans I
    ·show iadd .i64 (x:Int) 1=((x+1:Nat):Int); rw [iadd_i64 (by omega) (by omega)]; rfl
    ·show iadd .i64 (y:Int) 1=((y+1:Nat):Int); rw [iadd_i64 (by omega) (by omega)]; rfl
    ·show iadd .i64 (iadd .i64 ((A x).1+(C y).1) ((A (x+1)).1 - (A x).1)) ((C (y+1)).1 - (C y).1)=(A (x+1)).1+(C (y+1)).1
     rw [iadd_i64 (x:=(A x).1+(C y).1) (by omega) (by omega),iadd_i64 (by omega) (by omega)]; omega
    ·show iadd .i64 (iadd .i64 ((A x).2.1+(C y).2.1) ((A (x+1)).2.1 - (A x).2.1)) ((C (y+1)).2.1 - (C y).2.1)=(A (x+1)).2.1+(C (y+1)).2.1
     rw [iadd_i64 (x:=(A x).2.1+(C y).2.1) (by omega) (by omega),iadd_i64 (by omega) (by omega)]; omega
   ·have e1:=he' (by have:=F1.1; omega)
    have b2:=W1 (x+1) (by have:=F1.1; omega)
    unfold Wn at b2
    rw [decide_eq_true F1,decide_eq_false F2,bT,bS,bF]
    rw [if_pos F1,if_neg F2] at I
    subst e1
    refine (Q ?_ ?_ ?_ ?_ rfl).trans I
    ·show iadd .i64 (x:Int) 1=((x+1:Nat):Int); rw [iadd_i64 (by omega) (by omega)]; rfl
    ·rfl
    ·show iadd .i64 ((A x).1+(C y).1) ((A (x+1)).1 - (A x).1)=(A (x+1)).1+(C y).1
     rw [iadd_i64 (by omega) (by omega)]; omega
    ·show iadd .i64 ((A x).2.1+(C y).2.1) ((A (x+1)).2.1 - (A x).2.1)=(A (x+1)).2.1+(C y).2.1
     rw [iadd_i64 (by omega) (by omega)]; omega
   ·have f1:=hf' (by have:=F2.1; omega)
    have b4:=W2 (y+1) (by have:=F2.1; omega)
    unfold Wn at b4
    rw [decide_eq_false F1,decide_eq_true F2,bF,bS,bT]
    rw [if_neg F1,if_pos F2] at I
    subst f1
    refine (Q ?_ ?_ ?_ ?_ rfl).trans I
    ·rfl
    ·show iadd .i64 (y:Int) 1=((y+1:Nat):Int); rw [iadd_i64 (by omega) (by omega)]; rfl
    ·show iadd .i64 ((A x).1+(C y).1) ((C (y+1)).1 - (C y).1)=(A x).1+(C (y+1)).1
     rw [iadd_i64 (by omega) (by omega)]; omega
    ·show iadd .i64 ((A x).2.1+(C y).2.1) ((C (y+1)).2.1 - (C y).2.1)=(A x).2.1+(C (y+1)).2.1
     rw [iadd_i64 (by omega) (by omega)]; omega
   ·rw [decide_eq_false F1,decide_eq_false F2,bF,bS,bF]
    rw [if_neg F1,if_neg F2] at I
    exact I
theorem ineg_i64 {x:Int} (h:-4611686018427387904≤x) (g:x≤4611686018427387904):ineg .i64 x=-x:=by
 show IntKind.i64.wrap (0 - x)=-x
 rw [wrap_i64 (by omega) (by omega)]
 omega
theorem negl_eq {k:Nat} (hk:10≤k) {l:List V26} (hl:len l≤8) (hw:AllW l):near_Minus.c1 k l k 0 []=some (negl l):=by
 obtain ⟨s,a,b⟩:=inv_loop (fun n (s:List V26) v=>near_Minus.c1 k l n v s) 0 (len l) (fun s v=>s=negl (l.take v.toNat))
  (by
   intro n s v a b c
   have hwv:=hw v a b
   refine ⟨s++[ng (q l v)],?_,?_⟩
   ·obtain ⟨v,rfl⟩:=Int.eq_ofNat_of_zero_le a
    have hi:v<l.length:=by unfold len at b; omega
    have hq:q l (v:Int)=l[v]:=by
     show l.getD v Z26=_
     rw [List.getD_eq_getElem?_getD,List.getElem?_eq_getElem hi]
     rfl
    rw [hq,c,show ((v:Int)+1).toNat=v+1 by omega,show ((v:Int)).toNat=v by omega]
    unfold negl
    rw [List.take_succ_eq_append_getElem hi,List.map_append]
    rfl
   ·show near_Minus.c1 k l (n+1) v s=near_Minus.c1 k l n (v+1) (s++[ng (q l v)])
    unfold Wn at hwv
    have hel:el Z26 l v=q l v:=rfl
    rw [near_Minus.c1,ilt_pos b,bT,rP (inL_of a b),hel,ineg_i64 (x:=(q l v).1) (by omega) (by omega),ineg_i64 (x:=(q l v).2.1) (by omega) (by omega),iadd_i64 (x:=v) (by omega) (by omega)]
    rw [rP]
    ·rfl
    have hs:s.length≤8:=by
     rw [c]
     unfold negl len at *
     simp
     omega
    show (s.length+1)*16≤140737488355328
    omega)
  (by
   intro n s v a b
   show near_Minus.c1 k l (n+1) v s=some s
   rw [near_Minus.c1,ilt_neg b,bF])
  k [] 0 (by omega) (by unfold len; omega) (by omega) rfl
 have b:near_Minus.c1 k l k 0 []=some s:=b
 rw [b,a]
 congr 1
 unfold len
 rw [show ((l.length:Nat):Int).toNat=l.length by omega,List.take_length]
theorem AllW_negl {l:List V26} (hw:AllW l):AllW (negl l):=by
 intro i i0 i1
 rw [len_negl] at i1
 rw [q_negl i0 i1]
 have:=hw i i0 i1
 unfold Wn ng at *
 dsimp only
 omega
theorem Minus_dif {k:Nat} (hk:20≤k) {a b:List V26} (ha:Val a) (hb:Val b):∃ l,near_Minus k a b=some (l,0)∧Dif a b l∧LowP l 0:=by
 obtain ⟨a3,a8,wa,ea⟩:=ha
 obtain ⟨b3,b8,wb,eb⟩:=hb
 have lb:(negl b).length=b.length:=by unfold negl; simp
 have ln:=len_negl b
 obtain ⟨i0,e1,hi⟩:=lowest_eq (k:=k) (by omega) ea a3 a8
 obtain ⟨k0,e2,hk0⟩:=lowest_eq (k:=k) (by omega) (EdgeP_negl eb) (by omega) (by omega)
 have hA:=rot_Cv ea a3 hi
 have hC:=rot_Cv (EdgeP_negl eb) (by omega) hk0
 obtain ⟨T,P⟩:=path hA hC
 have hle:=P.le
 have hge:=P.ge
 have la:len a=(a.length:Int):=rfl
 have lbb:len b=(b.length:Int):=rfl
 have L:=merge_loop (k:=k) a8 wa (by omega) (AllW_negl wb) hi.1 hk0.1 P k 0 (Nat.zero_le _) (by omega)
 have wi:=wa i0 (by omega) hi.1
 have wk:=AllW_negl wb k0 (by omega) hk0.1
 have r1:rot a i0 0=q a i0:=by unfold rot; have:=hi.1; rw [if_pos (by omega)]; congr 1
 have r2:rot (negl b) k0 0=q (negl b) k0:=by unfold rot; have:=hk0.1; rw [if_pos (by omega)]; congr 1
 have hM:Mt a.length (negl b).length (rot a i0) (rot (negl b) k0) 0=pl (q a i0) (q (negl b) k0):=by
  show pl (rot a i0 0) (rot (negl b) k0 0)=_
  rw [r1,r2]
 have D:=dif_of ea a3 eb b3 hi hk0 (by rw [← lb]; exact P)
 rw [← lb] at D
 refine ⟨_,?_,D,?_⟩
 ·unfold near_Minus
  rw [Check_val (by omega) ⟨a3,a8,wa,ea⟩,bS,ine_neg rfl,bF,Check_val (by omega) ⟨b3,b8,wb,eb⟩,bS,ine_neg rfl,bF]
  rw [negl_eq (by omega) b8 wb,bS,e1,bS,e2,bS,rP (inL_of (by omega) hi.1),rP (inL_of (by omega) hk0.1)]
  have x1:iadd .i64 (el Z26 a i0).1 (el Z26 (negl b) k0).1=(Mt a.length (negl b).length (rot a i0) (rot (negl b) k0) 0).1:=by
   rw [hM]
   unfold Wn at wi wk
   exact iadd_i64 (x:=(q a i0).1) (y:=(q (negl b) k0).1) (by omega) (by omega)
  have x2:iadd .i64 (el Z26 a i0).2.1 (el Z26 (negl b) k0).2.1=(Mt a.length (negl b).length (rot a i0) (rot (negl b) k0) 0).2.1:=by
   rw [hM]
   unfold Wn at wi wk
   exact iadd_i64 (x:=(q a i0).2.1) (y:=(q (negl b) k0).2.1) (by omega) (by omega)
  rw [x1,x2]
  have L:near_Minus.c2 k a (negl b) i0 k0 k 0 0 (Mt a.length (negl b).length (rot a i0) (rot (negl b) k0) 0).1 (Mt a.length (negl b).length (rot a i0) (rot (negl b) k0) 0).2.1 []=_:=L
  rw [L,bS]
 ·have hll:=len_lst T (Mt a.length (negl b).length (rot a i0) (rot (negl b) k0))
  refine ⟨by rw [hll]; omega,fun j j0 j1 jn=>?_⟩
  have jn:j≠0:=jn
  have hne:=EdgeP_ne D.edge D.len3 (i:=0) (j:=j) (by omega) (by omega) j0 j1 jn
  show Up (sb (q (lst T _) j) (q (lst T _) 0))
  rw [hll] at j1
  rw [q_lst j0 j1,q_lst (Int.le_refl 0) (by omega)] at hne ⊢
  have hv:=P.inv j.toNat (by omega)
  have lo:∀ {n:Nat} {A:Nat→V26},Cv n A→∀ z,z≤n→A z=A 0∨Up (sb (A z) (A 0)):=by
   intro n A hA z hz
   by_cases c:z=0
   ·rw [c]; exact Or.inl rfl
   ·by_cases d:z=n
    ·rw [d]; exact Or.inl hA.per
    ·exact Or.inr (hA.low z (by omega) (by omega))
  have l1:=lo hA _ hv.xn
  have l2:=lo hC _ hv.ym
  unfold Mt mp at hne ⊢
  have z0:sta a.length (negl b).length (rot a i0) (rot (negl b) k0) (0:Int).toNat=(0,0):=rfl
  rw [z0] at hne ⊢
  dsimp only at hne ⊢
  generalize rot a i0 (sta a.length (negl b).length (rot a i0) (rot (negl b) k0) j.toNat).1=u at *
  generalize rot (negl b) k0 (sta a.length (negl b).length (rot a i0) (rot (negl b) k0) j.toNat).2=v at *
  generalize rot a i0 0=u0 at *
  generalize rot (negl b) k0 0=v0 at *
  rcases l1 with l1 | l1 <;> rcases l2 with l2 | l2
  ·exact absurd (by rw [l1,l2]) hne
  ·rw [l1]; unfold Up sb pl at *; dsimp only at *; omega
  ·rw [l2]; unfold Up sb pl at *; dsimp only at *; omega
  ·unfold Up sb pl at *; dsimp only at *; omega
theorem Dif_bd {a b l:List V26} (wa:AllW a) (wb:AllW b) (h:Dif a b l) {t:Int} (t0:0≤t) (t1:t<len l):-131072000≤(q l t).1∧(q l t).1≤131072000∧-131072000≤(q l t).2.1∧(q l t).2.1≤131072000:=by
 obtain ⟨i,j,hi,hj,e⟩:=h.dif t t0 t1
 have w1:=wa i hi.1 hi.2
 have w2:=wb j hj.1 hj.2
 rw [e]
 unfold Wn at w1 w2
 unfold sb
 dsimp only
 omega
end Go.Proofs.T1
