import Derived.Test.YteibepmkkplpeaaGreatPlUnion
namespace Go.Proofs.T1
open Go Go.Sx
structure GL (n:Int) (E:Int→Int→Prop) (L:List Int):Prop where
 ln:len L=n
 bd:∀ i,0≤i→i<n→0≤el 0 L i∧el 0 L i≤i
 cn:∀ i,0≤i→i<n→Cn E i (el 0 L i)
theorem yB {n:Int} {E:Int→Int→Prop} {p:Int→Int} (h:Part n E p) {a b:Int} (c:Cn E a b):p a=p b:=by
 induction c with
 | refl=>rfl
 | link g=>exact h.eq _ _ g
 | symm _ ih=>exact ih.symm
 | trans _ _ i1 i2=>exact i1.trans i2
theorem tP {n:Int} {E:Int→Int→Prop} {p:Int→Int} {L:List Int} (h:Part n E p) (g:GL n E L) {i:Int} (i0:0≤i) (i1:i<n):p i≤el 0 L i:=by
 have b:=g.bd i i0 i1;have e:=yB h (g.cn i i0 i1);have:=(h.bd _ b.1 (by omega)).2.1;omega
theorem vT:∀ {l:List Nat} {p q:Nat→Bool},(∀ x∈l,q x=true→p x=true)→l.countP q≤l.countP p
 | [],_,_,_=>Nat.le_refl _
 | x :: l,p,q,h=>by
  have ih:=vT (l:=l) (p:=p) (q:=q) fun y hy=>h y (List.mem_cons_of_mem _ hy);have hx:=h x List.mem_cons_self;rw [List.countP_cons,List.countP_cons];cases hq:q x with
  | false=>cases hp:p x <;> simp <;> omega
  | true=>rw [hx hq]; simp; omega
theorem vS:∀ {l:List Nat} {p q:Nat→Bool},(∀ x∈l,q x=true→p x=true)→(∃ x∈l,p x=true∧q x=false)→l.countP q<l.countP p
 | [],_,_,_,⟨_,hx,_⟩=>nomatch hx
 | x :: l,p,q,h,⟨y,hy,g1,g2⟩=>by
  have hl:∀ y∈l,q y=true→p y=true:=fun y hy=>h y (List.mem_cons_of_mem _ hy);rw [List.countP_cons,List.countP_cons];rcases List.mem_cons.1 hy with e | e
  ·subst e
   have ih:=vT hl;rw [g1,g2];simp;omega
  ·have ih:=vS hl ⟨y,e,g1,g2⟩
   have hx:=h x List.mem_cons_self;cases hq:q x with
   | false=>cases hp:p x <;> simp <;> omega
   | true=>rw [hx hq]; simp; omega
def bad (N:Nat) (p:Int→Int) (L:List Int):Nat:=(List.range N).countP fun i:Nat=>decide (el 0 L (i:Int)≠p (i:Int))
theorem xL {k:Nat} {l:List bK} {o:List (List Int)} {L:List Int} (hk:10000≤k) (lo:len o≤9500) (hm:∀ i,0≤i→i<len l→0≤kg l i)
  (hr:∀ q,q∈o→∃ a b:Int,q=[a,b]∧0≤a∧a<len l∧0≤b∧b<len l) {E:Int→Int→Prop} (hE:∀ a b,E a b↔[a,b]∈o∧kg l a≠0∧kg l b≠0) (h:GL (len l) E L) :
  ∃ L',ao.c5 k l o k 0 L=some L'∧GL (len l) E L'∧(∀ i,0≤i→i<len l→el 0 L' i≤el 0 L i)∧∀ a b,E a b→el 0 L' b≤el 0 L a∧el 0 L' a≤el 0 L b:=by
 have llo:len o=(o.length:Int):=rfl;have key:∀ (f:Nat) (v:Int) (M:List Int),0≤v→v≤len o→len o - v<(f:Int)→GL (len l) E M→(∀ i,0≤i→i<len l→el 0 M i≤el 0 L i) →
   (∀ w a b,0≤w→w<v→el (List.replicate 2 (0:Int)) o w=[a,b]→kg l a≠0→kg l b≠0→el 0 M b≤el 0 L a∧el 0 M a≤el 0 L b) →
   ∃ L',ao.c5 k l o f v M=some L'∧GL (len l) E L'∧(∀ i,0≤i→i<len l→el 0 L' i≤el 0 L i)∧∀ w a b,0≤w→w<len o→el (List.replicate 2 (0:Int)) o w=[a,b]→kg l a≠0→kg l b≠0→el 0 L' b≤el 0 L a∧el 0 L' a≤el 0 L b:=by
  intro f
  induction f with
  | zero=>intro v M a b c; omega
  | succ f ih =>
   intro v M v0 v1 hf hM hle hw;rw [ao.c5]
   by_cases c:v<len o
   ·have hin:=rn (List.replicate 2 (0:Int)) o v0 c
    obtain ⟨a,b,hq,a0,a1,b0,b1⟩:=hr _ hin;have g0:el 0 [a,b] 0=a:=rfl;have g1:el 0 [a,b] 1=b:=rfl;have ma:=hm a a0 a1;have mb:=hm b b0 b1;have c6:ao.c6 k l o v=some (decide (kg l a≠0∧kg l b≠0)):=by
     unfold ao.c6;rw [hq,g0,g1,rP (cF a0 (by omega))]
     change aP (ib (kg l a) 0) _ _=_
     rw [rP (cF b0 (by omega))]
     change aP (ib (kg l a) 0) (some (ib (kg l b) 0)) (some false)=_
     revert ma mb;generalize kg l a=x;generalize kg l b=y;intro ma mb
     by_cases d:0<x
     ·rw [hG d,bT]
      unfold ib;congr 1;exact decide_eq_decide.2 ⟨fun g=>⟨by omega,by omega⟩,fun g=>by omega⟩
     ·rw [gZ (by omega),bF,decide_eq_false (fun g=>by omega)]
    have aM:a<len M:=by rw [hM.ln]; exact a1
    have bM:b<len M:=by rw [hM.ln]; exact b1
    rw [cI c,bT,rP (cF v0 c),c6,bS,hq,g0,g1,cA (x:=v) (y:=1) (by omega) (by omega)]
    by_cases d:kg l a≠0∧kg l b≠0
    ·rw [decide_eq_true d,bT,rP (cF a0 aM),rP (cF b0 bM),rP (cF b0 (by rw [je]; exact bM))]
     obtain ⟨w,hwd⟩:∃ w,w=fl (el 0 M a) (el 0 M b):=⟨_,rfl⟩;rw [← hwd];have e2:∀ j,0≤j→el 0 (st (st M a w) b w) j=if j=b then w else if j=a then w else el 0 M j:=by
      intro j j0;rw [jk b0 (by rw [je]; exact bM) j0,jk a0 aM j0]
     have Ma:=hM.bd a a0 a1;have Mb:=hM.bd b b0 b1;have wle:w≤el 0 M a∧w≤el 0 M b∧0≤w∧(w=el 0 M a∨w=el 0 M b):=by
      unfold fl at hwd;split at hwd <;> omega
     have hEab:E a b:=(hE a b).2 ⟨by rw [← hq]; exact hin,d⟩;have ca:Cn E a w:=by
      rcases wle.2.2.2 with e | e
      ·rw [e]; exact hM.cn a a0 a1
      ·rw [e]; exact Cn.trans (Cn.link hEab) (hM.cn b b0 b1)
     have cb:Cn E b w:=Cn.trans (Cn.symm (Cn.link hEab)) ca;have dn:∀ j,0≤j→el 0 (st (st M a w) b w) j≤el 0 M j:=by
      intro j j0;rw [e2 j j0]
      by_cases x:j=b
      ·rw [if_pos x,x]; exact wle.2.1
      ·rw [if_neg x]
       by_cases y:j=a
       ·rw [if_pos y,y]; exact wle.1
       ·rw [if_neg y]; exact Int.le_refl _
     refine ih (v+1) _ (by omega) (by omega) (by omega) ⟨by rw [je,je]; exact hM.ln,fun i i0 i1=>?_,fun i i0 i1=>?_⟩ (fun i i0 i1=>Int.le_trans (dn i i0) (hle i i0 i1)) (fun w' a' b' w0 w1 hq' g1 g2=>?_)
     ·have:=hM.bd i i0 i1
      refine ⟨?_,Int.le_trans (dn i i0) this.2⟩;rw [e2 i i0];split
      ·exact wle.2.2.1
      ·split
       ·exact wle.2.2.1
       ·exact this.1
     ·rw [e2 i i0]
      by_cases x:i=b
      ·rw [if_pos x,x]; exact cb
      ·rw [if_neg x]
       by_cases y:i=a
       ·rw [if_pos y,y]; exact ca
       ·rw [if_neg y]; exact hM.cn i i0 i1
     ·by_cases x:w'=v
      ·rw [x,hq] at hq'
       simp only [List.cons.injEq,and_true] at hq';obtain ⟨rfl,rfl⟩:=hq';have h1:=hle a a0 a1;have h2:=hle b b0 b1;have h3:el 0 (st (st M a w) b w) b=w:=by rw [e2 b b0,if_pos rfl]
       have h4:el 0 (st (st M a w) b w) a=w:=by
        rw [e2 a a0];split
        ·rfl
        ·rw [if_pos rfl]
       rw [h3,h4];omega
      ·have hin':=rn (List.replicate 2 (0:Int)) o w0 (by omega:w'<len o)
       obtain ⟨a2,b2,hq2,a20,_,b20,_⟩:=hr _ hin';rw [hq2] at hq';simp only [List.cons.injEq,and_true] at hq';obtain ⟨rfl,rfl⟩:=hq';obtain ⟨h1,h2⟩:=hw w' a2 b2 w0 (by omega) hq2 g1 g2;exact ⟨Int.le_trans (dn b2 b20) h1,Int.le_trans (dn a2 a20) h2⟩
    ·rw [decide_eq_false d,bF]
     refine ih (v+1) _ (by omega) (by omega) (by omega) hM hle (fun w' a' b' w0 w1 hq' g1 g2=>?_)
     by_cases x:w'=v
     ·rw [x,hq] at hq'
      simp only [List.cons.injEq,and_true] at hq';obtain ⟨rfl,rfl⟩:=hq';exact absurd ⟨g1,g2⟩ d
     ·exact hw w' a' b' w0 (by omega) hq' g1 g2
   ·rw [db (by omega),bF]
    exact ⟨M,rfl,hM,hle,fun w a b w0 w1=>hw w a b w0 (by omega)⟩
 obtain ⟨L',e,g1,g2,g3⟩:=key k 0 L (by omega) (by omega) (by omega) h (fun _ _ _=>Int.le_refl _) (fun w a b x y=>by omega);refine ⟨L',e,g1,g2,fun a b hab=>?_⟩;obtain ⟨hm1,ha,hb⟩:=(hE a b).1 hab;obtain ⟨i,hi,e1⟩:=List.mem_iff_getElem.1 hm1;exact g3 (i:Int) a b (by omega) (by omega) (by rw [jg _ o hi]; exact e1) ha hb
theorem uf {n:Nat} {E:Int→Int→Prop} {p:Int→Int} {L L':List Int} (hp:Part (n:Int) E p) (h:GL (n:Int) E L) (h':GL (n:Int) E L') (hle:∀ i,0≤i→i<(n:Int)→el 0 L' i≤el 0 L i)
  (hE:∀ a b,E a b→(0≤a∧a<(n:Int))∧(0≤b∧b<(n:Int))∧(el 0 L' b≤el 0 L a∧el 0 L' a≤el 0 L b)):bad n p L'≤bad n p L - 1:=by
 have stay:∀ x∈List.range n,decide (el 0 L' (x:Int)≠p x)=true→decide (el 0 L (x:Int)≠p x)=true:=by
  intro x hx g;have hx:=List.mem_range.1 hx;have g:=of_decide_eq_true g;refine decide_eq_true fun e=>g ?_
  have h1:=hle x (by omega) (by omega);have h2:=tP hp h' (i:=(x:Int)) (by omega) (by omega);omega
 by_cases c:∃ x∈List.range n,decide (el 0 L (x:Int)≠p x)=true∧decide (el 0 L' (x:Int)≠p x)=false
 ·have:=vS stay c
  unfold bad;omega
 ·have link:∀ a b,E a b→(el 0 L a=p a↔el 0 L b=p b):=by
   intro a b hab;obtain ⟨⟨a0,a1⟩,⟨b0,b1⟩,l1,l2⟩:=hE a b hab;have e:=hp.eq a b hab;have ga:=tP hp h' a0 a1;have gb:=tP hp h' b0 b1;have no:∀ x:Int,0≤x→x<(n:Int)→el 0 L' x=p x→el 0 L x=p x:=by
    intro x x0 x1 hx;obtain ⟨x,rfl⟩:=Int.eq_ofNat_of_zero_le x0;refine Classical.byContradiction fun hne=>c ⟨x,List.mem_range.2 (by omega),decide_eq_true hne,decide_eq_false (fun hh=>hh hx)⟩
   exact ⟨fun g=>no b b0 b1 (by omega),fun g=>no a a0 a1 (by omega)⟩
  have all:∀ {a b:Int},Cn E a b→(el 0 L a=p a↔el 0 L b=p b):=by
   intro a b hc
   induction hc with
   | refl=>exact Iff.rfl
   | link g=>exact link _ _ g
   | symm _ ih=>exact ih.symm
   | trans _ _ i1 i2=>exact i1.trans i2
  have zero:∀ x∈List.range n,¬ decide (el 0 L' (x:Int)≠p x)=true:=by
   intro x hx g;have hx':=List.mem_range.1 hx;have g:=of_decide_eq_true (stay x hx g);obtain ⟨b0,b1,b2,b3⟩:=hp.bd (x:Int) (by omega) (by omega);refine g ((all b2).2 ?_);have h1:=tP hp h b0 (by omega);have h2:=h.bd (p x) b0 (by omega);omega
  have:bad n p L'=0:=by
   unfold bad;rw [List.countP_eq_zero];exact zero
  omega
theorem xM {n:Int} {J:List gu} {C:List dA}
  (hJ:∀ j,0≤j→j<len J→0≤(el fY J j).1∧(el fY J j).1<n∧0≤(el fY J j).2.1∧(el fY J j).2.1<n)
  (hC:∀ j,0≤j→j<len C→0≤(el aZ C j).1∧(el aZ C j).1<n∧0≤(el aZ C j).2.1∧(el aZ C j).2.1<n) :
  ∀ q,q∈yN J C→∃ a b:Int,q=[a,b]∧0≤a∧a<n∧0≤b∧b<n:=by
 intro q hq;rcases List.mem_append.1 hq with hm | hm
 ·obtain ⟨x,hx,rfl⟩:=List.mem_map.1 hm
  obtain ⟨i,hi,rfl⟩:=List.mem_iff_getElem.1 hx;have g:=hJ (i:Int) (by omega) (by unfold len; omega);rw [jg fY J hi] at g;exact ⟨_,_,rfl,g⟩
 ·obtain ⟨x,hx,rfl⟩:=List.mem_map.1 hm
  obtain ⟨i,hi,rfl⟩:=List.mem_iff_getElem.1 hx;have g:=hC (i:Int) (by omega) (by unfold len; omega);rw [jg aZ C hi] at g;exact ⟨_,_,rfl,g⟩
theorem uG {k:Nat} (hk:10000≤k) {l:List bK} (hl:len l≤64) {J:List gu} {C:List dA} (lJ:len J≤5000) (lC:len C≤4400) (hm:∀ i,0≤i→i<len l→0≤kg l i)
  (hJ:∀ j,0≤j→j<len J→0≤(el fY J j).1∧(el fY J j).1<len l∧0≤(el fY J j).2.1∧(el fY J j).2.1<len l)
  (hC:∀ j,0≤j→j<len C→0≤(el aZ C j).1∧(el aZ C j).1<len l∧0≤(el aZ C j).2.1∧(el aZ C j).2.1<len l)
  {p:Int→Int} (hp:Part (len l) (wo l J C) p):∃ L,ao k l J C=some L∧len L=len l∧∀ i,0≤i→i<len l→el 0 L i=p i:=by
 have ll:len l=(l.length:Int):=rfl;have lJn:len J=(J.length:Int):=rfl;have lCn:len C=(C.length:Int):=rfl;have lm:len (iC (0:Int) (len l))=len l:=by
  unfold len iC;rw [List.length_replicate];omega
 obtain ⟨u0,⟨h1,h2⟩,e0⟩:=lT (fun n (z:List Int) i=>ao.c1 k l n i z) 0 (len l) (fun z i=>len z=len l∧∀ j,0≤j→j<i→el 0 z j=j)
  (by
   intro n z i i0 i1 ⟨g1,g2⟩;refine ⟨st z i i,⟨by rw [je]; exact g1,fun j j0 j1=>?_⟩,?_⟩
   ·rw [jk i0 (by omega) j0]
    by_cases c:j=i
    ·rw [if_pos c,c]
    ·rw [if_neg c]; exact g2 j j0 (by omega)
   ·show ao.c1 k l (n+1) i z=_
    rw [ao.c1,lm,cI i1,bT,rP (cF i0 (by omega)),cA (by omega) (by omega)])
  (by
   intro n z i i0 i1;show ao.c1 k l (n+1) i z=some z
   rw [ao.c1,lm,db i1,bF])
  k (iC (0:Int) (len l)) 0 (by omega) (by omega) (by omega) ⟨lm,fun j a b=>by omega⟩
 have e0:ao.c1 k l k 0 (iC (0:Int) (len l))=some u0:=e0;have hroom:∀ (v:List (List Int)) (x:List Int),v.length≤20000→room 16 v [x]:=fun v x h=>by unfold room roomFor; simp only [List.length_singleton]; omega
 have e2:ao.c2 k J k 0 []=some (J.map zL):=by
  have key:∀ (n v:Nat) (a:List (List Int)),v≤J.length→J.length<v+n→a.length≤v→ao.c2 k J n (v:Int) a=some (a++(J.drop v).map zL):=by
   intro n
   induction n with
   | zero=>intro v a h1 h2; omega
   | succ n ih =>
    intro v a h1 h2 h3;rw [ao.c2]
    by_cases c:v<J.length
    ·rw [cI (by omega),bT,rP (cF (by omega) (by omega)),rP (hroom _ _ (by omega)),cA (x:=(v:Int)) (y:=1) (by omega) (by omega),(show (v:Int)+1=((v+1:Nat):Int) by omega),ih (v+1) _ (by omega) (by omega) (by rw [List.length_append,List.length_singleton]; omega),List.drop_eq_getElem_cons c,List.map_cons,List.append_assoc,jg fY J c]
     rfl
    ·rw [db (by omega),bF,List.drop_of_length_le (by omega)]
     simp
  have:=key k 0 [] (by omega) (by omega) (by simp);rw [List.drop_zero,List.nil_append] at this;exact this
 have e3:ao.c3 k C k 0 (J.map zL)=some (yN J C):=by
  have key:∀ (n v:Nat) (a:List (List Int)),v≤C.length→C.length<v+n→a.length≤5000+v→ao.c3 k C n (v:Int) a=some (a++(C.drop v).map AN):=by
   intro n
   induction n with
   | zero=>intro v a h1 h2; omega
   | succ n ih =>
    intro v a h1 h2 h3;rw [ao.c3]
    by_cases c:v<C.length
    ·rw [cI (by omega),bT,rP (cF (by omega) (by omega)),rP (hroom _ _ (by omega)),cA (x:=(v:Int)) (y:=1) (by omega) (by omega),(show (v:Int)+1=((v+1:Nat):Int) by omega),ih (v+1) _ (by omega) (by omega) (by rw [List.length_append,List.length_singleton]; omega),List.drop_eq_getElem_cons c,List.map_cons,List.append_assoc,jg aZ C c]
     rfl
    ·rw [db (by omega),bF,List.drop_of_length_le (by omega)]
     simp
  have:=key k 0 (J.map zL) (by omega) (by omega) (by rw [List.length_map]; omega);rw [List.drop_zero] at this;exact this
 have lo:len (yN J C)≤9500:=by
  unfold len yN;rw [List.length_append,List.length_map,List.length_map];omega
 have hrg:=xM (n:=len l) hJ hC;have hp':Part ((l.length:Nat):Int) (wo l J C) p:=hp;have G0:GL (len l) (wo l J C) u0:=⟨h1,fun i a b=>by rw [h2 i a b]; omega,fun i a b=>by rw [h2 i a b]; exact Cn.refl _⟩;have key:∀ (f:Nat) (v:Int) (L:List Int),0≤v→v≤len l→len l - v<(f:Int)→GL (len l) (wo l J C) L→(bad l.length p L:Int)≤len l - v→∃ L',ao.c4 k l (yN J C) f v L=some L'∧GL (len l) (wo l J C) L'∧bad l.length p L'=0:=by
  intro f
  induction f with
  | zero=>intro v L a b c; omega
  | succ f ih =>
   intro v L v0 v1 hf hL hb;rw [ao.c4]
   by_cases c:v<len l
   ·obtain ⟨L',e,g1,g2,g3⟩:=xL (k:=k) hk lo hm hrg (E:=wo l J C) (fun a b=>Iff.rfl) hL
    have hbad:=uf (n:=l.length) hp' hL g1 g2 (fun a b hab=>by
     obtain ⟨a',b',hq,x1,x2,x3,x4⟩:=hrg _ hab.1;simp only [List.cons.injEq,and_true] at hq;obtain ⟨rfl,rfl⟩:=hq
     exact ⟨⟨x1,x2⟩,⟨x3,x4⟩,g3 _ _ hab⟩)
    rw [cI c,bT,e,bS,cA (by omega) (by omega)];exact ih (v+1) L' (by omega) (by omega) (by omega) g1 (by omega)
   ·rw [db (by omega),bF]
    exact ⟨L,rfl,hL,by omega⟩
 obtain ⟨L,e4,g1,g2⟩:=key k 0 u0 (by omega) (by omega) (by omega) G0 (by
  have:bad l.length p u0≤(List.range l.length).length:=by unfold bad; exact List.countP_le_length
  rw [List.length_range] at this
  omega)
 refine ⟨L,?_,g1.ln,fun i i0 i1=>?_⟩
 ·unfold ao
  rw [rP (show kR 8 (len l) (len l) from ⟨rfl,by omega,by omega,by omega⟩),e0,bS,e2,bS,e3,bS,e4,bS]
 ·obtain ⟨i,rfl⟩:=Int.eq_ofNat_of_zero_le i0
  unfold bad at g2;rw [List.countP_eq_zero] at g2;have:=g2 i (List.mem_range.2 (by omega));refine Classical.byContradiction fun hne=>this (decide_eq_true hne)
end Go.Proofs.T1
