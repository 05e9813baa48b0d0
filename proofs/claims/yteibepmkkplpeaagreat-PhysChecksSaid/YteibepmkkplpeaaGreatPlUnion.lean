import Derived.Test.YteibepmkkplpeaaGreatPlPairs
import Derived.Test.YteibepmkkplpeaaGreatG13
import Derived.Test.YteibepmkkplpeaaGreatG18
namespace Go.Proofs.T1
open Go Go.Sx
def oO (a b:dA):Int:=if jN a.1 b.1=0 then (if jN a.2.1 b.2.1=0 then jN a.2.2.1 b.2.2.1 else jN a.2.1 b.2.1) else jN a.1 b.1
theorem ze {k:Nat} (hk:4≤k) (a b c:Int):dj k [a,b,c]=some (if a=0 then (if b=0 then c else b) else a):=by
 obtain ⟨n,rfl⟩:∃ n,k=n+4:=⟨k - 4,by omega⟩;have l3:len [a,b,c]=3:=rfl;have e0:el 0 [a,b,c] 0=a:=rfl;have e1:el 0 [a,b,c] (0+1)=b:=rfl;have e2:el 0 [a,b,c] (0+1+1)=c:=rfl;unfold dj;rw [dj.c1,cI (by omega),bT,rP (cF (by omega) (by omega)),e0]
 by_cases ha:a=0
 ·rw [eu ha,bF,if_pos ha,cA (x:=0) (y:=1) (by omega) (by omega),dj.c1,cI (by omega),bT,rP (cF (by omega) (by omega)),e1]
  by_cases hb:b=0
  ·rw [eu hb,bF,if_pos hb,cA (x:=0+1) (y:=1) (by omega) (by omega),dj.c1,cI (by omega),bT,rP (cF (by omega) (by omega)),e2]
   by_cases hc:c=0
   ·rw [eu hc,bF,cA (x:=0+1+1) (y:=1) (by omega) (by omega),dj.c1,db (by omega),bF,bS,fQ,hc]
   ·rw [fw hc,bT,bS,fz]
  ·rw [fw hb,bT,bS,fz,if_neg hb]
 ·rw [fw ha,bT,bS,fz,if_neg ha]
theorem vw {k:Nat} (hk:4≤k) (a b:dA):ef k a b=some (oO a b):=by
 unfold ef;rw [gI,bS,gI,bS,gI,bS,ze hk,bS];rfl
theorem se {α:Type} (z:α) {l m:List α} (h:len l=len m) (e:∀ j,0≤j→j<len l→el z l j=el z m j):l=m:=by
 have ll:len l=(l.length:Int):=rfl;have lm:len m=(m.length:Int):=rfl;refine List.ext_getElem (by omega) fun i h1 h2=>?_
 have:=e i (by omega) (by omega);rw [jg z l h1,jg z m h2] at this;exact this
theorem z6 {α:Type} (z:α) (l:List α) {i:Int} (i0:0≤i) (i1:i<len l) (x:α):el z (st l i x) i=x:=by
 rw [we z l x i0 i1 i0,if_pos rfl]
end Go.Proofs.T1
namespace Go.Proofs.T1
open Go Go.Sx
theorem rT {k:Nat} (hk:4≤k) (a b:dA):a8 k [a.1,a.2.1,a.2.2.1] [b.1,b.2.1,b.2.2.1]=some (oO a b):=by
 obtain ⟨n,rfl⟩:∃ n,k=n+4:=⟨k - 4,by omega⟩;have la:∀ x y z:Int,len [x,y,z]=3:=fun _ _ _=>rfl;have e0:∀ x y z:Int,el 0 [x,y,z] 0=x:=fun _ _ _=>rfl;have e1:∀ x y z:Int,el 0 [x,y,z] (0+1)=y:=fun _ _ _=>rfl;have e2:∀ x y z:Int,el 0 [x,y,z] (0+1+1)=z:=fun _ _ _=>rfl;unfold a8 oO;rw [a8.c1,cI (by rw [la]; omega),bT,rP (cF (by omega) (by rw [la]; omega)),gL (by rw [la]; omega),bF,rP (cF (by omega) (by rw [la]; omega)),e0,e0,gI,bS]
 by_cases h1:jN a.1 b.1=0
 ·rw [eu h1,bF,if_pos h1,cA (x:=0) (y:=1) (by omega) (by omega),a8.c1,cI (by rw [la]; omega),bT,rP (cF (by omega) (by rw [la]; omega)),gL (by rw [la]; omega),bF,rP (cF (by omega) (by rw [la]; omega)),e1,e1,gI,bS]
  by_cases h2:jN a.2.1 b.2.1=0
  ·rw [eu h2,bF,if_pos h2,cA (x:=0+1) (y:=1) (by omega) (by omega),a8.c1,cI (by rw [la]; omega),bT,rP (cF (by omega) (by rw [la]; omega)),gL (by rw [la]; omega),bF,rP (cF (by omega) (by rw [la]; omega)),e2,e2,gI,bS]
   by_cases h3:jN a.2.2.1 b.2.2.1=0
   ·rw [eu h3,bF,cA (x:=0+1+1) (y:=1) (by omega) (by omega),a8.c1,db (by rw [la]; omega),bF,bS,fQ,db (by rw [la,la]; omega),bF,h3]
   ·rw [fw h3,bT,bS,fz]
  ·rw [fw h2,bT,bS,fz,if_neg h2]
 ·rw [fw h1,bT,bS,fz,if_neg h1]
end Go.Proofs.T1
namespace Go.Proofs.T1
open Go Go.Sx
inductive Rt (u:List Int):Int→Int→Prop
 | nil {r:Int} (h:el 0 u r=r):Rt u r r
 | step {i r:Int} (h:el 0 u i≠i) (g:Rt u (el 0 u i) r):Rt u i r
inductive Cn (E:Int→Int→Prop):Int→Int→Prop
 | refl (a:Int):Cn E a a
 | link {a b:Int} (h:E a b):Cn E a b
 | symm {a b:Int} (h:Cn E a b):Cn E b a
 | trans {a b c:Int} (h:Cn E a b) (g:Cn E b c):Cn E a c
theorem k9 {u:List Int} {i r:Int} (h:Rt u i r):∀ {s:Int},Rt u i s→r=s:=by
 induction h with
 | nil h =>
  intro s g;cases g with
  | nil _=>rfl
  | step g _=>exact absurd h g
 | step h _ ih =>
  intro s g;cases g with
  | nil g=>exact absurd g h
  | step _ g=>exact ih g
theorem zI {u:List Int} {i r:Int} (h:Rt u i r):el 0 u i=i∧r=i∨el 0 u i≠i∧Rt u (el 0 u i) r:=by
 cases h with
 | nil h=>exact .inl ⟨h,rfl⟩
 | step h g=>exact .inr ⟨h,g⟩
theorem xX {u:List Int} {i r:Int} (h:Rt u i r):el 0 u r=r:=by
 induction h with
 | nil h=>exact h
 | step _ _ ih=>exact ih
structure UF (n:Int) (E:Int→Int→Prop) (p:Int→Int) (u:List Int):Prop where
 ln:len u=n
 bd:∀ i,0≤i→i<n→0≤el 0 u i∧el 0 u i≤i
 rt:∀ i,0≤i→i<n→Rt u i (p i)
 cn:∀ i,0≤i→i<n→Cn E i (el 0 u i)
section
variable {n:Int} {E:Int→Int→Prop} {p:Int→Int} {u:List Int}
theorem qm (h:UF n E p u) {i:Int} (i0:0≤i) (i1:i<n):p (el 0 u i)=p i:=by
 have b:=h.bd i i0 i1;have g:=h.rt i i0 i1;have g2:=h.rt (el 0 u i) b.1 (by omega);rcases zI g with ⟨e,_⟩ | ⟨_,g⟩
 ·exact congrArg p e
 ·exact k9 g2 g
theorem kS (h:UF n E p u) {i:Int} (i0:0≤i) (i1:i<n):0≤p i∧p i≤i∧el 0 u (p i)=p i∧Cn E i (p i)∧p (p i)=p i:=by
 have key:∀ {i r:Int},Rt u i r→0≤i→i<n→0≤r∧r≤i∧Cn E i r:=by
  intro i r hr
  induction hr with
  | nil _=>intro a b; exact ⟨a,Int.le_refl _,Cn.refl _⟩
  | step _ _ ih =>
   intro a b;have c:=h.bd _ a b;obtain ⟨d1,d2,d3⟩:=ih c.1 (by omega);exact ⟨d1,by omega,Cn.trans (h.cn _ a b) d3⟩
 have hr:=h.rt i i0 i1;obtain ⟨a,b,c⟩:=key hr i0 i1;have e:=xX hr;exact ⟨a,b,e,c,(k9 (h.rt (p i) a (by omega)) (Rt.nil e))⟩
theorem jk {u:List Int} {x w:Int} (x0:0≤x) (x1:x<len u) {j:Int} (j0:0≤j):el 0 (st u x w) j=if j=x then w else el 0 u j:=we 0 u w x0 x1 j0
theorem xm (h:UF n E p u) {x w:Int} (x0:0≤x) (x1:x<n) (w0:0≤w) (w1:w≤x) (hw:w=x→el 0 u x=x) (hp:p w=p x) (hc:Cn E x w):UF n E p (st u x w):=by
 have xl:x<len u:=by rw [h.ln]; exact x1
 have ex:el 0 (st u x w) x=w:=by rw [jk x0 xl x0,if_pos rfl]
 have ey:∀ j,0≤j→j≠x→el 0 (st u x w) j=el 0 u j:=fun j j0 c=>by rw [jk x0 xl j0,if_neg c]
 have key:∀ (m:Nat) (i:Int),0≤i→i<n→i.toNat<m→Rt (st u x w) i (p i):=by
  intro m
  induction m with
  | zero=>intro i _ _ c; omega
  | succ m ih =>
   intro i i0 i1 hm
   by_cases c:i=x
   ·subst c
    by_cases d:w=i
    ·have e:p i=i:=k9 (h.rt i i0 i1) (Rt.nil (hw d))
     rw [e];exact Rt.nil (by rw [ex]; exact d)
    ·have g:=ih w w0 (by omega) (by omega)
     rw [hp] at g;exact Rt.step (by rw [ex]; exact d) (by rw [ex]; exact g)
   ·have b:=h.bd i i0 i1
    by_cases d:el 0 u i=i
    ·have e:p i=i:=k9 (h.rt i i0 i1) (Rt.nil d)
     rw [e];exact Rt.nil (by rw [ey i i0 c]; exact d)
    ·have g:=ih (el 0 u i) b.1 (by omega) (by omega)
     rw [qm h i0 i1] at g;exact Rt.step (by rw [ey i i0 c]; exact d) (by rw [ey i i0 c]; exact g)
 refine ⟨by rw [je]; exact h.ln,fun i i0 i1=>?_,fun i i0 i1=>key (i.toNat+1) i i0 i1 (by omega),fun i i0 i1=>?_⟩
 ·by_cases c:i=x
  ·rw [c,ex]; exact ⟨w0,w1⟩
  ·rw [ey i i0 c]; exact h.bd i i0 i1
 ·by_cases c:i=x
  ·rw [c,ex]; exact hc
  ·rw [ey i i0 c]; exact h.cn i i0 i1
theorem xW (h:UF n E p u) {x:Int} (x0:0≤x) (x1:x<n) (hx:el 0 u x≠x):UF n E p (st u x (el 0 u (el 0 u x)))∧(0≤el 0 u (el 0 u x)∧el 0 u (el 0 u x)<x)∧p (el 0 u (el 0 u x))=p x:=by
 have b:=h.bd x x0 x1;have c:=h.bd (el 0 u x) b.1 (by omega);have e:p (el 0 u (el 0 u x))=p x:=by rw [qm h b.1 (by omega),qm h x0 x1]
 exact ⟨xm h x0 x1 c.1 (by omega) (fun d=>by omega) e (Cn.trans (h.cn x x0 x1) (h.cn _ b.1 (by omega))),⟨c.1,by omega⟩,e⟩
theorem xH (h:UF n E p u) {x:Int} (x0:0≤x) (x1:x<n):UF n E p (st u x (p x)):=by
 obtain ⟨a,b,c,d,e⟩:=kS h x0 x1;exact xm h x0 x1 a b (fun g=>by rw [g] at c; exact c) e d
theorem xT (h:UF n E p u) {r s:Int} (r0:0≤r) (r1:r<n) (s0:0≤s) (s1:s<n) (hr:el 0 u r=r) (hs:el 0 u s=s) (hc:Cn E r s):UF n E (fun i=>if p i=imax r s then fl r s else p i) (st u (imax r s) (fl r s)):=by
 obtain ⟨M,hM⟩:∃ M,M=imax r s:=⟨_,rfl⟩;obtain ⟨m,hm⟩:∃ m,m=fl r s:=⟨_,rfl⟩;rw [← hM,← hm];have cases_:(M=r∧m=s)∨(M=s∧m=r):=by
  unfold imax at hM;unfold fl at hm;split at hM <;> split at hm <;> omega
 have M0:0≤M∧M<n∧el 0 u M=M∧0≤m∧m≤M∧el 0 u m=m∧Cn E M m:=by
  have hle:m≤M:=by
   unfold imax at hM;unfold fl at hm;split at hM <;> split at hm <;> omega
  rcases cases_ with ⟨a,b⟩ | ⟨a,b⟩
  ·exact ⟨by omega,by omega,by rw [a]; exact hr,by omega,hle,by rw [b]; exact hs,by rw [a,b]; exact hc⟩
  ·exact ⟨by omega,by omega,by rw [a]; exact hs,by omega,hle,by rw [b]; exact hr,by rw [a,b]; exact Cn.symm hc⟩
 obtain ⟨x0,x1,eM,m0,mM,em,cM⟩:=M0;have xl:M<len u:=by rw [h.ln]; exact x1
 have ex:el 0 (st u M m) M=m:=by rw [jk x0 xl x0,if_pos rfl]
 have ey:∀ j,0≤j→j≠M→el 0 (st u M m) j=el 0 u j:=fun j j0 c=>by rw [jk x0 xl j0,if_neg c]
 have key:∀ {i t:Int},Rt u i t→0≤i→i<n→Rt (st u M m) i (if t=M then m else t):=by
  intro i t ht
  induction ht with
  | nil e =>
   rename_i t;intro a b
   by_cases c:t=M
   ·rw [if_pos c,c]
    by_cases d:m=M
    ·rw [d]; rw [d] at ex; exact Rt.nil ex
    ·exact Rt.step (by rw [ex]; exact d) (by rw [ex]; exact Rt.nil (by rw [ey m m0 d]; exact em))
   ·rw [if_neg c]
    exact Rt.nil (by rw [ey t a c]; exact e)
  | step e _ ih =>
   rename_i i t _;intro a b;have c:i≠M:=fun c=>e (by rw [c]; exact eM);have d:=h.bd i a b;exact Rt.step (by rw [ey i a c]; exact e) (by rw [ey i a c]; exact ih d.1 (by omega))
 refine ⟨by rw [je]; exact h.ln,fun i i0 i1=>?_,fun i i0 i1=>key (h.rt i i0 i1) i0 i1,fun i i0 i1=>?_⟩
 ·by_cases c:i=M
  ·rw [c,ex]; exact ⟨m0,mM⟩
  ·rw [ey i i0 c]; exact h.bd i i0 i1
 ·by_cases c:i=M
  ·rw [c,ex]; exact cM
  ·rw [ey i i0 c]; exact h.cn i i0 i1
theorem ym {k:Nat} {Pd:List Int→Prop} (hP:∀ u x,UF n E p u→Pd u→0≤x→x<n→el 0 u x≠x→Pd (st u x (el 0 u (el 0 u x)))) :
  ∀ (f:Nat) (i:Int) (u:List Int),UF n E p u→Pd u→0≤i→i<n→i<(f:Int)→∃ u',aC.c1 k f i u=some (p i,u')∧UF n E p u'∧Pd u':=by
 intro f
 induction f with
 | zero=>intro i u _ _ a _ b; omega
 | succ f ih =>
  intro i u h hu i0 i1 hf;have b:=h.bd i i0 i1;rw [aC.c1,rP (cF i0 (by rw [h.ln]; exact i1))]
  by_cases c:el 0 u i=i
  ·have e:p i=i:=k9 (h.rt i i0 i1) (Rt.nil c)
   rw [eu c,bF,e];exact ⟨u,rfl,h,hu⟩
  ·obtain ⟨g,w,e⟩:=xW h i0 i1 c
   have e1:el 0 (st u i (el 0 u (el 0 u i))) i=el 0 u (el 0 u i):=z6 0 u i0 (by rw [h.ln]; exact i1) _;rw [fw c,bT,rP (cF b.1 (by rw [h.ln]; omega)),rP (cF i0 (by rw [je,h.ln]; exact i1)),e1];obtain ⟨u',e2,g2,g3⟩:=ih (el 0 u (el 0 u i)) _ g (hP u i h hu i0 i1 c) w.1 (by omega) (by omega);rw [e] at e2;exact ⟨u',e2,g2,g3⟩
theorem qw {k:Nat} {Pd:List Int→Prop} (hP:∀ u x,UF n E p u→Pd u→0≤x→x<n→el 0 u x≠x→Pd (st u x (el 0 u (el 0 u x)))) {i:Int} (h:UF n E p u) (hu:Pd u) (i0:0≤i) (i1:i<n) (hk:i<(k:Int)):∃ u',aC k i u=some (u',p i)∧UF n E p u'∧Pd u':=by
 obtain ⟨u',e,g,g2⟩:=ym (k:=k) hP k i u h hu i0 i1 hk;refine ⟨u',?_,g,g2⟩;unfold aC;rw [e,bS]
end
abbrev kg (l:List bK) (i:Int):Int:=(el al l i).2.2.2.2.1
theorem yc {k:Nat} {n:Int} {E:Int→Int→Prop} {p:Int→Int} {u:List Int} {l:List bK} (hl:len l=n) (hn:n<(k:Int)) {a b:Int} (a0:0≤a) (a1:a<n) (b0:0≤b) (b1:b<n) (hE:kg l a≠0→kg l b≠0→Cn E a b) (h:UF n E p u) :
  ∃ p' u',bb k a b l u=some u'∧UF n E p' u'∧(∀ i j,p i=p j→p' i=p' j)∧(kg l a≠0→kg l b≠0→p' a=p' b):=by
 have c1:bb.c1 k a b l=some (decide (kg l a=0∨kg l b=0)):=by
  unfold bb.c1;rw [rP (cF a0 (by omega))]
  by_cases c:kg l a=0
  ·rw [gB c,bT,decide_eq_true (.inl c)]
  ·rw [gY c,bF,rP (cF b0 (by omega))]
   unfold gK;congr 1;exact decide_eq_decide.2 ⟨fun g=>.inr g,fun g=>g.resolve_left c⟩
 unfold bb;rw [c1,bS]
 by_cases c:kg l a=0∨kg l b=0
 ·rw [decide_eq_true c,bT]
  exact ⟨p,u,rfl,h,fun _ _ g=>g,fun g1 g2=>by rcases c with c | c; exact absurd c g1; exact absurd c g2⟩
 ·rw [decide_eq_false c,bF]
  have ca:kg l a≠0:=fun g=>c (.inl g);have cb:kg l b≠0:=fun g=>c (.inr g);obtain ⟨u1,e1,h1,_⟩:=qw (k:=k) (Pd:=fun _=>True) (fun _ _ _ _ _ _ _=>trivial) h trivial a0 a1 (by omega)
  obtain ⟨u2,e2,h2,q2⟩:=qw (k:=k) (Pd:=fun v=>el 0 v (p a)=p a) (fun v x hv hq x0 x1 hx=>by
   have r:=kS hv a0 a1;rw [jk x0 (by rw [hv.ln]; exact x1) r.1]
   by_cases d:p a=x
   ·rw [d] at hq; exact absurd hq hx
   ·rw [if_neg d]; exact hq) h1 (kS h1 a0 a1).2.2.1 b0 b1 (by omega)
  have ra:=kS h2 a0 a1;have rb:=kS h2 b0 b1;have mx:0≤imax (p a) (p b)∧imax (p a) (p b)<n:=by unfold imax; split <;> omega
  rw [e1,bS,e2,bS,rP (cF mx.1 (by rw [h2.ln]; exact mx.2))];have hcn:Cn E (p a) (p b):=Cn.trans (Cn.symm ra.2.2.2.1) (Cn.trans (hE ca cb) rb.2.2.2.1);refine ⟨_,_,rfl,xT h2 ra.1 (by omega) rb.1 (by omega) ra.2.2.1 rb.2.2.1 hcn,fun i j g=>?_,fun _ _=>?_⟩
  ·dsimp only
   rw [g]
  ·dsimp only
   have hmm:(imax (p a) (p b)=p a∧fl (p a) (p b)=p b)∨(imax (p a) (p b)=p b∧fl (p a) (p b)=p a):=by
    unfold imax fl;split <;> split <;> omega
   rcases hmm with ⟨d1,d2⟩ | ⟨d1,d2⟩
   ·rw [d1,d2,if_pos rfl]
    split <;> rfl
   ·rw [d1,d2,if_pos rfl]
    split <;> omega
theorem oE {k:Nat} {n:Int} {E:Int→Int→Prop} {l:List bK} (hl:len l=n) (hn:n<(k:Int)) (N:Int) (A B:Int→Int) (F:Nat→Int→List Int→Option (List Int))
  (hr:∀ v,0≤v→v<N→0≤A v∧A v<n∧0≤B v∧B v<n∧(kg l (A v)≠0→kg l (B v)≠0→Cn E (A v) (B v)))
  (hstep:∀ f v u,0≤v→v<N→F (f+1) v u=bq (bb k (A v) (B v) l u) fun y=>F f (v+1) y)
  (hend:∀ f v u,0≤v→N≤v→F (f+1) v u=some u) :
  ∀ (f:Nat) (v:Int) (u:List Int) (p:Int→Int),0≤v→v≤N→N - v<(f:Int)→UF n E p u →
   ∃ p' u',F f v u=some u'∧UF n E p' u'∧(∀ i j,p i=p j→p' i=p' j)∧∀ w,v≤w→w<N→kg l (A w)≠0→kg l (B w)≠0→p' (A w)=p' (B w):=by
 intro f
 induction f with
 | zero=>intro v u p a b c; omega
 | succ f ih =>
  intro v u p v0 v1 hf h
  by_cases c:v<N
  ·obtain ⟨x0,x1,x2,x3,x4⟩:=hr v v0 c
   obtain ⟨p1,u1,e1,h1,k1,k2⟩:=yc (k:=k) hl hn x0 x1 x2 x3 x4 h;obtain ⟨p2,u2,e2,h2,k3,k4⟩:=ih (v+1) u1 p1 (by omega) (by omega) (by omega) h1;refine ⟨p2,u2,by rw [hstep f v u v0 c,e1,bS,e2],h2,fun i j g=>k3 i j (k1 i j g),fun w w0 w1=>?_⟩
   by_cases d:w=v
   ·rw [d]; exact fun g1 g2=>k3 _ _ (k2 g1 g2)
   ·exact k4 w (by omega) w1
  ·exact ⟨p,u,hend f v u v0 (by omega),h,fun _ _ g=>g,fun w w0 w1=>by omega⟩
def zL (x:gu):List Int:=[x.1,x.2.1]
def AN (x:dA):List Int:=[x.1,x.2.1]
def yN (J:List gu) (C:List dA):List (List Int):=J.map zL++C.map AN
def wo (l:List bK) (J:List gu) (C:List dA) (a b:Int):Prop:=[a,b]∈yN J C∧kg l a≠0∧kg l b≠0
structure Part (n:Int) (E:Int→Int→Prop) (p:Int→Int):Prop where
 bd:∀ i,0≤i→i<n→0≤p i∧p i≤i∧Cn E i (p i)∧p (p i)=p i
 eq:∀ a b,E a b→p a=p b
theorem td {k:Nat} (hk:10000≤k) {l:List bK} (hl:len l≤64) {J:List gu} {C:List dA} (lJ:len J≤5000) (lC:len C≤9000)
  (hJ:∀ j,0≤j→j<len J→0≤(el fY J j).1∧(el fY J j).1<len l∧0≤(el fY J j).2.1∧(el fY J j).2.1<len l)
  (hC:∀ j,0≤j→j<len C→0≤(el aZ C j).1∧(el aZ C j).1<len l∧0≤(el aZ C j).2.1∧(el aZ C j).2.1<len l) :
  ∃ out p,ab k l J C=some out∧len out=len l∧(∀ i,0≤i→i<len l→el 0 out i=p i)∧Part (len l) (wo l J C) p:=by
 have ll:len l=(l.length:Int):=rfl;have lm:len (iC (0:Int) (len l))=len l:=by
  unfold len iC;rw [List.length_replicate];omega
 obtain ⟨u0,⟨h1,h2⟩,e0⟩:=lT (fun n (z:List Int) i=>ab.c1 k l n i z) 0 (len l) (fun z i=>len z=len l∧∀ j,0≤j→j<i→el 0 z j=j)
  (by
   intro n z i i0 i1 ⟨g1,g2⟩;refine ⟨st z i i,⟨by rw [je]; exact g1,fun j j0 j1=>?_⟩,?_⟩
   ·rw [jk i0 (by omega) j0]
    by_cases c:j=i
    ·rw [if_pos c,c]
    ·rw [if_neg c]; exact g2 j j0 (by omega)
   ·show ab.c1 k l (n+1) i z=_
    rw [ab.c1,lm,cI i1,bT,rP (cF i0 (by omega)),cA (by omega) (by omega)])
  (by
   intro n z i i0 i1;show ab.c1 k l (n+1) i z=some z
   rw [ab.c1,lm,db i1,bF])
  k (iC (0:Int) (len l)) 0 (by omega) (by omega) (by omega) ⟨lm,fun j a b=>by omega⟩
 have e0:ab.c1 k l k 0 (iC (0:Int) (len l))=some u0:=e0;have U0:UF (len l) (wo l J C) (fun i=>i) u0:=⟨h1,fun i a b=>by rw [h2 i a b]; omega,fun i a b=>Rt.nil (h2 i a b),fun i a b=>by rw [h2 i a b]; exact Cn.refl _⟩;have mJ:∀ v,0≤v→v<len J→[(el fY J v).1,(el fY J v).2.1]∈yN J C:=fun v v0 v1=>List.mem_append.2 (.inl (List.mem_map.2 ⟨_,rn fY J v0 v1,rfl⟩));have mC:∀ v,0≤v→v<len C→[(el aZ C v).1,(el aZ C v).2.1]∈yN J C:=fun v v0 v1=>List.mem_append.2 (.inr (List.mem_map.2 ⟨_,rn aZ C v0 v1,rfl⟩));obtain ⟨p1,u1,e1,U1,_,q1⟩:=oE (k:=k) (E:=wo l J C) (l:=l) rfl (by omega) (len J) (fun v=>(el fY J v).1) (fun v=>(el fY J v).2.1) (fun f v u=>ab.c2 k l J f v u)
  (fun v v0 v1=>by
   obtain ⟨a,b,c,d⟩:=hJ v v0 v1
   exact ⟨a,b,c,d,fun g1 g2=>Cn.link ⟨mJ v v0 v1,g1,g2⟩⟩)
  (fun f v u v0 v1=>by
   show ab.c2 k l J (f+1) v u=_
   rw [ab.c2,cI v1,bT,rP (cF v0 v1),cA (by omega) (by omega)])
  (fun f v u v0 v1=>by
   show ab.c2 k l J (f+1) v u=_
   rw [ab.c2,db v1,bF])
  k 0 u0 (fun i=>i) (by omega) (by unfold len; omega) (by omega) U0
 have e1:ab.c2 k l J k 0 u0=some u1:=e1;obtain ⟨p2,u2,e2,U2,r2,q2⟩:=oE (k:=k) (E:=wo l J C) (l:=l) rfl (by omega) (len C) (fun v=>(el aZ C v).1) (fun v=>(el aZ C v).2.1) (fun f v u=>ab.c3 k l C f v u)
  (fun v v0 v1=>by
   obtain ⟨a,b,c,d⟩:=hC v v0 v1
   exact ⟨a,b,c,d,fun g1 g2=>Cn.link ⟨mC v v0 v1,g1,g2⟩⟩)
  (fun f v u v0 v1=>by
   show ab.c3 k l C (f+1) v u=_
   rw [ab.c3,cI v1,bT,rP (cF v0 v1),cA (by omega) (by omega)])
  (fun f v u v0 v1=>by
   show ab.c3 k l C (f+1) v u=_
   rw [ab.c3,db v1,bF])
  k 0 u1 p1 (by omega) (by unfold len; omega) (by omega) U1
 have e2:ab.c3 k l C k 0 u1=some u2:=e2;have key:∀ (f:Nat) (v:Int) (u:List Int),0≤v→v≤len l→len l - v<(f:Int)→UF (len l) (wo l J C) p2 u→(∀ j,0≤j→j<v→el 0 u j=p2 j)→∃ out,ab.c4 k u2 f v u=some out∧len out=len l∧∀ i,0≤i→i<len l→el 0 out i=p2 i:=by
  intro f
  induction f with
  | zero=>intro v u a b c; omega
  | succ f ih =>
   intro v u v0 v1 hf hU hq;rw [ab.c4,U2.ln]
   by_cases c:v<len l
   ·obtain ⟨u',e3,g1,g2⟩:=qw (k:=k) (Pd:=fun u=>∀ j,0≤j→j<v→el 0 u j=p2 j) (fun u x hu hq x0 x1 hx j j0 j1=>by
     rw [jk x0 (by rw [hu.ln]; exact x1) j0]
     by_cases d:j=x
     ·have r:=kS hu x0 x1
      rw [if_pos d,hq x x0 (by omega),r.2.2.1,d]
     ·rw [if_neg d]; exact hq j j0 j1) hU hq v0 c (by omega)
    have e5:ab.c5 k v u=some (st u' v (p2 v)):=by
     unfold ab.c5;rw [e3,bS,rP (cF v0 (by rw [g1.ln]; exact c))]
    rw [cI c,bT,e5,bS,cA (by omega) (by omega)];refine ih (v+1) _ (by omega) (by omega) (by omega) (xH g1 v0 c) fun j j0 j1=>?_
    rw [jk v0 (by rw [g1.ln]; exact c) j0]
    by_cases d:j=v
    ·rw [if_pos d,d]
    ·rw [if_neg d]; exact g2 j j0 (by omega)
   ·rw [db (by omega),bF]
    exact ⟨u,rfl,hU.ln,fun i i0 i1=>hq i i0 (by omega)⟩
 obtain ⟨out,e4,g1,g2⟩:=key k 0 u2 (by omega) (by omega) (by omega) U2 (fun j a b=>by omega);refine ⟨out,p2,?_,g1,g2,⟨fun i i0 i1=>?_,fun a b hab=>?_⟩⟩
 ·unfold ab
  rw [rP (show kR 8 (len l) (len l) from ⟨rfl,by omega,by omega,by omega⟩),e0,bS,e1,bS,e2,bS,e4,bS]
 ·obtain ⟨a,b,_,d,e⟩:=kS U2 i0 i1
  exact ⟨a,b,d,e⟩
 ·obtain ⟨hm,ha,hb⟩:=hab
  rcases List.mem_append.1 hm with hm | hm
  ·obtain ⟨x,hx,ex⟩:=List.mem_map.1 hm
   unfold zL at ex;simp only [List.cons.injEq,and_true] at ex;obtain ⟨rfl,rfl⟩:=ex;obtain ⟨i,hi,rfl⟩:=List.mem_iff_getElem.1 hx;have g:=q1 (i:Int) (by omega) (by unfold len; omega);rw [jg fY J hi] at g;exact r2 _ _ (g ha hb)
  ·obtain ⟨x,hx,ex⟩:=List.mem_map.1 hm
   unfold AN at ex;simp only [List.cons.injEq,and_true] at ex;obtain ⟨rfl,rfl⟩:=ex;obtain ⟨i,hi,rfl⟩:=List.mem_iff_getElem.1 hx;have g:=q2 (i:Int) (by omega) (by unfold len; omega);rw [jg aZ C hi] at g;exact g ha hb
end Go.Proofs.T1
