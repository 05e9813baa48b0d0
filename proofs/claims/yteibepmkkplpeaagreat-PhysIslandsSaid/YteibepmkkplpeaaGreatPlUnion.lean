import Derived.Test.YteibepmkkplpeaaGreatPlOrder
import Derived.Test.YteibepmkkplpeaaGreatG13
namespace Go.Proofs.T1
open Go Go.Sx
section
variable {p v:aV} {ang spin mass inertia bounce rub:Int} {l:List aV} {asleep:Bool} {calm:Int}
theorem sW {k:Nat} (hk:9≤k) (hc:ak k (p,v,ang,spin,mass,inertia,bounce,rub,l,asleep,calm,())=some 0) :
  CX l 0∧(kg l∧rm l∧yv l)∧R1 p v ang spin∧R2 mass inertia bounce rub calm∧R3 v spin mass inertia asleep calm:=by
 obtain ⟨e,e1,h1⟩:=jQ hk (p:=p) (v:=v) (ang:=ang) (spin:=spin) (mass:=mass) (inertia:=inertia) (bounce:=bounce) (rub:=rub) (l:=l) (asleep:=asleep) (calm:=calm);rw [hc] at e1;cases e1;rcases h1 with ⟨_,h⟩ | ⟨_,_,h⟩ | ⟨_,_,_,_,h⟩ | ⟨h,g,g2,g3,_⟩
 ·exact absurd rfl h
 ·cases h
 ·cases h
 ·refine ⟨h,?_,g,g2,g3⟩
  rcases h with ⟨_,h⟩ | ⟨_,_,h⟩ | ⟨_,_,_,h⟩ | ⟨a,b,c,_,_⟩
  ·exact absurd rfl h
  ·cases h
  ·cases h
  ·exact ⟨a,b,c⟩
end
end Go.Proofs.T1
namespace Go.Proofs.T1
open Go Go.Sx
theorem Ba {k:Nat} (hk:9≤k) (b:ct) (hc:E0 k b):0≤b.2.2.2.2.1∧b.2.2.2.2.1≤1099511627776:=by
 obtain ⟨p,v,ang,spin,mass,inertia,bounce,rub,l,asleep,calm,_⟩:=b;exact (sW hk hc).2.2.2.1.1
def CJ (nb:Int) (x:ix):Prop:=0≤x.1∧x.1<x.2.1∧x.2.1<nb∧Bd x.2.2.1 2097152∧Bd x.2.2.2.1 2097152∧0≤x.2.2.2.2.1∧x.2.2.2.2.1≤65536000
instance (nb:Int) (x:ix):Decidable (CJ nb x):=by unfold CJ; infer_instance
def MJ (l:List ct) (x:ix):Prop:=(el au l x.1).2.2.2.2.1=0∧(el au l x.2.1).2.2.2.2.1=0
instance (l:List ct) (x:ix):Decidable (MJ l x):=by unfold MJ; infer_instance
theorem BO (k:Nat) (p:aV):dI k p=some (decide (Bd p 2097152)):=by
 unfold dI;have i1:fH p.1 p.2.1 ≥ -2097152↔-2097152≤p.1∧-2097152≤p.2.1:=by unfold fH; split <;> omega
 have i2:imax p.1 p.2.1≤2097152↔p.1≤2097152∧p.2.1≤2097152:=by unfold imax; split <;> omega
 by_cases a:fH p.1 p.2.1 ≥ -2097152
 ·rw [il a,bT]
  unfold jR;congr 1;rw [decide_eq_decide];have:=i1.1 a;exact ⟨fun h=>⟨this.1,(i2.1 h).1,this.2,(i2.1 h).2⟩,fun h=>i2.2 ⟨h.2.1,h.2.2.2⟩⟩
 ·rw [gO (by omega),bF,decide_eq_false (fun h=>a (i1.2 ⟨h.1,h.2.2.1⟩))]
theorem EH (k:Nat) (l:List ct) (c:List ix) (v:Int):az.c2 k l c v=some (!decide (CJ (len l) (el iS c v))):=by
 unfold az.c2;generalize el iS c v=x;simp only [BO,bS]
 by_cases a:x.1<0
 ·rw [cg a,bT,decide_eq_false (fun h=>absurd h.1 (by omega))]; rfl
 ·rw [cp (by omega),bF]
  by_cases b:x.2.1 ≥ len l
  ·rw [il b,bT,decide_eq_false (fun h=>absurd h.2.2.1 (by omega))]; rfl
  ·rw [gO (by omega),bF]
   by_cases d:x.1 ≥ x.2.1
   ·rw [il d,bT,decide_eq_false (fun h=>absurd h.2.1 (by omega))]; rfl
   ·rw [gO (by omega),bF]
    by_cases e:Bd x.2.2.1 2097152
    ·rw [decide_eq_true e,bT]
     by_cases f:Bd x.2.2.2.1 2097152
     ·rw [decide_eq_true f,bT]
      by_cases g:x.2.2.2.2.1<0
      ·rw [cg g,bT,decide_eq_false (fun h=>absurd h.2.2.2.2.2.1 (by omega))]; rfl
      ·rw [cp (by omega),bF]
       by_cases z:65536000<x.2.2.2.2.1
       ·rw [gH z,decide_eq_false (fun h=>absurd h.2.2.2.2.2.2 (by omega))]; rfl
       ·rw [gd (by omega),decide_eq_true (show CJ (len l) x from ⟨by omega,by omega,by omega,e,f,by omega,by omega⟩)]; rfl
     ·rw [decide_eq_false f,bF,decide_eq_false (fun h=>f h.2.2.2.2.1)]; rfl
    ·rw [decide_eq_false e,bF,decide_eq_false (fun h=>e h.2.2.2.1)]; rfl
theorem CQ (k:Nat) {l:List ct} {c:List ix} (hc:len c≤32) (n:Nat) {v:Int} (v0:0≤v) (v1:v<len c) :
  az.c1 k l c (n+1) v=if CJ (len l) (el iS c v) then (if MJ l (el iS c v) then some (.inl 3) else az.c1 k l c n (v+1)) else some (.inl 1):=by
 rw [az.c1,cg v1,bT,rP (bZ v0 v1),EH,bS,bJ (by omega) (by omega)]
 by_cases a:CJ (len l) (el iS c v)
 ·obtain ⟨A0,AB,B1,_⟩:=id a
  rw [decide_eq_true a,Bool.not_true,bF,if_pos a];unfold az.c3;rw [rP (bZ A0 (by omega)),rP (bZ (by omega) B1)]
  by_cases m:(el au l (el iS c v).1).2.2.2.2.1=0
  ·rw [fh m,bT,bS]
   by_cases m2:(el au l (el iS c v).2.1).2.2.2.2.1=0
   ·rw [fh m2,bT,if_pos (show MJ l (el iS c v) from ⟨m,m2⟩)]
   ·rw [eL m2,bF,if_neg (fun h=>m2 h.2)]
  ·rw [eL m,bF,bS,bF,if_neg (fun h=>m h.1)]
 ·rw [decide_eq_false a,Bool.not_false,bT,if_neg a]
end Go.Proofs.T1
namespace Go.Proofs.T1
open Go Go.Sx
section
variable {p v:aV} {ang spin mass inertia bounce rub:Int} {l:List aV} {asleep:Bool} {calm:Int}
end
theorem AJ {k:Nat} (hk:9≤k) (hk':100<k) (l:List ct):∃ e,bu k l=some e∧(e=0→q9 k l∧len l≤64):=by
 unfold bu;have bc:∀ b:ct,∃ e,ak k b=some e:=by
  intro b;obtain ⟨p,v,ang,spin,mass,inertia,bounce,rub,l,asleep,calm,_⟩:=b;obtain ⟨e,e1,_⟩:=jQ hk (p:=p) (v:=v) (ang:=ang) (spin:=spin) (mass:=mass) (inertia:=inertia) (bounce:=bounce) (rub:=rub) (l:=l) (asleep:=asleep) (calm:=calm);exact ⟨e,e1⟩
 by_cases h:64<len l
 ·rw [gH h,bT]
  exact ⟨2,rfl,fun h=>absurd h (by decide)⟩
 ·rw [gd (by omega),bF]
  rcases ta (fun n v=>bu.c1 k l n v) (len l) (fun v=>match ak k (el au l v) with | some e=>if e=0 then none else some e | none=>none)
   (by
    intro n v a b;show bu.c1 k l (n+1) v=_;obtain ⟨e,e1⟩:=bc (el au l v);rw [bu.c1,cg b,bT,rP (bZ a b),e1,bS,bJ (by omega) (by omega)]
    by_cases c:e=0
    ·rw [dE c,bF]
     simp [c]
    ·rw [gu c,bT]
     simp [c])
   (by
    intro n v a b;show bu.c1 k l (n+1) v=_
    rw [bu.c1,cp b,bF]) k 0 (by omega) (by unfold len; omega) (by omega) with ⟨j,y,a,b,c,d⟩ | ⟨a,b⟩
  ·have d:bu.c1 k l k 0=some (.inl y):=d
   rw [d,bS,gD];refine ⟨y,rfl,fun h=>?_⟩;obtain ⟨e,e1⟩:=bc (el au l j);rw [e1] at c;have c:(if e=0 then none else some e)=some y:=c
   by_cases z:e=0
   ·rw [if_pos z] at c; cases c
   ·rw [if_neg z] at c; cases c; exact absurd h z
  ·have b:bu.c1 k l k 0=some (.inr ()):=b
   rw [b,bS,fN];refine ⟨0,rfl,fun _=>⟨fun j j0 j1=>?_,by omega⟩⟩;obtain ⟨e,e1⟩:=bc (el au l j);have c:=a j j0 j1;rw [e1] at c;have c:(if e=0 then none else some e)=none:=c
   by_cases z:e=0
   ·show ak k _=_
    rw [e1,z]
   ·rw [if_neg z] at c; cases c
theorem zB {k:Nat} (hk':100<k) (l:List ct) (c:List ix):∃ e,az k l c=some e ∧
  (e=0→(q9 k l∧len l≤64)∧len c≤32∧∀ j,0≤j→j<len c→CJ (len l) (el iS c j)∧¬ MJ l (el iS c j)):=by
 obtain ⟨e,e1,e3⟩:=AJ (k:=k) (by omega) hk' l;unfold az;rw [e1,bS]
 by_cases h0:e=0
 ·obtain ⟨hA,hl⟩:=e3 h0
  rw [dE h0,bF]
  by_cases hc:32<len c
  ·rw [gH hc,bT]
   exact ⟨2,rfl,fun h=>absurd h (by decide)⟩
  ·rw [gd (by omega),bF]
   rcases ta (fun n v=>az.c1 k l c n v) (len c) (fun v=>if CJ (len l) (el iS c v) then (if MJ l (el iS c v) then some 3 else none) else some 1)
    (by
     intro n v a b;show az.c1 k l c (n+1) v=_;rw [CQ k (by omega) n a b]
     by_cases d:CJ (len l) (el iS c v)
     ·by_cases m:MJ l (el iS c v)
      ·simp [d,m]
      ·simp [d,m]
     ·simp [d])
    (by
     intro n v a b;show az.c1 k l c (n+1) v=_
     rw [az.c1,cp b,bF]) k 0 (by omega) (by unfold len; omega) (by omega) with ⟨j,y,a,b,d,f⟩ | ⟨a,b⟩
   ·have f:az.c1 k l c k 0=some (.inl y):=f
    rw [f,bS,gD];refine ⟨y,rfl,fun h=>?_⟩
    by_cases d1:CJ (len l) (el iS c j)
    ·by_cases m:MJ l (el iS c j)
     ·simp [d1,m] at d; omega
     ·simp [d1,m] at d
    ·simp [d1] at d; omega
   ·have b:az.c1 k l c k 0=some (.inr ()):=b
    rw [b,bS,fN];refine ⟨0,rfl,fun _=>⟨⟨hA,hl⟩,by omega,fun j j0 j1=>?_⟩⟩;have d:=a j j0 j1
    by_cases d1:CJ (len l) (el iS c j)
    ·by_cases m:MJ l (el iS c j)
     ·simp [d1,m] at d
     ·exact ⟨d1,m⟩
    ·simp [d1] at d
 ·rw [gu h0,bT]
  exact ⟨e,rfl,fun h=>absurd h h0⟩
end Go.Proofs.T1
namespace Go.Proofs.T1
open Go Go.Sx
inductive nF (u:List Int):Int→Int→Prop
 | nil {r:Int} (h:el 0 u r=r):nF u r r
 | step {i r:Int} (h:el 0 u i≠i) (g:nF u (el 0 u i) r):nF u i r
inductive Cn (E:Int→Int→Prop):Int→Int→Prop
 | refl (a:Int):Cn E a a
 | link {a b:Int} (h:E a b):Cn E a b
 | symm {a b:Int} (h:Cn E a b):Cn E b a
 | trans {a b c:Int} (h:Cn E a b) (g:Cn E b c):Cn E a c
theorem kU {u:List Int} {i r:Int} (h:nF u i r):∀ {s:Int},nF u i s→r=s:=by
 induction h with
 | nil h =>
  intro s g;cases g with
  | nil _=>rfl
  | step g _=>exact absurd h g
 | step h _ ih =>
  intro s g;cases g with
  | nil g=>exact absurd g h
  | step _ g=>exact ih g
theorem BM {u:List Int} {i r:Int} (h:nF u i r):el 0 u i=i∧r=i∨el 0 u i≠i∧nF u (el 0 u i) r:=by
 cases h with
 | nil h=>exact .inl ⟨h,rfl⟩
 | step h g=>exact .inr ⟨h,g⟩
theorem Ay {u:List Int} {i r:Int} (h:nF u i r):el 0 u r=r:=by
 induction h with
 | nil h=>exact h
 | step _ _ ih=>exact ih
structure UF (n:Int) (E:Int→Int→Prop) (p:Int→Int) (u:List Int):Prop where
 ln:len u=n
 bd:∀ i,0≤i→i<n→0≤el 0 u i∧el 0 u i≤i
 rt:∀ i,0≤i→i<n→nF u i (p i)
 cn:∀ i,0≤i→i<n→Cn E i (el 0 u i)
section
variable {n:Int} {E:Int→Int→Prop} {p:Int→Int} {u:List Int}
theorem rL (h:UF n E p u) {i:Int} (i0:0≤i) (i1:i<n):p (el 0 u i)=p i:=by
 have b:=h.bd i i0 i1;have g:=h.rt i i0 i1;have g2:=h.rt (el 0 u i) b.1 (by omega);rcases BM g with ⟨e,_⟩ | ⟨_,g⟩
 ·exact congrArg p e
 ·exact kU g2 g
theorem mf (h:UF n E p u) {i:Int} (i0:0≤i) (i1:i<n):0≤p i∧p i≤i∧el 0 u (p i)=p i∧Cn E i (p i)∧p (p i)=p i:=by
 have key:∀ {i r:Int},nF u i r→0≤i→i<n→0≤r∧r≤i∧Cn E i r:=by
  intro i r hr
  induction hr with
  | nil _=>intro a b; exact ⟨a,Int.le_refl _,Cn.refl _⟩
  | step _ _ ih =>
   intro a b;have c:=h.bd _ a b;obtain ⟨d1,d2,d3⟩:=ih c.1 (by omega);exact ⟨d1,by omega,Cn.trans (h.cn _ a b) d3⟩
 have hr:=h.rt i i0 i1;obtain ⟨a,b,c⟩:=key hr i0 i1;have e:=Ay hr;exact ⟨a,b,e,c,(kU (h.rt (p i) a (by omega)) (nF.nil e))⟩
theorem kO {u:List Int} {x w:Int} (x0:0≤x) (x1:x<len u) {j:Int} (j0:0≤j):el 0 (st u x w) j=if j=x then w else el 0 u j:=AF 0 u w x0 x1 j0
theorem yN (h:UF n E p u) {x w:Int} (x0:0≤x) (x1:x<n) (w0:0≤w) (w1:w≤x) (hw:w=x→el 0 u x=x) (hp:p w=p x) (hc:Cn E x w):UF n E p (st u x w):=by
 have xl:x<len u:=by rw [h.ln]; exact x1
 have ex:el 0 (st u x w) x=w:=by rw [kO x0 xl x0,if_pos rfl]
 have ey:∀ j,0≤j→j≠x→el 0 (st u x w) j=el 0 u j:=fun j j0 c=>by rw [kO x0 xl j0,if_neg c]
 have key:∀ (m:Nat) (i:Int),0≤i→i<n→i.toNat<m→nF (st u x w) i (p i):=by
  intro m
  induction m with
  | zero=>intro i _ _ c; omega
  | succ m ih =>
   intro i i0 i1 hm
   by_cases c:i=x
   ·subst c
    by_cases d:w=i
    ·have e:p i=i:=kU (h.rt i i0 i1) (nF.nil (hw d))
     rw [e];exact nF.nil (by rw [ex]; exact d)
    ·have g:=ih w w0 (by omega) (by omega)
     rw [hp] at g;exact nF.step (by rw [ex]; exact d) (by rw [ex]; exact g)
   ·have b:=h.bd i i0 i1
    by_cases d:el 0 u i=i
    ·have e:p i=i:=kU (h.rt i i0 i1) (nF.nil d)
     rw [e];exact nF.nil (by rw [ey i i0 c]; exact d)
    ·have g:=ih (el 0 u i) b.1 (by omega) (by omega)
     rw [rL h i0 i1] at g;exact nF.step (by rw [ey i i0 c]; exact d) (by rw [ey i i0 c]; exact g)
 refine ⟨by rw [pa]; exact h.ln,fun i i0 i1=>?_,fun i i0 i1=>key (i.toNat+1) i i0 i1 (by omega),fun i i0 i1=>?_⟩
 ·by_cases c:i=x
  ·rw [c,ex]; exact ⟨w0,w1⟩
  ·rw [ey i i0 c]; exact h.bd i i0 i1
 ·by_cases c:i=x
  ·rw [c,ex]; exact hc
  ·rw [ey i i0 c]; exact h.cn i i0 i1
theorem Bq (h:UF n E p u) {x:Int} (x0:0≤x) (x1:x<n) (hx:el 0 u x≠x):UF n E p (st u x (el 0 u (el 0 u x)))∧(0≤el 0 u (el 0 u x)∧el 0 u (el 0 u x)<x)∧p (el 0 u (el 0 u x))=p x:=by
 have b:=h.bd x x0 x1;have c:=h.bd (el 0 u x) b.1 (by omega);have e:p (el 0 u (el 0 u x))=p x:=by rw [rL h b.1 (by omega),rL h x0 x1]
 exact ⟨yN h x0 x1 c.1 (by omega) (fun d=>by omega) e (Cn.trans (h.cn x x0 x1) (h.cn _ b.1 (by omega))),⟨c.1,by omega⟩,e⟩
theorem B3 (h:UF n E p u) {x:Int} (x0:0≤x) (x1:x<n):UF n E p (st u x (p x)):=by
 obtain ⟨a,b,c,d,e⟩:=mf h x0 x1;exact yN h x0 x1 a b (fun g=>by rw [g] at c; exact c) e d
theorem BC (h:UF n E p u) {r s:Int} (r0:0≤r) (r1:r<n) (s0:0≤s) (s1:s<n) (hr:el 0 u r=r) (hs:el 0 u s=s) (hc:Cn E r s):UF n E (fun i=>if p i=imax r s then fH r s else p i) (st u (imax r s) (fH r s)):=by
 obtain ⟨M,hM⟩:∃ M,M=imax r s:=⟨_,rfl⟩;obtain ⟨m,hm⟩:∃ m,m=fH r s:=⟨_,rfl⟩;rw [← hM,← hm];have cases_:(M=r∧m=s)∨(M=s∧m=r):=by
  unfold imax at hM;unfold fH at hm;split at hM <;> split at hm <;> omega
 have M0:0≤M∧M<n∧el 0 u M=M∧0≤m∧m≤M∧el 0 u m=m∧Cn E M m:=by
  have hle:m≤M:=by
   unfold imax at hM;unfold fH at hm;split at hM <;> split at hm <;> omega
  rcases cases_ with ⟨a,b⟩ | ⟨a,b⟩
  ·exact ⟨by omega,by omega,by rw [a]; exact hr,by omega,hle,by rw [b]; exact hs,by rw [a,b]; exact hc⟩
  ·exact ⟨by omega,by omega,by rw [a]; exact hs,by omega,hle,by rw [b]; exact hr,by rw [a,b]; exact Cn.symm hc⟩
 obtain ⟨x0,x1,eM,m0,mM,em,cM⟩:=M0;have xl:M<len u:=by rw [h.ln]; exact x1
 have ex:el 0 (st u M m) M=m:=by rw [kO x0 xl x0,if_pos rfl]
 have ey:∀ j,0≤j→j≠M→el 0 (st u M m) j=el 0 u j:=fun j j0 c=>by rw [kO x0 xl j0,if_neg c]
 have key:∀ {i t:Int},nF u i t→0≤i→i<n→nF (st u M m) i (if t=M then m else t):=by
  intro i t ht
  induction ht with
  | nil e =>
   rename_i t;intro a b
   by_cases c:t=M
   ·rw [if_pos c,c]
    by_cases d:m=M
    ·rw [d]; rw [d] at ex; exact nF.nil ex
    ·exact nF.step (by rw [ex]; exact d) (by rw [ex]; exact nF.nil (by rw [ey m m0 d]; exact em))
   ·rw [if_neg c]
    exact nF.nil (by rw [ey t a c]; exact e)
  | step e _ ih =>
   rename_i i t _;intro a b;have c:i≠M:=fun c=>e (by rw [c]; exact eM);have d:=h.bd i a b;exact nF.step (by rw [ey i a c]; exact e) (by rw [ey i a c]; exact ih d.1 (by omega))
 refine ⟨by rw [pa]; exact h.ln,fun i i0 i1=>?_,fun i i0 i1=>key (h.rt i i0 i1) i0 i1,fun i i0 i1=>?_⟩
 ·by_cases c:i=M
  ·rw [c,ex]; exact ⟨m0,mM⟩
  ·rw [ey i i0 c]; exact h.bd i i0 i1
 ·by_cases c:i=M
  ·rw [c,ex]; exact cM
  ·rw [ey i i0 c]; exact h.cn i i0 i1
theorem zu {k:Nat} {Pd:List Int→Prop} (hP:∀ u x,UF n E p u→Pd u→0≤x→x<n→el 0 u x≠x→Pd (st u x (el 0 u (el 0 u x)))) :
  ∀ (f:Nat) (i:Int) (u:List Int),UF n E p u→Pd u→0≤i→i<n→i<(f:Int)→∃ u',aA.c1 k f i u=some (p i,u')∧UF n E p u'∧Pd u':=by
 intro f
 induction f with
 | zero=>intro i u _ _ a _ b; omega
 | succ f ih =>
  intro i u h hu i0 i1 hf;have b:=h.bd i i0 i1;rw [aA.c1,rP (bZ i0 (by rw [h.ln]; exact i1))]
  by_cases c:el 0 u i=i
  ·have e:p i=i:=kU (h.rt i i0 i1) (nF.nil c)
   rw [dE c,bF,e];exact ⟨u,rfl,h,hu⟩
  ·obtain ⟨g,w,e⟩:=Bq h i0 i1 c
   have e1:el 0 (st u i (el 0 u (el 0 u i))) i=el 0 u (el 0 u i):=DY 0 u i0 (by rw [h.ln]; exact i1) _;rw [gu c,bT,rP (bZ b.1 (by rw [h.ln]; omega)),rP (bZ i0 (by rw [pa,h.ln]; exact i1)),e1];obtain ⟨u',e2,g2,g3⟩:=ih (el 0 u (el 0 u i)) _ g (hP u i h hu i0 i1 c) w.1 (by omega) (by omega);rw [e] at e2;exact ⟨u',e2,g2,g3⟩
theorem pG {k:Nat} {Pd:List Int→Prop} (hP:∀ u x,UF n E p u→Pd u→0≤x→x<n→el 0 u x≠x→Pd (st u x (el 0 u (el 0 u x)))) {i:Int} (h:UF n E p u) (hu:Pd u) (i0:0≤i) (i1:i<n) (hk:i<(k:Int)):∃ u',aA k i u=some (u',p i)∧UF n E p u'∧Pd u':=by
 obtain ⟨u',e,g,g2⟩:=zu (k:=k) hP k i u h hu i0 i1 hk;refine ⟨u',?_,g,g2⟩;unfold aA;rw [e,bS]
end
abbrev qj (l:List ct) (i:Int):Int:=(el au l i).2.2.2.2.1
theorem AO {k:Nat} {n:Int} {E:Int→Int→Prop} {p:Int→Int} {u:List Int} {l:List ct} (hl:len l=n) (hn:n<(k:Int)) {a b:Int} (a0:0≤a) (a1:a<n) (b0:0≤b) (b1:b<n) (hE:qj l a≠0→qj l b≠0→Cn E a b) (h:UF n E p u) :
  ∃ p' u',aZ k a b l u=some u'∧UF n E p' u'∧(∀ i j,p i=p j→p' i=p' j)∧(qj l a≠0→qj l b≠0→p' a=p' b):=by
 have c1:aZ.c1 k a b l=some (decide (qj l a=0∨qj l b=0)):=by
  unfold aZ.c1;rw [rP (bZ a0 (by omega))]
  by_cases c:qj l a=0
  ·rw [fh c,bT,decide_eq_true (.inl c)]
  ·rw [eL c,bF,rP (bZ b0 (by omega))]
   unfold gI;congr 1;exact decide_eq_decide.2 ⟨fun g=>.inr g,fun g=>g.resolve_left c⟩
 unfold aZ;rw [c1,bS]
 by_cases c:qj l a=0∨qj l b=0
 ·rw [decide_eq_true c,bT]
  exact ⟨p,u,rfl,h,fun _ _ g=>g,fun g1 g2=>by rcases c with c | c; exact absurd c g1; exact absurd c g2⟩
 ·rw [decide_eq_false c,bF]
  have ca:qj l a≠0:=fun g=>c (.inl g);have cb:qj l b≠0:=fun g=>c (.inr g);obtain ⟨u1,e1,h1,_⟩:=pG (k:=k) (Pd:=fun _=>True) (fun _ _ _ _ _ _ _=>trivial) h trivial a0 a1 (by omega)
  obtain ⟨u2,e2,h2,q2⟩:=pG (k:=k) (Pd:=fun v=>el 0 v (p a)=p a) (fun v x hv hq x0 x1 hx=>by
   have r:=mf hv a0 a1;rw [kO x0 (by rw [hv.ln]; exact x1) r.1]
   by_cases d:p a=x
   ·rw [d] at hq; exact absurd hq hx
   ·rw [if_neg d]; exact hq) h1 (mf h1 a0 a1).2.2.1 b0 b1 (by omega)
  have ra:=mf h2 a0 a1;have rb:=mf h2 b0 b1;have mx:0≤imax (p a) (p b)∧imax (p a) (p b)<n:=by unfold imax; split <;> omega
  rw [e1,bS,e2,bS,rP (bZ mx.1 (by rw [h2.ln]; exact mx.2))];have hcn:Cn E (p a) (p b):=Cn.trans (Cn.symm ra.2.2.2.1) (Cn.trans (hE ca cb) rb.2.2.2.1);refine ⟨_,_,rfl,BC h2 ra.1 (by omega) rb.1 (by omega) ra.2.2.1 rb.2.2.1 hcn,fun i j g=>?_,fun _ _=>?_⟩
  ·dsimp only
   rw [g]
  ·dsimp only
   have hmm:(imax (p a) (p b)=p a∧fH (p a) (p b)=p b)∨(imax (p a) (p b)=p b∧fH (p a) (p b)=p a):=by
    unfold imax fH;split <;> split <;> omega
   rcases hmm with ⟨d1,d2⟩ | ⟨d1,d2⟩
   ·rw [d1,d2,if_pos rfl]
    split <;> rfl
   ·rw [d1,d2,if_pos rfl]
    split <;> omega
theorem pF {k:Nat} {n:Int} {E:Int→Int→Prop} {l:List ct} (hl:len l=n) (hn:n<(k:Int)) (N:Int) (A B:Int→Int) (F:Nat→Int→List Int→Option (List Int))
  (hr:∀ v,0≤v→v<N→0≤A v∧A v<n∧0≤B v∧B v<n∧(qj l (A v)≠0→qj l (B v)≠0→Cn E (A v) (B v)))
  (hstep:∀ f v u,0≤v→v<N→F (f+1) v u=bO (aZ k (A v) (B v) l u) fun y=>F f (v+1) y)
  (hend:∀ f v u,0≤v→N≤v→F (f+1) v u=some u) :
  ∀ (f:Nat) (v:Int) (u:List Int) (p:Int→Int),0≤v→v≤N→N - v<(f:Int)→UF n E p u →
   ∃ p' u',F f v u=some u'∧UF n E p' u'∧(∀ i j,p i=p j→p' i=p' j)∧∀ w,v≤w→w<N→qj l (A w)≠0→qj l (B w)≠0→p' (A w)=p' (B w):=by
 intro f
 induction f with
 | zero=>intro v u p a b c; omega
 | succ f ih =>
  intro v u p v0 v1 hf h
  by_cases c:v<N
  ·obtain ⟨x0,x1,x2,x3,x4⟩:=hr v v0 c
   obtain ⟨p1,u1,e1,h1,k1,k2⟩:=AO (k:=k) hl hn x0 x1 x2 x3 x4 h;obtain ⟨p2,u2,e2,h2,k3,k4⟩:=ih (v+1) u1 p1 (by omega) (by omega) (by omega) h1;refine ⟨p2,u2,by rw [hstep f v u v0 c,e1,bS,e2],h2,fun i j g=>k3 i j (k1 i j g),fun w w0 w1=>?_⟩
   by_cases d:w=v
   ·rw [d]; exact fun g1 g2=>k3 _ _ (k2 g1 g2)
   ·exact k4 w (by omega) w1
  ·exact ⟨p,u,hend f v u v0 (by omega),h,fun _ _ g=>g,fun w w0 w1=>by omega⟩
def EV (x:ix):List Int:=[x.1,x.2.1]
def E3 (x:dX):List Int:=[x.1,x.2.1]
def EL (J:List ix) (C:List dX):List (List Int):=J.map EV++C.map E3
def Cy (l:List ct) (J:List ix) (C:List dX) (a b:Int):Prop:=[a,b]∈EL J C∧qj l a≠0∧qj l b≠0
structure Part (n:Int) (E:Int→Int→Prop) (p:Int→Int):Prop where
 bd:∀ i,0≤i→i<n→0≤p i∧p i≤i∧Cn E i (p i)∧p (p i)=p i
 eq:∀ a b,E a b→p a=p b
theorem vB {k:Nat} (hk:10000≤k) {l:List ct} (hl:len l≤64) {J:List ix} {C:List dX} (lJ:len J≤5000) (lC:len C≤9000)
  (hJ:∀ j,0≤j→j<len J→0≤(el iS J j).1∧(el iS J j).1<len l∧0≤(el iS J j).2.1∧(el iS J j).2.1<len l)
  (hC:∀ j,0≤j→j<len C→0≤(el bf C j).1∧(el bf C j).1<len l∧0≤(el bf C j).2.1∧(el bf C j).2.1<len l) :
  ∃ out p,af k l J C=some out∧len out=len l∧(∀ i,0≤i→i<len l→el 0 out i=p i)∧Part (len l) (Cy l J C) p:=by
 have ll:len l=(l.length:Int):=rfl;have lm:len (jA (0:Int) (len l))=len l:=by
  unfold len jA;rw [List.length_replicate];omega
 obtain ⟨u0,⟨h1,h2⟩,e0⟩:=iz (fun n (z:List Int) i=>af.c1 k l n i z) 0 (len l) (fun z i=>len z=len l∧∀ j,0≤j→j<i→el 0 z j=j)
  (by
   intro n z i i0 i1 ⟨g1,g2⟩;refine ⟨st z i i,⟨by rw [pa]; exact g1,fun j j0 j1=>?_⟩,?_⟩
   ·rw [kO i0 (by omega) j0]
    by_cases c:j=i
    ·rw [if_pos c,c]
    ·rw [if_neg c]; exact g2 j j0 (by omega)
   ·show af.c1 k l (n+1) i z=_
    rw [af.c1,lm,cg i1,bT,rP (bZ i0 (by omega)),bJ (by omega) (by omega)])
  (by
   intro n z i i0 i1;show af.c1 k l (n+1) i z=some z
   rw [af.c1,lm,cp i1,bF])
  k (jA (0:Int) (len l)) 0 (by omega) (by omega) (by omega) ⟨lm,fun j a b=>by omega⟩
 have e0:af.c1 k l k 0 (jA (0:Int) (len l))=some u0:=e0;have U0:UF (len l) (Cy l J C) (fun i=>i) u0:=⟨h1,fun i a b=>by rw [h2 i a b]; omega,fun i a b=>nF.nil (h2 i a b),fun i a b=>by rw [h2 i a b]; exact Cn.refl _⟩;have mJ:∀ v,0≤v→v<len J→[(el iS J v).1,(el iS J v).2.1]∈EL J C:=fun v v0 v1=>List.mem_append.2 (.inl (List.mem_map.2 ⟨_,mE iS J v0 v1,rfl⟩));have mC:∀ v,0≤v→v<len C→[(el bf C v).1,(el bf C v).2.1]∈EL J C:=fun v v0 v1=>List.mem_append.2 (.inr (List.mem_map.2 ⟨_,mE bf C v0 v1,rfl⟩));obtain ⟨p1,u1,e1,U1,_,q1⟩:=pF (k:=k) (E:=Cy l J C) (l:=l) rfl (by omega) (len J) (fun v=>(el iS J v).1) (fun v=>(el iS J v).2.1) (fun f v u=>af.c2 k l J f v u)
  (fun v v0 v1=>by
   obtain ⟨a,b,c,d⟩:=hJ v v0 v1
   exact ⟨a,b,c,d,fun g1 g2=>Cn.link ⟨mJ v v0 v1,g1,g2⟩⟩)
  (fun f v u v0 v1=>by
   show af.c2 k l J (f+1) v u=_
   rw [af.c2,cg v1,bT,rP (bZ v0 v1),bJ (by omega) (by omega)])
  (fun f v u v0 v1=>by
   show af.c2 k l J (f+1) v u=_
   rw [af.c2,cp v1,bF])
  k 0 u0 (fun i=>i) (by omega) (by unfold len; omega) (by omega) U0
 have e1:af.c2 k l J k 0 u0=some u1:=e1;obtain ⟨p2,u2,e2,U2,r2,q2⟩:=pF (k:=k) (E:=Cy l J C) (l:=l) rfl (by omega) (len C) (fun v=>(el bf C v).1) (fun v=>(el bf C v).2.1) (fun f v u=>af.c3 k l C f v u)
  (fun v v0 v1=>by
   obtain ⟨a,b,c,d⟩:=hC v v0 v1
   exact ⟨a,b,c,d,fun g1 g2=>Cn.link ⟨mC v v0 v1,g1,g2⟩⟩)
  (fun f v u v0 v1=>by
   show af.c3 k l C (f+1) v u=_
   rw [af.c3,cg v1,bT,rP (bZ v0 v1),bJ (by omega) (by omega)])
  (fun f v u v0 v1=>by
   show af.c3 k l C (f+1) v u=_
   rw [af.c3,cp v1,bF])
  k 0 u1 p1 (by omega) (by unfold len; omega) (by omega) U1
 have e2:af.c3 k l C k 0 u1=some u2:=e2;have key:∀ (f:Nat) (v:Int) (u:List Int),0≤v→v≤len l→len l - v<(f:Int)→UF (len l) (Cy l J C) p2 u→(∀ j,0≤j→j<v→el 0 u j=p2 j)→∃ out,af.c4 k u2 f v u=some out∧len out=len l∧∀ i,0≤i→i<len l→el 0 out i=p2 i:=by
  intro f
  induction f with
  | zero=>intro v u a b c; omega
  | succ f ih =>
   intro v u v0 v1 hf hU hq;rw [af.c4,U2.ln]
   by_cases c:v<len l
   ·obtain ⟨u',e3,g1,g2⟩:=pG (k:=k) (Pd:=fun u=>∀ j,0≤j→j<v→el 0 u j=p2 j) (fun u x hu hq x0 x1 hx j j0 j1=>by
     rw [kO x0 (by rw [hu.ln]; exact x1) j0]
     by_cases d:j=x
     ·have r:=mf hu x0 x1
      rw [if_pos d,hq x x0 (by omega),r.2.2.1,d]
     ·rw [if_neg d]; exact hq j j0 j1) hU hq v0 c (by omega)
    have e5:af.c5 k v u=some (st u' v (p2 v)):=by
     unfold af.c5;rw [e3,bS,rP (bZ v0 (by rw [g1.ln]; exact c))]
    rw [cg c,bT,e5,bS,bJ (by omega) (by omega)];refine ih (v+1) _ (by omega) (by omega) (by omega) (B3 g1 v0 c) fun j j0 j1=>?_
    rw [kO v0 (by rw [g1.ln]; exact c) j0]
    by_cases d:j=v
    ·rw [if_pos d,d]
    ·rw [if_neg d]; exact g2 j j0 (by omega)
   ·rw [cp (by omega),bF]
    exact ⟨u,rfl,hU.ln,fun i i0 i1=>hq i i0 (by omega)⟩
 obtain ⟨out,e4,g1,g2⟩:=key k 0 u2 (by omega) (by omega) (by omega) U2 (fun j a b=>by omega);refine ⟨out,p2,?_,g1,g2,⟨fun i i0 i1=>?_,fun a b hab=>?_⟩⟩
 ·unfold af
  rw [rP (show nO 8 (len l) (len l) from ⟨rfl,by omega,by omega,by omega⟩),e0,bS,e1,bS,e2,bS,e4,bS]
 ·obtain ⟨a,b,_,d,e⟩:=mf U2 i0 i1
  exact ⟨a,b,d,e⟩
 ·obtain ⟨hm,ha,hb⟩:=hab
  rcases List.mem_append.1 hm with hm | hm
  ·obtain ⟨x,hx,ex⟩:=List.mem_map.1 hm
   unfold EV at ex;simp only [List.cons.injEq,and_true] at ex;obtain ⟨rfl,rfl⟩:=ex;obtain ⟨i,hi,rfl⟩:=List.mem_iff_getElem.1 hx;have g:=q1 (i:Int) (by omega) (by unfold len; omega);rw [l5 iS J hi] at g;exact r2 _ _ (g ha hb)
  ·obtain ⟨x,hx,ex⟩:=List.mem_map.1 hm
   unfold E3 at ex;simp only [List.cons.injEq,and_true] at ex;obtain ⟨rfl,rfl⟩:=ex;obtain ⟨i,hi,rfl⟩:=List.mem_iff_getElem.1 hx;have g:=q2 (i:Int) (by omega) (by unfold len; omega);rw [l5 bf C hi] at g;exact g ha hb
end Go.Proofs.T1
