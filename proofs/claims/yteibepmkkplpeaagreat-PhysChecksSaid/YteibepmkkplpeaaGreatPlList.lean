import Derived.Test.YteibepmkkplpeaaGreatPlBody
import Derived.Test.YteibepmkkplpeaaGreatG9
import Derived.Test.YteibepmkkplpeaaGreatG12
namespace Go.Proofs.T1
open Go Go.Sx
section
variable {p v:bm} {ang spin mass inertia bounce rub:Int} {l:List bm} {asleep:Bool} {calm:Int}
theorem rm {k:Nat} (hk:9≤k) (hc:ah k (p,v,ang,spin,mass,inertia,bounce,rub,l,asleep,calm,())=some 0) :
  vI l 0∧(xF l∧qe l∧vl l)∧R1 p v ang spin∧R2 mass inertia bounce rub calm∧R3 v spin mass inertia asleep calm:=by
 obtain ⟨e,e1,h1⟩:=kK hk (p:=p) (v:=v) (ang:=ang) (spin:=spin) (mass:=mass) (inertia:=inertia) (bounce:=bounce) (rub:=rub) (l:=l) (asleep:=asleep) (calm:=calm);rw [hc] at e1;cases e1;rcases h1 with ⟨_,h⟩ | ⟨_,_,h⟩ | ⟨_,_,_,_,h⟩ | ⟨h,g,g2,g3,_⟩
 ·exact absurd rfl h
 ·cases h
 ·cases h
 ·refine ⟨h,?_,g,g2,g3⟩
  rcases h with ⟨_,h⟩ | ⟨_,_,h⟩ | ⟨_,_,_,h⟩ | ⟨a,b,c,_,_⟩
  ·exact absurd rfl h
  ·cases h
  ·cases h
  ·exact ⟨a,b,c⟩
end
end Go.Proofs.T1
namespace Go.Proofs.T1
open Go Go.Sx
abbrev AW (k:Nat) (b:bK):Prop:=ah k b=some 0
def w4 (k:Nat) (l:List bK):Prop:=∀ i,0≤i→i<len l→AW k (el al l i)
theorem we {α:Type} (z:α) (l:List α) {i j:Int} (y:α) (i0:0≤i) (i1:i<len l) (j0:0≤j):el z (st l i y) j=if j=i then y else el z l j:=by
 obtain ⟨i,rfl⟩:=Int.eq_ofNat_of_zero_le i0;obtain ⟨j,rfl⟩:=Int.eq_ofNat_of_zero_le j0;have hi:i<l.length:=by unfold len at i1; omega
 show (l.set i y).getD j z=if (j:Int)=(i:Int) then y else l.getD j z
 rw [List.getD_eq_getElem?_getD,List.getD_eq_getElem?_getD,List.getElem?_set]
 by_cases c:j=i
 ·subst c
  rw [if_pos rfl,if_pos hi,if_pos rfl];rfl
 ·rw [if_neg (fun h=>c h.symm),if_neg (by omega)]
theorem je {α:Type} (l:List α) (i:Int) (y:α):len (st l i y)=len l:=by
 unfold len st;rw [List.length_set]
theorem jC {k:Nat} (hk:9≤k) (b:bK):∃ e,ah k b=some e∧ak k b=some e:=by
 obtain ⟨p,v,ang,spin,mass,inertia,bounce,rub,l,asleep,calm,_⟩:=b;obtain ⟨e,e1,h1⟩:=kK hk (p:=p) (v:=v) (ang:=ang) (spin:=spin) (mass:=mass) (inertia:=inertia) (bounce:=bounce) (rub:=rub) (l:=l) (asleep:=asleep) (calm:=calm);obtain ⟨e',e2,h2⟩:=uM hk (p:=p) (v:=v) (ang:=ang) (spin:=spin) (mass:=mass) (inertia:=inertia) (bounce:=bounce) (rub:=rub) (l:=l) (asleep:=asleep) (calm:=calm);have ee:=yr h1 h2;subst ee;exact ⟨e,e1,e2⟩
section
variable {p v:bm} {ang spin mass inertia bounce rub:Int} {l:List bm} {asleep:Bool} {calm:Int}
end
theorem nT {α:Type} (F:Nat→Int→Option (α ⊕ Unit)) (N:Int) (g:Int→Option α)
  (hstep:∀ n v,0≤v→v<N→F (n+1) v=match g v with | some y=>some (.inl y) | none=>F n (v+1))
  (hend:∀ n v,0≤v→N≤v→F (n+1) v=some (.inr ())) :
  ∀ (n:Nat) (v:Int),0≤v→v≤N→N - v<(n:Int)→(∃ j y,v≤j∧j<N∧g j=some y∧F n v=some (.inl y))∨((∀ j,v≤j→j<N→g j=none)∧F n v=some (.inr ())):=by
 intro n
 induction n with
 | zero=>intro v h1 h2 h3; omega
 | succ n ih =>
  intro v h1 h2 h3
  by_cases hv:v<N
  ·have hs:=hstep n v h1 hv
   cases hg:g v with
   | some y =>
    rw [hg] at hs;exact Or.inl ⟨v,y,by omega,hv,hg,hs⟩
   | none =>
    rw [hg] at hs;have hs:F (n+1) v=F n (v+1):=hs;rw [hs];rcases ih (v+1) (by omega) (by omega) (by omega) with ⟨j,y,a,b,c,d⟩ | ⟨a,b⟩
    ·exact Or.inl ⟨j,y,by omega,b,c,d⟩
    ·refine Or.inr ⟨fun j j0 j1=>?_,b⟩
     by_cases e:j=v
     ·rw [e]; exact hg
     ·exact a j (by omega) j1
  ·exact Or.inr ⟨fun j a b=>by omega,hend n v h1 (by omega)⟩
theorem wT {k:Nat} (hk:9≤k) (hk':100<k) (l:List bK):∃ e,bB k l=some e∧cp k l=some e∧(e=0→w4 k l∧len l≤64):=by
 unfold bB cp
 by_cases h:64<len l
 ·rw [hG h,bT,bT]
  exact ⟨2,rfl,rfl,fun h=>absurd h (by decide)⟩
 ·rw [gZ (by omega),bF,bF]
  have same:∀ n v,0≤v→bB.c1 k l n v=cp.c1 k l n v:=by
   intro n
   induction n with
   | zero=>intro v _; rfl
   | succ n ih =>
    intro v v0;rw [bB.c1,cp.c1]
    by_cases c:v<len l
    ·obtain ⟨e,e1,e2⟩:=jC hk (el al l v)
     rw [cI c,bT,bT,e1,e2,cA (by omega) (by omega),ih (v+1) (by omega)]
    ·rw [db (by omega),bF,bF]
  rw [← same k 0 (by omega)];rcases nT (fun n v=>bB.c1 k l n v) (len l) (fun v=>match ah k (el al l v) with | some e=>if e=0 then none else some e | none=>none)
   (by
    intro n v a b;show bB.c1 k l (n+1) v=_;obtain ⟨e,e1,e2⟩:=jC hk (el al l v);rw [bB.c1,cI b,bT,rP (cF a b),e1,bS,cA (by omega) (by omega)]
    by_cases c:e=0
    ·rw [eu c,bF]
     simp [c]
    ·rw [fw c,bT]
     simp [c])
   (by
    intro n v a b;show bB.c1 k l (n+1) v=_
    rw [bB.c1,db b,bF]) k 0 (by omega) (by unfold len; omega) (by omega) with ⟨j,y,a,b,c,d⟩ | ⟨a,b⟩
  ·have d:bB.c1 k l k 0=some (.inl y):=d
   rw [d,bS,fz];refine ⟨y,rfl,rfl,fun h=>?_⟩;obtain ⟨e,e1,e2⟩:=jC hk (el al l j);rw [e1] at c;have c:(if e=0 then none else some e)=some y:=c
   by_cases z:e=0
   ·rw [if_pos z] at c; cases c
   ·rw [if_neg z] at c; cases c; exact absurd h z
  ·have b:bB.c1 k l k 0=some (.inr ()):=b
   rw [b,bS,fQ];refine ⟨0,rfl,rfl,fun _=>⟨fun j j0 j1=>?_,by omega⟩⟩;obtain ⟨e,e1,e2⟩:=jC hk (el al l j);have c:=a j j0 j1;rw [e1] at c;have c:(if e=0 then none else some e)=none:=c
   by_cases z:e=0
   ·show ah k _=_
    rw [e1,z]
   ·rw [if_neg z] at c; cases c
end Go.Proofs.T1
namespace Go.Proofs.T1
open Go Go.Sx
def P1 (nb:Int) (x:dA):Prop:=0≤x.1∧x.1<x.2.1∧x.2.1<nb∧0≤x.2.2.1
def P2 (x:dA):Prop:=Bd x.2.2.2.1 65536000∧Bd x.2.2.2.2.1 65536
def P3 (x:dA):Prop:=(0≤x.2.2.2.2.2.1∧x.2.2.2.2.2.1≤65536000)∧(0≤x.2.2.2.2.2.2.1∧x.2.2.2.2.2.2.1≤1099511627776)∧(-1099511627776≤x.2.2.2.2.2.2.2.1∧x.2.2.2.2.2.2.2.1≤1099511627776)
instance (nb:Int) (x:dA):Decidable (P1 nb x):=by unfold P1; infer_instance
instance (x:dA):Decidable (P2 x):=by unfold P2; infer_instance
instance (x:dA):Decidable (P3 x):=by unfold P3; infer_instance
theorem lW (k:Nat) (n a b:Int):cT k n a b=some (decide (a≤n∧n≤b)):=by
 unfold cT
 by_cases h:n ≥ a
 ·rw [ij h,bT]
  unfold jf;congr 1;rw [decide_eq_decide];exact ⟨fun x=>⟨h,x⟩,fun x=>x.2⟩
 ·rw [gL (by omega),bF,decide_eq_false (fun x=>h x.1)]
theorem ua (k:Nat) (n a b:Int):cQ k n a b=some (decide (a≤n∧n≤b)):=lW k n a b
theorem Ah (k:Nat) {l:List bK} (hl:len l≤64) (c:List dA) (v:Int):ag.c2 k l c v=some (!decide (P1 (len l) (el aZ c v))):=by
 have h0:(0:Int)≤len l:=by unfold len; omega
 unfold ag.c2;generalize el aZ c v=x;rw [fp (by omega) (by omega),lW,bS,lW]
 by_cases a:0≤x.1∧x.1≤len l - 1
 ·rw [decide_eq_true a,bT,bS]
  by_cases b:0≤x.2.1∧x.2.1≤len l - 1
  ·rw [decide_eq_true b,bT]
   by_cases d:x.1 ≥ x.2.1
   ·rw [ij d,bT,decide_eq_false (by unfold P1; omega)]; rfl
   ·rw [gL (by omega),bF]
    unfold eC
    by_cases e:x.2.2.1<0
    ·rw [decide_eq_true e,decide_eq_false (by unfold P1; omega)]; rfl
    ·rw [decide_eq_false e,decide_eq_true (by unfold P1; omega)]; rfl
  ·rw [decide_eq_false b,bF,decide_eq_false (by unfold P1; omega)]; rfl
 ·rw [decide_eq_false a,bF,decide_eq_false (by unfold P1; omega)]; rfl
theorem Ag (k:Nat) (c:List dA) (v:Int):ag.c3 k c v=some (!decide (P2 (el aZ c v))):=by
 unfold ag.c3;generalize el aZ c v=x;simp only [lW,bS]
 by_cases a:-65536000≤x.2.2.2.1.1∧x.2.2.2.1.1≤65536000
 ·rw [decide_eq_true a,bT]
  by_cases b:-65536000≤x.2.2.2.1.2.1∧x.2.2.2.1.2.1≤65536000
  ·rw [decide_eq_true b,bT]
   by_cases d:-65536≤x.2.2.2.2.1.1∧x.2.2.2.2.1.1≤65536
   ·rw [decide_eq_true d,bT]
    congr 2;rw [decide_eq_decide];exact ⟨fun e=>⟨⟨a.1,a.2,b.1,b.2⟩,d.1,d.2,e.1,e.2⟩,fun e=>e.2.2.2⟩
   ·rw [decide_eq_false d,bF,decide_eq_false (fun e=>d ⟨e.2.1,e.2.2.1⟩)]; rfl
  ·rw [decide_eq_false b,bF,decide_eq_false (fun e=>b e.1.2.2)]; rfl
 ·rw [decide_eq_false a,bF,decide_eq_false (fun e=>a ⟨e.1.1,e.1.2.1⟩)]; rfl
theorem zS (k:Nat) (c:List dA) (v:Int):ag.c4 k c v=some (!decide (P3 (el aZ c v))):=by
 unfold ag.c4;generalize el aZ c v=x;simp only [lW,bS]
 by_cases a:0≤x.2.2.2.2.2.1∧x.2.2.2.2.2.1≤65536000
 ·rw [decide_eq_true a,bT]
  by_cases b:0≤x.2.2.2.2.2.2.1∧x.2.2.2.2.2.2.1≤1099511627776
  ·rw [decide_eq_true b,bT]
   congr 2;rw [decide_eq_decide];exact ⟨fun e=>⟨a,b,e⟩,fun e=>e.2.2⟩
  ·rw [decide_eq_false b,bF,decide_eq_false (fun e=>b e.2.1)]; rfl
 ·rw [decide_eq_false a,bF,decide_eq_false (fun e=>a e.1)]; rfl
theorem As (k:Nat) (l:List bK) (c:List dA) (v:Int):aq.c2 k l c v=some (decide (P1 (len l) (el aZ c v))):=by
 unfold aq.c2;generalize el aZ c v=x
 by_cases a:x.1 ≥ 0
 ·rw [ij a,bT]
  by_cases b:x.1<x.2.1
  ·rw [cI b,bT]
   by_cases d:x.2.1<len l
   ·rw [cI d,bT]
    unfold iB;congr 1;rw [decide_eq_decide];exact ⟨fun e=>⟨a,b,d,e⟩,fun e=>e.2.2.2⟩
   ·rw [db (by omega),bF,decide_eq_false (fun e=>d e.2.2.1)]
  ·rw [db (by omega),bF,decide_eq_false (fun e=>b e.2.1)]
 ·rw [gL (by omega),bF,decide_eq_false (fun e=>a e.1)]
theorem zY (k:Nat) (c:List dA) (o:Bool) (v:Int):aq.c3 k c o v=some (o && decide (P2 (el aZ c v))):=by
 unfold aq.c3;cases o with
 | false=>rfl
 | true =>
  rw [bT,gR k _ _ (by decide) (by decide),bS,gR k _ _ (by decide) (by decide),Bool.true_and];generalize el aZ c v=x;have e1:(-65536000≤x.2.2.2.1.1∧x.2.2.2.1.1≤65536000∧-65536000≤x.2.2.2.1.2.1∧x.2.2.2.1.2.1≤65536000)=Bd x.2.2.2.1 65536000:=rfl
  by_cases a:Bd x.2.2.2.1 65536000
  ·rw [decide_eq_true (show (-65536000≤x.2.2.2.1.1∧x.2.2.2.1.1≤65536000∧-65536000≤x.2.2.2.1.2.1∧x.2.2.2.1.2.1≤65536000) from a),bT,bS]
   congr 1;rw [decide_eq_decide];exact ⟨fun e=>⟨a,e⟩,fun e=>e.2⟩
  ·rw [decide_eq_false (show ¬ (-65536000≤x.2.2.2.1.1∧x.2.2.2.1.1≤65536000∧-65536000≤x.2.2.2.1.2.1∧x.2.2.2.1.2.1≤65536000) from a),bF,decide_eq_false (fun e=>a e.1)]
theorem Ak (k:Nat) (c:List dA) (o:Bool) (v:Int):aq.c4 k c o v=some (o && decide (P3 (el aZ c v))):=by
 unfold aq.c4;cases o with
 | false=>rfl
 | true =>
  rw [bT,Bool.true_and];simp only [ua,bS];generalize el aZ c v=x
  by_cases a:0≤x.2.2.2.2.2.1∧x.2.2.2.2.2.1≤65536000
  ·rw [decide_eq_true a,bT]
   by_cases b:0≤x.2.2.2.2.2.2.1∧x.2.2.2.2.2.2.1≤1099511627776
   ·rw [decide_eq_true b,bT]
    congr 1;rw [decide_eq_decide];exact ⟨fun e=>⟨a,b,e⟩,fun e=>e.2.2⟩
   ·rw [decide_eq_false b,bF,decide_eq_false (fun e=>b e.2.1)]
  ·rw [decide_eq_false a,bF,decide_eq_false (fun e=>a e.1)]
def yE (nb:Int) (x:dA):Prop:=P1 nb x∧P2 x∧P3 x
instance (nb:Int) (x:dA):Decidable (yE nb x):=by unfold yE; infer_instance
theorem zs {k:Nat} (hk:9≤k) (hk':5000<k) (l:List bK) (c:List dA):∃ e,ag k l c=some e∧aq k l c=some e ∧
  (e=0→(w4 k l∧len l≤64)∧len c≤4096∧∀ j,0≤j→j<len c→yE (len l) (el aZ c j)):=by
 obtain ⟨e,e1,e2,e3⟩:=wT hk (by omega) l;unfold ag aq;rw [e1,e2,bS,bS]
 by_cases h0:e=0
 ·obtain ⟨hA,hl⟩:=e3 h0
  rw [eu h0,bF,bF]
  by_cases hc:4096<len c
  ·rw [hG hc,bT,bT]
   exact ⟨2,rfl,rfl,fun h=>absurd h (by decide)⟩
  ·rw [gZ (by omega),bF,bF]
   have sp:∀ n v,0≤v→v<len c→ag.c1 k l c (n+1) v=if yE (len l) (el aZ c v) then ag.c1 k l c n (v+1) else some (.inl ()):=by
    intro n v v0 v1;rw [ag.c1,cI v1,bT,rP (cF v0 v1),Ah k hl,Ag,zS,bS]
    by_cases a:P1 (len l) (el aZ c v)
    ·rw [decide_eq_true a,Bool.not_true,bF,bS]
     by_cases b:P2 (el aZ c v)
     ·rw [decide_eq_true b,Bool.not_true,bF,bS]
      by_cases d:P3 (el aZ c v)
      ·rw [decide_eq_true d,Bool.not_true,bF,if_pos ⟨a,b,d⟩,cA (by omega) (by omega)]
      ·rw [decide_eq_false d,Bool.not_false,bT,if_neg (fun h=>d h.2.2)]
     ·rw [decide_eq_false b,Bool.not_false,bT,if_neg (fun h=>b h.2.1)]
    ·rw [decide_eq_false a,Bool.not_false,bT,if_neg (fun h=>a h.1)]
   have sr:∀ n v,0≤v→v<len c→aq.c1 k l c (n+1) v=if yE (len l) (el aZ c v) then aq.c1 k l c n (v+1) else some (.inl ()):=by
    intro n v v0 v1;rw [aq.c1,cI v1,bT,rP (cF v0 v1),As,bS,zY,bS,Ak,bS]
    by_cases a:P1 (len l) (el aZ c v)
    ·by_cases b:P2 (el aZ c v)
     ·by_cases d:P3 (el aZ c v)
      ·rw [decide_eq_true a,decide_eq_true b,decide_eq_true d,if_pos ⟨a,b,d⟩,cA (by omega) (by omega)]
       rfl
      ·rw [decide_eq_false d,Bool.and_false,bF,if_neg (fun h=>d h.2.2)]
     ·rw [decide_eq_false b,Bool.and_false,Bool.false_and,bF,if_neg (fun h=>b h.2.1)]
    ·rw [decide_eq_false a,Bool.false_and,Bool.false_and,bF,if_neg (fun h=>a h.1)]
   have same:∀ n v,0≤v→ag.c1 k l c n v=aq.c1 k l c n v:=by
    intro n
    induction n with
    | zero=>intro v _; rfl
    | succ n ih =>
     intro v v0
     by_cases d:v<len c
     ·rw [sp n v v0 d,sr n v v0 d,ih (v+1) (by omega)]
     ·rw [ag.c1,aq.c1,db (by omega),bF,bF]
   rw [← same k 0 (by omega)];rcases nT (fun n v=>ag.c1 k l c n v) (len c) (fun v=>if yE (len l) (el aZ c v) then none else some ())
    (by
     intro n v a b;show ag.c1 k l c (n+1) v=_;rw [sp n v a b]
     by_cases d:yE (len l) (el aZ c v)
     ·simp [d]
     ·simp [d])
    (by
     intro n v a b;show ag.c1 k l c (n+1) v=_
     rw [ag.c1,db b,bF]) k 0 (by omega) (by unfold len; omega) (by omega) with ⟨j,y,a,b,d,f⟩ | ⟨a,b⟩
   ·have f:ag.c1 k l c k 0=some (.inl y):=f
    rw [f,bS,fz];exact ⟨1,rfl,rfl,fun h=>absurd h (by decide)⟩
   ·have b:ag.c1 k l c k 0=some (.inr ()):=b
    rw [b,bS,fQ];refine ⟨0,rfl,rfl,fun _=>⟨⟨hA,hl⟩,by omega,fun j j0 j1=>?_⟩⟩;have d:=a j j0 j1
    by_cases z:yE (len l) (el aZ c j)
    ·exact z
    ·simp [z] at d
 ·rw [fw h0,bT,bT]
  exact ⟨e,rfl,rfl,fun h=>absurd h h0⟩
end Go.Proofs.T1
namespace Go.Proofs.T1
open Go Go.Sx
theorem qu {k:Nat} (hk:9≤k) (b:bK) (hc:AW k b):0≤b.2.2.2.2.1∧b.2.2.2.2.1≤1099511627776:=by
 obtain ⟨p,v,ang,spin,mass,inertia,bounce,rub,l,asleep,calm,_⟩:=b;exact (rm hk hc).2.2.2.1.1
def CJ (nb:Int) (x:gu):Prop:=0≤x.1∧x.1<x.2.1∧x.2.1<nb∧Bd x.2.2.1 2097152∧Bd x.2.2.2.1 2097152∧0≤x.2.2.2.2.1∧x.2.2.2.2.1≤65536000
instance (nb:Int) (x:gu):Decidable (CJ nb x):=by unfold CJ; infer_instance
def MJ (l:List bK) (x:gu):Prop:=(el al l x.1).2.2.2.2.1=0∧(el al l x.2.1).2.2.2.2.1=0
instance (l:List bK) (x:gu):Decidable (MJ l x):=by unfold MJ; infer_instance
theorem yH (k:Nat) (p:bm):dE k p=some (decide (Bd p 2097152)):=by
 unfold dE;have i1:fl p.1 p.2.1 ≥ -2097152↔-2097152≤p.1∧-2097152≤p.2.1:=by unfold fl; split <;> omega
 have i2:imax p.1 p.2.1≤2097152↔p.1≤2097152∧p.2.1≤2097152:=by unfold imax; split <;> omega
 by_cases a:fl p.1 p.2.1 ≥ -2097152
 ·rw [ij a,bT]
  unfold jf;congr 1;rw [decide_eq_decide];have:=i1.1 a;exact ⟨fun h=>⟨this.1,(i2.1 h).1,this.2,(i2.1 h).2⟩,fun h=>i2.2 ⟨h.2.1,h.2.2.2⟩⟩
 ·rw [gL (by omega),bF,decide_eq_false (fun h=>a (i1.2 ⟨h.1,h.2.2.1⟩))]
theorem AD (k:Nat) (n a b:Int):cQ k n a b=some (decide (a≤n∧n≤b)):=by
 unfold cQ jf
 by_cases h:a≤n
 ·rw [decide_eq_true h,bT]
  congr 1;rw [decide_eq_decide];exact ⟨fun x=>⟨h,x⟩,fun x=>x.2⟩
 ·rw [decide_eq_false h,bF,decide_eq_false (fun x=>h x.1)]
theorem AL (k:Nat) (l:List bK) (c:List gu) (v:Int):aA.c2 k l c v=some (!decide (CJ (len l) (el fY c v))):=by
 unfold aA.c2;generalize el fY c v=x;simp only [yH,bS]
 by_cases a:x.1<0
 ·rw [cI a,bT,decide_eq_false (fun h=>absurd h.1 (by omega))]; rfl
 ·rw [db (by omega),bF]
  by_cases b:x.2.1 ≥ len l
  ·rw [ij b,bT,decide_eq_false (fun h=>absurd h.2.2.1 (by omega))]; rfl
  ·rw [gL (by omega),bF]
   by_cases d:x.1 ≥ x.2.1
   ·rw [ij d,bT,decide_eq_false (fun h=>absurd h.2.1 (by omega))]; rfl
   ·rw [gL (by omega),bF]
    by_cases e:Bd x.2.2.1 2097152
    ·rw [decide_eq_true e,bT]
     by_cases f:Bd x.2.2.2.1 2097152
     ·rw [decide_eq_true f,bT]
      by_cases g:x.2.2.2.2.1<0
      ·rw [cI g,bT,decide_eq_false (fun h=>absurd h.2.2.2.2.2.1 (by omega))]; rfl
      ·rw [db (by omega),bF]
       by_cases z:65536000<x.2.2.2.2.1
       ·rw [hG z,decide_eq_false (fun h=>absurd h.2.2.2.2.2.2 (by omega))]; rfl
       ·rw [gZ (by omega),decide_eq_true (show CJ (len l) x from ⟨by omega,by omega,by omega,e,f,by omega,by omega⟩)]; rfl
     ·rw [decide_eq_false f,bF,decide_eq_false (fun h=>f h.2.2.2.2.1)]; rfl
    ·rw [decide_eq_false e,bF,decide_eq_false (fun h=>e h.2.2.2.1)]; rfl
theorem zW (k:Nat) (l:List bK) (c:List gu) (v:Int):bg.c2 k l c v=some (!decide (CJ (len l) (el fY c v))):=by
 unfold bg.c2;have co:∀ p:bm,dq k p 2097152=some (decide (Bd p 2097152)):=fun p=>gR k p _ (by decide) (by decide);generalize el fY c v=x;simp only [co,AD,bS]
 by_cases a:x.1<0
 ·rw [cI a,bT,decide_eq_false (fun h=>absurd h.1 (by omega))]; rfl
 ·rw [db (by omega),bF]
  by_cases d:x.1 ≥ x.2.1
  ·rw [ij d,bT,decide_eq_false (fun h=>absurd h.2.1 (by omega))]; rfl
  ·rw [gL (by omega),bF]
   by_cases b:x.2.1 ≥ len l
   ·rw [ij b,bT,decide_eq_false (fun h=>absurd h.2.2.1 (by omega))]; rfl
   ·rw [gL (by omega),bF]
    by_cases e:Bd x.2.2.1 2097152
    ·rw [decide_eq_true e,bT]
     by_cases f:Bd x.2.2.2.1 2097152
     ·rw [decide_eq_true f,bT]
      by_cases g:0≤x.2.2.2.2.1∧x.2.2.2.2.1≤65536000
      ·rw [decide_eq_true g,decide_eq_true (show CJ (len l) x from ⟨by omega,by omega,by omega,e,f,by omega,by omega⟩)]
      ·rw [decide_eq_false g,decide_eq_false (fun h=>g ⟨h.2.2.2.2.2.1,h.2.2.2.2.2.2⟩)]
     ·rw [decide_eq_false f,bF,decide_eq_false (fun h=>f h.2.2.2.2.1)]; rfl
    ·rw [decide_eq_false e,bF,decide_eq_false (fun h=>e h.2.2.2.1)]; rfl
theorem vE (k:Nat) {l:List bK} {c:List gu} (hc:len c≤32) (n:Nat) {v:Int} (v0:0≤v) (v1:v<len c) :
  aA.c1 k l c (n+1) v=if CJ (len l) (el fY c v) then (if MJ l (el fY c v) then some (.inl 3) else aA.c1 k l c n (v+1)) else some (.inl 1):=by
 rw [aA.c1,cI v1,bT,rP (cF v0 v1),AL,bS,cA (by omega) (by omega)]
 by_cases a:CJ (len l) (el fY c v)
 ·obtain ⟨A0,AB,B1,_⟩:=id a
  rw [decide_eq_true a,Bool.not_true,bF,if_pos a];unfold aA.c3;rw [rP (cF A0 (by omega)),rP (cF (by omega) B1)]
  by_cases m:(el al l (el fY c v).1).2.2.2.2.1=0
  ·rw [gB m,bT,bS]
   by_cases m2:(el al l (el fY c v).2.1).2.2.2.2.1=0
   ·rw [gB m2,bT,if_pos (show MJ l (el fY c v) from ⟨m,m2⟩)]
   ·rw [gY m2,bF,if_neg (fun h=>m2 h.2)]
  ·rw [gY m,bF,bS,bF,if_neg (fun h=>m h.1)]
 ·rw [decide_eq_false a,Bool.not_false,bT,if_neg a]
theorem yI {k:Nat} (hk:9≤k) {l:List bK} (hA:w4 k l) {c:List gu} (hc:len c≤32) (n:Nat) {v:Int} (v0:0≤v) (v1:v<len c) :
  bg.c1 k l c (n+1) v=if CJ (len l) (el fY c v) then (if MJ l (el fY c v) then some (.inl 3) else bg.c1 k l c n (v+1)) else some (.inl 1):=by
 rw [bg.c1,cI v1,bT,rP (cF v0 v1),zW,bS,cA (x:=v) (by omega) (by omega)]
 by_cases a:CJ (len l) (el fY c v)
 ·obtain ⟨A0,AB,B1,_⟩:=id a
  have m1:=qu hk _ (hA _ A0 (by omega));have m2:=qu hk _ (hA _ (show 0≤(el fY c v).2.1 by omega) B1);rw [decide_eq_true a,Bool.not_true,bF,if_pos a,rP (cF A0 (by omega)),rP (cF (by omega) B1),cA (by omega) (by omega)]
  by_cases m:MJ l (el fY c v)
  ·have:=m.1
   have:=m.2;rw [gB (by omega),bT,if_pos m]
  ·rw [gY (fun h=>m ⟨by omega,by omega⟩),bF,if_neg m]
 ·rw [decide_eq_false a,Bool.not_false,bT,if_neg a]
theorem zx {k:Nat} (hk':100<k) (l:List bK) (c:List gu):∃ e,aA k l c=some e∧bg k l c=some e ∧
  (e=0→(w4 k l∧len l≤64)∧len c≤32∧∀ j,0≤j→j<len c→CJ (len l) (el fY c j)∧¬ MJ l (el fY c j)):=by
 obtain ⟨e,e1,e2,e3⟩:=wT (k:=k) (by omega) hk' l;unfold aA bg;rw [e1,e2,bS,bS]
 by_cases h0:e=0
 ·obtain ⟨hA,hl⟩:=e3 h0
  rw [eu h0,bF,bF]
  by_cases hc:32<len c
  ·rw [hG hc,bT,bT]
   exact ⟨2,rfl,rfl,fun h=>absurd h (by decide)⟩
  ·rw [gZ (by omega),bF,bF]
   have same:∀ n v,0≤v→aA.c1 k l c n v=bg.c1 k l c n v:=by
    intro n
    induction n with
    | zero=>intro v _; rfl
    | succ n ih =>
     intro v v0
     by_cases d:v<len c
     ·rw [vE k (by omega) n v0 d,yI (k:=k) (by omega) hA (by omega) n v0 d,ih (v+1) (by omega)]
     ·rw [aA.c1,bg.c1,db (by omega),bF,bF]
   rw [← same k 0 (by omega)];rcases nT (fun n v=>aA.c1 k l c n v) (len c) (fun v=>if CJ (len l) (el fY c v) then (if MJ l (el fY c v) then some 3 else none) else some 1)
    (by
     intro n v a b;show aA.c1 k l c (n+1) v=_;rw [vE k (by omega) n a b]
     by_cases d:CJ (len l) (el fY c v)
     ·by_cases m:MJ l (el fY c v)
      ·simp [d,m]
      ·simp [d,m]
     ·simp [d])
    (by
     intro n v a b;show aA.c1 k l c (n+1) v=_
     rw [aA.c1,db b,bF]) k 0 (by omega) (by unfold len; omega) (by omega) with ⟨j,y,a,b,d,f⟩ | ⟨a,b⟩
   ·have f:aA.c1 k l c k 0=some (.inl y):=f
    rw [f,bS,fz];refine ⟨y,rfl,rfl,fun h=>?_⟩
    by_cases d1:CJ (len l) (el fY c j)
    ·by_cases m:MJ l (el fY c j)
     ·simp [d1,m] at d; omega
     ·simp [d1,m] at d
    ·simp [d1] at d; omega
   ·have b:aA.c1 k l c k 0=some (.inr ()):=b
    rw [b,bS,fQ];refine ⟨0,rfl,rfl,fun _=>⟨⟨hA,hl⟩,by omega,fun j j0 j1=>?_⟩⟩;have d:=a j j0 j1
    by_cases d1:CJ (len l) (el fY c j)
    ·by_cases m:MJ l (el fY c j)
     ·simp [d1,m] at d
     ·exact ⟨d1,m⟩
    ·simp [d1] at d
 ·rw [fw h0,bT,bT]
  exact ⟨e,rfl,rfl,fun h=>absurd h h0⟩
end Go.Proofs.T1
