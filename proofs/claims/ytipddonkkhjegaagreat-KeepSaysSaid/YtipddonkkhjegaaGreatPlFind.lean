import Derived.Test.YtipddonkkhjegaaGreatPlPairs
import Derived.Test.YtipddonkkhjegaaGreatPlClip
import Derived.Test.YtipddonkkhjegaaGreatG8
import Derived.Test.YtipddonkkhjegaaGreatG9
import Derived.Test.YtipddonkkhjegaaGreatG10
import Derived.Test.YtipddonkkhjegaaGreatG15
namespace Go.Proofs.T1
open Go Go.Sx
section
variable {p v:ay} {ang spin mass inertia bounce rub:Int} {l:List ay} {asleep:Bool} {calm:Int}
end
theorem FD {k:Nat} (hk:9≤k) (hk':100<k) (l:List fQ):∃ e,bG k l=some e∧cB k l=some e∧(e=0→wO k l∧len l≤64):=by
 unfold bG cB
 by_cases h:64<len l
 ·rw [gM h,bT,bT]
  exact ⟨2,rfl,rfl,fun h=>absurd h (by decide)⟩
 ·rw [gG (by omega),bF,bF]
  have same:∀ n v,0≤v→bG.c1 k l n v=cB.c1 k l n v:=by
   intro n
   induction n with
   | zero=>intro v _; rfl
   | succ n ih =>
    intro v v0;rw [bG.c1,cB.c1]
    by_cases c:v<len l
    ·obtain ⟨e,e1,e2⟩:=ka hk (el kG l v)
     rw [bA c,bT,bT,e1,e2,aX (by omega) (by omega),ih (v+1) (by omega)]
    ·rw [bZ (by omega),bF,bF]
  rw [← same k 0 (by omega)];rcases Bp (fun n v=>bG.c1 k l n v) (len l) (fun v=>match aj k (el kG l v) with | some e=>if e=0 then none else some e | none=>none)
   (by
    intro n v a b;show bG.c1 k l (n+1) v=_;obtain ⟨e,e1,e2⟩:=ka hk (el kG l v);rw [bG.c1,bA b,bT,rP (bu a b),e1,bS,aX (by omega) (by omega)]
    by_cases c:e=0
    ·rw [dR c,bF]
     simp [c]
    ·rw [gn c,bT]
     simp [c])
   (by
    intro n v a b;show bG.c1 k l (n+1) v=_
    rw [bG.c1,bZ b,bF]) k 0 (by omega) (by unfold len; omega) (by omega) with ⟨j,y,a,b,c,d⟩ | ⟨a,b⟩
  ·have d:bG.c1 k l k 0=some (.inl y):=d
   rw [d,bS,eE];refine ⟨y,rfl,rfl,fun h=>?_⟩;obtain ⟨e,e1,e2⟩:=ka hk (el kG l j);rw [e1] at c;have c:(if e=0 then none else some e)=some y:=c
   by_cases z:e=0
   ·rw [if_pos z] at c; cases c
   ·rw [if_neg z] at c; cases c; exact absurd h z
  ·have b:bG.c1 k l k 0=some (.inr ()):=b
   rw [b,bS,eW];refine ⟨0,rfl,rfl,fun _=>⟨fun j j0 j1=>?_,by omega⟩⟩;obtain ⟨e,e1,e2⟩:=ka hk (el kG l j);have c:=a j j0 j1;rw [e1] at c;have c:(if e=0 then none else some e)=none:=c
   by_cases z:e=0
   ·show aj k _=_
    rw [e1,z]
   ·rw [if_neg z] at c; cases c
end Go.Proofs.T1
namespace Go.Proofs.T1
open Go Go.Sx
section
variable {p v:ay} {ang spin mass inertia bounce rub:Int} {l:List ay} {asleep:Bool} {calm:Int}
end
theorem xN {k:Nat} {a1:(List Int × Unit)→Option Bool} {g:List Int→Bool} {l:List (List Int)} (hg:∀ x,x∈l→a1 (x,())=some (g x)) (hk:l.length+1<k) (hl:l.length≤1000000000) :
  ag k a1 l=some (l.filter (fun x=>!g x)):=by
 have ll:len l=(l.length:Int):=rfl;have hm:∀ j:Int,0≤j→j<len l→el (List.replicate 2 0) l j∈l:=by
  intro j h0 h1;have:j.toNat<l.length:=by omega
  unfold el;rw [List.getD_eq_getElem?_getD,List.getElem?_eq_getElem this];exact List.getElem_mem _
 have H:=fM (fun n v=>aG.c1 k l a1 n v) 0 (len l) (fun j=>g (el (List.replicate 2 0) l j)=true) (fun j=>j)
  (by
   intro n v h0 h1 hp;show aG.c1 k l a1 (n+1) v=_
   rw [aG.c1,bA h1,bT,rP (bu h0 h1),hg _ (hm v h0 h1),bS,hp,bT])
  (by
   intro n v h0 h1 hp;show aG.c1 k l a1 (n+1) v=aG.c1 k l a1 n (v+1);have hp:g (el (List.replicate 2 0) l v)=false:=by simpa using hp
   rw [aG.c1,bA h1,bT,rP (bu h0 h1),hg _ (hm v h0 h1),bS,hp,bF,aX (by omega) (by omega)])
  (by
   intro n v h0 h1;show aG.c1 k l a1 (n+1) v=_
   rw [aG.c1,bZ h1,bF])
  k 0 (by omega) (by omega)
 unfold ag aG;rcases H with ⟨j,j0,j1,hj,hbef,e⟩ | ⟨hno,e⟩
 ·have e:aG.c1 k l a1 k 0=some (.inl j):=e
  rw [e,bS,eE,bS,fl (by omega),bF];obtain ⟨j,rfl⟩:=Int.eq_ofNat_of_zero_le j0;have hjl:j<l.length:=by omega
  rw [aX (by omega) (by omega)];obtain ⟨i',v',e1,hi',hv',ht⟩:=wg (List.replicate 2 (0:Int)) g (fun n i j v=>ag.c1 k a1 n i j v) l
   (by
    intro n i j v hv hij hj hm;show ag.c1 k a1 (n+1) i j v=_;have h1:(j:Int)<len v:=by unfold len; omega
    have e:el (List.replicate 2 0) v (j:Int)=v.getD j (List.replicate 2 0):=rfl;have e2:st v (i:Int) (v.getD j (List.replicate 2 0))=v.set i (v.getD j (List.replicate 2 0)):=rfl;rw [ag.c1,bA h1,bT,rP (bu (by omega) h1),e,hg _ hm,bS];unfold ag.c2;rw [aX (by omega) (by omega)];cases hg':g (v.getD j (List.replicate 2 0)) with
    | true =>
     rw [bT,bS,aX (by omega) (by omega)];rfl
    | false =>
     rw [bF,rP (bu (by omega) (by unfold len; omega)),bS,aX (by omega) (by omega),e,e2]
     rfl)
   (by
    intro n i v hv;show ag.c1 k a1 (n+1) i l.length v=_
    rw [ag.c1,bZ (by unfold len; omega),bF])
   k j (j+1) l rfl (by omega) (by omega) (by omega) rfl
   (by
    rw [ic (List.replicate 2 (0:Int)) l hjl,List.filter_append];have h1:(l.take j).filter (fun x=>!g x)=l.take j:=by
     rw [List.filter_eq_self];intro x hx;obtain ⟨i,hi,rfl⟩:=List.mem_iff_getElem.1 hx;rw [List.length_take] at hi;have:=hbef i (by omega) (by omega);have e:el (List.replicate 2 0) l (i:Int)=l[i]'(by omega):=by
      show l.getD i (List.replicate 2 0)=_;rw [List.getD_eq_getElem?_getD,List.getElem?_eq_getElem (by omega)];rfl
     rw [e] at this;rw [List.getElem_take]
     simpa using this
    have h2:g (l.getD j (List.replicate 2 0))=true:=hj;rw [h1,filter_one,h2]
    simp)
  have e1:ag.c1 k a1 k (j:Int) ((j:Int)+1) l=some ((i':Int),v'):=e1;rw [e1,bS];dsimp only
  rw [rP (show oP (i':Int) v'.length from ⟨by omega,by omega⟩),rP (show Int.toNat (i':Int)≤v'.length by omega),
   rP (show AK (xZ (List.replicate 2 0) v' (Int.toNat (i':Int))) (i':Int) from ⟨by omega,by rw [qW _ _ _ (by omega)]; omega⟩)]
  show some ((xZ (List.replicate 2 0) v' i').take i')=_;rw [u6 _ _ _ (by omega),ht]
 ·have e:aG.c1 k l a1 k 0=some (.inr ()):=e (by omega)
  rw [e,bS,eW,bS,fw rfl,bT];congr 1;symm;rw [List.filter_eq_self];intro x hx;obtain ⟨i,hi,rfl⟩:=List.mem_iff_getElem.1 hx;have:=hno i (by omega) (by omega);have e:el (List.replicate 2 0) l (i:Int)=l[i]:=by
   show l.getD i (List.replicate 2 0)=_;rw [List.getD_eq_getElem?_getD,List.getElem?_eq_getElem hi];rfl
  rw [e] at this
  simpa using this
def G9 (p:List Int) (x:ay × (ay × ay)):dV:=(p.getD 0 0,p.getD 1 0,x.2.2.2.1,x.1,x.2.1,x.2.2.1,0,0,())
theorem Ea {k:Nat} {v:Int} {y1:List (List Int) × Int} {p:List Int} (hp:el (List.replicate 2 0) y1.1 v=p) {X:List (ay × (ay × ay))} (hX:X.length≤2) (hk:3≤k) {acc:List dV} (ha:acc.length≤1000000) :
  bh.c2 k v y1 X k 0 acc=some (acc++X.map (G9 p)):=by
 have lX:len X=(X.length:Int):=rfl;have e0:el 0 p 0=p.getD 0 0:=rfl;have e1:el 0 p 1=p.getD 1 0:=rfl;have key:∀ (n u:Nat) (a:List dV),X.length<u+n→u≤X.length→a.length≤1000000+u→bh.c2 k v y1 X n (u:Int) a=some (a++(X.drop u).map (G9 p)):=by
  intro n
  induction n with
  | zero=>intro u a h1 h2; omega
  | succ n ih =>
   intro u a h1 h2 h3;rw [bh.c2,hp,e0,e1]
   by_cases c:u<X.length
   ·have hr:∀ x:dV,room 80 a [x]:=fun x=>by unfold room roomFor; simp only [List.length_singleton]; omega
    rw [bA (by omega),bT,rP (bu (by omega) (by omega)),rP (hr _),aX (x:=(u:Int)) (y:=1) (by omega) (by omega),(show (u:Int)+1=((u+1:Nat):Int) by omega),ih (u+1) _ (by omega) (by omega) (by rw [List.length_append,List.length_singleton]; omega),List.drop_eq_getElem_cons c];have ex:el ((0,0,()),(0,0,()),0,0,()) X (u:Int)=X[u]:=iN _ X c;rw [ex,List.map_cons,List.append_assoc];rfl
   ·rw [bZ (by omega),bF,List.drop_of_length_le (by omega)]
    simp
 have:=key k 0 acc (by omega) (by omega) (by omega);exact this
end Go.Proofs.T1
namespace Go.Proofs.T1
open Go Go.Sx
def BD (a b:dV):Int:=if jG a.1 b.1=0 then (if jG a.2.1 b.2.1=0 then jG a.2.2.1 b.2.2.1 else jG a.2.1 b.2.1) else jG a.1 b.1
theorem FP {k:Nat} (hk:4≤k) (a b c:Int):dc k [a,b,c]=some (if a=0 then (if b=0 then c else b) else a):=by
 obtain ⟨n,rfl⟩:∃ n,k=n+4:=⟨k - 4,by omega⟩;have l3:len [a,b,c]=3:=rfl;have e0:el 0 [a,b,c] 0=a:=rfl;have e1:el 0 [a,b,c] (0+1)=b:=rfl;have e2:el 0 [a,b,c] (0+1+1)=c:=rfl;unfold dc;rw [dc.c1,bA (by omega),bT,rP (bu (by omega) (by omega)),e0]
 by_cases ha:a=0
 ·rw [dR ha,bF,if_pos ha,aX (x:=0) (y:=1) (by omega) (by omega),dc.c1,bA (by omega),bT,rP (bu (by omega) (by omega)),e1]
  by_cases hb:b=0
  ·rw [dR hb,bF,if_pos hb,aX (x:=0+1) (y:=1) (by omega) (by omega),dc.c1,bA (by omega),bT,rP (bu (by omega) (by omega)),e2]
   by_cases hc:c=0
   ·rw [dR hc,bF,aX (x:=0+1+1) (y:=1) (by omega) (by omega),dc.c1,bZ (by omega),bF,bS,eW,hc]
   ·rw [gn hc,bT,bS,eE]
  ·rw [gn hb,bT,bS,eE,if_neg hb]
 ·rw [gn ha,bT,bS,eE,if_neg ha]
theorem rA {k:Nat} (hk:4≤k) (a b:dV):dL k a b=some (BD a b):=by
 unfold dL;rw [im,bS,im,bS,im,bS,FP hk,bS];rfl
theorem lK (a b:Int):jG a b=0↔a=b:=by unfold jG; split <;> (try split) <;> omega
theorem zj (a b:dV):BD a b=0↔a.1=b.1∧a.2.1=b.2.1∧a.2.2.1=b.2.2.1:=by
 unfold BD
 by_cases h1:jG a.1 b.1=0
 ·rw [if_pos h1]
  by_cases h2:jG a.2.1 b.2.1=0
  ·rw [if_pos h2,lK]
   rw [lK] at h1 h2;exact ⟨fun h=>⟨h1,h2,h⟩,fun h=>h.2.2⟩
  ·rw [if_neg h2]
   exact ⟨fun h=>absurd h h2,fun h=>absurd ((lK _ _).2 h.2.1) h2⟩
 ·rw [if_neg h1]
  exact ⟨fun h=>absurd h h1,fun h=>absurd ((lK _ _).2 h.1) h1⟩
theorem uN {α:Type} (z:α) {l m:List α} (h:len l=len m) (e:∀ j,0≤j→j<len l→el z l j=el z m j):l=m:=by
 have ll:len l=(l.length:Int):=rfl;have lm:len m=(m.length:Int):=rfl;refine List.ext_getElem (by omega) fun i h1 h2=>?_
 have:=e i (by omega) (by omega);rw [iN z l h1,iN z m h2] at this;exact this
theorem GA {α:Type} (z:α) (l:List α) {i:Int} (i0:0≤i) (i1:i<len l) (x:α):el z (st l i x) i=x:=by
 rw [A6 z l x i0 i1 i0,if_pos rfl]
theorem Gv {α:Type} (l:List α) (i:Int) (x y:α):st (st l i x) i y=st l i y:=List.set_set ..
end Go.Proofs.T1
namespace Go.Proofs.T1
open Go Go.Sx
theorem F7 (x:dV):Ty.kY dY x x=true:=by
 have h:∀ a:Int,gB a a=true:=fun a=>fw rfl;show (gB x.1 x.1 && (gB x.2.1 x.2.1 && (gB x.2.2.1 x.2.2.1 && (Ty.kY bE x.2.2.2.1 x.2.2.2.1 && (Ty.kY bE x.2.2.2.2.1 x.2.2.2.2.1 && (gB x.2.2.2.2.2.1 x.2.2.2.2.2.1 && (gB x.2.2.2.2.2.2.1 x.2.2.2.2.2.2.1 && (gB x.2.2.2.2.2.2.2.1 x.2.2.2.2.2.2.2.1 && true))))))))=true;simp only [h,wC,Bool.and_true]
theorem ET {k:Nat} (hk:5000≤k) {l:List dV} (hl:len l≤4096):bz k l l=some true:=by
 have H:∀ (n:Nat) (i:Int),0≤i→len l - i<(n:Int)→0<n→bz.c1 k l l n i=some (.inr ()):=by
  intro n
  induction n with
  | zero=>intro i _ _ h; omega
  | succ n ih =>
   intro i i0 i1 _;rw [bz.c1]
   by_cases c:i<len l
   ·rw [bA c,bT,rP (bu i0 c),rP (bu i0 c)]
    refine (congrArg (fun b=>aM b _ _) (F7 (el aR l i))).trans ?_
    rw [bT,aX (by omega) (by omega)];exact ih (i+1) (by omega) (by omega) (by omega)
   ·rw [bZ (by omega),bF]
 unfold bz;rw [dR rfl,bF,H k 0 (by omega) (by omega) (by omega),bS,eW]
end Go.Proofs.T1
namespace Go.Proofs.T1
open Go Go.Sx
theorem vI {k:Nat} (hk:4≤k) (a b:dV):aU k [a.1,a.2.1,a.2.2.1] [b.1,b.2.1,b.2.2.1]=some (BD a b):=by
 obtain ⟨n,rfl⟩:∃ n,k=n+4:=⟨k - 4,by omega⟩;have la:∀ x y z:Int,len [x,y,z]=3:=fun _ _ _=>rfl;have e0:∀ x y z:Int,el 0 [x,y,z] 0=x:=fun _ _ _=>rfl;have e1:∀ x y z:Int,el 0 [x,y,z] (0+1)=y:=fun _ _ _=>rfl;have e2:∀ x y z:Int,el 0 [x,y,z] (0+1+1)=z:=fun _ _ _=>rfl;unfold aU BD;rw [aU.c1,bA (by rw [la]; omega),bT,rP (bu (by omega) (by rw [la]; omega)),iV (by rw [la]; omega),bF,rP (bu (by omega) (by rw [la]; omega)),e0,e0,im,bS]
 by_cases h1:jG a.1 b.1=0
 ·rw [dR h1,bF,if_pos h1,aX (x:=0) (y:=1) (by omega) (by omega),aU.c1,bA (by rw [la]; omega),bT,rP (bu (by omega) (by rw [la]; omega)),iV (by rw [la]; omega),bF,rP (bu (by omega) (by rw [la]; omega)),e1,e1,im,bS]
  by_cases h2:jG a.2.1 b.2.1=0
  ·rw [dR h2,bF,if_pos h2,aX (x:=0+1) (y:=1) (by omega) (by omega),aU.c1,bA (by rw [la]; omega),bT,rP (bu (by omega) (by rw [la]; omega)),iV (by rw [la]; omega),bF,rP (bu (by omega) (by rw [la]; omega)),e2,e2,im,bS]
   by_cases h3:jG a.2.2.1 b.2.2.1=0
   ·rw [dR h3,bF,aX (x:=0+1+1) (y:=1) (by omega) (by omega),aU.c1,bZ (by rw [la]; omega),bF,bS,eW,bZ (by rw [la,la]; omega),bF,h3]
   ·rw [gn h3,bT,bS,eE]
  ·rw [gn h2,bT,bS,eE,if_neg h2]
 ·rw [gn h1,bT,bS,eE,if_neg h1]
theorem CV {k:Nat} (hk:10≤k) (old fresh:List dV) (v:Int):ae.c2 k old fresh v k 0=some (.inr ()):=by
 have hlen:len (cut old 0 (gd (len old) 5))≤5:=by
  unfold len cut gd;rw [List.length_drop,List.length_take];split <;> omega
 have key:∀ (n:Nat) (u:Int),0≤u→u≤5→5 - u<(n:Int)→ae.c2 k old fresh v n u=some (.inr ()):=by
  intro n
  induction n with
  | zero=>intro u a b c; omega
  | succ n ih =>
   intro u a b c;rw [ae.c2]
   by_cases h:u<len (cut old 0 (gd (len old) 5))
   ·rw [bA h,bT,rP (bu a h),rA (by omega),bS,vI (by omega),bS,dR rfl,bF,aX (x:=u) (y:=1) (by omega) (by omega)]
    exact ih (u+1) (by omega) (by omega) (by omega)
   ·rw [bZ (by omega),bF]
 exact key k 0 (by omega) (by omega) (by omega)
theorem Ba {k:Nat} (hk:100≤k) (old fresh:List dV):ae.c1 k old fresh k 0=some (.inl true)∨ae.c1 k old fresh k 0=some (.inr ())∧len fresh≤61:=by
 have hc:rH old 0 (gd (len old) 5):=by
  have:len old=(old.length:Int):=rfl;unfold gd;refine ⟨by omega,?_,?_⟩ <;> split <;> omega
 have key:∀ (n:Nat) (u:Int),0≤u→u≤61→62 - u<(n:Int)→ae.c1 k old fresh n u=some (.inl true)∨ae.c1 k old fresh n u=some (.inr ())∧len fresh≤61:=by
  intro n
  induction n with
  | zero=>intro u a b c; omega
  | succ n ih =>
   intro u a b c;rw [ae.c1]
   by_cases h:u<len fresh
   ·rw [bA h,bT,rP (bu a h),rP hc,CV (by omega),bS,eW]
    by_cases g:60<u
    ·rw [gM g,bT]
     exact .inl rfl
    ·rw [gG (by omega),bF,aX (x:=u) (y:=1) (by omega) (by omega)]
     exact ih (u+1) (by omega) (by omega) (by omega)
   ·rw [bZ (by omega),bF]
    exact .inr ⟨rfl,by omega⟩
 exact key k 0 (by omega) (by omega) (by omega)
def sm (c o:dV):Bool:=decide (o.1=c.1∧o.2.1=c.2.1∧o.2.2.1=c.2.2.1)
def Gw (o:dV):Int × Int:=(o.2.2.2.2.2.2.1,o.2.2.2.2.2.2.2.1)
def sH (old:List dV) (c:dV):Int × Int:=match old.find? (sm c) with
 | some o=>Gw o
 | none=>(0,0)
def wm (old:List dV) (c:dV):dV:=(c.1,c.2.1,c.2.2.1,c.2.2.2.1,c.2.2.2.2.1,c.2.2.2.2.2.1,(sH old c).1,(sH old c).2,())
theorem E9 {old:List dV} {c:dV} {j:Int} (j0:0≤j) (j1:j<len old) (h:sm c (el aR old j)=true) (hb:∀ i,0≤i→i<j→sm c (el aR old i)=false):sH old c=Gw (el aR old j):=by
 obtain ⟨j,rfl⟩:=Int.eq_ofNat_of_zero_le j0;have hj:j<old.length:=by unfold len at j1; omega
 have:old.find? (sm c)=some old[j]:=by
  rw [List.find?_eq_some_iff_getElem];rw [iN aR old hj] at h;refine ⟨h,j,hj,rfl,fun i hi=>?_⟩;have:=hb i (by omega) (by omega);rw [iN aR old (by omega)] at this;rw [this];rfl
 unfold sH;rw [this,iN aR old hj]
theorem Fz {old:List dV} {c:dV} (h:∀ i,0≤i→i<len old→sm c (el aR old i)=false):sH old c=(0,0):=by
 have:old.find? (sm c)=none:=by
  rw [List.find?_eq_none];intro x hx;obtain ⟨i,hi,rfl⟩:=List.mem_iff_getElem.1 hx;have:=h i (by omega) (by unfold len; omega);rw [iN aR old hi] at this;rw [this];decide
 unfold sH;rw [this]
theorem A3 (o:dV) (l:List dV) (c:dV):sH (o :: l) c=if sm c o=true then Gw o else sH l c:=by
 unfold sH;rw [List.find?_cons];cases h:sm c o with
 | true=>rw [if_pos rfl]
 | false=>rw [if_neg (by decide)]
theorem DY (k:Nat) (old C:List dV) (v u:Int):aF.c3 k old C v u=some (sm (el aR C v) (el aR old u)):=by
 unfold aF.c3 sm
 by_cases h1:(el aR old u).1=(el aR C v).1
 ·rw [fw h1,bT]
  by_cases h2:(el aR old u).2.1=(el aR C v).2.1
  ·rw [fw h2,bT]
   unfold gB;congr 1;exact decide_eq_decide.2 ⟨fun h=>⟨h1,h2,h⟩,fun h=>h.2.2⟩
  ·rw [fl h2,bF,decide_eq_false (fun h=>h2 h.2.1)]
 ·rw [fl h1,bF,decide_eq_false (fun h=>h1 h.1)]
theorem Eg {k:Nat} {old C:List dV} {v:Int} (hl:old.length≤9223372036854775807):∀ (n u:Nat),u≤old.length→u<n →
  aF.c2 k old C v n ((u:Int) - 1) (sH (old.drop u) (el aR C v)).1 (sH (old.drop u) (el aR C v)).2=some (sH old (el aR C v)):=by
 have ll:len old=(old.length:Int):=rfl;intro n
 induction n with
 | zero=>intro u _ h; omega
 | succ n ih =>
  intro u hu hn;rw [aF.c2];cases u with
  | zero =>
   rw [iV (by omega),bF,List.drop_zero]
  | succ u =>
   have eu:((u+1:Nat):Int) - 1=(u:Int):=by omega
   rw [eu,j3 (by omega),bT,rP (bu (by omega) (by omega)),DY,bS,cR (by omega) (by omega)];have i1:=ih u (by omega) (by omega);have hd:sH (old.drop u) (el aR C v)=if sm (el aR C v) (el aR old (u:Int))=true then Gw (el aR old (u:Int)) else sH (old.drop (u+1)) (el aR C v):=by
    rw [List.drop_eq_getElem_cons (show u<old.length by omega),A3,iN aR old (show u<old.length by omega)]
   unfold aF.c4;cases h:sm (el aR C v) (el aR old (u:Int)) with
   | true =>
    rw [bT,bS];rw [h,if_pos rfl] at hd;rw [hd] at i1;exact i1
   | false =>
    rw [bF,bS];rw [h,if_neg (by decide)] at hd;rw [hd] at i1;exact i1
theorem vw {k:Nat} {old C:List dV} (hk:old.length<k) (hl:old.length≤9223372036854775807) (hC:C.length≤100000) (hkC:C.length<k):aF k old C=some (C.map (wm old)):=by
 have ll:len old=(old.length:Int):=rfl;have lC:len C=(C.length:Int):=rfl;have key:∀ (n u:Nat) (acc:List dV),u≤C.length→C.length<u+n→acc.length≤u→aF.c1 k old C n (u:Int) acc=some (acc++(C.drop u).map (wm old)):=by
  intro n
  induction n with
  | zero=>intro u acc h1 h2; omega
  | succ n ih =>
   intro u acc h1 h2 h3;rw [aF.c1]
   by_cases c:u<C.length
   ·have hr:∀ x:dV,room 80 acc [x]:=fun x=>by unfold room roomFor; simp only [List.length_singleton]; omega
    have h0:=Eg (k:=k) (old:=old) (C:=C) (v:=(u:Int)) hl k old.length (Nat.le_refl _) hk;rw [List.drop_of_length_le (Nat.le_refl _)] at h0;have h0:aF.c2 k old C (u:Int) k (len old - 1) 0 0=some (sH old (el aR C (u:Int))):=h0;rw [bA (by omega),bT,rP (bu (by omega) (by omega)),cR (by omega) (by omega),h0,bS,rP (hr _),aX (x:=(u:Int)) (y:=1) (by omega) (by omega),(show (u:Int)+1=((u+1:Nat):Int) by omega),ih (u+1) _ (by omega) (by omega) (by rw [List.length_append,List.length_singleton]; omega),List.drop_eq_getElem_cons c,List.map_cons,List.append_assoc];have ex:el aR C (u:Int)=C[u]:=iN _ C c;rw [ex];rfl
   ·rw [bZ (by omega),bF,List.drop_of_length_le (by omega)]
    simp
 have:=key k 0 [] (by omega) (by omega) (by simp);have e:aF.c1 k old C k 0 []=some ([]++(C.drop 0).map (wm old)):=this;unfold aF;rw [e,bS,List.drop_zero,List.nil_append]
theorem Dr {k:Nat} {old r:List dV} {v:Int} (hk:old.length<k) (hk4:4≤k) (hl:old.length≤9223372036854775807) (v0:0≤v) (v1:v<len r) :
  ∃ j,ar k old v r=some j∧(0≤j∧j<len old∧sH old (el aR r v)=Gw (el aR old j)∨j=-1∧sH old (el aR r v)=(0,0)):=by
 have ll:len old=(old.length:Int):=rfl;have c1:∀ j,cU k (el aR old j) v r=some (sm (el aR r v) (el aR old j)):=by
  intro j;unfold cU;rw [rP (bu v0 v1),rA hk4,bS];unfold gB sm;congr 1;exact decide_eq_decide.2 (zj _ _)
 have H:=fM (fun n u=>ar.c1 k old v r n u) 0 (len old) (fun j=>sm (el aR r v) (el aR old j)=true) (fun j=>j)
  (by
   intro n u u0 u1 hu;show ar.c1 k old v r (n+1) u=_
   rw [ar.c1,bA u1,bT,rP (bu u0 u1),c1,bS,hu,bT])
  (by
   intro n u u0 u1 hu;show ar.c1 k old v r (n+1) u=ar.c1 k old v r n (u+1)
   rw [ar.c1,bA u1,bT,rP (bu u0 u1),c1,bS,Bool.eq_false_iff.2 hu,bF,aX (by omega) (by omega)])
  (by
   intro n u u0 u1;show ar.c1 k old v r (n+1) u=_
   rw [ar.c1,bZ u1,bF])
  k 0 (by omega) (by omega)
 unfold ar;rcases H with ⟨j,j0,j1,hj,hbef,e⟩ | ⟨no,e⟩
 ·have e:ar.c1 k old v r k 0=some (.inl j):=e
  rw [e,bS,eE];exact ⟨j,rfl,.inl ⟨j0,j1,E9 j0 j1 hj (fun i i0 i1=>Bool.eq_false_iff.2 (hbef i i0 i1))⟩⟩
 ·have e:ar.c1 k old v r k 0=some (.inr ()):=e (by omega)
  rw [e,bS,eW];exact ⟨-1,rfl,.inr ⟨rfl,Fz (fun i i0 i1=>Bool.eq_false_iff.2 (no i i0 i1))⟩⟩
theorem sd {k:Nat} {old C:List dV} (hk:old.length<k) (hl:old.length≤9223372036854775807) (hC:C.length≤100000) (hkC:C.length+4<k):bg k old C=some (C.map (wm old)):=by
 have lC:len C=(C.length:Int):=rfl;have cl:dT k C=some C:=by
  unfold dT;exact rP (show p5 80 C by unfold p5 roomFor; omega) _
 have lm:len (C.map (wm old))=len C:=by unfold len; rw [List.length_map]
 have em:∀ j,0≤j→j<len C→el aR (C.map (wm old)) j=wm old (el aR C j):=by
  intro j j0 j1;obtain ⟨j,rfl⟩:=Int.eq_ofNat_of_zero_le j0;rw [iN aR _ (show j<(C.map (wm old)).length by rw [List.length_map]; omega),iN aR C (show j<C.length by omega),List.getElem_map]
 have key:∀ (n:Nat) (v:Int) (cur:List dV),0≤v→v≤len C→len C - v<(n:Int)→len cur=len C→(∀ j,0≤j→j<len C→el aR cur j=if j<v then wm old (el aR C j) else el aR C j)→bg.c1 k old C n v cur=some (C.map (wm old)):=by
  intro n
  induction n with
  | zero=>intro v cur a b c; omega
  | succ n ih =>
   intro v cur a b c lc hcur;rw [bg.c1]
   by_cases h:v<len C
   ·have e1:∀ X,el aR (st cur v X) v=X:=fun X=>GA aR cur a (by omega) X
    have l1:∀ X,len (st cur v X)=len C:=fun X=>(za _ _ _).trans lc;have s2:∀ X Y:dV,st (st cur v X) v Y=st cur v Y:=fun X Y=>Gv _ _ _ _;have hcv:el aR cur v=el aR C v:=by rw [hcur v a h,if_neg (by omega)]
    rw [bA h,bT,rP (bu a (by omega)),rP (bu a (by rw [l1]; exact h))];simp only [e1,s2,hcv];obtain ⟨j,ej,hj⟩:=Dr (k:=k) (old:=old) (r:=st cur v ((el aR C v).1,(el aR C v).2.1,(el aR C v).2.2.1,(el aR C v).2.2.2.1,(el aR C v).2.2.2.2.1,(el aR C v).2.2.2.2.2.1,(0:Int),(0:Int),())) (v:=v) hk (by omega) hl a (by rw [l1]; exact h);rw [e1] at hj;have ef:sH old (((el aR C v).1,(el aR C v).2.1,(el aR C v).2.2.1,(el aR C v).2.2.2.1,(el aR C v).2.2.2.2.1,(el aR C v).2.2.2.2.2.1,(0:Int),(0:Int),()):dV)=sH old (el aR C v):=rfl;rw [ef] at hj;rw [ej,bS];have fin:∀ Y:dV,Y=wm old (el aR C v)→bg.c1 k old C n (v+1) (st cur v Y)=some (C.map (wm old)):=by
     intro Y hY;refine ih (v+1) _ (by omega) (by omega) (by omega) (l1 _) fun j j0 j1=>?_
     rw [A6 aR cur _ a (by omega) j0]
     by_cases e:j=v
     ·rw [if_pos e,if_pos (by omega),e,hY]
     ·rw [if_neg e,hcur j j0 j1]
      by_cases g:j<v
      ·rw [if_pos g,if_pos (by omega)]
      ·rw [if_neg g,if_neg (by omega)]
    unfold bg.c2;rcases hj with ⟨j0,j1,hj⟩ | ⟨hj1,hj⟩
    ·rw [j3 j0,bT,rP (bu j0 j1),rP (bu a (by rw [l1]; exact h)),rP (bu a (by rw [za,l1]; exact h)),bS,aX (by omega) (by omega)]
     have s3:∀ X Y Z:dV,st (st (st cur v X) v Y) v Z=st cur v Z:=fun X Y Z=>by rw [s2,s2]
     have e3:∀ X Y,el aR (st (st cur v X) v Y) v=Y:=fun X Y=>by rw [s2,e1]
     simp only [e3,e1,s2];refine fin _ ?_
     unfold wm;rw [hj];rfl
    ·rw [hj1,iV (by omega),bF,bS,aX (by omega) (by omega)]
     refine fin _ ?_
     unfold wm;rw [hj]
   ·rw [bZ (by omega),bF]
    congr 1;refine uN aR (lc.trans lm.symm) fun j j0 j1=>?_
    rw [hcur j j0 (by omega),if_pos (by omega),em j j0 (by omega)]
 unfold bg;rw [cl,bS,key k 0 C (by omega) (by omega) (by omega) rfl (fun j j0 j1=>by rw [if_neg (by omega)]),bS]
end Go.Proofs.T1
