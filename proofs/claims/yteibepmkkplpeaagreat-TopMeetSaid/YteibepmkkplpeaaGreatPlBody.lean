import Derived.Test.YteibepmkkplpeaaGreatPlTail
import Derived.Test.YteibepmkkplpeaaGreatG6
import Derived.Test.YteibepmkkplpeaaGreatG7
namespace Go.Proofs.T1
open Go Go.Sx
theorem jE (k:Nat) (a:aB) {m:Int} (h0:0≤m) (h1:m≤9223372036854775807):dX k a m=some (decide (-m≤a.1∧a.1≤m∧-m≤a.2.1∧a.2.1≤m)):=by
 have n1:c9 .i64 m=-m:=by unfold c9; rw [wrap_i64 (by omega) (by omega)]; omega
 unfold dX;rw [n1]
 by_cases a1:-m≤a.1
 ·rw [iV a1,bT]
  by_cases a2:a.1≤m
  ·rw [kU a2,bT]
   by_cases a3:-m≤a.2.1
   ·rw [iV a3,bT]
    unfold jw;congr 1;exact decide_eq_decide.2 ⟨fun h=>⟨a1,a2,a3,h⟩,fun h=>h.2.2.2⟩
   ·rw [jZ (by omega),bF,decide_eq_false (fun h=>a3 h.2.2.1)]
  ·rw [mr (by omega),bF,decide_eq_false (fun h=>a2 h.2.1)]
 ·rw [jZ (by omega),bF,decide_eq_false (fun h=>a1 h.1)]
end Go.Proofs.T1
namespace Go.Proofs.T1
open Go Go.Sx
def iU (a c:aB):aB:=(a.1 - c.1,a.2.1 - c.2.1,())
def sH (l:List aB):Prop:=∀ i,0≤i→i<len l→-2097152≤(q l i).1∧(q l i).1≤2097152∧-2097152≤(q l i).2.1∧(q l i).2.1≤2097152
end Go.Proofs.T1
namespace Go.Proofs.T1
open Go Go.Sx
theorem Fo {l:List aB} (h:Made l):sH l:=fun i a b=>by have:=h.2.2.1 i a b; omega
end Go.Proofs.T1
namespace Go.Proofs.T1
open Go Go.Sx
theorem zM (k:Nat) (raw:List Int):∃ (l:List aB) (a b:Nat),jF k raw=some l∧a<4∧b<4 ∧
  (l=En ((a+1)*65536) ((b+1)*65536)∨l=ED ((a+1)*65536) ((b+1)*65536)∨l=Eo ((a+1)*65536) ((b+1)*65536) ∨
   ∃ x:Int,-(((a:Int)+1)*65536)≤x∧x<((a:Int)+1)*65536∧l=[(-(((a:Int)+1)*65536),-(((b:Int)+1)*65536),()),(((a:Int)+1)*65536,-(((b:Int)+1)*65536),()),(x,((b:Int)+1)*65536,())]):=by
 unfold jF de;obtain ⟨s1,a,e1,a0,a1⟩:=iq k (raw,()) (n:=4) (by decide) (by decide);obtain ⟨s2,b,e2,b0,b1⟩:=iq k s1 (n:=4) (by decide) (by decide);obtain ⟨s3,c,e3,c0,c1⟩:=iq k s2 (n:=4) (by decide) (by decide);rw [e1,bS,e2,bS,e3,bS];dsimp only;have hw:aN .i64 (ag .i64 1 a) 65536=(a+1)*65536:=by rw [bH (by omega) (by omega),dr (by omega) (by omega)]; omega
 have hh:aN .i64 (ag .i64 1 b) 65536=(b+1)*65536:=by rw [bH (by omega) (by omega),dr (by omega) (by omega)]; omega
 rw [hw,hh];obtain ⟨a,rfl⟩:=Int.eq_ofNat_of_zero_le a0;obtain ⟨b,rfl⟩:=Int.eq_ofNat_of_zero_le b0
 by_cases h0:c=0
 ·rw [fw h0,bT,bS]
  exact ⟨_,a,b,rfl,by omega,by omega,Or.inl rfl⟩
 rw [fu h0,bF]
 by_cases h1:c=1
 ·rw [fw h1,bT]
  have hW:(65536:Int)≤((a:Int)+1)*65536∧((a:Int)+1)*65536≤262144:=by omega
  have hH:(65536:Int)≤((b:Int)+1)*65536∧((b:Int)+1)*65536≤262144:=by omega
  rw [dr (x:=2) (by omega) (by omega)];obtain ⟨s4,x,e4,x0,x1⟩:=iq k s3 (n:=2*(((a:Int)+1)*65536)) (by omega) (by omega);rw [e4,bS,bS];dsimp only;have en:c9 .i64 (((a:Int)+1)*65536)=-(((a:Int)+1)*65536):=by unfold c9; rw [wrap_i64 (by omega) (by omega)]; omega
  have en2:c9 .i64 (((b:Int)+1)*65536)=-(((b:Int)+1)*65536):=by unfold c9; rw [wrap_i64 (by omega) (by omega)]; omega
  rw [en,en2,cR (by omega) (by omega)];exact ⟨_,a,b,rfl,by omega,by omega,Or.inr (Or.inr (Or.inr ⟨x - (((a:Int)+1)*65536),by omega,by omega,rfl⟩))⟩
 rw [fu h1,bF]
 by_cases h2:c=2
 ·rw [fw h2,bT,bS]
  exact ⟨_,a,b,rfl,by omega,by omega,Or.inr (Or.inl rfl)⟩
 ·rw [fu h2,bF,bS]
  exact ⟨_,a,b,rfl,by omega,by omega,Or.inr (Or.inr (Or.inl rfl))⟩
end Go.Proofs.T1
namespace Go.Proofs.T1
open Go Go.Sx
def xQ (l:List aB):Prop:=∀ i j,0≤i→i<len l→0≤j→j<len l→j≠i→j≠nx (len l) i→1073741824≤fb (q l i) (q l (nx (len l) i)) (q l j)
def sf (l:List aB):Prop:=Made l∧xQ l∧pY l bK
def BG (l:List aB):Bool:=(List.range l.length).all fun i=>(List.range l.length).all fun j =>
 Nat.beq j i || (Nat.beq j (if i+1=l.length then 0 else i+1) || decide (1073741824≤fb (l.getD i bK) (l.getD (if i+1=l.length then 0 else i+1) bK) (l.getD j bK)))
theorem wT {l:List aB} (i:Nat):nx (len l) (i:Int)=((if i+1=l.length then 0 else i+1:Nat):Int):=by
 unfold nx len;split <;> split <;> omega
theorem yU {l:List aB} (h:BG l=true):xQ l:=by
 intro i j h0 h1 h2 h3 h4 h5;obtain ⟨i,rfl⟩:=Int.eq_ofNat_of_zero_le h0;obtain ⟨j,rfl⟩:=Int.eq_ofNat_of_zero_le h2;have hi:i<l.length:=by unfold len at h1; omega
 have hj:j<l.length:=by unfold len at h3; omega
 have h6:=List.all_eq_true.1 (List.all_eq_true.1 h i (List.mem_range.2 hi)) j (List.mem_range.2 hj);simp only [Bool.or_eq_true,decide_eq_true_eq] at h6;rcases h6 with h6 | h6 | h6
 ·exact absurd (congrArg Int.ofNat (Nat.eq_of_beq_eq_true h6)) h4
 ·rw [wT] at h5
  exact absurd (congrArg Int.ofNat (Nat.eq_of_beq_eq_true h6)) h5
 ·rw [wT]
  exact h6
def Ha (l:List aB):Bool:=(List.range l.length).all fun i=>decide (0≤fb (l.getD i bK) (l.getD (if i+1=l.length then 0 else i+1) bK) bK)
theorem Fl {l:List aB} (h:Ha l=true):pY l bK:=by
 intro i h0 h1;obtain ⟨i,rfl⟩:=Int.eq_ofNat_of_zero_le h0;have hi:i<l.length:=by unfold len at h1; omega
 have h6:=List.all_eq_true.1 h i (List.mem_range.2 hi);simp only [decide_eq_true_eq] at h6;rw [wT];exact h6
def ql (l:List aB):Bool:=BC l && (BG l && Ha l)
theorem om {l:List aB} (h:ql l=true):sf l:=by
 simp only [ql,Bool.and_eq_true] at h;exact ⟨B9 h.1,yU h.2.1,Fl h.2.2⟩
theorem vF:(List.range 4).all (fun a=>(List.range 4).all fun b=>ql (En ((a+1)*65536) ((b+1)*65536)) && (ql (ED ((a+1)*65536) ((b+1)*65536)) && ql (Eo ((a+1)*65536) ((b+1)*65536))))=true:=by decide +kernel
theorem zK {W H x:Int} (hW0:65536≤W) (hW1:W≤262144) (hH0:65536≤H) (hH1:H≤262144) (h0:-W≤x) (h1:x<W):sf [(-W,-H,()),(W,-H,()),(x,H,())]:=by
 have hWH:(65536:Int)*65536≤W*H:=Int.mul_le_mul hW0 hH0 (by decide) (by omega);have e012:fb (-W,-H,()) (W,-H,()) (x,H,())=4*(W*H):=by unfold fb; dsimp only; grind
 have hm:Made [(-W,-H,()),(W,-H,()),(x,H,())]:=by
  refine ⟨by show (3:Int)≤3; decide,by show (3:Int)≤5; decide,?_,vh (by rw [e012]; omega)⟩;apply xP;simp only [EY,List.all_cons,List.all_nil,Bool.and_true,Bool.and_eq_true,decide_eq_true_eq];omega
 have ha:0≤H*(x+W):=Int.mul_nonneg (by omega) (by omega);have hb:0≤H*(W - x):=Int.mul_nonneg (by omega) (by omega);refine ⟨hm,?_,?_⟩
 ·generalize hl:[(-W,-H,()),(W,-H,()),(x,H,())]=l at *
  have hlen:len l=3:=by rw [← hl]; rfl
  intro i j i0 i1 j0 j1 hji hjn;have q0:q l 0=(-W,-H,()):=by rw [← hl]; rfl
  have q1:q l 1=(W,-H,()):=by rw [← hl]; rfl
  have q2:q l 2=(x,H,()):=by rw [← hl]; rfl
  rw [hlen] at *
  have hi:i=0∨i=1∨i=2:=by omega
  rcases hi with h | h | h <;> subst h
  ·rw [show nx 3 0=1 from rfl] at *
   have:j=2:=by omega
   subst this;rw [q0,q1,q2,e012];omega
  ·rw [show nx 3 1=2 from rfl] at *
   have:j=0:=by omega
   subst this;rw [q0,q1,q2,← mg,e012];omega
  ·rw [show nx 3 2=0 from rfl] at *
   have:j=1:=by omega
   subst this;rw [q0,q1,q2,mg,e012];omega
 ·generalize hl:[(-W,-H,()),(W,-H,()),(x,H,())]=l at *
  have hlen:len l=3:=by rw [← hl]; rfl
  intro i i0 i1;have q0:q l 0=(-W,-H,()):=by rw [← hl]; rfl
  have q1:q l 1=(W,-H,()):=by rw [← hl]; rfl
  have q2:q l 2=(x,H,()):=by rw [← hl]; rfl
  rw [hlen] at *
  have hi:i=0∨i=1∨i=2:=by omega
  rcases hi with h | h | h <;> subst h
  ·rw [show nx 3 0=1 from rfl,q0,q1]
   have e:fb (-W,-H,()) (W,-H,()) bK=2*(W*H):=by unfold fb; dsimp only; grind
   rw [e];omega
  ·rw [show nx 3 1=2 from rfl,q1,q2]
   have e:fb (W,-H,()) (x,H,()) bK=H*(x+W):=by unfold fb; dsimp only; grind
   rw [e];exact ha
  ·rw [show nx 3 2=0 from rfl,q2,q0]
   have e:fb (x,H,()) (-W,-H,()) bK=H*(W - x):=by unfold fb; dsimp only; grind
   rw [e];exact hb
theorem xH (k:Nat) (raw:List Int):∃ l,jF k raw=some l∧sf l:=by
 obtain ⟨l,a,b,e,ha,hb,h⟩:=zM k raw;refine ⟨l,e,?_⟩;have T:=List.all_eq_true.1 (List.all_eq_true.1 vF a (List.mem_range.2 ha)) b (List.mem_range.2 hb);simp only [Bool.and_eq_true] at T;rcases h with h | h | h | ⟨x,h0,h1,h⟩
 ·rw [h]; exact om T.1
 ·rw [h]; exact om T.2.1
 ·rw [h]; exact om T.2.2
 ·rw [h]; exact zK (by omega) (by omega) (by omega) (by omega) h0 h1
theorem size_eq (k:Nat) {v:aB} {M:Int} (hM:M≤1000000000) (h:-M≤v.1∧v.1≤M∧-M≤v.2.1∧v.2.1≤M):∃ s,fe k v=some s∧0≤s∧s≤2*M:=by
 have n1:c9 .i64 v.1=-v.1:=by unfold c9; rw [wrap_i64 (by omega) (by omega)]; omega
 have n2:c9 .i64 v.2.1=-v.2.1:=by unfold c9; rw [wrap_i64 (by omega) (by omega)]; omega
 have a1:0≤imax v.1 (-v.1)∧imax v.1 (-v.1)≤M:=by unfold imax; split <;> omega
 have a2:0≤imax v.2.1 (-v.2.1)∧imax v.2.1 (-v.2.1)≤M:=by unfold imax; split <;> omega
 unfold fe;rw [n1,n2,bH (by omega) (by omega)];exact ⟨_,rfl,by omega,by omega⟩
theorem FL (k:Nat) {l:List aB} (hm:Made l) (ht:xQ l) {i j:Int} (i0:0≤i) (i1:i<len l) (j0:0≤j) (j1:j<len l):aK.c3 k l i j=some false:=by
 have h5:=hm.2.1;have hn:=dK i0 i1;have hi:=hm.2.2.1 i i0 i1;have hj:=hm.2.2.1 j j0 j1;have hx:=hm.2.2.1 _ hn.1 hn.2;unfold aK.c3
 by_cases a:j=i
 ·rw [ek a,bF]
 rw [jh a,bT,rP (show nz (len l) by unfold nz; omega),gU i0 i1 (by omega)]
 by_cases b:j=nx (len l) i
 ·rw [ek b,bF]
 rw [jh b,bT];have hT:=ht i j i0 i1 j0 j1 a b;have Dh:el bK l i=q l i:=rfl;have Ce:el bK l (nx (len l) i)=q l (nx (len l) i):=rfl;have FZ:el bK l j=q l j:=rfl;rw [Dh,Ce,FZ];have s1:aU .i64 (q l (nx (len l) i)).1 (q l i).1=(q l (nx (len l) i)).1 - (q l i).1:=cR (by omega) (by omega);have s2:aU .i64 (q l (nx (len l) i)).2.1 (q l i).2.1=(q l (nx (len l) i)).2.1 - (q l i).2.1:=cR (by omega) (by omega);have s3:aU .i64 (q l j).1 (q l i).1=(q l j).1 - (q l i).1:=cR (by omega) (by omega);have s4:aU .i64 (q l j).2.1 (q l i).2.1=(q l j).2.1 - (q l i).2.1:=cR (by omega) (by omega);rw [s1,s2,s3,s4];obtain ⟨u,e1,u0,u1⟩:=size_eq k (v:=((q l (nx (len l) i)).1 - (q l i).1,(q l (nx (len l) i)).2.1 - (q l i).2.1,())) (M:=524288) (by decide) (by dsimp only; omega);obtain ⟨w,e2,w0,w1⟩:=size_eq k (v:=((q l j).1 - (q l i).1,(q l j).2.1 - (q l i).2.1,())) (M:=524288) (by decide) (by dsimp only; omega);have p1:=dB (x:=(q l (nx (len l) i)).1 - (q l i).1) (y:=(q l j).2.1 - (q l i).2.1) (M:=524288) (N:=524288) (by omega) (by omega) (by omega) (by omega);have p2:=dB (x:=(q l (nx (len l) i)).2.1 - (q l i).2.1) (y:=(q l j).1 - (q l i).1) (M:=524288) (N:=524288) (by omega) (by omega) (by omega) (by omega);rw [e1,bS,e2,bS,dr (x:=(q l (nx (len l) i)).1 - (q l i).1) (by omega) (by omega),dr (x:=(q l (nx (len l) i)).2.1 - (q l i).2.1) (by omega) (by omega),cR (by omega) (by omega),bH (by omega) (by omega),dr (by omega) (by omega)];have:fb (q l i) (q l (nx (len l) i)) (q l j)=((q l (nx (len l) i)).1 - (q l i).1)*((q l j).2.1 - (q l i).2.1) - ((q l (nx (len l) i)).2.1 - (q l i).2.1)*((q l j).1 - (q l i).1):=rfl;rw [cD (by omega)]
theorem ES {k:Nat} (hk:9≤k) {l:List aB} (hm:Made l) (ht:xQ l):aK k l=some true:=by
 have h5:=hm.2.1;have h3:=hm.1;have c2:∀ i,0≤i→i<len l→aK.c2 k l i k 0=some (.inr ()):=by
  intro i i0 i1;have H:=iH (fun n v=>aK.c2 k l i n v) 0 (len l) (fun _=>False) (fun _=>())
   (by intro n v _ _ h; exact h.elim)
   (by
    intro n v a b _;show aK.c2 k l i (n+1) v=aK.c2 k l i n (v+1)
    rw [aK.c2,cB b,bT,rP (cZ a b),FL k hm ht i0 i1 a b,bS,bF,bH (by omega) (by omega)])
   (by
    intro n v a b;show aK.c2 k l i (n+1) v=_
    rw [aK.c2,cD b,bF])
   k 0 (by omega) (by omega)
  rcases H with ⟨_,_,_,h,_⟩ | ⟨_,h⟩
  ·exact h.elim
  ·exact h (by omega)
 have H:=iH (fun n v=>aK.c1 k l n v) 0 (len l) (fun _=>False) (fun _=>())
  (by intro n v _ _ h; exact h.elim)
  (by
   intro n v a b _;show aK.c1 k l (n+1) v=aK.c1 k l n (v+1);have hn:=dK a b
   rw [aK.c1,cB b,bT,rP (cZ a b),rP (show nz (len l) by unfold nz; omega),gU a b (by omega),rP (cZ hn.1 hn.2),c2 v a b,bS,ig,bH (by omega) (by omega)])
  (by
   intro n v a b;show aK.c1 k l (n+1) v=_
   rw [aK.c1,cD b,bF])
  k 0 (by omega) (by omega)
 unfold aK;rcases H with ⟨_,_,_,h,_⟩ | ⟨_,h⟩
 ·exact h.elim
 ·have h:aK.c1 k l k 0=some (.inr ()):=h (by omega)
  rw [h,bS,ig]
open Classical in
theorem BE {k:Nat} (hk:9≤k) {l:List aB} (h:sf l):b6 k l=some 0:=by
 have hv:=Ci h.1;have h5:=h.1.2.1;have hf:∀ x:aB,(fun x:(aB × Unit)=>du k (x.1)) (x,())=some (!decide (-2097152≤x.1∧x.1≤2097152∧-2097152≤x.2.1∧x.2.1≤2097152)):=by
  intro x;show du k x=_;unfold du;rw [jE k x (by decide) (by decide),bS]
 have hcont:=lP (l:=l) (k:=k) (f:=fun x:(aB × Unit)=>du k (x.1)) (by omega) (by omega) (g:=fun x=>!decide (-2097152≤x.1∧x.1≤2097152∧-2097152≤x.2.1∧x.2.1≤2097152)) hf;have hcf:bW k l (fun x:(aB × Unit)=>du k (x.1))=some false:=by
  rcases hcont with ⟨_,i,i0,i1,i2⟩ | ⟨g,_⟩
  ·have:=Fo h.1 i i0 i1
   simp [this] at i2
  ·exact g
 have hhas:bz k l (0,0,())=some true:=by
  rw [yj hk hv];congr 1;exact decide_eq_true ⟨by decide,h.2.2⟩
 unfold b6 b6.c1;rw [iQ hk hv,bS,ek rfl,bF,hcf,bS,bF,ES hk h.1 h.2.1,bS,bT,hhas,bS,bS];rfl
theorem wC (k:Nat) {n a b:Int} (h:a≤n∧n≤b):dg k n a b=some true:=by
 unfold dg;rw [iV (by omega),bT,kU h.2]
theorem tg {k:Nat} (hk:9≤k) {l:List aB} (h:sf l) {p v:aB} {ang spin mass inertia bounce rub calm:Int} {asleep:Bool}
  (hp:-58982400≤p.1∧p.1≤58982400∧-58982400≤p.2.1∧p.2.1≤58982400) (hvv:-268435456≤v.1∧v.1≤268435456∧-268435456≤v.2.1∧v.2.1≤268435456) (hs:-16777216≤spin∧spin≤16777216)
  (ha:0≤ang∧ang≤65535) (hm:0≤mass∧mass≤1099511627776) (hi:0≤inertia∧inertia≤1099511627776) (hb:0≤bounce∧bounce≤65536) (hr:0≤rub∧rub≤65536) (hc:0≤calm∧calm≤1000)
  (hmi:mass=0↔inertia=0) (h0:mass=0→v=(0,0,())∧spin=0∧asleep=false∧calm=0) (h1:asleep=true→v=(0,0,())∧spin=0) :
  aj k (p,v,ang,spin,mass,inertia,bounce,rub,l,asleep,calm,())=some 0:=by
 have e1:aj.c1 k (p,v,ang,spin,mass,inertia,bounce,rub,l,asleep,calm,())=some false:=by
  unfold aj.c1;dsimp only;rw [jE k p (by decide) (by decide),bS,decide_eq_true (by omega),bT,jE k v (by decide) (by decide),bS,decide_eq_true (by omega),bT,wC k (by omega),bS,bT,wC k (by omega),bS];rfl
 have e2:aj.c2 k (p,v,ang,spin,mass,inertia,bounce,rub,l,asleep,calm,())=some false:=by
  unfold aj.c2;dsimp only;rw [wC k (by omega),bS,bT,wC k (by omega),bS,bT,wC k (by omega),bS,bT,wC k (by omega),bS,bT,wC k (by omega),bS];rfl
 have e3:aj.c3 k (p,v,ang,spin,mass,inertia,bounce,rub,l,asleep,calm,())=some (decide (v=(0,0,())∧spin=0)):=by
  unfold aj.c3;dsimp only;have hq:=yo v (0,0,());refine (congrArg (fun b=>aR b (some (gX spin 0)) (some false)) hq).trans ?_
  by_cases a:v=(0,0,())
  ·rw [decide_eq_true a,bT]
   unfold gX;congr 1;rw [decide_eq_decide];exact ⟨fun h=>⟨a,h⟩,fun h=>h.2⟩
  ·rw [decide_eq_false a,bF,decide_eq_false (fun h=>a h.1)]
 have e4:∀ st:Bool,st=decide (v=(0,0,())∧spin=0)→aj.c4 k (p,v,ang,spin,mass,inertia,bounce,rub,l,asleep,calm,()) st=some false:=by
  intro st hst;unfold aj.c4;dsimp only;have hq:Ty.lE T4 (gX mass (0:Int)) (gX inertia (0:Int))=true:=by
   show (gX mass 0 == gX inertia 0)=true;unfold gX;rw [decide_eq_decide.2 hmi];exact beq_self_eq_true _
  refine (congrArg (fun b=>aR b _ (some true)) hq).trans ?_
  rw [bT]
  by_cases a:mass=0
  ·obtain ⟨b1,b2,b3,b4⟩:=h0 a
   rw [fw a,bT,hst,decide_eq_true ⟨b1,b2⟩,bT,b3,bF,ek b4,bF]
  ·rw [fu a,bF]
   cases asleep with
   | false=>rw [bF]
   | true=>rw [bT,hst,decide_eq_true (h1 rfl)]; rfl
 unfold aj;dsimp only;rw [BE hk h,bS,ek rfl,bF,e1,bS,bF,e2,bS,bF,e3,bS,e4 _ rfl,bS,bF]
end Go.Proofs.T1
namespace Go.Proofs.T1
open Go Go.Sx
theorem ka {α β:Type} {x:Option α} {f:α→Option β} {y:β} (h:bG x f=some y):∃ z,x=some z∧f z=some y:=by
 cases x with
 | none=>cases h
 | some z=>exact ⟨z,rfl,h⟩
theorem pL {y c:Int} (h0:0≤y) (h1:y≤1000) (c0:0≤c) (c1:c≤1000):eu .i64 (aN .i64 (aU .i64 y c) 65536) 2=(y - c)*32768:=by
 rw [cR (by omega) (by omega),dr (by omega) (by omega)];unfold eu;have e:(y - c)*65536=(y - c)*32768*2:=by omega
 rw [e,Int.mul_tdiv_cancel _ (by decide),wrap_i64 (by omega) (by omega)]
structure yM (p v:aB) (ang spin mass inertia bounce rub:Int) (l:List aB):Prop where
 hl:sf l
 hp:-655360≤p.1∧p.1≤655360∧-655360≤p.2.1∧p.2.1≤655360
 hv:-327680≤v.1∧v.1≤327680∧-327680≤v.2.1∧v.2.1≤327680
 hang:0≤ang∧ang≤65535
 hspin:-32768≤spin∧spin≤32767
 hbounce:0≤bounce∧bounce≤65536
 hrub:0≤rub∧rub≤65536
 hw:(mass=0∧inertia=0∧v=(0,0,())∧spin=0)∨(65536≤mass∧mass≤524288∧65536≤inertia∧inertia≤1966080)
section
variable {p v:aB} {ang spin mass inertia bounce rub:Int} {l:List aB}
theorem yM.check {k:Nat} (hk:9≤k) (h:yM p v ang spin mass inertia bounce rub l):aj k (p,v,ang,spin,mass,inertia,bounce,rub,l,false,0,())=some 0:=by
 have h1:=h.hp;have h2:=h.hv;have h3:=h.hspin;have h4:=h.hw;refine tg hk h.hl (by omega) (by omega) (by omega) h.hang (by omega) (by omega) h.hbounce h.hrub (by decide) ?_ ?_ (fun h=>by cases h)
 ·omega
 ·intro hm
  rcases h4 with h4 | h4
  ·exact ⟨h4.2.2.1,h4.2.2.2,rfl,rfl⟩
  ·omega
end
end Go.Proofs.T1
namespace Go.Proofs.T1
open Go Go.Sx
theorem Eu (x:Int):CM (CM x)=CM x:=ja (oY x).1 (oY x).2
theorem xo {k:Nat} (hk:2≤k) (a b:Int) {c:Int} (hc:0<c) (hc':c≤1099511627776):aq k a b c=some (CM (jg (CM a*CM b) c)):=by
 rw [← wo hk (oY a) (oY b) hc hc'];unfold aq;rw [gq,bS,gq,bS,gq k (CM a),bS,gq k (CM b),bS,Eu,Eu]
theorem BF {k:Nat} (hk:2≤k) (a b:Int):ez k a b=some (CM (jg (CM a*CM b) 65536)):=by
 unfold ez;rw [xo hk a b (by decide) (by decide),bS]
theorem qg (k:Nat) (a b:Int):gx k a b=some (CM (CM a+CM b)):=by
 have h1:=oY a;have h2:=oY b;unfold gx;rw [gq,bS,gq,bS,bH (by omega) (by omega),gq,bS]
theorem AJ (k:Nat) (a b:Int):gw k a b=some (CM (CM a - CM b)):=by
 have h1:=oY a;have h2:=oY b;unfold gw;rw [gq,bS,gq,bS,cR (by omega) (by omega),gq,bS]
end Go.Proofs.T1
namespace Go.Proofs.T1
open Go Go.Sx
def sz (v:aB):Int:=gp v.1+gp v.2.1
def Aj (l:List aB):Prop:=∀ i j,0≤i→i<len l→0≤j→j<len l→j≠i→j≠nx (len l) i→8*(sz (iU (q l (nx (len l) i)) (q l i))+sz (iU (q l j) (q l i)))≤fb (q l i) (q l (nx (len l) i)) (q l j)
theorem vW {x:Int} (h0:-1000000000000≤x) (h1:x≤1000000000000):imax x (c9 .i64 x)=gp x:=by
 have n1:c9 .i64 x=-x:=by unfold c9; rw [wrap_i64 (by omega) (by omega)]; omega
 rw [n1];unfold imax gp;split <;> split <;> omega
theorem CB {x M:Int} (h0:-M≤x) (h1:x≤M):0≤gp x∧gp x≤M:=by unfold gp; split <;> omega
theorem uL (k:Nat) {v:aB} {M:Int} (hM:M≤1000000000) (h:-M≤v.1∧v.1≤M∧-M≤v.2.1∧v.2.1≤M):fe k v=some (sz v)∧0≤sz v∧sz v≤2*M:=by
 have a1:=CB h.1 h.2.1;have a2:=CB h.2.2.1 h.2.2.2;unfold fe sz;rw [vW (by omega) (by omega),vW (by omega) (by omega),bH (by omega) (by omega)];exact ⟨rfl,by omega,by omega⟩
theorem yD (k:Nat) {l:List aB} (h8:len l≤8) (hr:sH l) {i j:Int} (i0:0≤i) (i1:i<len l) (j0:0≤j) (j1:j<len l) :
  aK.c3 k l i j=some (decide (j≠i∧j≠nx (len l) i∧fb (q l i) (q l (nx (len l) i)) (q l j)<8*(sz (iU (q l (nx (len l) i)) (q l i))+sz (iU (q l j) (q l i))))):=by
 have hn:=dK i0 i1;have hi:=hr i i0 i1;have hj:=hr j j0 j1;have hx:=hr _ hn.1 hn.2;unfold aK.c3
 by_cases a:j=i
 ·rw [ek a,bF,decide_eq_false (fun h=>h.1 a)]
 rw [jh a,bT,rP (show nz (len l) by unfold nz; omega),gU i0 i1 (by omega)]
 by_cases b:j=nx (len l) i
 ·rw [ek b,bF,decide_eq_false (fun h=>h.2.1 b)]
 rw [jh b,bT];have Dh:el bK l i=q l i:=rfl;have Ce:el bK l (nx (len l) i)=q l (nx (len l) i):=rfl;have FZ:el bK l j=q l j:=rfl;rw [Dh,Ce,FZ];have s1:aU .i64 (q l (nx (len l) i)).1 (q l i).1=(q l (nx (len l) i)).1 - (q l i).1:=cR (by omega) (by omega);have s2:aU .i64 (q l (nx (len l) i)).2.1 (q l i).2.1=(q l (nx (len l) i)).2.1 - (q l i).2.1:=cR (by omega) (by omega);have s3:aU .i64 (q l j).1 (q l i).1=(q l j).1 - (q l i).1:=cR (by omega) (by omega);have s4:aU .i64 (q l j).2.1 (q l i).2.1=(q l j).2.1 - (q l i).2.1:=cR (by omega) (by omega);rw [s1,s2,s3,s4];obtain ⟨e1,u0,u1⟩:=uL k (v:=iU (q l (nx (len l) i)) (q l i)) (M:=4194304) (by decide) (by unfold iU; dsimp only; omega);obtain ⟨e2,w0,w1⟩:=uL k (v:=iU (q l j) (q l i)) (M:=4194304) (by decide) (by unfold iU; dsimp only; omega);have e1':fe k ((q l (nx (len l) i)).1 - (q l i).1,(q l (nx (len l) i)).2.1 - (q l i).2.1,())=some (sz (iU (q l (nx (len l) i)) (q l i))):=e1;have e2':fe k ((q l j).1 - (q l i).1,(q l j).2.1 - (q l i).2.1,())=some (sz (iU (q l j) (q l i))):=e2;have p1:=dB (x:=(q l (nx (len l) i)).1 - (q l i).1) (y:=(q l j).2.1 - (q l i).2.1) (M:=4194304) (N:=4194304) (by omega) (by omega) (by omega) (by omega);have p2:=dB (x:=(q l (nx (len l) i)).2.1 - (q l i).2.1) (y:=(q l j).1 - (q l i).1) (M:=4194304) (N:=4194304) (by omega) (by omega) (by omega) (by omega);rw [e1',bS,e2',bS,dr (x:=(q l (nx (len l) i)).1 - (q l i).1) (by omega) (by omega),dr (x:=(q l (nx (len l) i)).2.1 - (q l i).2.1) (by omega) (by omega),cR (by omega) (by omega),bH (by omega) (by omega),dr (by omega) (by omega)];unfold fq;congr 1;rw [decide_eq_decide];exact ⟨fun h=>⟨a,b,h⟩,fun h=>h.2.2⟩
open Classical in
theorem CU {k:Nat} (hk:9≤k) {l:List aB} (h3:3≤len l) (h8:len l≤8) (hr:sH l):aK k l=some (decide (Aj l)):=by
 have c2:∀ i,0≤i→i<len l→(aK.c2 k l i k 0=some (.inl ())∧∃ j,0≤j∧j<len l∧(j≠i∧j≠nx (len l) i∧fb (q l i) (q l (nx (len l) i)) (q l j)<8*(sz (iU (q l (nx (len l) i)) (q l i))+sz (iU (q l j) (q l i))))) ∨
   (aK.c2 k l i k 0=some (.inr ())∧∀ j,0≤j→j<len l→¬ (j≠i∧j≠nx (len l) i∧fb (q l i) (q l (nx (len l) i)) (q l j)<8*(sz (iU (q l (nx (len l) i)) (q l i))+sz (iU (q l j) (q l i))))):=by
  intro i i0 i1;have H:=iH (fun n v=>aK.c2 k l i n v) 0 (len l) (fun j=>j≠i∧j≠nx (len l) i∧fb (q l i) (q l (nx (len l) i)) (q l j)<8*(sz (iU (q l (nx (len l) i)) (q l i))+sz (iU (q l j) (q l i)))) (fun _=>())
   (by
    intro n v a b c;show aK.c2 k l i (n+1) v=_
    rw [aK.c2,cB b,bT,rP (cZ a b),yD k h8 hr i0 i1 a b,bS,decide_eq_true c,bT])
   (by
    intro n v a b c;show aK.c2 k l i (n+1) v=aK.c2 k l i n (v+1)
    rw [aK.c2,cB b,bT,rP (cZ a b),yD k h8 hr i0 i1 a b,bS,decide_eq_false c,bF,bH (by omega) (by omega)])
   (by
    intro n v a b;show aK.c2 k l i (n+1) v=_
    rw [aK.c2,cD b,bF])
   k 0 (by omega) (by omega)
  rcases H with ⟨j,a,b,c,_,e⟩ | ⟨a,e⟩
  ·exact Or.inl ⟨e,j,a,b,c⟩
  ·exact Or.inr ⟨e (by omega),a⟩
 have H:=iH (fun n v=>aK.c1 k l n v) 0 (len l) (fun i=>∃ j,0≤j∧j<len l∧(j≠i∧j≠nx (len l) i∧fb (q l i) (q l (nx (len l) i)) (q l j)<8*(sz (iU (q l (nx (len l) i)) (q l i))+sz (iU (q l j) (q l i))))) (fun _=>())
  (by
   intro n v a b c;show aK.c1 k l (n+1) v=_;have hn:=dK a b;rw [aK.c1,cB b,bT,rP (cZ a b),rP (show nz (len l) by unfold nz; omega),gU a b (by omega),rP (cZ hn.1 hn.2)];rcases c2 v a b with ⟨e,_⟩ | ⟨_,e⟩
   ·rw [e,bS,ir]
   ·obtain ⟨j,x,y,z⟩:=c
    exact absurd z (e j x y))
  (by
   intro n v a b c;show aK.c1 k l (n+1) v=aK.c1 k l n (v+1);have hn:=dK a b;rw [aK.c1,cB b,bT,rP (cZ a b),rP (show nz (len l) by unfold nz; omega),gU a b (by omega),rP (cZ hn.1 hn.2)];rcases c2 v a b with ⟨_,e⟩ | ⟨e,_⟩
   ·exact absurd e c
   ·rw [e,bS,ig,bH (by omega) (by omega)])
  (by
   intro n v a b;show aK.c1 k l (n+1) v=_
   rw [aK.c1,cD b,bF])
  k 0 (by omega) (by omega)
 unfold aK;rcases H with ⟨i,a,b,⟨j,c,d,f⟩,_,e⟩ | ⟨a,e⟩
 ·have e:aK.c1 k l k 0=some (.inl ()):=e
  rw [e,bS,ir,decide_eq_false];intro h;have:=h i j a b c d f.1 f.2.1;omega
 ·have e:aK.c1 k l k 0=some (.inr ()):=e (by omega)
  rw [e,bS,ig,decide_eq_true];intro i j i0 i1 j0 j1 h1 h2;have:=a i i0 i1;rcases Int.lt_or_le (fb (q l i) (q l (nx (len l) i)) (q l j)) (8*(sz (iU (q l (nx (len l) i)) (q l i))+sz (iU (q l j) (q l i)))) with g | g
  ·exact absurd ⟨j,j0,j1,h1,h2,g⟩ this
  ·exact g
def EK (l:List aB) (e:Int):Prop :=
 (Et l e∧e≠0)∨(jx l∧¬ sH l∧e=1)∨(jx l∧sH l∧¬ (Aj l∧pY l bK)∧e=3)∨(jx l∧sH l∧Aj l∧pY l bK∧e=0)
open Classical in
theorem Al {k:Nat} (hk:9≤k) (l:List aB):∃ e,b6 k l=some e∧EK l e:=by
 obtain ⟨c,e1,c1⟩:=vd hk l;unfold b6;rw [e1,bS]
 by_cases hc:c=0
 ·subst hc
  have hv:=AI c1;have h8:=hv.2.1;rw [ek rfl,bF];have hf:∀ x:aB,(fun x:(aB × Unit)=>du k (x.1)) (x,())=some (!decide (-2097152≤x.1∧x.1≤2097152∧-2097152≤x.2.1∧x.2.1≤2097152)):=by
   intro x;show du k x=_;unfold du;rw [jE k x (by decide) (by decide),bS]
  rcases lP (l:=l) (k:=k) (f:=fun x:(aB × Unit)=>du k (x.1)) (by omega) (by omega) (g:=fun x=>!decide (-2097152≤x.1∧x.1≤2097152∧-2097152≤x.2.1∧x.2.1≤2097152)) hf with ⟨g,i,i0,i1,i2⟩ | ⟨g,g2⟩
  ·rw [g,bS,bT]
   refine ⟨1,rfl,Or.inr (Or.inl ⟨hv,fun h=>?_,rfl⟩)⟩;have:=h i i0 i1;simp [this] at i2
  ·have hr:sH l:=by
    intro i i0 i1;have:=g2 i i0 i1
    simpa using this
   rw [g,bS,bF];unfold b6.c1;rw [CU hk hv.1 h8 hr,bS]
   by_cases hF:Aj l
   ·rw [decide_eq_true hF,bT,yj hk hv,bS,bS]
    by_cases hI:pY l bK
    ·have:(Wn (0,0,())∧pY l (0,0,())):=⟨by decide,hI⟩
     rw [decide_eq_true this];exact ⟨0,rfl,Or.inr (Or.inr (Or.inr ⟨hv,hr,hF,hI,rfl⟩))⟩
    ·have:¬ (Wn (0,0,())∧pY l (0,0,())):=fun h=>hI h.2
     rw [decide_eq_false this];exact ⟨3,rfl,Or.inr (Or.inr (Or.inl ⟨hv,hr,fun h=>hI h.2,rfl⟩))⟩
   ·rw [decide_eq_false hF,bF,bS,bT]
    exact ⟨3,rfl,Or.inr (Or.inr (Or.inl ⟨hv,hr,fun h=>hF h.1,rfl⟩))⟩
 ·rw [jh hc,bT]
  exact ⟨c,rfl,Or.inl ⟨c1,hc⟩⟩
end Go.Proofs.T1
namespace Go.Proofs.T1
open Go Go.Sx
def Bd (a:aB) (m:Int):Prop:=-m≤a.1∧a.1≤m∧-m≤a.2.1∧a.2.1≤m
instance (a:aB) (m:Int):Decidable (Bd a m):=by unfold Bd; infer_instance
def R1 (p v:aB) (ang spin:Int):Prop:=Bd p 58982400∧Bd v 268435456∧(-16777216≤spin∧spin≤16777216)∧(0≤ang∧ang≤65535)
def R2 (mass inertia bounce rub calm:Int):Prop:=(0≤mass∧mass≤1099511627776)∧(0≤inertia∧inertia≤1099511627776)∧(0≤bounce∧bounce≤65536)∧(0≤rub∧rub≤65536)∧(0≤calm∧calm≤1000)
def R3 (v:aB) (spin mass inertia:Int) (asleep:Bool) (calm:Int):Prop:=(mass=0↔inertia=0)∧(mass=0→v=(0,0,())∧spin=0∧asleep=false∧calm=0)∧(asleep=true→v=(0,0,())∧spin=0)
instance (p v:aB) (ang spin:Int):Decidable (R1 p v ang spin):=by unfold R1; infer_instance
instance (a b c d e:Int):Decidable (R2 a b c d e):=by unfold R2; infer_instance
def Bc (p v:aB) (ang spin mass inertia bounce rub:Int) (l:List aB) (asleep:Bool) (calm:Int) (e:Int):Prop :=
 (EK l e∧e≠0)∨(EK l 0∧¬ (R1 p v ang spin∧R2 mass inertia bounce rub calm)∧e=1)∨(EK l 0∧R1 p v ang spin∧R2 mass inertia bounce rub calm∧¬ R3 v spin mass inertia asleep calm∧e=3) ∨
 (EK l 0∧R1 p v ang spin∧R2 mass inertia bounce rub calm∧R3 v spin mass inertia asleep calm∧e=0)
section
variable {p v:aB} {ang spin mass inertia bounce rub:Int} {l:List aB} {asleep:Bool} {calm:Int}
theorem lk (k:Nat) (n a b:Int):dg k n a b=some (decide (a≤n∧n≤b)):=by
 unfold dg
 by_cases h:n ≥ a
 ·rw [iV h,bT]
  unfold jw;congr 1;rw [decide_eq_decide];exact ⟨fun x=>⟨h,x⟩,fun x=>x.2⟩
 ·rw [jZ (by omega),bF,decide_eq_false (fun x=>h x.1)]
theorem zC (k:Nat):aj.c1 k (p,v,ang,spin,mass,inertia,bounce,rub,l,asleep,calm,())=some (!decide (R1 p v ang spin)):=by
 unfold aj.c1 R1;dsimp only;rw [jE k p (by decide) (by decide),bS,jE k v (by decide) (by decide),lk,lk];have e1:(-58982400≤p.1∧p.1≤58982400∧-58982400≤p.2.1∧p.2.1≤58982400)=Bd p 58982400:=rfl;have e2:(-268435456≤v.1∧v.1≤268435456∧-268435456≤v.2.1∧v.2.1≤268435456)=Bd v 268435456:=rfl
 by_cases h1:Bd p 58982400 <;> by_cases h2:Bd v 268435456 <;> by_cases h3:(-16777216≤spin∧spin≤16777216) <;> by_cases h4:(0≤ang∧ang≤65535) <;>
  simp [e1,e2,h1,h2,h3,h4,aR,bG]
theorem Ah (k:Nat):aj.c2 k (p,v,ang,spin,mass,inertia,bounce,rub,l,asleep,calm,())=some (!decide (R2 mass inertia bounce rub calm)):=by
 unfold aj.c2 R2;dsimp only;rw [lk,lk,lk,lk,lk]
 by_cases h1:(0≤mass∧mass≤1099511627776) <;> by_cases h2:(0≤inertia∧inertia≤1099511627776) <;> by_cases h3:(0≤bounce∧bounce≤65536) <;> by_cases h4:(0≤rub∧rub≤65536) <;> by_cases h5:(0≤calm∧calm≤1000) <;>
  simp [h1,h2,h3,h4,h5,aR,bG]
theorem zR (k:Nat):aj.c3 k (p,v,ang,spin,mass,inertia,bounce,rub,l,asleep,calm,())=some (decide (v=(0,0,())∧spin=0)):=by
 unfold aj.c3;dsimp only;refine (congrArg (fun b=>aR b (some (gX spin 0)) (some false)) (yo v (0,0,()))).trans ?_
 by_cases a:v=(0,0,())
 ·rw [decide_eq_true a,bT]
  unfold gX;congr 1;rw [decide_eq_decide];exact ⟨fun h=>⟨a,h⟩,fun h=>h.2⟩
 ·rw [decide_eq_false a,bF,decide_eq_false (fun h=>a h.1)]
open Classical in
theorem Am (k:Nat) {st:Bool} (hst:st=decide (v=(0,0,())∧spin=0)):aj.c4 k (p,v,ang,spin,mass,inertia,bounce,rub,l,asleep,calm,()) st=some (decide (¬ R3 v spin mass inertia asleep calm)):=by
 have hs:st=true↔(v=(0,0,())∧spin=0):=by rw [hst]; exact decide_eq_true_iff
 have out:∀ {b:Bool},(b=true↔¬ R3 v spin mass inertia asleep calm)→some b=some (decide (¬ R3 v spin mass inertia asleep calm)):=by
  intro b hb;congr 1
  by_cases h:¬ R3 v spin mass inertia asleep calm
  ·rw [decide_eq_true h]; exact hb.2 h
  ·rw [decide_eq_false h]
   cases b
   ·rfl
   ·exact absurd (hb.1 rfl) h
 unfold aj.c4;dsimp only;have hq:Ty.lE T4 (gX mass (0:Int)) (gX inertia (0:Int))=(gX mass 0 == gX inertia 0):=rfl;refine (congrArg (fun b=>aR b _ (some true)) hq).trans ?_
 unfold R3 at out ⊢
 by_cases a:mass=0 <;> by_cases b:inertia=0
 ·rw [fw a,fw b]
  show aR true _ _=_;rw [bT,bT];cases st with
  | false =>
   rw [bF];exact out ⟨fun _ h=>(by have:=hs.2 ⟨(h.2.1 a).1,(h.2.1 a).2.1⟩; cases this),fun _=>rfl⟩
  | true =>
   rw [bT];have hv:=hs.1 rfl;cases asleep with
   | true =>
    rw [bT];exact out ⟨fun _ h=>(by have:=(h.2.1 a).2.2.1; cases this),fun _=>rfl⟩
   | false =>
    rw [bF]
    by_cases c:calm=0
    ·rw [ek c,bF]
     exact out ⟨fun h=>absurd h Bool.false_ne_true,fun h=>absurd ⟨⟨fun _=>b,fun _=>a⟩,fun _=>⟨hv.1,hv.2,rfl,c⟩,fun h=>by cases h⟩ h⟩
    ·rw [jh c,bT]
     exact out ⟨fun _ h=>c (h.2.1 a).2.2.2,fun _=>rfl⟩
 ·rw [fw a,fu b]
  exact out ⟨fun _ h=>b (h.1.1 a),fun _=>rfl⟩
 ·rw [fu a,fw b]
  exact out ⟨fun _ h=>a (h.1.2 b),fun _=>rfl⟩
 ·rw [fu a,fu b]
  show aR true _ _=_;rw [bT,bF];cases asleep with
  | false =>
   rw [bF];exact out ⟨fun h=>absurd h Bool.false_ne_true,fun h=>absurd ⟨⟨fun h=>absurd h a,fun h=>absurd h b⟩,fun h=>absurd h a,fun h=>by cases h⟩ h⟩
  | true =>
   rw [bT];cases st with
   | true=>exact out ⟨fun h=>absurd h Bool.false_ne_true,fun h=>absurd ⟨⟨fun h=>absurd h a,fun h=>absurd h b⟩,fun h=>absurd h a,fun _=>hs.1 rfl⟩ h⟩
   | false=>exact out ⟨fun _ h=>(by have:=hs.2 (h.2.2 rfl); cases this),fun _=>rfl⟩
open Classical in
theorem mD {k:Nat} (hk:9≤k):∃ e,aj k (p,v,ang,spin,mass,inertia,bounce,rub,l,asleep,calm,())=some e∧Bc p v ang spin mass inertia bounce rub l asleep calm e:=by
 obtain ⟨s,e1,hs⟩:=Al hk l;unfold aj;dsimp only;rw [e1,bS]
 by_cases h0:s=0
 ·subst h0
  rw [ek rfl,bF,zC,bS]
  by_cases h1:R1 p v ang spin
  ·rw [decide_eq_true h1]
   show ∃ e,aR false _ _=some e∧_;rw [bF,Ah,bS]
   by_cases h2:R2 mass inertia bounce rub calm
   ·rw [decide_eq_true h2]
    show ∃ e,aR false _ _=some e∧_;rw [bF,zR,bS,Am k rfl,bS]
    by_cases h3:R3 v spin mass inertia asleep calm
    ·rw [decide_eq_false (fun h=>h h3),bF]
     exact ⟨0,rfl,Or.inr (Or.inr (Or.inr ⟨hs,h1,h2,h3,rfl⟩))⟩
    ·rw [decide_eq_true h3,bT]
     exact ⟨3,rfl,Or.inr (Or.inr (Or.inl ⟨hs,h1,h2,h3,rfl⟩))⟩
   ·rw [decide_eq_false h2]
    show ∃ e,aR true _ _=some e∧_;rw [bT];exact ⟨1,rfl,Or.inr (Or.inl ⟨hs,fun h=>h2 h.2,rfl⟩)⟩
  ·rw [decide_eq_false h1]
   show ∃ e,aR true _ _=some e∧_;rw [bT];exact ⟨1,rfl,Or.inr (Or.inl ⟨hs,fun h=>h1 h.1,rfl⟩)⟩
 ·rw [jh h0,bT]
  exact ⟨s,rfl,Or.inl ⟨hs,h0⟩⟩
end
end Go.Proofs.T1
