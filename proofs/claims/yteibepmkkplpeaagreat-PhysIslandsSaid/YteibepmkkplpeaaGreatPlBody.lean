import Derived.Test.YteibepmkkplpeaaGreatPlTail
import Derived.Test.YteibepmkkplpeaaGreatG4
import Derived.Test.YteibepmkkplpeaaGreatG5
import Derived.Test.YteibepmkkplpeaaGreatG16
namespace Go.Proofs.T1
open Go Go.Sx
theorem iU (k:Nat) (a:aV) {m:Int} (h0:0≤m) (h1:m≤9223372036854775807):dP k a m=some (decide (-m≤a.1∧a.1≤m∧-m≤a.2.1∧a.2.1≤m)):=by
 have n1:dU .i64 m=-m:=by unfold dU; rw [wrap_i64 (by omega) (by omega)]; omega
 unfold dP;rw [n1]
 by_cases a1:-m≤a.1
 ·rw [il a1,bT]
  by_cases a2:a.1≤m
  ·rw [k8 a2,bT]
   by_cases a3:-m≤a.2.1
   ·rw [il a3,bT]
    unfold jR;congr 1;exact decide_eq_decide.2 ⟨fun h=>⟨a1,a2,a3,h⟩,fun h=>h.2.2.2⟩
   ·rw [gO (by omega),bF,decide_eq_false (fun h=>a3 h.2.2.1)]
  ·rw [mB (by omega),bF,decide_eq_false (fun h=>a2 h.2.1)]
 ·rw [gO (by omega),bF,decide_eq_false (fun h=>a1 h.1)]
end Go.Proofs.T1
namespace Go.Proofs.T1
open Go Go.Sx
def iq (a c:aV):aV:=(a.1 - c.1,a.2.1 - c.2.1,())
def rm (l:List aV):Prop:=∀ i,0≤i→i<len l→-2097152≤(q l i).1∧(q l i).1≤2097152∧-2097152≤(q l i).2.1∧(q l i).2.1≤2097152
end Go.Proofs.T1
namespace Go.Proofs.T1
open Go Go.Sx
theorem Dc {l:List aV} (h:Made l):rm l:=fun i a b=>by have:=h.2.2.1 i a b; omega
end Go.Proofs.T1
namespace Go.Proofs.T1
open Go Go.Sx
theorem yr (k:Nat) (raw:List Int):∃ (l:List aV) (a b:Nat),jc k raw=some l∧a<4∧b<4 ∧
  (l=Cc ((a+1)*65536) ((b+1)*65536)∨l=Ck ((a+1)*65536) ((b+1)*65536)∨l=CD ((a+1)*65536) ((b+1)*65536) ∨
   ∃ x:Int,-(((a:Int)+1)*65536)≤x∧x<((a:Int)+1)*65536∧l=[(-(((a:Int)+1)*65536),-(((b:Int)+1)*65536),()),(((a:Int)+1)*65536,-(((b:Int)+1)*65536),()),(x,((b:Int)+1)*65536,())]):=by
 unfold jc cU;obtain ⟨s1,a,e1,a0,a1⟩:=gB k (raw,()) (n:=4) (by decide) (by decide);obtain ⟨s2,b,e2,b0,b1⟩:=gB k s1 (n:=4) (by decide) (by decide);obtain ⟨s3,c,e3,c0,c1⟩:=gB k s2 (n:=4) (by decide) (by decide);rw [e1,bS,e2,bS,e3,bS];dsimp only;have hw:bh .i64 (aG .i64 1 a) 65536=(a+1)*65536:=by rw [bJ (by omega) (by omega),eJ (by omega) (by omega)]; omega
 have hh:bh .i64 (aG .i64 1 b) 65536=(b+1)*65536:=by rw [bJ (by omega) (by omega),eJ (by omega) (by omega)]; omega
 rw [hw,hh];obtain ⟨a,rfl⟩:=Int.eq_ofNat_of_zero_le a0;obtain ⟨b,rfl⟩:=Int.eq_ofNat_of_zero_le b0
 by_cases h0:c=0
 ·rw [fh h0,bT,bS]
  exact ⟨_,a,b,rfl,by omega,by omega,Or.inl rfl⟩
 rw [eL h0,bF]
 by_cases h1:c=1
 ·rw [fh h1,bT]
  have hW:(65536:Int)≤((a:Int)+1)*65536∧((a:Int)+1)*65536≤262144:=by omega
  have hH:(65536:Int)≤((b:Int)+1)*65536∧((b:Int)+1)*65536≤262144:=by omega
  rw [eJ (x:=2) (by omega) (by omega)];obtain ⟨s4,x,e4,x0,x1⟩:=gB k s3 (n:=2*(((a:Int)+1)*65536)) (by omega) (by omega);rw [e4,bS,bS];dsimp only;have en:dU .i64 (((a:Int)+1)*65536)=-(((a:Int)+1)*65536):=by unfold dU; rw [wrap_i64 (by omega) (by omega)]; omega
  have en2:dU .i64 (((b:Int)+1)*65536)=-(((b:Int)+1)*65536):=by unfold dU; rw [wrap_i64 (by omega) (by omega)]; omega
  rw [en,en2,dN (by omega) (by omega)];exact ⟨_,a,b,rfl,by omega,by omega,Or.inr (Or.inr (Or.inr ⟨x - (((a:Int)+1)*65536),by omega,by omega,rfl⟩))⟩
 rw [eL h1,bF]
 by_cases h2:c=2
 ·rw [fh h2,bT,bS]
  exact ⟨_,a,b,rfl,by omega,by omega,Or.inr (Or.inl rfl)⟩
 ·rw [eL h2,bF,bS]
  exact ⟨_,a,b,rfl,by omega,by omega,Or.inr (Or.inr (Or.inl rfl))⟩
end Go.Proofs.T1
namespace Go.Proofs.T1
open Go Go.Sx
def wz (l:List aV):Prop:=∀ i j,0≤i→i<len l→0≤j→j<len l→j≠i→j≠nx (len l) i→1073741824≤im (q l i) (q l (nx (len l) i)) (q l j)
def qC (l:List aV):Prop:=Made l∧wz l∧CB l dT
def zx (l:List aV):Bool:=(List.range l.length).all fun i=>(List.range l.length).all fun j =>
 Nat.beq j i || (Nat.beq j (if i+1=l.length then 0 else i+1) || decide (1073741824≤im (l.getD i dT) (l.getD (if i+1=l.length then 0 else i+1) dT) (l.getD j dT)))
theorem vE {l:List aV} (i:Nat):nx (len l) (i:Int)=((if i+1=l.length then 0 else i+1:Nat):Int):=by
 unfold nx len;split <;> split <;> omega
theorem xe {l:List aV} (h:zx l=true):wz l:=by
 intro i j h0 h1 h2 h3 h4 h5;obtain ⟨i,rfl⟩:=Int.eq_ofNat_of_zero_le h0;obtain ⟨j,rfl⟩:=Int.eq_ofNat_of_zero_le h2;have hi:i<l.length:=by unfold len at h1; omega
 have hj:j<l.length:=by unfold len at h3; omega
 have h6:=List.all_eq_true.1 (List.all_eq_true.1 h i (List.mem_range.2 hi)) j (List.mem_range.2 hj);simp only [Bool.or_eq_true,decide_eq_true_eq] at h6;rcases h6 with h6 | h6 | h6
 ·exact absurd (congrArg Int.ofNat (Nat.eq_of_beq_eq_true h6)) h4
 ·rw [vE] at h5
  exact absurd (congrArg Int.ofNat (Nat.eq_of_beq_eq_true h6)) h5
 ·rw [vE]
  exact h6
def EW (l:List aV):Bool:=(List.range l.length).all fun i=>decide (0≤im (l.getD i dT) (l.getD (if i+1=l.length then 0 else i+1) dT) dT)
theorem CO {l:List aV} (h:EW l=true):CB l dT:=by
 intro i h0 h1;obtain ⟨i,rfl⟩:=Int.eq_ofNat_of_zero_le h0;have hi:i<l.length:=by unfold len at h1; omega
 have h6:=List.all_eq_true.1 h i (List.mem_range.2 hi);simp only [decide_eq_true_eq] at h6;rw [vE];exact h6
def ph (l:List aV):Bool:=Aq l && (zx l && EW l)
theorem nk {l:List aV} (h:ph l=true):qC l:=by
 simp only [ph,Bool.and_eq_true] at h;exact ⟨zs h.1,xe h.2.1,CO h.2.2⟩
theorem tI:(List.range 4).all (fun a=>(List.range 4).all fun b=>ph (Cc ((a+1)*65536) ((b+1)*65536)) && (ph (Ck ((a+1)*65536) ((b+1)*65536)) && ph (CD ((a+1)*65536) ((b+1)*65536))))=true:=by decide +kernel
theorem xQ {W H x:Int} (hW0:65536≤W) (hW1:W≤262144) (hH0:65536≤H) (hH1:H≤262144) (h0:-W≤x) (h1:x<W):qC [(-W,-H,()),(W,-H,()),(x,H,())]:=by
 have hWH:(65536:Int)*65536≤W*H:=Int.mul_le_mul hW0 hH0 (by decide) (by omega);have e012:im (-W,-H,()) (W,-H,()) (x,H,())=4*(W*H):=by unfold im; dsimp only; grind
 have hm:Made [(-W,-H,()),(W,-H,()),(x,H,())]:=by
  refine ⟨by show (3:Int)≤3; decide,by show (3:Int)≤5; decide,?_,ss (by rw [e012]; omega)⟩;apply we;simp only [Dz,List.all_cons,List.all_nil,Bool.and_true,Bool.and_eq_true,decide_eq_true_eq];omega
 have ha:0≤H*(x+W):=Int.mul_nonneg (by omega) (by omega);have hb:0≤H*(W - x):=Int.mul_nonneg (by omega) (by omega);refine ⟨hm,?_,?_⟩
 ·generalize hl:[(-W,-H,()),(W,-H,()),(x,H,())]=l at *
  have hlen:len l=3:=by rw [← hl]; rfl
  intro i j i0 i1 j0 j1 hji hjn;have q0:q l 0=(-W,-H,()):=by rw [← hl]; rfl
  have q1:q l 1=(W,-H,()):=by rw [← hl]; rfl
  have q2:q l 2=(x,H,()):=by rw [← hl]; rfl
  rw [hlen] at *
  have hi:i=0∨i=1∨i=2:=by omega
  rcases hi with h | h | h <;> subst h
  ·rw [show nx 3 0=1 from rfl] at *
   have:j=2:=by omega
   subst this;rw [q0,q1,q2,e012];omega
  ·rw [show nx 3 1=2 from rfl] at *
   have:j=0:=by omega
   subst this;rw [q0,q1,q2,← oT,e012];omega
  ·rw [show nx 3 2=0 from rfl] at *
   have:j=1:=by omega
   subst this;rw [q0,q1,q2,oT,e012];omega
 ·generalize hl:[(-W,-H,()),(W,-H,()),(x,H,())]=l at *
  have hlen:len l=3:=by rw [← hl]; rfl
  intro i i0 i1;have q0:q l 0=(-W,-H,()):=by rw [← hl]; rfl
  have q1:q l 1=(W,-H,()):=by rw [← hl]; rfl
  have q2:q l 2=(x,H,()):=by rw [← hl]; rfl
  rw [hlen] at *
  have hi:i=0∨i=1∨i=2:=by omega
  rcases hi with h | h | h <;> subst h
  ·rw [show nx 3 0=1 from rfl,q0,q1]
   have e:im (-W,-H,()) (W,-H,()) dT=2*(W*H):=by unfold im; dsimp only; grind
   rw [e];omega
  ·rw [show nx 3 1=2 from rfl,q1,q2]
   have e:im (W,-H,()) (x,H,()) dT=H*(x+W):=by unfold im; dsimp only; grind
   rw [e];exact ha
  ·rw [show nx 3 2=0 from rfl,q2,q0]
   have e:im (x,H,()) (-W,-H,()) dT=H*(W - x):=by unfold im; dsimp only; grind
   rw [e];exact hb
theorem vu (k:Nat) (raw:List Int):∃ l,jc k raw=some l∧qC l:=by
 obtain ⟨l,a,b,e,ha,hb,h⟩:=yr k raw;refine ⟨l,e,?_⟩;have T:=List.all_eq_true.1 (List.all_eq_true.1 tI a (List.mem_range.2 ha)) b (List.mem_range.2 hb);simp only [Bool.and_eq_true] at T;rcases h with h | h | h | ⟨x,h0,h1,h⟩
 ·rw [h]; exact nk T.1
 ·rw [h]; exact nk T.2.1
 ·rw [h]; exact nk T.2.2
 ·rw [h]; exact xQ (by omega) (by omega) (by omega) (by omega) h0 h1
theorem size_eq (k:Nat) {v:aV} {M:Int} (hM:M≤1000000000) (h:-M≤v.1∧v.1≤M∧-M≤v.2.1∧v.2.1≤M):∃ s,eG k v=some s∧0≤s∧s≤2*M:=by
 have n1:dU .i64 v.1=-v.1:=by unfold dU; rw [wrap_i64 (by omega) (by omega)]; omega
 have n2:dU .i64 v.2.1=-v.2.1:=by unfold dU; rw [wrap_i64 (by omega) (by omega)]; omega
 have a1:0≤imax v.1 (-v.1)∧imax v.1 (-v.1)≤M:=by unfold imax; split <;> omega
 have a2:0≤imax v.2.1 (-v.2.1)∧imax v.2.1 (-v.2.1)≤M:=by unfold imax; split <;> omega
 unfold eG;rw [n1,n2,bJ (by omega) (by omega)];exact ⟨_,rfl,by omega,by omega⟩
theorem CT (k:Nat) {l:List aV} (hm:Made l) (ht:wz l) {i j:Int} (i0:0≤i) (i1:i<len l) (j0:0≤j) (j1:j<len l):aP.c3 k l i j=some false:=by
 have h5:=hm.2.1;have hn:=fB i0 i1;have hi:=hm.2.2.1 i i0 i1;have hj:=hm.2.2.1 j j0 j1;have hx:=hm.2.2.1 _ hn.1 hn.2;unfold aP.c3
 by_cases a:j=i
 ·rw [dE a,bF]
 rw [gu a,bT,rP (show nz (len l) by unfold nz; omega),gU i0 i1 (by omega)]
 by_cases b:j=nx (len l) i
 ·rw [dE b,bF]
 rw [gu b,bT];have hT:=ht i j i0 i1 j0 j1 a b;have hq1:el dT l i=q l i:=rfl;have hq2:el dT l (nx (len l) i)=q l (nx (len l) i):=rfl;have hq3:el dT l j=q l j:=rfl;rw [hq1,hq2,hq3];have s1:bQ .i64 (q l (nx (len l) i)).1 (q l i).1=(q l (nx (len l) i)).1 - (q l i).1:=dN (by omega) (by omega);have s2:bQ .i64 (q l (nx (len l) i)).2.1 (q l i).2.1=(q l (nx (len l) i)).2.1 - (q l i).2.1:=dN (by omega) (by omega);have s3:bQ .i64 (q l j).1 (q l i).1=(q l j).1 - (q l i).1:=dN (by omega) (by omega);have s4:bQ .i64 (q l j).2.1 (q l i).2.1=(q l j).2.1 - (q l i).2.1:=dN (by omega) (by omega);rw [s1,s2,s3,s4];obtain ⟨u,e1,u0,u1⟩:=size_eq k (v:=((q l (nx (len l) i)).1 - (q l i).1,(q l (nx (len l) i)).2.1 - (q l i).2.1,())) (M:=524288) (by decide) (by dsimp only; omega);obtain ⟨w,e2,w0,w1⟩:=size_eq k (v:=((q l j).1 - (q l i).1,(q l j).2.1 - (q l i).2.1,())) (M:=524288) (by decide) (by dsimp only; omega);have p1:=eA (x:=(q l (nx (len l) i)).1 - (q l i).1) (y:=(q l j).2.1 - (q l i).2.1) (M:=524288) (N:=524288) (by omega) (by omega) (by omega) (by omega);have p2:=eA (x:=(q l (nx (len l) i)).2.1 - (q l i).2.1) (y:=(q l j).1 - (q l i).1) (M:=524288) (N:=524288) (by omega) (by omega) (by omega) (by omega);rw [e1,bS,e2,bS,eJ (x:=(q l (nx (len l) i)).1 - (q l i).1) (by omega) (by omega),eJ (x:=(q l (nx (len l) i)).2.1 - (q l i).2.1) (by omega) (by omega),dN (by omega) (by omega),bJ (by omega) (by omega),eJ (by omega) (by omega)];have:im (q l i) (q l (nx (len l) i)) (q l j)=((q l (nx (len l) i)).1 - (q l i).1)*((q l j).2.1 - (q l i).2.1) - ((q l (nx (len l) i)).2.1 - (q l i).2.1)*((q l j).1 - (q l i).1):=rfl;rw [cp (by omega)]
theorem C9 {k:Nat} (hk:9≤k) {l:List aV} (hm:Made l) (ht:wz l):aP k l=some true:=by
 have h5:=hm.2.1;have h3:=hm.1;have c2:∀ i,0≤i→i<len l→aP.c2 k l i k 0=some (.inr ()):=by
  intro i i0 i1;have H:=gJ (fun n v=>aP.c2 k l i n v) 0 (len l) (fun _=>False) (fun _=>())
   (by intro n v _ _ h; exact h.elim)
   (by
    intro n v a b _;show aP.c2 k l i (n+1) v=aP.c2 k l i n (v+1)
    rw [aP.c2,cg b,bT,rP (bZ a b),CT k hm ht i0 i1 a b,bS,bF,bJ (by omega) (by omega)])
   (by
    intro n v a b;show aP.c2 k l i (n+1) v=_
    rw [aP.c2,cp b,bF])
   k 0 (by omega) (by omega)
  rcases H with ⟨_,_,_,h,_⟩ | ⟨_,h⟩
  ·exact h.elim
  ·exact h (by omega)
 have H:=gJ (fun n v=>aP.c1 k l n v) 0 (len l) (fun _=>False) (fun _=>())
  (by intro n v _ _ h; exact h.elim)
  (by
   intro n v a b _;show aP.c1 k l (n+1) v=aP.c1 k l n (v+1);have hn:=fB a b
   rw [aP.c1,cg b,bT,rP (bZ a b),rP (show nz (len l) by unfold nz; omega),gU a b (by omega),rP (bZ hn.1 hn.2),c2 v a b,bS,fN,bJ (by omega) (by omega)])
  (by
   intro n v a b;show aP.c1 k l (n+1) v=_
   rw [aP.c1,cp b,bF])
  k 0 (by omega) (by omega)
 unfold aP;rcases H with ⟨_,_,_,h,_⟩ | ⟨_,h⟩
 ·exact h.elim
 ·have h:aP.c1 k l k 0=some (.inr ()):=h (by omega)
  rw [h,bS,fN]
open Classical in
theorem AM {k:Nat} (hk:9≤k) {l:List aV} (h:qC l):bX k l=some 0:=by
 have hv:=zI h.1;have h5:=h.1.2.1;have hf:∀ x:aV,(fun x:(aV × Unit)=>cX k (x.1)) (x,())=some (!decide (-2097152≤x.1∧x.1≤2097152∧-2097152≤x.2.1∧x.2.1≤2097152)):=by
  intro x;show cX k x=_;unfold cX;rw [iU k x (by decide) (by decide),bS]
 have hcont:=kG (l:=l) (k:=k) (f:=fun x:(aV × Unit)=>cX k (x.1)) (by omega) (by omega) (g:=fun x=>!decide (-2097152≤x.1∧x.1≤2097152∧-2097152≤x.2.1∧x.2.1≤2097152)) hf;have hcf:bU k l (fun x:(aV × Unit)=>cX k (x.1))=some false:=by
  rcases hcont with ⟨_,i,i0,i1,i2⟩ | ⟨g,_⟩
  ·have:=Dc h.1 i i0 i1
   simp [this] at i2
  ·exact g
 have hhas:bC k l (0,0,())=some true:=by
  rw [wV hk hv];congr 1;exact decide_eq_true ⟨by decide,h.2.2⟩
 unfold bX bX.c1;rw [jT hk hv,bS,dE rfl,bF,hcf,bS,bF,C9 hk h.1 h.2.1,bS,bT,hhas,bS,bS];rfl
theorem u7 (k:Nat) {n a b:Int} (h:a≤n∧n≤b):cV k n a b=some true:=by
 unfold cV;rw [il (by omega),bT,k8 h.2]
theorem rF {k:Nat} (hk:9≤k) {l:List aV} (h:qC l) {p v:aV} {ang spin mass inertia bounce rub calm:Int} {asleep:Bool}
  (hp:-58982400≤p.1∧p.1≤58982400∧-58982400≤p.2.1∧p.2.1≤58982400) (hvv:-268435456≤v.1∧v.1≤268435456∧-268435456≤v.2.1∧v.2.1≤268435456) (hs:-16777216≤spin∧spin≤16777216)
  (ha:0≤ang∧ang≤65535) (hm:0≤mass∧mass≤1099511627776) (hi:0≤inertia∧inertia≤1099511627776) (hb:0≤bounce∧bounce≤65536) (hr:0≤rub∧rub≤65536) (hc:0≤calm∧calm≤1000)
  (hmi:mass=0↔inertia=0) (h0:mass=0→v=(0,0,())∧spin=0∧asleep=false∧calm=0) (h1:asleep=true→v=(0,0,())∧spin=0) :
  ak k (p,v,ang,spin,mass,inertia,bounce,rub,l,asleep,calm,())=some 0:=by
 have e1:ak.c1 k (p,v,ang,spin,mass,inertia,bounce,rub,l,asleep,calm,())=some false:=by
  unfold ak.c1;dsimp only;rw [iU k p (by decide) (by decide),bS,decide_eq_true (by omega),bT,iU k v (by decide) (by decide),bS,decide_eq_true (by omega),bT,u7 k (by omega),bS,bT,u7 k (by omega),bS];rfl
 have e2:ak.c2 k (p,v,ang,spin,mass,inertia,bounce,rub,l,asleep,calm,())=some false:=by
  unfold ak.c2;dsimp only;rw [u7 k (by omega),bS,bT,u7 k (by omega),bS,bT,u7 k (by omega),bS,bT,u7 k (by omega),bS,bT,u7 k (by omega),bS];rfl
 have e3:ak.c3 k (p,v,ang,spin,mass,inertia,bounce,rub,l,asleep,calm,())=some (decide (v=(0,0,())∧spin=0)):=by
  unfold ak.c3;dsimp only;have hq:=wI v (0,0,());refine (congrArg (fun b=>aX b (some (gI spin 0)) (some false)) hq).trans ?_
  by_cases a:v=(0,0,())
  ·rw [decide_eq_true a,bT]
   unfold gI;congr 1;rw [decide_eq_decide];exact ⟨fun h=>⟨a,h⟩,fun h=>h.2⟩
  ·rw [decide_eq_false a,bF,decide_eq_false (fun h=>a h.1)]
 have e4:∀ st:Bool,st=decide (v=(0,0,())∧spin=0)→ak.c4 k (p,v,ang,spin,mass,inertia,bounce,rub,l,asleep,calm,()) st=some false:=by
  intro st hst;unfold ak.c4;dsimp only;have hq:Ty.od T4 (gI mass (0:Int)) (gI inertia (0:Int))=true:=by
   show (gI mass 0 == gI inertia 0)=true;unfold gI;rw [decide_eq_decide.2 hmi];exact beq_self_eq_true _
  refine (congrArg (fun b=>aX b _ (some true)) hq).trans ?_
  rw [bT]
  by_cases a:mass=0
  ·obtain ⟨b1,b2,b3,b4⟩:=h0 a
   rw [fh a,bT,hst,decide_eq_true ⟨b1,b2⟩,bT,b3,bF,dE b4,bF]
  ·rw [eL a,bF]
   cases asleep with
   | false=>rw [bF]
   | true=>rw [bT,hst,decide_eq_true (h1 rfl)]; rfl
 unfold ak;dsimp only;rw [AM hk h,bS,dE rfl,bF,e1,bS,bF,e2,bS,bF,e3,bS,e4 _ rfl,bS,bF]
end Go.Proofs.T1
namespace Go.Proofs.T1
open Go Go.Sx
theorem DD {α β:Type} {x:Option α} {f:α→Option β} {y:β} (h:bO x f=some y):∃ z,x=some z∧f z=some y:=by
 cases x with
 | none=>cases h
 | some z=>exact ⟨z,rfl,h⟩
theorem oN {y c:Int} (h0:0≤y) (h1:y≤1000) (c0:0≤c) (c1:c≤1000):eo .i64 (bh .i64 (bQ .i64 y c) 65536) 2=(y - c)*32768:=by
 rw [dN (by omega) (by omega),eJ (by omega) (by omega)];unfold eo;have e:(y - c)*65536=(y - c)*32768*2:=by omega
 rw [e,Int.mul_tdiv_cancel _ (by decide),wrap_i64 (by omega) (by omega)]
structure wH (p v:aV) (ang spin mass inertia bounce rub:Int) (l:List aV):Prop where
 hl:qC l
 hp:-655360≤p.1∧p.1≤655360∧-655360≤p.2.1∧p.2.1≤655360
 hv:-327680≤v.1∧v.1≤327680∧-327680≤v.2.1∧v.2.1≤327680
 hang:0≤ang∧ang≤65535
 hspin:-32768≤spin∧spin≤32767
 hbounce:0≤bounce∧bounce≤65536
 hrub:0≤rub∧rub≤65536
 hw:(mass=0∧inertia=0∧v=(0,0,())∧spin=0)∨(65536≤mass∧mass≤524288∧65536≤inertia∧inertia≤1966080)
section
variable {p v:aV} {ang spin mass inertia bounce rub:Int} {l:List aV}
theorem wH.check {k:Nat} (hk:9≤k) (h:wH p v ang spin mass inertia bounce rub l):ak k (p,v,ang,spin,mass,inertia,bounce,rub,l,false,0,())=some 0:=by
 have h1:=h.hp;have h2:=h.hv;have h3:=h.hspin;have h4:=h.hw;refine rF hk h.hl (by omega) (by omega) (by omega) h.hang (by omega) (by omega) h.hbounce h.hrub (by decide) ?_ ?_ (fun h=>by cases h)
 ·omega
 ·intro hm
  rcases h4 with h4 | h4
  ·exact ⟨h4.2.2.1,h4.2.2.2,rfl,rfl⟩
  ·omega
end
end Go.Proofs.T1
namespace Go.Proofs.T1
open Go Go.Sx
theorem Ce (x:Int):CM (CM x)=CM x:=iB (n5 x).1 (n5 x).2
theorem uW {k:Nat} (hk:2≤k) (a b:Int) {c:Int} (hc:0<c) (hc':c≤1099511627776):ax k a b c=some (CM (iH (CM a*CM b) c)):=by
 rw [← vI hk (n5 a) (n5 b) hc hc'];unfold ax;rw [fR,bS,fR,bS,fR k (CM a),bS,fR k (CM b),bS,Ce,Ce]
theorem zA {k:Nat} (hk:2≤k) (a b:Int):dW k a b=some (CM (iH (CM a*CM b) 65536)):=by
 unfold dW;rw [uW hk a b (by decide) (by decide),bS]
theorem pA (k:Nat) (a b:Int):fU k a b=some (CM (CM a+CM b)):=by
 have h1:=n5 a;have h2:=n5 b;unfold fU;rw [fR,bS,fR,bS,bJ (by omega) (by omega),fR,bS]
theorem zg (k:Nat) (a b:Int):fT k a b=some (CM (CM a - CM b)):=by
 have h1:=n5 a;have h2:=n5 b;unfold fT;rw [fR,bS,fR,bS,dN (by omega) (by omega),fR,bS]
end Go.Proofs.T1
namespace Go.Proofs.T1
open Go Go.Sx
def sz (v:aV):Int:=fO v.1+fO v.2.1
def yv (l:List aV):Prop:=∀ i j,0≤i→i<len l→0≤j→j<len l→j≠i→j≠nx (len l) i→8*(sz (iq (q l (nx (len l) i)) (q l i))+sz (iq (q l j) (q l i)))≤im (q l i) (q l (nx (len l) i)) (q l j)
theorem tY {x:Int} (h0:-1000000000000≤x) (h1:x≤1000000000000):imax x (dU .i64 x)=fO x:=by
 have n1:dU .i64 x=-x:=by unfold dU; rw [wrap_i64 (by omega) (by omega)]; omega
 rw [n1];unfold imax fO;split <;> split <;> omega
theorem zq {x M:Int} (h0:-M≤x) (h1:x≤M):0≤fO x∧fO x≤M:=by unfold fO; split <;> omega
theorem sQ (k:Nat) {v:aV} {M:Int} (hM:M≤1000000000) (h:-M≤v.1∧v.1≤M∧-M≤v.2.1∧v.2.1≤M):eG k v=some (sz v)∧0≤sz v∧sz v≤2*M:=by
 have a1:=zq h.1 h.2.1;have a2:=zq h.2.2.1 h.2.2.2;unfold eG sz;rw [tY (by omega) (by omega),tY (by omega) (by omega),bJ (by omega) (by omega)];exact ⟨rfl,by omega,by omega⟩
theorem wG (k:Nat) {l:List aV} (h8:len l≤8) (hr:rm l) {i j:Int} (i0:0≤i) (i1:i<len l) (j0:0≤j) (j1:j<len l) :
  aP.c3 k l i j=some (decide (j≠i∧j≠nx (len l) i∧im (q l i) (q l (nx (len l) i)) (q l j)<8*(sz (iq (q l (nx (len l) i)) (q l i))+sz (iq (q l j) (q l i))))):=by
 have hn:=fB i0 i1;have hi:=hr i i0 i1;have hj:=hr j j0 j1;have hx:=hr _ hn.1 hn.2;unfold aP.c3
 by_cases a:j=i
 ·rw [dE a,bF,decide_eq_false (fun h=>h.1 a)]
 rw [gu a,bT,rP (show nz (len l) by unfold nz; omega),gU i0 i1 (by omega)]
 by_cases b:j=nx (len l) i
 ·rw [dE b,bF,decide_eq_false (fun h=>h.2.1 b)]
 rw [gu b,bT];have hq1:el dT l i=q l i:=rfl;have hq2:el dT l (nx (len l) i)=q l (nx (len l) i):=rfl;have hq3:el dT l j=q l j:=rfl;rw [hq1,hq2,hq3];have s1:bQ .i64 (q l (nx (len l) i)).1 (q l i).1=(q l (nx (len l) i)).1 - (q l i).1:=dN (by omega) (by omega);have s2:bQ .i64 (q l (nx (len l) i)).2.1 (q l i).2.1=(q l (nx (len l) i)).2.1 - (q l i).2.1:=dN (by omega) (by omega);have s3:bQ .i64 (q l j).1 (q l i).1=(q l j).1 - (q l i).1:=dN (by omega) (by omega);have s4:bQ .i64 (q l j).2.1 (q l i).2.1=(q l j).2.1 - (q l i).2.1:=dN (by omega) (by omega);rw [s1,s2,s3,s4];obtain ⟨e1,u0,u1⟩:=sQ k (v:=iq (q l (nx (len l) i)) (q l i)) (M:=4194304) (by decide) (by unfold iq; dsimp only; omega);obtain ⟨e2,w0,w1⟩:=sQ k (v:=iq (q l j) (q l i)) (M:=4194304) (by decide) (by unfold iq; dsimp only; omega);have e1':eG k ((q l (nx (len l) i)).1 - (q l i).1,(q l (nx (len l) i)).2.1 - (q l i).2.1,())=some (sz (iq (q l (nx (len l) i)) (q l i))):=e1;have e2':eG k ((q l j).1 - (q l i).1,(q l j).2.1 - (q l i).2.1,())=some (sz (iq (q l j) (q l i))):=e2;have p1:=eA (x:=(q l (nx (len l) i)).1 - (q l i).1) (y:=(q l j).2.1 - (q l i).2.1) (M:=4194304) (N:=4194304) (by omega) (by omega) (by omega) (by omega);have p2:=eA (x:=(q l (nx (len l) i)).2.1 - (q l i).2.1) (y:=(q l j).1 - (q l i).1) (M:=4194304) (N:=4194304) (by omega) (by omega) (by omega) (by omega);rw [e1',bS,e2',bS,eJ (x:=(q l (nx (len l) i)).1 - (q l i).1) (by omega) (by omega),eJ (x:=(q l (nx (len l) i)).2.1 - (q l i).2.1) (by omega) (by omega),dN (by omega) (by omega),bJ (by omega) (by omega),eJ (by omega) (by omega)];unfold fy;congr 1;rw [decide_eq_decide];exact ⟨fun h=>⟨a,b,h⟩,fun h=>h.2.2⟩
open Classical in
theorem A5 {k:Nat} (hk:9≤k) {l:List aV} (h3:3≤len l) (h8:len l≤8) (hr:rm l):aP k l=some (decide (yv l)):=by
 have c2:∀ i,0≤i→i<len l→(aP.c2 k l i k 0=some (.inl ())∧∃ j,0≤j∧j<len l∧(j≠i∧j≠nx (len l) i∧im (q l i) (q l (nx (len l) i)) (q l j)<8*(sz (iq (q l (nx (len l) i)) (q l i))+sz (iq (q l j) (q l i))))) ∨
   (aP.c2 k l i k 0=some (.inr ())∧∀ j,0≤j→j<len l→¬ (j≠i∧j≠nx (len l) i∧im (q l i) (q l (nx (len l) i)) (q l j)<8*(sz (iq (q l (nx (len l) i)) (q l i))+sz (iq (q l j) (q l i))))):=by
  intro i i0 i1;have H:=gJ (fun n v=>aP.c2 k l i n v) 0 (len l) (fun j=>j≠i∧j≠nx (len l) i∧im (q l i) (q l (nx (len l) i)) (q l j)<8*(sz (iq (q l (nx (len l) i)) (q l i))+sz (iq (q l j) (q l i)))) (fun _=>())
   (by
    intro n v a b c;show aP.c2 k l i (n+1) v=_
    rw [aP.c2,cg b,bT,rP (bZ a b),wG k h8 hr i0 i1 a b,bS,decide_eq_true c,bT])
   (by
    intro n v a b c;show aP.c2 k l i (n+1) v=aP.c2 k l i n (v+1)
    rw [aP.c2,cg b,bT,rP (bZ a b),wG k h8 hr i0 i1 a b,bS,decide_eq_false c,bF,bJ (by omega) (by omega)])
   (by
    intro n v a b;show aP.c2 k l i (n+1) v=_
    rw [aP.c2,cp b,bF])
   k 0 (by omega) (by omega)
  rcases H with ⟨j,a,b,c,_,e⟩ | ⟨a,e⟩
  ·exact Or.inl ⟨e,j,a,b,c⟩
  ·exact Or.inr ⟨e (by omega),a⟩
 have H:=gJ (fun n v=>aP.c1 k l n v) 0 (len l) (fun i=>∃ j,0≤j∧j<len l∧(j≠i∧j≠nx (len l) i∧im (q l i) (q l (nx (len l) i)) (q l j)<8*(sz (iq (q l (nx (len l) i)) (q l i))+sz (iq (q l j) (q l i))))) (fun _=>())
  (by
   intro n v a b c;show aP.c1 k l (n+1) v=_;have hn:=fB a b;rw [aP.c1,cg b,bT,rP (bZ a b),rP (show nz (len l) by unfold nz; omega),gU a b (by omega),rP (bZ hn.1 hn.2)];rcases c2 v a b with ⟨e,_⟩ | ⟨_,e⟩
   ·rw [e,bS,gD]
   ·obtain ⟨j,x,y,z⟩:=c
    exact absurd z (e j x y))
  (by
   intro n v a b c;show aP.c1 k l (n+1) v=aP.c1 k l n (v+1);have hn:=fB a b;rw [aP.c1,cg b,bT,rP (bZ a b),rP (show nz (len l) by unfold nz; omega),gU a b (by omega),rP (bZ hn.1 hn.2)];rcases c2 v a b with ⟨_,e⟩ | ⟨e,_⟩
   ·exact absurd e c
   ·rw [e,bS,fN,bJ (by omega) (by omega)])
  (by
   intro n v a b;show aP.c1 k l (n+1) v=_
   rw [aP.c1,cp b,bF])
  k 0 (by omega) (by omega)
 unfold aP;rcases H with ⟨i,a,b,⟨j,c,d,f⟩,_,e⟩ | ⟨a,e⟩
 ·have e:aP.c1 k l k 0=some (.inl ()):=e
  rw [e,bS,gD,decide_eq_false];intro h;have:=h i j a b c d f.1 f.2.1;omega
 ·have e:aP.c1 k l k 0=some (.inr ()):=e (by omega)
  rw [e,bS,fN,decide_eq_true];intro i j i0 i1 j0 j1 h1 h2;have:=a i i0 i1;rcases Int.lt_or_le (im (q l i) (q l (nx (len l) i)) (q l j)) (8*(sz (iq (q l (nx (len l) i)) (q l i))+sz (iq (q l j) (q l i)))) with g | g
  ·exact absurd ⟨j,j0,j1,h1,h2,g⟩ this
  ·exact g
def CX (l:List aV) (e:Int):Prop :=
 (Cg l e∧e≠0)∨(kg l∧¬ rm l∧e=1)∨(kg l∧rm l∧¬ (yv l∧CB l dT)∧e=3)∨(kg l∧rm l∧yv l∧CB l dT∧e=0)
open Classical in
theorem xa {k:Nat} (hk:9≤k) (l:List aV):∃ e,bX k l=some e∧CX l e:=by
 obtain ⟨c,e1,c1⟩:=uo hk l;unfold bX;rw [e1,bS]
 by_cases hc:c=0
 ·subst hc
  have hv:=zb c1;have h8:=hv.2.1;rw [dE rfl,bF];have hf:∀ x:aV,(fun x:(aV × Unit)=>cX k (x.1)) (x,())=some (!decide (-2097152≤x.1∧x.1≤2097152∧-2097152≤x.2.1∧x.2.1≤2097152)):=by
   intro x;show cX k x=_;unfold cX;rw [iU k x (by decide) (by decide),bS]
  rcases kG (l:=l) (k:=k) (f:=fun x:(aV × Unit)=>cX k (x.1)) (by omega) (by omega) (g:=fun x=>!decide (-2097152≤x.1∧x.1≤2097152∧-2097152≤x.2.1∧x.2.1≤2097152)) hf with ⟨g,i,i0,i1,i2⟩ | ⟨g,g2⟩
  ·rw [g,bS,bT]
   refine ⟨1,rfl,Or.inr (Or.inl ⟨hv,fun h=>?_,rfl⟩)⟩;have:=h i i0 i1;simp [this] at i2
  ·have hr:rm l:=by
    intro i i0 i1;have:=g2 i i0 i1
    simpa using this
   rw [g,bS,bF];unfold bX.c1;rw [A5 hk hv.1 h8 hr,bS]
   by_cases hF:yv l
   ·rw [decide_eq_true hF,bT,wV hk hv,bS,bS]
    by_cases hI:CB l dT
    ·have:(Wn (0,0,())∧CB l (0,0,())):=⟨by decide,hI⟩
     rw [decide_eq_true this];exact ⟨0,rfl,Or.inr (Or.inr (Or.inr ⟨hv,hr,hF,hI,rfl⟩))⟩
    ·have:¬ (Wn (0,0,())∧CB l (0,0,())):=fun h=>hI h.2
     rw [decide_eq_false this];exact ⟨3,rfl,Or.inr (Or.inr (Or.inl ⟨hv,hr,fun h=>hI h.2,rfl⟩))⟩
   ·rw [decide_eq_false hF,bF,bS,bT]
    exact ⟨3,rfl,Or.inr (Or.inr (Or.inl ⟨hv,hr,fun h=>hF h.1,rfl⟩))⟩
 ·rw [gu hc,bT]
  exact ⟨c,rfl,Or.inl ⟨c1,hc⟩⟩
end Go.Proofs.T1
namespace Go.Proofs.T1
open Go Go.Sx
def Bd (a:aV) (m:Int):Prop:=-m≤a.1∧a.1≤m∧-m≤a.2.1∧a.2.1≤m
instance (a:aV) (m:Int):Decidable (Bd a m):=by unfold Bd; infer_instance
def R1 (p v:aV) (ang spin:Int):Prop:=Bd p 58982400∧Bd v 268435456∧(-16777216≤spin∧spin≤16777216)∧(0≤ang∧ang≤65535)
def R2 (mass inertia bounce rub calm:Int):Prop:=(0≤mass∧mass≤1099511627776)∧(0≤inertia∧inertia≤1099511627776)∧(0≤bounce∧bounce≤65536)∧(0≤rub∧rub≤65536)∧(0≤calm∧calm≤1000)
def R3 (v:aV) (spin mass inertia:Int) (asleep:Bool) (calm:Int):Prop:=(mass=0↔inertia=0)∧(mass=0→v=(0,0,())∧spin=0∧asleep=false∧calm=0)∧(asleep=true→v=(0,0,())∧spin=0)
instance (p v:aV) (ang spin:Int):Decidable (R1 p v ang spin):=by unfold R1; infer_instance
instance (a b c d e:Int):Decidable (R2 a b c d e):=by unfold R2; infer_instance
def Bc (p v:aV) (ang spin mass inertia bounce rub:Int) (l:List aV) (asleep:Bool) (calm:Int) (e:Int):Prop :=
 (CX l e∧e≠0)∨(CX l 0∧¬ (R1 p v ang spin∧R2 mass inertia bounce rub calm)∧e=1)∨(CX l 0∧R1 p v ang spin∧R2 mass inertia bounce rub calm∧¬ R3 v spin mass inertia asleep calm∧e=3) ∨
 (CX l 0∧R1 p v ang spin∧R2 mass inertia bounce rub calm∧R3 v spin mass inertia asleep calm∧e=0)
section
variable {p v:aV} {ang spin mass inertia bounce rub:Int} {l:List aV} {asleep:Bool} {calm:Int}
theorem kv (k:Nat) (n a b:Int):cV k n a b=some (decide (a≤n∧n≤b)):=by
 unfold cV
 by_cases h:n ≥ a
 ·rw [il h,bT]
  unfold jR;congr 1;rw [decide_eq_decide];exact ⟨fun x=>⟨h,x⟩,fun x=>x.2⟩
 ·rw [gO (by omega),bF,decide_eq_false (fun x=>h x.1)]
theorem yc (k:Nat):ak.c1 k (p,v,ang,spin,mass,inertia,bounce,rub,l,asleep,calm,())=some (!decide (R1 p v ang spin)):=by
 unfold ak.c1 R1;dsimp only;rw [iU k p (by decide) (by decide),bS,iU k v (by decide) (by decide),kv,kv];have e1:(-58982400≤p.1∧p.1≤58982400∧-58982400≤p.2.1∧p.2.1≤58982400)=Bd p 58982400:=rfl;have e2:(-268435456≤v.1∧v.1≤268435456∧-268435456≤v.2.1∧v.2.1≤268435456)=Bd v 268435456:=rfl
 by_cases h1:Bd p 58982400 <;> by_cases h2:Bd v 268435456 <;> by_cases h3:(-16777216≤spin∧spin≤16777216) <;> by_cases h4:(0≤ang∧ang≤65535) <;>
  simp [e1,e2,h1,h2,h3,h4,aX,bO]
theorem xb (k:Nat):ak.c2 k (p,v,ang,spin,mass,inertia,bounce,rub,l,asleep,calm,())=some (!decide (R2 mass inertia bounce rub calm)):=by
 unfold ak.c2 R2;dsimp only;rw [kv,kv,kv,kv,kv]
 by_cases h1:(0≤mass∧mass≤1099511627776) <;> by_cases h2:(0≤inertia∧inertia≤1099511627776) <;> by_cases h3:(0≤bounce∧bounce≤65536) <;> by_cases h4:(0≤rub∧rub≤65536) <;> by_cases h5:(0≤calm∧calm≤1000) <;>
  simp [h1,h2,h3,h4,h5,aX,bO]
theorem yl (k:Nat):ak.c3 k (p,v,ang,spin,mass,inertia,bounce,rub,l,asleep,calm,())=some (decide (v=(0,0,())∧spin=0)):=by
 unfold ak.c3;dsimp only;refine (congrArg (fun b=>aX b (some (gI spin 0)) (some false)) (wI v (0,0,()))).trans ?_
 by_cases a:v=(0,0,())
 ·rw [decide_eq_true a,bT]
  unfold gI;congr 1;rw [decide_eq_decide];exact ⟨fun h=>⟨a,h⟩,fun h=>h.2⟩
 ·rw [decide_eq_false a,bF,decide_eq_false (fun h=>a h.1)]
open Classical in
theorem xX (k:Nat) {st:Bool} (hst:st=decide (v=(0,0,())∧spin=0)):ak.c4 k (p,v,ang,spin,mass,inertia,bounce,rub,l,asleep,calm,()) st=some (decide (¬ R3 v spin mass inertia asleep calm)):=by
 have hs:st=true↔(v=(0,0,())∧spin=0):=by rw [hst]; exact decide_eq_true_iff
 have out:∀ {b:Bool},(b=true↔¬ R3 v spin mass inertia asleep calm)→some b=some (decide (¬ R3 v spin mass inertia asleep calm)):=by
  intro b hb;congr 1
  by_cases h:¬ R3 v spin mass inertia asleep calm
  ·rw [decide_eq_true h]; exact hb.2 h
  ·rw [decide_eq_false h]
   cases b
   ·rfl
   ·exact absurd (hb.1 rfl) h
 unfold ak.c4;dsimp only;have hq:Ty.od T4 (gI mass (0:Int)) (gI inertia (0:Int))=(gI mass 0 == gI inertia 0):=rfl;refine (congrArg (fun b=>aX b _ (some true)) hq).trans ?_
 unfold R3 at out ⊢
 by_cases a:mass=0 <;> by_cases b:inertia=0
 ·rw [fh a,fh b]
  show aX true _ _=_;rw [bT,bT];cases st with
  | false =>
   rw [bF];exact out ⟨fun _ h=>(by have:=hs.2 ⟨(h.2.1 a).1,(h.2.1 a).2.1⟩; cases this),fun _=>rfl⟩
  | true =>
   rw [bT];have hv:=hs.1 rfl;cases asleep with
   | true =>
    rw [bT];exact out ⟨fun _ h=>(by have:=(h.2.1 a).2.2.1; cases this),fun _=>rfl⟩
   | false =>
    rw [bF]
    by_cases c:calm=0
    ·rw [dE c,bF]
     exact out ⟨fun h=>absurd h Bool.false_ne_true,fun h=>absurd ⟨⟨fun _=>b,fun _=>a⟩,fun _=>⟨hv.1,hv.2,rfl,c⟩,fun h=>by cases h⟩ h⟩
    ·rw [gu c,bT]
     exact out ⟨fun _ h=>c (h.2.1 a).2.2.2,fun _=>rfl⟩
 ·rw [fh a,eL b]
  exact out ⟨fun _ h=>b (h.1.1 a),fun _=>rfl⟩
 ·rw [eL a,fh b]
  exact out ⟨fun _ h=>a (h.1.2 b),fun _=>rfl⟩
 ·rw [eL a,eL b]
  show aX true _ _=_;rw [bT,bF];cases asleep with
  | false =>
   rw [bF];exact out ⟨fun h=>absurd h Bool.false_ne_true,fun h=>absurd ⟨⟨fun h=>absurd h a,fun h=>absurd h b⟩,fun h=>absurd h a,fun h=>by cases h⟩ h⟩
  | true =>
   rw [bT];cases st with
   | true=>exact out ⟨fun h=>absurd h Bool.false_ne_true,fun h=>absurd ⟨⟨fun h=>absurd h a,fun h=>absurd h b⟩,fun h=>absurd h a,fun _=>hs.1 rfl⟩ h⟩
   | false=>exact out ⟨fun _ h=>(by have:=hs.2 (h.2.2 rfl); cases this),fun _=>rfl⟩
open Classical in
theorem jQ {k:Nat} (hk:9≤k):∃ e,ak k (p,v,ang,spin,mass,inertia,bounce,rub,l,asleep,calm,())=some e∧Bc p v ang spin mass inertia bounce rub l asleep calm e:=by
 obtain ⟨s,e1,hs⟩:=xa hk l;unfold ak;dsimp only;rw [e1,bS]
 by_cases h0:s=0
 ·subst h0
  rw [dE rfl,bF,yc,bS]
  by_cases h1:R1 p v ang spin
  ·rw [decide_eq_true h1]
   show ∃ e,aX false _ _=some e∧_;rw [bF,xb,bS]
   by_cases h2:R2 mass inertia bounce rub calm
   ·rw [decide_eq_true h2]
    show ∃ e,aX false _ _=some e∧_;rw [bF,yl,bS,xX k rfl,bS]
    by_cases h3:R3 v spin mass inertia asleep calm
    ·rw [decide_eq_false (fun h=>h h3),bF]
     exact ⟨0,rfl,Or.inr (Or.inr (Or.inr ⟨hs,h1,h2,h3,rfl⟩))⟩
    ·rw [decide_eq_true h3,bT]
     exact ⟨3,rfl,Or.inr (Or.inr (Or.inl ⟨hs,h1,h2,h3,rfl⟩))⟩
   ·rw [decide_eq_false h2]
    show ∃ e,aX true _ _=some e∧_;rw [bT];exact ⟨1,rfl,Or.inr (Or.inl ⟨hs,fun h=>h2 h.2,rfl⟩)⟩
  ·rw [decide_eq_false h1]
   show ∃ e,aX true _ _=some e∧_;rw [bT];exact ⟨1,rfl,Or.inr (Or.inl ⟨hs,fun h=>h1 h.1,rfl⟩)⟩
 ·rw [gu h0,bT]
  exact ⟨s,rfl,Or.inl ⟨hs,h0⟩⟩
end
end Go.Proofs.T1
