import Derived.Test.YteibepmkkplpeaaGreatPlNear
import Derived.Test.YteibepmkkplpeaaGreatPlDist
namespace Go.Proofs.T1
open Go Go.Sx
theorem rr {k:Nat} {f:(Int × Unit)→Option Bool} {P:Int→Prop} (hf:∀ n,0≤n→n≤536870912→∃ b,f (n,())=some b∧(b=true↔P n)) :
  ∀ (m fuel:Nat) (low high:Int),m<fuel→high - low≤2 ^ m→0≤low→low<high→high≤536870912→P low→¬ P high→∃ n,bo.c1 k f fuel low high=some n∧0≤n∧n<536870912∧P n∧¬ P (n+1):=by
 intro m
 induction m with
 | zero =>
  intro fuel low high h1 h2 h3 h4 h5 h6 h7;obtain ⟨fuel,rfl⟩:∃ g,fuel=g+1:=⟨fuel - 1,by omega⟩;rw [bo.c1,cR (by omega) (by omega),il (by simp only [Int.pow_zero] at h2; omega),bF];have:high=low+1:=by simp only [Int.pow_zero] at h2; omega
  exact ⟨low,rfl,h3,by omega,h6,this ▸ h7⟩
 | succ m ih =>
  intro fuel low high h1 h2 h3 h4 h5 h6 h7;obtain ⟨fuel,rfl⟩:∃ g,fuel=g+1:=⟨fuel - 1,by omega⟩;rw [Int.pow_succ] at h2;rw [bo.c1,cR (by omega) (by omega)]
  by_cases c:high - low > 1
  ·rw [iR c,bT,bH (by omega) (by omega),kf (by omega) (by omega) (by decide)]
   obtain ⟨b,e,hb⟩:=hf ((low+high) / 2) (by omega) (by omega);rw [e,bS];cases b with
   | true =>
    rw [bT];exact ih fuel _ _ (by omega) (by omega) (by omega) (by omega) h5 (hb.1 rfl) h7
   | false =>
    rw [bF];exact ih fuel _ _ (by omega) (by omega) h3 (by omega) (by omega) h6 (fun g=>(by have:=hb.2 g; cases this))
  ·rw [il (by omega),bF]
   have:high=low+1:=by omega
   exact ⟨low,rfl,h3,by omega,h6,this ▸ h7⟩
theorem lV {k:Nat} (hk:31≤k) {f:(Int × Unit)→Option Bool} {P:Int→Prop} (hf:∀ n,0≤n→n≤536870912→∃ b,f (n,())=some b∧(b=true↔P n)) (p0:P 0) (p1:¬ P 536870912):∃ n,bo k f=some n∧0≤n∧n<536870912∧P n∧¬ P (n+1):=by
 obtain ⟨n,e,h⟩:=rr (k:=k) hf 29 k 0 536870912 (by omega) (by decide) (by decide) (by decide) (by decide) p0 p1;refine ⟨n,?_,h⟩;unfold bo;rw [e,bS]
theorem qK {n:Int} (h0:0≤n) (h1:n≤536870912):0≤n*n∧n*n≤288230376151711744 :=
 ⟨iJ n,rE h0 h1⟩
theorem E7 {k:Nat} (hk:31≤k) {p r:aB} (hp:-131072000≤p.1∧p.1≤131072000∧-131072000≤p.2.1∧p.2.1≤131072000) (hr:-131072000≤r.1∧r.1≤131072000∧-131072000≤r.2.1∧r.2.1≤131072000) :
  ∃ n,gg k p r=some n∧0≤n∧n<536870912∧Au p r n∧¬ Au p r (n+1):=by
 have q1:=dB (x:=p.1) (y:=r.1 - p.1) (M:=131072000) (N:=262144000) (by omega) (by omega) (by omega) (by omega);have q2:=dB (x:=p.2.1) (y:=r.2.1 - p.2.1) (M:=131072000) (N:=262144000) (by omega) (by omega) (by omega) (by omega);have q3:=dB (x:=r.1 - p.1) (y:=r.1 - p.1) (M:=262144000) (N:=262144000) (by omega) (by omega) (by omega) (by omega);have q4:=dB (x:=r.2.1 - p.2.1) (y:=r.2.1 - p.2.1) (M:=262144000) (N:=262144000) (by omega) (by omega) (by omega) (by omega);have q5:=dB (x:=p.1) (y:=p.1) (M:=131072000) (N:=131072000) (by omega) (by omega) (by omega) (by omega);have q6:=dB (x:=p.2.1) (y:=p.2.1) (M:=131072000) (N:=131072000) (by omega) (by omega) (by omega) (by omega);have q7:=dB (x:=r.1) (y:=r.1) (M:=131072000) (N:=131072000) (by omega) (by omega) (by omega) (by omega);have q8:=dB (x:=r.2.1) (y:=r.2.1) (M:=131072000) (N:=131072000) (by omega) (by omega) (by omega) (by omega);have s1:=iJ p.1;have s2:=iJ p.2.1;have s3:=iJ r.1;have s4:=iJ r.2.1;have ht:aU .i64 (aN .i64 (c9 .i64 p.1) (aU .i64 r.1 p.1)) (aN .i64 p.2.1 (aU .i64 r.2.1 p.2.1))=- dt p (sb r p):=by
  have e:-p.1*(r.1 - p.1)=-(p.1*(r.1 - p.1)):=Int.neg_mul _ _;rw [qV (by omega) (by omega),cR (x:=r.1) (by omega) (by omega),cR (x:=r.2.1) (by omega) (by omega),dr (by omega) (by omega),dr (by omega) (by omega),cR (by omega) (by omega)];unfold dt sb;dsimp only;omega
 have hz:ag .i64 (aN .i64 (aU .i64 r.1 p.1) (aU .i64 r.1 p.1)) (aN .i64 (aU .i64 r.2.1 p.2.1) (aU .i64 r.2.1 p.2.1))=dt (sb r p) (sb r p):=by
  rw [cR (x:=r.1) (by omega) (by omega),cR (x:=r.2.1) (by omega) (by omega),dr (by omega) (by omega),dr (by omega) (by omega),bH (by omega) (by omega)];rfl
 have hs:dt r (sb r p)=dt (sb r p) (sb r p)+dt p (sb r p):=by unfold dt sb; grind
 unfold gg;rw [ht,hz]
 by_cases c1:0≤dt p (sb r p)
 ·rw [kU (by omega),bT]
  obtain ⟨n,e,n0,n1,a,b⟩:=lV (k:=k) hk (f:=fun x:(Int × Unit)=>fL k (x.1) p) (P:=fun n=>n*n≤dt p p)
   (by
    intro n n0 n1;have hn:=qK n0 n1;refine ⟨_,rfl,?_⟩;dsimp only;rw [dr (by omega) (by omega),dr (by omega) (by omega),dr (by omega) (by omega),bH (by omega) (by omega)];unfold jw;rw [decide_eq_true_iff]
    rfl)
   (by unfold dt; omega) (by unfold dt; omega)
  rw [e,bS];exact ⟨n,rfl,n0,n1,(pV c1).2 a,fun g=>b ((pV c1).1 g)⟩
 rw [mr (by omega),bF]
 by_cases c2:dt r (sb r p)≤0
 ·rw [iV (by omega),bT]
  obtain ⟨n,e,n0,n1,a,b⟩:=lV (k:=k) hk (f:=fun x:(Int × Unit)=>fN k (x.1) r) (P:=fun n=>n*n≤dt r r)
   (by
    intro n n0 n1;have hn:=qK n0 n1;refine ⟨_,rfl,?_⟩;dsimp only;rw [dr (by omega) (by omega),dr (by omega) (by omega),dr (by omega) (by omega),bH (by omega) (by omega)];unfold jw;rw [decide_eq_true_iff]
    rfl)
   (by unfold dt; omega) (by unfold dt; omega)
  rw [e,bS];exact ⟨n,rfl,n0,n1,(u5 c2).2 a,fun g=>b ((u5 c2).1 g)⟩
 rw [jZ (by omega),bF];have w1:=dB (x:=p.1) (y:=r.2.1) (M:=131072000) (N:=131072000) (by omega) (by omega) (by omega) (by omega);have w2:=dB (x:=p.2.1) (y:=r.1) (M:=131072000) (N:=131072000) (by omega) (by omega) (by omega) (by omega);rw [oJ k (u:=p) (v:=r) (by omega) (by omega),bS];have cb:-34359738368000000≤cr p r∧cr p r≤34359738368000000:=by unfold cr; omega
 have sz:0≤dt (sb r p) (sb r p)∧dt (sb r p) (sb r p)≤137438953472000000:=by
  have:=iJ (r.1 - p.1);have:=iJ (r.2.1 - p.2.1);unfold dt sb;dsimp only;omega
 have L:dt p (sb r p)*dt p (sb r p)+cr p r*cr p r=dt p p*dt (sb r p) (sb r p):=by unfold dt cr sb; grind
 obtain ⟨n,e,n0,n1,a,b⟩:=lV (k:=k) hk (f:=fun x:(Int × Unit)=>fB k (x.1) (dt (sb r p) (sb r p)) (cr p r)) (P:=fun n=>n*n*dt (sb r p) (sb r p)≤cr p r*cr p r)
  (by
   intro n n0 n1;have hn:=qK n0 n1;dsimp only;unfold fB;rw [dr (by omega) (by omega)];obtain ⟨u,e1,o1,v1⟩:=iO k (a:=n*n) (b:=dt (sb r p) (sb r p)) (by omega) (by omega) (by omega) (by omega);obtain ⟨v,e2,o2,v2⟩:=iO k (a:=cr p r) (b:=cr p r) (by omega) (by omega) (by omega) (by omega);rw [e1,bS,e2,bS,pT k o1 o2,bS,v1,v2];refine ⟨_,rfl,?_⟩;unfold jw lF;rw [decide_eq_true_iff];split
   ·exact ⟨fun _=>by omega,fun _=>by decide⟩
   ·split
    ·exact ⟨fun _=>by omega,fun _=>by decide⟩
    ·exact ⟨fun h=>absurd h (by decide),fun h=>by omega⟩)
  (by
   have:=iJ (cr p r);simp only [Int.zero_mul]
   exact this)
  (by
   have x1:=iJ (dt p (sb r p));have x2:dt p p≤34359738368000000:=by unfold dt; omega
   have x3:=Int.mul_le_mul_of_nonneg_right x2 sz.1;have x4:0<dt (sb r p) (sb r p):=by omega
   omega)
 rw [e,bS];exact ⟨n,rfl,n0,n1,(yf (by omega) (by omega)).2 a,fun g=>b ((yf (by omega) (by omega)).1 g)⟩
theorem r6 {k:Nat} {l:List aB} (h3:3≤len l) (h16:len l≤16) (hk:20≤k) (hb:∀ t,0≤t→t<len l→-131072000≤(q l t).1∧(q l t).1≤131072000∧-131072000≤(q l t).2.1∧(q l t).2.1≤131072000) :
  ∃ b,br k l=some b∧(b=true↔pY l iF):=by
 have tz:∀ u v:aB,fb u v iF=cr u v:=by intro u v; unfold fb cr iF; grind
 have step:∀ n v,0≤v→v<len l→br.c1 k l (n+1) v=aR (fq (cr (q l v) (q l (nx (len l) v))) 0) (some (.inl ())) (br.c1 k l n (v+1)):=by
  intro n v v0 v1;have hn:=dK v0 v1;have b1:=hb v v0 v1;have b2:=hb _ hn.1 hn.2;rw [br.c1,cB v1,bT,rP (cZ v0 v1),rP (show nz (len l) by unfold nz; omega),gU v0 v1 (by omega),rP (cZ hn.1 hn.2)];show bG (dQ k (q l v) (q l (nx (len l) v))) _=_;rw [oJ k (by omega) (by omega),bS,bH (by omega) (by omega)]
 rcases iH (fun n v=>br.c1 k l n v) 0 (len l) (fun v=>cr (q l v) (q l (nx (len l) v))<0) (fun _=>())
  (by
   intro n v a b p;show br.c1 k l (n+1) v=_
   rw [step n v a b,cB p,bT])
  (by
   intro n v a b p;show br.c1 k l (n+1) v=br.c1 k l n (v+1)
   rw [step n v a b,cD (by omega),bF])
  (by
   intro n v a b;show br.c1 k l (n+1) v=_
   rw [br.c1,cD b,bF]) k 0 (by omega) (by omega) with ⟨j,a,b,c,_,e⟩ | ⟨a,e⟩
 ·have e:br.c1 k l k 0=some (.inl ()):=e
  refine ⟨false,?_,fun h=>(by cases h),fun h=>?_⟩
  ·unfold br
   rw [e,bS,ir]
  ·have:=h j a b
   rw [tz] at this;omega
 ·have e:br.c1 k l k 0=some (.inr ()):=e (by omega)
  refine ⟨true,?_,fun _ i i0 i1=>?_,fun _=>rfl⟩
  ·unfold br
   rw [e,bS,ig]
  ·have:=a i i0 i1
   rw [tz];omega
theorem Bh {k:Nat} (hk:40≤k) {a b l:List aB} (ha:jx a) (hb:jx b) (e:ab k a b=some (l,0)) (D:DS a b l):∃ m,fD k a b=some (m,0)∧(m=true↔pY l iF):=by
 have:=ha.2.1;have:=hb.2.1;obtain ⟨m,e2,hm⟩:=r6 (k:=k) D.len3 (by have:=D.le; omega) (by omega) (fun t t0 t1=>wH ha.2.2.1 hb.2.2.1 D t0 t1);refine ⟨m,?_,hm⟩;unfold fD;rw [e,bS,ek rfl,bF,e2,bS]
theorem yX {k:Nat} (hk:40≤k) {a b l:List aB} (ha:jx a) (hb:jx b) (e:ab k a b=some (l,0)) (D:DS a b l):∃ n,bY k a b=some (n,0)∧0≤n∧n≤1073741824∧Gh l n∧¬ Gh l (n+1):=by
 have a8:=ha.2.1;have b8:=hb.2.1;have l3:=D.len3;have l16:=D.le;have bd:=fun t t0 t1=>wH ha.2.2.1 hb.2.2.1 D (t:=t) t0 t1;obtain ⟨m,e2,hm⟩:=r6 (k:=k) l3 (by omega) (by omega) bd;unfold bY;rw [e,bS,ek rfl,bF];dsimp only;rw [e2,bS];cases m with
 | true =>
  rw [bT];have hi:=hm.1 rfl;refine ⟨0,rfl,by decide,by decide,Ca l,fun g=>?_⟩;have:=Cl hi (by decide) g;omega
 | false =>
  rw [bF];have hi:¬ pY l iF:=fun g=>(by have:=hm.2 g; cases this);obtain ⟨s,⟨s0,s2,s3,_,s4⟩,f⟩:=iM (fun n s v=>bY.c1 k (l,0) n s v) 0 (len l) (fun s v=>0≤s∧s≤1073741824∧(∀ i,0≤i→i<v→Au (q l i) (q l (nx (len l) i)) s)∧(v=0→s=1073741824)∧(0<v→∃ i,0≤i∧i<v∧¬ Au (q l i) (q l (nx (len l) i)) (s+1)))
   (by
    intro n s v v0 v1 ⟨i0,i1,i2,i4,i3⟩;have hn:=dK v0 v1;obtain ⟨y,ey,y0,y1,y2,y3⟩:=E7 (k:=k) (by omega) (bd v v0 v1) (bd _ hn.1 hn.2);refine ⟨gA s y,⟨?_,?_,?_,fun h=>by omega,?_⟩,?_⟩
    ·unfold gA; split <;> omega
    ·unfold gA; split <;> omega
    ·intro i a b
     by_cases c:i=v
     ·subst c; exact uv (by unfold gA; split <;> omega) (by unfold gA; split <;> omega) y2
     ·exact uv (by unfold gA; split <;> omega) (by unfold gA; split <;> omega) (i2 i a (by omega))
    ·intro _
     unfold gA
     by_cases c:y<s
     ·rw [if_pos c]; exact ⟨v,v0,by omega,y3⟩
     ·rw [if_neg c]
      by_cases c0:v=0
      ·have:=i4 c0
       omega
      ·obtain ⟨i,a,b,d⟩:=i3 (by omega)
       exact ⟨i,a,by omega,d⟩
    ·show bY.c1 k (l,0) (n+1) s v=bY.c1 k (l,0) n (gA s y) (v+1)
     rw [bY.c1];dsimp only;rw [cB v1,bT,rP (cZ v0 v1),rP (show nz (len l) by unfold nz; omega),gU v0 v1 (by omega),rP (cZ hn.1 hn.2)];show bG (gg k (q l v) (q l (nx (len l) v))) _=_
     rw [ey,bS,bH (by omega) (by omega)])
   (by
    intro n s v a b;show bY.c1 k (l,0) (n+1) s v=some s;rw [bY.c1];dsimp only
    rw [cD b,bF])
   k 1073741824 0 (by omega) (by omega) (by omega) ⟨by decide,by decide,fun i a b=>by omega,fun _=>rfl,fun h=>by omega⟩
  have f:bY.c1 k (l,0) k 1073741824 0=some s:=f;rw [f,bS];refine ⟨s,rfl,s0,s2,(ye D.edge l3 hi).2 s3,fun g=>?_⟩;obtain ⟨i,a,b,c⟩:=s4 (by omega);exact c ((ye D.edge l3 hi).1 g i a b)
end Go.Proofs.T1
