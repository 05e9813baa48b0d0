import Derived.Test.YthpbadopmihmpaaGreatPlBody
namespace Go.Proofs.T1
open Go Go.Sx
theorem iquo_i64 {x y:Int} (hx:0≤x) (hx':x≤9223372036854775807) (hy:0<y):iquo .i64 x y=x / y:=by
 unfold iquo
 rw [Int.tdiv_eq_ediv_of_nonneg hx]
 have h1:0≤x / y:=Int.ediv_nonneg hx (by omega)
 have h2:x / y≤x:=by
  have:=Int.ediv_le_self (b:=y) hx
  omega
 exact wrap_i64 (by omega) (by omega)
end Go.Proofs.T1
namespace Go.Proofs.T1
open Go Go.Sx
def tb (i:Nat):Int:=[0,1608,3216,4821,6424,8022,9616,11204,12785,14359,15924,17479,19024,20557,22078,23586,25080,26558,28020,29466,30893,32303,33692,35062,36410,37736,39040,40320,41576,42806,44011,45190,46341,47464,48559,49624,50660,51665,52639,53581,54491,55368,56212,57022,57798,58538,59244,59914,60547,61145,61705,62228,62714,63162,63572,63944,64277,64571,64827,65043,65220,65358,65457,65516,65536].getD i 0
def tbOk (i:Nat):Bool:=decide (tb i≤tb (i+1)) && (decide (tb (i+1)≤tb i+2000) && (decide (0≤tb i) && (decide (tb (i+1)≤65536) && decide (4100000000≤tb i*tb i+tb (63 - i)*tb (63 - i)))))
theorem tb_all:(List.range 64).all tbOk=true:=by decide +kernel
theorem tb_ok {i:Nat} (h:i<64):tb i≤tb (i+1)∧tb (i+1)≤tb i+2000∧0≤tb i∧tb (i+1)≤65536∧4100000000≤tb i*tb i+tb (63 - i)*tb (63 - i):=by
 have:=List.all_eq_true.1 tb_all i (List.mem_range.2 h)
 unfold tbOk at this
 simp only [Bool.and_eq_true,decide_eq_true_eq] at this
 exact ⟨this.1,this.2.1,this.2.2.1,this.2.2.2.1,this.2.2.2.2⟩
theorem first_eq (k:Nat) {a:Int} (a0:0≤a) (a1:a≤16384):∃ v,trig_first k a=some v∧(∀ i:Nat,i<64→(i:Int)*256≤a→a≤((i:Int)+1)*256→tb i≤v∧v≤tb (i+1)):=by
 have hq:iquo .i64 a 256=a / 256:=iquo_i64 a0 (by omega) (by decide)
 have hr:irem a 256=a % 256:=irem_nonneg a0
 have et:∀ n:Int,0≤n→n≤64→el 0 ([0,1608,3216,4821,6424,8022,9616,11204,12785,14359,15924,17479,19024,20557,22078,23586,25080,26558,28020,29466,30893,32303,33692,35062,36410,37736,39040,40320,41576,42806,44011,45190,46341,47464,48559,49624,50660,51665,52639,53581,54491,55368,56212,57022,57798,58538,59244,59914,60547,61145,61705,62228,62714,63162,63572,63944,64277,64571,64827,65043,65220,65358,65457,65516,65536]:List Int) n=tb n.toNat:=fun n _ _=>rfl
 unfold trig_first trig_table
 rw [bS,hq,hr]
 by_cases c:a % 256=0
 ·rw [ieq_pos c,bT,rP (show inR (a / 256) 65 from ⟨by omega,by omega⟩),et _ (by omega) (by omega)]
  refine ⟨_,rfl,fun i hi h0 h1=>?_⟩
  have t:=tb_ok hi
  have:(a / 256).toNat=i∨(a / 256).toNat=i+1:=by omega
  rcases this with e | e <;> rw [e]
  ·exact ⟨Int.le_refl _,t.1⟩
  ·exact ⟨t.1,Int.le_refl _⟩
 ·have hk:(a / 256).toNat<64:=by omega
  have t:=tb_ok hk
  rw [ieq_neg c,bF,iadd_i64 (x:=a / 256) (by omega) (by omega),rP (show inR (a / 256) 65 from ⟨by omega,by omega⟩),rP (show inR (a / 256+1) 65 from ⟨by omega,by omega⟩),et _ (by omega) (by omega),et _ (by omega) (by omega)]
  have e1:(a / 256+1).toNat=(a / 256).toNat+1:=by omega
  rw [e1]
  have r0:=Int.emod_nonneg a (show (256:Int)≠0 by decide)
  have r1:=Int.emod_lt_of_pos a (show (0:Int)<256 by decide)
  generalize hlo:tb (a / 256).toNat=lo at *
  generalize hhi:tb ((a / 256).toNat+1)=hi at *
  have mb:=mul_bd (x:=hi - lo) (y:=a % 256) (M:=2000) (N:=256) (by omega) (by omega) (by omega) (by omega)
  have m0:=Int.mul_nonneg (show 0≤hi - lo by omega) r0
  have m1:=Int.mul_le_mul_of_nonneg_left (show a % 256≤255 by omega) (show 0≤hi - lo by omega)
  rw [isub_i64 (by omega) (by omega),imul_i64 (by omega) (by omega),iadd_i64 (x:=(hi - lo)*(a % 256)) (by omega) (by omega),iquo_i64 (by omega) (by omega) (by decide),iadd_i64 (by omega) (by omega)]
  refine ⟨_,rfl,fun i hi' h0 h1=>?_⟩
  have:(a / 256).toNat=i:=by omega
  rw [← this,hlo,hhi]
  omega
theorem first_bd (k:Nat) {a:Int} (a0:0≤a) (a1:a≤16384):∃ v,trig_first k a=some v∧0≤v∧v≤65536:=by
 obtain ⟨v,e,h⟩:=first_eq k a0 a1
 have hi:((a / 256).toNat - (if a=16384 then 1 else 0))<64:=by split <;> omega
 have:=h _ hi (by split <;> omega) (by split <;> omega)
 have t:=tb_ok hi
 exact ⟨v,e,by omega,by omega⟩
theorem first_sq (k:Nat) {a:Int} (a0:0≤a) (a1:a≤16384):∃ v w,trig_first k a=some v∧trig_first k (16384 - a)=some w∧(0≤v∧v≤65536)∧(0≤w∧w≤65536)∧4100000000≤v*v+w*w:=by
 obtain ⟨v,e,h⟩:=first_eq k a0 a1
 obtain ⟨w,f,g⟩:=first_eq k (a:=16384 - a) (by omega) (by omega)
 have hi:((a / 256).toNat - (if a=16384 then 1 else 0))<64:=by split <;> omega
 have h1:=h _ hi (by split <;> omega) (by split <;> omega)
 have g1:=g (63 - ((a / 256).toNat - (if a=16384 then 1 else 0))) (by omega) (by split <;> omega) (by split <;> omega)
 have t:=tb_ok hi
 have t2:=tb_ok (i:=63 - ((a / 256).toNat - (if a=16384 then 1 else 0))) (by omega)
 have s1:∀ {x y:Int},0≤x→x≤y→x*x≤y*y:=fun hx hy=>Int.mul_le_mul hy hy hx (by omega)
 have q1:=s1 t.2.2.1 h1.1
 have q2:=s1 t2.2.2.1 g1.1
 exact ⟨v,w,e,f,by omega,by omega,by omega⟩
theorem and_turn {x:Int} (h0:0≤x) (h1:x≤1000000):ibits .and .i64 x 65535=x % 65536:=by
 obtain ⟨n,rfl⟩:=Int.eq_ofNat_of_zero_le h0
 simp only [ibits]
 have e:((BitVec.ofInt IntKind.i64.bits (n:Int)) &&& (BitVec.ofInt IntKind.i64.bits (65535:Int))).toNat=n % 2 ^ 16:=by
  show ((BitVec.ofInt 64 (n:Int)) &&& (BitVec.ofInt 64 ((65535:Nat):Int))).toNat=_
  rw [BitVec.toNat_and]
  have e1:(BitVec.ofInt 64 (n:Int)).toNat=n:=by simp; omega
  have e2:(BitVec.ofInt 64 ((65535:Nat):Int)).toNat=2 ^ 16 - 1:=by decide
  rw [e1,e2,Nat.and_two_pow_sub_one_eq_mod]
 rw [e]
 rw [wrap_i64 (by omega) (by omega)]
 omega
theorem Sin_eq (k:Nat) {x:Int} (h0:0≤x) (h1:x≤100000):∃ v w:Int,trig_Sin k x=some v∧trig_first k (if x % 65536 / 16384=0∨x % 65536 / 16384=2 then x % 16384 else 16384 - x % 16384)=some w∧(v=w∨v=-w):=by
 have ha:=and_turn h0 (by omega)
 have hq:iquo .i64 (x % 65536) 16384=x % 65536 / 16384:=iquo_i64 (by omega) (by omega) (by decide)
 have hr:irem (x % 65536) 16384=x % 16384:=by rw [irem_nonneg (by omega)]; omega
 unfold trig_Sin
 rw [ha,hq,hr]
 have i1:isub .i64 16384 (x % 16384)=16384 - x % 16384:=isub_i64 (by omega) (by omega)
 rw [i1]
 obtain ⟨v,e,v0,v1⟩:=first_bd k (a:=x % 16384) (by omega) (by omega)
 obtain ⟨w,f,w0,w1⟩:=first_bd k (a:=16384 - x % 16384) (by omega) (by omega)
 have nv:ineg .i64 v=-v:=by unfold ineg; rw [wrap_i64 (by omega) (by omega)]; omega
 have nw:ineg .i64 w=-w:=by unfold ineg; rw [wrap_i64 (by omega) (by omega)]; omega
 by_cases c0:x % 65536 / 16384=0
 ·rw [ieq_pos c0,bT,e,bS,if_pos (Or.inl c0)]
  exact ⟨v,v,rfl,e,Or.inl rfl⟩
 ·rw [ieq_neg c0,bF]
  by_cases c1:x % 65536 / 16384=1
  ·rw [ieq_pos c1,bT,f,bS,if_neg (by omega)]
   exact ⟨w,w,rfl,f,Or.inl rfl⟩
  ·rw [ieq_neg c1,bF]
   by_cases c2:x % 65536 / 16384=2
   ·rw [ieq_pos c2,bT,e,bS,if_pos (Or.inr c2),nv]
    exact ⟨_,v,rfl,e,Or.inr rfl⟩
   ·rw [ieq_neg c2,bF,f,bS,if_neg (by omega),nw]
    exact ⟨_,w,rfl,f,Or.inr rfl⟩
theorem trig_eq (k:Nat) {x:Int} (h0:0≤x) (h1:x≤65535):∃ c s:Int,trig_Cos k x=some c∧trig_Sin k x=some s∧(-65536≤c∧c≤65536)∧(-65536≤s∧s≤65536)∧4100000000≤c*c+s*s:=by
 obtain ⟨s,w,e1,f1,g1⟩:=Sin_eq k (x:=x) h0 (by omega)
 have ha:=and_turn h0 (by omega)
 have hx:x % 65536=x:=Int.emod_eq_of_lt h0 (by omega)
 obtain ⟨c,z,e2,f2,g2⟩:=Sin_eq k (x:=x+16384) (by omega) (by omega)
 have hc:trig_Cos k x=some c:=by
  unfold trig_Cos
  rw [ha,hx,iadd_i64 (by omega) (by omega),e2,bS]
 obtain ⟨v1,v2,a1,a2,b1,b2,b3⟩:=first_sq k (a:=x % 16384) (by omega) (by omega)
 refine ⟨c,s,hc,e1,?_⟩
 have neg:∀ {p r:Int},p=r∨p=-r→p*p=r*r:=by
  intro p r h
  rcases h with h | h <;> rw [h]
  rw [Int.neg_mul_neg]
 have q1:=neg g1
 have q2:=neg g2
 by_cases c0:x % 65536 / 16384=0∨x % 65536 / 16384=2
 ·rw [if_pos c0,a1] at f1
  rw [if_neg (by omega),show 16384 - (x+16384) % 16384=16384 - x % 16384 by omega,a2] at f2
  cases f1
  cases f2
  refine ⟨by rcases g2 with h | h <;> omega,by rcases g1 with h | h <;> omega,by omega⟩
 ·rw [if_neg c0,a2] at f1
  rw [if_pos (by omega),show (x+16384) % 16384=x % 16384 by omega,a1] at f2
  cases f1
  cases f2
  refine ⟨by rcases g2 with h | h <;> omega,by rcases g1 with h | h <;> omega,by omega⟩
end Go.Proofs.T1
namespace Go.Proofs.T1
open Go Go.Sx
def tp (c s:Int) (p v:V26):V26:=(rnd (v.1*c) 65536 - rnd (v.2.1*s) 65536+p.1,rnd (v.1*s) 65536+rnd (v.2.1*c) 65536+p.2.1,())
theorem rerr {x n:Int} (hn:0<n):-n≤2*n*rnd x n - 2*x∧2*n*rnd x n - 2*x≤n:=by
 unfold rnd
 have hm:=Int.mul_ediv_add_emod (2*x+n) (2*n)
 have em0:=Int.emod_nonneg (2*x+n) (show 2*n≠0 by omega)
 have em1:=Int.emod_lt_of_pos (2*x+n) (show 0<2*n by omega)
 omega
theorem mag_of (x:Int):-mag x≤x∧x≤mag x∧0≤mag x:=by unfold mag; split <;> omega
theorem turn_pos {c s:Int} (hc:-65536≤c∧c≤65536) (hs:-65536≤s∧s≤65536) (hD:4100000000≤c*c+s*s) (p a b r:V26) (h:8*(sz (vsub b a)+sz (vsub r a))≤tri a b r) (h0:0<tri a b r) :
  0<tri (tp c s p a) (tp c s p b) (tp c s p r):=by
 have err:∀ x:V26,(-262144≤131072*((tp c s p x).1 - (tp c s p a).1) - 2*((x.1 - a.1)*c - (x.2.1 - a.2.1)*s)∧131072*((tp c s p x).1 - (tp c s p a).1) - 2*((x.1 - a.1)*c - (x.2.1 - a.2.1)*s)≤262144) ∧
   (-262144≤131072*((tp c s p x).2.1 - (tp c s p a).2.1) - 2*((x.1 - a.1)*s+(x.2.1 - a.2.1)*c)∧131072*((tp c s p x).2.1 - (tp c s p a).2.1) - 2*((x.1 - a.1)*s+(x.2.1 - a.2.1)*c)≤262144):=by
  intro x
  have k1:=rerr (x:=x.1*c) (n:=65536) (by decide)
  have k2:=rerr (x:=x.2.1*s) (n:=65536) (by decide)
  have k3:=rerr (x:=x.1*s) (n:=65536) (by decide)
  have k4:=rerr (x:=x.2.1*c) (n:=65536) (by decide)
  have l1:=rerr (x:=a.1*c) (n:=65536) (by decide)
  have l2:=rerr (x:=a.2.1*s) (n:=65536) (by decide)
  have l3:=rerr (x:=a.1*s) (n:=65536) (by decide)
  have l4:=rerr (x:=a.2.1*c) (n:=65536) (by decide)
  have e1:(x.1 - a.1)*c - (x.2.1 - a.2.1)*s=x.1*c - a.1*c - (x.2.1*s - a.2.1*s):=by grind
  have e2:(x.1 - a.1)*s+(x.2.1 - a.2.1)*c=x.1*s - a.1*s+(x.2.1*c - a.2.1*c):=by grind
  rw [e1,e2]
  unfold tp
  dsimp only
  omega
 have hb:=err b
 have hr:=err r
 have et:tri a b r=(vsub b a).1*(vsub r a).2.1 - (vsub b a).2.1*(vsub r a).1:=rfl
 have v1:b.1 - a.1=(vsub b a).1:=rfl
 have v2:b.2.1 - a.2.1=(vsub b a).2.1:=rfl
 have v3:r.1 - a.1=(vsub r a).1:=rfl
 have v4:r.2.1 - a.2.1=(vsub r a).2.1:=rfl
 rw [v1,v2] at hb
 rw [v3,v4] at hr
 have t2:tri (tp c s p a) (tp c s p b) (tp c s p r)=((tp c s p b).1 - (tp c s p a).1)*((tp c s p r).2.1 - (tp c s p a).2.1) - ((tp c s p b).2.1 - (tp c s p a).2.1)*((tp c s p r).1 - (tp c s p a).1):=rfl
 rw [t2]
 rw [et] at h h0
 generalize (tp c s p b).1 - (tp c s p a).1=E1 at *
 generalize (tp c s p b).2.1 - (tp c s p a).2.1=E2 at *
 generalize (tp c s p r).1 - (tp c s p a).1=F1 at *
 generalize (tp c s p r).2.1 - (tp c s p a).2.1=F2 at *
 unfold sz at h
 generalize (vsub b a).1=e1 at *
 generalize (vsub b a).2.1=e2 at *
 generalize (vsub r a).1=f1 at *
 generalize (vsub r a).2.1=f2 at *
 have me1:=mag_of e1
 have me2:=mag_of e2
 have mf1:=mag_of f1
 have mf2:=mag_of f2
 have big:3≤mag e1+mag e2+(mag f1+mag f2):=by
  have p1:=mul_bd (x:=e1) (y:=f2) (M:=mag e1) (N:=mag f2) me1.1 me1.2.1 mf2.1 mf2.2.1
  have p2:=mul_bd (x:=e2) (y:=f1) (M:=mag e2) (N:=mag f1) me2.1 me2.2.1 mf1.1 mf1.2.1
  rcases Int.lt_or_le (mag e1+mag e2+(mag f1+mag f2)) 3 with g | g
  ·exfalso
   have q1:=mul_bd (x:=mag e1) (y:=mag f2) (M:=2) (N:=2) (by omega) (by omega) (by omega) (by omega)
   have q2:=mul_bd (x:=mag e2) (y:=mag f1) (M:=2) (N:=2) (by omega) (by omega) (by omega) (by omega)
   have z1:mag e1=0∨1≤mag e1:=by omega
   have z2:mag e2=0∨1≤mag e2:=by omega
   rcases z1 with z1 | z1 <;> rcases z2 with z2 | z2
   ·rw [z1] at p1
    rw [z2] at p2
    simp only [Int.zero_mul] at p1 p2
    omega
   ·rw [z1] at p1
    simp only [Int.zero_mul] at p1
    omega
   ·rw [z2] at p2
    simp only [Int.zero_mul] at p2
    omega
   ·omega
  ·exact g
 have Q1:=mul_bd (x:=e1) (y:=c) (M:=mag e1) (N:=65536) me1.1 me1.2.1 hc.1 hc.2
 have Q2:=mul_bd (x:=e2) (y:=s) (M:=mag e2) (N:=65536) me2.1 me2.2.1 hs.1 hs.2
 have Q3:=mul_bd (x:=e1) (y:=s) (M:=mag e1) (N:=65536) me1.1 me1.2.1 hs.1 hs.2
 have Q4:=mul_bd (x:=e2) (y:=c) (M:=mag e2) (N:=65536) me2.1 me2.2.1 hc.1 hc.2
 have R1:=mul_bd (x:=f1) (y:=c) (M:=mag f1) (N:=65536) mf1.1 mf1.2.1 hc.1 hc.2
 have R2:=mul_bd (x:=f2) (y:=s) (M:=mag f2) (N:=65536) mf2.1 mf2.2.1 hs.1 hs.2
 have R3:=mul_bd (x:=f1) (y:=s) (M:=mag f1) (N:=65536) mf1.1 mf1.2.1 hs.1 hs.2
 have R4:=mul_bd (x:=f2) (y:=c) (M:=mag f2) (N:=65536) mf2.1 mf2.2.1 hc.1 hc.2
 have rot:(e1*c - e2*s)*(f1*s+f2*c) - (e1*s+e2*c)*(f1*c - f2*s)=(c*c+s*s)*(e1*f2 - e2*f1):=by grind
 have main:=Int.mul_le_mul_of_nonneg_right hD (show 0≤e1*f2 - e2*f1 by omega)
 rw [← rot] at main
 generalize e1*f2 - e2*f1=t at *
 generalize hA1:e1*c - e2*s=A1 at *
 generalize hA2:e1*s+e2*c=A2 at *
 generalize hB1:f1*c - f2*s=B1 at *
 generalize hB2:f1*s+f2*c=B2 at *
 generalize e1*c=w1 at *
 generalize e2*s=w2 at *
 generalize e1*s=w3 at *
 generalize e2*c=w4 at *
 generalize f1*c=w5 at *
 generalize f2*s=w6 at *
 generalize f1*s=w7 at *
 generalize f2*c=w8 at *
 generalize hSe:mag e1=u1 at *
 generalize hSe2:mag e2=u2 at *
 generalize hSf:mag f1=u3 at *
 generalize hSf2:mag f2=u4 at *
 have bA1:-(65536*(u1+u2))≤A1∧A1≤65536*(u1+u2):=by omega
 have bA2:-(65536*(u1+u2))≤A2∧A2≤65536*(u1+u2):=by omega
 have bB1:-(65536*(u3+u4))≤B1∧B1≤65536*(u3+u4):=by omega
 have bB2:-(65536*(u3+u4))≤B2∧B2≤65536*(u3+u4):=by omega
 obtain ⟨x1,hx1⟩:∃ x1,x1=131072*E1 - 2*A1:=⟨_,rfl⟩
 obtain ⟨x2,hx2⟩:∃ x2,x2=131072*E2 - 2*A2:=⟨_,rfl⟩
 obtain ⟨y1,hy1⟩:∃ y1,y1=131072*F1 - 2*B1:=⟨_,rfl⟩
 obtain ⟨y2,hy2⟩:∃ y2,y2=131072*F2 - 2*B2:=⟨_,rfl⟩
 rw [← hx1,← hx2] at hb
 rw [← hy1,← hy2] at hr
 have tot:17179869184*(E1*F2 - E2*F1)=4*(A1*B2 - A2*B1)+2*(A1*y2) - 2*(A2*y1)+2*(x1*B2) - 2*(x2*B1)+x1*y2 - x2*y1:=by
  have q:17179869184*(E1*F2 - E2*F1)=(131072*E1)*(131072*F2) - (131072*E2)*(131072*F1):=by grind
  rw [q,show 131072*E1=2*A1+x1 by omega,show 131072*E2=2*A2+x2 by omega,show 131072*F1=2*B1+y1 by omega,show 131072*F2=2*B2+y2 by omega]
  grind
 have m1:=mul_bd (x:=A1) (y:=y2) bA1.1 bA1.2 hr.2.1 hr.2.2
 have m2:=mul_bd (x:=A2) (y:=y1) bA2.1 bA2.2 hr.1.1 hr.1.2
 have m3:=mul_bd (x:=x1) (y:=B2) hb.1.1 hb.1.2 bB2.1 bB2.2
 have m4:=mul_bd (x:=x2) (y:=B1) hb.2.1 hb.2.2 bB1.1 bB1.2
 have m5:=mul_bd (x:=x1) (y:=y2) hb.1.1 hb.1.2 hr.2.1 hr.2.2
 have m6:=mul_bd (x:=x2) (y:=y1) hb.2.1 hb.2.2 hr.1.1 hr.1.2
 have fin:0<17179869184*(E1*F2 - E2*F1):=by omega
 exact pos_of_mul (by decide) fin
theorem Turn_eq {k:Nat} (hk:2≤k) {c s ang:Int} (hc:trig_Cos k ang=some c) (hs:trig_Sin k ang=some s) (c0:-65536≤c∧c≤65536) (s0:-65536≤s∧s≤65536) {v p:V26} (hv:-2097152≤v.1∧v.1≤2097152∧-2097152≤v.2.1∧v.2.1≤2097152) (hp:-100000000≤p.1∧p.1≤100000000∧-100000000≤p.2.1∧p.2.1≤100000000) :
  ∃ t,vec_Turn k v ang=some t∧vec_Add k t p=some (tp c s p v):=by
 have rb:∀ {x y:Int},-2097152≤x→x≤2097152→-65536≤y→y≤65536→-2097152≤rnd (x*y) 65536∧rnd (x*y) 65536≤2097152:=by
  intro x y x0 x1 y0 y1
  have:=mul_bd (x:=x) (y:=y) (M:=2097152) (N:=65536) x0 x1 y0 y1
  exact rnd_bd (by decide) (by omega) (by omega)
 have b1:=rb hv.1 hv.2.1 c0.1 c0.2
 have b2:=rb hv.2.2.1 hv.2.2.2 s0.1 s0.2
 have b3:=rb hv.1 hv.2.1 s0.1 s0.2
 have b4:=rb hv.2.2.1 hv.2.2.2 c0.1 c0.2
 have ml:∀ {x y:Int},-2097152≤x→x≤2097152→-65536≤y→y≤65536→fix_Mul k x y=some (rnd (x*y) 65536):=by
  intro x y x0 x1 y0 y1
  have:=rb x0 x1 y0 y1
  rw [FMul_tot hk,CM_in (x:=x) (by omega) (by omega),CM_in (x:=y) (by omega) (by omega),CM_in (by omega) (by omega)]
 refine ⟨(rnd (v.1*c) 65536 - rnd (v.2.1*s) 65536,rnd (v.1*s) 65536+rnd (v.2.1*c) 65536,()),?_,?_⟩
 ·unfold vec_Turn
  rw [hc,bS,hs,bS,ml hv.1 hv.2.1 c0.1 c0.2,bS,ml hv.2.2.1 hv.2.2.2 s0.1 s0.2,bS,FSub_tot,CM_in (x:=rnd (v.1*c) 65536) (by omega) (by omega),CM_in (x:=rnd (v.2.1*s) 65536) (by omega) (by omega),CM_in (by omega) (by omega),bS,
   ml hv.1 hv.2.1 s0.1 s0.2,bS,ml hv.2.2.1 hv.2.2.2 c0.1 c0.2,bS,FAdd_tot,CM_in (x:=rnd (v.1*s) 65536) (by omega) (by omega),CM_in (x:=rnd (v.2.1*c) 65536) (by omega) (by omega),CM_in (by omega) (by omega),bS]
 ·unfold vec_Add
  dsimp only
  rw [FAdd_tot,CM_in (x:=rnd (v.1*c) 65536 - rnd (v.2.1*s) 65536) (by omega) (by omega),CM_in (x:=p.1) (by omega) (by omega),CM_in (by omega) (by omega),bS,
   FAdd_tot,CM_in (x:=rnd (v.1*s) 65536+rnd (v.2.1*c) 65536) (by omega) (by omega),CM_in (x:=p.2.1) (by omega) (by omega),CM_in (by omega) (by omega),bS]
  rfl
def tpl (c s:Int) (p:V26) (l:List V26):List V26:=l.map (tp c s p)
theorem len_tpl (c s:Int) (p:V26) (l:List V26):len (tpl c s p l)=len l:=by unfold len tpl; simp
theorem q_tpl {c s:Int} {p:V26} {l:List V26} {i:Int} (h0:0≤i) (h1:i<len l):q (tpl c s p l) i=tp c s p (q l i):=by
 obtain ⟨i,rfl⟩:=Int.eq_ofNat_of_zero_le h0
 have hi:i<l.length:=by unfold len at h1; omega
 show (tpl c s p l).getD i Z26=tp c s p (l.getD i Z26)
 rw [List.getD_eq_getElem?_getD,List.getD_eq_getElem?_getD]
 unfold tpl
 rw [List.getElem?_map,List.getElem?_eq_getElem hi]
 rfl
theorem NE_of {α:Type} {l:List α} (h:0<len l):NE l:=by
 cases l with
 | nil=>exact absurd h (Int.lt_irrefl 0)
 | cons a l=>trivial
section
variable {p v:V26} {ang spin mass inertia bounce rub:Int} {l:List V26} {asleep:Bool} {calm:Int}
theorem Place_val {k:Nat} (hk:10≤k) (hc:body_Check k (p,v,ang,spin,mass,inertia,bounce,rub,l,asleep,calm,())=some 0) :
  ∃ l',body_Place k (p,v,ang,spin,mass,inertia,bounce,rub,l,asleep,calm,())=some l'∧Val l'∧len l'=len l:=by
 obtain ⟨e,e1,h1⟩:=bodyCheck_gen (k:=k) (by omega) (p:=p) (v:=v) (ang:=ang) (spin:=spin) (mass:=mass) (inertia:=inertia) (bounce:=bounce) (rub:=rub) (l:=l) (asleep:=asleep) (calm:=calm)
 rw [hc] at e1
 cases e1
 have hv:(Shp l 0)∧R1 p v ang spin:=by
  rcases h1 with ⟨_,h⟩ | ⟨_,_,h⟩ | ⟨_,_,_,_,h⟩ | ⟨h,g,_,_,_⟩
  ·exact absurd rfl h
  ·cases h
  ·cases h
  ·exact ⟨h,g⟩
 obtain ⟨hS,hR⟩:=hv
 have hs:Val l∧AllR l∧FatP l:=by
  rcases hS with ⟨_,h⟩ | ⟨_,_,h⟩ | ⟨_,_,_,h⟩ | ⟨a,b,c,_,_⟩
  ·exact absurd rfl h
  ·cases h
  ·cases h
  ·exact ⟨a,b,c⟩
 obtain ⟨⟨l3,l8,lw,le⟩,lr,lf⟩:=hs
 obtain ⟨bp,_,_,ba⟩:=hR
 unfold Bd at bp
 obtain ⟨c,s,tc,ts,c0,s0,D⟩:=trig_eq k ba.1 ba.2
 have ll:len l=(l.length:Int):=rfl
 obtain ⟨z,a,b⟩:=inv_loop (fun n (z:List V26) i=>body_Place.c1 k (p,v,ang,spin,mass,inertia,bounce,rub,l,asleep,calm,()) n i z) 0 (len l) (fun z i=>z=tpl c s p (l.take i.toNat))
  (by
   intro n z i i0 i1 hz
   have hr:=lr i i0 i1
   obtain ⟨t,t1,t2⟩:=Turn_eq (k:=k) (by omega) tc ts c0 s0 (v:=q l i) (p:=p) hr (by omega)
   refine ⟨z++[tp c s p (q l i)],?_,?_⟩
   ·obtain ⟨i,rfl⟩:=Int.eq_ofNat_of_zero_le i0
    have hi:i<l.length:=by omega
    have hq:q l (i:Int)=l[i]:=by
     show l.getD i Z26=_
     rw [List.getD_eq_getElem?_getD,List.getElem?_eq_getElem hi]
     rfl
    rw [hq,hz,show ((i:Int)+1).toNat=i+1 by omega,show ((i:Int)).toNat=i by omega]
    unfold tpl
    rw [List.take_succ_eq_append_getElem hi,List.map_append]
    rfl
   ·show body_Place.c1 k (p,v,ang,spin,mass,inertia,bounce,rub,l,asleep,calm,()) (n+1) i z=_
    have t1:vec_Turn k (el Z26 l i) ang=some t:=t1
    rw [body_Place.c1]
    dsimp only
    rw [ilt_pos i1,bT,rP (inL_of i0 i1),t1,bS,t2,bS,iadd_i64 (by omega) (by omega)]
    refine rP ?_ _
    have hs:z.length≤8:=by
     rw [hz]
     unfold tpl
     rw [List.length_map,List.length_take]
     omega
    show (z.length+1)*16≤140737488355328
    omega)
  (by
   intro n z i i0 i1
   show body_Place.c1 k (p,v,ang,spin,mass,inertia,bounce,rub,l,asleep,calm,()) (n+1) i z=some z
   rw [body_Place.c1]
   dsimp only
   rw [ilt_neg i1,bF])
  k [] 0 (by omega) (by omega) (by omega) rfl
 have b:body_Place.c1 k (p,v,ang,spin,mass,inertia,bounce,rub,l,asleep,calm,()) k 0 []=some z:=b
 have hz:z=tpl c s p l:=by
  rw [a,ll,show ((l.length:Nat):Int).toNat=l.length by omega,List.take_length]
 refine ⟨z,?_,?_,by rw [hz,len_tpl]⟩
 ·unfold body_Place
  rw [hc,bS,ine_neg rfl,bF,b,bS]
  exact rP (NE_of (by rw [hz,len_tpl]; omega)) _
 ·rw [hz]
  refine ⟨by rw [len_tpl]; exact l3,by rw [len_tpl]; exact l8,?_,?_⟩
  ·intro i i0 i1
   rw [len_tpl] at i1
   rw [q_tpl i0 i1]
   have hr:=lr i i0 i1
   have rb:∀ {x y:Int},-2097152≤x→x≤2097152→-65536≤y→y≤65536→-2097152≤rnd (x*y) 65536∧rnd (x*y) 65536≤2097152:=by
    intro x y x0 x1 y0 y1
    have:=mul_bd (x:=x) (y:=y) (M:=2097152) (N:=65536) x0 x1 y0 y1
    exact rnd_bd (by decide) (by omega) (by omega)
   have b1:=rb hr.1 hr.2.1 c0.1 c0.2
   have b2:=rb hr.2.2.1 hr.2.2.2 s0.1 s0.2
   have b3:=rb hr.1 hr.2.1 s0.1 s0.2
   have b4:=rb hr.2.2.1 hr.2.2.2 c0.1 c0.2
   unfold Wn tp
   dsimp only
   omega
  ·intro i j i0 i1 j0 j1 n1 n2
   rw [len_tpl] at *
   have hn:=nx_range i0 i1
   rw [q_tpl i0 i1,q_tpl j0 j1,q_tpl hn.1 hn.2]
   exact turn_pos c0 s0 D p _ _ _ (lf i j i0 i1 j0 j1 n1 n2) (le i j i0 i1 j0 j1 n1 n2)
end
end Go.Proofs.T1
