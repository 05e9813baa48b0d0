import Derived.Test.YtipddonkkhjegaaGreatPlMid
namespace Go.Proofs.T1
open Go Go.Sx
theorem He {x:Int} (h0:0≤x) (h1:x≤4294967295):bJ .and .u32 x 1=x % 2:=by
 obtain ⟨n,rfl⟩:=Int.eq_ofNat_of_zero_le h0;simp only [bJ,wrap_u32];have e:((BitVec.ofInt IntKind.u32.bits (n:Int)) &&& (BitVec.ofInt IntKind.u32.bits (1:Int))).toNat=n % 2 ^ 1:=by
  show ((BitVec.ofInt 32 (n:Int)) &&& (BitVec.ofInt 32 ((1:Nat):Int))).toNat=_;rw [BitVec.toNat_and];have e1:(BitVec.ofInt 32 (n:Int)).toNat=n:=by simp; omega
  have e2:(BitVec.ofInt 32 ((1:Nat):Int)).toNat=2 ^ 1 - 1:=by decide
  rw [e1,e2,Nat.and_two_pow_sub_one_eq_mod]
 rw [e];omega
theorem Hx {x b:Int} (h0:0≤x) (h1:x<65536) (he:x % 2=0) (hb:b=0∨b=1):bJ .or .u32 x b=x+b:=by
 obtain ⟨n,rfl⟩:=Int.eq_ofNat_of_zero_le h0;obtain ⟨m,rfl⟩:∃ m,n=2*m:=⟨n / 2,by omega⟩;obtain ⟨b,rfl⟩:∃ c:Nat,b=(c:Int):=⟨b.toNat,by omega⟩;simp only [bJ,wrap_u32];have e:((BitVec.ofInt IntKind.u32.bits ((2*m:Nat):Int)) ||| (BitVec.ofInt IntKind.u32.bits (b:Int))).toNat=2*m+b:=by
  show ((BitVec.ofInt 32 ((2*m:Nat):Int)) ||| (BitVec.ofInt 32 (b:Int))).toNat=_;rw [BitVec.toNat_or];have e1:(BitVec.ofInt 32 ((2*m:Nat):Int)).toNat=2*m:=by simp; omega
  have e2:(BitVec.ofInt 32 ((b:Nat):Int)).toNat=b:=by simp; omega
  rw [e1,e2];have:=Nat.two_pow_add_eq_or_of_lt (i:=1) (b:=b) (by omega) m;rw [Nat.pow_one] at this;exact this.symm
 rw [e];omega
theorem C9 {a:List Int} (ha:Dg a) {j:Nat} (hj:j≤8):0≤fH a j∧fH a j<65536 ^ j:=iO ha j hj
theorem FH {a:List Int} (ha:Dg a) {i:Nat} (hi:i<128):fH a 8 / 2 ^ i % 2=a.getD (i / 16) 0 / 2 ^ (i % 16) % 2:=by
 have hj:i / 16<8:=by omega
 have hs:i % 16<16:=by omega
 obtain ⟨rest,hr⟩:=qJ a (i / 16+1) (8 - (i / 16+1));rw [show i / 16+1+(8 - (i / 16+1))=8 by omega] at hr;have hp:=C9 ha (j:=i / 16) (by omega);have hpow:(65536:Int) ^ (i / 16)=2 ^ (16*(i / 16)):=by
  rw [Int.pow_mul];rfl
 have e1:fH a 8=fH a (i / 16)+2 ^ (16*(i / 16))*(a.getD (i / 16) 0+65536*rest):=by
  rw [hr];show fH a (i / 16)+a.getD (i / 16) 0*65536 ^ (i / 16)+rest*65536 ^ (i / 16+1)=_;rw [Int.pow_succ,hpow];grind
 have e2:(2:Int) ^ i=2 ^ (16*(i / 16))*2 ^ (i % 16):=by rw [← Int.pow_add]; congr 1; omega
 have hpos:(0:Int)<2 ^ (16*(i / 16)):=Int.pow_pos (by decide);have hpos2:(0:Int)<2 ^ (i % 16):=Int.pow_pos (by decide);have e3:fH a 8 / 2 ^ (16*(i / 16))=a.getD (i / 16) 0+65536*rest:=by
  rw [e1,Int.add_mul_ediv_left _ _ (by omega),Int.ediv_eq_zero_of_lt hp.1 (by rw [← hpow]; exact hp.2)];omega
 rw [e2,← Int.ediv_ediv_of_nonneg (by omega),e3];have e4:(65536:Int)=2 ^ (i % 16)*(2*2 ^ (15 - i % 16)):=by
  have:(2:Int) ^ (i % 16)*(2*2 ^ (15 - i % 16))=2 ^ (i % 16+1+(15 - i % 16)):=by rw [Int.pow_add,Int.pow_succ]; grind
  rw [this,show i % 16+1+(15 - i % 16)=16 by omega];decide
 have e5:a.getD (i / 16) 0+65536*rest=a.getD (i / 16) 0+2 ^ (i % 16)*(2*2 ^ (15 - i % 16)*rest):=by
  conv=>lhs; rw [e4]
  grind
 rw [e5,Int.add_mul_ediv_left _ _ (by omega)];rw [show 2*2 ^ (15 - i % 16)*rest=2*(2 ^ (15 - i % 16)*rest) by grind];omega
theorem sX {k:Nat} (hk:9≤k) {a:List Int} {x:Int} (ha:BR a x):∃ c,dh k a=some c∧BR c (2*x):=by
 obtain ⟨c,e,r⟩:=zZ hk ha ha;exact ⟨c,by unfold dh; rw [e,bS],sP r (by congr 1; omega)⟩
theorem rI {a:List Int} {x:Int} (ha:BR a (2*x)):a.getD 0 0 % 2=0:=by
 have h:=ha.2;rw [x6] at h;omega
theorem Cw {k:Nat} (hk:200≤k) {o d:List Int} {A n:Int} (ho:BR o A) (h0:0≤A) (h1:A<170141183460469231731687303715884105728) (hd:BR d n) (hn:0<n) (hn':n≤9223372036854775807) :
  ∀ (i m:Nat) (q r:List Int),i≤128→i<m→BR q (A / 2 ^ i / n)→BR r (A / 2 ^ i % n) →
  ∃ q',az.c2 k o d m ((i:Int) - 1) q r=some q'∧BR q' (A / n):=by
 intro i
 induction i with
 | zero =>
  intro m q r _ hm hq hr;obtain ⟨m,rfl⟩:∃ j,m=j+1:=⟨m - 1,by omega⟩;refine ⟨q,rfl,?_⟩;rw [Int.pow_zero,Int.ediv_one] at hq;exact hq
 | succ i ih =>
  intro m q r hi hm hq hr;obtain ⟨m,rfl⟩:∃ j,m=j+1:=⟨m - 1,by omega⟩;have ev:(((i+1:Nat):Int) - 1)=(i:Int):=by omega
  have hT0:0≤A / 2 ^ (i+1):=Int.ediv_nonneg h0 (Int.le_of_lt (Int.pow_pos (by decide)));have hTle:A / 2 ^ (i+1)≤A:=by
   exact Int.ediv_le_self _ h0
  have hb:A / 2 ^ i=2*(A / 2 ^ (i+1))+A / 2 ^ i % 2:=by
   rw [Int.pow_succ,← Int.ediv_ediv_of_nonneg (Int.le_of_lt (Int.pow_pos (by decide)))];omega
  have hA:fH o 8=A:=by rw [ho.2]; omega
  have hbit:=FH ho.1 (i:=i) (by omega);rw [hA] at hbit;have hdg:=ho.1.2 (i / 16) (by omega);have e1:fA .i64 (i:Int) 16=((i / 16:Nat):Int):=by
   unfold fA;rw [Int.tdiv_eq_ediv_of_nonneg (by omega),wrap_i64 (by omega) (by omega)];omega
  have e2:en (i:Int) 16=((i % 16:Nat):Int):=by
   unfold en;rw [Int.tmod_eq_emod_of_nonneg (by omega)];omega
  have e3:cJ .u32 (o.getD (i / 16) 0) ((i % 16:Nat):Int)=o.getD (i / 16) 0 / 2 ^ (i % 16):=by
   unfold cJ;have:min ((i % 16:Nat):Int).toNat IntKind.u32.bits=i % 16:=by simp [IntKind.bits]; omega
   rw [this];exact Int.fdiv_eq_ediv_of_nonneg _ (Int.le_of_lt (Int.pow_pos (by decide)))
  have hsh0:0≤o.getD (i / 16) 0 / 2 ^ (i % 16):=Int.ediv_nonneg hdg.1 (Int.le_of_lt (Int.pow_pos (by decide)));have hsh1:o.getD (i / 16) 0 / 2 ^ (i % 16)≤o.getD (i / 16) 0:=Int.ediv_le_self _ hdg.1;have e4:bJ .and .u32 (cJ .u32 (el 0 o (fA .i64 (i:Int) 16)) (en (i:Int) 16)) 1=A / 2 ^ i % 2:=by
   rw [e1,e2,qQ,e3,He hsh0 (by omega),hbit]
  generalize hB:A / 2 ^ i % 2=b at *
  generalize hTT:A / 2 ^ (i+1)=T at *
  have hb01:b=0∨b=1:=by omega
  obtain ⟨r2,f1,g1⟩:=sX (k:=k) (by omega) hr;obtain ⟨q2,f2,g2⟩:=sX (k:=k) (by omega) hq;have hR0:=Int.emod_nonneg T (show n≠0 by omega);have hR1:=Int.emod_lt_of_pos T hn;have hQR:=Int.mul_ediv_add_emod T n;have hQ0:0≤T / n:=Int.ediv_nonneg hT0 (by omega);have hQ1:T / n≤T:=Int.ediv_le_self _ hT0;have hd0:=g1.1.2 0 (by decide);have e5:bJ .or .u32 (el 0 r2 0) b=r2.getD 0 0+b:=Hx (x:=r2.getD 0 0) hd0.1 hd0.2 (rI g1) hb01;have hr3:BR (st r2 0 (r2.getD 0 0+b)) (2*(T % n)+b):=by
   have hev:=rI g1;refine ⟨sU g1.1 0 (by omega) (by omega),?_⟩;show fH (r2.set 0 (r2.getD 0 0+b)) 8=_;rw [mW _ _ _ (by rw [g1.1.1]; decide) _ (by decide),g1.2];simp;omega
  have hstep:az.c2 k o d (m+1) (((i+1:Nat):Int) - 1) q r=bB (bo k (st r2 0 (r2.getD 0 0+b)) d) fun y24 =>
    bB (az.c3 k o (i:Int) d r2 q2 y24) fun o33=>az.c2 k o d m ((i:Int) - 1) o33.1 o33.2:=by
   have hin:fR (fA .i64 (i:Int) 16) 8:=by rw [e1]; unfold fR; omega
   have hng:ng (en (i:Int) 16):=by rw [e2]; unfold ng; omega
   rw [ev,az.c2,j3 (by omega),bT,f1,bS,f2,bS,rP hin,rP hng,e4,e5,cR (by omega) (by omega)]
  rw [hstep,wz (by omega) hr3 hd (by unfold SR; omega) (by unfold SR; omega),bS];unfold az.c3;rw [e4,e5]
  by_cases hc:n≤2*(T % n)+b
  ·have hge:hG (iz (2*(T % n)+b) n) 0=true:=by
    rcases Int.lt_or_eq_of_le hc with h | h
    ·rw [gN h]; rfl
    ·rw [ia h.symm]; rfl
   obtain ⟨r3,f3,g3⟩:=DT (k:=k) (by omega) hr3 hd;obtain ⟨one,f4,g4⟩:=wh (k:=k) (by omega) (n:=1) (by decide) (by decide);obtain ⟨q3,f5,g5⟩:=zZ (k:=k) (by omega) g2 g4;rw [hge,bT,f3,bS,f4,bS,f5,bS,bS];dsimp only;have hdm:(2*T+b) / n=2*(T / n)+1∧(2*T+b) % n=2*(T % n)+b - n:=by
    have e:2*T+b=2*(T % n)+b - n+n*(2*(T / n)+1):=by
     conv=>lhs; rw [← hQR]
     grind
    constructor
    ·rw [e,Int.add_mul_ediv_left _ _ (by omega),Int.ediv_eq_zero_of_lt (by omega) (by omega)]
     omega
    ·rw [e,Int.add_mul_emod_self_left,Int.emod_eq_of_lt (by omega) (by omega)]
   refine ih m q3 r3 (by omega) (by omega) ?_ ?_
   ·rw [hb,hdm.1]; exact g5
   ·rw [hb,hdm.2]; exact g3
  ·have hlt:hG (iz (2*(T % n)+b) n) 0=false:=by rw [gO (by omega)]; rfl
   rw [hlt,bF,bS];dsimp only;have hdm:(2*T+b) / n=2*(T / n)∧(2*T+b) % n=2*(T % n)+b:=by
    have e:2*T+b=2*(T % n)+b+n*(2*(T / n)):=by
     conv=>lhs; rw [← hQR]
     grind
    constructor
    ·rw [e,Int.add_mul_ediv_left _ _ (by omega),Int.ediv_eq_zero_of_lt (by omega) (by omega)]
     omega
    ·rw [e,Int.add_mul_emod_self_left,Int.emod_eq_of_lt (by omega) (by omega)]
   refine ih m q2 _ (by omega) (by omega) ?_ ?_
   ·rw [hb,hdm.1]; exact g2
   ·rw [hb,hdm.2]; exact hr3
end Go.Proofs.T1
namespace Go.Proofs.T1
open Go Go.Sx
theorem pS {a b:Int} {s:Nat} (hs:s≤64) (ha:0≤a) (ha':a*2 ^ s≤18446744073709551615) (hb:0≤b) (hb':b<2 ^ s):bJ .or .u64 b (a*2 ^ s)=b+a*2 ^ s:=by
 have h:=sO hs ha ha' hb hb';have hc:bJ .or .u64 b (a*2 ^ s)=bJ .or .u64 (a*2 ^ s) b:=by
  simp only [bJ];rw [BitVec.or_comm]
 rw [hc,h];omega
theorem four (d0 d1 d2 d3:Int) (h0:0≤d0∧d0<65536) (h1:0≤d1∧d1<65536) (h2:0≤d2∧d2<65536) (h3:0≤d3∧d3<65536) :
  bJ .or .u64 (bJ .or .u64 (bJ .or .u64 (bJ .or .u64 0 (cE .u64 (cF .u64 d0) (a7 .i64 16 0))) (cE .u64 (cF .u64 d1) (a7 .i64 16 1))) (cE .u64 (cF .u64 d2) (a7 .i64 16 2))) (cE .u64 (cF .u64 d3) (a7 .i64 16 3))=d0+d1*65536+d2*4294967296+d3*281474976710656:=by
 have c0:cF .u64 d0=d0:=by rw [gW]; omega
 have c1:cF .u64 d1=d1:=by rw [gW]; omega
 have c2:cF .u64 d2=d2:=by rw [gW]; omega
 have c3:cF .u64 d3=d3:=by rw [gW]; omega
 have s0:cE .u64 d0 (a7 .i64 16 0)=d0*2 ^ 0:=by
  have:=jU d0 (n:=0) (by decide);rw [show (a7 .i64 16 0)=((0:Nat):Int) from rfl,this];simp;omega
 have s1:cE .u64 d1 (a7 .i64 16 1)=d1*2 ^ 16:=by
  have:=jU d1 (n:=16) (by decide);rw [show (a7 .i64 16 1)=((16:Nat):Int) from rfl,this];simp;omega
 have s2:cE .u64 d2 (a7 .i64 16 2)=d2*2 ^ 32:=by
  have:=jU d2 (n:=32) (by decide);rw [show (a7 .i64 16 2)=((32:Nat):Int) from rfl,this];simp;omega
 have s3:cE .u64 d3 (a7 .i64 16 3)=d3*2 ^ 48:=by
  have:=jU d3 (n:=48) (by decide);rw [show (a7 .i64 16 3)=((48:Nat):Int) from rfl,this];simp;omega
 rw [c0,c1,c2,c3,s0,s1,s2,s3];rw [pS (by decide) h0.1 (by simp; omega) (by decide) (by decide)];rw [pS (by decide) h1.1 (by simp; omega) (by omega) (by simp; omega)];rw [pS (by decide) h2.1 (by simp; omega) (by omega) (by simp; omega)];rw [pS (by decide) h3.1 (by simp; omega) (by omega) (by simp; omega)];simp
theorem ER {k:Nat} (hk:9≤k) {a:List Int} {x:Int} (ha:BR a x):∃ w,bW k a=some w∧nO w∧wv w % 340282366920938463463374607431768211456=x % 340282366920938463463374607431768211456∧w.2.1=x % 18446744073709551616:=by
 obtain ⟨m,rfl⟩:∃ m,k=m+5:=⟨k - 5,by omega⟩;have hx:=ha.2;have d0:=ha.1.2 0 (by decide);have d1:=ha.1.2 1 (by decide);have d2:=ha.1.2 2 (by decide);have d3:=ha.1.2 3 (by decide);have d4:=ha.1.2 4 (by decide);have d5:=ha.1.2 5 (by decide);have d6:=ha.1.2 6 (by decide);have d7:=ha.1.2 7 (by decide);rw [x6] at hx;have e:bW.c1 (m+5) a (m+5) 0 0 0=some
  (bJ .or .u64 (bJ .or .u64 (bJ .or .u64 (bJ .or .u64 0 (cE .u64 (cF .u64 (a.getD 0 0)) (a7 .i64 16 0))) (cE .u64 (cF .u64 (a.getD 1 0)) (a7 .i64 16 1))) (cE .u64 (cF .u64 (a.getD 2 0)) (a7 .i64 16 2))) (cE .u64 (cF .u64 (a.getD 3 0)) (a7 .i64 16 3)),
   bJ .or .u64 (bJ .or .u64 (bJ .or .u64 (bJ .or .u64 0 (cE .u64 (cF .u64 (a.getD 4 0)) (a7 .i64 16 0))) (cE .u64 (cF .u64 (a.getD 5 0)) (a7 .i64 16 1))) (cE .u64 (cF .u64 (a.getD 6 0)) (a7 .i64 16 2))) (cE .u64 (cF .u64 (a.getD 7 0)) (a7 .i64 16 3))):=by
  kernel_rfl
 rw [four _ _ _ _ d0 d1 d2 d3,four _ _ _ _ d4 d5 d6 d7] at e;unfold bW;rw [e,bS];refine ⟨_,rfl,?_,?_,?_⟩
 ·have h1:=gI (a.getD 4 0+a.getD 5 0*65536+a.getD 6 0*4294967296+a.getD 7 0*281474976710656)
  unfold nO cF;dsimp only;omega
 ·obtain ⟨q1,h1⟩:=gy (a.getD 4 0+a.getD 5 0*65536+a.getD 6 0*4294967296+a.getD 7 0*281474976710656)
  unfold wv cF;dsimp only;rw [h1];omega
 ·dsimp only
  omega
theorem E6 {k:Nat} (hk:200≤k) {a:List Int} {x n:Int} (ha:BR a x) (hx:SR x) (hn:0<n) (hn':n≤9223372036854775807) :
  az k a n=some (if -9223372036854775808≤x / n∧x / n≤9223372036854775807 then (x / n,true) else (0,false)):=by
 unfold SR at hx;have c1:∃ o,az.c1 k a (decide (x<0))=some o∧BR o (if x<0 then -x - 1 else x):=by
  unfold az.c1
  by_cases h:x<0
  ·rw [decide_eq_true h,bT,if_pos h]
   obtain ⟨y,e1,r1⟩:=FA (k:=k) (by omega) ha;obtain ⟨z,e2,r2⟩:=wh (k:=k) (by omega) (n:=1) (by decide) (by decide);obtain ⟨w,e3,r3⟩:=DT (k:=k) (by omega) r1 r2;rw [e1,bS,e2,bS,e3,bS];exact ⟨w,rfl,r3⟩
  ·rw [decide_eq_false h,bF,if_neg h]
   exact ⟨a,rfl,ha⟩
 obtain ⟨o,e1,ro⟩:=c1;obtain ⟨d,e2,rd⟩:=wh (k:=k) (by omega) (n:=n) (by omega) hn';have hA0:0≤(if x<0 then -x - 1 else x):=by split <;> omega
 have hA1:(if x<0 then -x - 1 else x)<170141183460469231731687303715884105728:=by split <;> omega
 have hA:x / n=if x<0 then -((if x<0 then -x - 1 else x) / n) - 1 else (if x<0 then -x - 1 else x) / n:=by
  by_cases h:x<0
  ·simp only [h,if_true]
   have hq:=Int.mul_ediv_add_emod (-x - 1) n;have h0:=Int.emod_nonneg (-x - 1) (show n≠0 by omega);have h1:=Int.emod_lt_of_pos (-x - 1) hn;generalize (-x - 1) / n=Q at *
   generalize (-x - 1) % n=R at *
   have e:x=(n - 1 - R)+n*(-Q - 1):=by grind
   rw [e,Int.add_mul_ediv_left _ _ (by omega),Int.ediv_eq_zero_of_lt (by omega) (by omega)];omega
  ·simp only [h,if_false]
 generalize (if x<0 then -x - 1 else x)=A at *
 have hz1:A / 2 ^ 128 / n=0:=by
  rw [show (2:Int) ^ 128=340282366920938463463374607431768211456 by decide,Int.ediv_eq_zero_of_lt hA0 (by omega)];simp
 have hz2:A / 2 ^ 128 % n=0:=by
  rw [show (2:Int) ^ 128=340282366920938463463374607431768211456 by decide,Int.ediv_eq_zero_of_lt hA0 (by omega)];simp
 obtain ⟨q,e3,rq⟩:=Cw hk ro hA0 hA1 rd hn hn' 128 k (List.replicate 8 0) (List.replicate 8 0) (by decide) (by omega) (by rw [hz1]; exact pQ) (by rw [hz2]; exact pQ);have e3:az.c2 k o d k 127 (List.replicate 8 0) (List.replicate 8 0)=some q:=e3;have hQ0:0≤A / n:=Int.ediv_nonneg hA0 (by omega);have hQ1:A / n≤A:=Int.ediv_le_self _ hA0;obtain ⟨t,e4,rt⟩:=wh (k:=k) (by omega) (n:=4611686018427387904) (by decide) (by decide);obtain ⟨u,e5,ru⟩:=sX (k:=k) (by omega) rt;unfold az;rw [qZ k ha hx,bS,e1,bS,e2,bS,e3,bS,e4,bS,e5,bS,wz (by omega) rq ru (by unfold SR; omega) (by unfold SR; decide),bS]
 by_cases hc:A / n<9223372036854775808
 ·have:hG (iz (A / n) (2*4611686018427387904)) 0=false:=by rw [gO (by omega)]; rfl
  rw [this,bF];obtain ⟨w,e6,_,_,hw⟩:=ER (k:=k) (by omega) rq;rw [e6,bS,hw];have hw2:cF .i64 (A / n % 18446744073709551616)=A / n:=by
   unfold cF;rw [wrap_i64 (by omega) (by omega)];omega
  rw [hw2]
  by_cases h:x<0
  ·rw [decide_eq_true h,bT]
   rw [if_pos h] at hA;rw [hA,if_pos (by omega)];have n1:fk .i64 (A / n)=-(A / n):=by unfold fk; rw [wrap_i64 (by omega) (by omega)]; omega
   rw [n1,cR (by omega) (by omega)]
  ·rw [decide_eq_false h,bF]
   rw [if_neg h] at hA;rw [hA,if_pos (by omega)]
 ·have:hG (iz (A / n) (2*4611686018427387904)) 0=true:=by
   rcases Int.lt_or_eq_of_le (show (2*4611686018427387904:Int)≤A / n by omega) with h | h
   ·rw [gN h]; rfl
   ·rw [ia h.symm]; rfl
  rw [this,bT,if_neg];rw [hA];split <;> omega
theorem oz {k:Nat} (hk:200≤k) {a:List Int} {x n:Int} (ha:BR a x) (h0:-42535295865117307932921825928971026432≤x) (h1:x≤42535295865117307932921825928971026432) (hn:0<n) (hn':n≤2305843009213693952) :
  bC k a n=some (fit (iF x n)):=by
 obtain ⟨b,e1,r1⟩:=sX (k:=k) (by omega) ha;obtain ⟨c,e2,r2⟩:=wh (k:=k) (by omega) (n:=n) (by omega) (by omega);obtain ⟨d,e3,r3⟩:=zZ (k:=k) (by omega) r1 r2;unfold bC bC.c1;rw [fl (by omega),bF,bZ (by omega),bF,bS];dsimp only;rw [e1,bS,e2,bS,e3,bS,eB (by omega) (by omega),E6 hk r3 (by unfold SR; omega) (by omega) (by omega),bS];unfold fit iF;split
 ·rw [bT]
 ·rw [bF]
end Go.Proofs.T1
