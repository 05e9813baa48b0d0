import Derived.Test.YthpbadopmihmpaaGreatG1
import Derived.Test.YthpbadopmihmpaaGreatG2
import Derived.Test.YthpbadopmihmpaaGreatSxNum
import Derived.Test.YthpbadopmihmpaaGreatSxLaw
namespace Go.Proofs.T1
open Go Go.Sx
theorem mul_range {a b M N:Int} (ha:0≤a) (ha':a≤M) (hb:0≤b) (hb':b≤N):0≤a*b∧a*b≤M*N :=
 ⟨Int.mul_nonneg ha hb,Int.mul_le_mul ha' hb' hb (Int.le_trans ha ha')⟩
theorem shr32 (x:Int):ishr .u64 x 32=x / 4294967296:=ishr_u64 x (n:=32) (by decide)
theorem and32 {x:Int} (h0:0≤x) (h1:x≤18446744073709551615):ibits .and .u64 x 4294967295=x % 4294967296:=and_mask h0 h1 32 (by decide)
theorem and32' (z:Int):ibits .and .u64 (z % 18446744073709551616) 4294967295=z % 18446744073709551616 % 4294967296:=and32 (by omega) (by omega)
theorem Mul64_eq (k:Nat) {x y:Int} (hx:0≤x) (hx':x≤18446744073709551615) (hy:0≤y) (hy':y≤18446744073709551615) :
  bits_Mul64 k x y=some (x*y / 18446744073709551616,x*y % 18446744073709551616):=by
 unfold bits_Mul64
 simp only [shr32,and32 hx hx',and32 hy hy',iadd_u64,imul_u64,and32']
 have ex:=Int.mul_ediv_add_emod x 4294967296
 have ey:=Int.mul_ediv_add_emod y 4294967296
 have x0:=Int.emod_nonneg x (show (4294967296:Int)≠0 by decide)
 have x0':=Int.emod_lt_of_pos x (show (0:Int)<4294967296 by decide)
 have y0:=Int.emod_nonneg y (show (4294967296:Int)≠0 by decide)
 have y0':=Int.emod_lt_of_pos y (show (0:Int)<4294967296 by decide)
 have x1:0≤x / 4294967296:=by omega
 have x1':x / 4294967296≤4294967295:=by omega
 have y1:0≤y / 4294967296:=by omega
 have y1':y / 4294967296≤4294967295:=by omega
 generalize x / 4294967296=X1 at *
 generalize x % 4294967296=X0 at *
 generalize y / 4294967296=Y1 at *
 generalize y % 4294967296=Y0 at *
 subst ex ey
 have a:=mul_range x0 (show X0≤4294967295 by omega) y0 (show Y0≤4294967295 by omega)
 have b:=mul_range x1 x1' y0 (show Y0≤4294967295 by omega)
 have c:=mul_range x0 (show X0≤4294967295 by omega) y1 y1'
 have d:=mul_range x1 x1' y1 y1'
 have e:(4294967296*X1+X0)*(4294967296*Y1+Y0)=18446744073709551616*(X1*Y1)+4294967296*(X1*Y0)+4294967296*(X0*Y1)+X0*Y0:=by grind
 rw [e]
 generalize X0*Y0=p at *
 generalize X1*Y0=q at *
 generalize X0*Y1=r at *
 generalize X1*Y1=s at *
 have hp:p % 18446744073709551616=p:=by omega
 have hq:q % 18446744073709551616=q:=by omega
 have hr:r % 18446744073709551616=r:=by omega
 have hs:s % 18446744073709551616=s:=by omega
 simp only [hp,hq,hr,hs]
 have h1:(q+p / 4294967296) % 18446744073709551616=q+p / 4294967296:=by omega
 simp only [h1]
 have h2:((q+p / 4294967296) % 4294967296+r) % 18446744073709551616=(q+p / 4294967296) % 4294967296+r:=by omega
 simp only [h2]
 congr 2
 omega
end Go.Proofs.T1
namespace Go.Proofs.T1
open Go Go.Sx
def WOk (w:V94):Prop:=-9223372036854775808≤w.1∧w.1≤9223372036854775807∧0≤w.2.1∧w.2.1≤18446744073709551615
def wv (w:V94):Int:=w.1*18446744073709551616+w.2.1
theorem eqb40 (a b:V94):Ty.eqb T94 a b=decide (a=b):=by
 obtain ⟨a1,a2,u⟩:=a
 obtain ⟨b1,b2,u'⟩:=b
 show (ieq a1 b1 && (ieq a2 b2 && true))=_
 simp only [ieq,Bool.and_true]
 rw [Bool.eq_iff_iff]
 simp
end Go.Proofs.T1
namespace Go.Proofs.T1
open Go Go.Sx
theorem Times_eq (k:Nat) {a b:Int} (ha:-9223372036854775808≤a) (ha':a≤9223372036854775807) (hb:-9223372036854775808≤b) (hb':b≤9223372036854775807) :
  ∃ c,poly_Times k a b=some c∧WOk c∧wv c=a*b:=by
 unfold poly_Times
 rw [icv_u64,icv_u64,Mul64_eq k (by omega) (by omega) (by omega) (by omega)]
 have hab:-85070591730234615865843651857942052864≤a*b∧a*b≤85070591730234615865843651857942052864:=by
  have p1:0≤(9223372036854775808 - a)*(9223372036854775808 - b):=Int.mul_nonneg (by omega) (by omega)
  have p2:0≤(9223372036854775808+a)*(9223372036854775808+b):=Int.mul_nonneg (by omega) (by omega)
  have p3:0≤(9223372036854775808 - a)*(9223372036854775808+b):=Int.mul_nonneg (by omega) (by omega)
  have p4:0≤(9223372036854775808+a)*(9223372036854775808 - b):=Int.mul_nonneg (by omega) (by omega)
  have e1:(9223372036854775808 - a)*(9223372036854775808 - b)=85070591730234615865843651857942052864 - 9223372036854775808*a - 9223372036854775808*b+a*b:=by grind
  have e2:(9223372036854775808+a)*(9223372036854775808+b)=85070591730234615865843651857942052864+9223372036854775808*a+9223372036854775808*b+a*b:=by grind
  have e3:(9223372036854775808 - a)*(9223372036854775808+b)=85070591730234615865843651857942052864 - 9223372036854775808*a+9223372036854775808*b - a*b:=by grind
  have e4:(9223372036854775808+a)*(9223372036854775808 - b)=85070591730234615865843651857942052864+9223372036854775808*a - 9223372036854775808*b - a*b:=by grind
  omega
 have hm:(a % 18446744073709551616)*(b % 18446744073709551616)=a*b+18446744073709551616*((if a<0 then b else 0)+(if b<0 then a else 0)+(if a<0 then if b<0 then 18446744073709551616 else 0 else 0)):=by
  have e1:a % 18446744073709551616=if a<0 then a+18446744073709551616 else a:=by split <;> omega
  have e2:b % 18446744073709551616=if b<0 then b+18446744073709551616 else b:=by split <;> omega
  rw [e1,e2]
  split <;> split <;> grind
 generalize a*b=m at *
 generalize (a % 18446744073709551616)*(b % 18446744073709551616)=M at *
 unfold poly_Times.c1 poly_Times.c2
 simp only [bnd,bif',ilt,icv,isub]
 obtain ⟨q1,h1⟩:=wrap_i64_mod (M / 18446744073709551616)
 by_cases h:a<0 <;> by_cases h':b<0 <;> simp only [h,h',decide_true,decide_false,if_true,if_false] at hm ⊢
 ·obtain ⟨q2,h2⟩:=wrap_i64_mod (IntKind.i64.wrap (M / 18446744073709551616) - b)
  obtain ⟨q3,h3⟩:=wrap_i64_mod (IntKind.i64.wrap (IntKind.i64.wrap (M / 18446744073709551616) - b) - a)
  have r:=wrap_i64_range (IntKind.i64.wrap (IntKind.i64.wrap (M / 18446744073709551616) - b) - a)
  refine ⟨_,rfl,?_,?_⟩ <;> simp only [WOk,wv] <;> omega
 ·obtain ⟨q2,h2⟩:=wrap_i64_mod (IntKind.i64.wrap (M / 18446744073709551616) - b)
  have r:=wrap_i64_range (IntKind.i64.wrap (M / 18446744073709551616) - b)
  refine ⟨_,rfl,?_,?_⟩ <;> simp only [WOk,wv] <;> omega
 ·obtain ⟨q2,h2⟩:=wrap_i64_mod (IntKind.i64.wrap (M / 18446744073709551616) - a)
  have r:=wrap_i64_range (IntKind.i64.wrap (M / 18446744073709551616) - a)
  refine ⟨_,rfl,?_,?_⟩ <;> simp only [WOk,wv] <;> omega
 ·have r:=wrap_i64_range (M / 18446744073709551616)
  refine ⟨_,rfl,?_,?_⟩ <;> simp only [WOk,wv] <;> omega
end Go.Proofs.T1
namespace Go.Proofs.T1
open Go Go.Sx
theorem digit {U Y d q r B yn1 yn0:Int} (hB:B=4294967296) (hY:Y=yn1*B+yn0) (h1:2147483648≤yn1) (h0:0≤yn0) (h0':yn0<B) (_hU:0≤U) (hUY:U<Y) (hd:0≤d) (hdB:d<B)
  (hq:q*yn1+r=U) (hqQ:(U*B+d) / Y≤q) (hqB:q≤B+1) (_hr:0≤r) (_hrB:r<B) (hq0:0≤q) :
  ((B≤q∨q*yn0 > B*r+d)→(U*B+d) / Y≤q - 1∧(B≤r+yn1→q - 1=(U*B+d) / Y))∧(¬ (B≤q∨q*yn0 > B*r+d)→q=(U*B+d) / Y):=by
 have hYpos:0<Y:=by rw [hY,hB]; omega
 have key:q*Y=U*B+d+(q*yn0 - (B*r+d)):=by rw [hY,← hq]; grind
 generalize hQ:(U*B+d) / Y=Q at *
 have hQ1:Q*Y≤U*B+d:=by rw [← hQ]; exact Int.ediv_mul_le _ (by omega)
 have hQ2:U*B+d<(Q+1)*Y:=by rw [← hQ]; exact Int.lt_ediv_add_one_mul_self _ hYpos
 have hQB:Q<B:=by
  have:Q*Y<B*Y:=by
   have:U*B+d<B*Y:=by
    have h2:U+1≤Y:=hUY
    have h3:(U+1)*B≤Y*B:=Int.mul_le_mul_of_nonneg_right h2 (by omega)
    have e:(U+1)*B=U*B+B:=by grind
    have e2:Y*B=B*Y:=Int.mul_comm _ _
    omega
   omega
  exact Int.lt_of_mul_lt_mul_right this (by omega)
 constructor
 ·intro hc
  have hlt:Q<q:=by
   rcases hc with hc | hc
   ·omega
   ·have:U*B+d<q*Y:=by omega
    have h2:Q*Y<q*Y:=by omega
    exact Int.lt_of_mul_lt_mul_right h2 (by omega)
  refine ⟨by omega,fun hb=>?_⟩
  have e:(q - 1)*Y=U*B+d+((q - 1)*yn0 - (B*(r+yn1)+d)):=by
   have:(q - 1)*Y=q*Y - Y:=by grind
   rw [this,key]
   have e2:(q - 1)*yn0=q*yn0 - yn0:=by grind
   have e3:B*(r+yn1)=B*r+B*yn1:=by grind
   rw [e2,e3,hY]
   have e4:yn1*B=B*yn1:=Int.mul_comm _ _
   omega
  have hm:(q - 1)*yn0≤B*(r+yn1)+d:=by
   have h2:(q - 1)*yn0≤B*yn0:=Int.mul_le_mul_of_nonneg_right (by omega) h0
   have h3:B*yn0≤B*(r+yn1):=Int.mul_le_mul_of_nonneg_left (by omega) (by omega)
   omega
  have hle:(q - 1)*Y<(Q+1)*Y:=by omega
  have:=Int.lt_of_mul_lt_mul_right hle (by omega)
  omega
 ·intro hc
  have h1:¬ q*yn0 > B*r+d:=fun h=>hc (.inr h)
  have:q*Y<(Q+1)*Y:=by omega
  have:=Int.lt_of_mul_lt_mul_right this (by omega)
  omega
end Go.Proofs.T1
namespace Go.Proofs.T1
open Go Go.Sx
theorem Div64_c1 {k:Nat} {a1 a2 y5 U Y X:Int} (eY:ishl .u64 a2 (icv .u64 y5)=Y) (eX:ishl .u64 a1 (icv .u64 y5)=X) (hY:9223372036854775808≤Y) (hY':Y≤18446744073709551615)
  (hX:0≤X) (hX':X≤18446744073709551615) (hU:0≤U) (hUY:U<Y):∀ (n:Nat) (q r:Int),q*(Y / 4294967296)+r=U→(U*4294967296+X / 4294967296) / Y≤q→q≤4294967297→0≤q→0≤r→r<4294967296→4294967296≤r+n*2147483648 →
   bits_Div64.c1 k a1 a2 y5 n q r=some ((U*4294967296+X / 4294967296) / Y):=by
 have hYe:=Int.mul_ediv_add_emod Y 4294967296
 have hY0:=Int.emod_nonneg Y (show (4294967296:Int)≠0 by decide)
 have hY0':=Int.emod_lt_of_pos Y (show (0:Int)<4294967296 by decide)
 have hY1:2147483648≤Y / 4294967296:=by omega
 have hY1':Y / 4294967296≤4294967295:=by omega
 have hand:ibits .and .u64 Y 4294967295=Y % 4294967296:=and32 (by omega) (by omega)
 intro n
 induction n with
 | zero=>intro q r _ _ _ _ _ h1 h2; omega
 | succ n ih =>
  intro q r hq hqQ hqB hq0 hr hrB hn
  obtain ⟨g1,g2⟩:=digit (B:=4294967296) (yn1:=Y / 4294967296) (yn0:=Y % 4294967296) (d:=X / 4294967296) rfl (by omega) hY1 hY0 hY0' hU hUY (by omega) (by omega) hq hqQ hqB hr hrB hq0
  unfold bits_Div64.c1 bits_Div64.c2
  simp only [eY,eX,shr32,hand,isub_u64,iadd_u64,imul_u64]
  have hQ0:0≤(U*4294967296+X / 4294967296) / Y:=Int.ediv_nonneg (by omega) (by omega)
  have tail:(4294967296≤q∨q*(Y % 4294967296) > 4294967296*r+X / 4294967296)→bif' (ige ((r+Y / 4294967296) % 18446744073709551616) 4294967296) (some ((q - 1) % 18446744073709551616))
    (bits_Div64.c1 k a1 a2 y5 n ((q - 1) % 18446744073709551616) ((r+Y / 4294967296) % 18446744073709551616))=some ((U*4294967296+X / 4294967296) / Y):=by
   intro hc
   obtain ⟨g3,g4⟩:=g1 hc
   have e1:(r+Y / 4294967296) % 18446744073709551616=r+Y / 4294967296:=by omega
   have e2:(q - 1) % 18446744073709551616=q - 1:=by omega
   rw [e1,e2]
   by_cases hb:r+Y / 4294967296 ≥ 4294967296
   ·simp only [bif',ige,hb,decide_true]
    rw [g4 hb]
   ·simp only [bif',ige,hb,decide_false]
    refine ih (q - 1) (r+Y / 4294967296) ?_ g3 (by omega) (by omega) (by omega) (by omega) (by omega)
    have:(q - 1)*(Y / 4294967296)=q*(Y / 4294967296) - Y / 4294967296:=by grind
    omega
  by_cases hc:q ≥ 4294967296
  ·simp only [bif',bnd,ige,hc,decide_true]
   exact tail (.inl hc)
  ·have hm:=mul_range hq0 (show q≤4294967295 by omega) hY0 (show Y % 4294967296≤4294967295 by omega)
   have e3:q*(Y % 4294967296) % 18446744073709551616=q*(Y % 4294967296):=by omega
   have e4:(4294967296*r % 18446744073709551616+X / 4294967296) % 18446744073709551616=4294967296*r+X / 4294967296:=by omega
   by_cases hc2:q*(Y % 4294967296) > 4294967296*r+X / 4294967296
   ·simp only [bif',bnd,ige,hc,igt,e3,e4,hc2,decide_true,decide_false]
    exact tail (.inr hc2)
   ·simp only [bif',bnd,ige,hc,igt,e3,e4,hc2,decide_false]
    rw [g2 (by omega)]
theorem Div64_c3 {k:Nat} {a1 a2 y5 U Y X:Int} (eY:ishl .u64 a2 (icv .u64 y5)=Y) (eX:ishl .u64 a1 (icv .u64 y5)=X) (hY:9223372036854775808≤Y) (hY':Y≤18446744073709551615)
  (hX:0≤X) (hX':X≤18446744073709551615) (hU:0≤U) (hUY:U<Y):∀ (n:Nat) (q r:Int),q*(Y / 4294967296)+r=U→(U*4294967296+X % 4294967296) / Y≤q→q≤4294967297→0≤q→0≤r→r<4294967296→4294967296≤r+n*2147483648 →
   bits_Div64.c3 k a1 a2 y5 n r q=some ((U*4294967296+X % 4294967296) / Y):=by
 have hYe:=Int.mul_ediv_add_emod Y 4294967296
 have hY0:=Int.emod_nonneg Y (show (4294967296:Int)≠0 by decide)
 have hY0':=Int.emod_lt_of_pos Y (show (0:Int)<4294967296 by decide)
 have hY1:2147483648≤Y / 4294967296:=by omega
 have hY1':Y / 4294967296≤4294967295:=by omega
 have hand:ibits .and .u64 Y 4294967295=Y % 4294967296:=and32 (by omega) (by omega)
 have handX:ibits .and .u64 X 4294967295=X % 4294967296:=and32 (by omega) (by omega)
 intro n
 induction n with
 | zero=>intro q r _ _ _ _ _ h1 h2; omega
 | succ n ih =>
  intro q r hq hqQ hqB hq0 hr hrB hn
  obtain ⟨g1,g2⟩:=digit (B:=4294967296) (yn1:=Y / 4294967296) (yn0:=Y % 4294967296) (d:=X % 4294967296) rfl (by omega) hY1 hY0 hY0' hU hUY (by omega) (by omega) hq hqQ hqB hr hrB hq0
  unfold bits_Div64.c3 bits_Div64.c4
  simp only [eY,eX,shr32,hand,handX,isub_u64,iadd_u64,imul_u64]
  have hQ0:0≤(U*4294967296+X % 4294967296) / Y:=Int.ediv_nonneg (by omega) (by omega)
  have tail:(4294967296≤q∨q*(Y % 4294967296) > 4294967296*r+X % 4294967296)→bif' (ige ((r+Y / 4294967296) % 18446744073709551616) 4294967296) (some ((q - 1) % 18446744073709551616))
    (bits_Div64.c3 k a1 a2 y5 n ((r+Y / 4294967296) % 18446744073709551616) ((q - 1) % 18446744073709551616))=some ((U*4294967296+X % 4294967296) / Y):=by
   intro hc
   obtain ⟨g3,g4⟩:=g1 hc
   have e1:(r+Y / 4294967296) % 18446744073709551616=r+Y / 4294967296:=by omega
   have e2:(q - 1) % 18446744073709551616=q - 1:=by omega
   rw [e1,e2]
   by_cases hb:r+Y / 4294967296 ≥ 4294967296
   ·simp only [bif',ige,hb,decide_true]
    rw [g4 hb]
   ·simp only [bif',ige,hb,decide_false]
    refine ih (q - 1) (r+Y / 4294967296) ?_ g3 (by omega) (by omega) (by omega) (by omega) (by omega)
    have:(q - 1)*(Y / 4294967296)=q*(Y / 4294967296) - Y / 4294967296:=by grind
    omega
  by_cases hc:q ≥ 4294967296
  ·simp only [bif',bnd,ige,hc,decide_true]
   exact tail (.inl hc)
  ·have hm:=mul_range hq0 (show q≤4294967295 by omega) hY0 (show Y % 4294967296≤4294967295 by omega)
   have e3:q*(Y % 4294967296) % 18446744073709551616=q*(Y % 4294967296):=by omega
   have e4:(4294967296*r % 18446744073709551616+X % 4294967296) % 18446744073709551616=4294967296*r+X % 4294967296:=by omega
   by_cases hc2:q*(Y % 4294967296) > 4294967296*r+X % 4294967296
   ·simp only [bif',bnd,ige,hc,igt,e3,e4,hc2,decide_true,decide_false]
    exact tail (.inr hc2)
   ·simp only [bif',bnd,ige,hc,igt,e3,e4,hc2,decide_false]
    rw [g2 (by omega)]
end Go.Proofs.T1
namespace Go.Proofs.T1
open Go Go.Sx
def lenOk (n:Nat) (l:Int):Bool:=(n == 0) || (decide (1≤l) && decide (l≤8) && decide (2 ^ (l.toNat - 1)≤n) && decide (n<2 ^ l.toNat))
theorem len8_table:((List.range 256).all fun n=>lenOk n (strAt str0 (n:Int)))=true:=by decide +kernel
theorem len8 {x:Int} (h1:1≤x) (h2:x≤255):∃ l:Nat,1≤l∧l≤8∧strAt str0 x=(l:Int)∧2 ^ (l - 1)≤x.toNat∧x.toNat<2 ^ l:=by
 have h:=List.all_eq_true.1 len8_table x.toNat (List.mem_range.2 (by omega))
 have hx:((x.toNat:Nat):Int)=x:=by omega
 rw [hx] at h
 unfold lenOk at h
 simp only [Bool.or_eq_true,Bool.and_eq_true,decide_eq_true_eq,beq_iff_eq] at h
 rcases h with h | ⟨⟨⟨h3,h4⟩,h5⟩,h6⟩
 ·omega
 ·exact ⟨(strAt str0 x).toNat,by omega,by omega,by omega,h5,h6⟩
theorem shr16 (x:Int):ishr .u64 x 16=x / 65536:=ishr_u64 x (n:=16) (by decide)
theorem shr8 (x:Int):ishr .u64 x 8=x / 256:=ishr_u64 x (n:=8) (by decide)
theorem icv_u8 (x:Int):icv .u8 x=x % 256:=by simp [icv,IntKind.wrap,IntKind.signed,IntKind.bits]
theorem Len64_eq (k:Nat) {y:Int} (h1:1≤y) (h2:y≤18446744073709551615) :
  ∃ n l:Nat,(n=0∨n=8∨n=16∨n=24∨n=32∨n=40∨n=48∨n=56)∧1≤l∧l≤8∧bits_Len64 k y=some ((n:Int)+l)∧2 ^ (l - 1)≤(y / 2 ^ n).toNat∧(y / 2 ^ n).toNat<2 ^ l:=by
 have fin:∀ (x:Int) (n:Nat),(n=0∨n=8∨n=16∨n=24∨n=32∨n=40∨n=48∨n=56)→1≤x→x≤255→x=y / 2 ^ n →
   (req (inR (icv .u8 x) 256) <| some (iadd .i64 (n:Int) (icv .i64 (strAt str0 (icv .u8 x)))))=bits_Len64 k y →
   ∃ n l:Nat,(n=0∨n=8∨n=16∨n=24∨n=32∨n=40∨n=48∨n=56)∧1≤l∧l≤8∧bits_Len64 k y=some ((n:Int)+l)∧2 ^ (l - 1)≤(y / 2 ^ n).toNat∧(y / 2 ^ n).toNat<2 ^ l:=by
  intro x n hn hx1 hx2 hx he
  obtain ⟨l,g1,g2,g3,g4,g5⟩:=len8 hx1 hx2
  have e8:icv .u8 x=x:=by rw [icv_u8]; omega
  refine ⟨n,l,hn,g1,g2,?_,by rw [← hx]; exact g4,by rw [← hx]; exact g5⟩
  rw [← he,e8,g3,icv_i64 (by omega) (by omega),iadd_i64 (by omega) (by omega)]
  unfold req
  rw [if_pos ⟨by omega,by omega⟩]
 unfold bits_Len64 bits_Len64.c1 bits_Len64.c2 bits_Len64.c3 at *
 simp only [shr32,shr16,shr8] at *
 by_cases c1:y ≥ 4294967296
 ·by_cases c2:y / 4294967296 ≥ 65536
  ·by_cases c3:y / 4294967296 / 65536 ≥ 256
   ·exact fin (y / 4294967296 / 65536 / 256) 56 (by decide) (by omega) (by omega) (by omega) (by simp only [bif',bnd,ige,c1,c2,c3,decide_true]; rfl)
   ·exact fin (y / 4294967296 / 65536) 48 (by decide) (by omega) (by omega) (by omega) (by simp only [bif',bnd,ige,c1,c2,c3,decide_true,decide_false]; rfl)
  ·by_cases c3:y / 4294967296 ≥ 256
   ·exact fin (y / 4294967296 / 256) 40 (by decide) (by omega) (by omega) (by omega) (by simp only [bif',bnd,ige,c1,c2,c3,decide_true,decide_false]; rfl)
   ·exact fin (y / 4294967296) 32 (by decide) (by omega) (by omega) (by omega) (by simp only [bif',bnd,ige,c1,c2,c3,decide_true,decide_false]; rfl)
 ·by_cases c2:y ≥ 65536
  ·by_cases c3:y / 65536 ≥ 256
   ·exact fin (y / 65536 / 256) 24 (by decide) (by omega) (by omega) (by omega) (by simp only [bif',bnd,ige,c1,c2,c3,decide_true,decide_false]; rfl)
   ·exact fin (y / 65536) 16 (by decide) (by omega) (by omega) (by omega) (by simp only [bif',bnd,ige,c1,c2,c3,decide_true,decide_false]; rfl)
  ·by_cases c3:y ≥ 256
   ·exact fin (y / 256) 8 (by decide) (by omega) (by omega) (by omega) (by simp only [bif',bnd,ige,c1,c2,c3,decide_true,decide_false]; rfl)
   ·exact fin y 0 (by decide) (by omega) (by omega) (by omega) (by simp only [bif',bnd,ige,c1,c2,c3,decide_false]; rfl)
theorem LeadingZeros64_eq (k:Nat) {y:Int} (h1:1≤y) (h2:y≤18446744073709551615) :
  ∃ s:Nat,s≤63∧bits_LeadingZeros64 k y=some (s:Int)∧9223372036854775808≤y*2 ^ s∧y*2 ^ s≤18446744073709551615:=by
 obtain ⟨n,l,hn,hl1,hl2,he,hlo,hhi⟩:=Len64_eq k h1 h2
 refine ⟨64 - (n+l),by omega,?_,?_⟩
 ·unfold bits_LeadingZeros64
  rw [he]
  simp only [bnd]
  rw [isub_i64 (by omega) (by omega)]
  congr 1
  omega
 ·have hl:l=1∨l=2∨l=3∨l=4∨l=5∨l=6∨l=7∨l=8:=by omega
  rcases hn with rfl | rfl | rfl | rfl | rfl | rfl | rfl | rfl <;> rcases hl with rfl | rfl | rfl | rfl | rfl | rfl | rfl | rfl <;> simp at hlo hhi ⊢ <;> omega
end Go.Proofs.T1
namespace Go.Proofs.T1
open Go Go.Sx
theorem or_low {a b:Int} {s:Nat} (hs:s≤64) (ha:0≤a) (ha':a*2 ^ s≤18446744073709551615) (hb:0≤b) (hb':b<2 ^ s):ibits .or .u64 (a*2 ^ s) b=a*2 ^ s+b:=by
 obtain ⟨m,rfl⟩:=Int.eq_ofNat_of_zero_le ha
 obtain ⟨n,rfl⟩:=Int.eq_ofNat_of_zero_le hb
 have hb2:n<2 ^ s:=by exact_mod_cast hb'
 have ha2:m*2 ^ s≤18446744073709551615:=by
  have h:((m*2 ^ s:Nat):Int)≤18446744073709551615:=by rw [Int.natCast_mul,Int.natCast_pow]; exact ha'
  omega
 have hp:(2:Nat) ^ s≤2 ^ 64:=Nat.pow_le_pow_right (by decide) hs
 have e0:((m:Int)*2 ^ s)=((m*2 ^ s:Nat):Int):=by rw [Int.natCast_mul,Int.natCast_pow]; rfl
 rw [e0]
 simp only [ibits,wrap_u64]
 have e:((BitVec.ofInt IntKind.u64.bits ((m*2 ^ s:Nat):Int)) ||| (BitVec.ofInt IntKind.u64.bits (n:Int))).toNat=m*2 ^ s+n:=by
  show ((BitVec.ofInt 64 ((m*2 ^ s:Nat):Int)) ||| (BitVec.ofInt 64 (n:Int))).toNat=_
  rw [BitVec.toNat_or,ofInt_nat,ofInt_nat]
  have h1:m*2 ^ s % 18446744073709551616=m*2 ^ s:=by omega
  have h2:n % 18446744073709551616=n:=by
   have:n<2 ^ 64:=Nat.lt_of_lt_of_le hb2 hp
   simp at this
   omega
  rw [h1,h2,Nat.mul_comm m,← Nat.two_pow_add_eq_or_of_lt hb2]
 rw [e]
 have hsum:m*2 ^ s+n≤18446744073709551615:=by
  have hd:2 ^ s ∣ 18446744073709551616:=⟨2 ^ (64 - s),by rw [← Nat.pow_add,show s+(64 - s)=64 by omega]⟩
  obtain ⟨c,hc⟩:=hd
  have hmc:m<c:=by
   have:m*2 ^ s<c*2 ^ s:=by rw [Nat.mul_comm c,← hc]; omega
   exact Nat.lt_of_mul_lt_mul_right this
  have h3:(m+1)*2 ^ s≤c*2 ^ s:=Nat.mul_le_mul_right _ hmc
  rw [Nat.mul_comm c,← hc,Nat.add_mul] at h3
  omega
 omega
theorem iquo_u64 {x y:Int} (hx:0≤x) (hx':x≤18446744073709551615) (hy:0<y):iquo .u64 x y=x / y:=by
 unfold iquo
 rw [wrap_u64,Int.tdiv_eq_ediv_of_nonneg hx]
 have h1:0≤x / y:=Int.ediv_nonneg hx (by omega)
 have h2:x / y≤x:=Int.ediv_le_self y hx
 omega
theorem irem_nonneg {x y:Int} (hx:0≤x):irem x y=x % y:=Int.tmod_eq_emod_of_nonneg hx
theorem pow_split {s:Nat} (hs:s≤64):(2:Int) ^ s*2 ^ (64 - s)=18446744073709551616:=by
 rw [← Int.pow_add]
 have:s+(64 - s)=64:=by omega
 rw [this]
 rfl
theorem Div64_eq {k:Nat} (hk:2≤k) {hi lo y:Int} (h0:0≤hi) (h1:hi<y) (hy:y≤18446744073709551615) (hl:0≤lo) (hl':lo≤18446744073709551615) :
  bits_Div64 k hi lo y=some ((hi*18446744073709551616+lo) / y,(hi*18446744073709551616+lo) % y):=by
 unfold bits_Div64
 have c1:ieq y 0=false:=by simp [ieq]; omega
 have c2:ile y hi=false:=by simp [ile]; omega
 simp only [c1,c2,bif']
 by_cases hz:hi=0
 ·subst hz
  simp only [ieq,decide_true]
  have nzy:nz y:=by unfold nz; omega
  simp only [req,nzy,if_true]
  rw [iquo_u64 hl hl' (by omega),irem_nonneg hl]
  simp
 ·have c3:ieq hi 0=false:=by simp [ieq]; exact hz
  simp only [c3]
  obtain ⟨s,hs,hlz,hY,hY'⟩:=LeadingZeros64_eq k (show 1≤y by omega) hy
  rw [hlz]
  simp only [bnd]
  have es:icv .u64 (s:Int)=(s:Int):=by rw [icv_u64]; omega
  have e64:isub .u64 64 (s:Int)=((64 - s:Nat):Int):=by rw [isub_u64]; omega
  simp only [es,e64,ishl_u64 _ (show s≤64 by omega),ishr_u64 _ (show 64 - s≤64 by omega),ishr_u64 _ (show s≤64 by omega),shr32]
  have hp:(0:Int)<2 ^ s:=Int.pow_pos (by decide)
  have hp':(0:Int)<2 ^ (64 - s):=Int.pow_pos (by decide)
  have hpp:=pow_split (show s≤64 by omega)
  have eY:y*2 ^ s % 18446744073709551616=y*2 ^ s:=by omega
  have hhi:hi*2 ^ s≤18446744073709551615:=by
   have:hi*2 ^ s≤y*2 ^ s:=Int.mul_le_mul_of_nonneg_right (by omega) (by omega)
   omega
  have hhi0:0≤hi*2 ^ s:=Int.mul_nonneg h0 (by omega)
  have eH:hi*2 ^ s % 18446744073709551616=hi*2 ^ s:=by omega
  have hlq0:0≤lo / 2 ^ (64 - s):=Int.ediv_nonneg hl (by omega)
  have hlq:lo / 2 ^ (64 - s)<2 ^ s:=by
   rw [Int.ediv_lt_iff_lt_mul hp',hpp]
   omega
  have eU:=or_low (show s≤64 by omega) h0 hhi hlq0 hlq
  simp only [eY,eH,eU]
  have hlo:=Int.mul_ediv_add_emod lo (2 ^ (64 - s))
  have hr0:=Int.emod_nonneg lo (show ((2:Int) ^ (64 - s))≠0 by omega)
  have hr1:=Int.emod_lt_of_pos lo hp'
  have hX:lo*2 ^ s=(lo / 2 ^ (64 - s))*18446744073709551616+(lo % 2 ^ (64 - s))*2 ^ s:=by
   conv=>lhs; rw [← hlo]
   rw [← hpp]
   grind
  have hX0:0≤(lo % 2 ^ (64 - s))*2 ^ s:=Int.mul_nonneg hr0 (by omega)
  have hX1:(lo % 2 ^ (64 - s))*2 ^ s<18446744073709551616:=by
   rw [← hpp,Int.mul_comm ((2:Int) ^ s)]
   exact Int.mul_lt_mul_of_pos_right hr1 hp
  have eX:lo*2 ^ s % 18446744073709551616=(lo % 2 ^ (64 - s))*2 ^ s:=by rw [hX]; omega
  simp only [eX]
  generalize hUU:hi*2 ^ s+lo / 2 ^ (64 - s)=U at *
  generalize hXX:(lo % 2 ^ (64 - s))*2 ^ s=X at *
  have hN:(hi*18446744073709551616+lo)*2 ^ s=U*18446744073709551616+X:=by
   have:(hi*18446744073709551616+lo)*2 ^ s=hi*2 ^ s*18446744073709551616+lo*2 ^ s:=by grind
   rw [this,hX,← hUU]
   grind
  have hU0:0≤U:=by omega
  have hUY:U<y*2 ^ s:=by
   have h2:(hi*18446744073709551616+lo)*2 ^ s<(y*18446744073709551616)*2 ^ s:=Int.mul_lt_mul_of_pos_right (by omega) hp
   have h3:(y*18446744073709551616)*2 ^ s=(y*2 ^ s)*18446744073709551616:=by grind
   omega
  generalize hYY:y*2 ^ s=Y at *
  have hY1:2147483648≤Y / 4294967296:=by omega
  have hYe:=Int.mul_ediv_add_emod Y 4294967296
  have n1:ng (s:Int):=by unfold ng; omega
  have n2:ng ((64 - s:Nat):Int):=by unfold ng; omega
  have n3:nz (Y / 4294967296):=by unfold nz; omega
  simp only [req,n1,n2,n3,if_true]
  have shlY:ishl .u64 y (icv .u64 (s:Int))=Y:=by rw [es,ishl_u64 _ (show s≤64 by omega),hYY,eY]
  have shlX:ishl .u64 lo (icv .u64 (s:Int))=X:=by rw [es,ishl_u64 _ (show s≤64 by omega),eX]
  have handX:ibits .and .u64 X 4294967295=X % 4294967296:=and32 (by omega) (by omega)
  simp only [handX,iadd_u64,isub_u64,imul_u64]
  have start:∀ (V d:Int),0≤V→V<Y→0≤d→d<4294967296 →
    iquo .u64 V (Y / 4294967296)=V / (Y / 4294967296)∧(V - V / (Y / 4294967296)*(Y / 4294967296) % 18446744073709551616) % 18446744073709551616=V % (Y / 4294967296) ∧
    V / (Y / 4294967296)*(Y / 4294967296)+V % (Y / 4294967296)=V∧(V*4294967296+d) / Y≤V / (Y / 4294967296)∧V / (Y / 4294967296)≤4294967297∧0≤V / (Y / 4294967296)∧0≤V % (Y / 4294967296) ∧
    V % (Y / 4294967296)<4294967296∧4294967296≤V % (Y / 4294967296)+k*2147483648:=by
   intro V d hV hVY hd hd'
   have m1:=Int.mul_ediv_add_emod V (Y / 4294967296)
   have m2:=Int.emod_nonneg V (show Y / 4294967296≠0 by omega)
   have m3:=Int.emod_lt_of_pos V (show 0<Y / 4294967296 by omega)
   have m4:0≤V / (Y / 4294967296):=Int.ediv_nonneg hV (by omega)
   have m5:V / (Y / 4294967296)*(Y / 4294967296)=Y / 4294967296*(V / (Y / 4294967296)):=Int.mul_comm _ _
   refine ⟨iquo_u64 hV (by omega) (by omega),by omega,by omega,?_,?_,m4,m2,by omega,by omega⟩
   ·rw [Int.le_ediv_iff_mul_le (by omega)]
    have q1:=Int.ediv_mul_le (V*4294967296+d) (show Y≠0 by omega)
    have q0:0≤(V*4294967296+d) / Y:=Int.ediv_nonneg (by omega) (by omega)
    generalize (V*4294967296+d) / Y=Q at *
    have q2:Q*(Y / 4294967296)*4294967296≤Q*Y:=by
     have:Q*(Y / 4294967296)*4294967296=Q*(4294967296*(Y / 4294967296)):=by grind
     rw [this]
     exact Int.mul_le_mul_of_nonneg_left (by omega) q0
    omega
   ·have:V / (Y / 4294967296)<4294967298:=by
     rw [Int.ediv_lt_iff_lt_mul (by omega)]
     omega
    omega
  obtain ⟨s1,s2,s3,s4,s5,s6,s7,s8,s9⟩:=start U (X / 4294967296) hU0 hUY (by omega) (by omega)
  rw [s1,s2,Div64_c1 shlY shlX (by omega) (by omega) (by omega) (by omega) hU0 hUY k _ _ s3 s4 s5 s6 s7 s8 s9]
  simp only []
  have d1:=Int.mul_ediv_add_emod (U*4294967296+X / 4294967296) Y
  have d2:=Int.emod_nonneg (U*4294967296+X / 4294967296) (show Y≠0 by omega)
  have d3:=Int.emod_lt_of_pos (U*4294967296+X / 4294967296) (show 0<Y by omega)
  have d4:0≤(U*4294967296+X / 4294967296) / Y:=Int.ediv_nonneg (by omega) (by omega)
  have d5:(U*4294967296+X / 4294967296) / Y<4294967296:=by
   rw [Int.ediv_lt_iff_lt_mul (by omega)]
   omega
  have d6:(U*4294967296+X / 4294967296) / Y*Y=Y*((U*4294967296+X / 4294967296) / Y):=Int.mul_comm _ _
  generalize (U*4294967296+X / 4294967296) / Y=q1 at *
  generalize (U*4294967296+X / 4294967296) % Y=V at *
  have eV:((U*4294967296 % 18446744073709551616+X / 4294967296) % 18446744073709551616 - q1*Y % 18446744073709551616) % 18446744073709551616=V:=by omega
  simp only [eV]
  obtain ⟨t1,t2,t3,t4,t5,t6,t7,t8,t9⟩:=start V (X % 4294967296) d2 d3 (by omega) (by omega)
  rw [t1,t2,Div64_c3 shlY shlX (by omega) (by omega) (by omega) (by omega) d2 d3 k _ _ t3 t4 t5 t6 t7 t8 t9]
  simp only []
  have g1:=Int.mul_ediv_add_emod (V*4294967296+X % 4294967296) Y
  have g2:=Int.emod_nonneg (V*4294967296+X % 4294967296) (show Y≠0 by omega)
  have g3:=Int.emod_lt_of_pos (V*4294967296+X % 4294967296) (show 0<Y by omega)
  have g4:0≤(V*4294967296+X % 4294967296) / Y:=Int.ediv_nonneg (by omega) (by omega)
  have g5:(V*4294967296+X % 4294967296) / Y<4294967296:=by
   rw [Int.ediv_lt_iff_lt_mul (by omega)]
   omega
  have g6:(V*4294967296+X % 4294967296) / Y*Y=Y*((V*4294967296+X % 4294967296) / Y):=Int.mul_comm _ _
  generalize (V*4294967296+X % 4294967296) / Y=q0 at *
  generalize (V*4294967296+X % 4294967296) % Y=R at *
  have eR:((V*4294967296 % 18446744073709551616+X % 4294967296) % 18446744073709551616 - q0*Y % 18446744073709551616) % 18446744073709551616=R:=by omega
  have eQ:(q1*4294967296 % 18446744073709551616+q0) % 18446744073709551616=q1*4294967296+q0:=by omega
  simp only [eR,eQ]
  have total:(hi*18446744073709551616+lo)*2 ^ s=(q1*4294967296+q0)*Y+R:=by
   rw [hN]
   have e1:(q1*4294967296+q0)*Y=(Y*q1)*4294967296+Y*q0:=by grind
   rw [e1]
   omega
  rw [← hYY] at total g3
  have tR:((hi*18446744073709551616+lo) - (q1*4294967296+q0)*y)*2 ^ s=R:=by
   have:((hi*18446744073709551616+lo) - (q1*4294967296+q0)*y)*2 ^ s=(hi*18446744073709551616+lo)*2 ^ s - (q1*4294967296+q0)*(y*2 ^ s):=by grind
   rw [this,total]
   omega
  generalize hz:(hi*18446744073709551616+lo) - (q1*4294967296+q0)*y=z at *
  have z0:0≤z:=by
   have:0≤z*2 ^ s:=by rw [tR]; exact g2
   exact Int.nonneg_of_mul_nonneg_left this hp
  have z1:z<y:=by
   have:z*2 ^ s<y*2 ^ s:=by rw [tR]; exact g3
   exact Int.lt_of_mul_lt_mul_right this (by omega)
  have eZ:R / 2 ^ s=z:=by rw [← tR]; exact Int.mul_ediv_cancel _ (by omega)
  rw [eZ]
  have hdiv:(hi*18446744073709551616+lo) / y=q1*4294967296+q0:=by
   rw [Int.ediv_eq_iff_of_pos (by omega)]
   constructor <;> grind
  have hmod:(hi*18446744073709551616+lo) % y=z:=by
   have:=Int.mul_ediv_add_emod (hi*18446744073709551616+lo) y
   rw [hdiv] at this
   have e:=Int.mul_comm y (q1*4294967296+q0)
   omega
  rw [hdiv,hmod]
end Go.Proofs.T1
namespace Go.Proofs.T1
open Go Go.Sx
end Go.Proofs.T1
