import Derived.Test.YthpbadopmihmpaaGreatPlMeet
import Derived.Test.YthpbadopmihmpaaGreatPlPairs
import Derived.Test.YthpbadopmihmpaaGreatG15
namespace Go.Proofs.T1
open Go Go.Sx
def PX0:V133:=((-65536,262144,()),(65536,393216,()),())
def PX1:V133:=((-131074,196446,()),(131074,458754,()),())
theorem one_Pairs (x:V133):sweep_Pairs 10000 [x]=some []:=by
 obtain ⟨K,hK⟩:∃ K,K=10000:=⟨10000,rfl⟩
 obtain ⟨r,e,hr,_⟩:=Pairs_ok (k:=K) [x] (by simp; omega) (by simp)
 have h2:PairsOf [x] []:=by
  refine ⟨by simp,fun p=>?_⟩
  constructor
  ·intro h; cases h
  ·rintro ⟨a,b,h0,h1,h2,_,h⟩
   have h2:b<1:=h2
   omega
 rw [PairsOf_eq hr h2,hK] at e
 exact e
end Go.Proofs.T1
namespace Go.Proofs.T1
open Go Go.Sx
def HB0:V45:=((0,327680,()),(0,0,()),0,0,262144,174763,0,0,[(-65536,-65536,()),(65536,-65536,()),(65536,65536,()),(-65536,65536,())],false,0,())
def HB1:V45:=((0,327680,()),(0,-10240,()),0,0,262144,174763,0,0,[(-65536,-65536,()),(65536,-65536,()),(65536,65536,()),(-65536,65536,())],false,0,())
def HB2:V45:=((0,327520,()),(0,-10240,()),0,0,262144,174763,0,0,[(-65536,-65536,()),(65536,-65536,()),(65536,65536,()),(-65536,65536,())],false,0,())
def HSC:V28:=([HB0],[],[],(0,-655360,()),1024,())
theorem hq1:phys_Check 10000 HSC=some 0:=by kernel_rfl
theorem hq2:keep_Check 10000 [HB0]=some 0:=by kernel_rfl
theorem hq3:keep_Pairs.c1 10000 [HB0] 10000 0 []=some [PX0]:=by kernel_rfl
theorem hq4:slices_DeleteFunc_104 10000 (fun x:((List Int) × Unit)=>keep_Pairs_1 10000 (x.1) [HB0]) []=some []:=by kernel_rfl
theorem hq5:keep_Pairs 10000 [HB0]=some ([],0):=by
 unfold keep_Pairs
 rw [hq2,bS,ine_neg rfl,bF,hq3,bS,one_Pairs,bS,hq4,bS]
theorem hq6:(bnd (keep_Find.c1 10000 [HB0] ([],0) 10000) fun _=>bnd (keep_Carry 10000 [] []) fun y9=>some (y9,(0:Int)))=some ([],0):=by kernel_rfl
theorem hq7:keep_Find 10000 [HB0] []=some ([],0):=by
 unfold keep_Find
 rw [hq5,bS]
 dsimp only
 rw [ine_neg rfl,bF]
 exact hq6
theorem hq8:phys_islands 10000 [HB0] [] []=some [0]:=by kernel_rfl
theorem hq9:phys_wake 10000 [HB0] [0]=some [HB0]:=by kernel_rfl
theorem hq10:phys_fall 10000 (0,-655360,()) 1024 [HB0]=some [HB1]:=by kernel_rfl
theorem hq11:joint_Run_h 10000 [] 1024 8 [HB1]=some ([HB1],0):=by kernel_rfl
theorem hq12:solve_Run_h 10000 [HB1] 1024 8 []=some ([HB1],[],0):=by kernel_rfl
theorem hq13:phys_parts.c1 10000 [HB1] 1024 10000 0 [] (mk0 false (len [HB1]))=some ([PX1],[false]):=by kernel_rfl
theorem hq14:slices_Repeat 10000 [65536] (len [HB1])=some [65536]:=by
 have e:mk0 (0:Int) 1≠[]∧[65536]≠([]:List Int):=⟨by decide,by decide⟩
 unfold slices_Repeat
 have l1:len [HB1]=1:=rfl
 rw [l1,ilt_neg (by decide),bF]
 have m:bits_Mul 10000 (icv .u64 (len [(65536:Int)])) (icv .u64 1)=some (0,1):=by kernel_rfl
 have m2:slices_Repeat.c1 10000 (0,1)=some false:=by kernel_rfl
 have m3:slices_Repeat.c2 10000 [65536] (0,1) 10000=some ():=by kernel_rfl
 have m4:icv .i64 1=1:=by kernel_rfl
 rw [m,bS,m2,bS,bF]
 dsimp only
 rw [m4,rP (show mkOk 8 1 1 from ⟨rfl,by decide,by decide,by decide⟩),rP e,m3,bS]
 rfl
theorem hq15:phys_parts 10000 [HB1] 1024=some [65536]:=by
 unfold phys_parts
 have l1:len [HB1]=1:=rfl
 have c2:phys_parts.c2 10000 [HB1] ([PX1],[false]) [] 10000 0=some ():=by kernel_rfl
 rw [hq14,bS,rP (show mkOk 1 (len [HB1]) (len [HB1]) from ⟨rfl,by rw [l1]; decide,by rw [l1]; decide,by rw [l1]; decide⟩),hq13,bS,one_Pairs,bS,c2,bS]
theorem hq16:phys_Step.c1 10000 HSC ([HB1],[],0) [65536] 10000 0 []=some [HB2]:=by kernel_rfl
theorem hq17:slices_Repeat_86 10000 [true] (len [HB2])=some [true]:=by
 have e:mk0 false 1≠[]∧[true]≠([]:List Bool):=⟨by decide,by decide⟩
 unfold slices_Repeat_86
 have l1:len [HB2]=1:=rfl
 rw [l1,ilt_neg (by decide),bF]
 have m:bits_Mul 10000 (icv .u64 (len [true])) (icv .u64 1)=some (0,1):=by kernel_rfl
 have m2:slices_Repeat_86.c1 10000 (0,1)=some false:=by kernel_rfl
 have m3:slices_Repeat_86.c2 10000 [true] (0,1) 10000=some ():=by kernel_rfl
 have m4:icv .i64 1=1:=by kernel_rfl
 rw [m,bS,m2,bS,bF]
 dsimp only
 rw [m4,rP (show mkOk 1 1 1 from ⟨rfl,by decide,by decide,by decide⟩),rP e,m3,bS]
 rfl
theorem hq18:(bnd (phys_rest.c1 10000 [HB2] [0] 10000 0 [HB2] [true]) fun o31=>bnd (phys_rest.c6 10000 o31 [0] 10000 0 o31.1) fun o45=>some o45)=some [HB2]:=by kernel_rfl
theorem hq19:phys_rest 10000 [HB2] [0]=some [HB2]:=by
 unfold phys_rest
 rw [hq17,bS]
 exact hq18
theorem HStep_10000:phys_Step 10000 HSC=some (([HB2],[],[],(0,-655360,()),1024,()),0):=by
 have cj:slices_Clone 10000 HSC.2.1=some []:=by kernel_rfl
 have cb:slices_Clone_39 10000 HSC.1=some [HB0]:=by kernel_rfl
 unfold phys_Step
 rw [hq1,bS,ine_neg rfl,bF,cj,bS]
 show (bnd (keep_Find 10000 [HB0] []) _)=_
 rw [hq7,bS,cb,bS]
 show (bnd (phys_islands 10000 [HB0] [] []) _)=_
 rw [hq8,bS,hq9,bS]
 show (bnd (phys_fall 10000 (0,-655360,()) 1024 [HB0]) _)=_
 rw [hq10,bS]
 show (bnd (joint_Run_h 10000 [] 1024 8 [HB1]) _)=_
 rw [hq11,bS]
 show (bnd (solve_Run_h 10000 [HB1] 1024 8 []) _)=_
 rw [hq12,bS]
 show (bnd (phys_parts 10000 [HB1] 1024) _)=_
 rw [hq15,bS,hq16,bS,hq19,bS]
 rfl
def HB5:V45:=((0,0,()),(0,0,()),0,0,0,0,0,0,[(-65536,-65536,()),(65536,-65536,()),(65536,65536,()),(-65536,65536,())],false,0,())
theorem hb0:tourtop_h7box 10000 0 5 1 1 true=some HB0:=by kernel_rfl
theorem hb5:tourtop_h7box 10000 0 0 1 1 false=some HB5:=by kernel_rfl
theorem hbc:ray_Cast 10000 [HB5] (-262144,0,()) (524288,0,())=some (0,24576,0):=by kernel_rfl
theorem h7_10000:tourtop_h7begun 10000=some true:=by
 unfold tourtop_h7begun
 rw [hb0,bS]
 show (bnd (phys_Step 10000 HSC) _)=_
 rw [HStep_10000,bS,hb5,bS]
 show (bnd (ray_Cast 10000 [HB5] (-262144,0,()) (524288,0,())) _)=_
 rw [hbc,bS]
 rfl
end Go.Proofs.T1
namespace Go.Proofs.T1
open Go Go.Sx
theorem way_hin {P p l:List V26} (hP:Val P) (hp:Val p) (D:Dif P p l) {X Y X' Y' W:Int} (hW:0<W) (h1:HIn P X Y W) (h2:HIn p X' Y' W):HIn l (X - X') (Y - Y') W:=by
 obtain ⟨m,α,β,γ,m2,m1,a0,b0,c0,s,ex,ey⟩:=between3 hP.2.2.2 hP.1 hW h1
 obtain ⟨m',α',β',γ',m2',m1',a0',b0',c0',s',ex',ey'⟩:=between3 hp.2.2.2 hp.1 hW h2
 intro t t0 t1
 have H:∀ i j,0≤i→i<len P→0≤j→j<len p→0≤tri (q l t) (q l (nx (len l) t)) (sb (q P i) (q p j)):=fun i j i0 i1 j0 j1=>D.all t i j t0 t1 i0 i1 j0 j1
 have p3:=hP.1
 have q3:=hp.1
 have g11:=Int.mul_nonneg (Int.mul_nonneg a0 a0') (H 0 0 (by omega) (by omega) (by omega) (by omega))
 have g12:=Int.mul_nonneg (Int.mul_nonneg a0 b0') (H 0 (m' - 1) (by omega) (by omega) (by omega) (by omega))
 have g13:=Int.mul_nonneg (Int.mul_nonneg a0 c0') (H 0 m' (by omega) (by omega) (by omega) (by omega))
 have g21:=Int.mul_nonneg (Int.mul_nonneg b0 a0') (H (m - 1) 0 (by omega) (by omega) (by omega) (by omega))
 have g22:=Int.mul_nonneg (Int.mul_nonneg b0 b0') (H (m - 1) (m' - 1) (by omega) (by omega) (by omega) (by omega))
 have g23:=Int.mul_nonneg (Int.mul_nonneg b0 c0') (H (m - 1) m' (by omega) (by omega) (by omega) (by omega))
 have g31:=Int.mul_nonneg (Int.mul_nonneg c0 a0') (H m 0 (by omega) (by omega) (by omega) (by omega))
 have g32:=Int.mul_nonneg (Int.mul_nonneg c0 b0') (H m (m' - 1) (by omega) (by omega) (by omega) (by omega))
 have g33:=Int.mul_nonneg (Int.mul_nonneg c0 c0') (H m m' (by omega) (by omega) (by omega) (by omega))
 generalize q l t=u at *
 generalize q l (nx (len l) t)=v at *
 generalize q P 0=A at *
 generalize q P (m - 1)=B at *
 generalize q P m=C at *
 generalize q p 0=A' at *
 generalize q p (m' - 1)=B' at *
 generalize q p m'=C' at *
 have sum:α*α'*tri u v (sb A A')+α*β'*tri u v (sb A B')+α*γ'*tri u v (sb A C')+(β*α'*tri u v (sb B A')+β*β'*tri u v (sb B B')+β*γ'*tri u v (sb B C'))+(γ*α'*tri u v (sb C A')+γ*β'*tri u v (sb C B')+γ*γ'*tri u v (sb C C')) =
   (v.1 - u.1)*((α'+β'+γ')*(α*A.2.1+β*B.2.1+γ*C.2.1) - (α+β+γ)*(α'*A'.2.1+β'*B'.2.1+γ'*C'.2.1) - (α+β+γ)*(α'+β'+γ')*u.2.1) -
   (v.2.1 - u.2.1)*((α'+β'+γ')*(α*A.1+β*B.1+γ*C.1) - (α+β+γ)*(α'*A'.1+β'*B'.1+γ'*C'.1) - (α+β+γ)*(α'+β'+γ')*u.1):=by
  unfold tri sb
  dsimp only
  grind
 generalize α*A.1+β*B.1+γ*C.1=U at *
 generalize α*A.2.1+β*B.2.1+γ*C.2.1=V at *
 generalize α'*A'.1+β'*B'.1+γ'*C'.1=U' at *
 generalize α'*A'.2.1+β'*B'.2.1+γ'*C'.2.1=V' at *
 generalize hS:α+β+γ=S at *
 generalize hS':α'+β'+γ'=S' at *
 have tot:0≤(v.1 - u.1)*(S'*V - S*V' - S*S'*u.2.1) - (v.2.1 - u.2.1)*(S'*U - S*U' - S*S'*u.1):=by
  rw [← sum]
  omega
 have pw:=Int.mul_nonneg (Int.le_of_lt hW) tot
 have e:W*((v.1 - u.1)*(S'*V - S*V' - S*S'*u.2.1) - (v.2.1 - u.2.1)*(S'*U - S*U' - S*S'*u.1))=(S*S')*hs u v (X - X') (Y - Y') W:=by
  have e1:W*((v.1 - u.1)*(S'*V - S*V' - S*S'*u.2.1) - (v.2.1 - u.2.1)*(S'*U - S*U' - S*S'*u.1)) =
    (v.1 - u.1)*(S'*(W*V) - S*(W*V') - W*(S*S'*u.2.1)) - (v.2.1 - u.2.1)*(S'*(W*U) - S*(W*U') - W*(S*S'*u.1)):=by grind
  rw [e1,← ex,← ey,← ex',← ey']
  unfold hs
  grind
 rw [e] at pw
 exact nn_of_mul (Int.mul_pos s s') pw
def sq8:List V26:=[(-8,-8,()),(8,-8,()),(8,8,()),(-8,8,())]
theorem sq8_a:All4 sq8:=allB_ok (by decide)
theorem sq8_v:Val sq8:=⟨by decide,by decide,All4_W sq8_a,edgeB_ok (by decide)⟩
theorem sq8_val {a:V26} (h:-1000000≤a.1∧a.1≤1000000∧-1000000≤a.2.1∧a.2.1≤1000000):Val (shift sq8 a):=by
 obtain ⟨p1,p2,p3,p4⟩:=h
 refine Val_shift sq8_v fun i i0 i1=>?_
 rw [len_shift] at i1
 have:=sq8_a i i0 i1
 rw [q_shift i0 i1]
 unfold Wn
 dsimp only
 omega
theorem sq8_in (a:V26) {W:Int} (hW:0<W):HIn (shift sq8 a) (W*a.1) (W*a.2.1) W:=by
 intro i i0 i1
 rw [len_shift] at *
 have l4:len sq8=4:=rfl
 have hn:=nx_range i0 i1
 rw [q_shift i0 i1,q_shift hn.1 hn.2,hs_move,Int.sub_self,Int.sub_self]
 have:i=0∨i=1∨i=2∨i=3:=by omega
 rcases this with h | h | h | h
 ·subst h
  show 0≤hs ((-8,-8,()):V26) ((8,-8,()):V26) 0 0 W
  unfold hs
  dsimp only
  omega
 ·subst h
  show 0≤hs ((8,-8,()):V26) ((8,8,()):V26) 0 0 W
  unfold hs
  dsimp only
  omega
 ·subst h
  show 0≤hs ((8,8,()):V26) ((-8,8,()):V26) 0 0 W
  unfold hs
  dsimp only
  omega
 ·subst h
  show 0≤hs ((-8,8,()):V26) ((-8,-8,()):V26) 0 0 W
  unfold hs
  dsimp only
  omega
theorem ray_shape {P l:List V26} {a w:V26} (hP:Val P) (hp:Val (shift sq8 a)) (D:Dif P (shift sq8 a) l) {h h':Int × Bool} (H:HitS P a w h) (H':HitS l zed w h') (ht:h.2=true):h'.2=true∧h'.1≤h.1:=by
 rcases H with ⟨X,W,_,hW,X0,X1,hf,_,⟨t0,t1,t2,t3⟩,_⟩ | ⟨g,_⟩
 ·have F:Fea l zed w X W:=by
   rw [Fea_hs]
   have z1:zed.1=0:=rfl
   have z2:zed.2.1=0:=rfl
   have g:=way_hin hP hp D hW (Fea_hs.1 hf) (sq8_in a hW)
   rw [show W*a.1+X*w.1 - W*a.1=W*zed.1+X*w.1 by rw [z1]; omega,show W*a.2.1+X*w.2.1 - W*a.2.1=W*zed.2.1+X*w.2.1 by rw [z2]; omega] at g
   exact g
  rcases H' with ⟨X',W',h2,hW',X0',X1',_,hmin,⟨s0,s1,s2,s3⟩,_⟩ | ⟨_,no⟩
  ·refine ⟨h2,?_⟩
   have m:=hmin X W hW X0 X1 F
   refine Classical.byContradiction fun c=>?_
   have c:h.1+1≤h'.1:=by omega
   have e1:=Int.mul_le_mul_of_nonneg_right c (Int.le_of_lt hW')
   have e2:(h.1+1)*W'≤X'*65536:=Int.le_trans e1 s2
   have e3:=Int.mul_le_mul_of_nonneg_right e2 (Int.le_of_lt hW)
   have e4:=Int.mul_lt_mul_of_pos_right t3 hW'
   have m2:X'*65536*W≤X*65536*W':=by
    have:=Int.mul_le_mul_of_nonneg_right m (show (0:Int)≤65536 by decide)
    have a1:X'*65536*W=X'*W*65536:=by grind
    have a2:X*65536*W'=X*W'*65536:=by grind
    omega
   have a3:(h.1+1)*W'*W=(h.1+1)*W*W':=by grind
   omega
  ·exact absurd F (no X W hW X0 X1)
 ·rw [g] at ht
  cases ht
theorem ray_back {P:List V26} {a w b v:V26} (hb:b=(a.1+w.1,a.2.1+w.2.1,())) (hv:v=(-w.1,-w.2.1,())) {h h':Int × Bool} (H:HitS P a w h) (H':HitS P b v h') (ht:h.2=true):h'.2=true∧h'.1≤65536 - h.1:=by
 rcases H with ⟨X,W,_,hW,X0,X1,hf,_,⟨t0,t1,t2,t3⟩,_⟩ | ⟨g,_⟩
 ·have F:Fea P b v (W - X) W:=by
   rw [Fea_hs] at hf ⊢
   subst hb hv
   dsimp only
   have e1:W*(a.1+w.1)+(W - X)*-w.1=W*a.1+X*w.1:=by grind
   have e2:W*(a.2.1+w.2.1)+(W - X)*-w.2.1=W*a.2.1+X*w.2.1:=by grind
   rw [e1,e2]
   exact hf
  rcases H' with ⟨Y,V,h2,hV,Y0,Y1,_,hmin,⟨s0,s1,s2,s3⟩,_⟩ | ⟨_,no⟩
  ·refine ⟨h2,?_⟩
   have m:=hmin (W - X) W hW (by omega) (by omega) F
   refine Classical.byContradiction fun c=>?_
   have c:65537 - h.1≤h'.1:=by omega
   have e1:=Int.mul_le_mul_of_nonneg_right c (Int.le_of_lt hV)
   have e2:(65537 - h.1)*V≤Y*65536:=Int.le_trans e1 s2
   have e3:=Int.mul_le_mul_of_nonneg_right e2 (Int.le_of_lt hW)
   have m2:Y*65536*W≤(W - X)*65536*V:=by
    have:=Int.mul_le_mul_of_nonneg_right m (show (0:Int)≤65536 by decide)
    have a1:Y*65536*W=Y*W*65536:=by grind
    have a2:(W - X)*65536*V=(W - X)*V*65536:=by grind
    omega
   have a3:(65537 - h.1)*V*W=((65537 - h.1)*W)*V:=by grind
   have e5:((65537 - h.1)*W)*V≤((W - X)*65536)*V:=by omega
   have e6:=Int.le_of_mul_le_mul_right e5 hV
   have a4:(65537 - h.1)*W=65537*W - h.1*W:=by grind
   have a5:(W - X)*65536=65536*W - X*65536:=by grind
   omega
  ·exact absurd F (no (W - X) W hW (by omega) (by omega))
 ·rw [g] at ht
  cases ht
end Go.Proofs.T1
namespace Go.Proofs.T1
open Go Go.Sx
theorem tc_at (k:Nat) (x y:Int):∃ p:V26,tourtop_TopCast_1 k x y=some p∧-786432≤p.1∧p.1≤786431∧-786432≤p.2.1∧p.2.1≤786431:=by
 unfold tourtop_TopCast_1
 obtain ⟨a,e1,a0,a1⟩:=Below_eq k x (n:=1572864) (by decide) (by decide)
 obtain ⟨b,e2,b0,b1⟩:=Below_eq k y (n:=1572864) (by decide) (by decide)
 rw [e1,bS,e2,bS,isub_i64 (by omega) (by omega),isub_i64 (by omega) (by omega)]
 refine ⟨_,rfl,?_⟩
 dsimp only
 omega
theorem cut_one {l:List V45} {i:Int} (i0:0≤i) (i1:i<len l):cut l i (i+1)=[el Z45 l i]:=by
 obtain ⟨i,rfl⟩:=Int.eq_ofNat_of_zero_le i0
 have hi:i<l.length:=by unfold len at i1; omega
 have e:el Z45 l (i:Int)=l[i]:=by
  show l.getD i Z45=_
  rw [List.getD_eq_getElem?_getD,List.getElem?_eq_getElem hi]
  rfl
 unfold cut
 rw [show ((i:Int)+1).toNat=i+1 by omega,show ((i:Int)).toNat=i by omega,List.take_succ_eq_append_getElem hi,e]
 exact List.drop_left' (by rw [List.length_take]; omega)
theorem TopCast_plain {k:Nat} (hk:k=10000) (raw:List Int) (x y u v:Int):tourtop_TopCast k raw x y u v=some true:=by
 have h7:tourtop_h7begun k=some true:=by rw [hk]; exact h7_10000
 obtain ⟨B,J,g,st,e1,hA,hB,_⟩:=scene_made (k:=k) (by omega) raw
 obtain ⟨a,ea,a0⟩:=tc_at k x y
 obtain ⟨w,ew,w0⟩:=tc_at k u v
 have wa:Wn a:=by unfold Wn; omega
 have ww:Wn w:=by unfold Wn; omega
 have vp:Val (shift sq8 a):=sq8_val (by omega)
 have lit:([((isub .i64 a.1 8),(isub .i64 a.2.1 8),()),((iadd .i64 a.1 8),(isub .i64 a.2.1 8),()),((iadd .i64 a.1 8),(iadd .i64 a.2.1 8),()),((isub .i64 a.1 8),(iadd .i64 a.2.1 8),())]:List V26)=shift sq8 a:=by
  rw [isub_i64 (by omega) (by omega),isub_i64 (by omega) (by omega),iadd_i64 (by omega) (by omega),iadd_i64 (by omega) (by omega)]
  show [(a.1 - 8,a.2.1 - 8,()),(a.1+8,a.2.1 - 8,()),(a.1+8,a.2.1+8,()),(a.1 - 8,a.2.1+8,())]=[(-8+a.1,-8+a.2.1,()),(8+a.1,-8+a.2.1,()),(8+a.1,8+a.2.1,()),(-8+a.1,8+a.2.1,())]
  rw [show -8+a.1=a.1 - 8 by omega,show -8+a.2.1=a.2.1 - 8 by omega,show 8+a.1=a.1+8 by omega,show 8+a.2.1=a.2.1+8 by omega]
 unfold tourtop_TopCast
 rw [e1,bS,ea,bS,ew,bS]
 dsimp only
 rw [lit]
 have c1:∀ y7:Int × (Int × Int),(y7.2.2=0∨y7.2.2=4)→tourtop_TopCast.c1 k y7=some false:=by
  intro y7 h
  unfold tourtop_TopCast.c1
  rw [h7,bS,bT]
  rcases h with h | h
  ·rw [ine_neg h,bF]
  ·rw [ine_pos (by omega),bT,ine_neg h]
 rcases cast_ok (k:=k) (by omega) hA (by omega) wa ww with ⟨i,i0,i1,hF,eC⟩ | ⟨_,eC⟩
 ·obtain ⟨P,p1,vP,HC⟩:=cast_hit (k:=k) (by omega) wa ww (el Z45 B i) (hA i i0 i1)
  obtain ⟨P',l,p2,_,D,HS⟩:=shape_hit (k:=k) (by omega) vp ww (el Z45 B i) (hA i i0 i1)
  rw [p1] at p2
  cases p2
  obtain ⟨s1,s2⟩:=ray_shape vP vp D HC HS hF.1
  rcases shape_ok (k:=k) (by omega) hA (by omega) vp ww with ⟨j,j0,j1,hG,eS⟩ | ⟨hn,_⟩
  ·have hs:=(hG.2 i i0 i1 s1).1
   rw [eC,bS,eS,bS,c1 _ (.inl rfl),bS,bF]
   dsimp only
   have c2:tourtop_TopCast.c2 k (B,J,[],g,st,()) (i,(hitOf k (fun x=>ray_Cast_1 k x.1 a w) (el Z45 B i)).1,0) (j,(hitOf k (fun x=>ray_Shape_1 k x.1 (shift sq8 a) w) (el Z45 B j)).1,0)=some false:=by
    unfold tourtop_TopCast.c2
    dsimp only
    rw [ilt_neg i0,bF,ige_neg i1,bF,ine_neg rfl,bF,igt_neg (by omega)]
   have lB:len B=(B.length:Int):=rfl
   have hb:vec_Add k a w=some (a.1+w.1,a.2.1+w.2.1,()):=by
    unfold vec_Add
    rw [FAdd_tot,bS,FAdd_tot,bS,CM_in (x:=a.1) (by omega) (by omega),CM_in (x:=w.1) (by omega) (by omega),CM_in (by omega) (by omega),CM_in (x:=a.2.1) (by omega) (by omega),CM_in (x:=w.2.1) (by omega) (by omega),CM_in (by omega) (by omega)]
   have hv:((ineg .i64 w.1,ineg .i64 w.2.1,()):V26)=(-w.1,-w.2.1,()):=by
    rw [ineg_i64 (by omega) (by omega),ineg_i64 (by omega) (by omega)]
   have wb:Wn ((a.1+w.1,a.2.1+w.2.1,()):V26):=by unfold Wn; dsimp only; omega
   have wv:Wn ((-w.1,-w.2.1,()):V26):=by unfold Wn; dsimp only; omega
   have hX:AllK k [el Z45 B i]:=by
    intro q q0 q1
    have q1:q<1:=q1
    obtain rfl:q=0:=by omega
    exact hA i i0 i1
   have l1:len [el Z45 B i]=1:=rfl
   have e0:el Z45 [el Z45 B i] 0=el Z45 B i:=rfl
   obtain ⟨P2,p3,_,HB⟩:=cast_hit (k:=k) (by omega) wb wv (el Z45 B i) (hA i i0 i1)
   rw [p1] at p3
   cases p3
   obtain ⟨b1,b2⟩:=ray_back rfl rfl HC HB hF.1
   have ht:0≤(hitOf k (fun x=>ray_Cast_1 k x.1 a w) (el Z45 B i)).1∧(hitOf k (fun x=>ray_Cast_1 k x.1 a w) (el Z45 B i)).1≤65536:=by
    rcases HC with ⟨_,_,_,_,_,_,_,_,⟨t0,t1,_,_⟩,_⟩ | ⟨h,_⟩
    ·exact ⟨t0,t1⟩
    ·rw [h]; decide
   rw [ine_neg rfl,bF,c2,bS,bF,iadd_i64 (x:=i) (y:=1) (by omega) (by omega),rP (show cutOk B i (i+1) from ⟨i0,by omega,by omega⟩),hb,bS,cut_one i0 i1,hv]
   rcases cast_ok (k:=k) (by omega) hX (by rw [l1]; decide) wb wv with ⟨q,q0,q1,_,eB⟩ | ⟨hn,_⟩
   ·have q1:q<1:=q1
    obtain rfl:q=0:=by omega
    rw [eB,bS,e0]
    dsimp only
    rw [ieq_pos rfl,bT,isub_i64 (by omega) (by omega),ile_pos b2]
   ·have:=hn 0 (by decide) (by rw [l1]; decide)
    rw [e0,b1] at this
    cases this
  ·have:=hn i i0 i1
   rw [s1] at this
   cases this
 ·have hs:∃ y9,ray_Shape k B (shift sq8 a) w=some y9:=by
   rcases shape_ok (k:=k) (by omega) hA (by omega) vp ww with ⟨j,_,_,_,eS⟩ | ⟨_,eS⟩
   ·exact ⟨_,eS⟩
   ·exact ⟨_,eS⟩
  obtain ⟨y9,eS⟩:=hs
  rw [eC,bS,eS,bS,c1 _ (.inr rfl),bS,bF]
  dsimp only
  rw [ine_pos (by decide),bT]
theorem tourtop_TopCast_plain:∀ x:(Ty.pair T22 (.pair T2 (.pair T2 (.pair T2 (.pair T2 .unit))))).den,Ty.wf (.pair T22 (.pair T2 (.pair T2 (.pair T2 (.pair T2 .unit))))) x→∃ k,(tourtop_TopCast.sp k).f x=some true:=by
 intro x _
 obtain ⟨K,hK⟩:∃ K,K=10000:=⟨10000,rfl⟩
 exact ⟨K,TopCast_plain hK x.1 x.2.1 x.2.2.1 x.2.2.2.1 x.2.2.2.2.1⟩
end Go.Proofs.T1
