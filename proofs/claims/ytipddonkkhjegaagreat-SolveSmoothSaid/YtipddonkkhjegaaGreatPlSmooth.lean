import Derived.Test.YtipddonkkhjegaaGreatPlNothing
namespace Go.Proofs.T1
open Go Go.Sx
theorem sf_zero' {k:Nat} (hk:2≤k) (a:Int):fix_Mul k 0 a=some 0:=by
 rw [FMul_tot hk,CM0,Int.zero_mul]
 rfl
section
variable {v:V26} {ang spin mass inertia:Int} {l:List V26} {k:Nat}
end
section
variable {v:V26} {ang spin mass inertia:Int} {l s:List V26} {k:Nat}
end
end Go.Proofs.T1
namespace Go.Proofs.T1
open Go Go.Sx
theorem CM_le (x:Int):-1099511627776≤CM x∧CM x≤1099511627776:=by unfold CM; split <;> (try split) <;> omega
def SI (c0:V39) (r:V96) (c:V39):Prop:=c.1=c0.1∧c.2.1=c0.2.1∧(0≤c.2.2.2.2.2.2.1∧c.2.2.2.2.2.2.1≤1099511627776)∧(r.2.2.2.2.1=0→c.2.2.2.2.2.2.2.1=0)
structure JS (k:Nat) (l:List V57) (C:List V39) (rs:List V96) (bs:List V57) (cs:List V39):Prop where
 hb:AllK k bs
 lb:len bs=len l
 lc:len cs=len C
 all:∀ j,0≤j→j<len C→SI (el Z39 C j) (el Z96 rs j) (el Z39 cs j)
theorem JS_set {k:Nat} {l:List V57} {C:List V39} {rs:List V96} {bs bs':List V57} {cs:List V39} (h:JS k l C rs bs cs) (hb:AllK k bs') (lb:len bs'=len bs) {i:Int} (i0:0≤i) (i1:i<len C) {c:V39} (hc:SI (el Z39 C i) (el Z96 rs i) c):JS k l C rs bs' (st cs i c):=by
 refine ⟨hb,lb.trans h.lb,by rw [len_set,h.lc],fun j j0 j1=>?_⟩
 rw [el_set Z39 cs c i0 (by rw [h.lc]; exact i1) j0]
 by_cases e:j=i
 ·rw [if_pos e,e]; exact hc
 ·rw [if_neg e]; exact h.all j j0 j1
theorem round_one {k:Nat} (hk:9≤k) {l:List V57} {C:List V39} {rs:List V96} (hR:∀ j,0≤j→j<len C→RQ l (el Z39 C j) (el Z96 rs j)) (lr:len rs=len C) (hv:∀ j,0≤j→j<len C→CVx (len l) (el Z39 C j))
  {bs:List V57} {cs:List V39} (h:JS k l C rs bs cs) {i:Int} (i0:0≤i) (i1:i<len C):∃ bs' cs',solve_solver_round k i bs cs rs=some (bs',cs')∧JS k l C rs bs' cs':=by
 obtain ⟨⟨A0,AB,B1,_⟩,_⟩:=hv i i0 i1
 obtain ⟨⟨r1,r2⟩,⟨r3,r4⟩,⟨r5,r6⟩,_⟩:=hR i i0 i1
 have os:∀ a n,solve_over k a n=body_over k a n:=fun _ _=>rfl
 have i1':i<len cs:=by rw [h.lc]; exact i1
 have first:∃ bs' cs',solve_solver_round.c1 k i bs cs rs=some (bs',cs')∧JS k l C rs bs' cs':=by
  obtain ⟨e1,e2,⟨p0,p1⟩,hz⟩:=h.all i i0 i1
  unfold solve_solver_round.c1
  by_cases c:(el Z96 rs i).2.2.1=0
  ·rw [ine_neg c,bF]
   exact ⟨bs,cs,rfl,h⟩
  ·rw [ine_pos c,bT,rP (inL_of i0 i1')]
   obtain ⟨y5,a1,a2,a3⟩:=mul_nn (k:=k) (by omega) r5 p0
   obtain ⟨s,t1⟩:=speed_one hk h.hb (el Z39 cs i) cs rs (by rw [e1]; exact A0) (by rw [e1,h.lb]; omega) (by rw [e2]; omega) (by rw [e2,h.lb]; exact B1)
   obtain ⟨y9,t2⟩:=vdot_tot (k:=k) (by omega) s (el Z96 rs i).1
   obtain ⟨y11,q1⟩:∃ y,body_over k y9 (el Z96 rs i).2.2.1=some y:=⟨_,FOver_tot (by omega) _ (by omega) r4⟩
   obtain ⟨y13,f1⟩:∃ y,fix_Sub k (el Z39 cs i).2.2.2.2.2.2.2.1 y11=some y:=⟨_,FSub_tot k _ _⟩
   obtain ⟨y15,f2⟩:∃ y,fix_Sub k (imin (imax y13 (ineg .i64 y5)) y5) (el Z39 cs i).2.2.2.2.2.2.2.1=some y:=⟨_,FSub_tot k _ _⟩
   obtain ⟨y17,f3⟩:=vscale_tot (k:=k) (by omega) (el Z96 rs i).1 y15
   obtain ⟨b1,w1,w2,w3⟩:=pushl_one hk h.hb (el Z39 cs i) y17 cs rs (by rw [e1]; exact A0) (by rw [e1,h.lb]; omega) (by rw [e2]; omega) (by rw [e2,h.lb]; exact B1)
   rw [a1,bS,t1,bS,t2,bS,os,q1,bS,f1,bS,f2,bS,f3,bS,w1,bS]
   refine ⟨_,_,rfl,JS_set h w2 w3 i0 i1 ⟨e1,e2,⟨p0,p1⟩,fun g=>?_⟩⟩
   dsimp only
   have y0:y5=0:=by
    rw [g,sf_zero' (by omega)] at a1
    exact (Option.some.inj a1).symm
   rw [y0]
   have n0:ineg .i64 0=0:=rfl
   rw [n0]
   unfold imin imax
   split <;> split <;> omega
 obtain ⟨bs1,cs1,f1,h1⟩:=first
 obtain ⟨e1,e2,⟨p0,p1⟩,hz⟩:=h1.all i i0 i1
 have i1c:i<len cs1:=by rw [h1.lc]; exact i1
 unfold solve_solver_round
 rw [rP (inL_of i0 i1'),rP (inL_of i0 (by rw [lr]; exact i1)),f1,bS]
 dsimp only
 by_cases c:(el Z96 rs i).2.1=0
 ·rw [ine_neg c,bF]
  exact ⟨bs1,cs1,rfl,h1⟩
 ·rw [ine_pos c,bT,rP (inL_of i0 i1c)]
  obtain ⟨s,t1⟩:=speed_one hk h1.hb (el Z39 cs1 i) cs1 rs (by rw [e1]; exact A0) (by rw [e1,h1.lb]; omega) (by rw [e2]; omega) (by rw [e2,h1.lb]; exact B1)
  obtain ⟨y27,t2⟩:=vdot_tot (k:=k) (by omega) s (el Z39 cs1 i).2.2.2.2.1
  obtain ⟨y29,g1⟩:∃ y,fix_Sub k (el Z96 rs i).2.2.2.1 y27=some y:=⟨_,FSub_tot k _ _⟩
  obtain ⟨y31,g2⟩:∃ y,body_over k y29 (el Z96 rs i).2.1=some y:=⟨_,FOver_tot (by omega) _ (by omega) r2⟩
  obtain ⟨y33,g3,g4⟩:∃ y,fix_Add k (el Z39 cs1 i).2.2.2.2.2.2.1 y31=some y∧y≤1099511627776:=⟨_,FAdd_tot k _ _,(CM_le _).2⟩
  obtain ⟨y35,g5⟩:∃ y,fix_Sub k (imax 0 y33) (el Z39 cs1 i).2.2.2.2.2.2.1=some y:=⟨_,FSub_tot k _ _⟩
  obtain ⟨y37,g6⟩:=vscale_tot (k:=k) (by omega) (el Z39 cs1 i).2.2.2.2.1 y35
  obtain ⟨b1,w1,w2,w3⟩:=pushl_one hk h1.hb (el Z39 cs1 i) y37 cs1 rs (by rw [e1]; exact A0) (by rw [e1,h1.lb]; omega) (by rw [e2]; omega) (by rw [e2,h1.lb]; exact B1)
  rw [t1,bS,t2,bS,g1,bS,os,g2,bS,g3,bS,g5,bS,g6,bS,w1,bS]
  refine ⟨_,_,rfl,JS_set h1 w2 w3 i0 i1 ⟨e1,e2,?_,hz⟩⟩
  dsimp only
  unfold imax
  split <;> omega
theorem Run_smooth {k:Nat} (hk:10000≤k) {l:List V57} (hA:AllK k l) (hl:len l≤64) {C:List V39} (hC:C.length≤4096) (hv:∀ c,c∈C→CVx (len l) c) (hz:∀ c,c∈C→c.2.2.2.2.2.2=(0,0,())) {step rounds:Int} (s0:1≤step) (s1:step≤65536) (r0:0≤rounds) (r1:rounds≤32) :
  ∃ rs bs cs,solve_Run_h k l step rounds C=some (bs,cs,0)∧JS k l C rs bs cs∧∀ j,0≤j→j<len C→RQ l (el Z39 C j) (el Z96 rs j):=by
 have lC:len C=(C.length:Int):=rfl
 obtain ⟨rs,lr,hR,e1,e2⟩:=Run_pre hk hA hC hv hz s0 s1
 have hv':∀ j,0≤j→j<len C→CVx (len l) (el Z39 C j):=fun j j0 j1=>hv _ (el_in Z39 C j0 j1)
 have h0:JS k l C rs l C:=⟨hA,rfl,rfl,fun j j0 j1=>by
  have hzj:=hz _ (el_in Z39 C j0 j1)
  obtain ⟨_,_,_,h4⟩:=hv' j j0 j1
  refine ⟨rfl,rfl,⟨h4.1.1,h4.1.2⟩,fun _=>by rw [hzj]⟩⟩
 have inner:∀ (bs:List V57) (cs:List V39),JS k l C rs bs cs→∃ z:List V57 × List V39,solve_Run_h.c6 k rs cs k 0 bs cs=some z∧JS k l C rs z.1 z.2:=by
  intro bs cs h
  obtain ⟨z,hz,e⟩:=inv_loop (fun n (z:List V57 × List V39) v=>solve_Run_h.c6 k rs cs n v z.1 z.2) 0 (len C) (fun z _=>JS k l C rs z.1 z.2)
   (by
    intro n z v v0 v1 hz
    obtain ⟨b,c,e,hb⟩:=round_one (by omega) hR lr hv' hz v0 v1
    refine ⟨(b,c),hb,?_⟩
    show solve_Run_h.c6 k rs cs (n+1) v z.1 z.2=_
    rw [solve_Run_h.c6,ilt_pos (by rw [h.lc]; exact v1),bT,e,bS,iadd_i64 (by omega) (by omega)])
   (by
    intro n z v v0 v1
    show solve_Run_h.c6 k rs cs (n+1) v z.1 z.2=some z
    rw [solve_Run_h.c6,ilt_neg (by rw [h.lc]; exact v1),bF])
   k (bs,cs) 0 (by omega) (by omega) (by omega) h
  exact ⟨z,e,hz⟩
 obtain ⟨z,hzz,e3⟩:=inv_loop (fun n (z:List V57 × List V39) v=>solve_Run_h.c5 k rounds rs n v z.1 z.2) 0 rounds (fun z _=>JS k l C rs z.1 z.2)
  (by
   intro n z v v0 v1 hz
   obtain ⟨w,e,hw⟩:=inner z.1 z.2 hz
   refine ⟨w,hw,?_⟩
   show solve_Run_h.c5 k rounds rs (n+1) v z.1 z.2=_
   rw [solve_Run_h.c5,ilt_pos v1,bT,e,bS,iadd_i64 (by omega) (by omega)])
  (by
   intro n z v v0 v1
   show solve_Run_h.c5 k rounds rs (n+1) v z.1 z.2=some z
   rw [solve_Run_h.c5,ilt_neg v1,bF])
  k (l,C) 0 (by omega) (by omega) (by omega) h0
 have e3:solve_Run_h.c5 k rounds rs k 0 l C=some z:=e3
 refine ⟨rs,z.1,z.2,?_,hzz,hR⟩
 unfold solve_Run_h
 rw [SCheck_ok (by omega) hA hl hC hv,bS,ine_neg rfl,bF,(Run_c1 k s0 s1 r0 r1).1,bS,bF,CloneX_ok (by omega),bS,copy_all_h (by omega) (by omega) hA hl,bS,e1,bS,e2,bS,e3,bS]
theorem SolveSmooth_plain {k:Nat} (hk:k=10000) (raw:List Int) (rounds:Int):tourkeep2_SolveSmooth k raw rounds=some true:=by
 obtain ⟨B,J,g,step,e,hM,lB,_,s0,s1⟩:=scene_mades (k:=k) (by omega) raw
 have hA:=AllM_K (k:=k) (by omega) hM
 have hP:=AllM_P (k:=k) (by omega) hM
 obtain ⟨ps,C,_,_,_,eF,hF,lC⟩:=Find_nil (k:=k) (by omega) hA hP lB
 obtain ⟨r,er,r0,r1⟩:=Below_eq k rounds (n:=33) (by decide) (by decide)
 obtain ⟨rs,bs,cs,eR,hJ,hR⟩:=Run_smooth (k:=k) (by omega) hA (by omega) (by omega) hF.ok hF.zero s0 s1 r0 (by omega)
 have hsol:tourkeep2_solves k=some true:=by rw [hk]; exact solves_10000
 have lCi:len C=(C.length:Int):=rfl
 unfold tourkeep2_SolveSmooth
 rw [e,bS]
 dsimp only
 rw [eF,bS]
 dsimp only
 rw [er,bS,eR,bS]
 unfold tourkeep2_SolveSmooth.c1
 dsimp only
 rw [hsol,bS,bT,ine_neg rfl,bF,ine_neg hJ.lc,bS,bF]
 have H:=find_loop (fun n v=>tourkeep2_SolveSmooth.c2 k (B,J,[],g,step,()) (bs,cs,0) n v) 0 (len cs) (fun _=>False) (fun _=>())
  (fun _ _ _ _ h=>h.elim)
  (by
   intro n v a b _
   show tourkeep2_SolveSmooth.c2 k (B,J,[],g,step,()) (bs,cs,0) (n+1) v=tourkeep2_SolveSmooth.c2 k (B,J,[],g,step,()) (bs,cs,0) n (v+1)
   have hvC:v<len C:=by rw [← hJ.lc]; exact b
   obtain ⟨h1,h2,⟨h3,h4⟩,h5⟩:=hJ.all v a hvC
   obtain ⟨⟨A0,AB,B1,_⟩,_⟩:=hF.ok _ (el_in Z39 C a hvC)
   obtain ⟨_,_,_,hq⟩:=hR v a hvC
   have bl:=hJ.lc
   have c3:tourkeep2_SolveSmooth.c3 k v (B,J,[],g,step,()) (bs,cs,0)=some false:=by
    unfold tourkeep2_SolveSmooth.c3
    dsimp only
    rw [ilt_neg h3,bF,h1,h2,ilt_neg A0,bF,ige_neg AB,bF,ige_neg B1,bF,rP (inL_of A0 (by omega)),rP (inL_of (by omega) B1),← hq]
    by_cases z:(el Z96 rs v).2.2.2.2.1=0
    ·rw [ieq_pos z,bT,ine_neg (h5 z)]
    ·rw [ieq_neg z,bF]
   rw [tourkeep2_SolveSmooth.c2]
   dsimp only
   rw [ilt_pos b,bT,rP (inL_of a b),c3,bS,bF,iadd_i64 (by omega) (by omega)])
  (by
   intro n v a b
   show tourkeep2_SolveSmooth.c2 k (B,J,[],g,step,()) (bs,cs,0) (n+1) v=_
   rw [tourkeep2_SolveSmooth.c2]
   dsimp only
   rw [ilt_neg b,bF])
  k 0 (by have:=hJ.lc; omega) (by have:=hJ.lc; omega)
 rcases H with ⟨_,_,_,h,_⟩ | ⟨_,h⟩
 ·exact h.elim
 ·have h:tourkeep2_SolveSmooth.c2 k (B,J,[],g,step,()) (bs,cs,0) k 0=some (.inr ()):=h (by omega)
  rw [h,bS,two_inr]
theorem tourkeep2_SolveSmooth_plain:∀ x:(Ty.pair T22 (.pair T2 .unit)).den,Ty.wf (.pair T22 (.pair T2 .unit)) x→∃ k,(tourkeep2_SolveSmooth.sp k).f x=some true:=by
 intro x _
 obtain ⟨K,hK⟩:∃ K,K=10000:=⟨10000,rfl⟩
 exact ⟨K,SolveSmooth_plain hK x.1 x.2.1⟩
end Go.Proofs.T1
