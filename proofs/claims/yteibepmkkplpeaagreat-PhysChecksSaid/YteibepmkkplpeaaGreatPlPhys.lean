import Derived.Test.YteibepmkkplpeaaGreatPlGroup
import Derived.Test.YteibepmkkplpeaaGreatG19
namespace Go.Proofs.T1
open Go Go.Sx
def sj:bK:=((0,327680,()),(0,0,()),0,0,65536,65536,0,0,[(-65536,-65536,()),(65536,-65536,()),(65536,65536,()),(-65536,65536,())],false,0,())
def qB:bK:=((0,327680,()),(0,-10240,()),0,0,65536,65536,0,0,[(-65536,-65536,()),(65536,-65536,()),(65536,65536,()),(-65536,65536,())],false,0,())
def yn:bK:=((0,327520,()),(0,-10240,()),0,0,65536,65536,0,0,[(-65536,-65536,()),(65536,-65536,()),(65536,65536,()),(-65536,65536,())],false,0,())
def Bb:eP:=((-65536,262144,()),(65536,393216,()),())
def AU:eP:=((-131074,196446,()),(131074,458754,()),())
def zM:jr:=([sj],[],[],(0,-655360,()),1024,())
theorem ph (x:eP):aj 10000 [x]=some []:=by
 obtain ⟨K,hK⟩:∃ K,K=10000:=⟨10000,rfl⟩;obtain ⟨r,e,hr,_⟩:=xp (k:=K) [x] (by simp; omega) (by simp);have h2:nv [x] []:=by
  refine ⟨by simp,fun p=>?_⟩;constructor
  ·intro h; cases h
  ·rintro ⟨a,b,h0,h1,h2,_,h⟩
   have h2:b<1:=h2;omega
 rw [sN hr h2,hK] at e;exact e
theorem A9:aF 10000 zM=some 0:=by kernel_rfl
theorem Bg:bB 10000 [sj]=some 0:=by kernel_rfl
theorem Ba:cD.c1 10000 [sj] 10000 0 []=some [Bb]:=by kernel_rfl
theorem Be:ar 10000 (fun x:((List Int) × Unit)=>dT 10000 (x.1) [sj]) []=some []:=by kernel_rfl
theorem A2:cD 10000 [sj]=some ([],0):=by
 unfold cD;rw [Bg,bS,eu rfl,bF,Ba,bS,ph,bS,Be,bS]
theorem A1:(bq (bI.c1 10000 [sj] ([],0) 10000 0 []) fun o23=>bq (bC 10000 [] o23) fun y25=>some (y25,(0:Int)))=some ([],0):=by kernel_rfl
theorem Bf:bI 10000 [sj] []=some ([],0):=by
 unfold bI;rw [A2,bS];dsimp only;rw [eu rfl,bF];exact A1
theorem A6:ab 10000 [sj] [] []=some [0]:=by kernel_rfl
theorem A3:aU 10000 [sj] [0]=some [sj]:=by kernel_rfl
theorem Ay:bw 10000 (0,-655360,()) 1024 [sj]=some [qB]:=by kernel_rfl
theorem AS:ai 10000 [] 1024 8 [qB]=some ([qB],0):=by kernel_rfl
theorem Az:ae 10000 [qB] 1024 8 []=some ([qB],[],0):=by kernel_rfl
theorem AI:aY.c1 10000 [qB] 1024 10000 0 [] (iC false (len [qB]))=some ([AU],[false]):=by kernel_rfl
theorem AA:ba 10000 [65536] (len [qB])=some [65536]:=by
 have e:iC (0:Int) 1≠[]∧[65536]≠([]:List Int):=⟨by decide,by decide⟩;unfold ba;have l1:len [qB]=1:=rfl;rw [l1,db (by decide),bF];have m:fq 10000 (cP .u64 (len [(65536:Int)])) (cP .u64 1)=some (0,1):=by kernel_rfl
 have m2:ba.c1 10000 (0,1)=some false:=by kernel_rfl
 have m3:ba.c2 10000 [65536] (0,1) 10000=some ():=by kernel_rfl
 have m4:cP .i64 1=1:=by kernel_rfl
 rw [m,bS,m2,bS,bF];dsimp only;rw [m4,rP (show kR 8 1 1 from ⟨rfl,by decide,by decide,by decide⟩),rP e,m3,bS];rfl
theorem AK:aY 10000 [qB] 1024=some [65536]:=by
 unfold aY;have l1:len [qB]=1:=rfl;have c2:aY.c2 10000 [qB] ([AU],[false]) [] 10000 0=some ():=by kernel_rfl
 rw [AA,bS,rP (show kR 1 (len [qB]) (len [qB]) from ⟨rfl,by rw [l1]; decide,by rw [l1]; decide,by rw [l1]; decide⟩),AI,bS,ph,bS,c2,bS]
theorem AE:cN.c1 10000 zM ([qB],[],0) [65536] 10000 0 []=some [yn]:=by kernel_rfl
theorem AT:aK 10000 [true] (len [yn])=some [true]:=by
 have e:iC false 1≠[]∧[true]≠([]:List Bool):=⟨by decide,by decide⟩;unfold aK;have l1:len [yn]=1:=rfl;rw [l1,db (by decide),bF];have m:fq 10000 (cP .u64 (len [true])) (cP .u64 1)=some (0,1):=by kernel_rfl
 have m2:aK.c1 10000 (0,1)=some false:=by kernel_rfl
 have m3:aK.c2 10000 [true] (0,1) 10000=some ():=by kernel_rfl
 have m4:cP .i64 1=1:=by kernel_rfl
 rw [m,bS,m2,bS,bF];dsimp only;rw [m4,rP (show kR 1 1 1 from ⟨rfl,by decide,by decide,by decide⟩),rP e,m3,bS];rfl
theorem AH:(bq (af.c1 10000 [yn] [0] 10000 0 [yn] [true]) fun o31=>bq (af.c6 10000 o31 [0] 10000 0 o31.1) fun o45=>some o45)=some [yn]:=by kernel_rfl
theorem AG:af 10000 [yn] [0]=some [yn]:=by
 unfold af;rw [AT,bS];exact AH
theorem sH:cN 10000 zM=some (([yn],[],[],(0,-655360,()),1024,()),0):=by
 have cj:eb 10000 zM.2.1=some []:=by kernel_rfl
 have cb:dt 10000 zM.1=some [sj]:=by kernel_rfl
 unfold cN;rw [A9,bS,eu rfl,bF,cj,bS];show (bq (bI 10000 [sj] []) _)=_;rw [Bf,bS,cb,bS];show (bq (ab 10000 [sj] [] []) _)=_;rw [A6,bS,A3,bS];show (bq (bw 10000 (0,-655360,()) 1024 [sj]) _)=_;rw [Ay,bS];show (bq (ai 10000 [] 1024 8 [qB]) _)=_;rw [AS,bS];show (bq (ae 10000 [qB] 1024 8 []) _)=_;rw [Az,bS];show (bq (aY 10000 [qB] 1024) _)=_;rw [AK,bS,AE,bS,AG,bS];rfl
theorem A8:dI 10000 0 5 true=some sj:=by kernel_rfl
theorem ni:cq 10000=some true:=by
 unfold cq;rw [A8,bS];show (bq (cN 10000 zM) _)=_;rw [sH,bS];rfl
def GS (s:jr):Prop:=(-16777216≤s.2.2.2.1.1∧s.2.2.2.1.1≤16777216∧-16777216≤s.2.2.2.1.2.1∧s.2.2.2.1.2.1≤16777216)∧1≤s.2.2.2.2.1∧s.2.2.2.2.1≤65536
instance (s:jr):Decidable (GS s):=by unfold GS; infer_instance
theorem zQ (k:Nat) (s:jr):aF.c3 k s=some (!decide (GS s)):=by
 obtain ⟨B,J,C,⟨gx,gy,_⟩,st,_⟩:=s;unfold aF.c3;dsimp only;have e:∀ b:Bool,(b=true↔¬ GS (B,J,C,(gx,gy,()),st,()))→some b=some (!decide (GS (B,J,C,(gx,gy,()),st,()))):=by
  intro b hb;congr 1;cases b with
  | true=>rw [decide_eq_false (hb.1 rfl)]; rfl
  | false=>rw [decide_eq_true (Classical.byContradiction fun h=>absurd (hb.2 h) (by decide))]; rfl
 have hg:GS (B,J,C,(gx,gy,()),st,())↔(-16777216≤gx∧gx≤16777216∧-16777216≤gy∧gy≤16777216)∧1≤st∧st≤65536:=Iff.rfl;have mn:fl gx gy < -16777216↔gx < -16777216∨gy < -16777216:=by unfold fl; split <;> omega
 have mx:imax gx gy > 16777216↔gx > 16777216∨gy > 16777216:=by unfold imax; split <;> omega
 by_cases h1:fl gx gy < -16777216
 ·rw [cI h1,bT]
  exact e true ⟨fun _=>by rw [hg]; omega,fun _=>rfl⟩
 ·rw [db (by omega),bF]
  by_cases h2:imax gx gy > 16777216
  ·rw [hG h2,bT]
   exact e true ⟨fun _=>by rw [hg]; omega,fun _=>rfl⟩
  ·rw [gZ (by omega),bF]
   by_cases h3:st<1
   ·rw [cI h3,bT]
    exact e true ⟨fun _=>by rw [hg]; omega,fun _=>rfl⟩
   ·rw [db (by omega),bF]
    refine e _ ?_
    unfold ib;rw [decide_eq_true_iff,hg];omega
theorem zD (k:Nat) (s:jr):bx.c2 k s=some (!decide (GS s)):=by
 obtain ⟨B,J,C,g,st,_⟩:=s;unfold bx.c2;dsimp only;rw [gR k g 16777216 (by decide) (by decide),bS]
 by_cases h1:(-16777216≤g.1∧g.1≤16777216∧-16777216≤g.2.1∧g.2.1≤16777216)
 ·rw [decide_eq_true h1,bT,ua,bS]
  congr 2;exact decide_eq_decide.2 ⟨fun h=>⟨h1,h⟩,fun h=>h.2⟩
 ·rw [decide_eq_false h1,bF,decide_eq_false (fun h:GS (B,J,C,g,st,())=>h1 h.1)]
  rfl
theorem ue {k:Nat} (hk:4≤k) (a b:dA):fO k a b=some (oO a b):=by
 unfold fO;rw [rT hk,bS]
theorem sy {k:Nat} (hk:10000≤k) (s:jr):∃ e,aF k s=some e∧bx k s=some e ∧
  (e=0→(w4 k s.1∧len s.1≤64)∧(len s.2.1≤32∧∀ j,0≤j→j<len s.2.1→CJ (len s.1) (el fY s.2.1 j))∧(len s.2.2.1≤4096∧∀ j,0≤j→j<len s.2.2.1→yE (len s.1) (el aZ s.2.2.1 j))):=by
 obtain ⟨e1,a1,a2,a3⟩:=zs (k:=k) (by omega) (by omega) s.1 s.2.2.1;obtain ⟨e2,b1,b2,b3⟩:=zx (k:=k) (by omega) s.1 s.2.1;unfold aF bx;rw [a1,a2,bS,bS]
 by_cases c1:e1=0
 ·rw [eu c1,bF,bF,b1,b2,bS,bS]
  obtain ⟨hA,lC,hC⟩:=a3 c1
  by_cases c2:e2=0
  ·rw [eu c2,bF,bF]
   obtain ⟨_,lJ,hJ⟩:=b3 c2;have step:∀ n v,1≤v→v<len s.2.2.1→aF.c1 k s (n+1) v=if 0≤oO (el aZ s.2.2.1 (v - 1)) (el aZ s.2.2.1 v) then some (.inl ()) else aF.c1 k s n (v+1):=by
    intro n v v0 v1;have c2:aF.c2 k s v=some (iB (oO (el aZ s.2.2.1 (v - 1)) (el aZ s.2.2.1 v)) 0):=by
     unfold aF.c2;rw [hG (by omega),bT,fp (by omega) (by omega),rP (cF (by omega) (by omega)),rP (cF (by omega) v1),vw (by omega),bS]
    rw [aF.c1,cI v1,bT,c2,bS,cA (by omega) (by omega)]
    by_cases g:0≤oO (el aZ s.2.2.1 (v - 1)) (el aZ s.2.2.1 v)
    ·rw [ij g,bT,if_pos g]
    ·rw [gL (by omega),bF,if_neg g]
   have rstep:∀ n v,1≤v→v<len s.2.2.1→bx.c1 k s (n+1) v=if 0≤oO (el aZ s.2.2.1 (v - 1)) (el aZ s.2.2.1 v) then some (.inl ()) else bx.c1 k s n (v+1):=by
    intro n v v0 v1;rw [bx.c1,cI v1,bT,fp (by omega) (by omega),rP (cF (by omega) (by omega)),rP (cF (by omega) v1),ue (by omega),bS,cA (by omega) (by omega)]
    by_cases g:0≤oO (el aZ s.2.2.1 (v - 1)) (el aZ s.2.2.1 v)
    ·rw [ij g,bT,if_pos g]
    ·rw [gL (by omega),bF,if_neg g]
   have same:∀ (n m:Nat) (v:Int),1≤v→len s.2.2.1 - v<(n:Int)→len s.2.2.1 - v<(m:Int)→0<n→0<m→∃ r,aF.c1 k s n v=some r∧bx.c1 k s m v=some r:=by
    intro n
    induction n with
    | zero=>intro m v _ _ _ h; omega
    | succ n ih =>
     intro m v v0 h1 h2 _ hm;obtain ⟨m,rfl⟩:∃ m',m=m'+1:=⟨m - 1,by omega⟩
     by_cases c:v<len s.2.2.1
     ·rw [step n v v0 c,rstep m v v0 c]
      by_cases g:0≤oO (el aZ s.2.2.1 (v - 1)) (el aZ s.2.2.1 v)
      ·rw [if_pos g,if_pos g]; exact ⟨_,rfl,rfl⟩
      ·rw [if_neg g,if_neg g]
       exact ih m (v+1) (by omega) (by omega) (by omega) (by omega) (by omega)
     ·rw [aF.c1,bx.c1,db (by omega),bF,bF]
      exact ⟨_,rfl,rfl⟩
   obtain ⟨q,rfl⟩:∃ q,k=q+1:=⟨k - 1,by omega⟩;obtain ⟨r,r1,r2⟩:∃ r,aF.c1 (q+1) s (q+1) 0=some r∧bx.c1 (q+1) s (q+1) 1=some r:=by
    by_cases c:0<len s.2.2.1
    ·have z:aF.c2 (q+1) s 0=some false:=by
      unfold aF.c2;rw [gZ (by decide),bF]
     obtain ⟨r,g1,g2⟩:=same q (q+1) 1 (by omega) (by omega) (by omega) (by omega) (by omega);refine ⟨r,?_,g2⟩;rw [aF.c1,cI c,bT,z,bS,bF,cA (by omega) (by omega)];exact g1
    ·obtain ⟨r,g1,g2⟩:=same (q+1) (q+1) 1 (by omega) (by omega) (by omega) (by omega) (by omega)
     refine ⟨.inr (),?_,?_⟩
     ·rw [aF.c1,db (by omega),bF]
     ·rw [bx.c1,db (by omega),bF]
   rw [r1,r2,bS,bS];cases r with
   | inl _=>exact ⟨9,rfl,rfl,fun h=>absurd h (by decide)⟩
   | inr _ =>
    rw [fQ,fQ,zQ,zD];simp only [bS]
    by_cases g:GS s
    ·rw [decide_eq_true g]
     exact ⟨0,rfl,rfl,fun _=>⟨hA,⟨lJ,fun j a b=>(hJ j a b).1⟩,lC,hC⟩⟩
    ·rw [decide_eq_false g]
     exact ⟨1,rfl,rfl,fun h=>absurd h (by decide)⟩
  ·rw [fw c2,bT,bT]
   exact ⟨e2,rfl,rfl,fun h=>absurd h c2⟩
 ·rw [fw c1,bT,bT]
  exact ⟨e1,rfl,rfl,fun h=>absurd h c1⟩
theorem xC {k:Nat} (hk:100≤k) {l:List Int} (hl:len l≤64):bf k l l=some true:=by
 have H:∀ (n:Nat) (i:Int),0≤i→len l - i<(n:Int)→0<n→bf.c1 k l l n i=some (.inr ()):=by
  intro n
  induction n with
  | zero=>intro i _ _ h; omega
  | succ n ih =>
   intro i i0 i1 _;rw [bf.c1]
   by_cases c:i<len l
   ·rw [cI c,bT,rP (cF i0 c),rP (cF i0 c),eu rfl,bF,cA (by omega) (by omega)]
    exact ih (i+1) (by omega) (by omega) (by omega)
   ·rw [db (by omega),bF]
 unfold bf;rw [eu rfl,bF,H k 0 (by omega) (by omega) (by omega),bS,fQ]
theorem mi {k:Nat} (hk:10000≤k) (s:jr):aS k s=some true:=by
 obtain ⟨e,e1,e2,e3⟩:=sy hk s;unfold aS;rw [ni,bS,bT]
 by_cases h:e=0
 ·subst h
  obtain ⟨⟨hA,hl⟩,⟨lJ,hJ⟩,lC,hC⟩:=e3 rfl;have hm:∀ i,0≤i→i<len s.1→0≤kg s.1 i:=fun i a b=>(qu (k:=k) (by omega) _ (hA i a b)).1;have rJ:∀ j,0≤j→j<len s.2.1→0≤(el fY s.2.1 j).1∧(el fY s.2.1 j).1<len s.1∧0≤(el fY s.2.1 j).2.1∧(el fY s.2.1 j).2.1<len s.1:=by
   intro j a b;obtain ⟨h1,h2,h3,_⟩:=hJ j a b;omega
  have rC:∀ j,0≤j→j<len s.2.2.1→0≤(el aZ s.2.2.1 j).1∧(el aZ s.2.2.1 j).1<len s.1∧0≤(el aZ s.2.2.1 j).2.1∧(el aZ s.2.2.1 j).2.1<len s.1:=by
   intro j a b;obtain ⟨⟨h1,h2,h3,_⟩,_⟩:=hC j a b;omega
  obtain ⟨out,p,o1,o2,o3,hp⟩:=td hk hl (by omega) (by omega) rJ rC;obtain ⟨L,l1,l2,l3⟩:=uG hk hl (by omega) (by omega) hm rJ rC hp;have hEq:out=L:=se 0 (o2.trans l2.symm) fun j a b=>by rw [o3 j a (by omega),l3 j a (by omega)]
  have eI:dM k s=some (out,0):=by
   unfold dM;rw [e1,bS,eu rfl,bF,o1,bS]
  rw [eI,bS,e2,bS,e1,bS,eu rfl,bF,bF];dsimp only;rw [gB rfl,bT,l1,bS,hEq,xC (by omega) (by omega),bS]
 ·have eI:dM k s=some ([],e):=by
   unfold dM;rw [e1,bS,fw h,bT]
  rw [eI,bS,e2,bS,e1,bS,eu rfl,bF,fw h,bT];have c1:aS.c1 k ([],e) e=some true:=by
   unfold aS.c1;dsimp only;rw [gB rfl,bT];rfl
  rw [c1,bS]
theorem js:∀ x:(Ty.pair kJ .unit).den,Ty.wf (.pair kJ .unit) x→∃ k,(aS.sp k).f x=some true:=by
 intro x _;obtain ⟨K,hK⟩:∃ K,K=10000:=⟨10000,rfl⟩;exact ⟨K,mi (by omega) x.1⟩
end Go.Proofs.T1
