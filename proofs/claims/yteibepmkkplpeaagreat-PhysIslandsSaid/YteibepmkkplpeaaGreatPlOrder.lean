import Derived.Test.YteibepmkkplpeaaGreatPlFind
namespace Go.Proofs.T1
open Go Go.Sx
section
variable {p v:aV} {ang spin mass inertia bounce rub:Int} {l:List aV} {asleep:Bool} {calm:Int}
end
theorem wu {α:Type} (z:α) (l:List α) {i:Int} (i0:0≤i) (i1:i<len l):st l i (el z l i)=l:=by
 obtain ⟨i,rfl⟩:=Int.eq_ofNat_of_zero_le i0;have ll:len l=(l.length:Int):=rfl;have hi:i<l.length:=by omega
 rw [l5 z l hi];show l.set i l[i]=l;exact List.set_getElem_self hi
end Go.Proofs.T1
namespace Go.Proofs.T1
open Go Go.Sx
theorem x9 (k:Nat) (s:(List Int) × Unit):∃ s' p v ang spin mass inertia bounce rub l,bw k s=some (s',(p,v,ang,spin,mass,inertia,bounce,rub,l,false,0,()))∧wH p v ang spin mass inertia bounce rub l:=by
 obtain ⟨raw,_⟩:=s;obtain ⟨l,e1,hs⟩:=vu k raw;unfold jc at e1;obtain ⟨⟨s0,l'⟩,e0,e2⟩:=DD e1;obtain rfl:l'=l:=Option.some.inj e2;obtain ⟨s1,y3,f3,a3,b3⟩:=gB k s0 (n:=41) (by decide) (by decide);obtain ⟨s2,y5,f5,a5,b5⟩:=gB k s1 (n:=41) (by decide) (by decide);obtain ⟨s3,y7,f7,a7,b7⟩:=gB k s2 (n:=65536) (by decide) (by decide);obtain ⟨s4,y9,f9,a9,b9⟩:=gB k s3 (n:=3) (by decide) (by decide);obtain ⟨s5,y14,f14,a14,b14⟩:=gB k s4 (n:=65537) (by decide) (by decide);obtain ⟨s6,y16,f16,a16,b16⟩:=gB k s5 (n:=65537) (by decide) (by decide);obtain ⟨s7,y18,f18,a18,b18⟩:=gB k s6 (n:=4) (by decide) (by decide);have hc1:∃ ang,bw.c1 k (s3,y7) (s4,y9)=some ang∧0≤ang∧ang≤65535:=by
  unfold bw.c1
  by_cases h:y9=0
  ·rw [fh h,bT]
   exact ⟨0,rfl,by decide,by decide⟩
  ·rw [eL h,bF]
   exact ⟨y7,rfl,a7,by omega⟩
 obtain ⟨ang,f12,g0,g1⟩:=hc1;have e0:cU k (raw,())=some (s0,l'):=e0;unfold bw;rw [e0,bS];dsimp only;rw [f3,bS];dsimp only;rw [f5,bS];dsimp only;rw [f7,bS];dsimp only;rw [f9,bS,f12,bS];dsimp only;rw [f14,bS];dsimp only;rw [f16,bS];dsimp only;rw [f18,bS];dsimp only;rw [oN a3 (by omega) (by decide) (by decide),oN a5 (by omega) (by decide) (by decide)]
 by_cases h:y18=0
 ·rw [fh h,bT]
  exact ⟨_,_,_,_,_,_,_,_,_,_,rfl,⟨hs,by dsimp only; omega,by dsimp only; omega,⟨g0,g1⟩,by decide,⟨a14,by omega⟩,⟨a16,by omega⟩,Or.inl ⟨rfl,rfl,rfl,rfl⟩⟩⟩
 ·rw [eL h,bF]
  obtain ⟨s8,y21,f21,a21,b21⟩:=gB k s7 (n:=21) (by decide) (by decide);obtain ⟨s9,y23,f23,a23,b23⟩:=gB k s8 (n:=21) (by decide) (by decide);obtain ⟨s10,y25,f25,a25,b25⟩:=gB k s9 (n:=65536) (by decide) (by decide);obtain ⟨s11,y27,f27,a27,b27⟩:=gB k s10 (n:=8) (by decide) (by decide);obtain ⟨s12,y29,f29,a29,b29⟩:=gB k s11 (n:=30) (by decide) (by decide);rw [f21,bS];dsimp only;rw [f23,bS];dsimp only;rw [f25,bS];dsimp only;rw [f27,bS];dsimp only;rw [f29,bS];dsimp only;rw [oN a21 (by omega) (by decide) (by decide),oN a23 (by omega) (by decide) (by decide)];have m1:bh .i64 (aG .i64 1 y27) 65536=(1+y27)*65536:=by rw [bJ (by omega) (by omega),eJ (by omega) (by omega)]
  have m2:bh .i64 (aG .i64 1 y29) 65536=(1+y29)*65536:=by rw [bJ (by omega) (by omega),eJ (by omega) (by omega)]
  rw [m1,m2,dN (by omega) (by omega)];exact ⟨_,_,_,_,_,_,_,_,_,_,rfl,⟨hs,by dsimp only; omega,by dsimp only; omega,⟨g0,g1⟩,by omega,⟨a14,by omega⟩,⟨a16,by omega⟩,Or.inr ⟨by omega,by omega,by omega,by omega⟩⟩⟩
end Go.Proofs.T1
namespace Go.Proofs.T1
open Go Go.Sx
def Ct (b:ct):Prop:=∃ p v ang spin mass inertia bounce rub l,b=(p,v,ang,spin,mass,inertia,bounce,rub,l,false,0,())∧wH p v ang spin mass inertia bounce rub l
def ya (l:List ct):Prop:=∀ i,0≤i→i<len l→Ct (el au l i)
theorem zH {l:List ct} (h:ya l) {b:ct} (hb:Ct b):ya (l++[b]):=by
 intro j j0 j1;rw [ry] at j1
 by_cases c:j<len l
 ·rw [yi au l b j0 c]; exact h j j0 c
 ·rw [xS au l b (show len l=j by omega)]; exact hb
theorem sH {k:Nat} (hk:9≤k) (raw:List Int):∃ B J g st,aK k raw=some (B,J,[],g,st,())∧ya B∧len B≤5∧len J≤1∧1≤st∧st≤65536:=by
 obtain ⟨s1,y1,f1,a1,b1⟩:=gB k (raw,()) (n:=11) (by decide) (by decide);obtain ⟨s2,y3,f3,a3,b3⟩:=gB k s1 (n:=60) (by decide) (by decide);obtain ⟨s3,y6,f6,a6,b6⟩:=gB k s2 (n:=6) (by decide) (by decide);obtain ⟨⟨s4,B⟩,⟨hA,hl⟩,hB⟩:=iz (fun n (z:((List Int) × Unit) × List ct) v=>aK.c1 k (s3,y6) n v z.1 z.2) 0 y6 (fun z v=>ya z.2∧len z.2=v)
  (by
   intro n z v v0 v1 ⟨h1,h2⟩;obtain ⟨s',p,v',ang,spin,mass,inertia,bounce,rub,l,e,hm⟩:=x9 k z.1;refine ⟨(s',z.2++[(p,v',ang,spin,mass,inertia,bounce,rub,l,false,0,())]),⟨zH h1 ⟨p,v',ang,spin,mass,inertia,bounce,rub,l,rfl,hm⟩,by rw [ry,h2]⟩,?_⟩;show aK.c1 k (s3,y6) (n+1) v z.1 z.2=_;have hroom:∀ w:ct,room 120 z.2 [w]:=by
    intro w;show (z.2.length+1)*120≤140737488355328;unfold len at h2;omega
   rw [aK.c1,cg v1,bT,e,bS];dsimp only
   rw [rP (hroom _),bJ (by omega) (by omega)])
  (by
   intro n z v v0 v1;show aK.c1 k (s3,y6) (n+1) v z.1 z.2=_
   rw [aK.c1,cp v1,bF])
  k (s3,[]) 0 (by omega) (by omega) (by omega) ⟨fun j j0 j1=>by have:j<0:=j1; omega,rfl⟩
 have hB:aK.c1 k (s3,y6) k 0 s3 []=some (s4,B):=hB;have hl:len B=y6:=hl;have hc2:∃ b s5,aK.c2 k (s4,B)=some (b,s5):=by
  unfold aK.c2;dsimp only
  by_cases c:1<len B
  ·rw [gH c,bT,rP (bZ (by omega) (by omega)),rP (bZ (by omega) c)]
   by_cases d:0<aG .i64 (el au B 0).2.2.2.2.1 (el au B 1).2.2.2.2.1
   ·obtain ⟨s5,y,f,_,_⟩:=gB k s4 (n:=3) (by decide) (by decide)
    rw [gH d,bT,f,bS];exact ⟨_,_,rfl⟩
   ·rw [gd (by omega),bF]
    exact ⟨_,_,rfl⟩
  ·rw [gd (by omega),bF]
   exact ⟨_,_,rfl⟩
 obtain ⟨b,s5,hc2⟩:=hc2;obtain ⟨s6,y26,f26,_,_⟩:=gB k s5 (n:=6) (by decide) (by decide);have hst:eo .i64 65536 (aG .i64 20 y3)=65536 / (20+y3):=by
  rw [bJ (by omega) (by omega),kb (by decide) (by decide) (by omega)]
 have st0:1≤65536 / (20+y3):=(Int.le_ediv_iff_mul_le (by omega)).2 (by omega);have st1:65536 / (20+y3)≤65536:=Int.ediv_le_self _ (by decide);unfold aK;rw [f1,bS];dsimp only;rw [f3,bS];dsimp only;rw [hst,rP (show nz (aG .i64 20 y3) by rw [bJ (by omega) (by omega)]; unfold nz; omega),f6,bS];dsimp only;rw [hB,bS,hc2,bS];dsimp only;cases b with
 | true =>
  rw [bT,f26,bS];exact ⟨_,_,_,_,rfl,hA,by omega,by show (1:Int)≤1; omega,st0,st1⟩
 | false =>
  rw [bF];exact ⟨_,_,_,_,rfl,hA,by omega,by show (0:Int)≤1; omega,st0,st1⟩
theorem C6 {k:Nat} (hk:9≤k) {l:List ct} (h:ya l):q9 k l:=by
 intro i i0 i1;obtain ⟨p,v,ang,spin,mass,inertia,bounce,rub,c,e,hm⟩:=h i i0 i1;show ak k (el au l i)=some 0;rw [e];exact hm.check hk
theorem Dm {k:Nat} (hk:10≤k) {l:List ct} (h:ya l):Bl k l:=by
 intro i i0 i1;obtain ⟨p,v,ang,spin,mass,inertia,bounce,rub,c,e,hm⟩:=h i i0 i1;obtain ⟨c',e1,hv,hl,a,s,hc,ha,hs⟩:=xY (k:=k) hk (hm.check (by omega));refine ⟨c',by rw [e]; exact e1,hv,fun j j0 j1=>?_⟩;rw [hl] at j1;have h4:=hm.hl.1.2.2.1 j j0 j1;have hp:=hm.hp;rw [hc,uD j0 j1];have rb:∀ {x y:Int},-262144≤x→x≤262144→-65536≤y→y≤65536→-262144≤iH (x*y) 65536∧iH (x*y) 65536≤262144:=by
  intro x y x0 x1 y0 y1;have:=eA (x:=x) (y:=y) (M:=262144) (N:=65536) x0 x1 y0 y1;exact nH (by decide) (by omega) (by omega)
 have b1:=rb (x:=(q c j).1) (y:=a) (by omega) (by omega) ha.1 ha.2;have b2:=rb (x:=(q c j).2.1) (y:=s) (by omega) (by omega) hs.1 hs.2;have b3:=rb (x:=(q c j).1) (y:=s) (by omega) (by omega) hs.1 hs.2;have b4:=rb (x:=(q c j).2.1) (y:=a) (by omega) (by omega) ha.1 ha.2;unfold Bx tp;dsimp only;omega
theorem xo {k:Nat} (hk:10000≤k) {C:List dX} (hC:C.length≤5000) (hz:∀ c,c∈C→c.2.2.2.2.2.2=(0,0,())):bA k [] C=some C:=by
 have lC:len C=(C.length:Int):=rfl;have hi:∀ (v:Int) (r:List dX),aD k [] v r=some (-1):=by
  intro v r;unfold aD;obtain ⟨m,rfl⟩:∃ m,k=m+1:=⟨k - 1,by omega⟩;have e:aD.c1 (m+1) [] v r (m+1) 0=some (.inr ()):=by
   rw [aD.c1,cp (by decide),bF]
  rw [e,bS,fN]
 have same:∀ v:Int,0≤v→v<len C→((el bf C v).1,(el bf C v).2.1,(el bf C v).2.2.1,(el bf C v).2.2.2.1,(el bf C v).2.2.2.2.1,(el bf C v).2.2.2.2.2.1,(0:Int),(el bf C v).2.2.2.2.2.2.2)=el bf C v:=by
  intro v v0 v1;have h:=hz _ (mE bf C v0 v1);generalize el bf C v=c at *
  obtain ⟨a,b,d,e,f,g,h2⟩:=c;dsimp only at h ⊢;rw [h]
 have same2:∀ v:Int,0≤v→v<len C→((el bf C v).1,(el bf C v).2.1,(el bf C v).2.2.1,(el bf C v).2.2.2.1,(el bf C v).2.2.2.2.1,(el bf C v).2.2.2.2.2.1,(el bf C v).2.2.2.2.2.2.1,(0:Int),())=el bf C v:=by
  intro v v0 v1;have h:=hz _ (mE bf C v0 v1);generalize el bf C v=c at *
  obtain ⟨a,b,d,e,f,g,h2⟩:=c;dsimp only at h ⊢;rw [h]
 have cl:cS k C=some C:=by
  unfold cS;exact rP (show jl 80 C by unfold jl roomFor; omega) _
 have key:∀ (n:Nat) (v:Int),0≤v→v≤len C→len C - v<(n:Int)→bA.c1 k [] C n v C=some C:=by
  intro n
  induction n with
  | zero=>intro v a b c; omega
  | succ n ih =>
   intro v a b c;rw [bA.c1]
   by_cases h:v<len C
   ·rw [cg h,bT,rP (bZ a h),same v a h,wu bf C a h,rP (bZ a h),same2 v a h,wu bf C a h,hi,bS]
    unfold bA.c2;rw [gO (by decide),bF,bS,bJ (by omega) (by omega)];exact ih (v+1) (by omega) (by omega) (by omega)
   ·rw [cp (by omega),bF]
 unfold bA;rw [cl,bS,key k 0 (by omega) (by omega) (by omega),bS]
theorem z6 {k:Nat} (hk:10000≤k) {l:List ct} (hA:q9 k l) (hP:Bl k l) (hl:len l≤5):∃ ps C,bP k l=some (ps,0)∧sk (len l) ps∧br.c1 k l (ps,0) k 0 []=some C∧br k l []=some (C,0)∧Et (len l) ps C∧C.length≤50:=by
 have ll:len l=(l.length:Int):=rfl;obtain ⟨ps,C,e1,h1,e2,hF,hC⟩:=BZ hk hA hP (by omega);have sq:=Nat.mul_le_mul (show l.length≤5 by omega) (show l.length≤5 by omega);refine ⟨ps,C,e1,h1,e2,?_,hF,by omega⟩;unfold br;rw [e1,bS];dsimp only;rw [dE rfl,bF,e2,bS,xo hk (by omega) hF.zero,bS]
theorem xr {k:Nat} (hk:5000<k) {l:List ct} (hA:q9 k l) (hl:len l≤64) {C:List dX} (hC:C.length≤4096) (hv:∀ c,c∈C→DA (len l) c):ah k l C=some 0:=by
 have lC:len C=(C.length:Int):=rfl;unfold ah;rw [qK (by omega) hA hl,bS,dE rfl,bF,gd (by omega),bF];have H:=gJ (fun n v=>ah.c1 k l C n v) 0 (len C) (fun _=>False) (fun _=>())
  (fun _ _ _ _ h=>h.elim)
  (by
   intro n v a b _;show ah.c1 k l C (n+1) v=ah.c1 k l C n (v+1);obtain ⟨h1,h2,h3⟩:=hv _ (mE bf C a b);rw [ah.c1,cg b,bT,rP (bZ a b),Eb k hl,DG,D1,decide_eq_true h1,decide_eq_true h2,decide_eq_true (show P3 (el bf C v) from h3),bS];show aX false _ _=_;rw [bF,bS];show aX false _ _=_;rw [bF,bS];show aX false _ _=_
   rw [bF,bJ (by omega) (by omega)])
  (by
   intro n v a b;show ah.c1 k l C (n+1) v=_
   rw [ah.c1,cp b,bF])
  k 0 (by omega) (by omega)
 rcases H with ⟨_,_,_,h,_⟩ | ⟨_,h⟩
 ·exact h.elim
 ·have h:ah.c1 k l C k 0=some (.inr ()):=h (by omega)
  rw [h,bS,fN]
end Go.Proofs.T1
namespace Go.Proofs.T1
open Go Go.Sx
def EJ (a b:dX):Int:=if kQ a.1 b.1=0 then (if kQ a.2.1 b.2.1=0 then kQ a.2.2.1 b.2.2.1 else kQ a.2.1 b.2.1) else kQ a.1 b.1
theorem Dl {k:Nat} (hk:4≤k) (a b c:Int):di k [a,b,c]=some (if a=0 then (if b=0 then c else b) else a):=by
 obtain ⟨n,rfl⟩:∃ n,k=n+4:=⟨k - 4,by omega⟩;have l3:len [a,b,c]=3:=rfl;have e0:el 0 [a,b,c] 0=a:=rfl;have e1:el 0 [a,b,c] (0+1)=b:=rfl;have e2:el 0 [a,b,c] (0+1+1)=c:=rfl;unfold di;rw [di.c1,cg (by omega),bT,rP (bZ (by omega) (by omega)),e0]
 by_cases ha:a=0
 ·rw [dE ha,bF,if_pos ha,bJ (x:=0) (y:=1) (by omega) (by omega),di.c1,cg (by omega),bT,rP (bZ (by omega) (by omega)),e1]
  by_cases hb:b=0
  ·rw [dE hb,bF,if_pos hb,bJ (x:=0+1) (y:=1) (by omega) (by omega),di.c1,cg (by omega),bT,rP (bZ (by omega) (by omega)),e2]
   by_cases hc:c=0
   ·rw [dE hc,bF,bJ (x:=0+1+1) (y:=1) (by omega) (by omega),di.c1,cp (by omega),bF,bS,fN,hc]
   ·rw [gu hc,bT,bS,gD]
  ·rw [gu hb,bT,bS,gD,if_neg hb]
 ·rw [gu ha,bT,bS,gD,if_neg ha]
theorem xF {k:Nat} (hk:4≤k) (a b:dX):eu k a b=some (EJ a b):=by
 unfold eu;rw [iY,bS,iY,bS,iY,bS,Dl hk,bS];rfl
theorem DY {α:Type} (z:α) (l:List α) {i:Int} (i0:0≤i) (i1:i<len l) (x:α):el z (st l i x) i=x:=by
 rw [AF z l x i0 i1 i0,if_pos rfl]
end Go.Proofs.T1
