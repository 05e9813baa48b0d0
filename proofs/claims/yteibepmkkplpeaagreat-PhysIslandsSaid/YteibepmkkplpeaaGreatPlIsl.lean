import Derived.Test.YteibepmkkplpeaaGreatPlUnion
import Derived.Test.YteibepmkkplpeaaGreatG15
import Derived.Test.YteibepmkkplpeaaGreatG16
namespace Go.Proofs.T1
open Go Go.Sx
def uH:ct:=((0,327680,()),(0,0,()),0,0,65536,65536,0,0,[(-65536,-65536,()),(65536,-65536,()),(65536,65536,()),(-65536,65536,())],false,0,())
def so:ct:=((0,327680,()),(0,-10240,()),0,0,65536,65536,0,0,[(-65536,-65536,()),(65536,-65536,()),(65536,65536,()),(-65536,65536,())],false,0,())
def By:ct:=((0,327520,()),(0,-10240,()),0,0,65536,65536,0,0,[(-65536,-65536,()),(65536,-65536,()),(65536,65536,()),(-65536,65536,())],false,0,())
def Fj:eW:=((-65536,262144,()),(65536,393216,()),())
def EU:eW:=((-131074,196446,()),(131074,458754,()),())
def DE:iR:=([uH],[],[],(0,-655360,()),1024,())
theorem qM (x:eW):ar 10000 [x]=some []:=by
 obtain ⟨K,hK⟩:∃ K,K=10000:=⟨10000,rfl⟩;obtain ⟨r,e,hr,_⟩:=uq (k:=K) [x] (by simp; omega) (by simp);have h2:oZ [x] []:=by
  refine ⟨by simp,fun p=>?_⟩;constructor
  ·intro h; cases h
  ·rintro ⟨a,b,h0,h1,h2,_,h⟩
   have h2:b<1:=h2;omega
 rw [vp hr h2,hK] at e;exact e
theorem Ff:aL 10000 DE=some 0:=by kernel_rfl
theorem Fo:bu 10000 [uH]=some 0:=by kernel_rfl
theorem Fg:bP.c1 10000 [uH] 10000 0 []=some [Fj]:=by kernel_rfl
theorem Fs:aq 10000 (fun x:((List Int) × Unit)=>dB 10000 (x.1) [uH]) []=some []:=by kernel_rfl
theorem Fp:bP 10000 [uH]=some ([],0):=by
 unfold bP;rw [Fo,bS,dE rfl,bF,Fg,bS,qM,bS,Fs,bS]
theorem Fm:(bO (br.c1 10000 [uH] ([],0) 10000 0 []) fun o23=>bO (bA 10000 [] o23) fun y25=>some (y25,(0:Int)))=some ([],0):=by kernel_rfl
theorem E9:br 10000 [uH] []=some ([],0):=by
 unfold br;rw [Fp,bS];dsimp only;rw [dE rfl,bF];exact Fm
theorem Fe:af 10000 [uH] [] []=some [0]:=by kernel_rfl
theorem Fq:aR 10000 [uH] [0]=some [uH]:=by kernel_rfl
theorem EA:bz 10000 (0,-655360,()) 1024 [uH]=some [so]:=by kernel_rfl
theorem EN:aC 10000 [] 1024 8 [so]=some ([so],0):=by kernel_rfl
theorem EP:aj 10000 [so] 1024 8 []=some ([so],[],0):=by kernel_rfl
theorem Ey:aS.c1 10000 [so] 1024 10000 0 [] (jA false (len [so]))=some ([EU],[false]):=by kernel_rfl
theorem EM:aY 10000 [65536] (len [so])=some [65536]:=by
 have e:jA (0:Int) 1≠[]∧[65536]≠([]:List Int):=⟨by decide,by decide⟩;unfold aY;have l1:len [so]=1:=rfl;rw [l1,cp (by decide),bF];have m:fA 10000 (cR .u64 (len [(65536:Int)])) (cR .u64 1)=some (0,1):=by kernel_rfl
 have m2:aY.c1 10000 (0,1)=some false:=by kernel_rfl
 have m3:aY.c2 10000 [65536] (0,1) 10000=some ():=by kernel_rfl
 have m4:cR .i64 1=1:=by kernel_rfl
 rw [m,bS,m2,bS,bF];dsimp only;rw [m4,rP (show nO 8 1 1 from ⟨rfl,by decide,by decide,by decide⟩),rP e,m3,bS];rfl
theorem Ez:aS 10000 [so] 1024=some [65536]:=by
 unfold aS;have l1:len [so]=1:=rfl;have c2:aS.c2 10000 [so] ([EU],[false]) [] 10000 0=some ():=by kernel_rfl
 rw [EM,bS,rP (show nO 1 (len [so]) (len [so]) from ⟨rfl,by rw [l1]; decide,by rw [l1]; decide,by rw [l1]; decide⟩),Ey,bS,qM,bS,c2,bS]
theorem EB:cD.c1 10000 DE ([so],[],0) [65536] 10000 0 []=some [By]:=by kernel_rfl
theorem Ew:aN 10000 [true] (len [By])=some [true]:=by
 have e:jA false 1≠[]∧[true]≠([]:List Bool):=⟨by decide,by decide⟩;unfold aN;have l1:len [By]=1:=rfl;rw [l1,cp (by decide),bF];have m:fA 10000 (cR .u64 (len [true])) (cR .u64 1)=some (0,1):=by kernel_rfl
 have m2:aN.c1 10000 (0,1)=some false:=by kernel_rfl
 have m3:aN.c2 10000 [true] (0,1) 10000=some ():=by kernel_rfl
 have m4:cR .i64 1=1:=by kernel_rfl
 rw [m,bS,m2,bS,bF];dsimp only;rw [m4,rP (show nO 1 1 1 from ⟨rfl,by decide,by decide,by decide⟩),rP e,m3,bS];rfl
theorem EO:(bO (ag.c1 10000 [By] [0] 10000 0 [By] [true]) fun o31=>bO (ag.c6 10000 o31 [0] 10000 0 o31.1) fun o45=>some o45)=some [By]:=by kernel_rfl
theorem ER:ag 10000 [By] [0]=some [By]:=by
 unfold ag;rw [Ew,bS];exact EO
theorem uM:cD 10000 DE=some (([By],[],[],(0,-655360,()),1024,()),0):=by
 have cj:dZ 10000 DE.2.1=some []:=by kernel_rfl
 have cb:dx 10000 DE.1=some [uH]:=by kernel_rfl
 unfold cD;rw [Ff,bS,dE rfl,bF,cj,bS];show (bO (br 10000 [uH] []) _)=_;rw [E9,bS,cb,bS];show (bO (af 10000 [uH] [] []) _)=_;rw [Fe,bS,Fq,bS];show (bO (bz 10000 (0,-655360,()) 1024 [uH]) _)=_;rw [EA,bS];show (bO (aC 10000 [] 1024 8 [so]) _)=_;rw [EN,bS];show (bO (aj 10000 [so] 1024 8 []) _)=_;rw [EP,bS];show (bO (aS 10000 [so] 1024) _)=_;rw [Ez,bS,EB,bS,ER,bS];rfl
def GS (s:iR):Prop:=(-16777216≤s.2.2.2.1.1∧s.2.2.2.1.1≤16777216∧-16777216≤s.2.2.2.1.2.1∧s.2.2.2.1.2.1≤16777216)∧1≤s.2.2.2.2.1∧s.2.2.2.2.1≤65536
instance (s:iR):Decidable (GS s):=by unfold GS; infer_instance
theorem Em (k:Nat) (s:iR):aL.c3 k s=some (!decide (GS s)):=by
 obtain ⟨B,J,C,⟨gx,gy,_⟩,st,_⟩:=s;unfold aL.c3;dsimp only;have e:∀ b:Bool,(b=true↔¬ GS (B,J,C,(gx,gy,()),st,()))→some b=some (!decide (GS (B,J,C,(gx,gy,()),st,()))):=by
  intro b hb;congr 1;cases b with
  | true=>rw [decide_eq_false (hb.1 rfl)]; rfl
  | false=>rw [decide_eq_true (Classical.byContradiction fun h=>absurd (hb.2 h) (by decide))]; rfl
 have hg:GS (B,J,C,(gx,gy,()),st,())↔(-16777216≤gx∧gx≤16777216∧-16777216≤gy∧gy≤16777216)∧1≤st∧st≤65536:=Iff.rfl;have mn:fH gx gy < -16777216↔gx < -16777216∨gy < -16777216:=by unfold fH; split <;> omega
 have mx:imax gx gy > 16777216↔gx > 16777216∨gy > 16777216:=by unfold imax; split <;> omega
 by_cases h1:fH gx gy < -16777216
 ·rw [cg h1,bT]
  exact e true ⟨fun _=>by rw [hg]; omega,fun _=>rfl⟩
 ·rw [cp (by omega),bF]
  by_cases h2:imax gx gy > 16777216
  ·rw [gH h2,bT]
   exact e true ⟨fun _=>by rw [hg]; omega,fun _=>rfl⟩
  ·rw [gd (by omega),bF]
   by_cases h3:st<1
   ·rw [cg h3,bT]
    exact e true ⟨fun _=>by rw [hg]; omega,fun _=>rfl⟩
   ·rw [cp (by omega),bF]
    refine e _ ?_
    unfold iJ;rw [decide_eq_true_iff,hg];omega
end Go.Proofs.T1
namespace Go.Proofs.T1
open Go Go.Sx
theorem Fk:dy 10000 0 5 1 true=some uH:=by kernel_rfl
theorem sS:cF 10000=some true:=by
 unfold cF;rw [Fk,bS];show (bO (cD 10000 DE) _)=_;rw [uM,bS];rfl
theorem zW {k:Nat} (hk:4≤k) (s:iR) (hl:len s.2.2.1≤100000):∀ (n:Nat) (v:Int),0≤v→v≤len s.2.2.1→len s.2.2.1 - v<(n:Int)→∃ r,aL.c1 k s n v=some r:=by
 intro n
 induction n with
 | zero=>intro v a b c; omega
 | succ n ih =>
  intro v a b c;rw [aL.c1]
  by_cases h:v<len s.2.2.1
  ·obtain ⟨o,c2⟩:∃ o,aL.c2 k s v=some o:=by
    unfold aL.c2
    by_cases g:0<v
    ·rw [gH g,bT,dN (by omega) (by omega),rP (bZ (by omega) (by omega)),rP (bZ a h),xF hk,bS]
     exact ⟨_,rfl⟩
    ·rw [gd (by omega),bF]
     exact ⟨_,rfl⟩
   rw [cg h,bT,c2,bS,bJ (by omega) (by omega)];cases o with
   | true=>rw [bT]; exact ⟨_,rfl⟩
   | false=>rw [bF]; exact ih (v+1) (by omega) (by omega) (by omega)
  ·rw [cp (by omega),bF]
   exact ⟨_,rfl⟩
theorem yw {k:Nat} (hk:10000≤k) {B:List ct} {J:List ix} {C:List dX} {g:aV} {t:Int} (hA:q9 k B) (hl:len B≤64) (hC:C.length≤50) (hv:∀ c,c∈C→DA (len B) c) :
  ∃ e,aL k (B,J,C,g,t,())=some e∧(e=0→len J≤32∧∀ j,0≤j→j<len J→CJ (len B) (el iS J j)):=by
 have lC:len C=(C.length:Int):=rfl;obtain ⟨e2,b1,b3⟩:=zB (k:=k) (by omega) B J;unfold aL;dsimp only;rw [xr (by omega) hA hl (by omega) hv,bS,dE rfl,bF,b1,bS]
 by_cases c2:e2=0
 ·rw [dE c2,bF]
  obtain ⟨r,hr⟩:=zW (k:=k) (by omega) (B,J,C,g,t,()) (by show len C≤100000; omega) k 0 (by omega) (by show 0≤len C; omega) (by show len C - 0<(k:Int); omega);rw [hr,bS];obtain ⟨_,lJ,hJ⟩:=b3 c2;cases r with
  | inl _=>exact ⟨9,rfl,fun h=>absurd h (by decide)⟩
  | inr _ =>
   rw [fN,Em,bS]
   by_cases g':GS (B,J,C,g,t,())
   ·rw [decide_eq_true g']
    exact ⟨0,rfl,fun _=>⟨lJ,fun j a b=>(hJ j a b).1⟩⟩
   ·rw [decide_eq_false g']
    exact ⟨1,rfl,fun h=>absurd h (by decide)⟩
 ·rw [gu c2,bT]
  exact ⟨e2,rfl,fun h=>absurd h c2⟩
theorem AP {l:List ct} {J:List ix} {C:List dX} {a b:Int} (h:Cn (Cy l J C) a b):a=b∨qj l a≠0∧qj l b≠0:=by
 induction h with
 | refl=>exact .inl rfl
 | link g=>exact .inr ⟨g.2.1,g.2.2⟩
 | symm _ ih =>
  rcases ih with e | ⟨x,y⟩
  ·exact .inl e.symm
  ·exact .inr ⟨y,x⟩
 | trans _ _ i1 i2 =>
  rcases i1 with e | ⟨x,y⟩
  ·rw [e]; exact i2
  ·rcases i2 with e | ⟨_,z⟩
   ·rw [← e]; exact .inr ⟨x,y⟩
   ·exact .inr ⟨x,z⟩
theorem DS {k:Nat} (hk:1000≤k) {y1:iR} {y5:(List Int) × Int} {p:Int→Int} {J:List ix} {C:List dX} (hl:len y1.1≤64) (lo:len y5.1=len y1.1) (ho:∀ i,0≤i→i<len y1.1→el 0 y5.1 i=p i) (hp:Part (len y1.1) (Cy y1.1 J C) p) :
  aa.c2 k y1 y5 k 0=some (.inr ()):=by
 have key:∀ (n:Nat) (v:Int),0≤v→v≤len y1.1→len y1.1 - v<(n:Int)→aa.c2 k y1 y5 n v=some (.inr ()):=by
  intro n
  induction n with
  | zero=>intro v a b c; omega
  | succ n ih =>
   intro v v0 v1 hf;rw [aa.c2]
   by_cases h:v<len y5.1
   ·obtain ⟨b0,b1,b2,b3⟩:=hp.bd v v0 (by omega)
    have c3:aa.c3 k v y1 y5=some false:=by
     unfold aa.c3;rw [ho v v0 (by omega),cp (by omega),bF,gd (by omega),bF,rP (bZ b0 (by omega)),ho (p v) b0 (by omega),dE b3,bF,rP (bZ v0 (by omega))]
     by_cases c:(el au y1.1 v).2.2.2.2.1=0
     ·rw [fh c,bT]
      rcases AP b2 with e | ⟨x,_⟩
      ·rw [dE e.symm]
      ·exact absurd c x
     ·rw [eL c,bF]
    rw [cg h,bT,rP (bZ v0 h),c3,bS,bF,bJ (by omega) (by omega)];exact ih (v+1) (by omega) (by omega) (by omega)
   ·rw [cp (by omega),bF]
 have ll:len y1.1=(List.length (α:=ct) y1.1:Int):=rfl;exact key k 0 (by omega) (by omega) (by omega)
theorem DH {k:Nat} (hk:1000≤k) {y1:iR} {y3:(List dX) × Int} {y5:(List Int) × Int} {p:Int→Int} {J:List ix} (hl:len y1.1≤64) (lC:y3.1.length≤50) (hm:∀ i,0≤i→i<len y1.1→0≤qj y1.1 i) (hv:∀ c,c∈y3.1→DA (len y1.1) c)
  (lo:len y5.1=len y1.1) (ho:∀ i,0≤i→i<len y1.1→el 0 y5.1 i=p i) (hp:Part (len y1.1) (Cy y1.1 J y3.1) p) :
  aa.c4 k y1 y3 y5 k 0=some (.inr ()):=by
 have ll:len y3.1=(y3.1.length:Int):=rfl;have key:∀ (n:Nat) (v:Int),0≤v→v≤len y3.1→len y3.1 - v<(n:Int)→aa.c4 k y1 y3 y5 n v=some (.inr ()):=by
  intro n
  induction n with
  | zero=>intro v a b c; omega
  | succ n ih =>
   intro v v0 v1 hf;rw [aa.c4]
   by_cases h:v<len y3.1
   ·have hin:=mE bf y3.1 v0 h
    obtain ⟨⟨a0,ab,bn,_⟩,_⟩:=hv _ hin;have c5:aa.c5 k v y1 y3=some false:=by
     unfold aa.c5;rw [cp a0,bF,gO ab,bF,gO bn]
    have c6:aa.c6 k v y1 y3 y5=some false:=by
     unfold aa.c6;rw [rP (bZ a0 (by omega)),rP (bZ (by omega) bn),rP (bZ a0 (by omega)),rP (bZ (by omega) (by omega)),ho _ a0 (by omega),ho _ (by omega) bn]
     by_cases x:(el au y1.1 (el bf y3.1 v).1).2.2.2.2.1 > 0
     ·rw [gH x,bT]
      by_cases y:(el au y1.1 (el bf y3.1 v).2.1).2.2.2.2.1 > 0
      ·rw [gH y,bT]
       have e:p (el bf y3.1 v).1=p (el bf y3.1 v).2.1:=hp.eq _ _ ⟨List.mem_append.2 (.inr (List.mem_map.2 ⟨_,hin,rfl⟩)),fun z=>by
        have z:(el au y1.1 (el bf y3.1 v).1).2.2.2.2.1=0:=z;omega,fun z=>by
        have z:(el au y1.1 (el bf y3.1 v).2.1).2.2.2.2.1=0:=z
        omega⟩
       rw [e,dE rfl]
      ·rw [gd (by omega),bF]
     ·rw [gd (by omega),bF]
    rw [cg h,bT,rP (bZ v0 h),c5,bS,bF,c6,bS,bF,bJ (by omega) (by omega)];exact ih (v+1) (by omega) (by omega) (by omega)
   ·rw [cp (by omega),bF]
 exact key k 0 (by omega) (by omega) (by omega)
theorem nf {k:Nat} (hk:k=10000) (raw:List Int):aa k raw=some true:=by
 have hst:cF k=some true:=by rw [hk]; exact sS
 obtain ⟨B,J,g,t,e,hM,lB,lJ,s0,s1⟩:=sH (k:=k) (by omega) raw;have hA:=C6 (k:=k) (by omega) hM;have hP:=Dm (k:=k) (by omega) hM;obtain ⟨ps,C,eP,hps,eC,eF,hF,lC⟩:=z6 (k:=k) (by omega) hA hP lB;obtain ⟨q,q1,q2⟩:=yw (k:=k) (by omega) (J:=J) (g:=g) (t:=t) hA (by omega) lC hF.ok;have lCi:len C=(C.length:Int):=rfl;unfold aa;rw [e,bS];dsimp only;rw [eF,bS];dsimp only
 by_cases h:q=0
 ·subst h
  obtain ⟨lJ2,hJ⟩:=q2 rfl;have hm:∀ i,0≤i→i<len B→0≤qj B i:=fun i a b=>(Ba (k:=k) (by omega) _ (hA i a b)).1;have rJ:∀ j,0≤j→j<len J→0≤(el iS J j).1∧(el iS J j).1<len B∧0≤(el iS J j).2.1∧(el iS J j).2.1<len B:=by
   intro j a b;obtain ⟨h1,h2,h3,_⟩:=hJ j a b;omega
  have rC:∀ j,0≤j→j<len C→0≤(el bf C j).1∧(el bf C j).1<len B∧0≤(el bf C j).2.1∧(el bf C j).2.1<len B:=by
   intro j a b;obtain ⟨⟨h1,h2,h3,_⟩,_⟩:=hF.ok _ (mE bf C a b);omega
  obtain ⟨out,p,o1,o2,o3,hp⟩:=vB (k:=k) (by omega) (l:=B) (by omega) (by omega) (by omega) rJ rC;have eI:dM k (B,J,C,g,t,())=some (out,0):=by
   unfold dM;dsimp only;rw [q1,bS,dE rfl,bF,o1,bS]
  have c1:aa.c1 k (B,J,[],g,t,()) (out,0)=some false:=by
   unfold aa.c1;dsimp only;rw [dE rfl,bF,dE o2]
  rw [eI,bS,hst,bS,bT,q1,bS,dE rfl,bF,c1,bS,bF,
   DS (k:=k) (y1:=(B,J,[],g,t,())) (y5:=(out,0)) (by omega) (by show len B≤64; omega) o2 o3 hp,bS,fN,
   DH (k:=k) (y1:=(B,J,[],g,t,())) (y3:=(C,0)) (y5:=(out,0)) (by omega) (by show len B≤64; omega) lC hm hF.ok o2 o3 hp,bS,fN]
 ·have eI:dM k (B,J,C,g,t,())=some ([],q):=by
   unfold dM;dsimp only;rw [q1,bS,gu h,bT]
  rw [eI,bS,hst,bS,bT,q1,bS,gu h,bT]
theorem jq:∀ x:(Ty.pair fD .unit).den,Ty.wf (.pair fD .unit) x→∃ k,(aa.sp k).f x=some true:=by
 intro x _;obtain ⟨K,hK⟩:∃ K,K=10000:=⟨10000,rfl⟩;exact ⟨K,nf hK x.1⟩
end Go.Proofs.T1
