import Derived.Test.YteibepmkkplpeaaGreatPlRay
import Derived.Test.YteibepmkkplpeaaGreatG17
namespace Go.Proofs.T1
open Go Go.Sx
def Hn:fE:=((-65536,262144,()),(65536,393216,()),())
def G9:fE:=((-131074,196446,()),(131074,458754,()),())
theorem sc (x:fE):ak 10000 [x]=some []:=by
 obtain ⟨K,hK⟩:∃ K,K=10000:=⟨10000,rfl⟩;obtain ⟨r,e,hr,_⟩:=AP (k:=K) [x] (by simp; omega) (by simp);have h2:p6 [x] []:=by
  refine ⟨by simp,fun p=>?_⟩;constructor
  ·intro h; cases h
  ·rintro ⟨a,b,h0,h1,h2,_,h⟩
   have h2:b<1:=h2;omega
 rw [xg hr h2,hK] at e;exact e
end Go.Proofs.T1
namespace Go.Proofs.T1
open Go Go.Sx
def wh:cI:=((0,327680,()),(0,0,()),0,0,262144,174763,0,0,[(-65536,-65536,()),(65536,-65536,()),(65536,65536,()),(-65536,65536,())],false,0,())
def tX:cI:=((0,327680,()),(0,-10240,()),0,0,262144,174763,0,0,[(-65536,-65536,()),(65536,-65536,()),(65536,65536,()),(-65536,65536,())],false,0,())
def DH:cI:=((0,327520,()),(0,-10240,()),0,0,262144,174763,0,0,[(-65536,-65536,()),(65536,-65536,()),(65536,65536,()),(-65536,65536,())],false,0,())
def FP:so:=([wh],[],[],(0,-655360,()),1024,())
theorem Dh:bb 10000 FP=some 0:=by kernel_rfl
theorem Ce:bA 10000 [wh]=some 0:=by kernel_rfl
theorem FZ:cy.c1 10000 [wh] 10000 0 []=some [Hn]:=by kernel_rfl
theorem Ho:ar 10000 (fun x:((List Int) × Unit)=>ef 10000 (x.1) [wh]) []=some []:=by kernel_rfl
theorem Hd:cy 10000 [wh]=some ([],0):=by
 unfold cy;rw [Ce,bS,ek rfl,bF,FZ,bS,sc,bS,Ho,bS]
theorem Hu:(bG (cY.c1 10000 [wh] ([],0) 10000) fun _=>bG (cO 10000 [] []) fun y9=>some (y9,(0:Int)))=some ([],0):=by kernel_rfl
theorem Hl:cY 10000 [wh] []=some ([],0):=by
 unfold cY;rw [Hd,bS];dsimp only;rw [ek rfl,bF];exact Hu
theorem Ht:aA 10000 [wh] [] []=some [0]:=by kernel_rfl
theorem He:aP 10000 [wh] [0]=some [wh]:=by kernel_rfl
theorem GX:bw 10000 (0,-655360,()) 1024 [wh]=some [tX]:=by kernel_rfl
theorem GU:az 10000 [] 1024 8 [tX]=some ([tX],0):=by kernel_rfl
theorem GV:ah 10000 [tX] 1024 8 []=some ([tX],[],0):=by kernel_rfl
theorem GM:aT.c1 10000 [tX] 1024 10000 0 [] (kB false (len [tX]))=some ([G9],[false]):=by kernel_rfl
theorem GL:aZ 10000 [65536] (len [tX])=some [65536]:=by
 have e:kB (0:Int) 1≠[]∧[65536]≠([]:List Int):=⟨by decide,by decide⟩;unfold aZ;have l1:len [tX]=1:=rfl;rw [l1,cD (by decide),bF];have m:fZ 10000 (cU .u64 (len [(65536:Int)])) (cU .u64 1)=some (0,1):=by kernel_rfl
 have m2:aZ.c1 10000 (0,1)=some false:=by kernel_rfl
 have m3:aZ.c2 10000 [65536] (0,1) 10000=some ():=by kernel_rfl
 have m4:cU .i64 1=1:=by kernel_rfl
 rw [m,bS,m2,bS,bF];dsimp only;rw [m4,rP (show pC 8 1 1 from ⟨rfl,by decide,by decide,by decide⟩),rP e,m3,bS];rfl
theorem GZ:aT 10000 [tX] 1024=some [65536]:=by
 unfold aT;have l1:len [tX]=1:=rfl;have c2:aT.c2 10000 [tX] ([G9],[false]) [] 10000 0=some ():=by kernel_rfl
 rw [GL,bS,rP (show pC 1 (len [tX]) (len [tX]) from ⟨rfl,by rw [l1]; decide,by rw [l1]; decide,by rw [l1]; decide⟩),GM,bS,sc,bS,c2,bS]
theorem G3:cG.c1 10000 FP ([tX],[],0) [65536] 10000 0 []=some [DH]:=by kernel_rfl
theorem GW:aG 10000 [true] (len [DH])=some [true]:=by
 have e:kB false 1≠[]∧[true]≠([]:List Bool):=⟨by decide,by decide⟩;unfold aG;have l1:len [DH]=1:=rfl;rw [l1,cD (by decide),bF];have m:fZ 10000 (cU .u64 (len [true])) (cU .u64 1)=some (0,1):=by kernel_rfl
 have m2:aG.c1 10000 (0,1)=some false:=by kernel_rfl
 have m3:aG.c2 10000 [true] (0,1) 10000=some ():=by kernel_rfl
 have m4:cU .i64 1=1:=by kernel_rfl
 rw [m,bS,m2,bS,bF];dsimp only;rw [m4,rP (show pC 1 1 1 from ⟨rfl,by decide,by decide,by decide⟩),rP e,m3,bS];rfl
theorem GY:(bG (ae.c1 10000 [DH] [0] 10000 0 [DH] [true]) fun o31=>bG (ae.c6 10000 o31 [0] 10000 0 o31.1) fun o45=>some o45)=some [DH]:=by kernel_rfl
theorem G6:ae 10000 [DH] [0]=some [DH]:=by
 unfold ae;rw [GW,bS];exact GY
theorem ui:cG 10000 FP=some (([DH],[],[],(0,-655360,()),1024,()),0):=by
 have cj:eF 10000 FP.2.1=some []:=by kernel_rfl
 have cb:dH 10000 FP.1=some [wh]:=by kernel_rfl
 unfold cG;rw [Dh,bS,ek rfl,bF,cj,bS];show (bG (cY 10000 [wh] []) _)=_;rw [Hl,bS,cb,bS];show (bG (aA 10000 [wh] [] []) _)=_;rw [Ht,bS,He,bS];show (bG (bw 10000 (0,-655360,()) 1024 [wh]) _)=_;rw [GX,bS];show (bG (az 10000 [] 1024 8 [tX]) _)=_;rw [GU,bS];show (bG (ah 10000 [tX] 1024 8 []) _)=_;rw [GV,bS];show (bG (aT 10000 [tX] 1024) _)=_;rw [GZ,bS,G3,bS,G6,bS];rfl
def G5:cI:=((0,0,()),(0,0,()),0,0,0,0,0,0,[(-65536,-65536,()),(65536,-65536,()),(65536,65536,()),(-65536,65536,())],false,0,())
theorem zU:dP 10000 0 5 1 1 true=some wh:=by kernel_rfl
theorem Hf:dP 10000 0 0 1 1 false=some G5:=by kernel_rfl
theorem Hi:dh 10000 [G5] (-262144,0,()) (524288,0,())=some (0,24576,0):=by kernel_rfl
theorem B6:dm 10000=some true:=by
 unfold dm;rw [zU,bS];show (bG (cG 10000 FP) _)=_;rw [ui,bS,Hf,bS];show (bG (dh 10000 [G5] (-262144,0,()) (524288,0,())) _)=_;rw [Hi,bS];rfl
theorem Di {k:Nat} {a b:List aB} {L:(Bool × aB) × (Bool × Int)} (hL:aH k a b=some L) (hc:af.c1 k L=some false) {X:List (aB × (aB × aB))} (h:af k a b=some X):0<len X:=by
 unfold af at h;rw [hL,bS,hc,bS,bF] at h;obtain ⟨y7,_,h⟩:=ka h;obtain ⟨o10,_,h⟩:=ka h;obtain ⟨y12,_,h⟩:=ka h;obtain ⟨_,h⟩:=gS h;obtain ⟨_,h⟩:=gS h;obtain ⟨_,h⟩:=gS h;obtain ⟨y17,_,h⟩:=ka h;obtain ⟨_,h⟩:=gS h;obtain ⟨_,h⟩:=gS h;obtain ⟨_,h⟩:=gS h;obtain ⟨y22,_,h⟩:=ka h;obtain ⟨y24,_,h⟩:=ka h;obtain ⟨o31,_,h⟩:=ka h;obtain ⟨o46,_,h⟩:=ka h;have lo:len o46=(o46.length:Int):=rfl
 by_cases c:len o46=0
 ·rw [fw c,bT] at h
  obtain ⟨y49,_,h⟩:=ka h;obtain ⟨_,h⟩:=gS h;obtain ⟨y52,_,h⟩:=ka h;obtain ⟨_,h⟩:=gS h;obtain rfl:=Option.some.inj h;rw [Dv];omega
 ·rw [fu c,bF] at h
  obtain rfl:=Option.some.inj h;omega
theorem FK {l:List aB} {X w:Int} (hw:0<w) (h:CP l iF iF X w):pY l iF:=by
 intro i i0 i1;have g:=h i i0 i1;have e:nu l iF i=fb (q l i) (q l (nx (len l) i)) iF:=rfl;have d:dn l iF i=0:=by
  have z1:iF.1=0:=rfl;have z2:iF.2.1=0:=rfl;unfold dn;rw [z1,z2,Int.mul_zero,Int.mul_zero];rfl
 rw [d,Int.mul_zero,e] at g;exact Classical.byContradiction fun c=>by
  have:=Int.mul_neg_of_pos_of_neg hw (show fb (q l i) (q l (nx (len l) i)) iF<0 by omega);omega
theorem vo {k:Nat} (hk:300≤k) (raw:List Int):∃ b P,dM k raw=some b∧GD k b∧bt k b=some P∧jx P∧∀ j,0≤j→j<len P→Bx 1179648 (q P j):=by
 obtain ⟨s',p,v,ang,spin,mass,inertia,bounce,rub,l,e,hm⟩:=yY k (raw,());have hA:Ft [((p,v,ang,spin,mass,inertia,bounce,rub,l,false,0,()):cI)]:=by
  intro i i0 i1;have i1:i<1:=i1;obtain rfl:i=0:=by omega
  exact ⟨p,v,ang,spin,mass,inertia,bounce,rub,l,rfl,hm⟩
 have h1:=Fp (k:=k) (by omega) hA 0 (by decide) (by show (0:Int)<1; decide);obtain ⟨P,e1,e2,e3⟩:=Fk (k:=k) (by omega) hA 0 (by decide) (by show (0:Int)<1; decide);refine ⟨_,P,?_,h1,e1,e2,e3⟩;unfold dM;rw [e,bS];rfl
open Classical in
theorem rz {k:Nat} (hk:k=10000) (ra rb:List Int):aD k ra rb=some true:=by
 have h7:dm k=some true:=by rw [hk]; exact B6
 obtain ⟨x,P,x1,x2,x3,vP,bP⟩:=vo (k:=k) (by omega) ra;obtain ⟨y,Q,y1,y2,y3,vQ,bQ⟩:=vo (k:=k) (by omega) rb;obtain ⟨l,eM,D,_⟩:=rR (k:=k) (by omega) vP vQ;obtain ⟨m,fM,hM⟩:=Bh (k:=k) (by omega) vP vQ eM D;obtain ⟨n,fA,n0,n1,A,B⟩:=yX (k:=k) (by omega) vP vQ eM D;have hZ:pY l iF↔jV P Q∧jV Q P:=by
  constructor
  ·intro z
   obtain ⟨X,Y,w,hw,h1,h2⟩:=common vP.2.2.2 vQ.2.2.2 D z;exact ⟨nE vQ.2.2.2 vQ.1 hw h1 h2,nE vP.2.2.2 vP.1 hw h2 h1⟩
  ·exact fun z=>D.zero z.1 z.2
 have hA:AT k [x]:=by
  intro i i0 i1;have i1:i<1:=i1;obtain rfl:i=0:=by omega
  exact x2
 have l1:len [x]=1:=rfl;have e0:el ao [x] 0=x:=rfl;have vm:cH k [x] Q=some (if m=true then [0] else [],0):=by
  obtain ⟨f,hf⟩:∃ f,k=f+1+1:=⟨k - 2,by omega⟩;have c1:cH.c1 k [x] Q k 0 []=some (if m=true then [0] else []):=by
   have step:∀ z:List Int,cH.c1 k [x] Q (f+1) 1 z=some z:=by
    intro z;rw [cH.c1,cD (by omega),bF]
   have s0:cH.c1 k [x] Q (f+1+1) 0 []=some (if m=true then [0] else []):=by
    rw [cH.c1,cB (by omega),bT,rP (cZ (by omega) (by omega)),e0,x3,bS,fM,bS];dsimp only;rw [bH (x:=0) (y:=1) (by omega) (by omega)];cases m with
    | true =>
     rw [bT,rP (show room 8 [] [(0:Int)] from by unfold room roomFor; decide),if_pos rfl];exact step [0]
    | false =>
     rw [bF,if_neg (by decide)];exact step []
   rw [← hf] at s0;exact s0
  unfold cH;rw [qz (by omega) hA (by rw [l1]; decide),bS,ek rfl,bF,iQ (by omega) vQ,bS,ek rfl,bF,c1,bS]
 have wz:Wn iF:=by unfold Wn iF; decide
 have at0:pY l iF→(ia k (fun x=>dc k x.1 Q iF) x).2=true∧(ia k (fun x=>dc k x.1 Q iF) x).1=0:=by
  intro z;obtain ⟨P',d,q1,q2,D',H⟩:=sd (k:=k) (by omega) vQ wz x x2;rw [x3] at q1;cases q1;have nn:=hZ.1 z;have f0:=Ay (b:=iF) (D'.zero nn.1 nn.2);rcases H with ⟨X,W,h2,hW,X0,X1,hf,hmin,⟨t0,t1,t2,t3⟩,_⟩ | ⟨_,h⟩
  ·have:=hmin 0 1 (by decide) (by decide) (by decide) f0
   have X00:X=0:=by omega
   rw [X00] at t2;refine ⟨h2,?_⟩
   by_cases g:(ia k (fun x=>dc k x.1 Q iF) x).1=0
   ·exact g
   ·have:=Int.mul_pos (show 0<(ia k (fun x=>dc k x.1 Q iF) x).1 by omega) hW
    omega
  ·exact absurd f0 (h 0 1 (by decide) (by decide) (by decide))
 have hit:(ia k (fun x=>dc k x.1 Q iF) x).2=true→pY l iF:=by
  intro z;obtain ⟨P',d,q1,q2,D',H⟩:=sd (k:=k) (by omega) vQ wz x x2;rw [x3] at q1;cases q1;rcases H with ⟨X,W,_,hW,_,_,hf,_⟩ | ⟨hh,_⟩
  ·have g:=FK hW hf
   obtain ⟨X',Y',w,hw,h1,h2⟩:=common vP.2.2.2 vQ.2.2.2 D' g;exact hZ.2 ⟨nE vQ.2.2.2 vQ.1 hw h1 h2,nE vP.2.2.2 vP.1 hw h2 h1⟩
  ·rw [hh] at z
   cases z
 have lE:∀ b:Bool,Ty.lE T4 b b=true:=fun b=>by cases b <;> rfl
 have eS:=Cu (k:=k) (by omega) hA (by rw [l1]; decide) vQ wz;have hzed:(iF:aB)=(0,0,()):=rfl;rw [hzed] at eS at0 hit;unfold aD;rw [x1,bS,y1,bS,x3,bS,y3,bS];obtain ⟨X,u,eX,_,_⟩:=EZ (k:=k) (by omega) vP vQ bP bQ
 by_cases z:pY l iF
 ·have hm:m=true:=hM.2 z
  subst hm;have nn:=hZ.1 z;rcases ta (k:=k) (by omega) vP vQ with ⟨g,_⟩ | ⟨_,s,e,d,u',T,pb,_⟩
  ·exact absurd nn g
  rcases nH (k:=k) (by omega) vP vQ with ⟨g,_⟩ | ⟨_,s',e',d',Lq,_⟩
  ·exact absurd nn g
  have d0:0≤d:=by
   have da:=(jL (by have:=vQ.1; omega)).1 nn.1;have db:=(jL (by have:=vP.1; omega)).1 nn.2;rcases pb with ⟨_,a0,a1,ed,_⟩ | ⟨_,a0,a1,ed,_⟩
   ·rw [ed]; exact EC vP a0 a1 (da e a0 a1)
   ·rw [ed]; exact EC vQ a0 a1 (db e a0 a1)
  have oc:af.c1 k ((s',e',d',()),true,0)=some false:=by
   unfold af.c1;dsimp only;rw [ek rfl,bF];rfl
  have lX:=Di Lq oc eX;have nz:n=0:=Cl z n0 A;obtain ⟨hh1,hh2⟩:=at0 z;have sh:eJ k [x] Q (0,0,())=some (0,0,0):=by
   rcases eS with ⟨i,i0,i1,hF,e⟩ | ⟨hn,_⟩
   ·have i1:i<1:=i1
    obtain rfl:i=0:=by omega
    rw [e,e0,hh2]
   ·have:=hn 0 (by decide) (by rw [l1]; decide)
    rw [e0,hh1] at this;cases this
  have c1:aD.c1 k P Q (true,d,u') (true,0) (n,0) ([0],0) (0,0,0)=some false:=by
   unfold aD.c1;dsimp only;rw [h7,bS,bT,ek rfl,bF,bF,bF,lE,bT];have la:gX (len [(0:Int)]) 1=true:=rfl;have lb:gX (0:Int) 0=true:=rfl;rw [la,lb,lE,bT,bT,eX,bS,iR lX,lE];rfl
  rw [T,bS,fM,bS,fA,bS,vm,if_pos rfl,bS,sh,bS,c1,bS,bF];dsimp only;rw [bT,fw nz,bT,iV d0,bT,fw rfl,bT]
 ·have hm:m=false:=by
   cases m with
   | true=>exact absurd (hM.1 rfl) z
   | false=>rfl
  subst hm;have nn:¬ (jV P Q∧jV Q P):=fun g=>z (hZ.2 g);rcases ta (k:=k) (by omega) vP vQ with ⟨_,T⟩ | ⟨g,_⟩
  ·rcases nH (k:=k) (by omega) vP vQ with ⟨_,Lq⟩ | ⟨g,_⟩
   ·have oc:af k P Q=some []:=by
     have h2:af.c1 k ((false,0,0,()),false,0)=some true:=by
      unfold af.c1;dsimp only;rw [ek rfl,bF];rfl
     unfold af;rw [Lq,bS,h2,bS,bT]
    have sh:eJ k [x] Q (0,0,())=some (0,0,4):=by
     rcases eS with ⟨i,i0,i1,hF,_⟩ | ⟨_,e⟩
     ·have i1:i<1:=i1
      obtain rfl:i=0:=by omega
      have g:=hF.1;rw [e0] at g;exact absurd (hit g) z
     ·exact e
    have c1:aD.c1 k P Q (false,0,(0,0,())) (false,0) (n,0) ([],0) (0,0,4)=some false:=by
     unfold aD.c1;dsimp only;rw [h7,bS,bT,ek rfl,bF,bF,bF,lE,bT];have la:gX (len ([]:List Int)) 1=false:=rfl;have lb:gX (4:Int) 0=false:=rfl;rw [la,lb,lE,bT,bT,oc,bS];rfl
    rw [T,bS,fM,bS,fA,bS,vm,if_neg (by decide),bS,sh,bS,c1,bS,bF];dsimp only;rw [bF,iV n0,bT,fw rfl]
   ·exact absurd g nn
  ·exact absurd g nn
theorem lH:∀ x:(Ty.pair gV (.pair gV .unit)).den,Ty.wf (.pair gV (.pair gV .unit)) x→∃ k,(aD.sp k).f x=some true:=by
 intro x _;obtain ⟨K,hK⟩:∃ K,K=10000:=⟨10000,rfl⟩;exact ⟨K,rz hK x.1 x.2.1⟩
end Go.Proofs.T1
