import Derived.Test.YtipddonkkhjegaaGreatPlSat0
import Derived.Test.YtipddonkkhjegaaGreatPlBig
namespace Go.Proofs.T1
open Go Go.Sx
theorem sf (a b:ay):Ty.kY bE a b=decide (a=b):=by
 obtain ⟨a1,a2,u⟩:=a;obtain ⟨b1,b2,u'⟩:=b;show (gB a1 b1 && (gB a2 b2 && true))=_
 by_cases h1:a1=b1
 ·by_cases h2:a2=b2
  ·rw [fw h1,fw h2]; subst h1 h2; exact (decide_eq_true rfl).symm
  ·rw [fw h1,fl h2]; exact (decide_eq_false (fun h=>h2 (congrArg (fun v=>v.2.1) h))).symm
 ·rw [fl h1]; exact (decide_eq_false (fun h=>h1 (congrArg Prod.fst h))).symm
theorem wC (a:ay):Ty.kY bE a a=true:=by rw [sf]; exact decide_eq_true rfl
end Go.Proofs.T1
namespace Go.Proofs.T1
open Go Go.Sx
instance (x y:Int):Decidable (rh x y):=by unfold rh; infer_instance
instance (a b p:ay):Decidable (GY a b p):=by unfold GY; infer_instance
instance (a b p:ay):Decidable (On a b p):=by unfold On; infer_instance
instance (a b c d:ay):Decidable (tX a b c d):=by unfold tX; infer_instance
theorem yl (x y:Int):eK (a7 .i64 (iz x 0) (iz y 0)) 0=decide (rh x y):=by
 rcases Int.lt_trichotomy x 0 with a | a | a <;> rcases Int.lt_trichotomy y 0 with b | b | b <;>
  first
  | (rw [gO a,gO b,decide_eq_false (by unfold rh; omega)]; decide)
  | (rw [gO a,ia b,decide_eq_false (by unfold rh; omega)]; decide)
  | (rw [gO a,gN b,decide_eq_true (by unfold rh; omega)]; decide)
  | (rw [ia a,gO b,decide_eq_false (by unfold rh; omega)]; decide)
  | (rw [ia a,ia b,decide_eq_false (by unfold rh; omega)]; decide)
  | (rw [ia a,gN b,decide_eq_false (by unfold rh; omega)]; decide)
  | (rw [gN a,gO b,decide_eq_true (by unfold rh; omega)]; decide)
  | (rw [gN a,ia b,decide_eq_false (by unfold rh; omega)]; decide)
  | (rw [gN a,gN b,decide_eq_false (by unfold rh; omega)]; decide)
theorem se (x:Int):iz x 0=0↔x=0:=by
 rcases Int.lt_trichotomy x 0 with a | a | a
 ·rw [gO a]; omega
 ·rw [ia a]; omega
 ·rw [gN a]; omega
theorem DR (x:Int):hG (iz x 0) 0=decide (0≤x):=by
 rcases Int.lt_trichotomy x 0 with a | a | a
 ·rw [gO a,decide_eq_false (by omega)]; rfl
 ·rw [ia a,decide_eq_true (by omega)]; rfl
 ·rw [gN a,decide_eq_true (by omega)]; rfl
theorem mh (k:Nat) (a b p:ay):eo k a b p (iz (cV a b p) 0)=some (decide (On a b p)):=by
 unfold eo
 by_cases z:cV a b p=0
 ·rw [fw ((se _).2 z),bT]
  by_cases c1:gd a.1 b.1≤p.1
  ·rw [iJ c1,bT]
   by_cases c2:p.1≤imax a.1 b.1
   ·rw [iJ c2,bT]
    by_cases c3:gd a.2.1 b.2.1≤p.2.1
    ·rw [iJ c3,bT]
     unfold jb;congr 1;rw [decide_eq_decide];exact ⟨fun h=>⟨z,c1,c2,c3,h⟩,fun h=>h.2.2.2.2⟩
    ·rw [iI (by omega),bF,decide_eq_false (fun h=>c3 h.2.2.2.1)]
   ·rw [iI (by omega),bF,decide_eq_false (fun h=>c2 h.2.2.1)]
  ·rw [iI (by omega),bF,decide_eq_false (fun h=>c1 h.2.1)]
 ·rw [fl (fun h=>z ((se _).1 h)),bF,decide_eq_false (fun h=>z h.1)]
theorem CZ {k:Nat} (hk:9≤k) {a b c d:ay} (ha:Wn a) (hb:Wn b) (hc:Wn c) (hd:Wn d):cD k a b c d=some (decide (tX a b c d)):=by
 unfold cD;rw [j7 hk ha hb hc,bS,j7 hk ha hb hd,bS,j7 hk hc hd ha,bS,j7 hk hc hd hb,bS];have c1:cD.c1 k (iz (cV a b c) 0) (iz (cV a b d) 0) (iz (cV c d a) 0) (iz (cV c d b) 0)=some (decide (rh (cV a b c) (cV a b d)∧rh (cV c d a) (cV c d b))):=by
  unfold cD.c1;rw [yl,yl]
  by_cases h:rh (cV a b c) (cV a b d)
  ·rw [decide_eq_true h,bT]
   congr 1;rw [decide_eq_decide];exact ⟨fun g=>⟨h,g⟩,fun g=>g.2⟩
  ·rw [decide_eq_false h,bF,decide_eq_false (fun g=>h g.1)]
 rw [c1,bS,mh,bS,mh,bS,mh,bS,mh,bS]
 by_cases h1:rh (cV a b c) (cV a b d)∧rh (cV c d a) (cV c d b)
 ·rw [decide_eq_true h1,bT,decide_eq_true (show tX a b c d from (Or.inl h1))]
 rw [decide_eq_false h1,bF]
 by_cases h2:On a b c
 ·rw [decide_eq_true h2,bT,decide_eq_true (show tX a b c d from (Or.inr (Or.inl h2)))]
 rw [decide_eq_false h2,bF]
 by_cases h3:On a b d
 ·rw [decide_eq_true h3,bT,decide_eq_true (show tX a b c d from (Or.inr (Or.inr (Or.inl h3))))]
 rw [decide_eq_false h3,bF]
 by_cases h4:On c d a
 ·rw [decide_eq_true h4,bT,decide_eq_true (show tX a b c d from (Or.inr (Or.inr (Or.inr (Or.inl h4)))))]
 rw [decide_eq_false h4,bF];congr 1;rw [decide_eq_decide]
 exact ⟨fun h=>Or.inr (Or.inr (Or.inr (Or.inr h))),fun h=>by
  rcases h with h | h | h | h | h
  ·exact absurd h h1
  ·exact absurd h h2
  ·exact absurd h h3
  ·exact absurd h h4
  ·exact h⟩
open Classical in
theorem ug {k:Nat} (hk:9≤k) {l:List ay} (hv:ju l) {p:ay} (hp:Wn p):aY k l p=some (decide (lj l p)):=by
 rw [qK hk hv];congr 1;rw [decide_eq_decide];exact ⟨fun h=>AX hv.2.2.2 h.2,fun h=>⟨hp,sM hv.1 h⟩⟩
open Classical in
theorem yV {k:Nat} (hk:9≤k) {a b:List ay} (ha:ju a) (hb:ju b):aZ k a b=some (decide (EC a b)):=by
 have a0:0<len a:=by have:=ha.1; omega
 have b0:0<len b:=by have:=hb.1; omega
 have a8:=ha.2.1;have b8:=hb.2.1;have c1:aZ.c1 k a b=some (decide (lj a (q b 0)∨lj b (q a 0))):=by
  unfold aZ.c1;rw [rP (bu (by decide) b0),rP (bu (by decide) a0)];have e1:aY k a (el cH b 0)=some (decide (lj a (q b 0))):=ug hk ha (hb.2.2.1 0 (by decide) b0);have e2:aY k b (el cH a 0)=some (decide (lj b (q a 0))):=ug hk hb (ha.2.2.1 0 (by decide) a0);rw [e1,bS,e2,bS]
  by_cases h:lj a (q b 0)
  ·rw [decide_eq_true h,bT,decide_eq_true (Or.inl h)]
  ·rw [decide_eq_false h,bF]
   congr 1;rw [decide_eq_decide];exact ⟨fun g=>Or.inr g,fun g=>g.resolve_left h⟩
 have c3:∀ i,0≤i→i<len a→(aZ.c3 k a b i k 0=some (.inl ())∧∃ j,(0≤j∧j<len b)∧tX (q a i) (q a (nx (len a) i)) (q b j) (q b (nx (len b) j))) ∨
   (aZ.c3 k a b i k 0=some (.inr ())∧∀ j,0≤j→j<len b→¬ tX (q a i) (q a (nx (len a) i)) (q b j) (q b (nx (len b) j))):=by
  intro i i0 i1;have hn:=dK i0 i1;have one:∀ n v,0≤v→v<len b→aZ.c3 k a b i (n+1) v=aM (decide (tX (q a i) (q a (nx (len a) i)) (q b v) (q b (nx (len b) v)))) (some (.inl ())) (aZ.c3 k a b i n (v+1)):=by
   intro n v v0 v1;have hm:=dK v0 v1;rw [aZ.c3,bA v1,bT,rP (bu v0 v1),rP (show nz (len a) by unfold nz; omega),gK i0 i1 (by omega),rP (bu hn.1 hn.2),rP (show nz (len b) by unfold nz; omega),gK v0 v1 (by omega),rP (bu hm.1 hm.2)];have e:cD k (el cH a i) (el cH a (nx (len a) i)) (el cH b v) (el cH b (nx (len b) v))=some (decide (tX (q a i) (q a (nx (len a) i)) (q b v) (q b (nx (len b) v)))) :=
    CZ hk (ha.2.2.1 i i0 i1) (ha.2.2.1 _ hn.1 hn.2) (hb.2.2.1 v v0 v1) (hb.2.2.1 _ hm.1 hm.2)
   rw [e,bS,aX (by omega) (by omega)]
  have H:=fM (fun n v=>aZ.c3 k a b i n v) 0 (len b) (fun j=>tX (q a i) (q a (nx (len a) i)) (q b j) (q b (nx (len b) j))) (fun _=>())
   (fun n v v0 v1 h=>by show aZ.c3 k a b i (n+1) v=_; rw [one n v v0 v1,decide_eq_true h,bT])
   (fun n v v0 v1 h=>by show aZ.c3 k a b i (n+1) v=aZ.c3 k a b i n (v+1); rw [one n v v0 v1,decide_eq_false h,bF])
   (fun n v v0 v1=>by show aZ.c3 k a b i (n+1) v=_; rw [aZ.c3,bZ v1,bF])
   k 0 (by omega) (by omega)
  rcases H with ⟨j,j0,j1,h,_,e⟩ | ⟨h,e⟩
  ·exact Or.inl ⟨e,j,⟨j0,j1⟩,h⟩
  ·exact Or.inr ⟨e (by omega),h⟩
 have H:=fM (fun n v=>aZ.c2 k a b n v) 0 (len a) (fun i=>∃ j,(0≤j∧j<len b)∧tX (q a i) (q a (nx (len a) i)) (q b j) (q b (nx (len b) j))) (fun _=>())
  (by
   intro n v v0 v1 ⟨j,hj,h⟩;show aZ.c2 k a b (n+1) v=_;rw [aZ.c2,bA v1,bT,rP (bu v0 v1)];rcases c3 v v0 v1 with ⟨e,_⟩ | ⟨_,g⟩
   ·rw [e,bS,eE]
   ·exact absurd h (g j hj.1 hj.2))
  (by
   intro n v v0 v1 h;show aZ.c2 k a b (n+1) v=aZ.c2 k a b n (v+1);rw [aZ.c2,bA v1,bT,rP (bu v0 v1)];rcases c3 v v0 v1 with ⟨_,g⟩ | ⟨e,_⟩
   ·exact absurd g h
   ·rw [e,bS,eW,aX (by omega) (by omega)])
  (by
   intro n v v0 v1;show aZ.c2 k a b (n+1) v=_
   rw [aZ.c2,bZ v1,bF])
  k 0 (by omega) (by omega)
 unfold aZ;rw [c1,bS]
 by_cases h:lj a (q b 0)∨lj b (q a 0)
 ·rw [decide_eq_true h,bT,decide_eq_true]
  rcases h with h | h
  ·exact Or.inl h
  ·exact Or.inr (Or.inl h)
 ·rw [decide_eq_false h,bF]
  rcases H with ⟨i,i0,i1,⟨j,hj,g⟩,_,e⟩ | ⟨g,e⟩
  ·have e:aZ.c2 k a b k 0=some (.inl ()):=e
   rw [e,bS,eE,decide_eq_true];exact Or.inr (Or.inr ⟨i,j,⟨i0,i1⟩,hj,g⟩)
  ·have e:aZ.c2 k a b k 0=some (.inr ()):=e (by omega)
   rw [e,bS,eW,decide_eq_false];intro x;rcases x with x | x | ⟨i,j,hi,hj,x⟩
   ·exact h (Or.inl x)
   ·exact h (Or.inr x)
   ·exact g i hi.1 hi.2 ⟨j,hj,x⟩
theorem sV (k:Nat) {l:List ay} (hl:len l≤8) (hw:kh l) {i:Int} (i0:0≤i) (i1:i<len l):gC k l i=some (eM l i):=by
 have hn:=dK i0 i1;have h1:=hw i i0 i1;have h2:=hw _ hn.1 hn.2;unfold Wn at h1 h2;unfold gC dJ;rw [rP (show nz (len l) by unfold nz; omega),gK i0 i1 (by omega),rP (bu hn.1 hn.2),rP (bu i0 i1)];show bB (some (bY .i64 (q l (nx (len l) i)).1 (q l i).1,bY .i64 (q l (nx (len l) i)).2.1 (q l i).2.1,())) _=_;rw [cR (by omega) (by omega),cR (by omega) (by omega),bS];unfold eM;congr 1;refine oL rfl ?_
 dsimp only;unfold fk;rw [wrap_i64 (by omega) (by omega)];omega
theorem om {k:Nat} (hk:200≤k) {l:List ay} (h:ju l) {i:Int} (i0:0≤i) (i1:i<len l) {p:ay} (hp:Wn p) :
  fg k l i p=some (iF (cV (q l i) (q l (nx (len l) i)) p) (oE l i),decide (0≤cV (q l i) (q l (nx (len l) i)) p)):=by
 have hn:=dK i0 i1;have ob:=jF h.2.2.1 i0 i1;have s:=zb h i0 i1;have h1:=h.2.2.1 i i0 i1;have ht:=lR h1 (h.2.2.1 _ hn.1 hn.2) hp;obtain ⟨_,l0,l1,hr⟩:=jH (k:=k) (by omega) h i0 i1;have hr':=rt_eq hr;unfold Wn at h1 hp;unfold fg;rw [sV k h.2.1 h.2.2.1 i0 i1,bS,rP (bu i0 i1)];have e1:dJ k (el cH l i) p=some ((q l i).1 - p.1,(q l i).2.1 - p.2.1,()):=by
  unfold dJ;show some (bY .i64 (q l i).1 p.1,bY .i64 (q l i).2.1 p.2.1,())=_;rw [cR (by omega) (by omega),cR (by omega) (by omega)]
 obtain ⟨c,e2,hc⟩:=wY (k:=k) (by omega) (a:=eM l i) (b:=((q l i).1 - p.1,(q l i).2.1 - p.2.1,())) (by unfold jd; omega) (by unfold jd; omega) (by unfold jd; dsimp only; omega) (by unfold jd; dsimp only; omega);have ed:(eM l i).1*((q l i).1 - p.1)+(eM l i).2.1*((q l i).2.1 - p.2.1)=cV (q l i) (q l (nx (len l) i)) p:=by unfold eM cV; dsimp only; grind
 dsimp only at hc;rw [ed] at hc;obtain ⟨r,e3,g⟩:=BW (k:=k) (by omega) (n:=(eM l i).1*(eM l i).1+(eM l i).2.1*(eM l i).2.1) (by omega) (by omega);have:r=oE l i:=(rt_eq g).symm;subst this;have rb:=xR (d:=cV (q l i) (q l (nx (len l) i)) p) l0 (c:=34359738368000000) (by decide) ht.1 ht.2;rw [e1,bS,e2,bS,eB (by omega) (by omega),eB (by omega) (by omega),aX (by omega) (by omega),e3,bS,oz hk hc (by omega) (by omega) l0 (by omega),bS,wz (by omega) hc pQ (by unfold SR; omega) (by unfold SR; omega),bS,DR,mL (by omega)]
theorem nG {x y n:Int} (hn:0<n) (h:x≤y):iF x n≤iF y n:=Int.ediv_le_ediv (by omega) (by omega)
theorem wU {x n:Int} (hn:0<n) (h:0≤x):0≤iF x n:=Int.ediv_nonneg (by omega) (by omega)
theorem zo {k:Nat} (hk:200≤k) {l m:List ay} (vl:ju l) (vm:ju m) {i:Int} (i0:0≤i) (i1:i<len l) (h:0≤dp l m i):aD.c4 k (l,m) i k 0 0=some (wt l m i):=by
 have m0:0<len m:=by have:=vm.1; omega
 have m8:=vm.2.1;obtain ⟨_,l0,l1,_⟩:=jH (k:=k) (by omega) vl i0 i1;have H:=gS (fun n s v=>aD.c4 k (l,m) i n s v) 0 (len m) (fun s v=>0≤s∧(∀ j,0≤j→j<v→iF (cV (q l i) (q l (nx (len l) i)) (q m j)) (oE l i)≤s)∧(s=0∨∃ j,0≤j∧j<v∧s=iF (cV (q l i) (q l (nx (len l) i)) (q m j)) (oE l i)))
  (by
   intro n s v v0 v1 ⟨h1,h2,h3⟩;show ∃ s',_∧aD.c4 k (l,m) i (n+1) s v=aD.c4 k (l,m) i n s' (v+1);rw [aD.c4];dsimp only;have e:fg k l i (el cH m v)=some (iF (cV (q l i) (q l (nx (len l) i)) (q m v)) (oE l i),decide (0≤cV (q l i) (q l (nx (len l) i)) (q m v))):=om hk vl i0 i1 (vm.2.2.1 v v0 v1);rw [bA v1,bT,rP (bu v0 v1),e,bS,aX (by omega) (by omega)];refine ⟨_,⟨?_,fun j j0 j1=>?_,?_⟩,rfl⟩
   ·unfold imax; split <;> omega
   ·by_cases c:j=v
    ·subst c; unfold imax; split <;> omega
    ·have:=h2 j j0 (by omega); unfold imax; split <;> omega
   ·unfold imax
    split
    ·exact Or.inr ⟨v,v0,by omega,rfl⟩
    ·rcases h3 with h3 | ⟨j,a,b,c⟩
     ·exact Or.inl h3
     ·exact Or.inr ⟨j,a,by omega,c⟩)
  (by
   intro n s v v0 v1;show aD.c4 k (l,m) i (n+1) s v=some s;rw [aD.c4];dsimp only
   rw [bZ v1,bF])
  k 0 0 (by omega) (by omega) (by omega) ⟨by decide,fun j a b=>by omega,Or.inl rfl⟩
 obtain ⟨s,⟨h1,h2,h3⟩,e⟩:=H;have e:aD.c4 k (l,m) i k 0 0=some s:=e;rw [e];congr 1;unfold wt;obtain ⟨j,j0,j1,g⟩:=CY (a:=l) (b:=m) i m0;have a:=h2 j j0 j1;rw [← g] at a;have nn:=wU l0 h;rcases h3 with h3 | ⟨j',b0,b1,h3⟩
 ·omega
 ·have:=nG l0 (EB (a:=l) (b:=m) i b0 b1)
  omega
theorem rN {k:Nat} (hk:200≤k) {l m:List ay} {v1:Int} {s:Bool} (hs:gB v1 1=s) (vl:ju l) (vm:ju m) (hd:∀ i,0≤i→i<len l→0≤dp l m i) (Q:Int→Bool→Int→Int→Prop)
  (q1:∀ i y z w,0≤i→i<len l→Q i y z w→(w<0∨wt l m i<w)→Q (i+1) s i (wt l m i))
  (q2:∀ i y z w,0≤i→i<len l→Q i y z w→¬ w<0→¬ wt l m i<w→Q (i+1) y z w) :
  ∀ (d f:Nat) (i:Int) (y:Bool) (z w:Int),i=len l - d→0≤i→d<f→Q i y z w→∃ y' z' w',aD.c3 k (l,m) v1 f i y z w=some (y',z',w')∧Q (len l) y' z' w':=by
 have l8:=vl.2.1;intro d
 induction d with
 | zero =>
  intro f i y z w hi i0 hf hq;obtain ⟨f,rfl⟩:∃ j,f=j+1:=⟨f - 1,by omega⟩;have e:i=len l:=by omega
  refine ⟨y,z,w,?_,by rw [← e]; exact hq⟩;rw [aD.c3];dsimp only;rw [bZ (by omega),bF]
 | succ d ih =>
  intro f i y z w hi i0 hf hq;obtain ⟨f,rfl⟩:∃ j,f=j+1:=⟨f - 1,by omega⟩;have i1:i<len l:=by omega
  rw [aD.c3];dsimp only;rw [bA i1,bT,zo hk vl vm i0 i1 (hd i i0 i1),bS,aX (by omega) (by omega),hs];unfold aD.c5
  by_cases c:w<0
  ·rw [bA c,bT,bS,bT]
   exact ih f (i+1) _ _ _ (by omega) (by omega) (by omega) (q1 i y z w i0 i1 hq (Or.inl c))
  ·rw [bZ (by omega),bF,bS]
   by_cases g:wt l m i<w
   ·rw [bA g,bT]
    exact ih f (i+1) _ _ _ (by omega) (by omega) (by omega) (q1 i y z w i0 i1 hq (Or.inr g))
   ·rw [bZ (by omega),bF]
    exact ih f (i+1) _ _ _ (by omega) (by omega) (by omega) (q2 i y z w i0 i1 hq c g)
theorem Et {a b:List ay} (ha:ju a) {i:Int} (i0:0≤i) (i1:i<len a) (h:0≤dp a b i):0≤wt a b i:=by
 obtain ⟨_,l0,_,_⟩:=jH (k:=40) (by decide) ha i0 i1;exact wU l0 h
theorem zT {k:Nat} (hk:200≤k) {a b:List ay} (ha:ju a) (hb:ju b) (n1:iQ a b) (n2:iQ b a):∃ s e d,aD k a b=some (s,e,d,())∧PB a b (len a) (len b) s e d:=by
 have a0:0<len a:=by have:=ha.1; omega
 have b0:0<len b:=by have:=hb.1; omega
 have a8:=ha.2.1;have b8:=hb.2.1;have da:=(kA b0).1 n1;have db:=(kA a0).1 n2;obtain ⟨k',rfl⟩:∃ j,k=j+3:=⟨k - 3,by omega⟩;obtain ⟨y,z,w,e,hq⟩:=rN hk (l:=a) (m:=b) (v1:=0) (s:=false) rfl ha hb da (fun i y z w=>(i=0∧w=-1)∨(0≤w∧PB a b i 0 y z w))
  (by
   intro i y z w i0 i1 h g;have nn:=Et ha i0 i1 (da i i0 i1);rcases h with ⟨h1,h2⟩ | ⟨h1,h2⟩
   ·subst h1
    exact Or.inr ⟨nn,uW a b⟩
   ·exact Or.inr ⟨nn,EF i0 h2 (by omega)⟩)
  (by
   intro i y z w i0 i1 h c g;rcases h with ⟨h1,h2⟩ | ⟨h1,h2⟩
   ·omega
   ·exact Or.inr ⟨h1,Ew h2 g⟩)
  a.length (k'+3) 0 false 0 (-1) (by unfold len; omega) (by decide) (by unfold len at a8; omega) (Or.inl ⟨rfl,rfl⟩)
 have hp:0≤w∧PB a b (len a) 0 y z w:=by
  rcases hq with ⟨g,_⟩ | g
  ·omega
  ·exact g
 obtain ⟨y',z',w',e',hq'⟩:=rN hk (l:=b) (m:=a) (v1:=1) (s:=true) rfl hb ha db (fun i y z w=>0≤w∧PB a b (len a) i y z w)
  (by
   intro i y z w i0 i1 h g
   exact ⟨Et hb i0 i1 (db i i0 i1),EN i0 h.2 (by omega)⟩)
  (by
   intro i y z w i0 i1 h c g
   exact ⟨h.1,E4 h.2 g⟩)
  b.length (k'+3) 0 y z w (by unfold len; omega) (by decide) (by unfold len at b8; omega) hp
 refine ⟨y',z',w',?_,hq'.2⟩;unfold aD;have s0:aD.c1 (k'+3) a b (k'+3) 0 false 0 (-1)=bB (aD.c3 (k'+3) (a,b) 0 (k'+3) 0 false 0 (-1)) fun o26=>aD.c1 (k'+3) a b (k'+2) 1 o26.1 o26.2.1 o26.2.2:=by
  rw [aD.c1,bA (by decide),bT];rfl
 have s1:aD.c1 (k'+3) a b (k'+2) 1 y z w=bB (aD.c3 (k'+3) (b,a) 1 (k'+3) 0 y z w) fun o26=>aD.c1 (k'+3) a b (k'+1) 2 o26.1 o26.2.1 o26.2.2:=by
  rw [aD.c1,bA (by decide),bT];rfl
 rw [s0,e,bS];dsimp only;rw [s1,e',bS];dsimp only;rw [aD.c1,bZ (by decide),bF,bS]
end Go.Proofs.T1
