import Derived.Test.YtipddonkkhjegaaGreatPlFind
namespace Go.Proofs.T1
open Go Go.Sx
def ES:fQ:=((0,0,()),(0,0,()),0,0,0,0,0,0,[(-65536,-65536,()),(65536,-65536,()),(65536,65536,()),(-65536,65536,())],false,0,())
def EH:fQ:=((0,131072,()),(0,0,()),0,0,65536,65536,0,0,[(-65536,-65536,()),(65536,-65536,()),(65536,65536,()),(-65536,65536,())],false,0,())
def G1:iH:=((-65536,-65536,()),(65536,65536,()),())
def G2:iH:=((-65536,65536,()),(65536,196608,()),())
theorem Hv:bG 10000 [ES,EH]=some 0:=by kernel_rfl
theorem Hw:bR.c1 10000 [ES,EH] 10000 0 []=some [G1,G2]:=by kernel_rfl
theorem HG:ag 10000 (fun x:((List Int) × Unit)=>dx 10000 (x.1) [ES,EH]) [[0,1]]=some [[0,1]]:=by kernel_rfl
theorem Hz:bR 10000 [ES,EH]=some ([[0,1]],0):=by
 obtain ⟨K,hK⟩:∃ K,K=10000:=⟨10000,rfl⟩;obtain ⟨r,e,hr,_⟩:=uv (k:=K) [G1,G2] (by simp; omega) (by simp);have hm:w9 G1 G2:=by decide
 have h2:pT [G1,G2] [[0,1]]:=by
  refine ⟨by simp,fun p=>?_⟩;rw [List.mem_singleton];constructor
  ·intro h
   exact ⟨0,1,by decide,by decide,by decide,hm,h⟩
  ·rintro ⟨a,b,h0,h1,h2,_,h⟩
   have h2:b<2:=h2;obtain rfl:a=0:=by omega
   obtain rfl:b=1:=by omega
   exact h
 rw [wW hr h2,hK] at e;unfold bR;rw [Hv,bS,dR rfl,bF,Hw,bS,e,bS,HG,bS]
end Go.Proofs.T1
namespace Go.Proofs.T1
open Go Go.Sx
def wk (k:Nat) (l:List fQ) (i:Int):List ay:=(bD k (el kG l i)).getD []
def AP (l:List fQ) (i:Int):Int:=(el kG l i).2.2.2.2.1
theorem qC {k:Nat} (hk:10≤k) {l:List fQ} (hA:wO k l) {i:Int} (i0:0≤i) (i1:i<len l) :
  bD k (el kG l i)=some (wk k l i)∧cg k (el kG l i)=some (wk k l i)∧ju (wk k l i)∧(0≤AP l i∧AP l i≤1099511627776):=by
 have hc:aj k (el kG l i)=some 0:=hA i i0 i1;unfold wk AP;revert hc;generalize el kG l i=b;intro hc;obtain ⟨p,v,ang,spin,mass,inertia,bounce,rub,c,asleep,calm,_⟩:=b;obtain ⟨l',e1,e2,hv⟩:=xA hk hc;obtain ⟨_,_,_,h,_⟩:=oV (by omega) hc;rw [e1];exact ⟨rfl,e2,hv,h.1⟩
theorem xy {k:Nat} (hk:100≤k) {l:List fQ} (hA:wO k l) {i:Int} (i0:0≤i) (i1:i<len l) :
  bP k (el kG l i)=some (k7 (wk k l i))∧cA k (wk k l i)=some (k7 (wk k l i)):=by
 obtain ⟨e1,_,⟨v3,v8,_,_⟩,_⟩:=qC (k:=k) (by omega) hA i0 i1;have lp:len (wk k l i)=((wk k l i).length:Int):=rfl;exact ⟨wA (by omega) e1 (by omega) (by omega),xT (by omega) (by omega) (by omega)⟩
def nb (k:Nat) (l:List fQ) (i j:Int):Prop:=w9 (k7 (wk k l i)) (k7 (wk k l j))∧¬ (AP l i=0∧AP l j=0)
instance (k:Nat) (l:List fQ) (i j:Int):Decidable (nb k l i j):=by unfold nb; infer_instance
def Bm (k:Nat) (l:List fQ) (ps:List (List Int)):Prop:=ps.Pairwise (fun p s=>q9 p s=true)∧∀ p,p∈ps↔∃ a b:Int,0≤a∧a<b∧b<len l∧nb k l a b∧p=[a,b]
theorem xo {k:Nat} (hk:10000≤k) {l:List fQ} (hA:wO k l) (hl:len l≤64) (hc:bG k l=some 0):∃ ps,bR k l=some (ps,0)∧Bm k l ps∧ps.length≤l.length*l.length:=by
 have ll:len l=(l.length:Int):=rfl;obtain ⟨bs,⟨hbs,hbx⟩,e1⟩:=gS (fun n (z:List iH) i=>bR.c1 k l n i z) 0 (len l) (fun z i=>len z=i∧∀ j,0≤j→j<i→el rp z j=k7 (wk k l j))
  (by
   intro n z i i0 i1 ⟨hz,hb⟩;have hx:=(xy (k:=k) (by omega) hA i0 i1).1;have lz:len z=(z.length:Int):=rfl;refine ⟨z++[k7 (wk k l i)],⟨by rw [Dv,hz],fun j j0 j1=>?_⟩,?_⟩
   ·by_cases c:j<i
    ·rw [Ao rp z _ j0 (by omega)]
     exact hb j j0 c
    ·have:j=len z:=by omega
     rw [this,Aw rp z _ rfl,hz]
   ·show bR.c1 k l (n+1) i z=_
    rw [bR.c1,bA i1,bT,rP (bu i0 i1),hx,bS,rP (show room 32 z [k7 (wk k l i)] by unfold room roomFor; simp only [List.length_singleton]; omega),aX (by omega) (by omega)])
  (by
   intro n z i i0 i1;show bR.c1 k l (n+1) i z=some z
   rw [bR.c1,bZ i1,bF])
  k [] 0 (by omega) (by omega) (by omega) ⟨rfl,fun j a b=>by omega⟩
 have e1:bR.c1 k l k 0 []=some bs:=e1;have lb:len bs=(bs.length:Int):=rfl;obtain ⟨r,e2,hr,lr⟩:=uv (k:=k) bs (by omega) (by omega);have hbl:bs.length=l.length:=by omega
 have sq:=Nat.mul_le_mul (show l.length≤64 by omega) (show l.length≤64 by omega);rw [hbl] at lr;have hin:∀ p,p∈r↔∃ a b:Int,0≤a∧a<b∧b<len l∧w9 (k7 (wk k l a)) (k7 (wk k l b))∧p=[a,b]:=by
  intro p;rw [hr.2 p];constructor
  ·rintro ⟨a,b,h0,h1,h2,h3,h4⟩
   refine ⟨a,b,h0,h1,by omega,?_,h4⟩;have g1:=hbx a h0 (by omega);have g2:=hbx b (by omega) (by omega);unfold pF at h3;rw [g1,g2] at h3;exact h3
  ·rintro ⟨a,b,h0,h1,h2,h3,h4⟩
   refine ⟨a,b,h0,h1,by omega,?_,h4⟩;have g1:=hbx a h0 (by omega);have g2:=hbx b (by omega) (by omega);unfold pF;rw [g1,g2];exact h3
 let g:List Int→Bool:=fun x=>decide (AP l (x.getD 0 0)=0∧AP l (x.getD 1 0)=0)
 have gv:∀ a b:Int,g [a,b]=decide (AP l a=0∧AP l b=0):=fun _ _=>rfl
 have e3:=xN (k:=k) (a1:=fun x:((List Int) × Unit)=>dx k (x.1) l) (g:=g) (l:=r) (fun x hx=>by
   obtain ⟨a,b,h0,h1,h2,_,rfl⟩:=(hin x).1 hx;show dx k [a,b] l=some (g [a,b]);have g0:el 0 [a,b] 0=a:=rfl;have g1:el 0 [a,b] 1=b:=rfl;rw [gv];unfold dx AP;rw [g0,g1,rP (bu h0 (by omega)),rP (bu (by omega) h2)]
   by_cases c:(el kG l a).2.2.2.2.1=0
   ·rw [fw c,bT]
    unfold gB;congr 1;exact decide_eq_decide.2 ⟨fun h=>⟨c,h⟩,fun h=>h.2⟩
   ·rw [fl c,bF,decide_eq_false (fun h=>c h.1)]) (by omega) (by omega)
 refine ⟨r.filter (fun x=>!g x),?_,⟨hr.1.sublist List.filter_sublist,fun p=>?_⟩,Nat.le_trans (List.length_filter_le _ _) lr⟩
 ·unfold bR
  rw [hc,bS,dR rfl,bF,e1,bS,e2,bS,e3,bS]
 ·rw [List.mem_filter,hin p]
  constructor
  ·rintro ⟨⟨a,b,h0,h1,h2,h3,rfl⟩,h4⟩
   rw [gv] at h4;exact ⟨a,b,h0,h1,h2,⟨h3,fun hh=>by rw [decide_eq_true hh] at h4; exact absurd h4 (by decide)⟩,rfl⟩
  ·rintro ⟨a,b,h0,h1,h2,⟨h3,h4⟩,rfl⟩
   rw [gv];exact ⟨⟨a,b,h0,h1,h2,h3,rfl⟩,by rw [decide_eq_false h4]; rfl⟩
theorem BQ {k:Nat} (hk:1000≤k) {l:List fQ} (hA:wO k l) {v u:Int} (v0:0≤v) (v1:v<len l) (u0:0≤u) (u1:u<len l):a6.c3 k l v u=some (decide (nb k l v u)):=by
 obtain ⟨_,p1,_,m1⟩:=qC (k:=k) (by omega) hA v0 v1;obtain ⟨_,p2,_,m2⟩:=qC (k:=k) (by omega) hA u0 u1;have b1:=(xy (k:=k) (by omega) hA v0 v1).2;have b2:=(xy (k:=k) (by omega) hA u0 u1).2;unfold a6.c3;have m1:0≤(el kG l v).2.2.2.2.1∧(el kG l v).2.2.2.2.1≤1099511627776:=m1;have m2:0≤(el kG l u).2.2.2.2.1∧(el kG l u).2.2.2.2.1≤1099511627776:=m2;rw [aX (by omega) (by omega)]
 by_cases c:0<(el kG l v).2.2.2.2.1+(el kG l u).2.2.2.2.1
 ·rw [gM c,bT,p1,bS,b1,bS,p2,bS,b2,bS,AT,bS]
  congr 1;refine decide_eq_decide.2 ⟨fun h=>⟨h,fun ⟨h1,h2⟩=>?_⟩,fun h=>h.1⟩;unfold AP at h1 h2;omega
 ·rw [gG (by omega),bF,decide_eq_false]
  rintro ⟨_,h⟩
  refine h ⟨?_,?_⟩ <;> unfold AP <;> omega
theorem CX {k:Nat} (hk:1000≤k) {l:List fQ} (hA:wO k l) (hl:len l≤64):∃ r,a6 k l=some r∧Bm k l r:=by
 have ll:len l=(l.length:Int):=rfl
 let g:Nat→Nat→Bool:=fun i j=>decide (nb k l i j)
 have H:=zH l.length l.length (fun i=>rowOf l.length (i+1) i (g i)) (fun n v acc=>a6.c1 k l n v acc) (fun v=>zm _ _ _ _)
  (by
   intro n v acc hv hacc;show a6.c1 k l (n+1) v acc=a6.c1 k l n _ _;have hB:l.length*v≤64*64:=Nat.mul_le_mul (by omega) (by omega);rw [a6.c1,bA (by omega),bT,rP (bu (by omega) (by omega)),aX (x:=(v:Int)) (y:=1) (by omega) (by omega)];have H:=CJ (0:Nat) (List.range l.length) acc.length (fun j=>if g v j then some [(v:Int),(j:Int)] else none) (fun n u a=>a6.c2 k l v n u a)
    (by
     intro n u a hu ha;rw [List.length_range] at hu;show a6.c2 k l v (n+1) u a=a6.c2 k l v n _ _;rw [Cu hu,a6.c2,bA (by omega),bT,rP (bu (by omega) (by omega)),BQ hk hA (by omega) (by omega) (by omega) (by omega),bS];unfold a6.c4;have eg:decide (nb k l (v:Int) (u:Int))=g v u:=rfl;rw [eg,aX (x:=(u:Int)) (y:=1) (by omega) (by omega)];cases hg:g v u with
     | true =>
      rw [bT,rP (show room 16 a [[(v:Int),(u:Int)]] by unfold room roomFor; simp only [List.length_singleton]; omega),bS,if_pos rfl];rfl
     | false =>
      rw [bF,bS,if_neg (by simp)]
      simp)
    (by
     intro n u a hu;rw [List.length_range] at hu;show a6.c2 k l v (n+1) u a=_
     rw [a6.c2,bZ (by omega),bF])
    k (v+1) acc (by omega) (by rw [List.length_range]; omega) (by omega)
   have H:a6.c2 k l v k ((v:Int)+1) acc=some (acc++rowOf l.length (v+1) v (g v)):=H;rw [H,bS]
   rfl)
  (by
   intro n acc;show a6.c1 k l (n+1) _ acc=_
   rw [a6.c1,bZ (by omega),bF])
  k 0 [] (Nat.zero_le _) (Nat.zero_le _) (by omega)
 have H:a6.c1 k l k 0 []=some ([]++((List.range l.length).drop 0).flatMap (fun i=>rowOf l.length (i+1) i (g i))):=H;rw [List.drop_zero,List.nil_append] at H;refine ⟨_,?_,vK l.length l.length (fun i=>i+1) g,fun p=>?_⟩
 ·unfold a6
  rw [H,bS]
 ·rw [List.mem_flatMap]
  constructor
  ·rintro ⟨i,hi,hp⟩
   obtain ⟨j,h1,h2,h3,rfl⟩:=l5.1 hp;exact ⟨i,j,by omega,by omega,by omega,of_decide_eq_true h3,rfl⟩
  ·rintro ⟨i,j,h0,h1,h2,h3,rfl⟩
   obtain ⟨i,rfl⟩:=Int.eq_ofNat_of_zero_le h0;obtain ⟨j,rfl⟩:=Int.eq_ofNat_of_zero_le (show 0≤j by omega);exact ⟨i,List.mem_range.2 (by omega),l5.2 ⟨j,by omega,by omega,decide_eq_true h3,rfl⟩⟩
open Classical in
theorem Eb {k:Nat} (hk:300≤k) {a b:List ay} (va:ju a) (vb:ju b):∃ X,af k a b=some X∧X.length≤2∧(aZ k a b=some true∧aC k a b=some X∨aZ k a b=some false∧X=[]):=by
 have mi:=Cb va.2.2.2 va.1 vb.2.2.2 vb.1
 by_cases n:iQ a b∧iQ b a
 ·obtain ⟨X,x1,x2,x3⟩:=Hf (k:=k) (by omega) va vb n
  exact ⟨X,x1,x3,.inl ⟨by rw [yV (by omega) va vb,decide_eq_true (mi.2 n)],x2⟩⟩
 ·refine ⟨[],?_,by simp,.inr ⟨by rw [yV (by omega) va vb,decide_eq_false (fun h=>n (mi.1 h))],rfl⟩⟩
  rcases ql (k:=k) (by omega) va vb with ⟨_,L⟩ | ⟨n',_⟩
  ·have h2:af.c1 k ((false,0,0,()),false,0)=some true:=by
    unfold af.c1;dsimp only;rw [dR rfl,bF];rfl
   unfold af;rw [L,bS,h2,bS,bT]
  ·exact absurd n' n
theorem Bu {k:Nat} {v:Int} {ps:List (List Int)} {X:List (ay × (ay × ay))}:∀ (n:Nat) (u:Int) (acc:List dV),cf.c2 k v ps X n u acc=bh.c2 k v (ps,0) X n u acc:=by
 intro n
 induction n with
 | zero=>intro u acc; rfl
 | succ n ih =>
  intro u acc;rw [cf.c2,bh.c2,ih]
theorem Av {k:Nat} (hk:10000≤k) {l:List fQ} (hA:wO k l) {ps:List (List Int)} (hin:∀ p,p∈ps→∃ a b:Int,0≤a∧a<b∧b<len l∧p=[a,b]) (lp:ps.length≤4096) :
  ∃ C,bh.c1 k l (ps,0) k 0 []=some C∧cf.c1 k l ps k 0 []=some C∧C.length≤2*ps.length:=by
 have ll:len l=(l.length:Int):=rfl;have lps:len ps=(ps.length:Int):=rfl;have key:∀ (n v:Nat) (acc:List dV),ps.length<v+n→v≤ps.length→acc.length≤2*v→∃ C,bh.c1 k l (ps,0) n (v:Int) acc=some C∧cf.c1 k l ps n (v:Int) acc=some C∧C.length≤2*ps.length:=by
  intro n
  induction n with
  | zero=>intro v acc h1 h2; omega
  | succ n ih =>
   intro v acc h1 h2 h3;rw [bh.c1,cf.c1];dsimp only
   by_cases c:v<ps.length
   ·obtain ⟨a,b,a0,ab,bn,hp⟩:=hin _ (Er (List.replicate 2 (0:Int)) ps (j:=(v:Int)) (by omega) (by omega))
    have g0:el 0 [a,b] 0=a:=rfl;have g1:el 0 [a,b] 1=b:=rfl;obtain ⟨ea,ra,va,_⟩:=qC (k:=k) (by omega) hA a0 (by omega);obtain ⟨eb,rb,vb,_⟩:=qC (k:=k) (by omega) hA (show 0≤b by omega) bn;obtain ⟨X,eX,lX,hX⟩:=Eb (k:=k) (by omega) va vb;have eF:=Ea (k:=k) (v:=(v:Int)) (y1:=(ps,0)) (p:=[a,b]) hp lX (by omega) (acc:=acc) (by omega);obtain ⟨C,e,e',r2⟩:=ih (v+1) (acc++X.map (G9 [a,b])) (by omega) (by omega) (by rw [List.length_append,List.length_map]; omega);refine ⟨C,?_,?_,r2⟩
    ·rw [bA (by omega),bT,rP (bu (by omega) (by omega)),hp,g0,g1,rP (bu a0 (by omega)),ea,bS,rP (bu (by omega) bn),eb,bS,eX,bS,eF,bS,aX (x:=(v:Int)) (y:=1) (by omega) (by omega)]
     exact e
    ·rw [bA (by omega),bT,rP (bu (by omega) (by omega)),hp,g0,g1,rP (bu a0 (by omega)),ra,bS,rP (bu (by omega) bn),rb,bS,aX (x:=(v:Int)) (y:=1) (by omega) (by omega)]
     rcases hX with ⟨hm,hpt⟩ | ⟨hm,hx⟩
     ·rw [hm,bS,bT,hpt,bS,Bu,eF,bS]
      exact e'
     ·rw [hm,bS,bF]
      rw [hx,List.map_nil,List.append_nil] at e';exact e'
   ·rw [bZ (by omega),bF,bF]
    exact ⟨acc,rfl,rfl,by omega⟩
 exact key k 0 [] (by omega) (by omega) (by simp)
theorem GM {k:Nat} (hk:5000≤k) {l:List (List Int)} (hl:l.length≤4096):aW k l l=some true:=by
 have ll:len l=(l.length:Int):=rfl;have H:∀ (n:Nat) (i:Int),0≤i→len l - i<(n:Int)→0<n→aW.c1 k l l n i=some (.inr ()):=by
  intro n
  induction n with
  | zero=>intro i _ _ h; omega
  | succ n ih =>
   intro i i0 i1 _;rw [aW.c1]
   by_cases c:i<len l
   ·rw [bA c,bT,rP (bu i0 c),rP (bu i0 c),(show Ty.kY (.arr 2 T2) (el (List.replicate 2 (0:Int)) l i) (el (List.replicate 2 (0:Int)) l i)=true from zL _),bT,aX (by omega) (by omega)]
    exact ih (i+1) (by omega) (by omega) (by omega)
   ·rw [bZ (by omega),bF]
 unfold aW;rw [dR rfl,bF,H k 0 (by omega) (by omega) (by omega),bS,eW]
theorem Hr:dg 10000 0 0 false=some ES:=by kernel_rfl
theorem HD:dg 10000 0 2 true=some EH:=by kernel_rfl
theorem HB:(bB (bB (bh.c1 10000 [ES,EH] ([[0,1]],0) 10000 0 []) fun o23=>bB (bg 10000 [] o23) fun y25=>some (y25,(0:Int))) fun y5 =>
  aM (gB y5.2 0) (aM (gB (len y5.1) 2) (dU (gi 0 y5.1) <| aM (gB (el aR y5.1 0).2.1 1) (aM (gB (el aR y5.1 0).2.2.2.2.2.1 0) (dU (gi 1 y5.1) <| bB (dL 10000 (el aR y5.1 0) (el aR y5.1 1)) fun y13=>some (gB y13 (-1))) (some false)) (some false)) (some false)) (some false))=some true:=by kernel_rfl
theorem pw:cK 10000=some true:=by
 have eF:bh 10000 [ES,EH] []=bB (bh.c1 10000 [ES,EH] ([[0,1]],0) 10000 0 []) fun o23=>bB (bg 10000 [] o23) fun y25=>some (y25,0):=by
  unfold bh;rw [Hz,bS];dsimp only;rw [dR rfl,bF]
 unfold cK;rw [Hr,bS,HD,bS,eF];exact HB
theorem qL {k:Nat} (hk:20000≤k) (l:List fQ) (old fresh:List dV) (h1:old.length<k) (h2:old.length≤9223372036854775807):ae k l old fresh=some true:=by
 have lf':len fresh=(fresh.length:Int):=rfl;unfold ae;rw [pw,bS,bT];rcases Ba (k:=k) (by omega) old fresh with e | ⟨e,lf⟩
 ·rw [e,bS,eE]
 rw [e,bS,eW,sd h1 h2 (by omega) (by omega),bS,vw h1 h2 (by omega) (by omega),bS,ET (by omega) (by unfold len; rw [List.length_map]; omega),bS,bT];obtain ⟨bad,c1,c2,c3⟩:=FD (k:=k) (by omega) (by omega) l
 by_cases hb:bad=0
 ·subst hb
  obtain ⟨hA,hl⟩:=c3 rfl;have ll:len l=(l.length:Int):=rfl;obtain ⟨ps,eP,hP,lP⟩:=xo (k:=k) (by omega) hA hl c1;have sq:=Nat.mul_le_mul (show l.length≤64 by omega) (show l.length≤64 by omega)
  obtain ⟨C,eF,eR,lC⟩:=Av (k:=k) (by omega) hA (ps:=ps) (fun p hp=>by
   obtain ⟨a,b,x0,x1,x2,_,x3⟩:=(hP.2 p).1 hp
   exact ⟨a,b,x0,x1,x2,x3⟩) (by omega)
  have eKF:bh k l old=some (C.map (wm old),0):=by
   unfold bh;rw [eP,bS];dsimp only;rw [dR rfl,bF,eF,bS,sd h1 h2 (by omega) (by omega),bS]
  rw [eP,bS,eKF,bS,c2,bS,c1,bS,dR rfl,bF,bF]
  by_cases h12:12<len l
  ·rw [gM h12,bT]
  ·rw [gG (by omega),bF]
   dsimp only;rw [fw rfl,bT,bT];obtain ⟨r,eN,hN⟩:=CX (k:=k) (by omega) hA hl;have hr:ps=r:=oc hP.1 hN.1 (fun p=>(hP.2 p).trans (hN.2 p).symm);subst hr;have eRF:cf k l old=some (C.map (wm old)):=by
    unfold cf;rw [eN,bS,eR,bS,vw h1 h2 (by omega) (by omega),bS]
   have sq':=Nat.mul_le_mul (show l.length≤12 by omega) (show l.length≤12 by omega);rw [eN,bS,GM (by omega) (by omega),bS,bT,eRF,bS,ET (by omega) (by unfold len; rw [List.length_map]; omega),bS]
 ·have eP:bR k l=some ([],bad):=by
   unfold bR;rw [c1,bS,gn hb,bT]
  have eF:bh k l old=some ([],bad):=by
   unfold bh;rw [eP,bS];dsimp only;rw [gn hb,bT]
  rw [eP,bS,eF,bS,c2,bS,c1,bS,dR rfl,bF,gn hb,bT];have c3:ae.c3 k ([],bad) ([],bad) bad=some true:=by
   unfold ae.c3;dsimp only;rw [fw rfl,bT,bT];rfl
  rw [c3,bS]
theorem kC:∀ x:(Ty.pair (.slice gH) (.pair (.slice dY) (.pair (.slice dY) .unit))).den,Ty.wf (.pair (.slice gH) (.pair (.slice dY) (.pair (.slice dY) .unit))) x→∃ k,(ae.sp k).f x=some true:=by
 intro x hx;obtain ⟨K,hK⟩:∃ K,K=20000+List.length (α:=dV) x.2.1:=⟨_,rfl⟩;have hl:List.length (α:=dV) x.2.1≤maxLen:=hx.2.1.1;have hl:List.length (α:=dV) x.2.1≤9223372036854775807:=hl;exact ⟨K,qL (by omega) x.1 x.2.1 x.2.2.1 (by omega) hl⟩
end Go.Proofs.T1
