import Derived.Test.YteibepmkkplpeaaGreatPlClip
namespace Go.Proofs.T1
open Go Go.Sx
theorem si {k:Nat} (hk:40≤k) {l:List aB} (hv:jx l) {e:Int} (e0:0≤e) (e1:e<len l) {A B:Int} (hA:Bx A (q l e)) {x:aB} (hB:Bx B x) (hs:A+B=2359296) (h:0≤tv l e x):0≤dv l e x∧dv l e x≤4718592:=by
 obtain ⟨_,l0,l1,hr⟩:=kM (k:=k) hk hv e0 e1;have hS:=GR hr l0;have sm:tv l e x≤2359296*(gp (fk l e).1+gp (fk l e).2.1):=by
  unfold Bx at hA hB;have e1:tv l e x=-((x.2.1 - (q l e).2.1)*(fk l e).2.1)+-((x.1 - (q l e).1)*(fk l e).1):=by unfold tv fb fk; grind
  have g1:=F9 (e:=x.2.1 - (q l e).2.1) (n:=(fk l e).2.1) (l:=2359296) (by omega) (by omega) (by omega);have g2:=F9 (e:=x.1 - (q l e).1) (n:=(fk l e).1) (l:=2359296) (by omega) (by omega) (by omega);rw [e1,Int.mul_add];omega
 refine ⟨xw l0 h,?_⟩;unfold dv;have hm:=Int.mul_ediv_add_emod (2*tv l e x+mO l e) (2*mO l e);have em0:=Int.emod_nonneg (2*tv l e x+mO l e) (show 2*mO l e≠0 by omega);unfold jg;generalize (2*tv l e x+mO l e) / (2*mO l e)=D at *
 rcases Int.lt_or_le 4718592 D with g | g
 ·exfalso
  have:=Int.mul_le_mul_of_nonneg_left (show 4718593≤D by omega) (show 0≤2*mO l e by omega);omega
 ·exact g
def FC (B:Int) (u:aB) (X:List (aB × (aB × aB))):Prop :=
 X.length≤2∧(∀ c∈X,Bx B c.1∧c.2.1=u∧0≤c.2.2.1∧c.2.2.1≤4718592∧0≤c.2.2.2.1∧c.2.2.2.1≤255)∧X.Pairwise (fun c d=>c.2.2.2.1<d.2.2.2.1)
section
variable {k:Nat} {ref inc:List aB} {e d:Int} {u:aB} {s ok:Bool} {x y:aB} {id kk:Int}
theorem AR (hk:40≤k) (hv:jx ref) (e0:0≤e) (e1:e<len ref) {A B:Int} (hA:Bx A (q ref e)) (hx:Bx B x) (hy:Bx B y) (hs:A+B=2359296) (id0:0≤id) (id1:id≤254):FC B u (As ref e u id ok x y):=by
 have kV:∀ {z:aB} {i:Int},Bx B z→0≤i→i≤1→0≤tv ref e z→Bx B (CR ref e u id z i).1∧(CR ref e u id z i).2.1=u∧0≤(CR ref e u id z i).2.2.1∧(CR ref e u id z i).2.2.1≤4718592∧0≤(CR ref e u id z i).2.2.2.1∧(CR ref e u id z i).2.2.2.1≤255:=by
  intro z i hz i0 i1 ht;have:=si hk hv e0 e1 hA hz hs ht;unfold CR;dsimp only;exact ⟨hz,rfl,this.1,this.2,by omega,by omega⟩
 unfold As
 by_cases c1:ok=true∧0≤tv ref e x <;> by_cases c2:ok=true∧0≤tv ref e y∧¬ y=x
 ·rw [if_pos c1,if_pos c2]
  refine ⟨by simp,fun c hc=>?_,?_⟩
  ·rcases List.mem_cons.1 hc with g | g
   ·rw [g]; exact kV hx (by decide) (by decide) c1.2
   ·rw [List.mem_singleton.1 g]; exact kV hy (by decide) (by decide) c2.2.1
  ·refine List.pairwise_cons.2 ⟨fun c hc=>?_,List.pairwise_singleton _ _⟩
   rw [List.mem_singleton.1 hc];show id+0<id+1;omega
 ·rw [if_pos c1,if_neg c2]
  refine ⟨by simp,fun c hc=>?_,List.pairwise_singleton _ _⟩;rw [List.mem_singleton.1 hc]; exact kV hx (by decide) (by decide) c1.2
 ·rw [if_neg c1,if_pos c2]
  refine ⟨by simp,fun c hc=>?_,List.pairwise_singleton _ _⟩;rw [List.mem_singleton.1 hc]; exact kV hy (by decide) (by decide) c2.2.1
 ·rw [if_neg c1,if_neg c2]
  exact ⟨by simp,fun c hc=>(nomatch hc),List.Pairwise.nil⟩
theorem ug (hk:60≤k) {a b:List aB} (hv:jx ref) (hi:jx inc) (e0:0≤e) (e1:e<len ref) {f0 idx:Int} (hf:f0=0∨f0=1) (hidx:idx=8*f0+e) (hdp:0≤dp ref inc e)
  {A B:Int} (hA:∀ i,0≤i→i<len ref→Bx A (q ref i)) (hB:∀ i,0≤i→i<len inc→Bx B (q inc i)) (hAB:A+B=2359296)
  (hL:aH k a b=some ((s,e,d,()),true,0)) (hT:cE k a b=some (true,d,u)) (h2:af.c2 k a b ((s,e,d,()),true,0)=some (ref,inc,idx)) :
  ∃ X,af k a b=some X∧FC B u X:=by
 obtain ⟨r3,r8,rw_,re⟩:=hv;obtain ⟨i3,i8,iw,ie⟩:=hi;have hv:jx ref:=⟨r3,r8,rw_,re⟩;have hi:jx inc:=⟨i3,i8,iw,ie⟩;have hx:=dK e0 e1;have ow:Ww (fk ref e):=lz rw_ e0 e1;obtain ⟨i,fa,far⟩:=Bi (k:=k) (by omega) i3 i8 iw ow;have kr:=xf (n:=fk ref e) far.1 far.2.1;generalize zZ inc (fk ref e) i=kk at *
 have kx:=dK kr.1 kr.2;have w1:=rw_ e e0 e1;have w2:=rw_ _ hx.1 hx.2;have w3:=iw kk kr.1 kr.2;have w4:=iw _ kx.1 kx.2;have wi:=iw i far.1 far.2.1;have idb:0≤(idx*8+kk)*2∧(idx*8+kk)*2≤254:=by rcases hf with h | h <;> subst h <;> omega
 have ib:0≤idx∧idx≤16:=by rcases hf with h | h <;> subst h <;> omega
 have id1:aN .i64 (ag .i64 (aN .i64 idx 8) kk) 2=(idx*8+kk)*2:=by
  rw [dr (x:=idx) (by omega) (by omega),bH (by omega) (by omega),dr (by omega) (by omega)]
 have y18:Ww (sb (q ref (nx (len ref) e)) (q ref e)):=B7 w2 w1;have y27:Ww (sb (q ref e) (q ref (nx (len ref) e))):=B7 w1 w2;have cw:=Ey (at_:=q ref e) (w:=sb (q ref (nx (len ref) e)) (q ref e)) w3 w4;have cM:=Eb (at_:=q ref e) (w:=sb (q ref (nx (len ref) e)) (q ref e)) (hB kk kr.1 kr.2) (hB _ kx.1 kx.2);have A1:=CN (k:=k) (by omega) w3 w4 w1 y18;generalize DZ (q inc kk) (q inc (nx (len inc) kk)) (q ref e) (sb (q ref (nx (len ref) e)) (q ref e))=C at *
 obtain ⟨c1,c2,ok⟩:=C;dsimp only at cw cM;have second:∃ ok' z1 z2,af.c3 k (ref,inc,idx) ((s,e,d,()),true,0) (c1,c2,ok)=some (ok',z1,z2)∧(Wn z1∧Wn z2)∧Bx B z1∧Bx B z2:=by
  unfold af.c3;dsimp only;cases ok with
  | false =>
   rw [bF];exact ⟨false,c1,c2,rfl,cw,cM⟩
  | true =>
   have A2:=CN (k:=k) (by omega) cw.1 cw.2 w2 y27;have cw2:=Ey (at_:=q ref (nx (len ref) e)) (w:=sb (q ref e) (q ref (nx (len ref) e))) cw.1 cw.2;have cM2:=Eb (at_:=q ref (nx (len ref) e)) (w:=sb (q ref e) (q ref (nx (len ref) e))) cM.1 cM.2;rw [bT,gU e0 e1 (by omega)];have m1:cF k (el bK ref e) (el bK ref (nx (len ref) e))=some (sb (q ref e) (q ref (nx (len ref) e))):=kL k w1 w2;have A2:aV k c1 c2 (el bK ref (nx (len ref) e)) (sb (q ref e) (q ref (nx (len ref) e)))=_:=A2;rw [m1,bS,A2,bS];exact ⟨_,_,_,rfl,cw2,cM2⟩
 obtain ⟨ok',z1,z2,S1,⟨v1,v2⟩,g1,g2⟩:=second;have o1:=FX (k:=k) (inc:=inc) (s:=s) (d:=d) (u:=u) (ok:=ok') (b1:=true) (b2:=0) (b3:=d) (d':=d) (b4:=true) (by omega) hv e0 e1 v1 v2 id1 idb.1 (by omega) (k - 3);rw [show k - 3+3=k by omega] at o1;have sup:∃ j,bn k inc (ng (fk ref e))=some j∧zS inc (ng (fk ref e)) j:=by
  refine CF (by omega) hi ?_ ?_ <;> (unfold Ww at ow; unfold lG ng; dsimp only; omega)
 obtain ⟨j,sj,fj⟩:=sup;have:=Ax fj far;subst this;have nn:((c9 .i64 (fk ref e).1,c9 .i64 (fk ref e).2.1,()):aB)=ng (fk ref e):=by
  unfold Ww at ow;rw [yz (by omega) (by omega),yz (by omega) (by omega)];rfl
 have gl:∀ z:List (aB × (aB × aB)),z=As ref e u ((idx*8+kk)*2) ok' z1 z2→z.length≤2:=by
  intro z hz;rw [hz];unfold As;rw [List.length_append];split <;> split <;> simp
 have m0:cF k (el bK ref (nx (len ref) e)) (el bK ref e)=some (sb (q ref (nx (len ref) e)) (q ref e)):=kL k w2 w1;have A1:aV k (el bK inc kk) (el bK inc (nx (len inc) kk)) (el bK ref e) (sb (q ref (nx (len ref) e)) (q ref e))=some (c1,c2,ok):=A1;have dj:dW k (el bK inc j) (el bK ref e) (fk ref e)=some (dv ref e (q inc j),decide (0≤tv ref e (q inc j))):=xE (by omega) hv e0 e1 wi;have P1:af k a b=aR (gX (len (As ref e u ((idx*8+kk)*2) ok' z1 z2)) 0) (some ((As ref e u ((idx*8+kk)*2) ok' z1 z2)++[(el bK inc j,u,dv ref e (q inc j),(idx*8+kk)*2,())])) (some (As ref e u ((idx*8+kk)*2) ok' z1 z2)):=by
  unfold af;rw [hL,bS];unfold af.c1;dsimp only;rw [ek rfl,bF,bS];show aR false _ _=_;rw [bF,hT,bS,h2,bS];dsimp only
  rw [kI k r8 rw_ e0 e1,bS,rP (cZ e0 e1),rP (show nz (len ref) by unfold nz; omega),gU e0 e1 (by omega),rP (cZ hx.1 hx.2),fa,bS,rP (cZ kr.1 kr.2),rP (show nz (len inc) by unfold nz; omega),gU kr.1 kr.2 (by omega),rP (cZ kx.1 kx.2),
   m0,bS,A1,bS,S1,bS,o1,bS,nn,sj,bS,rP (cZ far.1 far.2.1),dj,bS,id1]
  congr 1
  exact rP (by
   have:=gl _ rfl;show ((As ref e u ((idx*8+kk)*2) ok' z1 z2).length+1)*48≤140737488355328
   omega) _
 by_cases c:len (As ref e u ((idx*8+kk)*2) ok' z1 z2)=0
 ·rw [fw c,bT] at P1
  have c0:As ref e u ((idx*8+kk)*2) ok' z1 z2=[]:=List.eq_nil_of_length_eq_zero (by unfold len at c; omega);rw [c0,List.nil_append] at P1;refine ⟨_,P1,?_⟩;obtain ⟨m,m0',m1',em⟩:=Bq (a:=ref) (b:=inc) e (by omega);have fm:=far.2.2 m m0' m1';have tt:∀ z:aB,tv ref e z=dt z (ng (fk ref e)) - dt (q ref e) (ng (fk ref e)):=by intro z; unfold tv fb dt ng fk; grind
  have tm:tv ref e (q inc m)=dp ref inc e:=em.symm;have hj:0≤tv ref e (q inc j):=by
   have a1:=tt (q inc m);have a2:=tt (q inc j);omega
  have:=si (k:=k) (by omega) hv e0 e1 (hA e e0 e1) (hB j far.1 far.2.1) hAB hj;refine ⟨by simp,fun c hc=>?_,List.pairwise_singleton _ _⟩;rw [List.mem_singleton.1 hc];exact ⟨hB j far.1 far.2.1,rfl,this.1,this.2,idb.1,by dsimp only; omega⟩
 ·rw [fu c,bF] at P1
  exact ⟨_,P1,AR (k:=k) (by omega) hv e0 e1 (hA e e0 e1) g1 g2 hAB idb.1 idb.2⟩
end
theorem D0 {k:Nat} (hk:70≤k) {v u:aB} (h:-1099511627776≤v.1∧v.1≤1099511627776∧-1099511627776≤v.2.1∧v.2.1≤1099511627776) (hv:¬ (v.1=0∧v.2.1=0)) (hu:bM k v=some u) :
  -65536≤u.1∧u.1≤65536∧-65536≤u.2.1∧u.2.1≤65536:=by
 obtain ⟨x,y,l,e,⟨l0,h1,h2⟩,h3⟩:=xX hk h hv;rw [e] at hu;cases hu;have bd:∀ {z w:Int},z*z+w*w<(l+1)*(l+1)→-l≤z∧z≤l:=by
  intro z w hz;have ww:=iJ w;rcases Int.lt_or_le z 0 with g | g
  ·have e:-z*-z=z*z:=by grind
   have:=nk (a:=-z) (b:=l+1) (by omega) (by omega) (by omega);omega
  ·have:=nk (a:=z) (b:=l+1) (by omega) (by omega) (by omega)
   omega
 have bx:=bd h2;have b2:=bd (z:=y) (w:=x) (by omega);have r1:=mP (x:=65536*x) (n:=l) (c:=65536) (by omega) (by omega) (by omega);have r2:=mP (x:=65536*y) (n:=l) (c:=65536) (by omega) (by omega) (by omega);exact ⟨r1.1,r1.2,r2.1,r2.2⟩
theorem EZ {k:Nat} (hk:220≤k) {a b:List aB} (va:jx a) (vb:jx b) (ha:∀ i,0≤i→i<len a→Bx 1179648 (q a i)) (hb:∀ i,0≤i→i<len b→Bx 1179648 (q b i)) :
  ∃ X u,af k a b=some X∧FC 1179648 u X∧(-65536≤u.1∧u.1≤65536∧-65536≤u.2.1∧u.2.1≤65536):=by
 rcases ta (k:=k) (by omega) va vb with ⟨n,T⟩ | ⟨n,s,e,d,u,T,pb,hu⟩ <;> rcases nH (k:=k) (by omega) va vb with ⟨n',L⟩ | ⟨n',s',e',d',L,pb'⟩
 ·have O:af k a b=some []:=by
   unfold af;rw [L,bS];have c1:af.c1 k ((false,0,0,()),false,0)=some true:=by
    unfold af.c1;dsimp only;rw [ek rfl,bF];rfl
   rw [c1,bS,bT]
  exact ⟨[],(0,0,()),O,⟨by simp,fun c hc=>(nomatch hc),List.Pairwise.nil⟩,by decide,by decide,by decide,by decide⟩
 ·exact absurd n' n
 ·exact absurd n n'
 ·obtain ⟨x1,x2,x3⟩:=C5 pb' pb
  subst x1 x2 x3;have rg:=qC pb;have da:=(jL (by have:=vb.1; omega)).1 n.1;have db:=(jL (by have:=va.1; omega)).1 n.2;have w:=yn va vb pb;have ub:-65536≤u.1∧u.1≤65536∧-65536≤u.2.1∧u.2.1≤65536:=D0 (k:=k) (by omega) w.2 w.1 hu;cases s' with
  | false =>
   have rg:=rg.1 rfl;obtain ⟨X,O,P⟩:=ug (k:=k) (ref:=a) (inc:=b) (s:=false) (by omega) va vb rg.1 rg.2 (f0:=0) (idx:=e') (Or.inl rfl) (by omega) (da e' rg.1 rg.2) ha hb (by decide) L T rfl;exact ⟨X,u,O,P,ub⟩
  | true =>
   have rg:=rg.2 rfl;have b8:=vb.2.1;have c2:af.c2 k a b ((true,e',d',()),true,0)=some (b,a,8+e'):=by
    unfold af.c2;dsimp only;rw [bT,bH (by omega) (by omega)]
   obtain ⟨X,O,P⟩:=ug (k:=k) (ref:=b) (inc:=a) (s:=true) (by omega) vb va rg.1 rg.2 (f0:=1) (idx:=8+e') (Or.inr rfl) (by omega) (db e' rg.1 rg.2) hb ha (by decide) L T c2;exact ⟨X,u,O,P,ub⟩
end Go.Proofs.T1
