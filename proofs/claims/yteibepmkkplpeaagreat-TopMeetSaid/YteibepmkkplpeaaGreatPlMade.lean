import Derived.Test.YteibepmkkplpeaaGreatPlPoly
import Derived.Test.YteibepmkkplpeaaGreatG11
namespace Go.Proofs.T1
open Go Go.Sx
theorem xa (a:Int) {m:Int} (hm:0<m):-m<cC a m∧cC a m<m:=by
 unfold cC;constructor
 ·have:=Int.lt_tmod_of_pos a hm; omega
 ·exact Int.tmod_lt_of_pos a hm
end Go.Proofs.T1
namespace Go.Proofs.T1
open Go Go.Sx
def jF (k:Nat) (a0:(List Int)):Option (List aB) :=
 bG (de k (a0,())) fun y1 =>
 some y1.2
end Go.Proofs.T1
namespace Go.Proofs.T1
open Go Go.Sx
theorem AM (k:Nat) (x:Int) {n:Int} (h0:0<n) (h1:n≤4611686018427387904):∃ y,dF k x n=some y∧0≤y∧y<n:=by
 have hr:=xa x h0;unfold dF;rw [rP (show nz n by unfold nz; omega)]
 by_cases h:cC x n<0
 ·rw [cB h,bT,bH (by omega) (by omega)]
  exact ⟨_,rfl,by omega,by omega⟩
 ·rw [cD (by omega),bF]
  exact ⟨_,rfl,by omega,by omega⟩
theorem iq (k:Nat) (s:(List Int) × Unit) {n:Int} (h0:0<n) (h1:n≤4611686018427387904):∃ s' y,aw k s n=some (s',y)∧0≤y∧y<n:=by
 unfold aw aw.c1
 by_cases h:len s.1=0
 ·rw [fw h,bT,bS,bT]
  exact ⟨s,0,rfl,by omega,by omega⟩
 ·rw [fu h,bF,cD (by omega),bS,bF]
  have hl:0<len s.1:=by unfold len at *; omega
  have hc:vO s.1 1 (List.length s.1:Int):=⟨by decide,by unfold len at hl; omega,by omega⟩;obtain ⟨y,e,a,b⟩:=AM k (el 0 s.1 0) h0 h1;rw [rP (cZ (by omega) hl),rP hc,e,bS];exact ⟨_,_,rfl,a,b⟩
def Ek (l:List aB):Bool:=(List.range l.length).all fun i=>(List.range l.length).all fun j =>
 Nat.beq j i || (Nat.beq j (if i+1=l.length then 0 else i+1) || decide (0<fb (l.getD i bK) (l.getD (if i+1=l.length then 0 else i+1) bK) (l.getD j bK)))
theorem BT {l:List aB} (h:Ek l=true):iz l:=by
 intro i j h0 h1 h2 h3 h4 h5;obtain ⟨i,rfl⟩:=Int.eq_ofNat_of_zero_le h0;obtain ⟨j,rfl⟩:=Int.eq_ofNat_of_zero_le h2;have hi:i<l.length:=by unfold len at h1; omega
 have hj:j<l.length:=by unfold len at h3; omega
 have h6:=List.all_eq_true.1 (List.all_eq_true.1 h i (List.mem_range.2 hi)) j (List.mem_range.2 hj);have hnx:nx (len l) (i:Int)=((if i+1=l.length then 0 else i+1:Nat):Int):=by
  unfold nx len;split <;> split <;> omega
 simp only [Bool.or_eq_true,decide_eq_true_eq] at h6;rcases h6 with h6 | h6 | h6
 ·exact absurd (congrArg Int.ofNat (Nat.eq_of_beq_eq_true h6)) h4
 ·rw [hnx] at h5
  exact absurd (congrArg Int.ofNat (Nat.eq_of_beq_eq_true h6)) h5
 ·rw [hnx]
  exact h6
theorem vh {a b c:aB} (h:0<fb a b c):iz [a,b,c]:=by
 apply Ag;intro i j m h0 h1 h2 h3;have hl:len [a,b,c]=3:=rfl;have:i=0:=by omega
 have:j=1:=by omega
 have:m=2:=by omega
 subst i j m;exact h
def EY (l:List aB):Bool:=l.all fun p=>decide (-262144≤p.1∧p.1≤262144∧-262144≤p.2.1∧p.2.1≤262144)
def EL (l:List aB):Prop:=∀ i,0≤i→i<len l→-262144≤(q l i).1∧(q l i).1≤262144∧-262144≤(q l i).2.1∧(q l i).2.1≤262144
theorem xP {l:List aB} (h:EY l=true):EL l:=by
 intro i h0 h1;obtain ⟨i,rfl⟩:=Int.eq_ofNat_of_zero_le h0;have hi:i<l.length:=by unfold len at h1; omega
 have h2:=List.all_eq_true.1 h (l[i]) (List.getElem_mem hi);simp only [decide_eq_true_eq] at h2;have:q l (i:Int)=l[i]:=by
  show l.getD i bK=_;rw [List.getD_eq_getElem?_getD,List.getElem?_eq_getElem hi];rfl
 rw [this];exact h2
theorem EO {l:List aB} (h:EL l):jT l:=fun i h0 h1=>by
 have:=h i h0 h1;unfold Wn;omega
def Made (l:List aB):Prop:=3≤len l∧len l≤5∧EL l∧iz l
def BC (l:List aB):Bool:=Nat.ble 3 l.length && (Nat.ble l.length 5 && (EY l && Ek l))
theorem B9 {l:List aB} (h:BC l=true):Made l:=by
 simp only [BC,Bool.and_eq_true] at h;obtain ⟨h1,h2,h3,h4⟩:=h;have h1:=Nat.le_of_ble_eq_true h1;have h2:=Nat.le_of_ble_eq_true h2;exact ⟨by unfold len; omega,by unfold len; omega,xP h3,BT h4⟩
def En (w h:Int):List aB:=[((c9 .i64 w),(c9 .i64 h),()),(w,(c9 .i64 h),()),(w,h,()),((c9 .i64 w),h,())]
def ED (w h:Int):List aB:=[((c9 .i64 w),(c9 .i64 h),()),((aU .i64 w (eu .i64 (gA w h) 2)),(c9 .i64 h),()),(w,(aU .i64 (eu .i64 (gA w h) 2) h),()),(w,h,()),((c9 .i64 w),h,())]
def Eo (w h:Int):List aB:=[((c9 .i64 w),0,()),(0,(c9 .i64 h),()),(w,0,()),(0,h,())]
theorem Ci {l:List aB} (h:Made l):jx l:=⟨h.1,by have:=h.2.1; omega,EO h.2.2.1,h.2.2.2⟩
def shift (l:List aB) (p:aB):List aB:=l.map fun a=>(a.1+p.1,a.2.1+p.2.1,())
end Go.Proofs.T1
