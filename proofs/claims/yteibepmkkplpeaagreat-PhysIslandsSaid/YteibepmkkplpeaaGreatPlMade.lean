import Derived.Test.YteibepmkkplpeaaGreatPlPoly
import Derived.Test.YteibepmkkplpeaaGreatG11
namespace Go.Proofs.T1
open Go Go.Sx
theorem vd (a:Int) {m:Int} (hm:0<m):-m<fw a m∧fw a m<m:=by
 unfold fw;constructor
 ·have:=Int.lt_tmod_of_pos a hm; omega
 ·exact Int.tmod_lt_of_pos a hm
end Go.Proofs.T1
namespace Go.Proofs.T1
open Go Go.Sx
def jc (k:Nat) (a0:(List Int)):Option (List aV) :=
 bO (cU k (a0,())) fun y1 =>
 some y1.2
end Go.Proofs.T1
namespace Go.Proofs.T1
open Go Go.Sx
theorem AE (k:Nat) (x:Int) {n:Int} (h0:0<n) (h1:n≤4611686018427387904):∃ y,du k x n=some y∧0≤y∧y<n:=by
 have hr:=vd x h0;unfold du;rw [rP (show nz n by unfold nz; omega)]
 by_cases h:fw x n<0
 ·rw [cg h,bT,bJ (by omega) (by omega)]
  exact ⟨_,rfl,by omega,by omega⟩
 ·rw [cp (by omega),bF]
  exact ⟨_,rfl,by omega,by omega⟩
theorem gB (k:Nat) (s:(List Int) × Unit) {n:Int} (h0:0<n) (h1:n≤4611686018427387904):∃ s' y,aw k s n=some (s',y)∧0≤y∧y<n:=by
 unfold aw aw.c1
 by_cases h:len s.1=0
 ·rw [fh h,bT,bS,bT]
  exact ⟨s,0,rfl,by omega,by omega⟩
 ·rw [eL h,bF,cp (by omega),bS,bF]
  have hl:0<len s.1:=by unfold len at *; omega
  have hc:qH s.1 1 (List.length s.1:Int):=⟨by decide,by unfold len at hl; omega,by omega⟩;obtain ⟨y,e,a,b⟩:=AE k (el 0 s.1 0) h0 h1;rw [rP (bZ (by omega) hl),rP hc,e,bS];exact ⟨_,_,rfl,a,b⟩
def CN (l:List aV):Bool:=(List.range l.length).all fun i=>(List.range l.length).all fun j =>
 Nat.beq j i || (Nat.beq j (if i+1=l.length then 0 else i+1) || decide (0<im (l.getD i dT) (l.getD (if i+1=l.length then 0 else i+1) dT) (l.getD j dT)))
theorem zm {l:List aV} (h:CN l=true):mD l:=by
 intro i j h0 h1 h2 h3 h4 h5;obtain ⟨i,rfl⟩:=Int.eq_ofNat_of_zero_le h0;obtain ⟨j,rfl⟩:=Int.eq_ofNat_of_zero_le h2;have hi:i<l.length:=by unfold len at h1; omega
 have hj:j<l.length:=by unfold len at h3; omega
 have h6:=List.all_eq_true.1 (List.all_eq_true.1 h i (List.mem_range.2 hi)) j (List.mem_range.2 hj);have hnx:nx (len l) (i:Int)=((if i+1=l.length then 0 else i+1:Nat):Int):=by
  unfold nx len;split <;> split <;> omega
 simp only [Bool.or_eq_true,decide_eq_true_eq] at h6;rcases h6 with h6 | h6 | h6
 ·exact absurd (congrArg Int.ofNat (Nat.eq_of_beq_eq_true h6)) h4
 ·rw [hnx] at h5
  exact absurd (congrArg Int.ofNat (Nat.eq_of_beq_eq_true h6)) h5
 ·rw [hnx]
  exact h6
theorem ss {a b c:aV} (h:0<im a b c):mD [a,b,c]:=by
 apply yE;intro i j m h0 h1 h2 h3;have hl:len [a,b,c]=3:=rfl;have:i=0:=by omega
 have:j=1:=by omega
 have:m=2:=by omega
 subst i j m;exact h
def Dz (l:List aV):Bool:=l.all fun p=>decide (-262144≤p.1∧p.1≤262144∧-262144≤p.2.1∧p.2.1≤262144)
def Db (l:List aV):Prop:=∀ i,0≤i→i<len l→-262144≤(q l i).1∧(q l i).1≤262144∧-262144≤(q l i).2.1∧(q l i).2.1≤262144
theorem we {l:List aV} (h:Dz l=true):Db l:=by
 intro i h0 h1;obtain ⟨i,rfl⟩:=Int.eq_ofNat_of_zero_le h0;have hi:i<l.length:=by unfold len at h1; omega
 have h2:=List.all_eq_true.1 h (l[i]) (List.getElem_mem hi);simp only [decide_eq_true_eq] at h2;have:q l (i:Int)=l[i]:=by
  show l.getD i dT=_;rw [List.getD_eq_getElem?_getD,List.getElem?_eq_getElem hi];rfl
 rw [this];exact h2
theorem Du {l:List aV} (h:Db l):lL l:=fun i h0 h1=>by
 have:=h i h0 h1;unfold Wn;omega
def Made (l:List aV):Prop:=3≤len l∧len l≤5∧Db l∧mD l
def Aq (l:List aV):Bool:=Nat.ble 3 l.length && (Nat.ble l.length 5 && (Dz l && CN l))
theorem zs {l:List aV} (h:Aq l=true):Made l:=by
 simp only [Aq,Bool.and_eq_true] at h;obtain ⟨h1,h2,h3,h4⟩:=h;have h1:=Nat.le_of_ble_eq_true h1;have h2:=Nat.le_of_ble_eq_true h2;exact ⟨by unfold len; omega,by unfold len; omega,we h3,zm h4⟩
def Cc (w h:Int):List aV:=[((dU .i64 w),(dU .i64 h),()),(w,(dU .i64 h),()),(w,h,()),((dU .i64 w),h,())]
def Ck (w h:Int):List aV:=[((dU .i64 w),(dU .i64 h),()),((bQ .i64 w (eo .i64 (fH w h) 2)),(dU .i64 h),()),(w,(bQ .i64 (eo .i64 (fH w h) 2) h),()),(w,h,()),((dU .i64 w),h,())]
def CD (w h:Int):List aV:=[((dU .i64 w),0,()),(0,(dU .i64 h),()),(w,0,()),(0,h,())]
theorem zI {l:List aV} (h:Made l):kg l:=⟨h.1,by have:=h.2.1; omega,Du h.2.2.1,h.2.2.2⟩
def shift (l:List aV) (p:aV):List aV:=l.map fun a=>(a.1+p.1,a.2.1+p.2.1,())
end Go.Proofs.T1
