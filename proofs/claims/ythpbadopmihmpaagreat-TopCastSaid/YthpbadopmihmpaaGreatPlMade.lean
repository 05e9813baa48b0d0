import Derived.Test.YthpbadopmihmpaaGreatPlPoly
import Derived.Test.YthpbadopmihmpaaGreatG9
namespace Go.Proofs.T1
open Go Go.Sx
theorem irem_range (a:Int) {m:Int} (hm:0<m):-m<irem a m∧irem a m<m:=by
 unfold irem
 constructor
 ·have:=Int.lt_tmod_of_pos a hm; omega
 ·exact Int.tmod_lt_of_pos a hm
end Go.Proofs.T1
namespace Go.Proofs.T1
open Go Go.Sx
def tourmake_Poly (k:Nat) (a0:(List Int)):Option (List V26) :=
 bnd (tourmake_poly k (a0,())) fun y1 =>
 some y1.2
end Go.Proofs.T1
namespace Go.Proofs.T1
open Go Go.Sx
theorem Below_eq (k:Nat) (x:Int) {n:Int} (h0:0<n) (h1:n≤4611686018427387904):∃ y,tourmake_Below k x n=some y∧0≤y∧y<n:=by
 have hr:=irem_range x h0
 unfold tourmake_Below
 rw [rP (show nz n by unfold nz; omega)]
 by_cases h:irem x n<0
 ·rw [ilt_pos h,bT,iadd_i64 (by omega) (by omega)]
  exact ⟨_,rfl,by omega,by omega⟩
 ·rw [ilt_neg (by omega),bF]
  exact ⟨_,rfl,by omega,by omega⟩
theorem Next_eq (k:Nat) (s:(List Int) × Unit) {n:Int} (h0:0<n) (h1:n≤4611686018427387904):∃ s' y,tourmake_Stream_Next k s n=some (s',y)∧0≤y∧y<n:=by
 unfold tourmake_Stream_Next tourmake_Stream_Next.c1
 by_cases h:len s.1=0
 ·rw [ieq_pos h,bT,bS,bT]
  exact ⟨s,0,rfl,by omega,by omega⟩
 ·rw [ieq_neg h,bF,ilt_neg (by omega),bS,bF]
  have hl:0<len s.1:=by unfold len at *; omega
  have hc:cutOk s.1 1 (List.length s.1:Int):=⟨by decide,by unfold len at hl; omega,by omega⟩
  obtain ⟨y,e,a,b⟩:=Below_eq k (el 0 s.1 0) h0 h1
  rw [rP (inL_of (by omega) hl),rP hc,e,bS]
  exact ⟨_,_,rfl,a,b⟩
def edgeB (l:List V26):Bool:=(List.range l.length).all fun i=>(List.range l.length).all fun j =>
 Nat.beq j i || (Nat.beq j (if i+1=l.length then 0 else i+1) || decide (0<tri (l.getD i Z26) (l.getD (if i+1=l.length then 0 else i+1) Z26) (l.getD j Z26)))
theorem edgeB_ok {l:List V26} (h:edgeB l=true):EdgeP l:=by
 intro i j h0 h1 h2 h3 h4 h5
 obtain ⟨i,rfl⟩:=Int.eq_ofNat_of_zero_le h0
 obtain ⟨j,rfl⟩:=Int.eq_ofNat_of_zero_le h2
 have hi:i<l.length:=by unfold len at h1; omega
 have hj:j<l.length:=by unfold len at h3; omega
 have h6:=List.all_eq_true.1 (List.all_eq_true.1 h i (List.mem_range.2 hi)) j (List.mem_range.2 hj)
 have hnx:nx (len l) (i:Int)=((if i+1=l.length then 0 else i+1:Nat):Int):=by
  unfold nx len
  split <;> split <;> omega
 simp only [Bool.or_eq_true,decide_eq_true_eq] at h6
 rcases h6 with h6 | h6 | h6
 ·exact absurd (congrArg Int.ofNat (Nat.eq_of_beq_eq_true h6)) h4
 ·rw [hnx] at h5
  exact absurd (congrArg Int.ofNat (Nat.eq_of_beq_eq_true h6)) h5
 ·rw [hnx]
  exact h6
theorem EdgeP_three {a b c:V26} (h:0<tri a b c):EdgeP [a,b,c]:=by
 apply Trip_Edge
 intro i j m h0 h1 h2 h3
 have hl:len [a,b,c]=3:=rfl
 have:i=0:=by omega
 have:j=1:=by omega
 have:m=2:=by omega
 subst i j m
 exact h
def allB (l:List V26):Bool:=l.all fun p=>decide (-262144≤p.1∧p.1≤262144∧-262144≤p.2.1∧p.2.1≤262144)
def All4 (l:List V26):Prop:=∀ i,0≤i→i<len l→-262144≤(q l i).1∧(q l i).1≤262144∧-262144≤(q l i).2.1∧(q l i).2.1≤262144
theorem allB_ok {l:List V26} (h:allB l=true):All4 l:=by
 intro i h0 h1
 obtain ⟨i,rfl⟩:=Int.eq_ofNat_of_zero_le h0
 have hi:i<l.length:=by unfold len at h1; omega
 have h2:=List.all_eq_true.1 h (l[i]) (List.getElem_mem hi)
 simp only [decide_eq_true_eq] at h2
 have:q l (i:Int)=l[i]:=by
  show l.getD i Z26=_
  rw [List.getD_eq_getElem?_getD,List.getElem?_eq_getElem hi]
  rfl
 rw [this]
 exact h2
theorem All4_W {l:List V26} (h:All4 l):AllW l:=fun i h0 h1=>by
 have:=h i h0 h1
 unfold Wn
 omega
def Made (l:List V26):Prop:=3≤len l∧len l≤5∧All4 l∧EdgeP l
def madeB (l:List V26):Bool:=Nat.ble 3 l.length && (Nat.ble l.length 5 && (allB l && edgeB l))
theorem madeB_ok {l:List V26} (h:madeB l=true):Made l:=by
 simp only [madeB,Bool.and_eq_true] at h
 obtain ⟨h1,h2,h3,h4⟩:=h
 have h1:=Nat.le_of_ble_eq_true h1
 have h2:=Nat.le_of_ble_eq_true h2
 exact ⟨by unfold len; omega,by unfold len; omega,allB_ok h3,edgeB_ok h4⟩
def made0 (w h:Int):List V26:=[((ineg .i64 w),(ineg .i64 h),()),(w,(ineg .i64 h),()),(w,h,()),((ineg .i64 w),h,())]
def made2 (w h:Int):List V26:=[((ineg .i64 w),(ineg .i64 h),()),((isub .i64 w (iquo .i64 (imin w h) 2)),(ineg .i64 h),()),(w,(isub .i64 (iquo .i64 (imin w h) 2) h),()),(w,h,()),((ineg .i64 w),h,())]
def made3 (w h:Int):List V26:=[((ineg .i64 w),0,()),(0,(ineg .i64 h),()),(w,0,()),(0,h,())]
theorem Made_val {l:List V26} (h:Made l):Val l:=⟨h.1,by have:=h.2.1; omega,All4_W h.2.2.1,h.2.2.2⟩
def shift (l:List V26) (p:V26):List V26:=l.map fun a=>(a.1+p.1,a.2.1+p.2.1,())
theorem len_shift (l:List V26) (p:V26):len (shift l p)=len l:=by unfold len shift; simp
theorem q_shift {l:List V26} {p:V26} {i:Int} (h0:0≤i) (h1:i<len l):q (shift l p) i=((q l i).1+p.1,(q l i).2.1+p.2.1,()):=by
 obtain ⟨i,rfl⟩:=Int.eq_ofNat_of_zero_le h0
 have hi:i<l.length:=by unfold len at h1; omega
 show (shift l p).getD i Z26=_
 have:q l (i:Int)=l[i]:=by
  show l.getD i Z26=_
  rw [List.getD_eq_getElem?_getD,List.getElem?_eq_getElem hi]
  rfl
 rw [this,List.getD_eq_getElem?_getD]
 unfold shift
 rw [List.getElem?_map,List.getElem?_eq_getElem hi]
 rfl
theorem tri_shift (a b c p:V26):tri (a.1+p.1,a.2.1+p.2.1,()) (b.1+p.1,b.2.1+p.2.1,()) (c.1+p.1,c.2.1+p.2.1,())=tri a b c:=by unfold tri; grind
theorem Val_shift {l:List V26} {p:V26} (h:Val l) (hw:AllW (shift l p)):Val (shift l p):=by
 refine ⟨by rw [len_shift]; exact h.1,by rw [len_shift]; exact h.2.1,hw,?_⟩
 intro i j h0 h1 h2 h3 h4 h5
 rw [len_shift] at *
 have hn:=nx_range h0 h1
 rw [q_shift h0 h1,q_shift hn.1 hn.2,q_shift h2 h3,tri_shift]
 exact h.2.2.2 i j h0 h1 h2 h3 h4 h5
end Go.Proofs.T1
