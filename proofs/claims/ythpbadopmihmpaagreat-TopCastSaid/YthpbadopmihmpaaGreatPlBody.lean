import Derived.Test.YthpbadopmihmpaaGreatPlMid
import Derived.Test.YthpbadopmihmpaaGreatG5
import Derived.Test.YthpbadopmihmpaaGreatG6
namespace Go.Proofs.T1
open Go Go.Sx
theorem eqb24 (a b:V26):Ty.eqb T26 a b=decide (a=b):=by
 obtain ⟨a1,a2,u⟩:=a
 obtain ⟨b1,b2,u'⟩:=b
 show (ieq a1 b1 && (ieq a2 b2 && true))=_
 by_cases h1:a1=b1
 ·by_cases h2:a2=b2
  ·rw [ieq_pos h1,ieq_pos h2]; subst h1 h2; exact (decide_eq_true rfl).symm
  ·rw [ieq_pos h1,ieq_neg h2]; exact (decide_eq_false (fun h=>h2 (congrArg (fun v=>v.2.1) h))).symm
 ·rw [ieq_neg h1]; exact (decide_eq_false (fun h=>h1 (congrArg Prod.fst h))).symm
end Go.Proofs.T1
namespace Go.Proofs.T1
open Go Go.Sx
theorem bwithin_eq (k:Nat) (a:V26) {m:Int} (h0:0≤m) (h1:m≤9223372036854775807):body_within k a m=some (decide (-m≤a.1∧a.1≤m∧-m≤a.2.1∧a.2.1≤m)):=by
 have n1:ineg .i64 m=-m:=by unfold ineg; rw [wrap_i64 (by omega) (by omega)]; omega
 unfold body_within
 rw [n1]
 by_cases a1:-m≤a.1
 ·rw [ige_pos a1,bT]
  by_cases a2:a.1≤m
  ·rw [ile_pos a2,bT]
   by_cases a3:-m≤a.2.1
   ·rw [ige_pos a3,bT]
    unfold ile
    congr 1
    exact decide_eq_decide.2 ⟨fun h=>⟨a1,a2,a3,h⟩,fun h=>h.2.2.2⟩
   ·rw [ige_neg (by omega),bF,decide_eq_false (fun h=>a3 h.2.2.1)]
  ·rw [ile_neg (by omega),bF,decide_eq_false (fun h=>a2 h.2.1)]
 ·rw [ige_neg (by omega),bF,decide_eq_false (fun h=>a1 h.1)]
end Go.Proofs.T1
namespace Go.Proofs.T1
open Go Go.Sx
def vsub (a c:V26):V26:=(a.1 - c.1,a.2.1 - c.2.1,())
def AllR (l:List V26):Prop:=∀ i,0≤i→i<len l→-2097152≤(q l i).1∧(q l i).1≤2097152∧-2097152≤(q l i).2.1∧(q l i).2.1≤2097152
end Go.Proofs.T1
namespace Go.Proofs.T1
open Go Go.Sx
theorem Made_R {l:List V26} (h:Made l):AllR l:=fun i a b=>by have:=h.2.2.1 i a b; omega
end Go.Proofs.T1
namespace Go.Proofs.T1
open Go Go.Sx
theorem Poly_kind (k:Nat) (raw:List Int):∃ (l:List V26) (a b:Nat),tourmake_Poly k raw=some l∧a<4∧b<4 ∧
  (l=made0 ((a+1)*65536) ((b+1)*65536)∨l=made2 ((a+1)*65536) ((b+1)*65536)∨l=made3 ((a+1)*65536) ((b+1)*65536) ∨
   ∃ x:Int,-(((a:Int)+1)*65536)≤x∧x<((a:Int)+1)*65536∧l=[(-(((a:Int)+1)*65536),-(((b:Int)+1)*65536),()),(((a:Int)+1)*65536,-(((b:Int)+1)*65536),()),(x,((b:Int)+1)*65536,())]):=by
 unfold tourmake_Poly tourmake_poly
 obtain ⟨s1,a,e1,a0,a1⟩:=Next_eq k (raw,()) (n:=4) (by decide) (by decide)
 obtain ⟨s2,b,e2,b0,b1⟩:=Next_eq k s1 (n:=4) (by decide) (by decide)
 obtain ⟨s3,c,e3,c0,c1⟩:=Next_eq k s2 (n:=4) (by decide) (by decide)
 rw [e1,bS,e2,bS,e3,bS]
 dsimp only
 have hw:imul .i64 (iadd .i64 1 a) 65536=(a+1)*65536:=by rw [iadd_i64 (by omega) (by omega),imul_i64 (by omega) (by omega)]; omega
 have hh:imul .i64 (iadd .i64 1 b) 65536=(b+1)*65536:=by rw [iadd_i64 (by omega) (by omega),imul_i64 (by omega) (by omega)]; omega
 rw [hw,hh]
 obtain ⟨a,rfl⟩:=Int.eq_ofNat_of_zero_le a0
 obtain ⟨b,rfl⟩:=Int.eq_ofNat_of_zero_le b0
 by_cases h0:c=0
 ·rw [ieq_pos h0,bT,bS]
  exact ⟨_,a,b,rfl,by omega,by omega,Or.inl rfl⟩
 rw [ieq_neg h0,bF]
 by_cases h1:c=1
 ·rw [ieq_pos h1,bT]
  have hW:(65536:Int)≤((a:Int)+1)*65536∧((a:Int)+1)*65536≤262144:=by omega
  have hH:(65536:Int)≤((b:Int)+1)*65536∧((b:Int)+1)*65536≤262144:=by omega
  rw [imul_i64 (x:=2) (by omega) (by omega)]
  obtain ⟨s4,x,e4,x0,x1⟩:=Next_eq k s3 (n:=2*(((a:Int)+1)*65536)) (by omega) (by omega)
  rw [e4,bS,bS]
  dsimp only
  have en:ineg .i64 (((a:Int)+1)*65536)=-(((a:Int)+1)*65536):=by unfold ineg; rw [wrap_i64 (by omega) (by omega)]; omega
  have en2:ineg .i64 (((b:Int)+1)*65536)=-(((b:Int)+1)*65536):=by unfold ineg; rw [wrap_i64 (by omega) (by omega)]; omega
  rw [en,en2,isub_i64 (by omega) (by omega)]
  exact ⟨_,a,b,rfl,by omega,by omega,Or.inr (Or.inr (Or.inr ⟨x - (((a:Int)+1)*65536),by omega,by omega,rfl⟩))⟩
 rw [ieq_neg h1,bF]
 by_cases h2:c=2
 ·rw [ieq_pos h2,bT,bS]
  exact ⟨_,a,b,rfl,by omega,by omega,Or.inr (Or.inl rfl)⟩
 ·rw [ieq_neg h2,bF,bS]
  exact ⟨_,a,b,rfl,by omega,by omega,Or.inr (Or.inr (Or.inl rfl))⟩
end Go.Proofs.T1
namespace Go.Proofs.T1
open Go Go.Sx
def EdgeT (l:List V26):Prop:=∀ i j,0≤i→i<len l→0≤j→j<len l→j≠i→j≠nx (len l) i→1073741824≤tri (q l i) (q l (nx (len l) i)) (q l j)
def Solid (l:List V26):Prop:=Made l∧EdgeT l∧InP l Z26
def edgeTB (l:List V26):Bool:=(List.range l.length).all fun i=>(List.range l.length).all fun j =>
 Nat.beq j i || (Nat.beq j (if i+1=l.length then 0 else i+1) || decide (1073741824≤tri (l.getD i Z26) (l.getD (if i+1=l.length then 0 else i+1) Z26) (l.getD j Z26)))
theorem nx_nat {l:List V26} (i:Nat):nx (len l) (i:Int)=((if i+1=l.length then 0 else i+1:Nat):Int):=by
 unfold nx len
 split <;> split <;> omega
theorem edgeTB_ok {l:List V26} (h:edgeTB l=true):EdgeT l:=by
 intro i j h0 h1 h2 h3 h4 h5
 obtain ⟨i,rfl⟩:=Int.eq_ofNat_of_zero_le h0
 obtain ⟨j,rfl⟩:=Int.eq_ofNat_of_zero_le h2
 have hi:i<l.length:=by unfold len at h1; omega
 have hj:j<l.length:=by unfold len at h3; omega
 have h6:=List.all_eq_true.1 (List.all_eq_true.1 h i (List.mem_range.2 hi)) j (List.mem_range.2 hj)
 simp only [Bool.or_eq_true,decide_eq_true_eq] at h6
 rcases h6 with h6 | h6 | h6
 ·exact absurd (congrArg Int.ofNat (Nat.eq_of_beq_eq_true h6)) h4
 ·rw [nx_nat] at h5
  exact absurd (congrArg Int.ofNat (Nat.eq_of_beq_eq_true h6)) h5
 ·rw [nx_nat]
  exact h6
def inB (l:List V26):Bool:=(List.range l.length).all fun i=>decide (0≤tri (l.getD i Z26) (l.getD (if i+1=l.length then 0 else i+1) Z26) Z26)
theorem inB_ok {l:List V26} (h:inB l=true):InP l Z26:=by
 intro i h0 h1
 obtain ⟨i,rfl⟩:=Int.eq_ofNat_of_zero_le h0
 have hi:i<l.length:=by unfold len at h1; omega
 have h6:=List.all_eq_true.1 h i (List.mem_range.2 hi)
 simp only [decide_eq_true_eq] at h6
 rw [nx_nat]
 exact h6
def solidB (l:List V26):Bool:=madeB l && (edgeTB l && inB l)
theorem solidB_ok {l:List V26} (h:solidB l=true):Solid l:=by
 simp only [solidB,Bool.and_eq_true] at h
 exact ⟨madeB_ok h.1,edgeTB_ok h.2.1,inB_ok h.2.2⟩
theorem solid_table:(List.range 4).all (fun a=>(List.range 4).all fun b=>solidB (made0 ((a+1)*65536) ((b+1)*65536)) && (solidB (made2 ((a+1)*65536) ((b+1)*65536)) && solidB (made3 ((a+1)*65536) ((b+1)*65536))))=true:=by decide +kernel
theorem solid_tri {W H x:Int} (hW0:65536≤W) (hW1:W≤262144) (hH0:65536≤H) (hH1:H≤262144) (h0:-W≤x) (h1:x<W):Solid [(-W,-H,()),(W,-H,()),(x,H,())]:=by
 have hWH:(65536:Int)*65536≤W*H:=Int.mul_le_mul hW0 hH0 (by decide) (by omega)
 have e012:tri (-W,-H,()) (W,-H,()) (x,H,())=4*(W*H):=by unfold tri; dsimp only; grind
 have hm:Made [(-W,-H,()),(W,-H,()),(x,H,())]:=by
  refine ⟨by show (3:Int)≤3; decide,by show (3:Int)≤5; decide,?_,EdgeP_three (by rw [e012]; omega)⟩
  apply allB_ok
  simp only [allB,List.all_cons,List.all_nil,Bool.and_true,Bool.and_eq_true,decide_eq_true_eq]
  omega
 have ha:0≤H*(x+W):=Int.mul_nonneg (by omega) (by omega)
 have hb:0≤H*(W - x):=Int.mul_nonneg (by omega) (by omega)
 refine ⟨hm,?_,?_⟩
 ·generalize hl:[(-W,-H,()),(W,-H,()),(x,H,())]=l at *
  have hlen:len l=3:=by rw [← hl]; rfl
  intro i j i0 i1 j0 j1 hji hjn
  have q0:q l 0=(-W,-H,()):=by rw [← hl]; rfl
  have q1:q l 1=(W,-H,()):=by rw [← hl]; rfl
  have q2:q l 2=(x,H,()):=by rw [← hl]; rfl
  rw [hlen] at *
  have hi:i=0∨i=1∨i=2:=by omega
  rcases hi with h | h | h <;> subst h
  ·rw [show nx 3 0=1 from rfl] at *
   have:j=2:=by omega
   subst this
   rw [q0,q1,q2,e012]
   omega
  ·rw [show nx 3 1=2 from rfl] at *
   have:j=0:=by omega
   subst this
   rw [q0,q1,q2,← tri_cyc,e012]
   omega
  ·rw [show nx 3 2=0 from rfl] at *
   have:j=1:=by omega
   subst this
   rw [q0,q1,q2,tri_cyc,e012]
   omega
 ·generalize hl:[(-W,-H,()),(W,-H,()),(x,H,())]=l at *
  have hlen:len l=3:=by rw [← hl]; rfl
  intro i i0 i1
  have q0:q l 0=(-W,-H,()):=by rw [← hl]; rfl
  have q1:q l 1=(W,-H,()):=by rw [← hl]; rfl
  have q2:q l 2=(x,H,()):=by rw [← hl]; rfl
  rw [hlen] at *
  have hi:i=0∨i=1∨i=2:=by omega
  rcases hi with h | h | h <;> subst h
  ·rw [show nx 3 0=1 from rfl,q0,q1]
   have e:tri (-W,-H,()) (W,-H,()) Z26=2*(W*H):=by unfold tri; dsimp only; grind
   rw [e]
   omega
  ·rw [show nx 3 1=2 from rfl,q1,q2]
   have e:tri (W,-H,()) (x,H,()) Z26=H*(x+W):=by unfold tri; dsimp only; grind
   rw [e]
   exact ha
  ·rw [show nx 3 2=0 from rfl,q2,q0]
   have e:tri (x,H,()) (-W,-H,()) Z26=H*(W - x):=by unfold tri; dsimp only; grind
   rw [e]
   exact hb
theorem Poly_solid (k:Nat) (raw:List Int):∃ l,tourmake_Poly k raw=some l∧Solid l:=by
 obtain ⟨l,a,b,e,ha,hb,h⟩:=Poly_kind k raw
 refine ⟨l,e,?_⟩
 have T:=List.all_eq_true.1 (List.all_eq_true.1 solid_table a (List.mem_range.2 ha)) b (List.mem_range.2 hb)
 simp only [Bool.and_eq_true] at T
 rcases h with h | h | h | ⟨x,h0,h1,h⟩
 ·rw [h]; exact solidB_ok T.1
 ·rw [h]; exact solidB_ok T.2.1
 ·rw [h]; exact solidB_ok T.2.2
 ·rw [h]; exact solid_tri (by omega) (by omega) (by omega) (by omega) h0 h1
theorem size_eq (k:Nat) {v:V26} {M:Int} (hM:M≤1000000000) (h:-M≤v.1∧v.1≤M∧-M≤v.2.1∧v.2.1≤M):∃ s,body_size k v=some s∧0≤s∧s≤2*M:=by
 have n1:ineg .i64 v.1=-v.1:=by unfold ineg; rw [wrap_i64 (by omega) (by omega)]; omega
 have n2:ineg .i64 v.2.1=-v.2.1:=by unfold ineg; rw [wrap_i64 (by omega) (by omega)]; omega
 have a1:0≤imax v.1 (-v.1)∧imax v.1 (-v.1)≤M:=by unfold imax; split <;> omega
 have a2:0≤imax v.2.1 (-v.2.1)∧imax v.2.1 (-v.2.1)≤M:=by unfold imax; split <;> omega
 unfold body_size
 rw [n1,n2,iadd_i64 (by omega) (by omega)]
 exact ⟨_,rfl,by omega,by omega⟩
theorem fat_c3 (k:Nat) {l:List V26} (hm:Made l) (ht:EdgeT l) {i j:Int} (i0:0≤i) (i1:i<len l) (j0:0≤j) (j1:j<len l):body_fat.c3 k l i j=some false:=by
 have h5:=hm.2.1
 have hn:=nx_range i0 i1
 have hi:=hm.2.2.1 i i0 i1
 have hj:=hm.2.2.1 j j0 j1
 have hx:=hm.2.2.1 _ hn.1 hn.2
 unfold body_fat.c3
 by_cases a:j=i
 ·rw [ine_neg a,bF]
 rw [ine_pos a,bT,rP (show nz (len l) by unfold nz; omega),irem_nx i0 i1 (by omega)]
 by_cases b:j=nx (len l) i
 ·rw [ine_neg b,bF]
 rw [ine_pos b,bT]
 have hT:=ht i j i0 i1 j0 j1 a b
 have hq1:el Z26 l i=q l i:=rfl
 have hq2:el Z26 l (nx (len l) i)=q l (nx (len l) i):=rfl
 have hq3:el Z26 l j=q l j:=rfl
 rw [hq1,hq2,hq3]
 have s1:isub .i64 (q l (nx (len l) i)).1 (q l i).1=(q l (nx (len l) i)).1 - (q l i).1:=isub_i64 (by omega) (by omega)
 have s2:isub .i64 (q l (nx (len l) i)).2.1 (q l i).2.1=(q l (nx (len l) i)).2.1 - (q l i).2.1:=isub_i64 (by omega) (by omega)
 have s3:isub .i64 (q l j).1 (q l i).1=(q l j).1 - (q l i).1:=isub_i64 (by omega) (by omega)
 have s4:isub .i64 (q l j).2.1 (q l i).2.1=(q l j).2.1 - (q l i).2.1:=isub_i64 (by omega) (by omega)
 rw [s1,s2,s3,s4]
 obtain ⟨u,e1,u0,u1⟩:=size_eq k (v:=((q l (nx (len l) i)).1 - (q l i).1,(q l (nx (len l) i)).2.1 - (q l i).2.1,())) (M:=524288) (by decide) (by dsimp only; omega)
 obtain ⟨w,e2,w0,w1⟩:=size_eq k (v:=((q l j).1 - (q l i).1,(q l j).2.1 - (q l i).2.1,())) (M:=524288) (by decide) (by dsimp only; omega)
 have p1:=mul_bd (x:=(q l (nx (len l) i)).1 - (q l i).1) (y:=(q l j).2.1 - (q l i).2.1) (M:=524288) (N:=524288) (by omega) (by omega) (by omega) (by omega)
 have p2:=mul_bd (x:=(q l (nx (len l) i)).2.1 - (q l i).2.1) (y:=(q l j).1 - (q l i).1) (M:=524288) (N:=524288) (by omega) (by omega) (by omega) (by omega)
 rw [e1,bS,e2,bS,imul_i64 (x:=(q l (nx (len l) i)).1 - (q l i).1) (by omega) (by omega),imul_i64 (x:=(q l (nx (len l) i)).2.1 - (q l i).2.1) (by omega) (by omega),isub_i64 (by omega) (by omega),iadd_i64 (by omega) (by omega),imul_i64 (by omega) (by omega)]
 have:tri (q l i) (q l (nx (len l) i)) (q l j)=((q l (nx (len l) i)).1 - (q l i).1)*((q l j).2.1 - (q l i).2.1) - ((q l (nx (len l) i)).2.1 - (q l i).2.1)*((q l j).1 - (q l i).1):=rfl
 rw [ilt_neg (by omega)]
theorem fat_eq {k:Nat} (hk:9≤k) {l:List V26} (hm:Made l) (ht:EdgeT l):body_fat k l=some true:=by
 have h5:=hm.2.1
 have h3:=hm.1
 have c2:∀ i,0≤i→i<len l→body_fat.c2 k l i k 0=some (.inr ()):=by
  intro i i0 i1
  have H:=find_loop (fun n v=>body_fat.c2 k l i n v) 0 (len l) (fun _=>False) (fun _=>())
   (by intro n v _ _ h; exact h.elim)
   (by
    intro n v a b _
    show body_fat.c2 k l i (n+1) v=body_fat.c2 k l i n (v+1)
    rw [body_fat.c2,ilt_pos b,bT,rP (inL_of a b),fat_c3 k hm ht i0 i1 a b,bS,bF,iadd_i64 (by omega) (by omega)])
   (by
    intro n v a b
    show body_fat.c2 k l i (n+1) v=_
    rw [body_fat.c2,ilt_neg b,bF])
   k 0 (by omega) (by omega)
  rcases H with ⟨_,_,_,h,_⟩ | ⟨_,h⟩
  ·exact h.elim
  ·exact h (by omega)
 have H:=find_loop (fun n v=>body_fat.c1 k l n v) 0 (len l) (fun _=>False) (fun _=>())
  (by intro n v _ _ h; exact h.elim)
  (by
   intro n v a b _
   show body_fat.c1 k l (n+1) v=body_fat.c1 k l n (v+1)
   have hn:=nx_range a b
   rw [body_fat.c1,ilt_pos b,bT,rP (inL_of a b),rP (show nz (len l) by unfold nz; omega),irem_nx a b (by omega),rP (inL_of hn.1 hn.2),c2 v a b,bS,two_inr,iadd_i64 (by omega) (by omega)])
  (by
   intro n v a b
   show body_fat.c1 k l (n+1) v=_
   rw [body_fat.c1,ilt_neg b,bF])
  k 0 (by omega) (by omega)
 unfold body_fat
 rcases H with ⟨_,_,_,h,_⟩ | ⟨_,h⟩
 ·exact h.elim
 ·have h:body_fat.c1 k l k 0=some (.inr ()):=h (by omega)
  rw [h,bS,two_inr]
open Classical in
theorem shape_eq {k:Nat} (hk:9≤k) {l:List V26} (h:Solid l):body_shape k l=some 0:=by
 have hv:=Made_val h.1
 have h5:=h.1.2.1
 have hf:∀ x:V26,(fun x:(V26 × Unit)=>body_shape_1 k (x.1)) (x,())=some (!decide (-2097152≤x.1∧x.1≤2097152∧-2097152≤x.2.1∧x.2.1≤2097152)):=by
  intro x
  show body_shape_1 k x=_
  unfold body_shape_1
  rw [bwithin_eq k x (by decide) (by decide),bS]
 have hcont:=Contains_no (l:=l) (k:=k) (f:=fun x:(V26 × Unit)=>body_shape_1 k (x.1)) (by omega) (by omega) (g:=fun x=>!decide (-2097152≤x.1∧x.1≤2097152∧-2097152≤x.2.1∧x.2.1≤2097152)) hf
 have hcf:slices_ContainsFunc k l (fun x:(V26 × Unit)=>body_shape_1 k (x.1))=some false:=by
  rcases hcont with ⟨_,i,i0,i1,i2⟩ | ⟨g,_⟩
  ·have:=Made_R h.1 i i0 i1
   simp [this] at i2
  ·exact g
 have hhas:poly_Has k l (0,0,())=some true:=by
  rw [Has_val hk hv]
  congr 1
  exact decide_eq_true ⟨by decide,h.2.2⟩
 unfold body_shape body_shape.c1
 rw [Check_val hk hv,bS,ine_neg rfl,bF,hcf,bS,bF,fat_eq hk h.1 h.2.1,bS,bT,hhas,bS,bS]
 rfl
theorem chk1 (k:Nat) {n a b:Int} (h:a≤n∧n≤b):body_Check_1 k n a b=some true:=by
 unfold body_Check_1
 rw [ige_pos (by omega),bT,ile_pos h.2]
theorem bodyCheck_ok {k:Nat} (hk:9≤k) {l:List V26} (h:Solid l) {p v:V26} {ang spin mass inertia bounce rub calm:Int} {asleep:Bool}
  (hp:-58982400≤p.1∧p.1≤58982400∧-58982400≤p.2.1∧p.2.1≤58982400) (hvv:-268435456≤v.1∧v.1≤268435456∧-268435456≤v.2.1∧v.2.1≤268435456) (hs:-16777216≤spin∧spin≤16777216)
  (ha:0≤ang∧ang≤65535) (hm:0≤mass∧mass≤1099511627776) (hi:0≤inertia∧inertia≤1099511627776) (hb:0≤bounce∧bounce≤65536) (hr:0≤rub∧rub≤65536) (hc:0≤calm∧calm≤1000)
  (hmi:mass=0↔inertia=0) (h0:mass=0→v=(0,0,())∧spin=0∧asleep=false∧calm=0) (h1:asleep=true→v=(0,0,())∧spin=0) :
  body_Check k (p,v,ang,spin,mass,inertia,bounce,rub,l,asleep,calm,())=some 0:=by
 have e1:body_Check.c1 k (p,v,ang,spin,mass,inertia,bounce,rub,l,asleep,calm,())=some false:=by
  unfold body_Check.c1
  dsimp only
  rw [bwithin_eq k p (by decide) (by decide),bS,decide_eq_true (by omega),bT,bwithin_eq k v (by decide) (by decide),bS,decide_eq_true (by omega),bT,chk1 k (by omega),bS,bT,chk1 k (by omega),bS]
  rfl
 have e2:body_Check.c2 k (p,v,ang,spin,mass,inertia,bounce,rub,l,asleep,calm,())=some false:=by
  unfold body_Check.c2
  dsimp only
  rw [chk1 k (by omega),bS,bT,chk1 k (by omega),bS,bT,chk1 k (by omega),bS,bT,chk1 k (by omega),bS,bT,chk1 k (by omega),bS]
  rfl
 have e3:body_Check.c3 k (p,v,ang,spin,mass,inertia,bounce,rub,l,asleep,calm,())=some (decide (v=(0,0,())∧spin=0)):=by
  unfold body_Check.c3
  dsimp only
  have hq:=eqb24 v (0,0,())
  refine (congrArg (fun b=>bif' b (some (ieq spin 0)) (some false)) hq).trans ?_
  by_cases a:v=(0,0,())
  ·rw [decide_eq_true a,bT]
   unfold ieq
   congr 1
   rw [decide_eq_decide]
   exact ⟨fun h=>⟨a,h⟩,fun h=>h.2⟩
  ·rw [decide_eq_false a,bF,decide_eq_false (fun h=>a h.1)]
 have e4:∀ st:Bool,st=decide (v=(0,0,())∧spin=0)→body_Check.c4 k (p,v,ang,spin,mass,inertia,bounce,rub,l,asleep,calm,()) st=some false:=by
  intro st hst
  unfold body_Check.c4
  dsimp only
  have hq:Ty.eqb T4 (ieq mass (0:Int)) (ieq inertia (0:Int))=true:=by
   show (ieq mass 0 == ieq inertia 0)=true
   unfold ieq
   rw [decide_eq_decide.2 hmi]
   exact beq_self_eq_true _
  refine (congrArg (fun b=>bif' b _ (some true)) hq).trans ?_
  rw [bT]
  by_cases a:mass=0
  ·obtain ⟨b1,b2,b3,b4⟩:=h0 a
   rw [ieq_pos a,bT,hst,decide_eq_true ⟨b1,b2⟩,bT,b3,bF,ine_neg b4,bF]
  ·rw [ieq_neg a,bF]
   cases asleep with
   | false=>rw [bF]
   | true=>rw [bT,hst,decide_eq_true (h1 rfl)]; rfl
 unfold body_Check
 dsimp only
 rw [shape_eq hk h,bS,ine_neg rfl,bF,e1,bS,bF,e2,bS,bF,e3,bS,e4 _ rfl,bS,bF]
end Go.Proofs.T1
namespace Go.Proofs.T1
open Go Go.Sx
theorem bnd_eq {α β:Type} {x:Option α} {f:α→Option β} {y:β} (h:bnd x f=some y):∃ z,x=some z∧f z=some y:=by
 cases x with
 | none=>cases h
 | some z=>exact ⟨z,rfl,h⟩
theorem half_eq {y c:Int} (h0:0≤y) (h1:y≤1000) (c0:0≤c) (c1:c≤1000):iquo .i64 (imul .i64 (isub .i64 y c) 65536) 2=(y - c)*32768:=by
 rw [isub_i64 (by omega) (by omega),imul_i64 (by omega) (by omega)]
 unfold iquo
 have e:(y - c)*65536=(y - c)*32768*2:=by omega
 rw [e,Int.mul_tdiv_cancel _ (by decide),wrap_i64 (by omega) (by omega)]
structure BMade (p v:V26) (ang spin mass inertia bounce rub:Int) (l:List V26):Prop where
 hl:Solid l
 hp:-655360≤p.1∧p.1≤655360∧-655360≤p.2.1∧p.2.1≤655360
 hv:-327680≤v.1∧v.1≤327680∧-327680≤v.2.1∧v.2.1≤327680
 hang:0≤ang∧ang≤65535
 hspin:-32768≤spin∧spin≤32767
 hbounce:0≤bounce∧bounce≤65536
 hrub:0≤rub∧rub≤65536
 hw:(mass=0∧inertia=0∧v=(0,0,())∧spin=0)∨(65536≤mass∧mass≤524288∧65536≤inertia∧inertia≤1966080)
section
variable {p v:V26} {ang spin mass inertia bounce rub:Int} {l:List V26}
theorem BMade.check {k:Nat} (hk:9≤k) (h:BMade p v ang spin mass inertia bounce rub l):body_Check k (p,v,ang,spin,mass,inertia,bounce,rub,l,false,0,())=some 0:=by
 have h1:=h.hp
 have h2:=h.hv
 have h3:=h.hspin
 have h4:=h.hw
 refine bodyCheck_ok hk h.hl (by omega) (by omega) (by omega) h.hang (by omega) (by omega) h.hbounce h.hrub (by decide) ?_ ?_ (fun h=>by cases h)
 ·omega
 ·intro hm
  rcases h4 with h4 | h4
  ·exact ⟨h4.2.2.1,h4.2.2.2,rfl,rfl⟩
  ·omega
end
end Go.Proofs.T1
namespace Go.Proofs.T1
open Go Go.Sx
theorem CM_CM (x:Int):CM (CM x)=CM x:=CM_in (CM_bd x).1 (CM_bd x).2
theorem MulDiv_tot {k:Nat} (hk:2≤k) (a b:Int) {c:Int} (hc:0<c) (hc':c≤1099511627776):fix_MulDiv k a b c=some (CM (rnd (CM a*CM b) c)):=by
 rw [← MulDiv_pos hk (CM_bd a) (CM_bd b) hc hc']
 unfold fix_MulDiv
 rw [Clamp_eq,bS,Clamp_eq,bS,Clamp_eq k (CM a),bS,Clamp_eq k (CM b),bS,CM_CM,CM_CM]
theorem FMul_tot {k:Nat} (hk:2≤k) (a b:Int):fix_Mul k a b=some (CM (rnd (CM a*CM b) 65536)):=by
 unfold fix_Mul
 rw [MulDiv_tot hk a b (by decide) (by decide),bS]
theorem FAdd_tot (k:Nat) (a b:Int):fix_Add k a b=some (CM (CM a+CM b)):=by
 have h1:=CM_bd a
 have h2:=CM_bd b
 unfold fix_Add
 rw [Clamp_eq,bS,Clamp_eq,bS,iadd_i64 (by omega) (by omega),Clamp_eq,bS]
theorem FSub_tot (k:Nat) (a b:Int):fix_Sub k a b=some (CM (CM a - CM b)):=by
 have h1:=CM_bd a
 have h2:=CM_bd b
 unfold fix_Sub
 rw [Clamp_eq,bS,Clamp_eq,bS,isub_i64 (by omega) (by omega),Clamp_eq,bS]
end Go.Proofs.T1
namespace Go.Proofs.T1
open Go Go.Sx
def sz (v:V26):Int:=mag v.1+mag v.2.1
def FatP (l:List V26):Prop:=∀ i j,0≤i→i<len l→0≤j→j<len l→j≠i→j≠nx (len l) i→8*(sz (vsub (q l (nx (len l) i)) (q l i))+sz (vsub (q l j) (q l i)))≤tri (q l i) (q l (nx (len l) i)) (q l j)
theorem imax_mag {x:Int} (h0:-1000000000000≤x) (h1:x≤1000000000000):imax x (ineg .i64 x)=mag x:=by
 have n1:ineg .i64 x=-x:=by unfold ineg; rw [wrap_i64 (by omega) (by omega)]; omega
 rw [n1]
 unfold imax mag
 split <;> split <;> omega
theorem mag_bd {x M:Int} (h0:-M≤x) (h1:x≤M):0≤mag x∧mag x≤M:=by unfold mag; split <;> omega
theorem size_gen (k:Nat) {v:V26} {M:Int} (hM:M≤1000000000) (h:-M≤v.1∧v.1≤M∧-M≤v.2.1∧v.2.1≤M):body_size k v=some (sz v)∧0≤sz v∧sz v≤2*M:=by
 have a1:=mag_bd h.1 h.2.1
 have a2:=mag_bd h.2.2.1 h.2.2.2
 unfold body_size sz
 rw [imax_mag (by omega) (by omega),imax_mag (by omega) (by omega),iadd_i64 (by omega) (by omega)]
 exact ⟨rfl,by omega,by omega⟩
theorem fat_c3g (k:Nat) {l:List V26} (h8:len l≤8) (hr:AllR l) {i j:Int} (i0:0≤i) (i1:i<len l) (j0:0≤j) (j1:j<len l) :
  body_fat.c3 k l i j=some (decide (j≠i∧j≠nx (len l) i∧tri (q l i) (q l (nx (len l) i)) (q l j)<8*(sz (vsub (q l (nx (len l) i)) (q l i))+sz (vsub (q l j) (q l i))))):=by
 have hn:=nx_range i0 i1
 have hi:=hr i i0 i1
 have hj:=hr j j0 j1
 have hx:=hr _ hn.1 hn.2
 unfold body_fat.c3
 by_cases a:j=i
 ·rw [ine_neg a,bF,decide_eq_false (fun h=>h.1 a)]
 rw [ine_pos a,bT,rP (show nz (len l) by unfold nz; omega),irem_nx i0 i1 (by omega)]
 by_cases b:j=nx (len l) i
 ·rw [ine_neg b,bF,decide_eq_false (fun h=>h.2.1 b)]
 rw [ine_pos b,bT]
 have hq1:el Z26 l i=q l i:=rfl
 have hq2:el Z26 l (nx (len l) i)=q l (nx (len l) i):=rfl
 have hq3:el Z26 l j=q l j:=rfl
 rw [hq1,hq2,hq3]
 have s1:isub .i64 (q l (nx (len l) i)).1 (q l i).1=(q l (nx (len l) i)).1 - (q l i).1:=isub_i64 (by omega) (by omega)
 have s2:isub .i64 (q l (nx (len l) i)).2.1 (q l i).2.1=(q l (nx (len l) i)).2.1 - (q l i).2.1:=isub_i64 (by omega) (by omega)
 have s3:isub .i64 (q l j).1 (q l i).1=(q l j).1 - (q l i).1:=isub_i64 (by omega) (by omega)
 have s4:isub .i64 (q l j).2.1 (q l i).2.1=(q l j).2.1 - (q l i).2.1:=isub_i64 (by omega) (by omega)
 rw [s1,s2,s3,s4]
 obtain ⟨e1,u0,u1⟩:=size_gen k (v:=vsub (q l (nx (len l) i)) (q l i)) (M:=4194304) (by decide) (by unfold vsub; dsimp only; omega)
 obtain ⟨e2,w0,w1⟩:=size_gen k (v:=vsub (q l j) (q l i)) (M:=4194304) (by decide) (by unfold vsub; dsimp only; omega)
 have e1':body_size k ((q l (nx (len l) i)).1 - (q l i).1,(q l (nx (len l) i)).2.1 - (q l i).2.1,())=some (sz (vsub (q l (nx (len l) i)) (q l i))):=e1
 have e2':body_size k ((q l j).1 - (q l i).1,(q l j).2.1 - (q l i).2.1,())=some (sz (vsub (q l j) (q l i))):=e2
 have p1:=mul_bd (x:=(q l (nx (len l) i)).1 - (q l i).1) (y:=(q l j).2.1 - (q l i).2.1) (M:=4194304) (N:=4194304) (by omega) (by omega) (by omega) (by omega)
 have p2:=mul_bd (x:=(q l (nx (len l) i)).2.1 - (q l i).2.1) (y:=(q l j).1 - (q l i).1) (M:=4194304) (N:=4194304) (by omega) (by omega) (by omega) (by omega)
 rw [e1',bS,e2',bS,imul_i64 (x:=(q l (nx (len l) i)).1 - (q l i).1) (by omega) (by omega),imul_i64 (x:=(q l (nx (len l) i)).2.1 - (q l i).2.1) (by omega) (by omega),isub_i64 (by omega) (by omega),iadd_i64 (by omega) (by omega),imul_i64 (by omega) (by omega)]
 unfold ilt
 congr 1
 rw [decide_eq_decide]
 exact ⟨fun h=>⟨a,b,h⟩,fun h=>h.2.2⟩
open Classical in
theorem fat_gen {k:Nat} (hk:9≤k) {l:List V26} (h3:3≤len l) (h8:len l≤8) (hr:AllR l):body_fat k l=some (decide (FatP l)):=by
 have c2:∀ i,0≤i→i<len l→(body_fat.c2 k l i k 0=some (.inl ())∧∃ j,0≤j∧j<len l∧(j≠i∧j≠nx (len l) i∧tri (q l i) (q l (nx (len l) i)) (q l j)<8*(sz (vsub (q l (nx (len l) i)) (q l i))+sz (vsub (q l j) (q l i))))) ∨
   (body_fat.c2 k l i k 0=some (.inr ())∧∀ j,0≤j→j<len l→¬ (j≠i∧j≠nx (len l) i∧tri (q l i) (q l (nx (len l) i)) (q l j)<8*(sz (vsub (q l (nx (len l) i)) (q l i))+sz (vsub (q l j) (q l i))))):=by
  intro i i0 i1
  have H:=find_loop (fun n v=>body_fat.c2 k l i n v) 0 (len l) (fun j=>j≠i∧j≠nx (len l) i∧tri (q l i) (q l (nx (len l) i)) (q l j)<8*(sz (vsub (q l (nx (len l) i)) (q l i))+sz (vsub (q l j) (q l i)))) (fun _=>())
   (by
    intro n v a b c
    show body_fat.c2 k l i (n+1) v=_
    rw [body_fat.c2,ilt_pos b,bT,rP (inL_of a b),fat_c3g k h8 hr i0 i1 a b,bS,decide_eq_true c,bT])
   (by
    intro n v a b c
    show body_fat.c2 k l i (n+1) v=body_fat.c2 k l i n (v+1)
    rw [body_fat.c2,ilt_pos b,bT,rP (inL_of a b),fat_c3g k h8 hr i0 i1 a b,bS,decide_eq_false c,bF,iadd_i64 (by omega) (by omega)])
   (by
    intro n v a b
    show body_fat.c2 k l i (n+1) v=_
    rw [body_fat.c2,ilt_neg b,bF])
   k 0 (by omega) (by omega)
  rcases H with ⟨j,a,b,c,_,e⟩ | ⟨a,e⟩
  ·exact Or.inl ⟨e,j,a,b,c⟩
  ·exact Or.inr ⟨e (by omega),a⟩
 have H:=find_loop (fun n v=>body_fat.c1 k l n v) 0 (len l) (fun i=>∃ j,0≤j∧j<len l∧(j≠i∧j≠nx (len l) i∧tri (q l i) (q l (nx (len l) i)) (q l j)<8*(sz (vsub (q l (nx (len l) i)) (q l i))+sz (vsub (q l j) (q l i))))) (fun _=>())
  (by
   intro n v a b c
   show body_fat.c1 k l (n+1) v=_
   have hn:=nx_range a b
   rw [body_fat.c1,ilt_pos b,bT,rP (inL_of a b),rP (show nz (len l) by unfold nz; omega),irem_nx a b (by omega),rP (inL_of hn.1 hn.2)]
   rcases c2 v a b with ⟨e,_⟩ | ⟨_,e⟩
   ·rw [e,bS,two_inl]
   ·obtain ⟨j,x,y,z⟩:=c
    exact absurd z (e j x y))
  (by
   intro n v a b c
   show body_fat.c1 k l (n+1) v=body_fat.c1 k l n (v+1)
   have hn:=nx_range a b
   rw [body_fat.c1,ilt_pos b,bT,rP (inL_of a b),rP (show nz (len l) by unfold nz; omega),irem_nx a b (by omega),rP (inL_of hn.1 hn.2)]
   rcases c2 v a b with ⟨_,e⟩ | ⟨e,_⟩
   ·exact absurd e c
   ·rw [e,bS,two_inr,iadd_i64 (by omega) (by omega)])
  (by
   intro n v a b
   show body_fat.c1 k l (n+1) v=_
   rw [body_fat.c1,ilt_neg b,bF])
  k 0 (by omega) (by omega)
 unfold body_fat
 rcases H with ⟨i,a,b,⟨j,c,d,f⟩,_,e⟩ | ⟨a,e⟩
 ·have e:body_fat.c1 k l k 0=some (.inl ()):=e
  rw [e,bS,two_inl,decide_eq_false]
  intro h
  have:=h i j a b c d f.1 f.2.1
  omega
 ·have e:body_fat.c1 k l k 0=some (.inr ()):=e (by omega)
  rw [e,bS,two_inr,decide_eq_true]
  intro i j i0 i1 j0 j1 h1 h2
  have:=a i i0 i1
  rcases Int.lt_or_le (tri (q l i) (q l (nx (len l) i)) (q l j)) (8*(sz (vsub (q l (nx (len l) i)) (q l i))+sz (vsub (q l j) (q l i)))) with g | g
  ·exact absurd ⟨j,j0,j1,h1,h2,g⟩ this
  ·exact g
def Shp (l:List V26) (e:Int):Prop :=
 (Chk l e∧e≠0)∨(Val l∧¬ AllR l∧e=1)∨(Val l∧AllR l∧¬ (FatP l∧InP l Z26)∧e=3)∨(Val l∧AllR l∧FatP l∧InP l Z26∧e=0)
open Classical in
theorem shape_gen {k:Nat} (hk:9≤k) (l:List V26):∃ e,body_shape k l=some e∧Shp l e:=by
 obtain ⟨c,e1,c1⟩:=Check_eq hk l
 unfold body_shape
 rw [e1,bS]
 by_cases hc:c=0
 ·subst hc
  have hv:=Chk_zero c1
  have h8:=hv.2.1
  rw [ine_neg rfl,bF]
  have hf:∀ x:V26,(fun x:(V26 × Unit)=>body_shape_1 k (x.1)) (x,())=some (!decide (-2097152≤x.1∧x.1≤2097152∧-2097152≤x.2.1∧x.2.1≤2097152)):=by
   intro x
   show body_shape_1 k x=_
   unfold body_shape_1
   rw [bwithin_eq k x (by decide) (by decide),bS]
  rcases Contains_no (l:=l) (k:=k) (f:=fun x:(V26 × Unit)=>body_shape_1 k (x.1)) (by omega) (by omega) (g:=fun x=>!decide (-2097152≤x.1∧x.1≤2097152∧-2097152≤x.2.1∧x.2.1≤2097152)) hf with ⟨g,i,i0,i1,i2⟩ | ⟨g,g2⟩
  ·rw [g,bS,bT]
   refine ⟨1,rfl,Or.inr (Or.inl ⟨hv,fun h=>?_,rfl⟩)⟩
   have:=h i i0 i1
   simp [this] at i2
  ·have hr:AllR l:=by
    intro i i0 i1
    have:=g2 i i0 i1
    simpa using this
   rw [g,bS,bF]
   unfold body_shape.c1
   rw [fat_gen hk hv.1 h8 hr,bS]
   by_cases hF:FatP l
   ·rw [decide_eq_true hF,bT,Has_val hk hv,bS,bS]
    by_cases hI:InP l Z26
    ·have:(Wn (0,0,())∧InP l (0,0,())):=⟨by decide,hI⟩
     rw [decide_eq_true this]
     exact ⟨0,rfl,Or.inr (Or.inr (Or.inr ⟨hv,hr,hF,hI,rfl⟩))⟩
    ·have:¬ (Wn (0,0,())∧InP l (0,0,())):=fun h=>hI h.2
     rw [decide_eq_false this]
     exact ⟨3,rfl,Or.inr (Or.inr (Or.inl ⟨hv,hr,fun h=>hI h.2,rfl⟩))⟩
   ·rw [decide_eq_false hF,bF,bS,bT]
    exact ⟨3,rfl,Or.inr (Or.inr (Or.inl ⟨hv,hr,fun h=>hF h.1,rfl⟩))⟩
 ·rw [ine_pos hc,bT]
  exact ⟨c,rfl,Or.inl ⟨c1,hc⟩⟩
end Go.Proofs.T1
namespace Go.Proofs.T1
open Go Go.Sx
def Bd (a:V26) (m:Int):Prop:=-m≤a.1∧a.1≤m∧-m≤a.2.1∧a.2.1≤m
instance (a:V26) (m:Int):Decidable (Bd a m):=by unfold Bd; infer_instance
def R1 (p v:V26) (ang spin:Int):Prop:=Bd p 58982400∧Bd v 268435456∧(-16777216≤spin∧spin≤16777216)∧(0≤ang∧ang≤65535)
def R2 (mass inertia bounce rub calm:Int):Prop:=(0≤mass∧mass≤1099511627776)∧(0≤inertia∧inertia≤1099511627776)∧(0≤bounce∧bounce≤65536)∧(0≤rub∧rub≤65536)∧(0≤calm∧calm≤1000)
def R3 (v:V26) (spin mass inertia:Int) (asleep:Bool) (calm:Int):Prop:=(mass=0↔inertia=0)∧(mass=0→v=(0,0,())∧spin=0∧asleep=false∧calm=0)∧(asleep=true→v=(0,0,())∧spin=0)
instance (p v:V26) (ang spin:Int):Decidable (R1 p v ang spin):=by unfold R1; infer_instance
instance (a b c d e:Int):Decidable (R2 a b c d e):=by unfold R2; infer_instance
def Bc (p v:V26) (ang spin mass inertia bounce rub:Int) (l:List V26) (asleep:Bool) (calm:Int) (e:Int):Prop :=
 (Shp l e∧e≠0)∨(Shp l 0∧¬ (R1 p v ang spin∧R2 mass inertia bounce rub calm)∧e=1)∨(Shp l 0∧R1 p v ang spin∧R2 mass inertia bounce rub calm∧¬ R3 v spin mass inertia asleep calm∧e=3) ∨
 (Shp l 0∧R1 p v ang spin∧R2 mass inertia bounce rub calm∧R3 v spin mass inertia asleep calm∧e=0)
section
variable {p v:V26} {ang spin mass inertia bounce rub:Int} {l:List V26} {asleep:Bool} {calm:Int}
theorem chk_gen (k:Nat) (n a b:Int):body_Check_1 k n a b=some (decide (a≤n∧n≤b)):=by
 unfold body_Check_1
 by_cases h:n ≥ a
 ·rw [ige_pos h,bT]
  unfold ile
  congr 1
  rw [decide_eq_decide]
  exact ⟨fun x=>⟨h,x⟩,fun x=>x.2⟩
 ·rw [ige_neg (by omega),bF,decide_eq_false (fun x=>h x.1)]
theorem Check_c1g (k:Nat):body_Check.c1 k (p,v,ang,spin,mass,inertia,bounce,rub,l,asleep,calm,())=some (!decide (R1 p v ang spin)):=by
 unfold body_Check.c1 R1
 dsimp only
 rw [bwithin_eq k p (by decide) (by decide),bS,bwithin_eq k v (by decide) (by decide),chk_gen,chk_gen]
 have e1:(-58982400≤p.1∧p.1≤58982400∧-58982400≤p.2.1∧p.2.1≤58982400)=Bd p 58982400:=rfl
 have e2:(-268435456≤v.1∧v.1≤268435456∧-268435456≤v.2.1∧v.2.1≤268435456)=Bd v 268435456:=rfl
 by_cases h1:Bd p 58982400 <;> by_cases h2:Bd v 268435456 <;> by_cases h3:(-16777216≤spin∧spin≤16777216) <;> by_cases h4:(0≤ang∧ang≤65535) <;>
  simp [e1,e2,h1,h2,h3,h4,bif',bnd]
theorem Check_c2g (k:Nat):body_Check.c2 k (p,v,ang,spin,mass,inertia,bounce,rub,l,asleep,calm,())=some (!decide (R2 mass inertia bounce rub calm)):=by
 unfold body_Check.c2 R2
 dsimp only
 rw [chk_gen,chk_gen,chk_gen,chk_gen,chk_gen]
 by_cases h1:(0≤mass∧mass≤1099511627776) <;> by_cases h2:(0≤inertia∧inertia≤1099511627776) <;> by_cases h3:(0≤bounce∧bounce≤65536) <;> by_cases h4:(0≤rub∧rub≤65536) <;> by_cases h5:(0≤calm∧calm≤1000) <;>
  simp [h1,h2,h3,h4,h5,bif',bnd]
theorem Check_c3g (k:Nat):body_Check.c3 k (p,v,ang,spin,mass,inertia,bounce,rub,l,asleep,calm,())=some (decide (v=(0,0,())∧spin=0)):=by
 unfold body_Check.c3
 dsimp only
 refine (congrArg (fun b=>bif' b (some (ieq spin 0)) (some false)) (eqb24 v (0,0,()))).trans ?_
 by_cases a:v=(0,0,())
 ·rw [decide_eq_true a,bT]
  unfold ieq
  congr 1
  rw [decide_eq_decide]
  exact ⟨fun h=>⟨a,h⟩,fun h=>h.2⟩
 ·rw [decide_eq_false a,bF,decide_eq_false (fun h=>a h.1)]
open Classical in
theorem Check_c4g (k:Nat) {st:Bool} (hst:st=decide (v=(0,0,())∧spin=0)):body_Check.c4 k (p,v,ang,spin,mass,inertia,bounce,rub,l,asleep,calm,()) st=some (decide (¬ R3 v spin mass inertia asleep calm)):=by
 have hs:st=true↔(v=(0,0,())∧spin=0):=by rw [hst]; exact decide_eq_true_iff
 have out:∀ {b:Bool},(b=true↔¬ R3 v spin mass inertia asleep calm)→some b=some (decide (¬ R3 v spin mass inertia asleep calm)):=by
  intro b hb
  congr 1
  by_cases h:¬ R3 v spin mass inertia asleep calm
  ·rw [decide_eq_true h]; exact hb.2 h
  ·rw [decide_eq_false h]
   cases b
   ·rfl
   ·exact absurd (hb.1 rfl) h
 unfold body_Check.c4
 dsimp only
 have hq:Ty.eqb T4 (ieq mass (0:Int)) (ieq inertia (0:Int))=(ieq mass 0 == ieq inertia 0):=rfl
 refine (congrArg (fun b=>bif' b _ (some true)) hq).trans ?_
 unfold R3 at out ⊢
 by_cases a:mass=0 <;> by_cases b:inertia=0
 ·rw [ieq_pos a,ieq_pos b]
  show bif' true _ _=_
  rw [bT,bT]
  cases st with
  | false =>
   rw [bF]
   exact out ⟨fun _ h=>(by have:=hs.2 ⟨(h.2.1 a).1,(h.2.1 a).2.1⟩; cases this),fun _=>rfl⟩
  | true =>
   rw [bT]
   have hv:=hs.1 rfl
   cases asleep with
   | true =>
    rw [bT]
    exact out ⟨fun _ h=>(by have:=(h.2.1 a).2.2.1; cases this),fun _=>rfl⟩
   | false =>
    rw [bF]
    by_cases c:calm=0
    ·rw [ine_neg c,bF]
     exact out ⟨fun h=>absurd h Bool.false_ne_true,fun h=>absurd ⟨⟨fun _=>b,fun _=>a⟩,fun _=>⟨hv.1,hv.2,rfl,c⟩,fun h=>by cases h⟩ h⟩
    ·rw [ine_pos c,bT]
     exact out ⟨fun _ h=>c (h.2.1 a).2.2.2,fun _=>rfl⟩
 ·rw [ieq_pos a,ieq_neg b]
  exact out ⟨fun _ h=>b (h.1.1 a),fun _=>rfl⟩
 ·rw [ieq_neg a,ieq_pos b]
  exact out ⟨fun _ h=>a (h.1.2 b),fun _=>rfl⟩
 ·rw [ieq_neg a,ieq_neg b]
  show bif' true _ _=_
  rw [bT,bF]
  cases asleep with
  | false =>
   rw [bF]
   exact out ⟨fun h=>absurd h Bool.false_ne_true,fun h=>absurd ⟨⟨fun h=>absurd h a,fun h=>absurd h b⟩,fun h=>absurd h a,fun h=>by cases h⟩ h⟩
  | true =>
   rw [bT]
   cases st with
   | true=>exact out ⟨fun h=>absurd h Bool.false_ne_true,fun h=>absurd ⟨⟨fun h=>absurd h a,fun h=>absurd h b⟩,fun h=>absurd h a,fun _=>hs.1 rfl⟩ h⟩
   | false=>exact out ⟨fun _ h=>(by have:=hs.2 (h.2.2 rfl); cases this),fun _=>rfl⟩
open Classical in
theorem bodyCheck_gen {k:Nat} (hk:9≤k):∃ e,body_Check k (p,v,ang,spin,mass,inertia,bounce,rub,l,asleep,calm,())=some e∧Bc p v ang spin mass inertia bounce rub l asleep calm e:=by
 obtain ⟨s,e1,hs⟩:=shape_gen hk l
 unfold body_Check
 dsimp only
 rw [e1,bS]
 by_cases h0:s=0
 ·subst h0
  rw [ine_neg rfl,bF,Check_c1g,bS]
  by_cases h1:R1 p v ang spin
  ·rw [decide_eq_true h1]
   show ∃ e,bif' false _ _=some e∧_
   rw [bF,Check_c2g,bS]
   by_cases h2:R2 mass inertia bounce rub calm
   ·rw [decide_eq_true h2]
    show ∃ e,bif' false _ _=some e∧_
    rw [bF,Check_c3g,bS,Check_c4g k rfl,bS]
    by_cases h3:R3 v spin mass inertia asleep calm
    ·rw [decide_eq_false (fun h=>h h3),bF]
     exact ⟨0,rfl,Or.inr (Or.inr (Or.inr ⟨hs,h1,h2,h3,rfl⟩))⟩
    ·rw [decide_eq_true h3,bT]
     exact ⟨3,rfl,Or.inr (Or.inr (Or.inl ⟨hs,h1,h2,h3,rfl⟩))⟩
   ·rw [decide_eq_false h2]
    show ∃ e,bif' true _ _=some e∧_
    rw [bT]
    exact ⟨1,rfl,Or.inr (Or.inl ⟨hs,fun h=>h2 h.2,rfl⟩)⟩
  ·rw [decide_eq_false h1]
   show ∃ e,bif' true _ _=some e∧_
   rw [bT]
   exact ⟨1,rfl,Or.inr (Or.inl ⟨hs,fun h=>h1 h.1,rfl⟩)⟩
 ·rw [ine_pos h0,bT]
  exact ⟨s,rfl,Or.inl ⟨hs,h0⟩⟩
end
end Go.Proofs.T1
