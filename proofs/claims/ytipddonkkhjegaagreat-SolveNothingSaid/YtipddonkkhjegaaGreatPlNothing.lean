import Derived.Test.YtipddonkkhjegaaGreatPlRun
import Derived.Test.YtipddonkkhjegaaGreatG17
namespace Go.Proofs.T1
open Go Go.Sx
theorem eqb24_s (a:V26):Ty.eqb T26 a a=true:=(eqb24 a a).trans (decide_eq_true rfl)
theorem eqb4_s (b:Bool):Ty.eqb T4 b b=true:=beq_self_eq_true b
theorem sEqual_self {k:Nat} {l:List V26} (hk:l.length<k) (hl:l.length≤1000000000):slices_Equal_58 k l l=some true:=by
 have H:∀ (n:Nat) (i:Int),0≤i→len l - i<(n:Int)→0<n→slices_Equal_58.c1 k l l n i=some (.inr ()):=by
  intro n
  induction n with
  | zero=>intro i _ _ h; omega
  | succ n ih =>
   intro i i0 i1 _
   rw [slices_Equal_58.c1]
   by_cases c:i<len l
   ·have hlen:len l=(l.length:Int):=rfl
    rw [ilt_pos c,bT,rP (inL_of i0 c),rP (inL_of i0 c)]
    refine (congrArg (fun b=>bif' b _ _) (eqb24_s (el Z26 l i))).trans ?_
    rw [bT,iadd_i64 (by omega) (by omega)]
    exact ih (i+1) (by omega) (by omega) (by omega)
   ·rw [ilt_neg (by omega),bF]
 have hlen:len l=(l.length:Int):=rfl
 unfold slices_Equal_58
 rw [ine_neg rfl,bF,H k 0 (by omega) (by omega) (by omega),bS,two_inr]
section
variable {p v:V26} {ang spin mass inertia bounce rub:Int} {l:List V26} {asleep:Bool} {calm:Int}
end
section
variable {p v:V26} {ang spin mass inertia bounce rub:Int} {l:List V26} {asleep:Bool} {calm:Int}
end
end Go.Proofs.T1
namespace Go.Proofs.T1
open Go Go.Sx
section
variable {p v:V26} {ang spin mass inertia bounce rub:Int} {l:List V26} {asleep:Bool} {calm:Int}
end
theorem same_self {k:Nat} (b:V57) (hk:b.2.2.2.2.2.2.2.2.1.length<k) (hl:b.2.2.2.2.2.2.2.2.1.length≤1000000000):tourkeep2_same k b b=some true:=by
 unfold tourkeep2_same
 rw [sEqual_self hk hl,bS,bT]
 refine (congrArg (fun x=>bif' x _ _) (eqb24_s b.1)).trans ?_
 rw [bT]
 refine (congrArg (fun x=>bif' x _ _) (eqb24_s b.2.1)).trans ?_
 rw [bT,ieq_pos rfl,bT,ieq_pos rfl,bT,ieq_pos rfl,bT,ieq_pos rfl,bT,ieq_pos rfl,bT,ieq_pos rfl,bT]
 refine (congrArg (fun x=>bif' x _ _) (eqb4_s b.2.2.2.2.2.2.2.2.2.1)).trans ?_
 rw [bT,ieq_pos rfl]
theorem sameL_self {k:Nat} (hk:100<k) {l:List V57} (hA:AllK k l) (hl:len l≤64):slices_EqualFunc k l l (fun x:(V57 × (V57 × Unit))=>tourkeep2_same k (x.1) (x.2.1))=some true:=by
 have H:∀ (n:Nat) (i:Int),0≤i→len l - i<(n:Int)→0<n→slices_EqualFunc.c1 k l l (fun x:(V57 × (V57 × Unit))=>tourkeep2_same k (x.1) (x.2.1)) n i=some (.inr ()):=by
  intro n
  induction n with
  | zero=>intro i _ _ h; omega
  | succ n ih =>
   intro i i0 i1 _
   rw [slices_EqualFunc.c1]
   by_cases c:i<len l
   ·have hc:=cor_bd (k:=k) (by omega) _ (hA i i0 c)
    rw [ilt_pos c,bT,rP (inL_of i0 c),rP (inL_of i0 c)]
    have hs:tourkeep2_same k (el Z57 l i) (el Z57 l i)=some true:=same_self _ (by omega) (by omega)
    show bnd (tourkeep2_same k (el Z57 l i) (el Z57 l i)) _=_
    rw [hs,bS,bT,iadd_i64 (by omega) (by omega)]
    exact ih (i+1) (by omega) (by omega) (by omega)
   ·rw [ilt_neg (by omega),bF]
 unfold slices_EqualFunc
 rw [ine_neg rfl,bF,H k 0 (by omega) (by omega) (by omega),bS,two_inr]
end Go.Proofs.T1
namespace Go.Proofs.T1
open Go Go.Sx
theorem eqb201 (x:V39):Ty.eqb T39 x x=true:=by
 have h:∀ a:Int,ieq a a=true:=fun a=>ieq_pos rfl
 show (ieq x.1 x.1 && (ieq x.2.1 x.2.1 && (ieq x.2.2.1 x.2.2.1 && (Ty.eqb T26 x.2.2.2.1 x.2.2.2.1 && (Ty.eqb T26 x.2.2.2.2.1 x.2.2.2.2.1 && (ieq x.2.2.2.2.2.1 x.2.2.2.2.2.1 && (ieq x.2.2.2.2.2.2.1 x.2.2.2.2.2.2.1 && (ieq x.2.2.2.2.2.2.2.1 x.2.2.2.2.2.2.2.1 && true))))))))=true
 simp only [h,eqb24_self,Bool.and_true]
theorem sameC {k:Nat} (hk:5000≤k) {l:List V39} (hl:len l≤4096):slices_Equal k l l=some true:=by
 have H:∀ (n:Nat) (i:Int),0≤i→len l - i<(n:Int)→0<n→slices_Equal.c1 k l l n i=some (.inr ()):=by
  intro n
  induction n with
  | zero=>intro i _ _ h; omega
  | succ n ih =>
   intro i i0 i1 _
   rw [slices_Equal.c1]
   by_cases c:i<len l
   ·rw [ilt_pos c,bT,rP (inL_of i0 c),rP (inL_of i0 c)]
    refine (congrArg (fun b=>bif' b _ _) (eqb201 (el Z39 l i))).trans ?_
    rw [bT,iadd_i64 (by omega) (by omega)]
    exact ih (i+1) (by omega) (by omega) (by omega)
   ·rw [ilt_neg (by omega),bF]
 unfold slices_Equal
 rw [ine_neg rfl,bF,H k 0 (by omega) (by omega) (by omega),bS,two_inr]
end Go.Proofs.T1
namespace Go.Proofs.T1
open Go Go.Sx
theorem solves_10000:tourkeep2_solves 10000=some true:=by kernel_rfl
theorem SolveNothing_plain {k:Nat} (hk:k=10000) (raw:List Int) (rounds:Int):tourkeep2_SolveNothing k raw rounds=some true:=by
 obtain ⟨B,J,g,st,e,hM,lB,_,s0,s1⟩:=scene_mades (k:=k) (by omega) raw
 have hA:=AllM_K (k:=k) (by omega) hM
 have hP:=AllM_P (k:=k) (by omega) hM
 obtain ⟨ps,C,_,_,_,eF,hF,lC⟩:=Find_nil (k:=k) (by omega) hA hP lB
 obtain ⟨r,er,r0,r1⟩:=Below_eq k rounds (n:=33) (by decide) (by decide)
 have hsol:tourkeep2_solves k=some true:=by rw [hk]; exact solves_10000
 have lCi:len C=(C.length:Int):=rfl
 unfold tourkeep2_SolveNothing
 rw [e,bS]
 dsimp only
 rw [eF,bS]
 dsimp only
 rw [Run_zero (k:=k) (by omega) hA (by omega) (by omega) hF.ok hF.zero s0 s1,bS,er,bS,Run_empty (k:=k) (by omega) hA (by omega) s0 s1 r0 (by omega),bS,hsol,bS,bT,ieq_pos rfl,bT]
 dsimp only
 rw [bT,sameL_self (by omega) hA (by omega),bS,bT,sameC (by omega) (by omega)]
 rfl
theorem tourkeep2_SolveNothing_plain:∀ x:(Ty.pair T22 (.pair T2 .unit)).den,Ty.wf (.pair T22 (.pair T2 .unit)) x→∃ k,(tourkeep2_SolveNothing.sp k).f x=some true:=by
 intro x _
 obtain ⟨K,hK⟩:∃ K,K=10000:=⟨10000,rfl⟩
 exact ⟨K,SolveNothing_plain hK x.1 x.2.1⟩
end Go.Proofs.T1
