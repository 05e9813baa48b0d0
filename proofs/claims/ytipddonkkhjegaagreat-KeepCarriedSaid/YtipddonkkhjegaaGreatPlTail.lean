import Derived.Test.YtipddonkkhjegaaGreatPlSat0
namespace Go.Proofs.T1
open Go Go.Sx
theorem eqb24 (a b:V26):Ty.eqb T26 a b=decide (a=b):=by
 obtain ⟨a1,a2,u⟩:=a
 obtain ⟨b1,b2,u'⟩:=b
 show (ieq a1 b1 && (ieq a2 b2 && true))=_
 by_cases h1:a1=b1
 ·by_cases h2:a2=b2
  ·rw [ieq_pos h1,ieq_pos h2]; subst h1 h2; exact (decide_eq_true rfl).symm
  ·rw [ieq_pos h1,ieq_neg h2]; exact (decide_eq_false (fun h=>h2 (congrArg (fun v=>v.2.1) h))).symm
 ·rw [ieq_neg h1]; exact (decide_eq_false (fun h=>h1 (congrArg Prod.fst h))).symm
theorem eqb24_self (a:V26):Ty.eqb T26 a a=true:=by rw [eqb24]; exact decide_eq_true rfl
end Go.Proofs.T1
namespace Go.Proofs.T1
open Go Go.Sx
end Go.Proofs.T1
namespace Go.Proofs.T1
open Go Go.Sx
end Go.Proofs.T1
namespace Go.Proofs.T1
open Go Go.Sx
instance (x y:Int):Decidable (Opp x y):=by unfold Opp; infer_instance
instance (a b p:V26):Decidable (Box a b p):=by unfold Box; infer_instance
instance (a b p:V26):Decidable (On a b p):=by unfold On; infer_instance
instance (a b c d:V26):Decidable (CrP a b c d):=by unfold CrP; infer_instance
theorem rnd_mono {x y n:Int} (hn:0<n) (h:x≤y):rnd x n≤rnd y n:=Int.ediv_le_ediv (by omega) (by omega)
theorem rnd_nn {x n:Int} (hn:0<n) (h:0≤x):0≤rnd x n:=Int.ediv_nonneg (by omega) (by omega)
end Go.Proofs.T1
