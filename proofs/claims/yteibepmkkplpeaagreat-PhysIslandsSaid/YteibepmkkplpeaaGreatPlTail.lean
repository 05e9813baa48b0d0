import Derived.Test.YteibepmkkplpeaaGreatPlSwap
namespace Go.Proofs.T1
open Go Go.Sx
instance (x y:Int):Decidable (Eo x y):=by unfold Eo; infer_instance
instance (a b p:aV):Decidable (Er a b p):=by unfold Er; infer_instance
instance (a b p:aV):Decidable (On a b p):=by unfold On; infer_instance
instance (a b c d:aV):Decidable (EZ a b c d):=by unfold EZ; infer_instance
theorem pP {x y n:Int} (hn:0<n) (h:x≤y):iH x n≤iH y n:=Int.ediv_le_ediv (by omega) (by omega)
theorem yT {x n:Int} (hn:0<n) (h:0≤x):0≤iH x n:=Int.ediv_nonneg (by omega) (by omega)
end Go.Proofs.T1
