import Derived.Test.YteibepmkkplpeaaGreatPlSwap
namespace Go.Proofs.T1
open Go Go.Sx
instance (x y:Int):Decidable (GJ x y):=by unfold GJ; infer_instance
instance (a b p:aB):Decidable (GK a b p):=by unfold GK; infer_instance
instance (a b p:aB):Decidable (On a b p):=by unfold On; infer_instance
instance (a b c d:aB):Decidable (Hb a b c d):=by unfold Hb; infer_instance
theorem qY {x y n:Int} (hn:0<n) (h:x≤y):jg x n≤jg y n:=Int.ediv_le_ediv (by omega) (by omega)
theorem xw {x n:Int} (hn:0<n) (h:0≤x):0≤jg x n:=Int.ediv_nonneg (by omega) (by omega)
theorem EC {a b:List aB} (ha:jx a) {i:Int} (i0:0≤i) (i1:i<len a) (h:0≤dp a b i):0≤wt a b i:=by
 obtain ⟨_,l0,_,_⟩:=kM (k:=40) (by decide) ha i0 i1;exact xw l0 h
end Go.Proofs.T1
