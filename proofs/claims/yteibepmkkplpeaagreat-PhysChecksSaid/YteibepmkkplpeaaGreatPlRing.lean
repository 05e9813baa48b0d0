import Derived.Test.YteibepmkkplpeaaGreatG1
import Derived.Test.YteibepmkkplpeaaGreatG2
import Derived.Test.YteibepmkkplpeaaGreatG16
import Derived.Test.YteibepmkkplpeaaGreatSxNum
import Derived.Test.YteibepmkkplpeaaGreatSxLaw
namespace Go.Proofs.T1
open Go Go.Sx
theorem vd {a b M N:Int} (ha:0≤a) (ha':a≤M) (hb:0≤b) (hb':b≤N):0≤a*b∧a*b≤M*N :=
 ⟨Int.mul_nonneg ha hb,Int.mul_le_mul ha' hb' hb (Int.le_trans ha ha')⟩
end Go.Proofs.T1
namespace Go.Proofs.T1
open Go Go.Sx
end Go.Proofs.T1
namespace Go.Proofs.T1
open Go Go.Sx
end Go.Proofs.T1
namespace Go.Proofs.T1
open Go Go.Sx
end Go.Proofs.T1
namespace Go.Proofs.T1
open Go Go.Sx
end Go.Proofs.T1
namespace Go.Proofs.T1
open Go Go.Sx
end Go.Proofs.T1
namespace Go.Proofs.T1
open Go Go.Sx
end Go.Proofs.T1
namespace Go.Proofs.T1
open Go Go.Sx
end Go.Proofs.T1
