import Derived.Test.YteibepmkkplpeaaGreatPlMove
namespace Go.Proofs.T1
open Go Go.Sx
end Go.Proofs.T1
