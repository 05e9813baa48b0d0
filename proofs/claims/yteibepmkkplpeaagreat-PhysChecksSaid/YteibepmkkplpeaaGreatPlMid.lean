import Derived.Test.YteibepmkkplpeaaGreatPlMade
namespace Go.Proofs.T1
open Go Go.Sx
def qA (x:Int):Int:=if x<0 then -x else x
end Go.Proofs.T1
namespace Go.Proofs.T1
open Go Go.Sx
end Go.Proofs.T1
