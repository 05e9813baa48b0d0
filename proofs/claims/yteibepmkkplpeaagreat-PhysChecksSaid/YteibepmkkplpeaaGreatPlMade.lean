import Derived.Test.YteibepmkkplpeaaGreatPlPoly
namespace Go.Proofs.T1
open Go Go.Sx
end Go.Proofs.T1
namespace Go.Proofs.T1
open Go Go.Sx
def shift (l:List bm) (p:bm):List bm:=l.map fun a=>(a.1+p.1,a.2.1+p.2.1,())
end Go.Proofs.T1
