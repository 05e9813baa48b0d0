import Derived.Test.YteibepmkkplpeaaGreatPlSat0
namespace Go.Proofs.T1
open Go Go.Sx
theorem yo (a b:aB):Ty.lE bJ a b=decide (a=b):=by
 obtain ⟨a1,a2,u⟩:=a;obtain ⟨b1,b2,u'⟩:=b;show (gX a1 b1 && (gX a2 b2 && true))=_
 by_cases h1:a1=b1
 ·by_cases h2:a2=b2
  ·rw [fw h1,fw h2]; subst h1 h2; exact (decide_eq_true rfl).symm
  ·rw [fw h1,fu h2]; exact (decide_eq_false (fun h=>h2 (congrArg (fun v=>v.2.1) h))).symm
 ·rw [fu h1]; exact (decide_eq_false (fun h=>h1 (congrArg Prod.fst h))).symm
end Go.Proofs.T1
namespace Go.Proofs.T1
open Go Go.Sx
end Go.Proofs.T1
