import Derived.Test.YteibepmkkplpeaaGreatPlSat0
namespace Go.Proofs.T1
open Go Go.Sx
theorem wI (a b:aV):Ty.od cq a b=decide (a=b):=by
 obtain ⟨a1,a2,u⟩:=a;obtain ⟨b1,b2,u'⟩:=b;show (gI a1 b1 && (gI a2 b2 && true))=_
 by_cases h1:a1=b1
 ·by_cases h2:a2=b2
  ·rw [fh h1,fh h2]; subst h1 h2; exact (decide_eq_true rfl).symm
  ·rw [fh h1,eL h2]; exact (decide_eq_false (fun h=>h2 (congrArg (fun v=>v.2.1) h))).symm
 ·rw [eL h1]; exact (decide_eq_false (fun h=>h1 (congrArg Prod.fst h))).symm
end Go.Proofs.T1
namespace Go.Proofs.T1
open Go Go.Sx
end Go.Proofs.T1
