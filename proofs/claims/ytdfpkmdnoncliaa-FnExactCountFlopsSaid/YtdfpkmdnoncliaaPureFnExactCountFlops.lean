/- For every input FnExactCountFlops answers true: the count of classes of flops is that of the reference. No condition. -/
import Derived.Test.YtdfpkmdnoncliaaPFnExactCountFlopsx1
namespace Go.Proofs.Ytdfpkmdnoncliaa.Pure
open Go.RowKit Go.Proofs.Ytdfpkmdnoncliaa.PFnExactCountFlops Go.Proofs.YtdfpkmdnoncliaaW.PrintWords Go.Proofs.YtdfpkmdnoncliaaW.PrintLast

/-- YOURS: laws_FnExactCountFlops.f  = some true
What it reaches (each with k first where it has rounds; `.mono`: more rounds tell the same; `.l0`, ..: its loops, with `.mono_l`): spec_CountFlops.f, impl_CountFlops.f, laws_FnExactCountFlops.f -/
theorem FnExactCountFlops : laws_FnExactCountFlops.Pure := by
  show laws_FnExactCountFlops.f = some true
  simp [laws_FnExactCountFlops.f, spec_CountFlops.f, impl_CountFlops.f]

end Go.Proofs.Ytdfpkmdnoncliaa.Pure
