/- For every call the law FnExactFirstDesk answers true: the program's FirstDesk returns what the reference's FirstDesk returns. No conditions. -/
import Derived.Test.YtgjbclaodlhajaaPFnExactFirstDeskx2
namespace Go.Proofs.Ytgjbclaodlhajaa.Pure
open Go.RowKit Go.Proofs.Ytgjbclaodlhajaa.PFnExactFirstDesk Go.Proofs.YtgjbclaodlhajaaW.PrintWords Go.Proofs.YtgjbclaodlhajaaW.PrintLast

/-- YOURS: ∃ k, laws_FnExactFirstDesk.f k  = some true
What it reaches (each with k first where it has rounds; `.mono`: more rounds tell the same; `.l0`, ..: its loops, with `.mono_l`): spec_FirstDesk.f, impl_FirstDesk.f, laws_eqIntS.f, laws_eqDesk.f, laws_markIntS.f, laws_markDesk.f, laws_heldIntS.f, laws_heldDesk.f, laws_FnExactFirstDesk.f -/
theorem FnExactFirstDesk : laws_FnExactFirstDesk.Pure := by
  exact ⟨10, by decide +kernel⟩

end Go.Proofs.Ytgjbclaodlhajaa.Pure
