-- MADE FOR THIS CLAIM by wip/xp/xprint.py (with the kit's print; some functions' contracts proved by hand)
import Derived.Test.YtfiikhdkohgmfaaPFnExactSolutionsx9
namespace Go.Proofs.Ytfiikhdkohgmfaa.PFnExactSolutions
open Go.RowKit Go.Proofs.YtfiikhdkohgmfaaW.PrintWords
/-- What is left to prove of the law loop.example/g01305/laws.FnExactSolutions: numbers and lists alone. -/
def laws_FnExactSolutions.Pure : Prop := ∀ (l0_0 : List (S103)), l0_0.length ≤ 9223372036854775807 → ∃ k, laws_FnExactSolutions.f k l0_0 = some true
end Go.Proofs.Ytfiikhdkohgmfaa.PFnExactSolutions
