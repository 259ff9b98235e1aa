-- MADE FOR THIS CLAIM by wip/xp/xprint.py (with the kit's print; some functions' contracts proved by hand)
import Derived.Test.YtgjbclaodlhajaaPFnExactDropCluex5
namespace Go.Proofs.Ytgjbclaodlhajaa.PFnExactDropClue
open Go.RowKit Go.Proofs.YtgjbclaodlhajaaW.PrintWords
/-- What is left to prove of the law loop.example/g01305/laws.FnExactDropClue: numbers and lists alone. -/
def laws_FnExactDropClue.Pure : Prop := ∀ (l0_0 : List (S23)) (a1 : Int), l0_0.length ≤ 9223372036854775807 → (Lit.int .i64 a1).wf = true → ∃ k, laws_FnExactDropClue.f k l0_0 a1 = some true
end Go.Proofs.Ytgjbclaodlhajaa.PFnExactDropClue
