-- MADE FOR THIS CLAIM by wip/xp/xprint.py (with the kit's print; some functions' contracts proved by hand)
import Derived.Test.YtgjbclaodlhajaaPFnExactIsCluex1
namespace Go.Proofs.Ytgjbclaodlhajaa.PFnExactIsClue
open Go.RowKit Go.Proofs.YtgjbclaodlhajaaW.PrintWords
/-- What is left to prove of the law loop.example/g01305/laws.FnExactIsClue: numbers and lists alone. -/
def laws_FnExactIsClue.Pure : Prop := ∀ (a0_0 : Int) (a0_1 : Int) (a0_2 : Int), (Lit.int .i64 a0_0).wf = true → (Lit.int .i64 a0_1).wf = true → (Lit.int .i64 a0_2).wf = true → ∃ k, laws_FnExactIsClue.f k a0_0 a0_1 a0_2 = some true
end Go.Proofs.Ytgjbclaodlhajaa.PFnExactIsClue
