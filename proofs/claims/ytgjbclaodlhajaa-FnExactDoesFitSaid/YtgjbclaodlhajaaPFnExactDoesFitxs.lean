-- MADE FOR THIS CLAIM by wip/xp/xprint.py (with the kit's print; some functions' contracts proved by hand)
import Derived.Test.YtgjbclaodlhajaaPFnExactDoesFitx7
namespace Go.Proofs.Ytgjbclaodlhajaa.PFnExactDoesFit
open Go.RowKit Go.Proofs.YtgjbclaodlhajaaW.PrintWords
/-- What is left to prove of the law loop.example/g01305/laws.FnExactDoesFit: numbers and lists alone. -/
def laws_FnExactDoesFit.Pure : Prop := ∀ (a0_0 : Int) (a0_1 : Int) (a0_2 : Int) (l1 : List Int), (Lit.int .i64 a0_0).wf = true → (Lit.int .i64 a0_1).wf = true → (Lit.int .i64 a0_2).wf = true → l1.length ≤ 9223372036854775807 → ∃ k, laws_FnExactDoesFit.f k a0_0 a0_1 a0_2 l1 = some true
end Go.Proofs.Ytgjbclaodlhajaa.PFnExactDoesFit
