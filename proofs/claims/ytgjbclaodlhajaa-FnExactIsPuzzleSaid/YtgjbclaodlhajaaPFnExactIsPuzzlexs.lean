-- MADE FOR THIS CLAIM by wip/xp/xprint.py (with the kit's print; some functions' contracts proved by hand)
import Derived.Test.YtgjbclaodlhajaaPFnExactIsPuzzlex3
namespace Go.Proofs.Ytgjbclaodlhajaa.PFnExactIsPuzzle
open Go.RowKit Go.Proofs.YtgjbclaodlhajaaW.PrintWords
/-- What is left to prove of the law loop.example/g01305/laws.FnExactIsPuzzle: numbers and lists alone. -/
def laws_FnExactIsPuzzle.Pure : Prop := ∀ (l0_0 : List (S23)), l0_0.length ≤ 9223372036854775807 → ∃ k, laws_FnExactIsPuzzle.f k l0_0 = some true
end Go.Proofs.Ytgjbclaodlhajaa.PFnExactIsPuzzle
