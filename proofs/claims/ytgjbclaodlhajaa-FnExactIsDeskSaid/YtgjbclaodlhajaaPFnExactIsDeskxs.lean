-- MADE FOR THIS CLAIM by wip/xp/xprint.py (with the kit's print; some functions' contracts proved by hand)
import Derived.Test.YtgjbclaodlhajaaPFnExactIsDeskx3
namespace Go.Proofs.Ytgjbclaodlhajaa.PFnExactIsDesk
open Go.RowKit Go.Proofs.YtgjbclaodlhajaaW.PrintWords
/-- What is left to prove of the law loop.example/g01305/laws.FnExactIsDesk: numbers and lists alone. -/
def laws_FnExactIsDesk.Pure : Prop := ∀ (l0_0 : List Int) (l0_1 : List Int), l0_0.length ≤ 9223372036854775807 → l0_1.length ≤ 9223372036854775807 → ∃ k, laws_FnExactIsDesk.f k l0_0 l0_1 = some true
end Go.Proofs.Ytgjbclaodlhajaa.PFnExactIsDesk
