-- MADE FOR THIS CLAIM by wip/xp/xprint.py (with the kit's print; some functions' contracts proved by hand)
import Derived.Test.YtgjbclaodlhajaaPFnExactAddCluex6
namespace Go.Proofs.Ytgjbclaodlhajaa.PFnExactAddClue
open Go.RowKit Go.Proofs.YtgjbclaodlhajaaW.PrintWords
/-- What is left to prove of the law loop.example/g01305/laws.FnExactAddClue: numbers and lists alone. -/
def laws_FnExactAddClue.Pure : Prop := ∀ (l0_0 : List (S23)) (a1_0 : Int) (a1_1 : Int) (a1_2 : Int), l0_0.length ≤ 9223372036854775807 → (Lit.int .i64 a1_0).wf = true → (Lit.int .i64 a1_1).wf = true → (Lit.int .i64 a1_2).wf = true → ∃ k, laws_FnExactAddClue.f k l0_0 a1_0 a1_1 a1_2 = some true
end Go.Proofs.Ytgjbclaodlhajaa.PFnExactAddClue
