-- MADE FOR THIS CLAIM by wip/xp/xprint.py (with the kit's print; some functions' contracts proved by hand)
import Derived.Test.YthklbgllgeigdaaDoorPFnExactCardsTextx5
namespace Go.Proofs.YthklbgllgeigdaaDoor.PFnExactCardsText
open Go.RowKit Go.Proofs.YthklbgllgeigdaaDoorW.PrintWords
/-- What is left to prove of the law loop.example/g01305/laws.FnExactCardsText: numbers and lists alone. -/
def laws_FnExactCardsText.Pure : Prop := ∀ (a0_0 : Int) (l0_1 : List (List Int)), (Lit.int .i64 a0_0).wf = true → l0_1.length ≤ 9223372036854775807 → (∀ l ∈ l0_1, l.length ≤ 9223372036854775807) → ∃ k, laws_FnExactCardsText.f k a0_0 l0_1 = some true
end Go.Proofs.YthklbgllgeigdaaDoor.PFnExactCardsText
