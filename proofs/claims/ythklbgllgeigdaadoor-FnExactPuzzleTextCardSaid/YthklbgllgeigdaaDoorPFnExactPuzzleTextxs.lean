-- MADE FOR THIS CLAIM by wip/xp/xprint.py (with the kit's print; some functions' contracts proved by hand)
import Derived.Test.YthklbgllgeigdaaDoorPFnExactPuzzleTextx5
namespace Go.Proofs.YthklbgllgeigdaaDoor.PFnExactPuzzleText
open Go.RowKit Go.Proofs.YthklbgllgeigdaaDoorW.PrintWords
/-- What is left to prove of the law loop.example/g01305/laws.FnExactPuzzleText: numbers and lists alone. -/
def laws_FnExactPuzzleText.Pure : Prop := ∀ (l0_0 : List (S59)), l0_0.length ≤ 9223372036854775807 → ∃ k, laws_FnExactPuzzleText.f k l0_0 = some true
end Go.Proofs.YthklbgllgeigdaaDoor.PFnExactPuzzleText
