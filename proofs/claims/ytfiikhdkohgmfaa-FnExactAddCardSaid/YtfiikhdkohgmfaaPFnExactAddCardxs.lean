-- MADE FOR THIS CLAIM by wip/xp/xprint.py (with the kit's print; some functions' contracts proved by hand)
import Derived.Test.YtfiikhdkohgmfaaPFnExactAddCardx6
namespace Go.Proofs.Ytfiikhdkohgmfaa.PFnExactAddCard
open Go.RowKit Go.Proofs.YtfiikhdkohgmfaaW.PrintWords
/-- What is left to prove of the law loop.example/g01305/laws.FnExactAddCard: numbers and lists alone. -/
def laws_FnExactAddCard.Pure : Prop := ∀ (a0_0 : Int) (l0_1 : List (List Int)) (l1 : List Int), (Lit.int .i64 a0_0).wf = true → l0_1.length ≤ 9223372036854775807 → (∀ l ∈ l0_1, l.length ≤ 9223372036854775807) → l1.length ≤ 9223372036854775807 → ∃ k, laws_FnExactAddCard.f k a0_0 l0_1 l1 = some true
end Go.Proofs.Ytfiikhdkohgmfaa.PFnExactAddCard
