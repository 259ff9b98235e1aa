-- MADE FOR THIS CLAIM by wip/xp/xprint.py (with the kit's print; some functions' contracts proved by hand)
import Derived.Test.YtmpmiomjfhcmdaaPFnExactNeedlessCluesx11
namespace Go.Proofs.Ytmpmiomjfhcmdaa.PFnExactNeedlessClues
open Go.RowKit Go.Proofs.YtmpmiomjfhcmdaaW.PrintWords
/-- What is left to prove of the law loop.example/g01305/laws.FnExactNeedlessClues: numbers and lists alone. -/
def laws_FnExactNeedlessClues.Pure : Prop := ∀ (l0_0 : List (S100)), l0_0.length ≤ 9223372036854775807 → ∃ k, laws_FnExactNeedlessClues.f k l0_0 = some true
end Go.Proofs.Ytmpmiomjfhcmdaa.PFnExactNeedlessClues
