-- MADE FOR THIS CLAIM by wip/xp/xprint.py (with the kit's print; some functions' contracts proved by hand)
import Derived.Test.YtocknmijghfafaaDoorProg
import Derived.Below
import Derived.Deep.Draws
import Derived.Deep.AppendLies
import Derived.Maps.AppendAt
import Derived.OwnWalk
import Derived.Laws.BytesArg
import Derived.Laws.MakeOwn
import Derived.Laws.OwnMore
import Derived.Deep.OwnRows
import Derived.Tactics
import Derived.Lib.ConvBytes
import Derived.Laws.Slices
import Derived.WalkKit
import Derived.KernelRfl
import Derived.RowKit3
import Derived.Deep.LoopGhost
import Derived.Deep.QuietTactic
import Derived.BigQuiet
import Derived.WideLaws
import Derived.Deep.DeepCutAuto
import Derived.Deep.CutBlock
import Derived.Deep.RegionHeld3
import Derived.Laws.Rows
import Derived.Lib.AppendStr
import Derived.ArgAppend
import Derived.Laws.IdiomCopy
import Derived.OrdersHeld
import Derived.Laws.BitsLemmas
import Derived.RowKit
import Derived.Shelf.Abstract
import Derived.WalkSpells
import Derived.Deep.RegionLaw
import Derived.Deep.RegionHeldLaw
import Derived.Test.YtocknmijghfafaaDoorWWords
import Derived.Test.YtocknmijghfafaaDoorWLast
import Derived.Test.YtocknmijghfafaaDoorWTab
import Derived.Test.YtocknmijghfafaaDoorWFour
import Derived.Test.YtocknmijghfafaaDoorWQPut
import Derived.Test.YtocknmijghfafaaDoorWApart
import Derived.Test.YtocknmijghfafaaDoorWArr
import Derived.Test.YtocknmijghfafaaDoorWZeros
import Derived.Test.YtocknmijghfafaaDoorWFoot
import Derived.Test.YtocknmijghfafaaDoorWKept
import Derived.Test.YtocknmijghfafaaDoorWShare
import Derived.Test.YtocknmijghfafaaDoorWN
import Derived.Test.YtocknmijghfafaaDoorWFootNe
import Derived.Test.YtocknmijghfafaaDoorWAt
import Derived.Test.YtocknmijghfafaaDoorWEqStruct
import Derived.Test.YtocknmijghfafaaDoorWRepsOne
import Derived.Test.YtocknmijghfafaaDoorWInv
import Derived.Test.YtocknmijghfafaaDoorWInvWords
import Derived.Test.YtocknmijghfafaaDoorWGuard
import Derived.Test.YtocknmijghfafaaDoorWNEv
import Derived.Test.YtocknmijghfafaaDoorWMore
import Derived.Test.YtocknmijghfafaaDoorXmv
namespace Go.Proofs.YtocknmijghfafaaDoor.PFnExactParsePieces
open Go.RowKit Go.Proofs.YtocknmijghfafaaDoorW.PrintWords Go.Proofs.YtocknmijghfafaaDoorW.PrintLast Go.Proofs.YtocknmijghfafaaDoorW.PrintMore
attribute [local go_sem] max2_int min2_int max_two min_two max_three min_three max_four min_four   -- for this text's walks alone
set_option linter.unusedVariables false
set_option linter.unusedSimpArgs false



def errW : Option Int → Value
  | none => .nilIface
  | some c => .iface 0 (.int .i64 c)
theorem errW_none : errW none = .nilIface := rfl
theorem errW_some (c : Int) : errW (some c) = .iface 0 (.int .i64 c) := rfl

theorem info3 : (Tryd.prog.info? 3).map (fun i => (i.zero, i.size, i.bytes)) = some (some (.int .i64 0), 1, 8) := by kernel_rfl
theorem info9 : (Tryd.prog.info? 9).map (fun i => (i.zero, i.size, i.bytes)) = some (some (.string ⟨#[]⟩), 1, 16) := by kernel_rfl
-- the values' own types

end Go.Proofs.YtocknmijghfafaaDoor.PFnExactParsePieces
