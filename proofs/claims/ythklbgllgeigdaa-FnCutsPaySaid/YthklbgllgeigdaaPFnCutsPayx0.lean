-- MADE FOR THIS CLAIM by wip/xp/xprint.py (with the kit's print; some functions' contracts proved by hand)
import Derived.Test.YthklbgllgeigdaaProg
import Derived.Below
import Derived.Deep.Draws
import Derived.Deep.AppendLies
import Derived.Maps.AppendAt
import Derived.OwnWalk
import Derived.Laws.BytesArg
import Derived.Laws.MakeOwn
import Derived.Laws.OwnMore
import Derived.Deep.OwnRows
import Derived.Tactics
import Derived.Lib.ConvBytes
import Derived.Laws.Slices
import Derived.WalkKit
import Derived.KernelRfl
import Derived.RowKit3
import Derived.Deep.LoopGhost
import Derived.Deep.QuietTactic
import Derived.BigQuiet
import Derived.WideLaws
import Derived.Deep.DeepCutAuto
import Derived.Deep.CutBlock
import Derived.Deep.RegionHeld3
import Derived.Laws.Rows
import Derived.Lib.AppendStr
import Derived.ArgAppend
import Derived.Laws.IdiomCopy
import Derived.OrdersHeld
import Derived.Laws.BitsLemmas
import Derived.RowKit
import Derived.Shelf.Abstract
import Derived.WalkSpells
import Derived.Deep.RegionLaw
import Derived.Deep.RegionHeldLaw
import Derived.Test.YthklbgllgeigdaaWWords
import Derived.Test.YthklbgllgeigdaaWLast
import Derived.Test.YthklbgllgeigdaaWTab
import Derived.Test.YthklbgllgeigdaaWFour
import Derived.Test.YthklbgllgeigdaaWQPut
import Derived.Test.YthklbgllgeigdaaWApart
import Derived.Test.YthklbgllgeigdaaWArr
import Derived.Test.YthklbgllgeigdaaWZeros
import Derived.Test.YthklbgllgeigdaaWFoot
import Derived.Test.YthklbgllgeigdaaWKept
import Derived.Test.YthklbgllgeigdaaWShare
import Derived.Test.YthklbgllgeigdaaWN
import Derived.Test.YthklbgllgeigdaaWFootNe
import Derived.Test.YthklbgllgeigdaaWAt
import Derived.Test.YthklbgllgeigdaaWEqStruct
import Derived.Test.YthklbgllgeigdaaWRepsOne
import Derived.Test.YthklbgllgeigdaaWInv
import Derived.Test.YthklbgllgeigdaaWInvWords
import Derived.Test.YthklbgllgeigdaaWGuard
import Derived.Test.YthklbgllgeigdaaWNEv
import Derived.Test.YthklbgllgeigdaaWMore
import Derived.Test.YthklbgllgeigdaaXmv
namespace Go.Proofs.Ythklbgllgeigdaa.PFnCutsPay
open Go.RowKit Go.Proofs.YthklbgllgeigdaaW.PrintWords Go.Proofs.YthklbgllgeigdaaW.PrintLast Go.Proofs.YthklbgllgeigdaaW.PrintMore
attribute [local go_sem] max2_int min2_int max_two min_two max_three min_three max_four min_four   -- for this text's walks alone
set_option linter.unusedVariables false
set_option linter.unusedSimpArgs false



def errW : Option Int → Value
  | none => .nilIface
  | some c => .iface 0 (.int .i64 c)
theorem errW_none : errW none = .nilIface := rfl
theorem errW_some (c : Int) : errW (some c) = .iface 0 (.int .i64 c) := rfl

theorem info3 : (Try.prog.info? 3).map (fun i => (i.zero, i.size, i.bytes)) = some (some (.int .i64 0), 1, 8) := by kernel_rfl
-- the values' own types

end Go.Proofs.Ythklbgllgeigdaa.PFnCutsPay
