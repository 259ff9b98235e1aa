/-
  No cell of these rows narrows 'for every input' (looked for: loops, veiled, ifaces, maps, wideKeys, modest, calm, conditions, laid).
  DERIVED. THE GIVEN ROWS OF THIS SEAT. 4 by the template 'for every input the law returns true; each argument reads behind the call as it read before'; 0 by the template 'total and deterministic' (their statements: YtjjajbgijncfoaaTotals.lean).
  GIVEN WITH THE SEED: the statements are not yours to turn. If you find one false, say at which input.
  Laid BY PROGRAM, IN A SANDBOX (cutbox-rows.mjs): the forced cells as the released guide's own fill.sh prints them over the translation 5fefca6dc96dbd71… (all of the seat's roots in one cut). By AI agents, Wed Nov 11 2026. No macro, syntax, notation, axiom, sorry.
-/
import Derived.Test.YtjjajbgijncfoaaChecked
import GoSem.Claim
import GoSem.ClaimJoined
import GoSem.ClaimMapViews
import Derived.JoinedTies
import Derived.KernelRfl
namespace Go.Proofs.Ytjjajbgijncfoaa
/- THE CELL 'sum', in the pinned program and in every row, IS THE sha256 OF THE DUMP (.gsa) THAT YtjjajbgijncfoaaProg.lean LOADS. Nothing in Lean hashes anything: it is a label: what it is worth is what the hold of that sum in a sandbox is worth. -/
noncomputable def Try.pinned : Pinned := { name := "ytjjajbgijncfoaa", sum := "5fefca6dc96dbd71595e4f6e97c69ab9f832cbd8bb7f0900ceb755b3e646d48c", checked := Try.checked }
namespace Rows
def none {H : Type} : Left H := { results := [], args := [] }

/-- 'laws.FnChangeGiven': WHATEVER THE INPUT: true; the input reads as it did. -/
def fnChangeGivenSpec : ChangeSpec := { name := "fnChangeGiven", fn := fun _ => fun
  | [d1, d2] => { results := [.lit (.bool true)], args := [d1, d2] }
  | _ => none }
def fnChangeGivenRow : OpenClaim := { program := "ytjjajbgijncfoaa", sum := "5fefca6dc96dbd71595e4f6e97c69ab9f832cbd8bb7f0900ceb755b3e646d48c", func := "loop.example/g01305/laws.FnChangeGiven", spec := "fnChangeGiven", unfollowed := true, recurses := true, apart := false }
def FnChangeGivenSaid : Prop := fnChangeGivenRow.holds Try.pinned (OpenSpec.ofChange fnChangeGivenSpec)

/-- ITS FALSE NEIGHBOUR: 'it returns false'. Refute it at one input. -/
def fnChangeGivenWrong : ChangeSpec := { name := "fnChangeGiven", fn := fun _ => fun
  | [d1, d2] => { results := [.lit (.bool false)], args := [d1, d2] }
  | _ => none }
def FnChangeGivenWrongFalsely : Prop := fnChangeGivenRow.holds Try.pinned (OpenSpec.ofChange fnChangeGivenWrong)

/-- 'laws.FnStampsBest': WHATEVER THE INPUT: true; the input reads as it did. -/
def fnStampsBestSpec : ChangeSpec := { name := "fnStampsBest", fn := fun _ => fun
  | [d1, d2] => { results := [.lit (.bool true)], args := [d1, d2] }
  | _ => none }
def fnStampsBestRow : OpenClaim := { program := "ytjjajbgijncfoaa", sum := "5fefca6dc96dbd71595e4f6e97c69ab9f832cbd8bb7f0900ceb755b3e646d48c", func := "loop.example/g01305/laws.FnStampsBest", spec := "fnStampsBest", unfollowed := true, recurses := true, apart := false }
def FnStampsBestSaid : Prop := fnStampsBestRow.holds Try.pinned (OpenSpec.ofChange fnStampsBestSpec)

/-- ITS FALSE NEIGHBOUR: 'it returns false'. Refute it at one input. -/
def fnStampsBestWrong : ChangeSpec := { name := "fnStampsBest", fn := fun _ => fun
  | [d1, d2] => { results := [.lit (.bool false)], args := [d1, d2] }
  | _ => none }
def FnStampsBestWrongFalsely : Prop := fnStampsBestRow.holds Try.pinned (OpenSpec.ofChange fnStampsBestWrong)

/-- 'laws.FnStampsReach': WHATEVER THE INPUT: true; the input reads as it did. -/
def fnStampsReachSpec : ChangeSpec := { name := "fnStampsReach", fn := fun _ => fun
  | [d1, d2] => { results := [.lit (.bool true)], args := [d1, d2] }
  | _ => none }
def fnStampsReachRow : OpenClaim := { program := "ytjjajbgijncfoaa", sum := "5fefca6dc96dbd71595e4f6e97c69ab9f832cbd8bb7f0900ceb755b3e646d48c", func := "loop.example/g01305/laws.FnStampsReach", spec := "fnStampsReach", unfollowed := true, recurses := true, apart := false }
def FnStampsReachSaid : Prop := fnStampsReachRow.holds Try.pinned (OpenSpec.ofChange fnStampsReachSpec)

/-- ITS FALSE NEIGHBOUR: 'it returns false'. Refute it at one input. -/
def fnStampsReachWrong : ChangeSpec := { name := "fnStampsReach", fn := fun _ => fun
  | [d1, d2] => { results := [.lit (.bool false)], args := [d1, d2] }
  | _ => none }
def FnStampsReachWrongFalsely : Prop := fnStampsReachRow.holds Try.pinned (OpenSpec.ofChange fnStampsReachWrong)

/-- 'laws.FnFewestCuts': WHATEVER THE INPUT: true; the input reads as it did. -/
def fnFewestCutsSpec : ChangeSpec := { name := "fnFewestCuts", fn := fun _ => fun
  | [d1, d2] => { results := [.lit (.bool true)], args := [d1, d2] }
  | _ => none }
def fnFewestCutsRow : OpenClaim := { program := "ytjjajbgijncfoaa", sum := "5fefca6dc96dbd71595e4f6e97c69ab9f832cbd8bb7f0900ceb755b3e646d48c", func := "loop.example/g01305/laws.FnFewestCuts", spec := "fnFewestCuts", unfollowed := true, recurses := true, apart := false }
def FnFewestCutsSaid : Prop := fnFewestCutsRow.holds Try.pinned (OpenSpec.ofChange fnFewestCutsSpec)

/-- ITS FALSE NEIGHBOUR: 'it returns false'. Refute it at one input. -/
def fnFewestCutsWrong : ChangeSpec := { name := "fnFewestCuts", fn := fun _ => fun
  | [d1, d2] => { results := [.lit (.bool false)], args := [d1, d2] }
  | _ => none }
def FnFewestCutsWrongFalsely : Prop := fnFewestCutsRow.holds Try.pinned (OpenSpec.ofChange fnFewestCutsWrong)

/- THE SECOND FORM. 'bulk': how many values and letters a reading holds, each counted each time it is reached (what is shared counts as often as it is met; a slice's spare places count too). A statement '..UptoSaid' is the law's where the arguments, and the package variables that the reading takes, are together of bulk at most 1048576: NARROWER than '..Said'. Prove '..Said' where nothing that the law and all that it calls make is longer than what came in: it says more and counts as full. Else prove '..UptoSaid'. A law counts once. -/
mutual
def uptoBulk {H : Type} : DataW H → Nat
  | .lit (.string bytes) => bytes.length + 1
  | .lit _ => 1
  | .nil => 1
  | .ptr d => uptoBulk d + 1
  | .slice elems spare => uptoBulkAll elems + uptoBulkAll spare + 1
  | .agg parts => uptoBulkAll parts + 1
  | .iface _ d => uptoBulk d + 1
  | .map entries => uptoBulkEntries entries + 1
  | .held _ => 1
def uptoBulkAll {H : Type} : List (DataW H) → Nat
  | [] => 0
  | d :: r => uptoBulk d + uptoBulkAll r
def uptoBulkEntries {H : Type} : List (Lit × DataW H) → Nat
  | [] => 0
  | x :: r => uptoBulkEntry x + uptoBulkEntries r
def uptoBulkEntry {H : Type} : Lit × DataW H → Nat
  | (.string bytes, d) => bytes.length + uptoBulk d + 1
  | (_, d) => uptoBulk d + 1
 end
def uptoSmall : (H : Type) → List (DataW H) → Bool := fun _ ds => decide (uptoBulkAll ds ≤ 1048576)
def OpenSpec.upto (s : _root_.Go.ChangeSpec) : _root_.Go.OpenSpec := { _root_.Go.OpenSpec.ofChange s with cond := some uptoSmall }

/-- 'laws.FnChangeGiven', WHERE WHAT IT READS IS OF BULK AT MOST 1048576: true; the input reads as it did. -/
def fnChangeGivenUptoRow : OpenClaim := { program := "ytjjajbgijncfoaa", sum := "5fefca6dc96dbd71595e4f6e97c69ab9f832cbd8bb7f0900ceb755b3e646d48c", func := "loop.example/g01305/laws.FnChangeGiven", spec := "fnChangeGiven", unfollowed := true, recurses := true, apart := false, narrowed := true }
def FnChangeGivenUptoSaid : Prop := fnChangeGivenUptoRow.holds Try.pinned (OpenSpec.upto fnChangeGivenSpec)

/-- 'laws.FnStampsBest', WHERE WHAT IT READS IS OF BULK AT MOST 1048576: true; the input reads as it did. -/
def fnStampsBestUptoRow : OpenClaim := { program := "ytjjajbgijncfoaa", sum := "5fefca6dc96dbd71595e4f6e97c69ab9f832cbd8bb7f0900ceb755b3e646d48c", func := "loop.example/g01305/laws.FnStampsBest", spec := "fnStampsBest", unfollowed := true, recurses := true, apart := false, narrowed := true }
def FnStampsBestUptoSaid : Prop := fnStampsBestUptoRow.holds Try.pinned (OpenSpec.upto fnStampsBestSpec)

/-- 'laws.FnStampsReach', WHERE WHAT IT READS IS OF BULK AT MOST 1048576: true; the input reads as it did. -/
def fnStampsReachUptoRow : OpenClaim := { program := "ytjjajbgijncfoaa", sum := "5fefca6dc96dbd71595e4f6e97c69ab9f832cbd8bb7f0900ceb755b3e646d48c", func := "loop.example/g01305/laws.FnStampsReach", spec := "fnStampsReach", unfollowed := true, recurses := true, apart := false, narrowed := true }
def FnStampsReachUptoSaid : Prop := fnStampsReachUptoRow.holds Try.pinned (OpenSpec.upto fnStampsReachSpec)

/-- 'laws.FnFewestCuts', WHERE WHAT IT READS IS OF BULK AT MOST 1048576: true; the input reads as it did. -/
def fnFewestCutsUptoRow : OpenClaim := { program := "ytjjajbgijncfoaa", sum := "5fefca6dc96dbd71595e4f6e97c69ab9f832cbd8bb7f0900ceb755b3e646d48c", func := "loop.example/g01305/laws.FnFewestCuts", spec := "fnFewestCuts", unfollowed := true, recurses := true, apart := false, narrowed := true }
def FnFewestCutsUptoSaid : Prop := fnFewestCutsUptoRow.holds Try.pinned (OpenSpec.upto fnFewestCutsSpec)

end Rows
end Go.Proofs.Ytjjajbgijncfoaa
