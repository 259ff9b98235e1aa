/-
  No cell of these rows narrows 'for every input' (looked for: loops, veiled, ifaces, maps, wideKeys, modest, calm, conditions, laid).
  DERIVED. THE GIVEN ROWS OF THIS SEAT. 2 by the template 'for every input the law returns true; each argument reads behind the call as it read before'; 0 by the template 'total and deterministic' (their statements: YtkbllhlmcfjcdaaTotals.lean).
  GIVEN WITH THE SEED: the statements are not yours to turn. If you find one false, say at which input.
  Laid BY PROGRAM, IN A SANDBOX (cutbox-rows.mjs): the forced cells as the released guide's own fill.sh prints them over the translation 680dcefe2a7e89e3… (all of the seat's roots in one cut). By AI agents, Wed Nov 11 2026. No macro, syntax, notation, axiom, sorry.
-/
import Derived.Test.YtkbllhlmcfjcdaaChecked
import GoSem.Claim
import GoSem.ClaimJoined
import GoSem.ClaimMapViews
import Derived.JoinedTies
import Derived.KernelRfl
namespace Go.Proofs.Ytkbllhlmcfjcdaa
/- THE CELL 'sum', in the pinned program and in every row, IS THE sha256 OF THE DUMP (.gsa) THAT YtkbllhlmcfjcdaaProg.lean LOADS. Nothing in Lean hashes anything: it is a label: what it is worth is what the hold of that sum in a sandbox is worth. -/
noncomputable def Try.pinned : Pinned := { name := "ytkbllhlmcfjcdaa", sum := "680dcefe2a7e89e378f0c7f77699845068f69a4dd36c4b868620eee8ce43094c", checked := Try.checked }
namespace Rows
def none {H : Type} : Left H := { results := [], args := [] }

/-- 'laws.FnChangeLeft': WHATEVER THE INPUT: true; the input reads as it did. -/
def fnChangeLeftSpec : ChangeSpec := { name := "fnChangeLeft", fn := fun _ => fun
  | [d1, d2] => { results := [.lit (.bool true)], args := [d1, d2] }
  | _ => none }
def fnChangeLeftRow : OpenClaim := { program := "ytkbllhlmcfjcdaa", sum := "680dcefe2a7e89e378f0c7f77699845068f69a4dd36c4b868620eee8ce43094c", func := "loop.example/g01305/laws.FnChangeLeft", spec := "fnChangeLeft", unfollowed := true, recurses := true, apart := false }
def FnChangeLeftSaid : Prop := fnChangeLeftRow.holds Try.pinned (OpenSpec.ofChange fnChangeLeftSpec)

/-- ITS FALSE NEIGHBOUR: 'it returns false'. Refute it at one input. -/
def fnChangeLeftWrong : ChangeSpec := { name := "fnChangeLeft", fn := fun _ => fun
  | [d1, d2] => { results := [.lit (.bool false)], args := [d1, d2] }
  | _ => none }
def FnChangeLeftWrongFalsely : Prop := fnChangeLeftRow.holds Try.pinned (OpenSpec.ofChange fnChangeLeftWrong)

/-- 'laws.FnSumsMade': WHATEVER THE INPUT: true; the input reads as it did. -/
def fnSumsMadeSpec : ChangeSpec := { name := "fnSumsMade", fn := fun _ => fun
  | [d1, d2] => { results := [.lit (.bool true)], args := [d1, d2] }
  | _ => none }
def fnSumsMadeRow : OpenClaim := { program := "ytkbllhlmcfjcdaa", sum := "680dcefe2a7e89e378f0c7f77699845068f69a4dd36c4b868620eee8ce43094c", func := "loop.example/g01305/laws.FnSumsMade", spec := "fnSumsMade", unfollowed := true, recurses := true, apart := false }
def FnSumsMadeSaid : Prop := fnSumsMadeRow.holds Try.pinned (OpenSpec.ofChange fnSumsMadeSpec)

/-- ITS FALSE NEIGHBOUR: 'it returns false'. Refute it at one input. -/
def fnSumsMadeWrong : ChangeSpec := { name := "fnSumsMade", fn := fun _ => fun
  | [d1, d2] => { results := [.lit (.bool false)], args := [d1, d2] }
  | _ => none }
def FnSumsMadeWrongFalsely : Prop := fnSumsMadeRow.holds Try.pinned (OpenSpec.ofChange fnSumsMadeWrong)

/- THE SECOND FORM. 'bulk': how many values and letters a reading holds, each counted each time it is reached (what is shared counts as often as it is met; a slice's spare places count too). A statement '..UptoSaid' is the law's where the arguments, and the package variables that the reading takes, are together of bulk at most 1048576: NARROWER than '..Said'. Prove '..Said' where nothing that the law and all that it calls make is longer than what came in: it says more and counts as full. Else prove '..UptoSaid'. A law counts once. -/
mutual
def uptoBulk {H : Type} : DataW H → Nat
  | .lit (.string bytes) => bytes.length + 1
  | .lit _ => 1
  | .nil => 1
  | .ptr d => uptoBulk d + 1
  | .slice elems spare => uptoBulkAll elems + uptoBulkAll spare + 1
  | .agg parts => uptoBulkAll parts + 1
  | .iface _ d => uptoBulk d + 1
  | .map entries => uptoBulkEntries entries + 1
  | .held _ => 1
def uptoBulkAll {H : Type} : List (DataW H) → Nat
  | [] => 0
  | d :: r => uptoBulk d + uptoBulkAll r
def uptoBulkEntries {H : Type} : List (Lit × DataW H) → Nat
  | [] => 0
  | x :: r => uptoBulkEntry x + uptoBulkEntries r
def uptoBulkEntry {H : Type} : Lit × DataW H → Nat
  | (.string bytes, d) => bytes.length + uptoBulk d + 1
  | (_, d) => uptoBulk d + 1
 end
def uptoSmall : (H : Type) → List (DataW H) → Bool := fun _ ds => decide (uptoBulkAll ds ≤ 1048576)
def OpenSpec.upto (s : _root_.Go.ChangeSpec) : _root_.Go.OpenSpec := { _root_.Go.OpenSpec.ofChange s with cond := some uptoSmall }

/-- 'laws.FnChangeLeft', WHERE WHAT IT READS IS OF BULK AT MOST 1048576: true; the input reads as it did. -/
def fnChangeLeftUptoRow : OpenClaim := { program := "ytkbllhlmcfjcdaa", sum := "680dcefe2a7e89e378f0c7f77699845068f69a4dd36c4b868620eee8ce43094c", func := "loop.example/g01305/laws.FnChangeLeft", spec := "fnChangeLeft", unfollowed := true, recurses := true, apart := false, narrowed := true }
def FnChangeLeftUptoSaid : Prop := fnChangeLeftUptoRow.holds Try.pinned (OpenSpec.upto fnChangeLeftSpec)

/-- 'laws.FnSumsMade', WHERE WHAT IT READS IS OF BULK AT MOST 1048576: true; the input reads as it did. -/
def fnSumsMadeUptoRow : OpenClaim := { program := "ytkbllhlmcfjcdaa", sum := "680dcefe2a7e89e378f0c7f77699845068f69a4dd36c4b868620eee8ce43094c", func := "loop.example/g01305/laws.FnSumsMade", spec := "fnSumsMade", unfollowed := true, recurses := true, apart := false, narrowed := true }
def FnSumsMadeUptoSaid : Prop := fnSumsMadeUptoRow.holds Try.pinned (OpenSpec.upto fnSumsMadeSpec)

end Rows
end Go.Proofs.Ytkbllhlmcfjcdaa
