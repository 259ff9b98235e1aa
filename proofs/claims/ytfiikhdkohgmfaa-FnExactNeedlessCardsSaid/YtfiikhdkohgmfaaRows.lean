/-
  No cell of these rows narrows 'for every input' (looked for: loops, veiled, ifaces, maps, wideKeys, modest, calm, conditions, laid).
  DERIVED. THE GIVEN ROWS OF THIS SEAT. 12 by the template 'for every input the law returns true; each argument reads behind the call as it read before'; 0 by the template 'total and deterministic' (their statements: YtfiikhdkohgmfaaTotals.lean).
  GIVEN WITH THE SEED: the statements are not yours to turn. If you find one false, say at which input.
  Laid BY PROGRAM, IN A SANDBOX (cutbox-rows.mjs): the forced cells as the released guide's own fill.sh prints them over the translation 6719b2858a8ed5d4… (all of the seat's roots in one cut). By AI agents, Wed Nov 11 2026. No macro, syntax, notation, axiom, sorry.
-/
import Derived.Test.YtfiikhdkohgmfaaChecked
import GoSem.Claim
import GoSem.ClaimJoined
import GoSem.ClaimMapViews
import Derived.JoinedTies
import Derived.KernelRfl
namespace Go.Proofs.Ytfiikhdkohgmfaa
/- THE CELL 'sum', in the pinned program and in every row, IS THE sha256 OF THE DUMP (.gsa) THAT YtfiikhdkohgmfaaProg.lean LOADS. Nothing in Lean hashes anything: it is a label: what it is worth is what the hold of that sum in a sandbox is worth. -/
noncomputable def Try.pinned : Pinned := { name := "ytfiikhdkohgmfaa", sum := "6719b2858a8ed5d434d412373f1fbca00b19ddf2cd89939fb08dda46a914cfd9", checked := Try.checked }
namespace Rows
def none {H : Type} : Left H := { results := [], args := [] }

/-- 'laws.FnExactSurePieces': WHATEVER THE INPUT: true; the input reads as it did. -/
def fnExactSurePiecesSpec : ChangeSpec := { name := "fnExactSurePieces", fn := fun _ => fun
  | [d] => { results := [.lit (.bool true)], args := [d] }
  | _ => none }
def fnExactSurePiecesRow : OpenClaim := { program := "ytfiikhdkohgmfaa", sum := "6719b2858a8ed5d434d412373f1fbca00b19ddf2cd89939fb08dda46a914cfd9", func := "loop.example/g01305/laws.FnExactSurePieces", spec := "fnExactSurePieces", unfollowed := true, recurses := true, apart := false }
def FnExactSurePiecesSaid : Prop := fnExactSurePiecesRow.holds Try.pinned (OpenSpec.ofChange fnExactSurePiecesSpec)

/-- ITS FALSE NEIGHBOUR: 'it returns false'. Refute it at one input. -/
def fnExactSurePiecesWrong : ChangeSpec := { name := "fnExactSurePieces", fn := fun _ => fun
  | [d] => { results := [.lit (.bool false)], args := [d] }
  | _ => none }
def FnExactSurePiecesWrongFalsely : Prop := fnExactSurePiecesRow.holds Try.pinned (OpenSpec.ofChange fnExactSurePiecesWrong)

/-- 'laws.FnExactSolutions': WHATEVER THE INPUT: true; the input reads as it did. -/
def fnExactSolutionsSpec : ChangeSpec := { name := "fnExactSolutions", fn := fun _ => fun
  | [d] => { results := [.lit (.bool true)], args := [d] }
  | _ => none }
def fnExactSolutionsRow : OpenClaim := { program := "ytfiikhdkohgmfaa", sum := "6719b2858a8ed5d434d412373f1fbca00b19ddf2cd89939fb08dda46a914cfd9", func := "loop.example/g01305/laws.FnExactSolutions", spec := "fnExactSolutions", unfollowed := true, recurses := true, apart := false }
def FnExactSolutionsSaid : Prop := fnExactSolutionsRow.holds Try.pinned (OpenSpec.ofChange fnExactSolutionsSpec)

/-- ITS FALSE NEIGHBOUR: 'it returns false'. Refute it at one input. -/
def fnExactSolutionsWrong : ChangeSpec := { name := "fnExactSolutions", fn := fun _ => fun
  | [d] => { results := [.lit (.bool false)], args := [d] }
  | _ => none }
def FnExactSolutionsWrongFalsely : Prop := fnExactSolutionsRow.holds Try.pinned (OpenSpec.ofChange fnExactSolutionsWrong)

/-- 'laws.FnExactAddCard': WHATEVER THE INPUT: true; the input reads as it did. -/
def fnExactAddCardSpec : ChangeSpec := { name := "fnExactAddCard", fn := fun _ => fun
  | [d1, d2] => { results := [.lit (.bool true)], args := [d1, d2] }
  | _ => none }
def fnExactAddCardRow : OpenClaim := { program := "ytfiikhdkohgmfaa", sum := "6719b2858a8ed5d434d412373f1fbca00b19ddf2cd89939fb08dda46a914cfd9", func := "loop.example/g01305/laws.FnExactAddCard", spec := "fnExactAddCard", unfollowed := true, recurses := true, apart := false }
def FnExactAddCardSaid : Prop := fnExactAddCardRow.holds Try.pinned (OpenSpec.ofChange fnExactAddCardSpec)

/-- ITS FALSE NEIGHBOUR: 'it returns false'. Refute it at one input. -/
def fnExactAddCardWrong : ChangeSpec := { name := "fnExactAddCard", fn := fun _ => fun
  | [d1, d2] => { results := [.lit (.bool false)], args := [d1, d2] }
  | _ => none }
def FnExactAddCardWrongFalsely : Prop := fnExactAddCardRow.holds Try.pinned (OpenSpec.ofChange fnExactAddCardWrong)

/-- 'laws.FnExactDropCard': WHATEVER THE INPUT: true; the input reads as it did. -/
def fnExactDropCardSpec : ChangeSpec := { name := "fnExactDropCard", fn := fun _ => fun
  | [d1, d2] => { results := [.lit (.bool true)], args := [d1, d2] }
  | _ => none }
def fnExactDropCardRow : OpenClaim := { program := "ytfiikhdkohgmfaa", sum := "6719b2858a8ed5d434d412373f1fbca00b19ddf2cd89939fb08dda46a914cfd9", func := "loop.example/g01305/laws.FnExactDropCard", spec := "fnExactDropCard", unfollowed := true, recurses := true, apart := false }
def FnExactDropCardSaid : Prop := fnExactDropCardRow.holds Try.pinned (OpenSpec.ofChange fnExactDropCardSpec)

/-- ITS FALSE NEIGHBOUR: 'it returns false'. Refute it at one input. -/
def fnExactDropCardWrong : ChangeSpec := { name := "fnExactDropCard", fn := fun _ => fun
  | [d1, d2] => { results := [.lit (.bool false)], args := [d1, d2] }
  | _ => none }
def FnExactDropCardWrongFalsely : Prop := fnExactDropCardRow.holds Try.pinned (OpenSpec.ofChange fnExactDropCardWrong)

/-- 'laws.FnExactOtherCard': WHATEVER THE INPUT: true; the input reads as it did. -/
def fnExactOtherCardSpec : ChangeSpec := { name := "fnExactOtherCard", fn := fun _ => fun
  | [d1, d2] => { results := [.lit (.bool true)], args := [d1, d2] }
  | _ => none }
def fnExactOtherCardRow : OpenClaim := { program := "ytfiikhdkohgmfaa", sum := "6719b2858a8ed5d434d412373f1fbca00b19ddf2cd89939fb08dda46a914cfd9", func := "loop.example/g01305/laws.FnExactOtherCard", spec := "fnExactOtherCard", unfollowed := true, recurses := true, apart := false }
def FnExactOtherCardSaid : Prop := fnExactOtherCardRow.holds Try.pinned (OpenSpec.ofChange fnExactOtherCardSpec)

/-- ITS FALSE NEIGHBOUR: 'it returns false'. Refute it at one input. -/
def fnExactOtherCardWrong : ChangeSpec := { name := "fnExactOtherCard", fn := fun _ => fun
  | [d1, d2] => { results := [.lit (.bool false)], args := [d1, d2] }
  | _ => none }
def FnExactOtherCardWrongFalsely : Prop := fnExactOtherCardRow.holds Try.pinned (OpenSpec.ofChange fnExactOtherCardWrong)

/-- 'laws.FnExactNeedlessCards': WHATEVER THE INPUT: true; the input reads as it did. -/
def fnExactNeedlessCardsSpec : ChangeSpec := { name := "fnExactNeedlessCards", fn := fun _ => fun
  | [d] => { results := [.lit (.bool true)], args := [d] }
  | _ => none }
def fnExactNeedlessCardsRow : OpenClaim := { program := "ytfiikhdkohgmfaa", sum := "6719b2858a8ed5d434d412373f1fbca00b19ddf2cd89939fb08dda46a914cfd9", func := "loop.example/g01305/laws.FnExactNeedlessCards", spec := "fnExactNeedlessCards", unfollowed := true, recurses := true, apart := false }
def FnExactNeedlessCardsSaid : Prop := fnExactNeedlessCardsRow.holds Try.pinned (OpenSpec.ofChange fnExactNeedlessCardsSpec)

/-- ITS FALSE NEIGHBOUR: 'it returns false'. Refute it at one input. -/
def fnExactNeedlessCardsWrong : ChangeSpec := { name := "fnExactNeedlessCards", fn := fun _ => fun
  | [d] => { results := [.lit (.bool false)], args := [d] }
  | _ => none }
def FnExactNeedlessCardsWrongFalsely : Prop := fnExactNeedlessCardsRow.holds Try.pinned (OpenSpec.ofChange fnExactNeedlessCardsWrong)

/-- 'laws.FnExactMakePuzzle': WHATEVER THE INPUT: true; the input reads as it did. -/
def fnExactMakePuzzleSpec : ChangeSpec := { name := "fnExactMakePuzzle", fn := fun _ => fun
  | [d1, d2, d3] => { results := [.lit (.bool true)], args := [d1, d2, d3] }
  | _ => none }
def fnExactMakePuzzleRow : OpenClaim := { program := "ytfiikhdkohgmfaa", sum := "6719b2858a8ed5d434d412373f1fbca00b19ddf2cd89939fb08dda46a914cfd9", func := "loop.example/g01305/laws.FnExactMakePuzzle", spec := "fnExactMakePuzzle", unfollowed := true, recurses := true, apart := false }
def FnExactMakePuzzleSaid : Prop := fnExactMakePuzzleRow.holds Try.pinned (OpenSpec.ofChange fnExactMakePuzzleSpec)

/-- ITS FALSE NEIGHBOUR: 'it returns false'. Refute it at one input. -/
def fnExactMakePuzzleWrong : ChangeSpec := { name := "fnExactMakePuzzle", fn := fun _ => fun
  | [d1, d2, d3] => { results := [.lit (.bool false)], args := [d1, d2, d3] }
  | _ => none }
def FnExactMakePuzzleWrongFalsely : Prop := fnExactMakePuzzleRow.holds Try.pinned (OpenSpec.ofChange fnExactMakePuzzleWrong)

/-- 'laws.FnExactPiecesOfCuts': WHATEVER THE INPUT: true; the input reads as it did. -/
def fnExactPiecesOfCutsSpec : ChangeSpec := { name := "fnExactPiecesOfCuts", fn := fun _ => fun
  | [d1, d2] => { results := [.lit (.bool true)], args := [d1, d2] }
  | _ => none }
def fnExactPiecesOfCutsRow : OpenClaim := { program := "ytfiikhdkohgmfaa", sum := "6719b2858a8ed5d434d412373f1fbca00b19ddf2cd89939fb08dda46a914cfd9", func := "loop.example/g01305/laws.FnExactPiecesOfCuts", spec := "fnExactPiecesOfCuts", unfollowed := true, recurses := true, apart := false }
def FnExactPiecesOfCutsSaid : Prop := fnExactPiecesOfCutsRow.holds Try.pinned (OpenSpec.ofChange fnExactPiecesOfCutsSpec)

/-- ITS FALSE NEIGHBOUR: 'it returns false'. Refute it at one input. -/
def fnExactPiecesOfCutsWrong : ChangeSpec := { name := "fnExactPiecesOfCuts", fn := fun _ => fun
  | [d1, d2] => { results := [.lit (.bool false)], args := [d1, d2] }
  | _ => none }
def FnExactPiecesOfCutsWrongFalsely : Prop := fnExactPiecesOfCutsRow.holds Try.pinned (OpenSpec.ofChange fnExactPiecesOfCutsWrong)

/-- 'laws.FnExactRunOfCuts': WHATEVER THE INPUT: true; the input reads as it did. -/
def fnExactRunOfCutsSpec : ChangeSpec := { name := "fnExactRunOfCuts", fn := fun _ => fun
  | [d1, d2] => { results := [.lit (.bool true)], args := [d1, d2] }
  | _ => none }
def fnExactRunOfCutsRow : OpenClaim := { program := "ytfiikhdkohgmfaa", sum := "6719b2858a8ed5d434d412373f1fbca00b19ddf2cd89939fb08dda46a914cfd9", func := "loop.example/g01305/laws.FnExactRunOfCuts", spec := "fnExactRunOfCuts", unfollowed := true, recurses := true, apart := false }
def FnExactRunOfCutsSaid : Prop := fnExactRunOfCutsRow.holds Try.pinned (OpenSpec.ofChange fnExactRunOfCutsSpec)

/-- ITS FALSE NEIGHBOUR: 'it returns false'. Refute it at one input. -/
def fnExactRunOfCutsWrong : ChangeSpec := { name := "fnExactRunOfCuts", fn := fun _ => fun
  | [d1, d2] => { results := [.lit (.bool false)], args := [d1, d2] }
  | _ => none }
def FnExactRunOfCutsWrongFalsely : Prop := fnExactRunOfCutsRow.holds Try.pinned (OpenSpec.ofChange fnExactRunOfCutsWrong)

/-- 'laws.FnExactDoCutsPay': WHATEVER THE INPUT: true; the input reads as it did. -/
def fnExactDoCutsPaySpec : ChangeSpec := { name := "fnExactDoCutsPay", fn := fun _ => fun
  | [d1, d2] => { results := [.lit (.bool true)], args := [d1, d2] }
  | _ => none }
def fnExactDoCutsPayRow : OpenClaim := { program := "ytfiikhdkohgmfaa", sum := "6719b2858a8ed5d434d412373f1fbca00b19ddf2cd89939fb08dda46a914cfd9", func := "loop.example/g01305/laws.FnExactDoCutsPay", spec := "fnExactDoCutsPay", unfollowed := true, recurses := true, apart := false }
def FnExactDoCutsPaySaid : Prop := fnExactDoCutsPayRow.holds Try.pinned (OpenSpec.ofChange fnExactDoCutsPaySpec)

/-- ITS FALSE NEIGHBOUR: 'it returns false'. Refute it at one input. -/
def fnExactDoCutsPayWrong : ChangeSpec := { name := "fnExactDoCutsPay", fn := fun _ => fun
  | [d1, d2] => { results := [.lit (.bool false)], args := [d1, d2] }
  | _ => none }
def FnExactDoCutsPayWrongFalsely : Prop := fnExactDoCutsPayRow.holds Try.pinned (OpenSpec.ofChange fnExactDoCutsPayWrong)

/-- 'laws.FnExactRingPieces': WHATEVER THE INPUT: true; the input reads as it did. -/
def fnExactRingPiecesSpec : ChangeSpec := { name := "fnExactRingPieces", fn := fun _ => fun
  | [d1, d2] => { results := [.lit (.bool true)], args := [d1, d2] }
  | _ => none }
def fnExactRingPiecesRow : OpenClaim := { program := "ytfiikhdkohgmfaa", sum := "6719b2858a8ed5d434d412373f1fbca00b19ddf2cd89939fb08dda46a914cfd9", func := "loop.example/g01305/laws.FnExactRingPieces", spec := "fnExactRingPieces", unfollowed := true, recurses := true, apart := false }
def FnExactRingPiecesSaid : Prop := fnExactRingPiecesRow.holds Try.pinned (OpenSpec.ofChange fnExactRingPiecesSpec)

/-- ITS FALSE NEIGHBOUR: 'it returns false'. Refute it at one input. -/
def fnExactRingPiecesWrong : ChangeSpec := { name := "fnExactRingPieces", fn := fun _ => fun
  | [d1, d2] => { results := [.lit (.bool false)], args := [d1, d2] }
  | _ => none }
def FnExactRingPiecesWrongFalsely : Prop := fnExactRingPiecesRow.holds Try.pinned (OpenSpec.ofChange fnExactRingPiecesWrong)

/-- 'laws.FnExactCountCuts': WHATEVER THE INPUT: true; the input reads as it did. -/
def fnExactCountCutsSpec : ChangeSpec := { name := "fnExactCountCuts", fn := fun _ => fun
  | [d] => { results := [.lit (.bool true)], args := [d] }
  | _ => none }
def fnExactCountCutsRow : OpenClaim := { program := "ytfiikhdkohgmfaa", sum := "6719b2858a8ed5d434d412373f1fbca00b19ddf2cd89939fb08dda46a914cfd9", func := "loop.example/g01305/laws.FnExactCountCuts", spec := "fnExactCountCuts", unfollowed := true, recurses := true, apart := false }
def FnExactCountCutsSaid : Prop := fnExactCountCutsRow.holds Try.pinned (OpenSpec.ofChange fnExactCountCutsSpec)

/-- ITS FALSE NEIGHBOUR: 'it returns false'. Refute it at one input. -/
def fnExactCountCutsWrong : ChangeSpec := { name := "fnExactCountCuts", fn := fun _ => fun
  | [d] => { results := [.lit (.bool false)], args := [d] }
  | _ => none }
def FnExactCountCutsWrongFalsely : Prop := fnExactCountCutsRow.holds Try.pinned (OpenSpec.ofChange fnExactCountCutsWrong)

/- THE SECOND FORM. 'bulk': how many values and letters a reading holds, each counted each time it is reached (what is shared counts as often as it is met; a slice's spare places count too). A statement '..UptoSaid' is the law's where the arguments, and the package variables that the reading takes, are together of bulk at most 1048576: NARROWER than '..Said'. Prove '..Said' where nothing that the law and all that it calls make is longer than what came in: it says more and counts as full. Else prove '..UptoSaid'. A law counts once. -/
mutual
def uptoBulk {H : Type} : DataW H → Nat
  | .lit (.string bytes) => bytes.length + 1
  | .lit _ => 1
  | .nil => 1
  | .ptr d => uptoBulk d + 1
  | .slice elems spare => uptoBulkAll elems + uptoBulkAll spare + 1
  | .agg parts => uptoBulkAll parts + 1
  | .iface _ d => uptoBulk d + 1
  | .map entries => uptoBulkEntries entries + 1
  | .held _ => 1
def uptoBulkAll {H : Type} : List (DataW H) → Nat
  | [] => 0
  | d :: r => uptoBulk d + uptoBulkAll r
def uptoBulkEntries {H : Type} : List (Lit × DataW H) → Nat
  | [] => 0
  | x :: r => uptoBulkEntry x + uptoBulkEntries r
def uptoBulkEntry {H : Type} : Lit × DataW H → Nat
  | (.string bytes, d) => bytes.length + uptoBulk d + 1
  | (_, d) => uptoBulk d + 1
 end
def uptoSmall : (H : Type) → List (DataW H) → Bool := fun _ ds => decide (uptoBulkAll ds ≤ 1048576)
def OpenSpec.upto (s : _root_.Go.ChangeSpec) : _root_.Go.OpenSpec := { _root_.Go.OpenSpec.ofChange s with cond := some uptoSmall }

/-- 'laws.FnExactSurePieces', WHERE WHAT IT READS IS OF BULK AT MOST 1048576: true; the input reads as it did. -/
def fnExactSurePiecesUptoRow : OpenClaim := { program := "ytfiikhdkohgmfaa", sum := "6719b2858a8ed5d434d412373f1fbca00b19ddf2cd89939fb08dda46a914cfd9", func := "loop.example/g01305/laws.FnExactSurePieces", spec := "fnExactSurePieces", unfollowed := true, recurses := true, apart := false, narrowed := true }
def FnExactSurePiecesUptoSaid : Prop := fnExactSurePiecesUptoRow.holds Try.pinned (OpenSpec.upto fnExactSurePiecesSpec)

/-- 'laws.FnExactSolutions', WHERE WHAT IT READS IS OF BULK AT MOST 1048576: true; the input reads as it did. -/
def fnExactSolutionsUptoRow : OpenClaim := { program := "ytfiikhdkohgmfaa", sum := "6719b2858a8ed5d434d412373f1fbca00b19ddf2cd89939fb08dda46a914cfd9", func := "loop.example/g01305/laws.FnExactSolutions", spec := "fnExactSolutions", unfollowed := true, recurses := true, apart := false, narrowed := true }
def FnExactSolutionsUptoSaid : Prop := fnExactSolutionsUptoRow.holds Try.pinned (OpenSpec.upto fnExactSolutionsSpec)

/-- 'laws.FnExactAddCard', WHERE WHAT IT READS IS OF BULK AT MOST 1048576: true; the input reads as it did. -/
def fnExactAddCardUptoRow : OpenClaim := { program := "ytfiikhdkohgmfaa", sum := "6719b2858a8ed5d434d412373f1fbca00b19ddf2cd89939fb08dda46a914cfd9", func := "loop.example/g01305/laws.FnExactAddCard", spec := "fnExactAddCard", unfollowed := true, recurses := true, apart := false, narrowed := true }
def FnExactAddCardUptoSaid : Prop := fnExactAddCardUptoRow.holds Try.pinned (OpenSpec.upto fnExactAddCardSpec)

/-- 'laws.FnExactDropCard', WHERE WHAT IT READS IS OF BULK AT MOST 1048576: true; the input reads as it did. -/
def fnExactDropCardUptoRow : OpenClaim := { program := "ytfiikhdkohgmfaa", sum := "6719b2858a8ed5d434d412373f1fbca00b19ddf2cd89939fb08dda46a914cfd9", func := "loop.example/g01305/laws.FnExactDropCard", spec := "fnExactDropCard", unfollowed := true, recurses := true, apart := false, narrowed := true }
def FnExactDropCardUptoSaid : Prop := fnExactDropCardUptoRow.holds Try.pinned (OpenSpec.upto fnExactDropCardSpec)

/-- 'laws.FnExactOtherCard', WHERE WHAT IT READS IS OF BULK AT MOST 1048576: true; the input reads as it did. -/
def fnExactOtherCardUptoRow : OpenClaim := { program := "ytfiikhdkohgmfaa", sum := "6719b2858a8ed5d434d412373f1fbca00b19ddf2cd89939fb08dda46a914cfd9", func := "loop.example/g01305/laws.FnExactOtherCard", spec := "fnExactOtherCard", unfollowed := true, recurses := true, apart := false, narrowed := true }
def FnExactOtherCardUptoSaid : Prop := fnExactOtherCardUptoRow.holds Try.pinned (OpenSpec.upto fnExactOtherCardSpec)

/-- 'laws.FnExactNeedlessCards', WHERE WHAT IT READS IS OF BULK AT MOST 1048576: true; the input reads as it did. -/
def fnExactNeedlessCardsUptoRow : OpenClaim := { program := "ytfiikhdkohgmfaa", sum := "6719b2858a8ed5d434d412373f1fbca00b19ddf2cd89939fb08dda46a914cfd9", func := "loop.example/g01305/laws.FnExactNeedlessCards", spec := "fnExactNeedlessCards", unfollowed := true, recurses := true, apart := false, narrowed := true }
def FnExactNeedlessCardsUptoSaid : Prop := fnExactNeedlessCardsUptoRow.holds Try.pinned (OpenSpec.upto fnExactNeedlessCardsSpec)

/-- 'laws.FnExactMakePuzzle', WHERE WHAT IT READS IS OF BULK AT MOST 1048576: true; the input reads as it did. -/
def fnExactMakePuzzleUptoRow : OpenClaim := { program := "ytfiikhdkohgmfaa", sum := "6719b2858a8ed5d434d412373f1fbca00b19ddf2cd89939fb08dda46a914cfd9", func := "loop.example/g01305/laws.FnExactMakePuzzle", spec := "fnExactMakePuzzle", unfollowed := true, recurses := true, apart := false, narrowed := true }
def FnExactMakePuzzleUptoSaid : Prop := fnExactMakePuzzleUptoRow.holds Try.pinned (OpenSpec.upto fnExactMakePuzzleSpec)

/-- 'laws.FnExactPiecesOfCuts', WHERE WHAT IT READS IS OF BULK AT MOST 1048576: true; the input reads as it did. -/
def fnExactPiecesOfCutsUptoRow : OpenClaim := { program := "ytfiikhdkohgmfaa", sum := "6719b2858a8ed5d434d412373f1fbca00b19ddf2cd89939fb08dda46a914cfd9", func := "loop.example/g01305/laws.FnExactPiecesOfCuts", spec := "fnExactPiecesOfCuts", unfollowed := true, recurses := true, apart := false, narrowed := true }
def FnExactPiecesOfCutsUptoSaid : Prop := fnExactPiecesOfCutsUptoRow.holds Try.pinned (OpenSpec.upto fnExactPiecesOfCutsSpec)

/-- 'laws.FnExactRunOfCuts', WHERE WHAT IT READS IS OF BULK AT MOST 1048576: true; the input reads as it did. -/
def fnExactRunOfCutsUptoRow : OpenClaim := { program := "ytfiikhdkohgmfaa", sum := "6719b2858a8ed5d434d412373f1fbca00b19ddf2cd89939fb08dda46a914cfd9", func := "loop.example/g01305/laws.FnExactRunOfCuts", spec := "fnExactRunOfCuts", unfollowed := true, recurses := true, apart := false, narrowed := true }
def FnExactRunOfCutsUptoSaid : Prop := fnExactRunOfCutsUptoRow.holds Try.pinned (OpenSpec.upto fnExactRunOfCutsSpec)

/-- 'laws.FnExactDoCutsPay', WHERE WHAT IT READS IS OF BULK AT MOST 1048576: true; the input reads as it did. -/
def fnExactDoCutsPayUptoRow : OpenClaim := { program := "ytfiikhdkohgmfaa", sum := "6719b2858a8ed5d434d412373f1fbca00b19ddf2cd89939fb08dda46a914cfd9", func := "loop.example/g01305/laws.FnExactDoCutsPay", spec := "fnExactDoCutsPay", unfollowed := true, recurses := true, apart := false, narrowed := true }
def FnExactDoCutsPayUptoSaid : Prop := fnExactDoCutsPayUptoRow.holds Try.pinned (OpenSpec.upto fnExactDoCutsPaySpec)

/-- 'laws.FnExactRingPieces', WHERE WHAT IT READS IS OF BULK AT MOST 1048576: true; the input reads as it did. -/
def fnExactRingPiecesUptoRow : OpenClaim := { program := "ytfiikhdkohgmfaa", sum := "6719b2858a8ed5d434d412373f1fbca00b19ddf2cd89939fb08dda46a914cfd9", func := "loop.example/g01305/laws.FnExactRingPieces", spec := "fnExactRingPieces", unfollowed := true, recurses := true, apart := false, narrowed := true }
def FnExactRingPiecesUptoSaid : Prop := fnExactRingPiecesUptoRow.holds Try.pinned (OpenSpec.upto fnExactRingPiecesSpec)

/-- 'laws.FnExactCountCuts', WHERE WHAT IT READS IS OF BULK AT MOST 1048576: true; the input reads as it did. -/
def fnExactCountCutsUptoRow : OpenClaim := { program := "ytfiikhdkohgmfaa", sum := "6719b2858a8ed5d434d412373f1fbca00b19ddf2cd89939fb08dda46a914cfd9", func := "loop.example/g01305/laws.FnExactCountCuts", spec := "fnExactCountCuts", unfollowed := true, recurses := true, apart := false, narrowed := true }
def FnExactCountCutsUptoSaid : Prop := fnExactCountCutsUptoRow.holds Try.pinned (OpenSpec.upto fnExactCountCutsSpec)

end Rows
end Go.Proofs.Ytfiikhdkohgmfaa
