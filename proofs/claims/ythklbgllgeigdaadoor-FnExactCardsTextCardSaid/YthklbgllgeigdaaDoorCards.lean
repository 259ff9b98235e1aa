/-
  DERIVED. GIVEN WITH THE SEED: THE CARDS: each row of YthklbgllgeigdaaDoorRows.lean that lists a variable, with what it lists TIED to the program's text (the seventh form; the later family's looks); each row that meets fmt, with fmt's text TOLD by the authors' own Lean function (tested against real Go, not proved from fmt's source: count such statements apart). THE CARD IS WHAT COUNTS. Prove the row's statement (the work); the ties are given (YthklbgllgeigdaaDoorTie.lean); close each card by the builder's one call (the guide's Derived/Test/ToyasCard.lean, 'card_holds'). Laid BY PROGRAM, IN A SANDBOX (cutbox-door.mjs). By AI agents, Wed Nov 11 2026. No macro, syntax, notation, axiom, sorry.
-/
import Derived.Test.YthklbgllgeigdaaDoorRows
import GoSem.ClaimSeven
namespace Go.Proofs.YthklbgllgeigdaaDoor
namespace Rows

/-- THE TIED CARD OF 'laws.FnExactPuzzleText'. -/
def fnExactPuzzleTextCard : Claim7 := { stood := { row := fnExactPuzzleTextRow, standIns := [], harness := (true, "2c4a152417b52c4a3ed18ee12d4c25a9c1ea921e248d1b966fdae9ded706c197"), looks := false }, kinds := [], alts := [], laidByText := true, laidKinds := [.data, .data, .data], laidTests := true, laidLooks := .later }
def FnExactPuzzleTextCardSaid : Prop := Claim7.holds Tryd.pinned (.plain (OpenSpec.ofChange fnExactPuzzleTextSpec)) fnExactPuzzleTextCard

/-- THE TIED CARD OF 'laws.FnExactCardsText'. -/
def fnExactCardsTextCard : Claim7 := { stood := { row := fnExactCardsTextRow, standIns := [], harness := (true, "2c4a152417b52c4a3ed18ee12d4c25a9c1ea921e248d1b966fdae9ded706c197"), looks := false }, kinds := [], alts := [], laidByText := true, laidKinds := [.data, .data, .data], laidTests := true, laidLooks := .later }
def FnExactCardsTextCardSaid : Prop := Claim7.holds Tryd.pinned (.plain (OpenSpec.ofChange fnExactCardsTextSpec)) fnExactCardsTextCard

/-- THE SECOND FORM's CARD OF 'laws.FnExactPuzzleText'. -/
def fnExactPuzzleTextUptoCard : Claim7 := { stood := { row := fnExactPuzzleTextUptoRow, standIns := [], harness := (true, "2c4a152417b52c4a3ed18ee12d4c25a9c1ea921e248d1b966fdae9ded706c197"), looks := false }, kinds := [], alts := [], laidByText := true, laidKinds := [.data, .data, .data], laidTests := true, laidLooks := .later }
def FnExactPuzzleTextUptoCardSaid : Prop := Claim7.holds Tryd.pinned (.plain (OpenSpec.upto fnExactPuzzleTextSpec)) fnExactPuzzleTextUptoCard

/-- THE SECOND FORM's CARD OF 'laws.FnExactCardsText'. -/
def fnExactCardsTextUptoCard : Claim7 := { stood := { row := fnExactCardsTextUptoRow, standIns := [], harness := (true, "2c4a152417b52c4a3ed18ee12d4c25a9c1ea921e248d1b966fdae9ded706c197"), looks := false }, kinds := [], alts := [], laidByText := true, laidKinds := [.data, .data, .data], laidTests := true, laidLooks := .later }
def FnExactCardsTextUptoCardSaid : Prop := Claim7.holds Tryd.pinned (.plain (OpenSpec.upto fnExactCardsTextSpec)) fnExactCardsTextUptoCard
end Rows
end Go.Proofs.YthklbgllgeigdaaDoor
