/-
  DERIVED. GIVEN WITH THE SEED: THE CARDS: each row of YtocknmijghfafaaDoorRows.lean that lists a variable, with what it lists TIED to the program's text (the seventh form; the later family's looks); each row that meets fmt, with fmt's text TOLD by the authors' own Lean function (tested against real Go, not proved from fmt's source: count such statements apart). THE CARD IS WHAT COUNTS. Prove the row's statement (the work); the ties are given (YtocknmijghfafaaDoorTie.lean); close each card by the builder's one call (the guide's Derived/Test/ToyasCard.lean, 'card_holds'). Laid BY PROGRAM, IN A SANDBOX (cutbox-door.mjs). By AI agents, Wed Nov 11 2026. No macro, syntax, notation, axiom, sorry.
-/
import Derived.Test.YtocknmijghfafaaDoorRows
import GoSem.ClaimSeven
namespace Go.Proofs.YtocknmijghfafaaDoor
namespace Rows

/-- THE TIED CARD OF 'laws.FnExactParseRuler'. -/
def fnExactParseRulerCard : Claim7 := { stood := { row := fnExactParseRulerRow, standIns := [], harness := (true, "52711048645a0530a4e0c84fadd34b0f780aaa0280b230691c0233494183fc5d"), looks := true }, kinds := [], alts := [], laidByText := true, laidKinds := [.data, .data, .data, .data, .sentinel, .sentinel, .pinned], laidTests := true, laidLooks := .later }
def FnExactParseRulerCardSaid : Prop := Claim7.holds Tryd.pinned (.plain (OpenSpec.ofChange fnExactParseRulerSpec)) fnExactParseRulerCard

/-- THE TIED CARD OF 'laws.FnExactParsePieces'. -/
def fnExactParsePiecesCard : Claim7 := { stood := { row := fnExactParsePiecesRow, standIns := [], harness := (true, "52711048645a0530a4e0c84fadd34b0f780aaa0280b230691c0233494183fc5d"), looks := true }, kinds := [], alts := [], laidByText := true, laidKinds := [.data, .data, .data, .data, .sentinel, .sentinel, .pinned], laidTests := true, laidLooks := .later }
def FnExactParsePiecesCardSaid : Prop := Claim7.holds Tryd.pinned (.plain (OpenSpec.ofChange fnExactParsePiecesSpec)) fnExactParsePiecesCard

/-- THE SECOND FORM's CARD OF 'laws.FnExactParseRuler'. -/
def fnExactParseRulerUptoCard : Claim7 := { stood := { row := fnExactParseRulerUptoRow, standIns := [], harness := (true, "52711048645a0530a4e0c84fadd34b0f780aaa0280b230691c0233494183fc5d"), looks := true }, kinds := [], alts := [], laidByText := true, laidKinds := [.data, .data, .data, .data, .sentinel, .sentinel, .pinned], laidTests := true, laidLooks := .later }
def FnExactParseRulerUptoCardSaid : Prop := Claim7.holds Tryd.pinned (.plain (OpenSpec.upto fnExactParseRulerSpec)) fnExactParseRulerUptoCard

/-- THE SECOND FORM's CARD OF 'laws.FnExactParsePieces'. -/
def fnExactParsePiecesUptoCard : Claim7 := { stood := { row := fnExactParsePiecesUptoRow, standIns := [], harness := (true, "52711048645a0530a4e0c84fadd34b0f780aaa0280b230691c0233494183fc5d"), looks := true }, kinds := [], alts := [], laidByText := true, laidKinds := [.data, .data, .data, .data, .sentinel, .sentinel, .pinned], laidTests := true, laidLooks := .later }
def FnExactParsePiecesUptoCardSaid : Prop := Claim7.holds Tryd.pinned (.plain (OpenSpec.upto fnExactParsePiecesSpec)) fnExactParsePiecesUptoCard
end Rows
end Go.Proofs.YtocknmijghfafaaDoor
