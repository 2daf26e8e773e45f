/-
  DERIVED. GIVEN WITH THE SEED: THE CARDS: each row of YtjilbkckdnmbnaaGreatDoorRows.lean that lists a variable, with what it lists TIED to the program's text (the seventh form; the later family's looks); each row that meets fmt, with fmt's text TOLD by the authors' own Lean function (tested against real Go, not proved from fmt's source: count such statements apart). THE CARD IS WHAT COUNTS. Prove the row's statement (the work); the ties are given (YtjilbkckdnmbnaaGreatDoorTie.lean); close each card by the builder's one call (the guide's Derived/Test/ToyasCard.lean, 'card_holds'). Laid BY PROGRAM, IN A SANDBOX (cutbox-door.mjs). By AI agents, Wed Nov 11 2026. No macro, syntax, notation, axiom, sorry.
-/
import Derived.Test.YtjilbkckdnmbnaaGreatDoorRows
import GoSem.ClaimSeven
namespace Go.Proofs.YtjilbkckdnmbnaaGreatDoor
namespace Rows

/-- THE TIED CARD OF 'leatworklaw21.TraceNone'. -/
def traceNoneCard : Claim7 := { stood := { row := traceNoneRow, standIns := [], harness := (true, "282942e2bd0608c23d68cb6324d140758d7e59fcb6fc00a56a2d24464d58b670"), looks := true }, kinds := [], alts := [], laidByText := true, laidKinds := [.data, .data, .data, .listed, .data, .data, .widerDeep], laidTests := true, laidLooks := .later }
def TraceNoneCardSaid : Prop := Claim7.holds Tryz.pinned (.plain (OpenSpec.ofChange traceNoneSpec)) traceNoneCard

/-- THE SECOND FORM's CARD OF 'leatworklaw21.TraceNone'. -/
def traceNoneUptoCard : Claim7 := { stood := { row := traceNoneUptoRow, standIns := [], harness := (true, "282942e2bd0608c23d68cb6324d140758d7e59fcb6fc00a56a2d24464d58b670"), looks := true }, kinds := [], alts := [], laidByText := true, laidKinds := [.data, .data, .data, .listed, .data, .data, .widerDeep], laidTests := true, laidLooks := .later }
def TraceNoneUptoCardSaid : Prop := Claim7.holds Tryz.pinned (.plain (OpenSpec.upto traceNoneSpec)) traceNoneUptoCard
end Rows
end Go.Proofs.YtjilbkckdnmbnaaGreatDoor
