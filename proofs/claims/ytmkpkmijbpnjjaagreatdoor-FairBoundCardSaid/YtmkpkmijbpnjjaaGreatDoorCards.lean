/-
  DERIVED. GIVEN WITH THE SEED: THE CARDS: each row of YtmkpkmijbpnjjaaGreatDoorRows.lean that lists a variable, with what it lists TIED to the program's text (the seventh form; the later family's looks); each row that meets fmt, with fmt's text TOLD by the authors' own Lean function (tested against real Go, not proved from fmt's source: count such statements apart). THE CARD IS WHAT COUNTS. Prove the row's statement (the work); the ties are given (YtmkpkmijbpnjjaaGreatDoorTie.lean); close each card by the builder's one call (the guide's Derived/Test/ToyasCard.lean, 'card_holds'). Laid BY PROGRAM, IN A SANDBOX (cutbox-door.mjs). By AI agents, Wed Nov 11 2026. No macro, syntax, notation, axiom, sorry.
-/
import Derived.Test.YtmkpkmijbpnjjaaGreatDoorRows
import GoSem.ClaimSeven
namespace Go.Proofs.YtmkpkmijbpnjjaaGreatDoor
namespace Rows

/-- THE TIED CARD OF 'manystrandlaw14.FairBound'. -/
def fairBoundCard : Claim7 := { stood := { row := fairBoundRow, standIns := [], harness := (true, "81b799e921fdc5b859336bd9ff2d3f00191bd3d65564adfd021dc9dd4bb62ac3"), looks := true }, kinds := [], alts := [], laidByText := true, laidKinds := [.data, .data, .data, .data, .pinned, .pinned, .pinned, .pinned, .pinned, .pinned], laidTests := true, laidLooks := .later }
def FairBoundCardSaid : Prop := Claim7.holds Tryz.pinned (.plain (OpenSpec.ofChange fairBoundSpec)) fairBoundCard

/-- THE SECOND FORM's CARD OF 'manystrandlaw14.FairBound'. -/
def fairBoundUptoCard : Claim7 := { stood := { row := fairBoundUptoRow, standIns := [], harness := (true, "81b799e921fdc5b859336bd9ff2d3f00191bd3d65564adfd021dc9dd4bb62ac3"), looks := true }, kinds := [], alts := [], laidByText := true, laidKinds := [.data, .data, .data, .data, .pinned, .pinned, .pinned, .pinned, .pinned, .pinned], laidTests := true, laidLooks := .later }
def FairBoundUptoCardSaid : Prop := Claim7.holds Tryz.pinned (.plain (OpenSpec.upto fairBoundSpec)) fairBoundUptoCard
end Rows
end Go.Proofs.YtmkpkmijbpnjjaaGreatDoor
