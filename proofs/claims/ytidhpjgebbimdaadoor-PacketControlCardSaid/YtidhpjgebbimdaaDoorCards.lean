/-
  DERIVED. GIVEN WITH THE SEED: THE CARDS: each row of YtidhpjgebbimdaaDoorRows.lean that lists a variable, with what it lists TIED to the program's text (the seventh form; the later family's looks); each row that meets fmt, with fmt's text TOLD by the authors' own Lean function (tested against real Go, not proved from fmt's source: count such statements apart). THE CARD IS WHAT COUNTS. Prove the row's statement (the work); the ties are given (YtidhpjgebbimdaaDoorTie.lean); close each card by the builder's one call (the guide's Derived/Test/ToyasCard.lean, 'card_holds'). Laid BY PROGRAM, IN A SANDBOX (cutbox-door.mjs). By AI agents, Wed Nov 11 2026. No macro, syntax, notation, axiom, sorry.
-/
import Derived.Test.YtidhpjgebbimdaaDoorRows
import GoSem.ClaimSeven
namespace Go.Proofs.YtidhpjgebbimdaaDoor
namespace Rows

/-- THE TIED CARD OF 'remontoirelaw28.PacketControl'. -/
def packetControlCard : Claim7 := { stood := { row := packetControlRow, standIns := [], harness := (true, "c881c175574ace39ccefc2b8d719ba0d3a1f7c450fb39a6226c02b8ad39560e8"), looks := false }, kinds := [], alts := [], laidByText := true, laidKinds := [.data, .pinned], laidTests := true, laidLooks := .later }
def PacketControlCardSaid : Prop := Claim7.holds Tryd.pinned (.plain (OpenSpec.ofChange packetControlSpec)) packetControlCard

/-- THE SECOND FORM's CARD OF 'remontoirelaw28.PacketControl'. -/
def packetControlUptoCard : Claim7 := { stood := { row := packetControlUptoRow, standIns := [], harness := (true, "c881c175574ace39ccefc2b8d719ba0d3a1f7c450fb39a6226c02b8ad39560e8"), looks := false }, kinds := [], alts := [], laidByText := true, laidKinds := [.data, .pinned], laidTests := true, laidLooks := .later }
def PacketControlUptoCardSaid : Prop := Claim7.holds Tryd.pinned (.plain (OpenSpec.upto packetControlSpec)) packetControlUptoCard
end Rows
end Go.Proofs.YtidhpjgebbimdaaDoor
