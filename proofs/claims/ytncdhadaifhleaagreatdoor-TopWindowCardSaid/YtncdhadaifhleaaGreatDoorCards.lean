/-
  DERIVED. GIVEN WITH THE SEED: THE CARDS: each row of YtncdhadaifhleaaGreatDoorRows.lean that lists a variable, with what it lists TIED to the program's text (the seventh form; the later family's looks); each row that meets fmt, with fmt's text TOLD by the authors' own Lean function (tested against real Go, not proved from fmt's source: count such statements apart). THE CARD IS WHAT COUNTS. Prove the row's statement (the work); the ties are given (YtncdhadaifhleaaGreatDoorTie.lean); close each card by the builder's one call (the guide's Derived/Test/ToyasCard.lean, 'card_holds'). Laid BY PROGRAM, IN A SANDBOX (cutbox-door.mjs). By AI agents, Wed Nov 11 2026. No macro, syntax, notation, axiom, sorry.
-/
import Derived.Test.YtncdhadaifhleaaGreatDoorRows
import GoSem.ClaimSeven
namespace Go.Proofs.YtncdhadaifhleaaGreatDoor
namespace Rows

/-- THE TIED CARD OF 'ferryhousetop.TopFits'. -/
def topFitsCard : Claim7 := { stood := { row := topFitsRow, standIns := [], harness := (true, "0e048a911b3519066bab28e170bba434a7a61975a5a49b3c8b7ddfabb4ab8d8f"), looks := true }, kinds := [], alts := [], laidByText := true, laidKinds := [.data, .handle, .data, .data], laidTests := true, laidLooks := .later }
def TopFitsCardSaid : Prop := Claim7.holds Tryz.pinned (.plain (OpenSpec.ofChange topFitsSpec)) topFitsCard

/-- THE TIED CARD OF 'ferryhousetop.TopWindow'. -/
def topWindowCard : Claim7 := { stood := { row := topWindowRow, standIns := [], harness := (true, "0e048a911b3519066bab28e170bba434a7a61975a5a49b3c8b7ddfabb4ab8d8f"), looks := true }, kinds := [], alts := [], laidByText := true, laidKinds := [.data, .handle, .data, .data], laidTests := true, laidLooks := .later }
def TopWindowCardSaid : Prop := Claim7.holds Tryz.pinned (.plain (OpenSpec.ofChange topWindowSpec)) topWindowCard

/-- THE SECOND FORM's CARD OF 'ferryhousetop.TopFits'. -/
def topFitsUptoCard : Claim7 := { stood := { row := topFitsUptoRow, standIns := [], harness := (true, "0e048a911b3519066bab28e170bba434a7a61975a5a49b3c8b7ddfabb4ab8d8f"), looks := true }, kinds := [], alts := [], laidByText := true, laidKinds := [.data, .handle, .data, .data], laidTests := true, laidLooks := .later }
def TopFitsUptoCardSaid : Prop := Claim7.holds Tryz.pinned (.plain (OpenSpec.upto topFitsSpec)) topFitsUptoCard

/-- THE SECOND FORM's CARD OF 'ferryhousetop.TopWindow'. -/
def topWindowUptoCard : Claim7 := { stood := { row := topWindowUptoRow, standIns := [], harness := (true, "0e048a911b3519066bab28e170bba434a7a61975a5a49b3c8b7ddfabb4ab8d8f"), looks := true }, kinds := [], alts := [], laidByText := true, laidKinds := [.data, .handle, .data, .data], laidTests := true, laidLooks := .later }
def TopWindowUptoCardSaid : Prop := Claim7.holds Tryz.pinned (.plain (OpenSpec.upto topWindowSpec)) topWindowUptoCard
end Rows
end Go.Proofs.YtncdhadaifhleaaGreatDoor
