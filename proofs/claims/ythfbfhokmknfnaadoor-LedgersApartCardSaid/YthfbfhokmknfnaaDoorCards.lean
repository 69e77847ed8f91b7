/-
  DERIVED. GIVEN WITH THE SEED: THE CARDS: each row of YthfbfhokmknfnaaDoorRows.lean that lists a variable, with what it lists TIED to the program's text (the seventh form; the later family's looks); each row that meets fmt, with fmt's text TOLD by the authors' own Lean function (tested against real Go, not proved from fmt's source: count such statements apart). THE CARD IS WHAT COUNTS. Prove the row's statement (the work); the ties are given (YthfbfhokmknfnaaDoorTie.lean); close each card by the builder's one call (the guide's Derived/Test/ToyasCard.lean, 'card_holds'). Laid BY PROGRAM, IN A SANDBOX (cutbox-door.mjs). By AI agents, Wed Nov 11 2026. No macro, syntax, notation, axiom, sorry.
-/
import Derived.Test.YthfbfhokmknfnaaDoorRows
import GoSem.ClaimSeven
namespace Go.Proofs.YthfbfhokmknfnaaDoor
namespace Rows

/-- THE TIED CARD OF 'ferryhouselaw16.LedgersBehind'. -/
def ledgersBehindCard : Claim7 := { stood := { row := ledgersBehindRow, standIns := [], harness := (true, "a20de856dafc6e8c33fa7c4ba513c8505daf02d486c6f649caac7b245271d592"), looks := true }, kinds := [], alts := [], laidByText := true, laidKinds := [.handle], laidTests := true, laidLooks := .later }
def LedgersBehindCardSaid : Prop := Claim7.holds Tryd.pinned (.plain (OpenSpec.ofChange ledgersBehindSpec)) ledgersBehindCard

/-- THE TIED CARD OF 'ferryhouselaw16.LedgersKeys'. -/
def ledgersKeysCard : Claim7 := { stood := { row := ledgersKeysRow, standIns := [], harness := (true, "a20de856dafc6e8c33fa7c4ba513c8505daf02d486c6f649caac7b245271d592"), looks := true }, kinds := [], alts := [], laidByText := true, laidKinds := [.handle], laidTests := true, laidLooks := .later }
def LedgersKeysCardSaid : Prop := Claim7.holds Tryd.pinned (.plain (OpenSpec.ofChange ledgersKeysSpec)) ledgersKeysCard

/-- THE TIED CARD OF 'ferryhouselaw16.LedgersApart'. -/
def ledgersApartCard : Claim7 := { stood := { row := ledgersApartRow, standIns := [], harness := (true, "a20de856dafc6e8c33fa7c4ba513c8505daf02d486c6f649caac7b245271d592"), looks := true }, kinds := [], alts := [], laidByText := true, laidKinds := [.handle], laidTests := true, laidLooks := .later }
def LedgersApartCardSaid : Prop := Claim7.holds Tryd.pinned (.plain (OpenSpec.ofChange ledgersApartSpec)) ledgersApartCard

/-- THE SECOND FORM's CARD OF 'ferryhouselaw16.LedgersBehind'. -/
def ledgersBehindUptoCard : Claim7 := { stood := { row := ledgersBehindUptoRow, standIns := [], harness := (true, "a20de856dafc6e8c33fa7c4ba513c8505daf02d486c6f649caac7b245271d592"), looks := true }, kinds := [], alts := [], laidByText := true, laidKinds := [.handle], laidTests := true, laidLooks := .later }
def LedgersBehindUptoCardSaid : Prop := Claim7.holds Tryd.pinned (.plain (OpenSpec.upto ledgersBehindSpec)) ledgersBehindUptoCard

/-- THE SECOND FORM's CARD OF 'ferryhouselaw16.LedgersKeys'. -/
def ledgersKeysUptoCard : Claim7 := { stood := { row := ledgersKeysUptoRow, standIns := [], harness := (true, "a20de856dafc6e8c33fa7c4ba513c8505daf02d486c6f649caac7b245271d592"), looks := true }, kinds := [], alts := [], laidByText := true, laidKinds := [.handle], laidTests := true, laidLooks := .later }
def LedgersKeysUptoCardSaid : Prop := Claim7.holds Tryd.pinned (.plain (OpenSpec.upto ledgersKeysSpec)) ledgersKeysUptoCard

/-- THE SECOND FORM's CARD OF 'ferryhouselaw16.LedgersApart'. -/
def ledgersApartUptoCard : Claim7 := { stood := { row := ledgersApartUptoRow, standIns := [], harness := (true, "a20de856dafc6e8c33fa7c4ba513c8505daf02d486c6f649caac7b245271d592"), looks := true }, kinds := [], alts := [], laidByText := true, laidKinds := [.handle], laidTests := true, laidLooks := .later }
def LedgersApartUptoCardSaid : Prop := Claim7.holds Tryd.pinned (.plain (OpenSpec.upto ledgersApartSpec)) ledgersApartUptoCard
end Rows
end Go.Proofs.YthfbfhokmknfnaaDoor
