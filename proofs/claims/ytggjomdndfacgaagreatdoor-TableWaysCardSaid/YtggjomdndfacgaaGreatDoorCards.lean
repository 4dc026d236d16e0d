/-
  DERIVED. GIVEN WITH THE SEED: THE CARDS: each row of YtggjomdndfacgaaGreatDoorRows.lean that lists a variable, with what it lists TIED to the program's text (the seventh form; the later family's looks); each row that meets fmt, with fmt's text TOLD by the authors' own Lean function (tested against real Go, not proved from fmt's source: count such statements apart). THE CARD IS WHAT COUNTS. Prove the row's statement (the work); the ties are given (YtggjomdndfacgaaGreatDoorTie.lean); close each card by the builder's one call (the guide's Derived/Test/ToyasCard.lean, 'card_holds'). Laid BY PROGRAM, IN A SANDBOX (cutbox-door.mjs). By AI agents, Wed Nov 11 2026. No macro, syntax, notation, axiom, sorry.
-/
import Derived.Test.YtggjomdndfacgaaGreatDoorRows
import GoSem.ClaimSeven
namespace Go.Proofs.YtggjomdndfacgaaGreatDoor
namespace Rows

/-- THE TIED CARD OF 'consistorylaw12.TableUnique'. -/
def tableUniqueCard : Claim7 := { stood := { row := tableUniqueRow, standIns := [], harness := (true, "b791f0cdc64220e2eaa7a3090d4e58a20d86361373907d2c156e334137443c83"), looks := true }, kinds := [], alts := [], laidByText := true, laidKinds := [.handle], laidTests := true, laidLooks := .later }
def TableUniqueCardSaid : Prop := Claim7.holds Tryz.pinned (.plain (OpenSpec.ofChange tableUniqueSpec)) tableUniqueCard

/-- THE TIED CARD OF 'consistorylaw12.TableIds'. -/
def tableIdsCard : Claim7 := { stood := { row := tableIdsRow, standIns := [], harness := (true, "b791f0cdc64220e2eaa7a3090d4e58a20d86361373907d2c156e334137443c83"), looks := true }, kinds := [], alts := [], laidByText := true, laidKinds := [.handle], laidTests := true, laidLooks := .later }
def TableIdsCardSaid : Prop := Claim7.holds Tryz.pinned (.plain (OpenSpec.ofChange tableIdsSpec)) tableIdsCard

/-- THE TIED CARD OF 'consistorylaw12.TableWays'. -/
def tableWaysCard : Claim7 := { stood := { row := tableWaysRow, standIns := [], harness := (true, "b791f0cdc64220e2eaa7a3090d4e58a20d86361373907d2c156e334137443c83"), looks := true }, kinds := [], alts := [], laidByText := true, laidKinds := [.handle], laidTests := true, laidLooks := .later }
def TableWaysCardSaid : Prop := Claim7.holds Tryz.pinned (.plain (OpenSpec.ofChange tableWaysSpec)) tableWaysCard

/-- THE SECOND FORM's CARD OF 'consistorylaw12.TableUnique'. -/
def tableUniqueUptoCard : Claim7 := { stood := { row := tableUniqueUptoRow, standIns := [], harness := (true, "b791f0cdc64220e2eaa7a3090d4e58a20d86361373907d2c156e334137443c83"), looks := true }, kinds := [], alts := [], laidByText := true, laidKinds := [.handle], laidTests := true, laidLooks := .later }
def TableUniqueUptoCardSaid : Prop := Claim7.holds Tryz.pinned (.plain (OpenSpec.upto tableUniqueSpec)) tableUniqueUptoCard

/-- THE SECOND FORM's CARD OF 'consistorylaw12.TableIds'. -/
def tableIdsUptoCard : Claim7 := { stood := { row := tableIdsUptoRow, standIns := [], harness := (true, "b791f0cdc64220e2eaa7a3090d4e58a20d86361373907d2c156e334137443c83"), looks := true }, kinds := [], alts := [], laidByText := true, laidKinds := [.handle], laidTests := true, laidLooks := .later }
def TableIdsUptoCardSaid : Prop := Claim7.holds Tryz.pinned (.plain (OpenSpec.upto tableIdsSpec)) tableIdsUptoCard

/-- THE SECOND FORM's CARD OF 'consistorylaw12.TableWays'. -/
def tableWaysUptoCard : Claim7 := { stood := { row := tableWaysUptoRow, standIns := [], harness := (true, "b791f0cdc64220e2eaa7a3090d4e58a20d86361373907d2c156e334137443c83"), looks := true }, kinds := [], alts := [], laidByText := true, laidKinds := [.handle], laidTests := true, laidLooks := .later }
def TableWaysUptoCardSaid : Prop := Claim7.holds Tryz.pinned (.plain (OpenSpec.upto tableWaysSpec)) tableWaysUptoCard
end Rows
end Go.Proofs.YtggjomdndfacgaaGreatDoor
