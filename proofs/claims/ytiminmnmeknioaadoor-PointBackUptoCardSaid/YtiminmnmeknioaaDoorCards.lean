/-
  DERIVED. GIVEN WITH THE SEED: THE CARDS: each row of YtiminmnmeknioaaDoorRows.lean that lists a variable, with what it lists TIED to the program's text (the seventh form; the later family's looks); each row that meets fmt, with fmt's text TOLD by the authors' own Lean function (tested against real Go, not proved from fmt's source: count such statements apart). THE CARD IS WHAT COUNTS. Prove the row's statement (the work); the ties are given (YtiminmnmeknioaaDoorTie.lean); close each card by the builder's one call (the guide's Derived/Test/ToyasCard.lean, 'card_holds'). Laid BY PROGRAM, IN A SANDBOX (cutbox-door.mjs). By AI agents, Wed Nov 11 2026. No macro, syntax, notation, axiom, sorry.
-/
import Derived.Test.YtiminmnmeknioaaDoorRows
import GoSem.ClaimSeven
namespace Go.Proofs.YtiminmnmeknioaaDoor
namespace Rows

/-- THE TIED CARD OF 'undercroftlaw17.PointBack'. -/
def pointBackCard : Claim7 := { stood := { row := pointBackRow, standIns := [], harness := (true, "f5ed9f6b7858fd20ef6837e1b7c6d83b5b037220165a035b2c1453b05296bf4d"), looks := true }, kinds := [], alts := [], laidByText := true, laidKinds := [.data, .handle, .pinned], laidTests := true, laidLooks := .later }
def PointBackCardSaid : Prop := Claim7.holds Tryd.pinned (.plain (OpenSpec.ofChange pointBackSpec)) pointBackCard

/-- THE SECOND FORM's CARD OF 'undercroftlaw17.PointBack'. -/
def pointBackUptoCard : Claim7 := { stood := { row := pointBackUptoRow, standIns := [], harness := (true, "f5ed9f6b7858fd20ef6837e1b7c6d83b5b037220165a035b2c1453b05296bf4d"), looks := true }, kinds := [], alts := [], laidByText := true, laidKinds := [.data, .handle, .pinned], laidTests := true, laidLooks := .later }
def PointBackUptoCardSaid : Prop := Claim7.holds Tryd.pinned (.plain (OpenSpec.upto pointBackSpec)) pointBackUptoCard
end Rows
end Go.Proofs.YtiminmnmeknioaaDoor
