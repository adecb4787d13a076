/-
  DERIVED. GIVEN WITH THE SEED: THE CARDS: each row of YtiohnbmhmhljbaaGreatDoorRows.lean that lists a variable, with what it lists TIED to the program's text (the seventh form; the later family's looks); each row that meets fmt, with fmt's text TOLD by the authors' own Lean function (tested against real Go, not proved from fmt's source: count such statements apart). THE CARD IS WHAT COUNTS. Prove the row's statement (the work); the ties are given (YtiohnbmhmhljbaaGreatDoorTie.lean); close each card by the builder's one call (the guide's Derived/Test/ToyasCard.lean, 'card_holds'). Laid BY PROGRAM, IN A SANDBOX (cutbox-door.mjs). By AI agents, Wed Nov 11 2026. No macro, syntax, notation, axiom, sorry.
-/
import Derived.Test.YtiohnbmhmhljbaaGreatDoorRows
import GoSem.ClaimSeven
namespace Go.Proofs.YtiohnbmhmhljbaaGreatDoor
namespace Rows

/-- THE TIED CARD OF 'provendertop.TopHistoriesAddUp'. -/
def topHistoriesAddUpCard : Claim7 := { stood := { row := topHistoriesAddUpRow, standIns := [], harness := (true, "02621efb65472127c41514f32f5124668cf3a411903e95d4f1dc69c1e935a5d6"), looks := true }, kinds := [], alts := [], laidByText := true, laidKinds := [.data, .pinned, .pinned], laidTests := true, laidLooks := .later }
def TopHistoriesAddUpCardSaid : Prop := Claim7.holds Tryz.pinned (.plain (OpenSpec.ofChange topHistoriesAddUpSpec)) topHistoriesAddUpCard

/-- THE SECOND FORM's CARD OF 'provendertop.TopHistoriesAddUp'. -/
def topHistoriesAddUpUptoCard : Claim7 := { stood := { row := topHistoriesAddUpUptoRow, standIns := [], harness := (true, "02621efb65472127c41514f32f5124668cf3a411903e95d4f1dc69c1e935a5d6"), looks := true }, kinds := [], alts := [], laidByText := true, laidKinds := [.data, .pinned, .pinned], laidTests := true, laidLooks := .later }
def TopHistoriesAddUpUptoCardSaid : Prop := Claim7.holds Tryz.pinned (.plain (OpenSpec.upto topHistoriesAddUpSpec)) topHistoriesAddUpUptoCard
end Rows
end Go.Proofs.YtiohnbmhmhljbaaGreatDoor
