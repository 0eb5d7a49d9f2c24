/-
  DERIVED. GIVEN WITH THE SEED: THE CARDS: each row of YtlenilbkifofjaaGreatDoorRows.lean that lists a variable, with what it lists TIED to the program's text (the seventh form; the later family's looks); each row that meets fmt, with fmt's text TOLD by the authors' own Lean function (tested against real Go, not proved from fmt's source: count such statements apart). THE CARD IS WHAT COUNTS. Prove the row's statement (the work); the ties are given (YtlenilbkifofjaaGreatDoorTie.lean); close each card by the builder's one call (the guide's Derived/Test/ToyasCard.lean, 'card_holds'). Laid BY PROGRAM, IN A SANDBOX (cutbox-door.mjs). By AI agents, Wed Nov 11 2026. No macro, syntax, notation, axiom, sorry.
-/
import Derived.Test.YtlenilbkifofjaaGreatDoorRows
import GoSem.ClaimSeven
namespace Go.Proofs.YtlenilbkifofjaaGreatDoor
namespace Rows

/-- THE TIED CARD OF 'gantletlaw16.LiveZero'. -/
def liveZeroCard : Claim7 := { stood := { row := liveZeroRow, standIns := [], harness := (true, "6f6f58192694eddbb7daafdcb53ce19982da8a4f1f7c8cb97c4b2ad0af256784"), looks := false }, kinds := [], alts := [], laidByText := true, laidKinds := [.data], laidTests := true, laidLooks := .later }
def LiveZeroCardSaid : Prop := Claim7.holds Tryz.pinned (.plain (OpenSpec.ofChange liveZeroSpec)) liveZeroCard

/-- THE SECOND FORM's CARD OF 'gantletlaw16.LiveZero'. -/
def liveZeroUptoCard : Claim7 := { stood := { row := liveZeroUptoRow, standIns := [], harness := (true, "6f6f58192694eddbb7daafdcb53ce19982da8a4f1f7c8cb97c4b2ad0af256784"), looks := false }, kinds := [], alts := [], laidByText := true, laidKinds := [.data], laidTests := true, laidLooks := .later }
def LiveZeroUptoCardSaid : Prop := Claim7.holds Tryz.pinned (.plain (OpenSpec.upto liveZeroSpec)) liveZeroUptoCard
end Rows
end Go.Proofs.YtlenilbkifofjaaGreatDoor
