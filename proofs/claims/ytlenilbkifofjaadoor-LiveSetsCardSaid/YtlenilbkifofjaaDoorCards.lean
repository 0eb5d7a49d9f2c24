/-
  DERIVED. GIVEN WITH THE SEED: THE CARDS: each row of YtlenilbkifofjaaDoorRows.lean that lists a variable, with what it lists TIED to the program's text (the seventh form; the later family's looks); each row that meets fmt, with fmt's text TOLD by the authors' own Lean function (tested against real Go, not proved from fmt's source: count such statements apart). THE CARD IS WHAT COUNTS. Prove the row's statement (the work); the ties are given (YtlenilbkifofjaaDoorTie.lean); close each card by the builder's one call (the guide's Derived/Test/ToyasCard.lean, 'card_holds'). Laid BY PROGRAM, IN A SANDBOX (cutbox-door.mjs). By AI agents, Wed Nov 11 2026. No macro, syntax, notation, axiom, sorry.
-/
import Derived.Test.YtlenilbkifofjaaDoorRows
import GoSem.ClaimSeven
namespace Go.Proofs.YtlenilbkifofjaaDoor
namespace Rows

/-- THE TIED CARD OF 'gantletlaw16.LiveUses'. -/
def liveUsesCard : Claim7 := { stood := { row := liveUsesRow, standIns := [], harness := (true, "c9f5f596023f47f8834d18d8d1d3ecce358be70731ed26a5d2c1b0ffaae12c83"), looks := false }, kinds := [], alts := [], laidByText := true, laidKinds := [.data], laidTests := true, laidLooks := .later }
def LiveUsesCardSaid : Prop := Claim7.holds Tryd.pinned (.plain (OpenSpec.ofChange liveUsesSpec)) liveUsesCard

/-- THE TIED CARD OF 'gantletlaw16.LiveSets'. -/
def liveSetsCard : Claim7 := { stood := { row := liveSetsRow, standIns := [], harness := (true, "c9f5f596023f47f8834d18d8d1d3ecce358be70731ed26a5d2c1b0ffaae12c83"), looks := false }, kinds := [], alts := [], laidByText := true, laidKinds := [.data], laidTests := true, laidLooks := .later }
def LiveSetsCardSaid : Prop := Claim7.holds Tryd.pinned (.plain (OpenSpec.ofChange liveSetsSpec)) liveSetsCard

/-- THE SECOND FORM's CARD OF 'gantletlaw16.LiveUses'. -/
def liveUsesUptoCard : Claim7 := { stood := { row := liveUsesUptoRow, standIns := [], harness := (true, "c9f5f596023f47f8834d18d8d1d3ecce358be70731ed26a5d2c1b0ffaae12c83"), looks := false }, kinds := [], alts := [], laidByText := true, laidKinds := [.data], laidTests := true, laidLooks := .later }
def LiveUsesUptoCardSaid : Prop := Claim7.holds Tryd.pinned (.plain (OpenSpec.upto liveUsesSpec)) liveUsesUptoCard

/-- THE SECOND FORM's CARD OF 'gantletlaw16.LiveSets'. -/
def liveSetsUptoCard : Claim7 := { stood := { row := liveSetsUptoRow, standIns := [], harness := (true, "c9f5f596023f47f8834d18d8d1d3ecce358be70731ed26a5d2c1b0ffaae12c83"), looks := false }, kinds := [], alts := [], laidByText := true, laidKinds := [.data], laidTests := true, laidLooks := .later }
def LiveSetsUptoCardSaid : Prop := Claim7.holds Tryd.pinned (.plain (OpenSpec.upto liveSetsSpec)) liveSetsUptoCard
end Rows
end Go.Proofs.YtlenilbkifofjaaDoor
