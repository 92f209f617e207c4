/-
  DERIVED. GIVEN WITH THE SEED: THE CARDS: each row of YtablleokoifolaaGreatDoorRows.lean that lists a variable, with what it lists TIED to the program's text (the seventh form; the later family's looks); each row that meets fmt, with fmt's text TOLD by the authors' own Lean function (tested against real Go, not proved from fmt's source: count such statements apart). THE CARD IS WHAT COUNTS. Prove the row's statement (the work); the ties are given (YtablleokoifolaaGreatDoorTie.lean); close each card by the builder's one call (the guide's Derived/Test/ToyasCard.lean, 'card_holds'). Laid BY PROGRAM, IN A SANDBOX (cutbox-door.mjs). By AI agents, Wed Nov 11 2026. No macro, syntax, notation, axiom, sorry.
-/
import Derived.Test.YtablleokoifolaaGreatDoorRows
import GoSem.ClaimSeven
namespace Go.Proofs.YtablleokoifolaaGreatDoor
namespace Rows

/-- THE TIED CARD OF 'mandrellaw08.ValidChecks'. -/
def validChecksCard : Claim7 := { stood := { row := validChecksRow, standIns := [], harness := (true, "b1e000cc95e04edd2c20241c346acc08e8b01e04131eada54f4191f4e08b23d5"), looks := true }, kinds := [], alts := [], laidByText := true, laidKinds := [.handle], laidTests := true, laidLooks := .later }
def ValidChecksCardSaid : Prop := Claim7.holds Tryz.pinned (.plain (OpenSpec.ofChange validChecksSpec)) validChecksCard

/-- THE TIED CARD OF 'mandrellaw08.ValidBodies'. -/
def validBodiesCard : Claim7 := { stood := { row := validBodiesRow, standIns := [], harness := (true, "b1e000cc95e04edd2c20241c346acc08e8b01e04131eada54f4191f4e08b23d5"), looks := true }, kinds := [], alts := [], laidByText := true, laidKinds := [.handle], laidTests := true, laidLooks := .later }
def ValidBodiesCardSaid : Prop := Claim7.holds Tryz.pinned (.plain (OpenSpec.ofChange validBodiesSpec)) validBodiesCard

/-- THE TIED CARD OF 'mandrellaw08.ValidIdle'. -/
def validIdleCard : Claim7 := { stood := { row := validIdleRow, standIns := [], harness := (true, "b1e000cc95e04edd2c20241c346acc08e8b01e04131eada54f4191f4e08b23d5"), looks := true }, kinds := [], alts := [], laidByText := true, laidKinds := [.handle], laidTests := true, laidLooks := .later }
def ValidIdleCardSaid : Prop := Claim7.holds Tryz.pinned (.plain (OpenSpec.ofChange validIdleSpec)) validIdleCard

/-- THE TIED CARD OF 'mandrellaw08.ValidDead'. -/
def validDeadCard : Claim7 := { stood := { row := validDeadRow, standIns := [], harness := (true, "b1e000cc95e04edd2c20241c346acc08e8b01e04131eada54f4191f4e08b23d5"), looks := true }, kinds := [], alts := [], laidByText := true, laidKinds := [.handle], laidTests := true, laidLooks := .later }
def ValidDeadCardSaid : Prop := Claim7.holds Tryz.pinned (.plain (OpenSpec.ofChange validDeadSpec)) validDeadCard

/-- THE TIED CARD OF 'mandrellaw08.ValidOuter'. -/
def validOuterCard : Claim7 := { stood := { row := validOuterRow, standIns := [], harness := (true, "b1e000cc95e04edd2c20241c346acc08e8b01e04131eada54f4191f4e08b23d5"), looks := true }, kinds := [], alts := [], laidByText := true, laidKinds := [.handle], laidTests := true, laidLooks := .later }
def ValidOuterCardSaid : Prop := Claim7.holds Tryz.pinned (.plain (OpenSpec.ofChange validOuterSpec)) validOuterCard

/-- THE TIED CARD OF 'mandrellaw08.ValidLabels'. -/
def validLabelsCard : Claim7 := { stood := { row := validLabelsRow, standIns := [], harness := (true, "b1e000cc95e04edd2c20241c346acc08e8b01e04131eada54f4191f4e08b23d5"), looks := true }, kinds := [], alts := [], laidByText := true, laidKinds := [.handle], laidTests := true, laidLooks := .later }
def ValidLabelsCardSaid : Prop := Claim7.holds Tryz.pinned (.plain (OpenSpec.ofChange validLabelsSpec)) validLabelsCard

/-- THE SECOND FORM's CARD OF 'mandrellaw08.ValidChecks'. -/
def validChecksUptoCard : Claim7 := { stood := { row := validChecksUptoRow, standIns := [], harness := (true, "b1e000cc95e04edd2c20241c346acc08e8b01e04131eada54f4191f4e08b23d5"), looks := true }, kinds := [], alts := [], laidByText := true, laidKinds := [.handle], laidTests := true, laidLooks := .later }
def ValidChecksUptoCardSaid : Prop := Claim7.holds Tryz.pinned (.plain (OpenSpec.upto validChecksSpec)) validChecksUptoCard

/-- THE SECOND FORM's CARD OF 'mandrellaw08.ValidBodies'. -/
def validBodiesUptoCard : Claim7 := { stood := { row := validBodiesUptoRow, standIns := [], harness := (true, "b1e000cc95e04edd2c20241c346acc08e8b01e04131eada54f4191f4e08b23d5"), looks := true }, kinds := [], alts := [], laidByText := true, laidKinds := [.handle], laidTests := true, laidLooks := .later }
def ValidBodiesUptoCardSaid : Prop := Claim7.holds Tryz.pinned (.plain (OpenSpec.upto validBodiesSpec)) validBodiesUptoCard

/-- THE SECOND FORM's CARD OF 'mandrellaw08.ValidIdle'. -/
def validIdleUptoCard : Claim7 := { stood := { row := validIdleUptoRow, standIns := [], harness := (true, "b1e000cc95e04edd2c20241c346acc08e8b01e04131eada54f4191f4e08b23d5"), looks := true }, kinds := [], alts := [], laidByText := true, laidKinds := [.handle], laidTests := true, laidLooks := .later }
def ValidIdleUptoCardSaid : Prop := Claim7.holds Tryz.pinned (.plain (OpenSpec.upto validIdleSpec)) validIdleUptoCard

/-- THE SECOND FORM's CARD OF 'mandrellaw08.ValidDead'. -/
def validDeadUptoCard : Claim7 := { stood := { row := validDeadUptoRow, standIns := [], harness := (true, "b1e000cc95e04edd2c20241c346acc08e8b01e04131eada54f4191f4e08b23d5"), looks := true }, kinds := [], alts := [], laidByText := true, laidKinds := [.handle], laidTests := true, laidLooks := .later }
def ValidDeadUptoCardSaid : Prop := Claim7.holds Tryz.pinned (.plain (OpenSpec.upto validDeadSpec)) validDeadUptoCard

/-- THE SECOND FORM's CARD OF 'mandrellaw08.ValidOuter'. -/
def validOuterUptoCard : Claim7 := { stood := { row := validOuterUptoRow, standIns := [], harness := (true, "b1e000cc95e04edd2c20241c346acc08e8b01e04131eada54f4191f4e08b23d5"), looks := true }, kinds := [], alts := [], laidByText := true, laidKinds := [.handle], laidTests := true, laidLooks := .later }
def ValidOuterUptoCardSaid : Prop := Claim7.holds Tryz.pinned (.plain (OpenSpec.upto validOuterSpec)) validOuterUptoCard

/-- THE SECOND FORM's CARD OF 'mandrellaw08.ValidLabels'. -/
def validLabelsUptoCard : Claim7 := { stood := { row := validLabelsUptoRow, standIns := [], harness := (true, "b1e000cc95e04edd2c20241c346acc08e8b01e04131eada54f4191f4e08b23d5"), looks := true }, kinds := [], alts := [], laidByText := true, laidKinds := [.handle], laidTests := true, laidLooks := .later }
def ValidLabelsUptoCardSaid : Prop := Claim7.holds Tryz.pinned (.plain (OpenSpec.upto validLabelsSpec)) validLabelsUptoCard
end Rows
end Go.Proofs.YtablleokoifolaaGreatDoor
