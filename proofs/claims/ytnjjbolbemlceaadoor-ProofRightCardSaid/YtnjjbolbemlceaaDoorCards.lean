/-
  DERIVED. GIVEN WITH THE SEED: THE CARDS: each row of YtnjjbolbemlceaaDoorRows.lean that lists a variable, with what it lists TIED to the program's text (the seventh form; the later family's looks); each row that meets fmt, with fmt's text TOLD by the authors' own Lean function (tested against real Go, not proved from fmt's source: count such statements apart). THE CARD IS WHAT COUNTS. Prove the row's statement (the work); the ties are given (YtnjjbolbemlceaaDoorTie.lean); close each card by the builder's one call (the guide's Derived/Test/ToyasCard.lean, 'card_holds'). Laid BY PROGRAM, IN A SANDBOX (cutbox-door.mjs). By AI agents, Wed Nov 11 2026. No macro, syntax, notation, axiom, sorry.
-/
import Derived.Test.YtnjjbolbemlceaaDoorRows
import GoSem.ClaimSeven
namespace Go.Proofs.YtnjjbolbemlceaaDoor
namespace Rows

/-- THE TIED CARD OF 'hindsightlaw03.FaultTells'. -/
def faultTellsCard : Claim7 := { stood := { row := faultTellsRow, standIns := [], harness := (true, "85c508d6ed44afd22b51acb73a67fba7eb22e243478f4acfc913fb2d5c45d4e2"), looks := true }, kinds := [], alts := [], laidByText := true, laidKinds := [.handle], laidTests := true, laidLooks := .later }
def FaultTellsCardSaid : Prop := Claim7.holds Tryd.pinned (.plain (OpenSpec.ofChange faultTellsSpec)) faultTellsCard

/-- THE TIED CARD OF 'hindsightlaw10.ProofRight'. -/
def proofRightCard : Claim7 := { stood := { row := proofRightRow, standIns := [], harness := (true, "85c508d6ed44afd22b51acb73a67fba7eb22e243478f4acfc913fb2d5c45d4e2"), looks := true }, kinds := [], alts := [], laidByText := true, laidKinds := [.handle], laidTests := true, laidLooks := .later }
def ProofRightCardSaid : Prop := Claim7.holds Tryd.pinned (.plain (OpenSpec.ofChange proofRightSpec)) proofRightCard

/-- THE TIED CARD OF 'hindsightlaw10.ProofAny'. -/
def proofAnyCard : Claim7 := { stood := { row := proofAnyRow, standIns := [], harness := (true, "85c508d6ed44afd22b51acb73a67fba7eb22e243478f4acfc913fb2d5c45d4e2"), looks := true }, kinds := [], alts := [], laidByText := true, laidKinds := [.handle], laidTests := true, laidLooks := .later }
def ProofAnyCardSaid : Prop := Claim7.holds Tryd.pinned (.plain (OpenSpec.ofChange proofAnySpec)) proofAnyCard

/-- THE TIED CARD OF 'hindsightlaw03.FaultWraps'. -/
def faultWrapsCard : Claim7 := { stood := { row := faultWrapsRow, standIns := [], harness := (true, "85c508d6ed44afd22b51acb73a67fba7eb22e243478f4acfc913fb2d5c45d4e2"), looks := true }, kinds := [], alts := [], laidByText := true, laidKinds := [.handle], laidTests := true, laidLooks := .later }
def FaultWrapsCardSaid : Prop := Claim7.holds Tryd.pinned (.plain (OpenSpec.ofChange faultWrapsSpec)) faultWrapsCard

/-- THE TIED CARD OF 'hindsightlaw03.FaultApart'. -/
def faultApartCard : Claim7 := { stood := { row := faultApartRow, standIns := [], harness := (true, "85c508d6ed44afd22b51acb73a67fba7eb22e243478f4acfc913fb2d5c45d4e2"), looks := true }, kinds := [], alts := [], laidByText := true, laidKinds := [.handle], laidTests := true, laidLooks := .later }
def FaultApartCardSaid : Prop := Claim7.holds Tryd.pinned (.plain (OpenSpec.ofChange faultApartSpec)) faultApartCard

/-- THE TIED CARD OF 'hindsightlaw03.FaultNone'. -/
def faultNoneCard : Claim7 := { stood := { row := faultNoneRow, standIns := [], harness := (true, "85c508d6ed44afd22b51acb73a67fba7eb22e243478f4acfc913fb2d5c45d4e2"), looks := true }, kinds := [], alts := [], laidByText := true, laidKinds := [.data, .data, .data, .handle], laidTests := true, laidLooks := .later }
def FaultNoneCardSaid : Prop := Claim7.holds Tryd.pinned (.plain (OpenSpec.ofChange faultNoneSpec)) faultNoneCard

/-- THE TIED CARD OF 'hindsightlaw03.FaultStands'. -/
def faultStandsCard : Claim7 := { stood := { row := faultStandsRow, standIns := [], harness := (true, "85c508d6ed44afd22b51acb73a67fba7eb22e243478f4acfc913fb2d5c45d4e2"), looks := true }, kinds := [], alts := [], laidByText := true, laidKinds := [.handle], laidTests := true, laidLooks := .later }
def FaultStandsCardSaid : Prop := Claim7.holds Tryd.pinned (.plain (OpenSpec.ofChange faultStandsSpec)) faultStandsCard

/-- THE SECOND FORM's CARD OF 'hindsightlaw03.FaultTells'. -/
def faultTellsUptoCard : Claim7 := { stood := { row := faultTellsUptoRow, standIns := [], harness := (true, "85c508d6ed44afd22b51acb73a67fba7eb22e243478f4acfc913fb2d5c45d4e2"), looks := true }, kinds := [], alts := [], laidByText := true, laidKinds := [.handle], laidTests := true, laidLooks := .later }
def FaultTellsUptoCardSaid : Prop := Claim7.holds Tryd.pinned (.plain (OpenSpec.upto faultTellsSpec)) faultTellsUptoCard

/-- THE SECOND FORM's CARD OF 'hindsightlaw10.ProofRight'. -/
def proofRightUptoCard : Claim7 := { stood := { row := proofRightUptoRow, standIns := [], harness := (true, "85c508d6ed44afd22b51acb73a67fba7eb22e243478f4acfc913fb2d5c45d4e2"), looks := true }, kinds := [], alts := [], laidByText := true, laidKinds := [.handle], laidTests := true, laidLooks := .later }
def ProofRightUptoCardSaid : Prop := Claim7.holds Tryd.pinned (.plain (OpenSpec.upto proofRightSpec)) proofRightUptoCard

/-- THE SECOND FORM's CARD OF 'hindsightlaw10.ProofAny'. -/
def proofAnyUptoCard : Claim7 := { stood := { row := proofAnyUptoRow, standIns := [], harness := (true, "85c508d6ed44afd22b51acb73a67fba7eb22e243478f4acfc913fb2d5c45d4e2"), looks := true }, kinds := [], alts := [], laidByText := true, laidKinds := [.handle], laidTests := true, laidLooks := .later }
def ProofAnyUptoCardSaid : Prop := Claim7.holds Tryd.pinned (.plain (OpenSpec.upto proofAnySpec)) proofAnyUptoCard

/-- THE SECOND FORM's CARD OF 'hindsightlaw03.FaultWraps'. -/
def faultWrapsUptoCard : Claim7 := { stood := { row := faultWrapsUptoRow, standIns := [], harness := (true, "85c508d6ed44afd22b51acb73a67fba7eb22e243478f4acfc913fb2d5c45d4e2"), looks := true }, kinds := [], alts := [], laidByText := true, laidKinds := [.handle], laidTests := true, laidLooks := .later }
def FaultWrapsUptoCardSaid : Prop := Claim7.holds Tryd.pinned (.plain (OpenSpec.upto faultWrapsSpec)) faultWrapsUptoCard

/-- THE SECOND FORM's CARD OF 'hindsightlaw03.FaultApart'. -/
def faultApartUptoCard : Claim7 := { stood := { row := faultApartUptoRow, standIns := [], harness := (true, "85c508d6ed44afd22b51acb73a67fba7eb22e243478f4acfc913fb2d5c45d4e2"), looks := true }, kinds := [], alts := [], laidByText := true, laidKinds := [.handle], laidTests := true, laidLooks := .later }
def FaultApartUptoCardSaid : Prop := Claim7.holds Tryd.pinned (.plain (OpenSpec.upto faultApartSpec)) faultApartUptoCard

/-- THE SECOND FORM's CARD OF 'hindsightlaw03.FaultNone'. -/
def faultNoneUptoCard : Claim7 := { stood := { row := faultNoneUptoRow, standIns := [], harness := (true, "85c508d6ed44afd22b51acb73a67fba7eb22e243478f4acfc913fb2d5c45d4e2"), looks := true }, kinds := [], alts := [], laidByText := true, laidKinds := [.data, .data, .data, .handle], laidTests := true, laidLooks := .later }
def FaultNoneUptoCardSaid : Prop := Claim7.holds Tryd.pinned (.plain (OpenSpec.upto faultNoneSpec)) faultNoneUptoCard

/-- THE SECOND FORM's CARD OF 'hindsightlaw03.FaultStands'. -/
def faultStandsUptoCard : Claim7 := { stood := { row := faultStandsUptoRow, standIns := [], harness := (true, "85c508d6ed44afd22b51acb73a67fba7eb22e243478f4acfc913fb2d5c45d4e2"), looks := true }, kinds := [], alts := [], laidByText := true, laidKinds := [.handle], laidTests := true, laidLooks := .later }
def FaultStandsUptoCardSaid : Prop := Claim7.holds Tryd.pinned (.plain (OpenSpec.upto faultStandsSpec)) faultStandsUptoCard
end Rows
end Go.Proofs.YtnjjbolbemlceaaDoor
