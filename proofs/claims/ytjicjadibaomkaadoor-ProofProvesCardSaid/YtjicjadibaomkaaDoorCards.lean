/-
  DERIVED. GIVEN WITH THE SEED: THE CARDS: each row of YtjicjadibaomkaaDoorRows.lean that lists a variable, with what it lists TIED to the program's text (the seventh form; the later family's looks); each row that meets fmt, with fmt's text TOLD by the authors' own Lean function (tested against real Go, not proved from fmt's source: count such statements apart). THE CARD IS WHAT COUNTS. Prove the row's statement (the work); the ties are given (YtjicjadibaomkaaDoorTie.lean); close each card by the builder's one call (the guide's Derived/Test/ToyasCard.lean, 'card_holds'). Laid BY PROGRAM, IN A SANDBOX (cutbox-door.mjs). By AI agents, Wed Nov 11 2026. No macro, syntax, notation, axiom, sorry.
-/
import Derived.Test.YtjicjadibaomkaaDoorRows
import GoSem.ClaimSeven
namespace Go.Proofs.YtjicjadibaomkaaDoor
namespace Rows

/-- THE TIED CARD OF 'hindsightlaw10.ProofProves'. -/
def proofProvesCard : Claim7 := { stood := { row := proofProvesRow, standIns := [], harness := (true, "86285f43ac2deb79251432defbd9bc76bb23eef3fedc53862dc4388babbe3fa8"), looks := true }, kinds := [], alts := [], laidByText := true, laidKinds := [.handle], laidTests := true, laidLooks := .later }
def ProofProvesCardSaid : Prop := Claim7.holds Tryd.pinned (.plain (OpenSpec.ofChange proofProvesSpec)) proofProvesCard

/-- THE TIED CARD OF 'hindsightlaw19.HistoryFinds'. -/
def historyFindsCard : Claim7 := { stood := { row := historyFindsRow, standIns := [], harness := (true, "86285f43ac2deb79251432defbd9bc76bb23eef3fedc53862dc4388babbe3fa8"), looks := true }, kinds := [], alts := [], laidByText := true, laidKinds := [.data, .data, .data, .handle], laidTests := true, laidLooks := .later }
def HistoryFindsCardSaid : Prop := Claim7.holds Tryd.pinned (.plain (OpenSpec.ofChange historyFindsSpec)) historyFindsCard

/-- THE TIED CARD OF 'hindsightlaw19.HistoryPoints'. -/
def historyPointsCard : Claim7 := { stood := { row := historyPointsRow, standIns := [], harness := (true, "86285f43ac2deb79251432defbd9bc76bb23eef3fedc53862dc4388babbe3fa8"), looks := true }, kinds := [], alts := [], laidByText := true, laidKinds := [.data, .data, .data, .handle], laidTests := true, laidLooks := .later }
def HistoryPointsCardSaid : Prop := Claim7.holds Tryd.pinned (.plain (OpenSpec.ofChange historyPointsSpec)) historyPointsCard

/-- THE TIED CARD OF 'hindsightlaw19.HistoryBig'. -/
def historyBigCard : Claim7 := { stood := { row := historyBigRow, standIns := [], harness := (true, "86285f43ac2deb79251432defbd9bc76bb23eef3fedc53862dc4388babbe3fa8"), looks := true }, kinds := [], alts := [], laidByText := true, laidKinds := [.data, .data, .data, .handle], laidTests := true, laidLooks := .later }
def HistoryBigCardSaid : Prop := Claim7.holds Tryd.pinned (.plain (OpenSpec.ofChange historyBigSpec)) historyBigCard

/-- THE TIED CARD OF 'hindsightlaw19.HistoryPlays'. -/
def historyPlaysCard : Claim7 := { stood := { row := historyPlaysRow, standIns := [], harness := (true, "86285f43ac2deb79251432defbd9bc76bb23eef3fedc53862dc4388babbe3fa8"), looks := true }, kinds := [], alts := [], laidByText := true, laidKinds := [.data, .data, .data, .handle], laidTests := true, laidLooks := .later }
def HistoryPlaysCardSaid : Prop := Claim7.holds Tryd.pinned (.plain (OpenSpec.ofChange historyPlaysSpec)) historyPlaysCard

/-- THE TIED CARD OF 'hindsightlaw19.HistoryOrders'. -/
def historyOrdersCard : Claim7 := { stood := { row := historyOrdersRow, standIns := [], harness := (true, "86285f43ac2deb79251432defbd9bc76bb23eef3fedc53862dc4388babbe3fa8"), looks := true }, kinds := [], alts := [], laidByText := true, laidKinds := [.data, .data, .data, .handle], laidTests := true, laidLooks := .later }
def HistoryOrdersCardSaid : Prop := Claim7.holds Tryd.pinned (.plain (OpenSpec.ofChange historyOrdersSpec)) historyOrdersCard

/-- THE SECOND FORM's CARD OF 'hindsightlaw10.ProofProves'. -/
def proofProvesUptoCard : Claim7 := { stood := { row := proofProvesUptoRow, standIns := [], harness := (true, "86285f43ac2deb79251432defbd9bc76bb23eef3fedc53862dc4388babbe3fa8"), looks := true }, kinds := [], alts := [], laidByText := true, laidKinds := [.handle], laidTests := true, laidLooks := .later }
def ProofProvesUptoCardSaid : Prop := Claim7.holds Tryd.pinned (.plain (OpenSpec.upto proofProvesSpec)) proofProvesUptoCard

/-- THE SECOND FORM's CARD OF 'hindsightlaw19.HistoryFinds'. -/
def historyFindsUptoCard : Claim7 := { stood := { row := historyFindsUptoRow, standIns := [], harness := (true, "86285f43ac2deb79251432defbd9bc76bb23eef3fedc53862dc4388babbe3fa8"), looks := true }, kinds := [], alts := [], laidByText := true, laidKinds := [.data, .data, .data, .handle], laidTests := true, laidLooks := .later }
def HistoryFindsUptoCardSaid : Prop := Claim7.holds Tryd.pinned (.plain (OpenSpec.upto historyFindsSpec)) historyFindsUptoCard

/-- THE SECOND FORM's CARD OF 'hindsightlaw19.HistoryPoints'. -/
def historyPointsUptoCard : Claim7 := { stood := { row := historyPointsUptoRow, standIns := [], harness := (true, "86285f43ac2deb79251432defbd9bc76bb23eef3fedc53862dc4388babbe3fa8"), looks := true }, kinds := [], alts := [], laidByText := true, laidKinds := [.data, .data, .data, .handle], laidTests := true, laidLooks := .later }
def HistoryPointsUptoCardSaid : Prop := Claim7.holds Tryd.pinned (.plain (OpenSpec.upto historyPointsSpec)) historyPointsUptoCard

/-- THE SECOND FORM's CARD OF 'hindsightlaw19.HistoryBig'. -/
def historyBigUptoCard : Claim7 := { stood := { row := historyBigUptoRow, standIns := [], harness := (true, "86285f43ac2deb79251432defbd9bc76bb23eef3fedc53862dc4388babbe3fa8"), looks := true }, kinds := [], alts := [], laidByText := true, laidKinds := [.data, .data, .data, .handle], laidTests := true, laidLooks := .later }
def HistoryBigUptoCardSaid : Prop := Claim7.holds Tryd.pinned (.plain (OpenSpec.upto historyBigSpec)) historyBigUptoCard

/-- THE SECOND FORM's CARD OF 'hindsightlaw19.HistoryPlays'. -/
def historyPlaysUptoCard : Claim7 := { stood := { row := historyPlaysUptoRow, standIns := [], harness := (true, "86285f43ac2deb79251432defbd9bc76bb23eef3fedc53862dc4388babbe3fa8"), looks := true }, kinds := [], alts := [], laidByText := true, laidKinds := [.data, .data, .data, .handle], laidTests := true, laidLooks := .later }
def HistoryPlaysUptoCardSaid : Prop := Claim7.holds Tryd.pinned (.plain (OpenSpec.upto historyPlaysSpec)) historyPlaysUptoCard

/-- THE SECOND FORM's CARD OF 'hindsightlaw19.HistoryOrders'. -/
def historyOrdersUptoCard : Claim7 := { stood := { row := historyOrdersUptoRow, standIns := [], harness := (true, "86285f43ac2deb79251432defbd9bc76bb23eef3fedc53862dc4388babbe3fa8"), looks := true }, kinds := [], alts := [], laidByText := true, laidKinds := [.data, .data, .data, .handle], laidTests := true, laidLooks := .later }
def HistoryOrdersUptoCardSaid : Prop := Claim7.holds Tryd.pinned (.plain (OpenSpec.upto historyOrdersSpec)) historyOrdersUptoCard
end Rows
end Go.Proofs.YtjicjadibaomkaaDoor
