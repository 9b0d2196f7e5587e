/-
  DERIVED. GIVEN WITH THE SEED: THE CARDS: each row of YtbfgppecpkfcnaaDoorRows.lean that lists a variable, with what it lists TIED to the program's text (the seventh form; the later family's looks); each row that meets fmt, with fmt's text TOLD by the authors' own Lean function (tested against real Go, not proved from fmt's source: count such statements apart). THE CARD IS WHAT COUNTS. Prove the row's statement (the work); the ties are given (YtbfgppecpkfcnaaDoorTie.lean); close each card by the builder's one call (the guide's Derived/Test/ToyasCard.lean, 'card_holds'). Laid BY PROGRAM, IN A SANDBOX (cutbox-door.mjs). By AI agents, Wed Nov 11 2026. No macro, syntax, notation, axiom, sorry.
-/
import Derived.Test.YtbfgppecpkfcnaaDoorRows
import GoSem.ClaimSeven
namespace Go.Proofs.YtbfgppecpkfcnaaDoor
namespace Rows

/-- THE TIED CARD OF 'caucuslaw01.FpTells'. -/
def fpTellsCard : Claim7 := { stood := { row := fpTellsRow, standIns := [], harness := (true, "0f35060a34a21ae9e4661feccd913445f10f3913ce43000b2e23fcb1b0e98c8e"), looks := true }, kinds := [], alts := [], laidByText := true, laidKinds := [.handle], laidTests := true, laidLooks := .later }
def FpTellsCardSaid : Prop := Claim7.holds Tryd.pinned (.plain (OpenSpec.ofChange fpTellsSpec)) fpTellsCard

/-- THE TIED CARD OF 'caucuslaw01.FpField'. -/
def fpFieldCard : Claim7 := { stood := { row := fpFieldRow, standIns := [], harness := (true, "0f35060a34a21ae9e4661feccd913445f10f3913ce43000b2e23fcb1b0e98c8e"), looks := true }, kinds := [], alts := [], laidByText := true, laidKinds := [.handle], laidTests := true, laidLooks := .later }
def FpFieldCardSaid : Prop := Claim7.holds Tryd.pinned (.plain (OpenSpec.ofChange fpFieldSpec)) fpFieldCard

/-- THE TIED CARD OF 'caucuslaw01.FpPowers'. -/
def fpPowersCard : Claim7 := { stood := { row := fpPowersRow, standIns := [], harness := (true, "0f35060a34a21ae9e4661feccd913445f10f3913ce43000b2e23fcb1b0e98c8e"), looks := true }, kinds := [], alts := [], laidByText := true, laidKinds := [.handle], laidTests := true, laidLooks := .later }
def FpPowersCardSaid : Prop := Claim7.holds Tryd.pinned (.plain (OpenSpec.ofChange fpPowersSpec)) fpPowersCard

/-- THE TIED CARD OF 'caucuslaw02.VecTells'. -/
def vecTellsCard : Claim7 := { stood := { row := vecTellsRow, standIns := [], harness := (true, "0f35060a34a21ae9e4661feccd913445f10f3913ce43000b2e23fcb1b0e98c8e"), looks := true }, kinds := [], alts := [], laidByText := true, laidKinds := [.handle], laidTests := true, laidLooks := .later }
def VecTellsCardSaid : Prop := Claim7.holds Tryd.pinned (.plain (OpenSpec.ofChange vecTellsSpec)) vecTellsCard

/-- THE TIED CARD OF 'caucuslaw02.VecSums'. -/
def vecSumsCard : Claim7 := { stood := { row := vecSumsRow, standIns := [], harness := (true, "0f35060a34a21ae9e4661feccd913445f10f3913ce43000b2e23fcb1b0e98c8e"), looks := true }, kinds := [], alts := [], laidByText := true, laidKinds := [.handle], laidTests := true, laidLooks := .later }
def VecSumsCardSaid : Prop := Claim7.holds Tryd.pinned (.plain (OpenSpec.ofChange vecSumsSpec)) vecSumsCard

/-- THE TIED CARD OF 'caucuslaw02.VecOrder'. -/
def vecOrderCard : Claim7 := { stood := { row := vecOrderRow, standIns := [], harness := (true, "0f35060a34a21ae9e4661feccd913445f10f3913ce43000b2e23fcb1b0e98c8e"), looks := true }, kinds := [], alts := [], laidByText := true, laidKinds := [.handle], laidTests := true, laidLooks := .later }
def VecOrderCardSaid : Prop := Claim7.holds Tryd.pinned (.plain (OpenSpec.ofChange vecOrderSpec)) vecOrderCard

/-- THE TIED CARD OF 'caucuslaw02.VecTaken'. -/
def vecTakenCard : Claim7 := { stood := { row := vecTakenRow, standIns := [], harness := (true, "0f35060a34a21ae9e4661feccd913445f10f3913ce43000b2e23fcb1b0e98c8e"), looks := true }, kinds := [], alts := [], laidByText := true, laidKinds := [.handle], laidTests := true, laidLooks := .later }
def VecTakenCardSaid : Prop := Claim7.holds Tryd.pinned (.plain (OpenSpec.ofChange vecTakenSpec)) vecTakenCard

/-- THE TIED CARD OF 'caucuslaw03.PolyTells'. -/
def polyTellsCard : Claim7 := { stood := { row := polyTellsRow, standIns := [], harness := (true, "0f35060a34a21ae9e4661feccd913445f10f3913ce43000b2e23fcb1b0e98c8e"), looks := true }, kinds := [], alts := [], laidByText := true, laidKinds := [.handle], laidTests := true, laidLooks := .later }
def PolyTellsCardSaid : Prop := Claim7.holds Tryd.pinned (.plain (OpenSpec.ofChange polyTellsSpec)) polyTellsCard

/-- THE TIED CARD OF 'caucuslaw03.PolyKnown'. -/
def polyKnownCard : Claim7 := { stood := { row := polyKnownRow, standIns := [], harness := (true, "0f35060a34a21ae9e4661feccd913445f10f3913ce43000b2e23fcb1b0e98c8e"), looks := true }, kinds := [], alts := [], laidByText := true, laidKinds := [.handle], laidTests := true, laidLooks := .later }
def PolyKnownCardSaid : Prop := Claim7.holds Tryd.pinned (.plain (OpenSpec.ofChange polyKnownSpec)) polyKnownCard

/-- THE TIED CARD OF 'caucuslaw03.PolySums'. -/
def polySumsCard : Claim7 := { stood := { row := polySumsRow, standIns := [], harness := (true, "0f35060a34a21ae9e4661feccd913445f10f3913ce43000b2e23fcb1b0e98c8e"), looks := true }, kinds := [], alts := [], laidByText := true, laidKinds := [.handle], laidTests := true, laidLooks := .later }
def PolySumsCardSaid : Prop := Claim7.holds Tryd.pinned (.plain (OpenSpec.ofChange polySumsSpec)) polySumsCard

/-- THE TIED CARD OF 'caucuslaw04.ShamirTells'. -/
def shamirTellsCard : Claim7 := { stood := { row := shamirTellsRow, standIns := [], harness := (true, "0f35060a34a21ae9e4661feccd913445f10f3913ce43000b2e23fcb1b0e98c8e"), looks := true }, kinds := [], alts := [], laidByText := true, laidKinds := [.handle], laidTests := true, laidLooks := .later }
def ShamirTellsCardSaid : Prop := Claim7.holds Tryd.pinned (.plain (OpenSpec.ofChange shamirTellsSpec)) shamirTellsCard

/-- THE TIED CARD OF 'caucuslaw04.ShamirAny'. -/
def shamirAnyCard : Claim7 := { stood := { row := shamirAnyRow, standIns := [], harness := (true, "0f35060a34a21ae9e4661feccd913445f10f3913ce43000b2e23fcb1b0e98c8e"), looks := true }, kinds := [], alts := [], laidByText := true, laidKinds := [.handle], laidTests := true, laidLooks := .later }
def ShamirAnyCardSaid : Prop := Claim7.holds Tryd.pinned (.plain (OpenSpec.ofChange shamirAnySpec)) shamirAnyCard

/-- THE SECOND FORM's CARD OF 'caucuslaw01.FpTells'. -/
def fpTellsUptoCard : Claim7 := { stood := { row := fpTellsUptoRow, standIns := [], harness := (true, "0f35060a34a21ae9e4661feccd913445f10f3913ce43000b2e23fcb1b0e98c8e"), looks := true }, kinds := [], alts := [], laidByText := true, laidKinds := [.handle], laidTests := true, laidLooks := .later }
def FpTellsUptoCardSaid : Prop := Claim7.holds Tryd.pinned (.plain (OpenSpec.upto fpTellsSpec)) fpTellsUptoCard

/-- THE SECOND FORM's CARD OF 'caucuslaw01.FpField'. -/
def fpFieldUptoCard : Claim7 := { stood := { row := fpFieldUptoRow, standIns := [], harness := (true, "0f35060a34a21ae9e4661feccd913445f10f3913ce43000b2e23fcb1b0e98c8e"), looks := true }, kinds := [], alts := [], laidByText := true, laidKinds := [.handle], laidTests := true, laidLooks := .later }
def FpFieldUptoCardSaid : Prop := Claim7.holds Tryd.pinned (.plain (OpenSpec.upto fpFieldSpec)) fpFieldUptoCard

/-- THE SECOND FORM's CARD OF 'caucuslaw01.FpPowers'. -/
def fpPowersUptoCard : Claim7 := { stood := { row := fpPowersUptoRow, standIns := [], harness := (true, "0f35060a34a21ae9e4661feccd913445f10f3913ce43000b2e23fcb1b0e98c8e"), looks := true }, kinds := [], alts := [], laidByText := true, laidKinds := [.handle], laidTests := true, laidLooks := .later }
def FpPowersUptoCardSaid : Prop := Claim7.holds Tryd.pinned (.plain (OpenSpec.upto fpPowersSpec)) fpPowersUptoCard

/-- THE SECOND FORM's CARD OF 'caucuslaw02.VecTells'. -/
def vecTellsUptoCard : Claim7 := { stood := { row := vecTellsUptoRow, standIns := [], harness := (true, "0f35060a34a21ae9e4661feccd913445f10f3913ce43000b2e23fcb1b0e98c8e"), looks := true }, kinds := [], alts := [], laidByText := true, laidKinds := [.handle], laidTests := true, laidLooks := .later }
def VecTellsUptoCardSaid : Prop := Claim7.holds Tryd.pinned (.plain (OpenSpec.upto vecTellsSpec)) vecTellsUptoCard

/-- THE SECOND FORM's CARD OF 'caucuslaw02.VecSums'. -/
def vecSumsUptoCard : Claim7 := { stood := { row := vecSumsUptoRow, standIns := [], harness := (true, "0f35060a34a21ae9e4661feccd913445f10f3913ce43000b2e23fcb1b0e98c8e"), looks := true }, kinds := [], alts := [], laidByText := true, laidKinds := [.handle], laidTests := true, laidLooks := .later }
def VecSumsUptoCardSaid : Prop := Claim7.holds Tryd.pinned (.plain (OpenSpec.upto vecSumsSpec)) vecSumsUptoCard

/-- THE SECOND FORM's CARD OF 'caucuslaw02.VecOrder'. -/
def vecOrderUptoCard : Claim7 := { stood := { row := vecOrderUptoRow, standIns := [], harness := (true, "0f35060a34a21ae9e4661feccd913445f10f3913ce43000b2e23fcb1b0e98c8e"), looks := true }, kinds := [], alts := [], laidByText := true, laidKinds := [.handle], laidTests := true, laidLooks := .later }
def VecOrderUptoCardSaid : Prop := Claim7.holds Tryd.pinned (.plain (OpenSpec.upto vecOrderSpec)) vecOrderUptoCard

/-- THE SECOND FORM's CARD OF 'caucuslaw02.VecTaken'. -/
def vecTakenUptoCard : Claim7 := { stood := { row := vecTakenUptoRow, standIns := [], harness := (true, "0f35060a34a21ae9e4661feccd913445f10f3913ce43000b2e23fcb1b0e98c8e"), looks := true }, kinds := [], alts := [], laidByText := true, laidKinds := [.handle], laidTests := true, laidLooks := .later }
def VecTakenUptoCardSaid : Prop := Claim7.holds Tryd.pinned (.plain (OpenSpec.upto vecTakenSpec)) vecTakenUptoCard

/-- THE SECOND FORM's CARD OF 'caucuslaw03.PolyTells'. -/
def polyTellsUptoCard : Claim7 := { stood := { row := polyTellsUptoRow, standIns := [], harness := (true, "0f35060a34a21ae9e4661feccd913445f10f3913ce43000b2e23fcb1b0e98c8e"), looks := true }, kinds := [], alts := [], laidByText := true, laidKinds := [.handle], laidTests := true, laidLooks := .later }
def PolyTellsUptoCardSaid : Prop := Claim7.holds Tryd.pinned (.plain (OpenSpec.upto polyTellsSpec)) polyTellsUptoCard

/-- THE SECOND FORM's CARD OF 'caucuslaw03.PolyKnown'. -/
def polyKnownUptoCard : Claim7 := { stood := { row := polyKnownUptoRow, standIns := [], harness := (true, "0f35060a34a21ae9e4661feccd913445f10f3913ce43000b2e23fcb1b0e98c8e"), looks := true }, kinds := [], alts := [], laidByText := true, laidKinds := [.handle], laidTests := true, laidLooks := .later }
def PolyKnownUptoCardSaid : Prop := Claim7.holds Tryd.pinned (.plain (OpenSpec.upto polyKnownSpec)) polyKnownUptoCard

/-- THE SECOND FORM's CARD OF 'caucuslaw03.PolySums'. -/
def polySumsUptoCard : Claim7 := { stood := { row := polySumsUptoRow, standIns := [], harness := (true, "0f35060a34a21ae9e4661feccd913445f10f3913ce43000b2e23fcb1b0e98c8e"), looks := true }, kinds := [], alts := [], laidByText := true, laidKinds := [.handle], laidTests := true, laidLooks := .later }
def PolySumsUptoCardSaid : Prop := Claim7.holds Tryd.pinned (.plain (OpenSpec.upto polySumsSpec)) polySumsUptoCard

/-- THE SECOND FORM's CARD OF 'caucuslaw04.ShamirTells'. -/
def shamirTellsUptoCard : Claim7 := { stood := { row := shamirTellsUptoRow, standIns := [], harness := (true, "0f35060a34a21ae9e4661feccd913445f10f3913ce43000b2e23fcb1b0e98c8e"), looks := true }, kinds := [], alts := [], laidByText := true, laidKinds := [.handle], laidTests := true, laidLooks := .later }
def ShamirTellsUptoCardSaid : Prop := Claim7.holds Tryd.pinned (.plain (OpenSpec.upto shamirTellsSpec)) shamirTellsUptoCard

/-- THE SECOND FORM's CARD OF 'caucuslaw04.ShamirAny'. -/
def shamirAnyUptoCard : Claim7 := { stood := { row := shamirAnyUptoRow, standIns := [], harness := (true, "0f35060a34a21ae9e4661feccd913445f10f3913ce43000b2e23fcb1b0e98c8e"), looks := true }, kinds := [], alts := [], laidByText := true, laidKinds := [.handle], laidTests := true, laidLooks := .later }
def ShamirAnyUptoCardSaid : Prop := Claim7.holds Tryd.pinned (.plain (OpenSpec.upto shamirAnySpec)) shamirAnyUptoCard
end Rows
end Go.Proofs.YtbfgppecpkfcnaaDoor
