/-
  DERIVED. GIVEN WITH THE SEED: THE CARDS: each row of YtfomajippdcaoaaDoorRows.lean that lists a variable, with what it lists TIED to the program's text (the seventh form; the later family's looks); each row that meets fmt, with fmt's text TOLD by the authors' own Lean function (tested against real Go, not proved from fmt's source: count such statements apart). THE CARD IS WHAT COUNTS. Prove the row's statement (the work); the ties are given (YtfomajippdcaoaaDoorTie.lean); close each card by the builder's one call (the guide's Derived/Test/ToyasCard.lean, 'card_holds'). Laid BY PROGRAM, IN A SANDBOX (cutbox-door.mjs). By AI agents, Wed Nov 11 2026. No macro, syntax, notation, axiom, sorry.
-/
import Derived.Test.YtfomajippdcaoaaDoorRows
import GoSem.ClaimSeven
namespace Go.Proofs.YtfomajippdcaoaaDoor
namespace Rows

/-- THE TIED CARD OF 'caucuslaw31.StandSilent'. -/
def standSilentCard : Claim7 := { stood := { row := standSilentRow, standIns := [], harness := (true, "3966d9087b3ffebaf33a0c2ce6a2dfbd393a11782f7a3aae0dd56f5b1489b78c"), looks := true }, kinds := [], alts := [], laidByText := true, laidKinds := [.handle], laidTests := true, laidLooks := .later }
def StandSilentCardSaid : Prop := Claim7.holds Tryd.pinned (.plain (OpenSpec.ofChange standSilentSpec)) standSilentCard

/-- THE TIED CARD OF 'caucuslaw26.GuardOne'. -/
def guardOneCard : Claim7 := { stood := { row := guardOneRow, standIns := [], harness := (true, "3966d9087b3ffebaf33a0c2ce6a2dfbd393a11782f7a3aae0dd56f5b1489b78c"), looks := true }, kinds := [], alts := [], laidByText := true, laidKinds := [.handle], laidTests := true, laidLooks := .later }
def GuardOneCardSaid : Prop := Claim7.holds Tryd.pinned (.plain (OpenSpec.ofChange guardOneSpec)) guardOneCard

/-- THE TIED CARD OF 'caucuslaw26.GuardRuns'. -/
def guardRunsCard : Claim7 := { stood := { row := guardRunsRow, standIns := [], harness := (true, "3966d9087b3ffebaf33a0c2ce6a2dfbd393a11782f7a3aae0dd56f5b1489b78c"), looks := true }, kinds := [], alts := [], laidByText := true, laidKinds := [.handle], laidTests := true, laidLooks := .later }
def GuardRunsCardSaid : Prop := Claim7.holds Tryd.pinned (.plain (OpenSpec.ofChange guardRunsSpec)) guardRunsCard

/-- THE TIED CARD OF 'caucuslaw26.GuardFirst'. -/
def guardFirstCard : Claim7 := { stood := { row := guardFirstRow, standIns := [], harness := (true, "3966d9087b3ffebaf33a0c2ce6a2dfbd393a11782f7a3aae0dd56f5b1489b78c"), looks := true }, kinds := [], alts := [], laidByText := true, laidKinds := [.handle], laidTests := true, laidLooks := .later }
def GuardFirstCardSaid : Prop := Claim7.holds Tryd.pinned (.plain (OpenSpec.ofChange guardFirstSpec)) guardFirstCard

/-- THE TIED CARD OF 'caucuslaw23.QuorumRuns'. -/
def quorumRunsCard : Claim7 := { stood := { row := quorumRunsRow, standIns := [], harness := (true, "3966d9087b3ffebaf33a0c2ce6a2dfbd393a11782f7a3aae0dd56f5b1489b78c"), looks := true }, kinds := [], alts := [], laidByText := true, laidKinds := [.handle], laidTests := true, laidLooks := .later }
def QuorumRunsCardSaid : Prop := Claim7.holds Tryd.pinned (.plain (OpenSpec.ofChange quorumRunsSpec)) quorumRunsCard

/-- THE TIED CARD OF 'caucuslaw23.QuorumStays'. -/
def quorumStaysCard : Claim7 := { stood := { row := quorumStaysRow, standIns := [], harness := (true, "3966d9087b3ffebaf33a0c2ce6a2dfbd393a11782f7a3aae0dd56f5b1489b78c"), looks := true }, kinds := [], alts := [], laidByText := true, laidKinds := [.handle], laidTests := true, laidLooks := .later }
def QuorumStaysCardSaid : Prop := Claim7.holds Tryd.pinned (.plain (OpenSpec.ofChange quorumStaysSpec)) quorumStaysCard

/-- THE SECOND FORM's CARD OF 'caucuslaw31.StandSilent'. -/
def standSilentUptoCard : Claim7 := { stood := { row := standSilentUptoRow, standIns := [], harness := (true, "3966d9087b3ffebaf33a0c2ce6a2dfbd393a11782f7a3aae0dd56f5b1489b78c"), looks := true }, kinds := [], alts := [], laidByText := true, laidKinds := [.handle], laidTests := true, laidLooks := .later }
def StandSilentUptoCardSaid : Prop := Claim7.holds Tryd.pinned (.plain (OpenSpec.upto standSilentSpec)) standSilentUptoCard

/-- THE SECOND FORM's CARD OF 'caucuslaw26.GuardOne'. -/
def guardOneUptoCard : Claim7 := { stood := { row := guardOneUptoRow, standIns := [], harness := (true, "3966d9087b3ffebaf33a0c2ce6a2dfbd393a11782f7a3aae0dd56f5b1489b78c"), looks := true }, kinds := [], alts := [], laidByText := true, laidKinds := [.handle], laidTests := true, laidLooks := .later }
def GuardOneUptoCardSaid : Prop := Claim7.holds Tryd.pinned (.plain (OpenSpec.upto guardOneSpec)) guardOneUptoCard

/-- THE SECOND FORM's CARD OF 'caucuslaw26.GuardRuns'. -/
def guardRunsUptoCard : Claim7 := { stood := { row := guardRunsUptoRow, standIns := [], harness := (true, "3966d9087b3ffebaf33a0c2ce6a2dfbd393a11782f7a3aae0dd56f5b1489b78c"), looks := true }, kinds := [], alts := [], laidByText := true, laidKinds := [.handle], laidTests := true, laidLooks := .later }
def GuardRunsUptoCardSaid : Prop := Claim7.holds Tryd.pinned (.plain (OpenSpec.upto guardRunsSpec)) guardRunsUptoCard

/-- THE SECOND FORM's CARD OF 'caucuslaw26.GuardFirst'. -/
def guardFirstUptoCard : Claim7 := { stood := { row := guardFirstUptoRow, standIns := [], harness := (true, "3966d9087b3ffebaf33a0c2ce6a2dfbd393a11782f7a3aae0dd56f5b1489b78c"), looks := true }, kinds := [], alts := [], laidByText := true, laidKinds := [.handle], laidTests := true, laidLooks := .later }
def GuardFirstUptoCardSaid : Prop := Claim7.holds Tryd.pinned (.plain (OpenSpec.upto guardFirstSpec)) guardFirstUptoCard

/-- THE SECOND FORM's CARD OF 'caucuslaw23.QuorumRuns'. -/
def quorumRunsUptoCard : Claim7 := { stood := { row := quorumRunsUptoRow, standIns := [], harness := (true, "3966d9087b3ffebaf33a0c2ce6a2dfbd393a11782f7a3aae0dd56f5b1489b78c"), looks := true }, kinds := [], alts := [], laidByText := true, laidKinds := [.handle], laidTests := true, laidLooks := .later }
def QuorumRunsUptoCardSaid : Prop := Claim7.holds Tryd.pinned (.plain (OpenSpec.upto quorumRunsSpec)) quorumRunsUptoCard

/-- THE SECOND FORM's CARD OF 'caucuslaw23.QuorumStays'. -/
def quorumStaysUptoCard : Claim7 := { stood := { row := quorumStaysUptoRow, standIns := [], harness := (true, "3966d9087b3ffebaf33a0c2ce6a2dfbd393a11782f7a3aae0dd56f5b1489b78c"), looks := true }, kinds := [], alts := [], laidByText := true, laidKinds := [.handle], laidTests := true, laidLooks := .later }
def QuorumStaysUptoCardSaid : Prop := Claim7.holds Tryd.pinned (.plain (OpenSpec.upto quorumStaysSpec)) quorumStaysUptoCard
end Rows
end Go.Proofs.YtfomajippdcaoaaDoor
