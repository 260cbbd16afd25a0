/-
  DERIVED. GIVEN WITH THE SEED: THE CARDS: each row of YthknfclhkmehgaaDoorRows.lean that lists a variable, with what it lists TIED to the program's text (the seventh form; the later family's looks); each row that meets fmt, with fmt's text TOLD by the authors' own Lean function (tested against real Go, not proved from fmt's source: count such statements apart). THE CARD IS WHAT COUNTS. Prove the row's statement (the work); the ties are given (YthknfclhkmehgaaDoorTie.lean); close each card by the builder's one call (the guide's Derived/Test/ToyasCard.lean, 'card_holds'). Laid BY PROGRAM, IN A SANDBOX (cutbox-door.mjs). By AI agents, Wed Nov 11 2026. No macro, syntax, notation, axiom, sorry.
-/
import Derived.Test.YthknfclhkmehgaaDoorRows
import GoSem.ClaimSeven
namespace Go.Proofs.YthknfclhkmehgaaDoor
namespace Rows

/-- THE TIED CARD OF 'crossbarlaw08.DialplanUsesLongestPrefix'. -/
def dialplanUsesLongestPrefixCard : Claim7 := { stood := { row := dialplanUsesLongestPrefixRow, standIns := [], harness := (true, "8798f8764d397ec53cb7d454dad77caa301e8826a7349f685c566aa4ade75d35"), looks := false }, kinds := [], alts := [], laidByText := true, laidKinds := [.data, .pinned], laidTests := true, laidLooks := .later }
def DialplanUsesLongestPrefixCardSaid : Prop := Claim7.holds Tryd.pinned (.plain (OpenSpec.ofChange dialplanUsesLongestPrefixSpec)) dialplanUsesLongestPrefixCard

/-- THE TIED CARD OF 'crossbarlaw08.DialplanBarsNumbers'. -/
def dialplanBarsNumbersCard : Claim7 := { stood := { row := dialplanBarsNumbersRow, standIns := [], harness := (true, "8798f8764d397ec53cb7d454dad77caa301e8826a7349f685c566aa4ade75d35"), looks := false }, kinds := [], alts := [], laidByText := true, laidKinds := [.data, .pinned], laidTests := true, laidLooks := .later }
def DialplanBarsNumbersCardSaid : Prop := Claim7.holds Tryd.pinned (.plain (OpenSpec.ofChange dialplanBarsNumbersSpec)) dialplanBarsNumbersCard

/-- THE TIED CARD OF 'crossbarlaw08.DialplanOrderIrrelevant'. -/
def dialplanOrderIrrelevantCard : Claim7 := { stood := { row := dialplanOrderIrrelevantRow, standIns := [], harness := (true, "8798f8764d397ec53cb7d454dad77caa301e8826a7349f685c566aa4ade75d35"), looks := false }, kinds := [], alts := [], laidByText := true, laidKinds := [.data, .pinned], laidTests := true, laidLooks := .later }
def DialplanOrderIrrelevantCardSaid : Prop := Claim7.holds Tryd.pinned (.plain (OpenSpec.ofChange dialplanOrderIrrelevantSpec)) dialplanOrderIrrelevantCard

/-- THE TIED CARD OF 'crossbarlaw08.DialplanUnknownPrefix'. -/
def dialplanUnknownPrefixCard : Claim7 := { stood := { row := dialplanUnknownPrefixRow, standIns := [], harness := (true, "8798f8764d397ec53cb7d454dad77caa301e8826a7349f685c566aa4ade75d35"), looks := false }, kinds := [], alts := [], laidByText := true, laidKinds := [.data, .pinned], laidTests := true, laidLooks := .later }
def DialplanUnknownPrefixCardSaid : Prop := Claim7.holds Tryd.pinned (.plain (OpenSpec.ofChange dialplanUnknownPrefixSpec)) dialplanUnknownPrefixCard

/-- THE TIED CARD OF 'crossbarlaw16.OriginMatchesStep'. -/
def originMatchesStepCard : Claim7 := { stood := { row := originMatchesStepRow, standIns := [], harness := (true, "8798f8764d397ec53cb7d454dad77caa301e8826a7349f685c566aa4ade75d35"), looks := false }, kinds := [], alts := [], laidByText := true, laidKinds := [.data, .pinned], laidTests := true, laidLooks := .later }
def OriginMatchesStepCardSaid : Prop := Claim7.holds Tryd.pinned (.plain (OpenSpec.ofChange originMatchesStepSpec)) originMatchesStepCard

/-- THE TIED CARD OF 'crossbarlaw16.OriginMatchesDial'. -/
def originMatchesDialCard : Claim7 := { stood := { row := originMatchesDialRow, standIns := [], harness := (true, "8798f8764d397ec53cb7d454dad77caa301e8826a7349f685c566aa4ade75d35"), looks := false }, kinds := [], alts := [], laidByText := true, laidKinds := [.data, .pinned], laidTests := true, laidLooks := .later }
def OriginMatchesDialCardSaid : Prop := Claim7.holds Tryd.pinned (.plain (OpenSpec.ofChange originMatchesDialSpec)) originMatchesDialCard

/-- THE TIED CARD OF 'crossbarlaw16.OriginTimerRuns'. -/
def originTimerRunsCard : Claim7 := { stood := { row := originTimerRunsRow, standIns := [], harness := (true, "8798f8764d397ec53cb7d454dad77caa301e8826a7349f685c566aa4ade75d35"), looks := false }, kinds := [], alts := [], laidByText := true, laidKinds := [.data, .pinned], laidTests := true, laidLooks := .later }
def OriginTimerRunsCardSaid : Prop := Claim7.holds Tryd.pinned (.plain (OpenSpec.ofChange originTimerRunsSpec)) originTimerRunsCard

/-- THE TIED CARD OF 'crossbarlaw16.OriginReleasesOnce'. -/
def originReleasesOnceCard : Claim7 := { stood := { row := originReleasesOnceRow, standIns := [], harness := (true, "8798f8764d397ec53cb7d454dad77caa301e8826a7349f685c566aa4ade75d35"), looks := false }, kinds := [], alts := [], laidByText := true, laidKinds := [.data, .pinned], laidTests := true, laidLooks := .later }
def OriginReleasesOnceCardSaid : Prop := Claim7.holds Tryd.pinned (.plain (OpenSpec.ofChange originReleasesOnceSpec)) originReleasesOnceCard

/-- THE TIED CARD OF 'crossbarlaw16.OriginTones'. -/
def originTonesCard : Claim7 := { stood := { row := originTonesRow, standIns := [], harness := (true, "8798f8764d397ec53cb7d454dad77caa301e8826a7349f685c566aa4ade75d35"), looks := false }, kinds := [], alts := [], laidByText := true, laidKinds := [.data, .pinned], laidTests := true, laidLooks := .later }
def OriginTonesCardSaid : Prop := Claim7.holds Tryd.pinned (.plain (OpenSpec.ofChange originTonesSpec)) originTonesCard

/-- THE TIED CARD OF 'crossbarlaw16.OriginStaysValid'. -/
def originStaysValidCard : Claim7 := { stood := { row := originStaysValidRow, standIns := [], harness := (true, "8798f8764d397ec53cb7d454dad77caa301e8826a7349f685c566aa4ade75d35"), looks := false }, kinds := [], alts := [], laidByText := true, laidKinds := [.data, .pinned], laidTests := true, laidLooks := .later }
def OriginStaysValidCardSaid : Prop := Claim7.holds Tryd.pinned (.plain (OpenSpec.ofChange originStaysValidSpec)) originStaysValidCard

/-- THE TIED CARD OF 'crossbarlaw16.OriginTimeoutDecides'. -/
def originTimeoutDecidesCard : Claim7 := { stood := { row := originTimeoutDecidesRow, standIns := [], harness := (true, "8798f8764d397ec53cb7d454dad77caa301e8826a7349f685c566aa4ade75d35"), looks := false }, kinds := [], alts := [], laidByText := true, laidKinds := [.data, .pinned], laidTests := true, laidLooks := .later }
def OriginTimeoutDecidesCardSaid : Prop := Claim7.holds Tryd.pinned (.plain (OpenSpec.ofChange originTimeoutDecidesSpec)) originTimeoutDecidesCard

/-- THE SECOND FORM's CARD OF 'crossbarlaw08.DialplanUsesLongestPrefix'. -/
def dialplanUsesLongestPrefixUptoCard : Claim7 := { stood := { row := dialplanUsesLongestPrefixUptoRow, standIns := [], harness := (true, "8798f8764d397ec53cb7d454dad77caa301e8826a7349f685c566aa4ade75d35"), looks := false }, kinds := [], alts := [], laidByText := true, laidKinds := [.data, .pinned], laidTests := true, laidLooks := .later }
def DialplanUsesLongestPrefixUptoCardSaid : Prop := Claim7.holds Tryd.pinned (.plain (OpenSpec.upto dialplanUsesLongestPrefixSpec)) dialplanUsesLongestPrefixUptoCard

/-- THE SECOND FORM's CARD OF 'crossbarlaw08.DialplanBarsNumbers'. -/
def dialplanBarsNumbersUptoCard : Claim7 := { stood := { row := dialplanBarsNumbersUptoRow, standIns := [], harness := (true, "8798f8764d397ec53cb7d454dad77caa301e8826a7349f685c566aa4ade75d35"), looks := false }, kinds := [], alts := [], laidByText := true, laidKinds := [.data, .pinned], laidTests := true, laidLooks := .later }
def DialplanBarsNumbersUptoCardSaid : Prop := Claim7.holds Tryd.pinned (.plain (OpenSpec.upto dialplanBarsNumbersSpec)) dialplanBarsNumbersUptoCard

/-- THE SECOND FORM's CARD OF 'crossbarlaw08.DialplanOrderIrrelevant'. -/
def dialplanOrderIrrelevantUptoCard : Claim7 := { stood := { row := dialplanOrderIrrelevantUptoRow, standIns := [], harness := (true, "8798f8764d397ec53cb7d454dad77caa301e8826a7349f685c566aa4ade75d35"), looks := false }, kinds := [], alts := [], laidByText := true, laidKinds := [.data, .pinned], laidTests := true, laidLooks := .later }
def DialplanOrderIrrelevantUptoCardSaid : Prop := Claim7.holds Tryd.pinned (.plain (OpenSpec.upto dialplanOrderIrrelevantSpec)) dialplanOrderIrrelevantUptoCard

/-- THE SECOND FORM's CARD OF 'crossbarlaw08.DialplanUnknownPrefix'. -/
def dialplanUnknownPrefixUptoCard : Claim7 := { stood := { row := dialplanUnknownPrefixUptoRow, standIns := [], harness := (true, "8798f8764d397ec53cb7d454dad77caa301e8826a7349f685c566aa4ade75d35"), looks := false }, kinds := [], alts := [], laidByText := true, laidKinds := [.data, .pinned], laidTests := true, laidLooks := .later }
def DialplanUnknownPrefixUptoCardSaid : Prop := Claim7.holds Tryd.pinned (.plain (OpenSpec.upto dialplanUnknownPrefixSpec)) dialplanUnknownPrefixUptoCard

/-- THE SECOND FORM's CARD OF 'crossbarlaw16.OriginMatchesStep'. -/
def originMatchesStepUptoCard : Claim7 := { stood := { row := originMatchesStepUptoRow, standIns := [], harness := (true, "8798f8764d397ec53cb7d454dad77caa301e8826a7349f685c566aa4ade75d35"), looks := false }, kinds := [], alts := [], laidByText := true, laidKinds := [.data, .pinned], laidTests := true, laidLooks := .later }
def OriginMatchesStepUptoCardSaid : Prop := Claim7.holds Tryd.pinned (.plain (OpenSpec.upto originMatchesStepSpec)) originMatchesStepUptoCard

/-- THE SECOND FORM's CARD OF 'crossbarlaw16.OriginMatchesDial'. -/
def originMatchesDialUptoCard : Claim7 := { stood := { row := originMatchesDialUptoRow, standIns := [], harness := (true, "8798f8764d397ec53cb7d454dad77caa301e8826a7349f685c566aa4ade75d35"), looks := false }, kinds := [], alts := [], laidByText := true, laidKinds := [.data, .pinned], laidTests := true, laidLooks := .later }
def OriginMatchesDialUptoCardSaid : Prop := Claim7.holds Tryd.pinned (.plain (OpenSpec.upto originMatchesDialSpec)) originMatchesDialUptoCard

/-- THE SECOND FORM's CARD OF 'crossbarlaw16.OriginTimerRuns'. -/
def originTimerRunsUptoCard : Claim7 := { stood := { row := originTimerRunsUptoRow, standIns := [], harness := (true, "8798f8764d397ec53cb7d454dad77caa301e8826a7349f685c566aa4ade75d35"), looks := false }, kinds := [], alts := [], laidByText := true, laidKinds := [.data, .pinned], laidTests := true, laidLooks := .later }
def OriginTimerRunsUptoCardSaid : Prop := Claim7.holds Tryd.pinned (.plain (OpenSpec.upto originTimerRunsSpec)) originTimerRunsUptoCard

/-- THE SECOND FORM's CARD OF 'crossbarlaw16.OriginReleasesOnce'. -/
def originReleasesOnceUptoCard : Claim7 := { stood := { row := originReleasesOnceUptoRow, standIns := [], harness := (true, "8798f8764d397ec53cb7d454dad77caa301e8826a7349f685c566aa4ade75d35"), looks := false }, kinds := [], alts := [], laidByText := true, laidKinds := [.data, .pinned], laidTests := true, laidLooks := .later }
def OriginReleasesOnceUptoCardSaid : Prop := Claim7.holds Tryd.pinned (.plain (OpenSpec.upto originReleasesOnceSpec)) originReleasesOnceUptoCard

/-- THE SECOND FORM's CARD OF 'crossbarlaw16.OriginTones'. -/
def originTonesUptoCard : Claim7 := { stood := { row := originTonesUptoRow, standIns := [], harness := (true, "8798f8764d397ec53cb7d454dad77caa301e8826a7349f685c566aa4ade75d35"), looks := false }, kinds := [], alts := [], laidByText := true, laidKinds := [.data, .pinned], laidTests := true, laidLooks := .later }
def OriginTonesUptoCardSaid : Prop := Claim7.holds Tryd.pinned (.plain (OpenSpec.upto originTonesSpec)) originTonesUptoCard

/-- THE SECOND FORM's CARD OF 'crossbarlaw16.OriginStaysValid'. -/
def originStaysValidUptoCard : Claim7 := { stood := { row := originStaysValidUptoRow, standIns := [], harness := (true, "8798f8764d397ec53cb7d454dad77caa301e8826a7349f685c566aa4ade75d35"), looks := false }, kinds := [], alts := [], laidByText := true, laidKinds := [.data, .pinned], laidTests := true, laidLooks := .later }
def OriginStaysValidUptoCardSaid : Prop := Claim7.holds Tryd.pinned (.plain (OpenSpec.upto originStaysValidSpec)) originStaysValidUptoCard

/-- THE SECOND FORM's CARD OF 'crossbarlaw16.OriginTimeoutDecides'. -/
def originTimeoutDecidesUptoCard : Claim7 := { stood := { row := originTimeoutDecidesUptoRow, standIns := [], harness := (true, "8798f8764d397ec53cb7d454dad77caa301e8826a7349f685c566aa4ade75d35"), looks := false }, kinds := [], alts := [], laidByText := true, laidKinds := [.data, .pinned], laidTests := true, laidLooks := .later }
def OriginTimeoutDecidesUptoCardSaid : Prop := Claim7.holds Tryd.pinned (.plain (OpenSpec.upto originTimeoutDecidesSpec)) originTimeoutDecidesUptoCard
end Rows
end Go.Proofs.YthknfclhkmehgaaDoor
