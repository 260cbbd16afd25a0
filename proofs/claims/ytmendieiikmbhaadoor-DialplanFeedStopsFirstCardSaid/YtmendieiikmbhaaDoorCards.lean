/-
  DERIVED. GIVEN WITH THE SEED: THE CARDS: each row of YtmendieiikmbhaaDoorRows.lean that lists a variable, with what it lists TIED to the program's text (the seventh form; the later family's looks); each row that meets fmt, with fmt's text TOLD by the authors' own Lean function (tested against real Go, not proved from fmt's source: count such statements apart). THE CARD IS WHAT COUNTS. Prove the row's statement (the work); the ties are given (YtmendieiikmbhaaDoorTie.lean); close each card by the builder's one call (the guide's Derived/Test/ToyasCard.lean, 'card_holds'). Laid BY PROGRAM, IN A SANDBOX (cutbox-door.mjs). By AI agents, Wed Nov 11 2026. No macro, syntax, notation, axiom, sorry.
-/
import Derived.Test.YtmendieiikmbhaaDoorRows
import GoSem.ClaimSeven
namespace Go.Proofs.YtmendieiikmbhaaDoor
namespace Rows

/-- THE TIED CARD OF 'crossbarlaw07.TrieMatchesLookups'. -/
def trieMatchesLookupsCard : Claim7 := { stood := { row := trieMatchesLookupsRow, standIns := [], harness := (true, "5e2ac6f7e2a29b37b8f3eb51353d87126f4077a72d56775e28881e1135142151"), looks := false }, kinds := [], alts := [], laidByText := true, laidKinds := [.data, .pinned], laidTests := true, laidLooks := .later }
def TrieMatchesLookupsCardSaid : Prop := Claim7.holds Tryd.pinned (.plain (OpenSpec.ofChange trieMatchesLookupsSpec)) trieMatchesLookupsCard

/-- THE TIED CARD OF 'crossbarlaw07.TrieRebuild'. -/
def trieRebuildCard : Claim7 := { stood := { row := trieRebuildRow, standIns := [], harness := (true, "5e2ac6f7e2a29b37b8f3eb51353d87126f4077a72d56775e28881e1135142151"), looks := false }, kinds := [], alts := [], laidByText := true, laidKinds := [.data, .pinned], laidTests := true, laidLooks := .later }
def TrieRebuildCardSaid : Prop := Claim7.holds Tryd.pinned (.plain (OpenSpec.ofChange trieRebuildSpec)) trieRebuildCard

/-- THE TIED CARD OF 'crossbarlaw07.TrieMatchesUpdates'. -/
def trieMatchesUpdatesCard : Claim7 := { stood := { row := trieMatchesUpdatesRow, standIns := [], harness := (true, "5e2ac6f7e2a29b37b8f3eb51353d87126f4077a72d56775e28881e1135142151"), looks := false }, kinds := [], alts := [], laidByText := true, laidKinds := [.data, .pinned], laidTests := true, laidLooks := .later }
def TrieMatchesUpdatesCardSaid : Prop := Claim7.holds Tryd.pinned (.plain (OpenSpec.ofChange trieMatchesUpdatesSpec)) trieMatchesUpdatesCard

/-- THE TIED CARD OF 'crossbarlaw07.TrieLongestPrefix'. -/
def trieLongestPrefixCard : Claim7 := { stood := { row := trieLongestPrefixRow, standIns := [], harness := (true, "5e2ac6f7e2a29b37b8f3eb51353d87126f4077a72d56775e28881e1135142151"), looks := false }, kinds := [], alts := [], laidByText := true, laidKinds := [.data, .pinned], laidTests := true, laidLooks := .later }
def TrieLongestPrefixCardSaid : Prop := Claim7.holds Tryd.pinned (.plain (OpenSpec.ofChange trieLongestPrefixSpec)) trieLongestPrefixCard

/-- THE TIED CARD OF 'crossbarlaw07.TrieEntriesSorted'. -/
def trieEntriesSortedCard : Claim7 := { stood := { row := trieEntriesSortedRow, standIns := [], harness := (true, "5e2ac6f7e2a29b37b8f3eb51353d87126f4077a72d56775e28881e1135142151"), looks := false }, kinds := [], alts := [], laidByText := true, laidKinds := [.data, .pinned], laidTests := true, laidLooks := .later }
def TrieEntriesSortedCardSaid : Prop := Claim7.holds Tryd.pinned (.plain (OpenSpec.ofChange trieEntriesSortedSpec)) trieEntriesSortedCard

/-- THE TIED CARD OF 'crossbartop.TopDialPlan'. -/
def topDialPlanCard : Claim7 := { stood := { row := topDialPlanRow, standIns := [], harness := (true, "5e2ac6f7e2a29b37b8f3eb51353d87126f4077a72d56775e28881e1135142151"), looks := false }, kinds := [], alts := [], laidByText := true, laidKinds := [.data, .pinned], laidTests := true, laidLooks := .later }
def TopDialPlanCardSaid : Prop := Claim7.holds Tryd.pinned (.plain (OpenSpec.ofChange topDialPlanSpec)) topDialPlanCard

/-- THE TIED CARD OF 'crossbarlaw07.TrieExtendsEntries'. -/
def trieExtendsEntriesCard : Claim7 := { stood := { row := trieExtendsEntriesRow, standIns := [], harness := (true, "5e2ac6f7e2a29b37b8f3eb51353d87126f4077a72d56775e28881e1135142151"), looks := false }, kinds := [], alts := [], laidByText := true, laidKinds := [.data, .pinned], laidTests := true, laidLooks := .later }
def TrieExtendsEntriesCardSaid : Prop := Claim7.holds Tryd.pinned (.plain (OpenSpec.ofChange trieExtendsEntriesSpec)) trieExtendsEntriesCard

/-- THE TIED CARD OF 'crossbarlaw07.TrieCommutes'. -/
def trieCommutesCard : Claim7 := { stood := { row := trieCommutesRow, standIns := [], harness := (true, "5e2ac6f7e2a29b37b8f3eb51353d87126f4077a72d56775e28881e1135142151"), looks := false }, kinds := [], alts := [], laidByText := true, laidKinds := [.data, .pinned], laidTests := true, laidLooks := .later }
def TrieCommutesCardSaid : Prop := Claim7.holds Tryd.pinned (.plain (OpenSpec.ofChange trieCommutesSpec)) trieCommutesCard

/-- THE TIED CARD OF 'crossbarlaw07.TrieNodesShared'. -/
def trieNodesSharedCard : Claim7 := { stood := { row := trieNodesSharedRow, standIns := [], harness := (true, "5e2ac6f7e2a29b37b8f3eb51353d87126f4077a72d56775e28881e1135142151"), looks := false }, kinds := [], alts := [], laidByText := true, laidKinds := [.data, .pinned], laidTests := true, laidLooks := .later }
def TrieNodesSharedCardSaid : Prop := Claim7.holds Tryd.pinned (.plain (OpenSpec.ofChange trieNodesSharedSpec)) trieNodesSharedCard

/-- THE TIED CARD OF 'crossbarlaw08.DialplanAnalyzeSpec'. -/
def dialplanAnalyzeSpecCard : Claim7 := { stood := { row := dialplanAnalyzeSpecRow, standIns := [], harness := (true, "5e2ac6f7e2a29b37b8f3eb51353d87126f4077a72d56775e28881e1135142151"), looks := false }, kinds := [], alts := [], laidByText := true, laidKinds := [.data, .pinned], laidTests := true, laidLooks := .later }
def DialplanAnalyzeSpecCardSaid : Prop := Claim7.holds Tryd.pinned (.plain (OpenSpec.ofChange dialplanAnalyzeSpecSpec)) dialplanAnalyzeSpecCard

/-- THE TIED CARD OF 'crossbarlaw08.DialplanOverlapAgreesWithEnBloc'. -/
def dialplanOverlapAgreesWithEnBlocCard : Claim7 := { stood := { row := dialplanOverlapAgreesWithEnBlocRow, standIns := [], harness := (true, "5e2ac6f7e2a29b37b8f3eb51353d87126f4077a72d56775e28881e1135142151"), looks := false }, kinds := [], alts := [], laidByText := true, laidKinds := [.data, .pinned], laidTests := true, laidLooks := .later }
def DialplanOverlapAgreesWithEnBlocCardSaid : Prop := Claim7.holds Tryd.pinned (.plain (OpenSpec.ofChange dialplanOverlapAgreesWithEnBlocSpec)) dialplanOverlapAgreesWithEnBlocCard

/-- THE TIED CARD OF 'crossbarlaw08.DialplanFeedStopsFirst'. -/
def dialplanFeedStopsFirstCard : Claim7 := { stood := { row := dialplanFeedStopsFirstRow, standIns := [], harness := (true, "5e2ac6f7e2a29b37b8f3eb51353d87126f4077a72d56775e28881e1135142151"), looks := false }, kinds := [], alts := [], laidByText := true, laidKinds := [.data, .pinned], laidTests := true, laidLooks := .later }
def DialplanFeedStopsFirstCardSaid : Prop := Claim7.holds Tryd.pinned (.plain (OpenSpec.ofChange dialplanFeedStopsFirstSpec)) dialplanFeedStopsFirstCard

/-- THE SECOND FORM's CARD OF 'crossbarlaw07.TrieMatchesLookups'. -/
def trieMatchesLookupsUptoCard : Claim7 := { stood := { row := trieMatchesLookupsUptoRow, standIns := [], harness := (true, "5e2ac6f7e2a29b37b8f3eb51353d87126f4077a72d56775e28881e1135142151"), looks := false }, kinds := [], alts := [], laidByText := true, laidKinds := [.data, .pinned], laidTests := true, laidLooks := .later }
def TrieMatchesLookupsUptoCardSaid : Prop := Claim7.holds Tryd.pinned (.plain (OpenSpec.upto trieMatchesLookupsSpec)) trieMatchesLookupsUptoCard

/-- THE SECOND FORM's CARD OF 'crossbarlaw07.TrieRebuild'. -/
def trieRebuildUptoCard : Claim7 := { stood := { row := trieRebuildUptoRow, standIns := [], harness := (true, "5e2ac6f7e2a29b37b8f3eb51353d87126f4077a72d56775e28881e1135142151"), looks := false }, kinds := [], alts := [], laidByText := true, laidKinds := [.data, .pinned], laidTests := true, laidLooks := .later }
def TrieRebuildUptoCardSaid : Prop := Claim7.holds Tryd.pinned (.plain (OpenSpec.upto trieRebuildSpec)) trieRebuildUptoCard

/-- THE SECOND FORM's CARD OF 'crossbarlaw07.TrieMatchesUpdates'. -/
def trieMatchesUpdatesUptoCard : Claim7 := { stood := { row := trieMatchesUpdatesUptoRow, standIns := [], harness := (true, "5e2ac6f7e2a29b37b8f3eb51353d87126f4077a72d56775e28881e1135142151"), looks := false }, kinds := [], alts := [], laidByText := true, laidKinds := [.data, .pinned], laidTests := true, laidLooks := .later }
def TrieMatchesUpdatesUptoCardSaid : Prop := Claim7.holds Tryd.pinned (.plain (OpenSpec.upto trieMatchesUpdatesSpec)) trieMatchesUpdatesUptoCard

/-- THE SECOND FORM's CARD OF 'crossbarlaw07.TrieLongestPrefix'. -/
def trieLongestPrefixUptoCard : Claim7 := { stood := { row := trieLongestPrefixUptoRow, standIns := [], harness := (true, "5e2ac6f7e2a29b37b8f3eb51353d87126f4077a72d56775e28881e1135142151"), looks := false }, kinds := [], alts := [], laidByText := true, laidKinds := [.data, .pinned], laidTests := true, laidLooks := .later }
def TrieLongestPrefixUptoCardSaid : Prop := Claim7.holds Tryd.pinned (.plain (OpenSpec.upto trieLongestPrefixSpec)) trieLongestPrefixUptoCard

/-- THE SECOND FORM's CARD OF 'crossbarlaw07.TrieEntriesSorted'. -/
def trieEntriesSortedUptoCard : Claim7 := { stood := { row := trieEntriesSortedUptoRow, standIns := [], harness := (true, "5e2ac6f7e2a29b37b8f3eb51353d87126f4077a72d56775e28881e1135142151"), looks := false }, kinds := [], alts := [], laidByText := true, laidKinds := [.data, .pinned], laidTests := true, laidLooks := .later }
def TrieEntriesSortedUptoCardSaid : Prop := Claim7.holds Tryd.pinned (.plain (OpenSpec.upto trieEntriesSortedSpec)) trieEntriesSortedUptoCard

/-- THE SECOND FORM's CARD OF 'crossbartop.TopDialPlan'. -/
def topDialPlanUptoCard : Claim7 := { stood := { row := topDialPlanUptoRow, standIns := [], harness := (true, "5e2ac6f7e2a29b37b8f3eb51353d87126f4077a72d56775e28881e1135142151"), looks := false }, kinds := [], alts := [], laidByText := true, laidKinds := [.data, .pinned], laidTests := true, laidLooks := .later }
def TopDialPlanUptoCardSaid : Prop := Claim7.holds Tryd.pinned (.plain (OpenSpec.upto topDialPlanSpec)) topDialPlanUptoCard

/-- THE SECOND FORM's CARD OF 'crossbarlaw07.TrieExtendsEntries'. -/
def trieExtendsEntriesUptoCard : Claim7 := { stood := { row := trieExtendsEntriesUptoRow, standIns := [], harness := (true, "5e2ac6f7e2a29b37b8f3eb51353d87126f4077a72d56775e28881e1135142151"), looks := false }, kinds := [], alts := [], laidByText := true, laidKinds := [.data, .pinned], laidTests := true, laidLooks := .later }
def TrieExtendsEntriesUptoCardSaid : Prop := Claim7.holds Tryd.pinned (.plain (OpenSpec.upto trieExtendsEntriesSpec)) trieExtendsEntriesUptoCard

/-- THE SECOND FORM's CARD OF 'crossbarlaw07.TrieCommutes'. -/
def trieCommutesUptoCard : Claim7 := { stood := { row := trieCommutesUptoRow, standIns := [], harness := (true, "5e2ac6f7e2a29b37b8f3eb51353d87126f4077a72d56775e28881e1135142151"), looks := false }, kinds := [], alts := [], laidByText := true, laidKinds := [.data, .pinned], laidTests := true, laidLooks := .later }
def TrieCommutesUptoCardSaid : Prop := Claim7.holds Tryd.pinned (.plain (OpenSpec.upto trieCommutesSpec)) trieCommutesUptoCard

/-- THE SECOND FORM's CARD OF 'crossbarlaw07.TrieNodesShared'. -/
def trieNodesSharedUptoCard : Claim7 := { stood := { row := trieNodesSharedUptoRow, standIns := [], harness := (true, "5e2ac6f7e2a29b37b8f3eb51353d87126f4077a72d56775e28881e1135142151"), looks := false }, kinds := [], alts := [], laidByText := true, laidKinds := [.data, .pinned], laidTests := true, laidLooks := .later }
def TrieNodesSharedUptoCardSaid : Prop := Claim7.holds Tryd.pinned (.plain (OpenSpec.upto trieNodesSharedSpec)) trieNodesSharedUptoCard

/-- THE SECOND FORM's CARD OF 'crossbarlaw08.DialplanAnalyzeSpec'. -/
def dialplanAnalyzeSpecUptoCard : Claim7 := { stood := { row := dialplanAnalyzeSpecUptoRow, standIns := [], harness := (true, "5e2ac6f7e2a29b37b8f3eb51353d87126f4077a72d56775e28881e1135142151"), looks := false }, kinds := [], alts := [], laidByText := true, laidKinds := [.data, .pinned], laidTests := true, laidLooks := .later }
def DialplanAnalyzeSpecUptoCardSaid : Prop := Claim7.holds Tryd.pinned (.plain (OpenSpec.upto dialplanAnalyzeSpecSpec)) dialplanAnalyzeSpecUptoCard

/-- THE SECOND FORM's CARD OF 'crossbarlaw08.DialplanOverlapAgreesWithEnBloc'. -/
def dialplanOverlapAgreesWithEnBlocUptoCard : Claim7 := { stood := { row := dialplanOverlapAgreesWithEnBlocUptoRow, standIns := [], harness := (true, "5e2ac6f7e2a29b37b8f3eb51353d87126f4077a72d56775e28881e1135142151"), looks := false }, kinds := [], alts := [], laidByText := true, laidKinds := [.data, .pinned], laidTests := true, laidLooks := .later }
def DialplanOverlapAgreesWithEnBlocUptoCardSaid : Prop := Claim7.holds Tryd.pinned (.plain (OpenSpec.upto dialplanOverlapAgreesWithEnBlocSpec)) dialplanOverlapAgreesWithEnBlocUptoCard

/-- THE SECOND FORM's CARD OF 'crossbarlaw08.DialplanFeedStopsFirst'. -/
def dialplanFeedStopsFirstUptoCard : Claim7 := { stood := { row := dialplanFeedStopsFirstUptoRow, standIns := [], harness := (true, "5e2ac6f7e2a29b37b8f3eb51353d87126f4077a72d56775e28881e1135142151"), looks := false }, kinds := [], alts := [], laidByText := true, laidKinds := [.data, .pinned], laidTests := true, laidLooks := .later }
def DialplanFeedStopsFirstUptoCardSaid : Prop := Claim7.holds Tryd.pinned (.plain (OpenSpec.upto dialplanFeedStopsFirstSpec)) dialplanFeedStopsFirstUptoCard
end Rows
end Go.Proofs.YtmendieiikmbhaaDoor
