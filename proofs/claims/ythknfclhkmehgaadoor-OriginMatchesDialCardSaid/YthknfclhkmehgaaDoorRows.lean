/-
  NARROWER THAN 'FOR EVERY INPUT', by the rows' own cells (each row's printed sentence says how): DialplanUsesLongestPrefix: laid · DialplanBarsNumbers: laid · DialplanOrderIrrelevant: laid · DialplanUnknownPrefix: laid · OriginMatchesStep: laid · OriginMatchesDial: laid · OriginTimerRuns: laid · OriginReleasesOnce: laid · OriginTones: laid · OriginStaysValid: laid · OriginTimeoutDecides: laid.
  DERIVED. THE GIVEN ROWS OF THIS SEAT. 11 by the template 'for every input the law returns true; each argument reads behind the call as it read before'; 0 by the template 'total and deterministic' (their statements: YthknfclhkmehgaaDoorTotals.lean).
  GIVEN WITH THE SEED: the statements are not yours to turn. If you find one false, say at which input.
  Laid BY PROGRAM, IN A SANDBOX (cutbox-rows.mjs): the forced cells as the released guide's own fill.sh prints them over the translation d04b75f1a088ba97… (all of the seat's roots in one cut). By AI agents, Wed Nov 11 2026. No macro, syntax, notation, axiom, sorry.
-/
import Derived.Test.YthknfclhkmehgaaDoorChecked
import GoSem.PinnedTables
import GoSem.Claim
import GoSem.ClaimJoined
import GoSem.ClaimMapViews
import Derived.JoinedTies
import Derived.KernelRfl
namespace Go.Proofs.YthknfclhkmehgaaDoor
/- THE CELL 'sum', in the pinned program and in every row, IS THE sha256 OF THE DUMP (.gsa) THAT YthknfclhkmehgaaDoorProg.lean LOADS. Nothing in Lean hashes anything: it is a label: what it is worth is what the hold of that sum in a sandbox is worth. -/
noncomputable def Tryd.pinned : Pinned := { name := "ythknfclhkmehgaadoor", sum := "d04b75f1a088ba9767c381b3dc514506352decb0f5a7e197fa06b1240887f46c", checked := Tryd.checked }
namespace Rows
def none {H : Type} : Left H := { results := [], args := [] }

/- WHAT THE LISTED PACKAGE-LEVEL VARIABLES READ AS WHEN THE CALL BEGINS. Each datum BY PROGRAM (the guide's laid-datum.mjs) off the statement by which the dump's own 'gosem.cut.vars' lays the variable. In a bare row this is a premise. The card (YthknfclhkmehgaaDoorCards.lean) ties it to the program's text. -/
def laid_unicode_utf8_acceptRanges {H : Type} : DataW H := .agg [.agg [.lit (.int .u8 128), .lit (.int .u8 191)], .agg [.lit (.int .u8 160), .lit (.int .u8 191)], .agg [.lit (.int .u8 128), .lit (.int .u8 159)], .agg [.lit (.int .u8 144), .lit (.int .u8 191)], .agg [.lit (.int .u8 128), .lit (.int .u8 143)], .agg [.lit (.int .u8 0), .lit (.int .u8 0)], .agg [.lit (.int .u8 0), .lit (.int .u8 0)], .agg [.lit (.int .u8 0), .lit (.int .u8 0)], .agg [.lit (.int .u8 0), .lit (.int .u8 0)], .agg [.lit (.int .u8 0), .lit (.int .u8 0)], .agg [.lit (.int .u8 0), .lit (.int .u8 0)], .agg [.lit (.int .u8 0), .lit (.int .u8 0)], .agg [.lit (.int .u8 0), .lit (.int .u8 0)], .agg [.lit (.int .u8 0), .lit (.int .u8 0)], .agg [.lit (.int .u8 0), .lit (.int .u8 0)], .agg [.lit (.int .u8 0), .lit (.int .u8 0)]]
/-- One of Go's own tables, pinned by name: the form's constant. -/
def laid_unicode_utf8_first : DataW Unit := Go.Pinned.utf8First

/-- 'crossbarlaw08.DialplanUsesLongestPrefix': WHATEVER THE INPUT: true; the input reads as it did. -/
def dialplanUsesLongestPrefixSpec : ChangeSpec := { name := "dialplanUsesLongestPrefix", fn := fun _ => fun
  | [d1, d2] => { results := [.lit (.bool true)], args := [d1, d2] }
  | _ => none }
def dialplanUsesLongestPrefixRow : OpenClaim := { program := "ythknfclhkmehgaadoor", sum := "d04b75f1a088ba9767c381b3dc514506352decb0f5a7e197fa06b1240887f46c", func := "crossbar/crossbarlaw08.DialplanUsesLongestPrefix", spec := "dialplanUsesLongestPrefix", inPlace := ["internal/bytealg.IndexByteString", "internal/bytealg.IndexString"], unfollowed := true, recurses := true, named := ["unicode/utf8.first", "unicode/utf8.acceptRanges", "internal/bytealg.MaxLen"], plainKeys := false, apart := false, laid := [("unicode/utf8.acceptRanges", laid_unicode_utf8_acceptRanges), ("unicode/utf8.first", laid_unicode_utf8_first)] }
def DialplanUsesLongestPrefixSaid : Prop := dialplanUsesLongestPrefixRow.holds Tryd.pinned (OpenSpec.ofChange dialplanUsesLongestPrefixSpec)

/-- ITS FALSE NEIGHBOUR: 'it returns false'. Refute it at one input. -/
def dialplanUsesLongestPrefixWrong : ChangeSpec := { name := "dialplanUsesLongestPrefix", fn := fun _ => fun
  | [d1, d2] => { results := [.lit (.bool false)], args := [d1, d2] }
  | _ => none }
def DialplanUsesLongestPrefixWrongFalsely : Prop := dialplanUsesLongestPrefixRow.holds Tryd.pinned (OpenSpec.ofChange dialplanUsesLongestPrefixWrong)

/-- 'crossbarlaw08.DialplanBarsNumbers': WHATEVER THE INPUT: true; the input reads as it did. -/
def dialplanBarsNumbersSpec : ChangeSpec := { name := "dialplanBarsNumbers", fn := fun _ => fun
  | [d1, d2, d3] => { results := [.lit (.bool true)], args := [d1, d2, d3] }
  | _ => none }
def dialplanBarsNumbersRow : OpenClaim := { program := "ythknfclhkmehgaadoor", sum := "d04b75f1a088ba9767c381b3dc514506352decb0f5a7e197fa06b1240887f46c", func := "crossbar/crossbarlaw08.DialplanBarsNumbers", spec := "dialplanBarsNumbers", inPlace := ["internal/bytealg.IndexByteString", "internal/bytealg.IndexString"], unfollowed := true, recurses := true, named := ["unicode/utf8.first", "unicode/utf8.acceptRanges", "internal/bytealg.MaxLen"], plainKeys := false, apart := false, laid := [("unicode/utf8.acceptRanges", laid_unicode_utf8_acceptRanges), ("unicode/utf8.first", laid_unicode_utf8_first)] }
def DialplanBarsNumbersSaid : Prop := dialplanBarsNumbersRow.holds Tryd.pinned (OpenSpec.ofChange dialplanBarsNumbersSpec)

/-- ITS FALSE NEIGHBOUR: 'it returns false'. Refute it at one input. -/
def dialplanBarsNumbersWrong : ChangeSpec := { name := "dialplanBarsNumbers", fn := fun _ => fun
  | [d1, d2, d3] => { results := [.lit (.bool false)], args := [d1, d2, d3] }
  | _ => none }
def DialplanBarsNumbersWrongFalsely : Prop := dialplanBarsNumbersRow.holds Tryd.pinned (OpenSpec.ofChange dialplanBarsNumbersWrong)

/-- 'crossbarlaw08.DialplanOrderIrrelevant': WHATEVER THE INPUT: true; the input reads as it did. -/
def dialplanOrderIrrelevantSpec : ChangeSpec := { name := "dialplanOrderIrrelevant", fn := fun _ => fun
  | [d1, d2, d3] => { results := [.lit (.bool true)], args := [d1, d2, d3] }
  | _ => none }
def dialplanOrderIrrelevantRow : OpenClaim := { program := "ythknfclhkmehgaadoor", sum := "d04b75f1a088ba9767c381b3dc514506352decb0f5a7e197fa06b1240887f46c", func := "crossbar/crossbarlaw08.DialplanOrderIrrelevant", spec := "dialplanOrderIrrelevant", inPlace := ["internal/bytealg.IndexByteString", "internal/bytealg.IndexString"], unfollowed := true, recurses := true, named := ["unicode/utf8.first", "unicode/utf8.acceptRanges", "internal/bytealg.MaxLen"], plainKeys := false, apart := false, laid := [("unicode/utf8.acceptRanges", laid_unicode_utf8_acceptRanges), ("unicode/utf8.first", laid_unicode_utf8_first)] }
def DialplanOrderIrrelevantSaid : Prop := dialplanOrderIrrelevantRow.holds Tryd.pinned (OpenSpec.ofChange dialplanOrderIrrelevantSpec)

/-- ITS FALSE NEIGHBOUR: 'it returns false'. Refute it at one input. -/
def dialplanOrderIrrelevantWrong : ChangeSpec := { name := "dialplanOrderIrrelevant", fn := fun _ => fun
  | [d1, d2, d3] => { results := [.lit (.bool false)], args := [d1, d2, d3] }
  | _ => none }
def DialplanOrderIrrelevantWrongFalsely : Prop := dialplanOrderIrrelevantRow.holds Tryd.pinned (OpenSpec.ofChange dialplanOrderIrrelevantWrong)

/-- 'crossbarlaw08.DialplanUnknownPrefix': WHATEVER THE INPUT: true; the input reads as it did. -/
def dialplanUnknownPrefixSpec : ChangeSpec := { name := "dialplanUnknownPrefix", fn := fun _ => fun
  | [d1, d2] => { results := [.lit (.bool true)], args := [d1, d2] }
  | _ => none }
def dialplanUnknownPrefixRow : OpenClaim := { program := "ythknfclhkmehgaadoor", sum := "d04b75f1a088ba9767c381b3dc514506352decb0f5a7e197fa06b1240887f46c", func := "crossbar/crossbarlaw08.DialplanUnknownPrefix", spec := "dialplanUnknownPrefix", inPlace := ["internal/bytealg.IndexByteString", "internal/bytealg.IndexString"], unfollowed := true, recurses := true, named := ["unicode/utf8.first", "unicode/utf8.acceptRanges", "internal/bytealg.MaxLen"], plainKeys := false, apart := false, laid := [("unicode/utf8.acceptRanges", laid_unicode_utf8_acceptRanges), ("unicode/utf8.first", laid_unicode_utf8_first)] }
def DialplanUnknownPrefixSaid : Prop := dialplanUnknownPrefixRow.holds Tryd.pinned (OpenSpec.ofChange dialplanUnknownPrefixSpec)

/-- ITS FALSE NEIGHBOUR: 'it returns false'. Refute it at one input. -/
def dialplanUnknownPrefixWrong : ChangeSpec := { name := "dialplanUnknownPrefix", fn := fun _ => fun
  | [d1, d2] => { results := [.lit (.bool false)], args := [d1, d2] }
  | _ => none }
def DialplanUnknownPrefixWrongFalsely : Prop := dialplanUnknownPrefixRow.holds Tryd.pinned (OpenSpec.ofChange dialplanUnknownPrefixWrong)

/-- 'crossbarlaw16.OriginMatchesStep': WHATEVER THE INPUT: true; the input reads as it did. -/
def originMatchesStepSpec : ChangeSpec := { name := "originMatchesStep", fn := fun _ => fun
  | [d1, d2, d3] => { results := [.lit (.bool true)], args := [d1, d2, d3] }
  | _ => none }
def originMatchesStepRow : OpenClaim := { program := "ythknfclhkmehgaadoor", sum := "d04b75f1a088ba9767c381b3dc514506352decb0f5a7e197fa06b1240887f46c", func := "crossbar/crossbarlaw16.OriginMatchesStep", spec := "originMatchesStep", inPlace := ["internal/bytealg.IndexByteString", "internal/bytealg.IndexString"], unfollowed := true, recurses := true, named := ["unicode/utf8.first", "unicode/utf8.acceptRanges", "internal/bytealg.MaxLen"], plainKeys := false, apart := false, laid := [("unicode/utf8.acceptRanges", laid_unicode_utf8_acceptRanges), ("unicode/utf8.first", laid_unicode_utf8_first)] }
def OriginMatchesStepSaid : Prop := originMatchesStepRow.holds Tryd.pinned (OpenSpec.ofChange originMatchesStepSpec)

/-- ITS FALSE NEIGHBOUR: 'it returns false'. Refute it at one input. -/
def originMatchesStepWrong : ChangeSpec := { name := "originMatchesStep", fn := fun _ => fun
  | [d1, d2, d3] => { results := [.lit (.bool false)], args := [d1, d2, d3] }
  | _ => none }
def OriginMatchesStepWrongFalsely : Prop := originMatchesStepRow.holds Tryd.pinned (OpenSpec.ofChange originMatchesStepWrong)

/-- 'crossbarlaw16.OriginMatchesDial': WHATEVER THE INPUT: true; the input reads as it did. -/
def originMatchesDialSpec : ChangeSpec := { name := "originMatchesDial", fn := fun _ => fun
  | [d1, d2] => { results := [.lit (.bool true)], args := [d1, d2] }
  | _ => none }
def originMatchesDialRow : OpenClaim := { program := "ythknfclhkmehgaadoor", sum := "d04b75f1a088ba9767c381b3dc514506352decb0f5a7e197fa06b1240887f46c", func := "crossbar/crossbarlaw16.OriginMatchesDial", spec := "originMatchesDial", inPlace := ["internal/bytealg.IndexByteString", "internal/bytealg.IndexString"], unfollowed := true, recurses := true, named := ["unicode/utf8.first", "unicode/utf8.acceptRanges", "internal/bytealg.MaxLen"], plainKeys := false, apart := false, laid := [("unicode/utf8.acceptRanges", laid_unicode_utf8_acceptRanges), ("unicode/utf8.first", laid_unicode_utf8_first)] }
def OriginMatchesDialSaid : Prop := originMatchesDialRow.holds Tryd.pinned (OpenSpec.ofChange originMatchesDialSpec)

/-- ITS FALSE NEIGHBOUR: 'it returns false'. Refute it at one input. -/
def originMatchesDialWrong : ChangeSpec := { name := "originMatchesDial", fn := fun _ => fun
  | [d1, d2] => { results := [.lit (.bool false)], args := [d1, d2] }
  | _ => none }
def OriginMatchesDialWrongFalsely : Prop := originMatchesDialRow.holds Tryd.pinned (OpenSpec.ofChange originMatchesDialWrong)

/-- 'crossbarlaw16.OriginTimerRuns': WHATEVER THE INPUT: true; the input reads as it did. -/
def originTimerRunsSpec : ChangeSpec := { name := "originTimerRuns", fn := fun _ => fun
  | [d1, d2] => { results := [.lit (.bool true)], args := [d1, d2] }
  | _ => none }
def originTimerRunsRow : OpenClaim := { program := "ythknfclhkmehgaadoor", sum := "d04b75f1a088ba9767c381b3dc514506352decb0f5a7e197fa06b1240887f46c", func := "crossbar/crossbarlaw16.OriginTimerRuns", spec := "originTimerRuns", inPlace := ["internal/bytealg.IndexByteString", "internal/bytealg.IndexString"], unfollowed := true, recurses := true, named := ["unicode/utf8.first", "unicode/utf8.acceptRanges", "internal/bytealg.MaxLen"], plainKeys := false, apart := false, laid := [("unicode/utf8.acceptRanges", laid_unicode_utf8_acceptRanges), ("unicode/utf8.first", laid_unicode_utf8_first)] }
def OriginTimerRunsSaid : Prop := originTimerRunsRow.holds Tryd.pinned (OpenSpec.ofChange originTimerRunsSpec)

/-- ITS FALSE NEIGHBOUR: 'it returns false'. Refute it at one input. -/
def originTimerRunsWrong : ChangeSpec := { name := "originTimerRuns", fn := fun _ => fun
  | [d1, d2] => { results := [.lit (.bool false)], args := [d1, d2] }
  | _ => none }
def OriginTimerRunsWrongFalsely : Prop := originTimerRunsRow.holds Tryd.pinned (OpenSpec.ofChange originTimerRunsWrong)

/-- 'crossbarlaw16.OriginReleasesOnce': WHATEVER THE INPUT: true; the input reads as it did. -/
def originReleasesOnceSpec : ChangeSpec := { name := "originReleasesOnce", fn := fun _ => fun
  | [d1, d2] => { results := [.lit (.bool true)], args := [d1, d2] }
  | _ => none }
def originReleasesOnceRow : OpenClaim := { program := "ythknfclhkmehgaadoor", sum := "d04b75f1a088ba9767c381b3dc514506352decb0f5a7e197fa06b1240887f46c", func := "crossbar/crossbarlaw16.OriginReleasesOnce", spec := "originReleasesOnce", inPlace := ["internal/bytealg.IndexByteString", "internal/bytealg.IndexString"], unfollowed := true, recurses := true, named := ["unicode/utf8.first", "unicode/utf8.acceptRanges", "internal/bytealg.MaxLen"], plainKeys := false, apart := false, laid := [("unicode/utf8.acceptRanges", laid_unicode_utf8_acceptRanges), ("unicode/utf8.first", laid_unicode_utf8_first)] }
def OriginReleasesOnceSaid : Prop := originReleasesOnceRow.holds Tryd.pinned (OpenSpec.ofChange originReleasesOnceSpec)

/-- ITS FALSE NEIGHBOUR: 'it returns false'. Refute it at one input. -/
def originReleasesOnceWrong : ChangeSpec := { name := "originReleasesOnce", fn := fun _ => fun
  | [d1, d2] => { results := [.lit (.bool false)], args := [d1, d2] }
  | _ => none }
def OriginReleasesOnceWrongFalsely : Prop := originReleasesOnceRow.holds Tryd.pinned (OpenSpec.ofChange originReleasesOnceWrong)

/-- 'crossbarlaw16.OriginTones': WHATEVER THE INPUT: true; the input reads as it did. -/
def originTonesSpec : ChangeSpec := { name := "originTones", fn := fun _ => fun
  | [d1, d2] => { results := [.lit (.bool true)], args := [d1, d2] }
  | _ => none }
def originTonesRow : OpenClaim := { program := "ythknfclhkmehgaadoor", sum := "d04b75f1a088ba9767c381b3dc514506352decb0f5a7e197fa06b1240887f46c", func := "crossbar/crossbarlaw16.OriginTones", spec := "originTones", inPlace := ["internal/bytealg.IndexByteString", "internal/bytealg.IndexString"], unfollowed := true, recurses := true, named := ["unicode/utf8.first", "unicode/utf8.acceptRanges", "internal/bytealg.MaxLen"], plainKeys := false, apart := false, laid := [("unicode/utf8.acceptRanges", laid_unicode_utf8_acceptRanges), ("unicode/utf8.first", laid_unicode_utf8_first)] }
def OriginTonesSaid : Prop := originTonesRow.holds Tryd.pinned (OpenSpec.ofChange originTonesSpec)

/-- ITS FALSE NEIGHBOUR: 'it returns false'. Refute it at one input. -/
def originTonesWrong : ChangeSpec := { name := "originTones", fn := fun _ => fun
  | [d1, d2] => { results := [.lit (.bool false)], args := [d1, d2] }
  | _ => none }
def OriginTonesWrongFalsely : Prop := originTonesRow.holds Tryd.pinned (OpenSpec.ofChange originTonesWrong)

/-- 'crossbarlaw16.OriginStaysValid': WHATEVER THE INPUT: true; the input reads as it did. -/
def originStaysValidSpec : ChangeSpec := { name := "originStaysValid", fn := fun _ => fun
  | [d1, d2, d3, d4] => { results := [.lit (.bool true)], args := [d1, d2, d3, d4] }
  | _ => none }
def originStaysValidRow : OpenClaim := { program := "ythknfclhkmehgaadoor", sum := "d04b75f1a088ba9767c381b3dc514506352decb0f5a7e197fa06b1240887f46c", func := "crossbar/crossbarlaw16.OriginStaysValid", spec := "originStaysValid", inPlace := ["internal/bytealg.IndexByteString", "internal/bytealg.IndexString"], unfollowed := true, recurses := true, named := ["unicode/utf8.first", "unicode/utf8.acceptRanges", "internal/bytealg.MaxLen"], plainKeys := false, apart := false, laid := [("unicode/utf8.acceptRanges", laid_unicode_utf8_acceptRanges), ("unicode/utf8.first", laid_unicode_utf8_first)] }
def OriginStaysValidSaid : Prop := originStaysValidRow.holds Tryd.pinned (OpenSpec.ofChange originStaysValidSpec)

/-- ITS FALSE NEIGHBOUR: 'it returns false'. Refute it at one input. -/
def originStaysValidWrong : ChangeSpec := { name := "originStaysValid", fn := fun _ => fun
  | [d1, d2, d3, d4] => { results := [.lit (.bool false)], args := [d1, d2, d3, d4] }
  | _ => none }
def OriginStaysValidWrongFalsely : Prop := originStaysValidRow.holds Tryd.pinned (OpenSpec.ofChange originStaysValidWrong)

/-- 'crossbarlaw16.OriginTimeoutDecides': WHATEVER THE INPUT: true; the input reads as it did. -/
def originTimeoutDecidesSpec : ChangeSpec := { name := "originTimeoutDecides", fn := fun _ => fun
  | [d1, d2] => { results := [.lit (.bool true)], args := [d1, d2] }
  | _ => none }
def originTimeoutDecidesRow : OpenClaim := { program := "ythknfclhkmehgaadoor", sum := "d04b75f1a088ba9767c381b3dc514506352decb0f5a7e197fa06b1240887f46c", func := "crossbar/crossbarlaw16.OriginTimeoutDecides", spec := "originTimeoutDecides", inPlace := ["internal/bytealg.IndexByteString", "internal/bytealg.IndexString"], unfollowed := true, recurses := true, named := ["unicode/utf8.first", "unicode/utf8.acceptRanges", "internal/bytealg.MaxLen"], plainKeys := false, apart := false, laid := [("unicode/utf8.acceptRanges", laid_unicode_utf8_acceptRanges), ("unicode/utf8.first", laid_unicode_utf8_first)] }
def OriginTimeoutDecidesSaid : Prop := originTimeoutDecidesRow.holds Tryd.pinned (OpenSpec.ofChange originTimeoutDecidesSpec)

/-- ITS FALSE NEIGHBOUR: 'it returns false'. Refute it at one input. -/
def originTimeoutDecidesWrong : ChangeSpec := { name := "originTimeoutDecides", fn := fun _ => fun
  | [d1, d2] => { results := [.lit (.bool false)], args := [d1, d2] }
  | _ => none }
def OriginTimeoutDecidesWrongFalsely : Prop := originTimeoutDecidesRow.holds Tryd.pinned (OpenSpec.ofChange originTimeoutDecidesWrong)

/- THE SECOND FORM. 'bulk': how many values and letters a reading holds, each counted each time it is reached (what is shared counts as often as it is met; a slice's spare places count too). A statement '..UptoSaid' is the law's where the arguments, and the package variables that the reading takes, are together of bulk at most 1048576: NARROWER than '..Said'. Prove '..Said' where nothing that the law and all that it calls make is longer than what came in: it says more and counts as full. Else prove '..UptoSaid'. A law counts once. -/
mutual
def uptoBulk {H : Type} : DataW H → Nat
  | .lit (.string bytes) => bytes.length + 1
  | .lit _ => 1
  | .nil => 1
  | .ptr d => uptoBulk d + 1
  | .slice elems spare => uptoBulkAll elems + uptoBulkAll spare + 1
  | .agg parts => uptoBulkAll parts + 1
  | .iface _ d => uptoBulk d + 1
  | .map entries => uptoBulkEntries entries + 1
  | .held _ => 1
def uptoBulkAll {H : Type} : List (DataW H) → Nat
  | [] => 0
  | d :: r => uptoBulk d + uptoBulkAll r
def uptoBulkEntries {H : Type} : List (Lit × DataW H) → Nat
  | [] => 0
  | x :: r => uptoBulkEntry x + uptoBulkEntries r
def uptoBulkEntry {H : Type} : Lit × DataW H → Nat
  | (.string bytes, d) => bytes.length + uptoBulk d + 1
  | (_, d) => uptoBulk d + 1
 end
def uptoSmall : (H : Type) → List (DataW H) → Bool := fun _ ds => decide (uptoBulkAll ds ≤ 1048576)
def OpenSpec.upto (s : _root_.Go.ChangeSpec) : _root_.Go.OpenSpec := { _root_.Go.OpenSpec.ofChange s with cond := some uptoSmall }

/-- 'crossbarlaw08.DialplanUsesLongestPrefix', WHERE WHAT IT READS IS OF BULK AT MOST 1048576: true; the input reads as it did. -/
def dialplanUsesLongestPrefixUptoRow : OpenClaim := { program := "ythknfclhkmehgaadoor", sum := "d04b75f1a088ba9767c381b3dc514506352decb0f5a7e197fa06b1240887f46c", func := "crossbar/crossbarlaw08.DialplanUsesLongestPrefix", spec := "dialplanUsesLongestPrefix", inPlace := ["internal/bytealg.IndexByteString", "internal/bytealg.IndexString"], unfollowed := true, recurses := true, named := ["unicode/utf8.first", "unicode/utf8.acceptRanges", "internal/bytealg.MaxLen"], plainKeys := false, apart := false, laid := [("unicode/utf8.acceptRanges", laid_unicode_utf8_acceptRanges), ("unicode/utf8.first", laid_unicode_utf8_first)], narrowed := true }
def DialplanUsesLongestPrefixUptoSaid : Prop := dialplanUsesLongestPrefixUptoRow.holds Tryd.pinned (OpenSpec.upto dialplanUsesLongestPrefixSpec)

/-- 'crossbarlaw08.DialplanBarsNumbers', WHERE WHAT IT READS IS OF BULK AT MOST 1048576: true; the input reads as it did. -/
def dialplanBarsNumbersUptoRow : OpenClaim := { program := "ythknfclhkmehgaadoor", sum := "d04b75f1a088ba9767c381b3dc514506352decb0f5a7e197fa06b1240887f46c", func := "crossbar/crossbarlaw08.DialplanBarsNumbers", spec := "dialplanBarsNumbers", inPlace := ["internal/bytealg.IndexByteString", "internal/bytealg.IndexString"], unfollowed := true, recurses := true, named := ["unicode/utf8.first", "unicode/utf8.acceptRanges", "internal/bytealg.MaxLen"], plainKeys := false, apart := false, laid := [("unicode/utf8.acceptRanges", laid_unicode_utf8_acceptRanges), ("unicode/utf8.first", laid_unicode_utf8_first)], narrowed := true }
def DialplanBarsNumbersUptoSaid : Prop := dialplanBarsNumbersUptoRow.holds Tryd.pinned (OpenSpec.upto dialplanBarsNumbersSpec)

/-- 'crossbarlaw08.DialplanOrderIrrelevant', WHERE WHAT IT READS IS OF BULK AT MOST 1048576: true; the input reads as it did. -/
def dialplanOrderIrrelevantUptoRow : OpenClaim := { program := "ythknfclhkmehgaadoor", sum := "d04b75f1a088ba9767c381b3dc514506352decb0f5a7e197fa06b1240887f46c", func := "crossbar/crossbarlaw08.DialplanOrderIrrelevant", spec := "dialplanOrderIrrelevant", inPlace := ["internal/bytealg.IndexByteString", "internal/bytealg.IndexString"], unfollowed := true, recurses := true, named := ["unicode/utf8.first", "unicode/utf8.acceptRanges", "internal/bytealg.MaxLen"], plainKeys := false, apart := false, laid := [("unicode/utf8.acceptRanges", laid_unicode_utf8_acceptRanges), ("unicode/utf8.first", laid_unicode_utf8_first)], narrowed := true }
def DialplanOrderIrrelevantUptoSaid : Prop := dialplanOrderIrrelevantUptoRow.holds Tryd.pinned (OpenSpec.upto dialplanOrderIrrelevantSpec)

/-- 'crossbarlaw08.DialplanUnknownPrefix', WHERE WHAT IT READS IS OF BULK AT MOST 1048576: true; the input reads as it did. -/
def dialplanUnknownPrefixUptoRow : OpenClaim := { program := "ythknfclhkmehgaadoor", sum := "d04b75f1a088ba9767c381b3dc514506352decb0f5a7e197fa06b1240887f46c", func := "crossbar/crossbarlaw08.DialplanUnknownPrefix", spec := "dialplanUnknownPrefix", inPlace := ["internal/bytealg.IndexByteString", "internal/bytealg.IndexString"], unfollowed := true, recurses := true, named := ["unicode/utf8.first", "unicode/utf8.acceptRanges", "internal/bytealg.MaxLen"], plainKeys := false, apart := false, laid := [("unicode/utf8.acceptRanges", laid_unicode_utf8_acceptRanges), ("unicode/utf8.first", laid_unicode_utf8_first)], narrowed := true }
def DialplanUnknownPrefixUptoSaid : Prop := dialplanUnknownPrefixUptoRow.holds Tryd.pinned (OpenSpec.upto dialplanUnknownPrefixSpec)

/-- 'crossbarlaw16.OriginMatchesStep', WHERE WHAT IT READS IS OF BULK AT MOST 1048576: true; the input reads as it did. -/
def originMatchesStepUptoRow : OpenClaim := { program := "ythknfclhkmehgaadoor", sum := "d04b75f1a088ba9767c381b3dc514506352decb0f5a7e197fa06b1240887f46c", func := "crossbar/crossbarlaw16.OriginMatchesStep", spec := "originMatchesStep", inPlace := ["internal/bytealg.IndexByteString", "internal/bytealg.IndexString"], unfollowed := true, recurses := true, named := ["unicode/utf8.first", "unicode/utf8.acceptRanges", "internal/bytealg.MaxLen"], plainKeys := false, apart := false, laid := [("unicode/utf8.acceptRanges", laid_unicode_utf8_acceptRanges), ("unicode/utf8.first", laid_unicode_utf8_first)], narrowed := true }
def OriginMatchesStepUptoSaid : Prop := originMatchesStepUptoRow.holds Tryd.pinned (OpenSpec.upto originMatchesStepSpec)

/-- 'crossbarlaw16.OriginMatchesDial', WHERE WHAT IT READS IS OF BULK AT MOST 1048576: true; the input reads as it did. -/
def originMatchesDialUptoRow : OpenClaim := { program := "ythknfclhkmehgaadoor", sum := "d04b75f1a088ba9767c381b3dc514506352decb0f5a7e197fa06b1240887f46c", func := "crossbar/crossbarlaw16.OriginMatchesDial", spec := "originMatchesDial", inPlace := ["internal/bytealg.IndexByteString", "internal/bytealg.IndexString"], unfollowed := true, recurses := true, named := ["unicode/utf8.first", "unicode/utf8.acceptRanges", "internal/bytealg.MaxLen"], plainKeys := false, apart := false, laid := [("unicode/utf8.acceptRanges", laid_unicode_utf8_acceptRanges), ("unicode/utf8.first", laid_unicode_utf8_first)], narrowed := true }
def OriginMatchesDialUptoSaid : Prop := originMatchesDialUptoRow.holds Tryd.pinned (OpenSpec.upto originMatchesDialSpec)

/-- 'crossbarlaw16.OriginTimerRuns', WHERE WHAT IT READS IS OF BULK AT MOST 1048576: true; the input reads as it did. -/
def originTimerRunsUptoRow : OpenClaim := { program := "ythknfclhkmehgaadoor", sum := "d04b75f1a088ba9767c381b3dc514506352decb0f5a7e197fa06b1240887f46c", func := "crossbar/crossbarlaw16.OriginTimerRuns", spec := "originTimerRuns", inPlace := ["internal/bytealg.IndexByteString", "internal/bytealg.IndexString"], unfollowed := true, recurses := true, named := ["unicode/utf8.first", "unicode/utf8.acceptRanges", "internal/bytealg.MaxLen"], plainKeys := false, apart := false, laid := [("unicode/utf8.acceptRanges", laid_unicode_utf8_acceptRanges), ("unicode/utf8.first", laid_unicode_utf8_first)], narrowed := true }
def OriginTimerRunsUptoSaid : Prop := originTimerRunsUptoRow.holds Tryd.pinned (OpenSpec.upto originTimerRunsSpec)

/-- 'crossbarlaw16.OriginReleasesOnce', WHERE WHAT IT READS IS OF BULK AT MOST 1048576: true; the input reads as it did. -/
def originReleasesOnceUptoRow : OpenClaim := { program := "ythknfclhkmehgaadoor", sum := "d04b75f1a088ba9767c381b3dc514506352decb0f5a7e197fa06b1240887f46c", func := "crossbar/crossbarlaw16.OriginReleasesOnce", spec := "originReleasesOnce", inPlace := ["internal/bytealg.IndexByteString", "internal/bytealg.IndexString"], unfollowed := true, recurses := true, named := ["unicode/utf8.first", "unicode/utf8.acceptRanges", "internal/bytealg.MaxLen"], plainKeys := false, apart := false, laid := [("unicode/utf8.acceptRanges", laid_unicode_utf8_acceptRanges), ("unicode/utf8.first", laid_unicode_utf8_first)], narrowed := true }
def OriginReleasesOnceUptoSaid : Prop := originReleasesOnceUptoRow.holds Tryd.pinned (OpenSpec.upto originReleasesOnceSpec)

/-- 'crossbarlaw16.OriginTones', WHERE WHAT IT READS IS OF BULK AT MOST 1048576: true; the input reads as it did. -/
def originTonesUptoRow : OpenClaim := { program := "ythknfclhkmehgaadoor", sum := "d04b75f1a088ba9767c381b3dc514506352decb0f5a7e197fa06b1240887f46c", func := "crossbar/crossbarlaw16.OriginTones", spec := "originTones", inPlace := ["internal/bytealg.IndexByteString", "internal/bytealg.IndexString"], unfollowed := true, recurses := true, named := ["unicode/utf8.first", "unicode/utf8.acceptRanges", "internal/bytealg.MaxLen"], plainKeys := false, apart := false, laid := [("unicode/utf8.acceptRanges", laid_unicode_utf8_acceptRanges), ("unicode/utf8.first", laid_unicode_utf8_first)], narrowed := true }
def OriginTonesUptoSaid : Prop := originTonesUptoRow.holds Tryd.pinned (OpenSpec.upto originTonesSpec)

/-- 'crossbarlaw16.OriginStaysValid', WHERE WHAT IT READS IS OF BULK AT MOST 1048576: true; the input reads as it did. -/
def originStaysValidUptoRow : OpenClaim := { program := "ythknfclhkmehgaadoor", sum := "d04b75f1a088ba9767c381b3dc514506352decb0f5a7e197fa06b1240887f46c", func := "crossbar/crossbarlaw16.OriginStaysValid", spec := "originStaysValid", inPlace := ["internal/bytealg.IndexByteString", "internal/bytealg.IndexString"], unfollowed := true, recurses := true, named := ["unicode/utf8.first", "unicode/utf8.acceptRanges", "internal/bytealg.MaxLen"], plainKeys := false, apart := false, laid := [("unicode/utf8.acceptRanges", laid_unicode_utf8_acceptRanges), ("unicode/utf8.first", laid_unicode_utf8_first)], narrowed := true }
def OriginStaysValidUptoSaid : Prop := originStaysValidUptoRow.holds Tryd.pinned (OpenSpec.upto originStaysValidSpec)

/-- 'crossbarlaw16.OriginTimeoutDecides', WHERE WHAT IT READS IS OF BULK AT MOST 1048576: true; the input reads as it did. -/
def originTimeoutDecidesUptoRow : OpenClaim := { program := "ythknfclhkmehgaadoor", sum := "d04b75f1a088ba9767c381b3dc514506352decb0f5a7e197fa06b1240887f46c", func := "crossbar/crossbarlaw16.OriginTimeoutDecides", spec := "originTimeoutDecides", inPlace := ["internal/bytealg.IndexByteString", "internal/bytealg.IndexString"], unfollowed := true, recurses := true, named := ["unicode/utf8.first", "unicode/utf8.acceptRanges", "internal/bytealg.MaxLen"], plainKeys := false, apart := false, laid := [("unicode/utf8.acceptRanges", laid_unicode_utf8_acceptRanges), ("unicode/utf8.first", laid_unicode_utf8_first)], narrowed := true }
def OriginTimeoutDecidesUptoSaid : Prop := originTimeoutDecidesUptoRow.holds Tryd.pinned (OpenSpec.upto originTimeoutDecidesSpec)

end Rows
end Go.Proofs.YthknfclhkmehgaaDoor
