/-
  NARROWER THAN 'FOR EVERY INPUT', by the rows' own cells (each row's printed sentence says how): StacktextNumerics: laid · StacktextLimits: laid · StacktextRoundTrip: laid · StacktextDigits: laid · StacktextMinimal: laid · StacktextJoins: laid · StacktextBounds: laid.
  DERIVED. THE GIVEN ROWS OF THIS SEAT. 7 by the template 'for every input the law returns true; each argument reads behind the call as it read before'; 0 by the template 'total and deterministic' (their statements: YtoadabodhdgdjaaDoorTotals.lean).
  GIVEN WITH THE SEED: the statements are not yours to turn. If you find one false, say at which input.
  Laid BY PROGRAM, IN A SANDBOX (cutbox-rows.mjs): the forced cells as the released guide's own fill.sh prints them over the translation 5d7f671cb8ada4af… (all of the seat's roots in one cut). By AI agents, Wed Nov 11 2026. No macro, syntax, notation, axiom, sorry.
-/
import Derived.Test.YtoadabodhdgdjaaDoorChecked
import GoSem.PinnedTables
import GoSem.Claim
import GoSem.ClaimJoined
import GoSem.ClaimMapViews
import Derived.JoinedTies
import Derived.KernelRfl
namespace Go.Proofs.YtoadabodhdgdjaaDoor
/- THE CELL 'sum', in the pinned program and in every row, IS THE sha256 OF THE DUMP (.gsa) THAT YtoadabodhdgdjaaDoorProg.lean LOADS. Nothing in Lean hashes anything: it is a label: what it is worth is what the hold of that sum in a sandbox is worth. -/
noncomputable def Tryd.pinned : Pinned := { name := "ytoadabodhdgdjaadoor", sum := "5d7f671cb8ada4af2ae59958e0561d93930d299b109a87697b1f837db3dcf8f7", checked := Tryd.checked }
namespace Rows
def none {H : Type} : Left H := { results := [], args := [] }

/- WHAT THE LISTED PACKAGE-LEVEL VARIABLES READ AS WHEN THE CALL BEGINS. Each datum BY PROGRAM (the guide's laid-datum.mjs) off the statement by which the dump's own 'gosem.cut.vars' lays the variable. In a bare row this is a premise. The card (YtoadabodhdgdjaaDoorCards.lean) ties it to the program's text. -/
def laid_unicode_utf8_acceptRanges {H : Type} : DataW H := .agg [.agg [.lit (.int .u8 128), .lit (.int .u8 191)], .agg [.lit (.int .u8 160), .lit (.int .u8 191)], .agg [.lit (.int .u8 128), .lit (.int .u8 159)], .agg [.lit (.int .u8 144), .lit (.int .u8 191)], .agg [.lit (.int .u8 128), .lit (.int .u8 143)], .agg [.lit (.int .u8 0), .lit (.int .u8 0)], .agg [.lit (.int .u8 0), .lit (.int .u8 0)], .agg [.lit (.int .u8 0), .lit (.int .u8 0)], .agg [.lit (.int .u8 0), .lit (.int .u8 0)], .agg [.lit (.int .u8 0), .lit (.int .u8 0)], .agg [.lit (.int .u8 0), .lit (.int .u8 0)], .agg [.lit (.int .u8 0), .lit (.int .u8 0)], .agg [.lit (.int .u8 0), .lit (.int .u8 0)], .agg [.lit (.int .u8 0), .lit (.int .u8 0)], .agg [.lit (.int .u8 0), .lit (.int .u8 0)], .agg [.lit (.int .u8 0), .lit (.int .u8 0)]]
/-- One of Go's own tables, pinned by name: the form's constant. -/
def laid_unicode_utf8_first : DataW Unit := Go.Pinned.utf8First

/-- 'barscanlaw29.StacktextNumerics': WHATEVER THE INPUT: true; the input reads as it did. -/
def stacktextNumericsSpec : ChangeSpec := { name := "stacktextNumerics", fn := fun _ => fun
  | [d1, d2] => { results := [.lit (.bool true)], args := [d1, d2] }
  | _ => none }
def stacktextNumericsRow : OpenClaim := { program := "ytoadabodhdgdjaadoor", sum := "5d7f671cb8ada4af2ae59958e0561d93930d299b109a87697b1f837db3dcf8f7", func := "barscan/barscanlaw29.StacktextNumerics", spec := "stacktextNumerics", inPlace := ["internal/bytealg.IndexByteString", "internal/bytealg.IndexString", "internal/abi.NoEscape"], unfollowed := true, recurses := true, named := ["unicode/utf8.first", "unicode/utf8.acceptRanges", "math/bits.overflowError", "internal/bytealg.MaxLen"], plainKeys := false, apart := false, laid := [("unicode/utf8.acceptRanges", laid_unicode_utf8_acceptRanges), ("unicode/utf8.first", laid_unicode_utf8_first)] }
def StacktextNumericsSaid : Prop := stacktextNumericsRow.holds Tryd.pinned (OpenSpec.ofChange stacktextNumericsSpec)

/-- ITS FALSE NEIGHBOUR: 'it returns false'. Refute it at one input. -/
def stacktextNumericsWrong : ChangeSpec := { name := "stacktextNumerics", fn := fun _ => fun
  | [d1, d2] => { results := [.lit (.bool false)], args := [d1, d2] }
  | _ => none }
def StacktextNumericsWrongFalsely : Prop := stacktextNumericsRow.holds Tryd.pinned (OpenSpec.ofChange stacktextNumericsWrong)

/-- 'barscanlaw29.StacktextLimits': WHATEVER THE INPUT: true; the input reads as it did. -/
def stacktextLimitsSpec : ChangeSpec := { name := "stacktextLimits", fn := fun _ => fun
  | [d] => { results := [.lit (.bool true)], args := [d] }
  | _ => none }
def stacktextLimitsRow : OpenClaim := { program := "ytoadabodhdgdjaadoor", sum := "5d7f671cb8ada4af2ae59958e0561d93930d299b109a87697b1f837db3dcf8f7", func := "barscan/barscanlaw29.StacktextLimits", spec := "stacktextLimits", inPlace := ["internal/bytealg.IndexByteString", "internal/bytealg.IndexString", "internal/abi.NoEscape"], unfollowed := true, recurses := true, named := ["unicode/utf8.first", "unicode/utf8.acceptRanges", "math/bits.overflowError", "internal/bytealg.MaxLen"], plainKeys := false, apart := false, laid := [("unicode/utf8.acceptRanges", laid_unicode_utf8_acceptRanges), ("unicode/utf8.first", laid_unicode_utf8_first)] }
def StacktextLimitsSaid : Prop := stacktextLimitsRow.holds Tryd.pinned (OpenSpec.ofChange stacktextLimitsSpec)

/-- ITS FALSE NEIGHBOUR: 'it returns false'. Refute it at one input. -/
def stacktextLimitsWrong : ChangeSpec := { name := "stacktextLimits", fn := fun _ => fun
  | [d] => { results := [.lit (.bool false)], args := [d] }
  | _ => none }
def StacktextLimitsWrongFalsely : Prop := stacktextLimitsRow.holds Tryd.pinned (OpenSpec.ofChange stacktextLimitsWrong)

/-- 'barscanlaw29.StacktextRoundTrip': WHATEVER THE INPUT: true; the input reads as it did. -/
def stacktextRoundTripSpec : ChangeSpec := { name := "stacktextRoundTrip", fn := fun _ => fun
  | [d] => { results := [.lit (.bool true)], args := [d] }
  | _ => none }
def stacktextRoundTripRow : OpenClaim := { program := "ytoadabodhdgdjaadoor", sum := "5d7f671cb8ada4af2ae59958e0561d93930d299b109a87697b1f837db3dcf8f7", func := "barscan/barscanlaw29.StacktextRoundTrip", spec := "stacktextRoundTrip", inPlace := ["internal/bytealg.IndexByteString", "internal/bytealg.IndexString", "internal/abi.NoEscape"], unfollowed := true, recurses := true, named := ["unicode/utf8.first", "unicode/utf8.acceptRanges", "math/bits.overflowError", "internal/bytealg.MaxLen"], plainKeys := false, apart := false, laid := [("unicode/utf8.acceptRanges", laid_unicode_utf8_acceptRanges), ("unicode/utf8.first", laid_unicode_utf8_first)] }
def StacktextRoundTripSaid : Prop := stacktextRoundTripRow.holds Tryd.pinned (OpenSpec.ofChange stacktextRoundTripSpec)

/-- ITS FALSE NEIGHBOUR: 'it returns false'. Refute it at one input. -/
def stacktextRoundTripWrong : ChangeSpec := { name := "stacktextRoundTrip", fn := fun _ => fun
  | [d] => { results := [.lit (.bool false)], args := [d] }
  | _ => none }
def StacktextRoundTripWrongFalsely : Prop := stacktextRoundTripRow.holds Tryd.pinned (OpenSpec.ofChange stacktextRoundTripWrong)

/-- 'barscanlaw29.StacktextDigits': WHATEVER THE INPUT: true; the input reads as it did. -/
def stacktextDigitsSpec : ChangeSpec := { name := "stacktextDigits", fn := fun _ => fun
  | [d1, d2] => { results := [.lit (.bool true)], args := [d1, d2] }
  | _ => none }
def stacktextDigitsRow : OpenClaim := { program := "ytoadabodhdgdjaadoor", sum := "5d7f671cb8ada4af2ae59958e0561d93930d299b109a87697b1f837db3dcf8f7", func := "barscan/barscanlaw29.StacktextDigits", spec := "stacktextDigits", inPlace := ["internal/bytealg.IndexByteString", "internal/bytealg.IndexString", "internal/abi.NoEscape"], unfollowed := true, recurses := true, named := ["unicode/utf8.first", "unicode/utf8.acceptRanges", "math/bits.overflowError", "internal/bytealg.MaxLen"], plainKeys := false, apart := false, laid := [("unicode/utf8.acceptRanges", laid_unicode_utf8_acceptRanges), ("unicode/utf8.first", laid_unicode_utf8_first)] }
def StacktextDigitsSaid : Prop := stacktextDigitsRow.holds Tryd.pinned (OpenSpec.ofChange stacktextDigitsSpec)

/-- ITS FALSE NEIGHBOUR: 'it returns false'. Refute it at one input. -/
def stacktextDigitsWrong : ChangeSpec := { name := "stacktextDigits", fn := fun _ => fun
  | [d1, d2] => { results := [.lit (.bool false)], args := [d1, d2] }
  | _ => none }
def StacktextDigitsWrongFalsely : Prop := stacktextDigitsRow.holds Tryd.pinned (OpenSpec.ofChange stacktextDigitsWrong)

/-- 'barscanlaw29.StacktextMinimal': WHATEVER THE INPUT: true; the input reads as it did. -/
def stacktextMinimalSpec : ChangeSpec := { name := "stacktextMinimal", fn := fun _ => fun
  | [d] => { results := [.lit (.bool true)], args := [d] }
  | _ => none }
def stacktextMinimalRow : OpenClaim := { program := "ytoadabodhdgdjaadoor", sum := "5d7f671cb8ada4af2ae59958e0561d93930d299b109a87697b1f837db3dcf8f7", func := "barscan/barscanlaw29.StacktextMinimal", spec := "stacktextMinimal", inPlace := ["internal/bytealg.IndexByteString", "internal/bytealg.IndexString", "internal/abi.NoEscape"], unfollowed := true, recurses := true, named := ["unicode/utf8.first", "unicode/utf8.acceptRanges", "math/bits.overflowError", "internal/bytealg.MaxLen"], plainKeys := false, apart := false, laid := [("unicode/utf8.acceptRanges", laid_unicode_utf8_acceptRanges), ("unicode/utf8.first", laid_unicode_utf8_first)] }
def StacktextMinimalSaid : Prop := stacktextMinimalRow.holds Tryd.pinned (OpenSpec.ofChange stacktextMinimalSpec)

/-- ITS FALSE NEIGHBOUR: 'it returns false'. Refute it at one input. -/
def stacktextMinimalWrong : ChangeSpec := { name := "stacktextMinimal", fn := fun _ => fun
  | [d] => { results := [.lit (.bool false)], args := [d] }
  | _ => none }
def StacktextMinimalWrongFalsely : Prop := stacktextMinimalRow.holds Tryd.pinned (OpenSpec.ofChange stacktextMinimalWrong)

/-- 'barscanlaw29.StacktextJoins': WHATEVER THE INPUT: true; the input reads as it did. -/
def stacktextJoinsSpec : ChangeSpec := { name := "stacktextJoins", fn := fun _ => fun
  | [d1, d2] => { results := [.lit (.bool true)], args := [d1, d2] }
  | _ => none }
def stacktextJoinsRow : OpenClaim := { program := "ytoadabodhdgdjaadoor", sum := "5d7f671cb8ada4af2ae59958e0561d93930d299b109a87697b1f837db3dcf8f7", func := "barscan/barscanlaw29.StacktextJoins", spec := "stacktextJoins", inPlace := ["internal/bytealg.IndexByteString", "internal/bytealg.IndexString", "internal/abi.NoEscape"], unfollowed := true, recurses := true, named := ["unicode/utf8.first", "unicode/utf8.acceptRanges", "math/bits.overflowError", "internal/bytealg.MaxLen"], plainKeys := false, apart := false, laid := [("unicode/utf8.acceptRanges", laid_unicode_utf8_acceptRanges), ("unicode/utf8.first", laid_unicode_utf8_first)] }
def StacktextJoinsSaid : Prop := stacktextJoinsRow.holds Tryd.pinned (OpenSpec.ofChange stacktextJoinsSpec)

/-- ITS FALSE NEIGHBOUR: 'it returns false'. Refute it at one input. -/
def stacktextJoinsWrong : ChangeSpec := { name := "stacktextJoins", fn := fun _ => fun
  | [d1, d2] => { results := [.lit (.bool false)], args := [d1, d2] }
  | _ => none }
def StacktextJoinsWrongFalsely : Prop := stacktextJoinsRow.holds Tryd.pinned (OpenSpec.ofChange stacktextJoinsWrong)

/-- 'barscanlaw29.StacktextBounds': WHATEVER THE INPUT: true; the input reads as it did. -/
def stacktextBoundsSpec : ChangeSpec := { name := "stacktextBounds", fn := fun _ => fun
  | [d] => { results := [.lit (.bool true)], args := [d] }
  | _ => none }
def stacktextBoundsRow : OpenClaim := { program := "ytoadabodhdgdjaadoor", sum := "5d7f671cb8ada4af2ae59958e0561d93930d299b109a87697b1f837db3dcf8f7", func := "barscan/barscanlaw29.StacktextBounds", spec := "stacktextBounds", inPlace := ["internal/bytealg.IndexByteString", "internal/bytealg.IndexString", "internal/abi.NoEscape"], unfollowed := true, recurses := true, named := ["unicode/utf8.first", "unicode/utf8.acceptRanges", "math/bits.overflowError", "internal/bytealg.MaxLen"], plainKeys := false, apart := false, laid := [("unicode/utf8.acceptRanges", laid_unicode_utf8_acceptRanges), ("unicode/utf8.first", laid_unicode_utf8_first)] }
def StacktextBoundsSaid : Prop := stacktextBoundsRow.holds Tryd.pinned (OpenSpec.ofChange stacktextBoundsSpec)

/-- ITS FALSE NEIGHBOUR: 'it returns false'. Refute it at one input. -/
def stacktextBoundsWrong : ChangeSpec := { name := "stacktextBounds", fn := fun _ => fun
  | [d] => { results := [.lit (.bool false)], args := [d] }
  | _ => none }
def StacktextBoundsWrongFalsely : Prop := stacktextBoundsRow.holds Tryd.pinned (OpenSpec.ofChange stacktextBoundsWrong)

/- THE SECOND FORM. 'bulk': how many values and letters a reading holds, each counted each time it is reached (what is shared counts as often as it is met; a slice's spare places count too). A statement '..UptoSaid' is the law's where the arguments, and the package variables that the reading takes, are together of bulk at most 1048576: NARROWER than '..Said'. Prove '..Said' where nothing that the law and all that it calls make is longer than what came in: it says more and counts as full. Else prove '..UptoSaid'. A law counts once. -/
mutual
def uptoBulk {H : Type} : DataW H → Nat
  | .lit (.string bytes) => bytes.length + 1
  | .lit _ => 1
  | .nil => 1
  | .ptr d => uptoBulk d + 1
  | .slice elems spare => uptoBulkAll elems + uptoBulkAll spare + 1
  | .agg parts => uptoBulkAll parts + 1
  | .iface _ d => uptoBulk d + 1
  | .map entries => uptoBulkEntries entries + 1
  | .held _ => 1
def uptoBulkAll {H : Type} : List (DataW H) → Nat
  | [] => 0
  | d :: r => uptoBulk d + uptoBulkAll r
def uptoBulkEntries {H : Type} : List (Lit × DataW H) → Nat
  | [] => 0
  | x :: r => uptoBulkEntry x + uptoBulkEntries r
def uptoBulkEntry {H : Type} : Lit × DataW H → Nat
  | (.string bytes, d) => bytes.length + uptoBulk d + 1
  | (_, d) => uptoBulk d + 1
 end
def uptoSmall : (H : Type) → List (DataW H) → Bool := fun _ ds => decide (uptoBulkAll ds ≤ 1048576)
def OpenSpec.upto (s : _root_.Go.ChangeSpec) : _root_.Go.OpenSpec := { _root_.Go.OpenSpec.ofChange s with cond := some uptoSmall }

/-- 'barscanlaw29.StacktextNumerics', WHERE WHAT IT READS IS OF BULK AT MOST 1048576: true; the input reads as it did. -/
def stacktextNumericsUptoRow : OpenClaim := { program := "ytoadabodhdgdjaadoor", sum := "5d7f671cb8ada4af2ae59958e0561d93930d299b109a87697b1f837db3dcf8f7", func := "barscan/barscanlaw29.StacktextNumerics", spec := "stacktextNumerics", inPlace := ["internal/bytealg.IndexByteString", "internal/bytealg.IndexString", "internal/abi.NoEscape"], unfollowed := true, recurses := true, named := ["unicode/utf8.first", "unicode/utf8.acceptRanges", "math/bits.overflowError", "internal/bytealg.MaxLen"], plainKeys := false, apart := false, laid := [("unicode/utf8.acceptRanges", laid_unicode_utf8_acceptRanges), ("unicode/utf8.first", laid_unicode_utf8_first)], narrowed := true }
def StacktextNumericsUptoSaid : Prop := stacktextNumericsUptoRow.holds Tryd.pinned (OpenSpec.upto stacktextNumericsSpec)

/-- 'barscanlaw29.StacktextLimits', WHERE WHAT IT READS IS OF BULK AT MOST 1048576: true; the input reads as it did. -/
def stacktextLimitsUptoRow : OpenClaim := { program := "ytoadabodhdgdjaadoor", sum := "5d7f671cb8ada4af2ae59958e0561d93930d299b109a87697b1f837db3dcf8f7", func := "barscan/barscanlaw29.StacktextLimits", spec := "stacktextLimits", inPlace := ["internal/bytealg.IndexByteString", "internal/bytealg.IndexString", "internal/abi.NoEscape"], unfollowed := true, recurses := true, named := ["unicode/utf8.first", "unicode/utf8.acceptRanges", "math/bits.overflowError", "internal/bytealg.MaxLen"], plainKeys := false, apart := false, laid := [("unicode/utf8.acceptRanges", laid_unicode_utf8_acceptRanges), ("unicode/utf8.first", laid_unicode_utf8_first)], narrowed := true }
def StacktextLimitsUptoSaid : Prop := stacktextLimitsUptoRow.holds Tryd.pinned (OpenSpec.upto stacktextLimitsSpec)

/-- 'barscanlaw29.StacktextRoundTrip', WHERE WHAT IT READS IS OF BULK AT MOST 1048576: true; the input reads as it did. -/
def stacktextRoundTripUptoRow : OpenClaim := { program := "ytoadabodhdgdjaadoor", sum := "5d7f671cb8ada4af2ae59958e0561d93930d299b109a87697b1f837db3dcf8f7", func := "barscan/barscanlaw29.StacktextRoundTrip", spec := "stacktextRoundTrip", inPlace := ["internal/bytealg.IndexByteString", "internal/bytealg.IndexString", "internal/abi.NoEscape"], unfollowed := true, recurses := true, named := ["unicode/utf8.first", "unicode/utf8.acceptRanges", "math/bits.overflowError", "internal/bytealg.MaxLen"], plainKeys := false, apart := false, laid := [("unicode/utf8.acceptRanges", laid_unicode_utf8_acceptRanges), ("unicode/utf8.first", laid_unicode_utf8_first)], narrowed := true }
def StacktextRoundTripUptoSaid : Prop := stacktextRoundTripUptoRow.holds Tryd.pinned (OpenSpec.upto stacktextRoundTripSpec)

/-- 'barscanlaw29.StacktextDigits', WHERE WHAT IT READS IS OF BULK AT MOST 1048576: true; the input reads as it did. -/
def stacktextDigitsUptoRow : OpenClaim := { program := "ytoadabodhdgdjaadoor", sum := "5d7f671cb8ada4af2ae59958e0561d93930d299b109a87697b1f837db3dcf8f7", func := "barscan/barscanlaw29.StacktextDigits", spec := "stacktextDigits", inPlace := ["internal/bytealg.IndexByteString", "internal/bytealg.IndexString", "internal/abi.NoEscape"], unfollowed := true, recurses := true, named := ["unicode/utf8.first", "unicode/utf8.acceptRanges", "math/bits.overflowError", "internal/bytealg.MaxLen"], plainKeys := false, apart := false, laid := [("unicode/utf8.acceptRanges", laid_unicode_utf8_acceptRanges), ("unicode/utf8.first", laid_unicode_utf8_first)], narrowed := true }
def StacktextDigitsUptoSaid : Prop := stacktextDigitsUptoRow.holds Tryd.pinned (OpenSpec.upto stacktextDigitsSpec)

/-- 'barscanlaw29.StacktextMinimal', WHERE WHAT IT READS IS OF BULK AT MOST 1048576: true; the input reads as it did. -/
def stacktextMinimalUptoRow : OpenClaim := { program := "ytoadabodhdgdjaadoor", sum := "5d7f671cb8ada4af2ae59958e0561d93930d299b109a87697b1f837db3dcf8f7", func := "barscan/barscanlaw29.StacktextMinimal", spec := "stacktextMinimal", inPlace := ["internal/bytealg.IndexByteString", "internal/bytealg.IndexString", "internal/abi.NoEscape"], unfollowed := true, recurses := true, named := ["unicode/utf8.first", "unicode/utf8.acceptRanges", "math/bits.overflowError", "internal/bytealg.MaxLen"], plainKeys := false, apart := false, laid := [("unicode/utf8.acceptRanges", laid_unicode_utf8_acceptRanges), ("unicode/utf8.first", laid_unicode_utf8_first)], narrowed := true }
def StacktextMinimalUptoSaid : Prop := stacktextMinimalUptoRow.holds Tryd.pinned (OpenSpec.upto stacktextMinimalSpec)

/-- 'barscanlaw29.StacktextJoins', WHERE WHAT IT READS IS OF BULK AT MOST 1048576: true; the input reads as it did. -/
def stacktextJoinsUptoRow : OpenClaim := { program := "ytoadabodhdgdjaadoor", sum := "5d7f671cb8ada4af2ae59958e0561d93930d299b109a87697b1f837db3dcf8f7", func := "barscan/barscanlaw29.StacktextJoins", spec := "stacktextJoins", inPlace := ["internal/bytealg.IndexByteString", "internal/bytealg.IndexString", "internal/abi.NoEscape"], unfollowed := true, recurses := true, named := ["unicode/utf8.first", "unicode/utf8.acceptRanges", "math/bits.overflowError", "internal/bytealg.MaxLen"], plainKeys := false, apart := false, laid := [("unicode/utf8.acceptRanges", laid_unicode_utf8_acceptRanges), ("unicode/utf8.first", laid_unicode_utf8_first)], narrowed := true }
def StacktextJoinsUptoSaid : Prop := stacktextJoinsUptoRow.holds Tryd.pinned (OpenSpec.upto stacktextJoinsSpec)

/-- 'barscanlaw29.StacktextBounds', WHERE WHAT IT READS IS OF BULK AT MOST 1048576: true; the input reads as it did. -/
def stacktextBoundsUptoRow : OpenClaim := { program := "ytoadabodhdgdjaadoor", sum := "5d7f671cb8ada4af2ae59958e0561d93930d299b109a87697b1f837db3dcf8f7", func := "barscan/barscanlaw29.StacktextBounds", spec := "stacktextBounds", inPlace := ["internal/bytealg.IndexByteString", "internal/bytealg.IndexString", "internal/abi.NoEscape"], unfollowed := true, recurses := true, named := ["unicode/utf8.first", "unicode/utf8.acceptRanges", "math/bits.overflowError", "internal/bytealg.MaxLen"], plainKeys := false, apart := false, laid := [("unicode/utf8.acceptRanges", laid_unicode_utf8_acceptRanges), ("unicode/utf8.first", laid_unicode_utf8_first)], narrowed := true }
def StacktextBoundsUptoSaid : Prop := stacktextBoundsUptoRow.holds Tryd.pinned (OpenSpec.upto stacktextBoundsSpec)

end Rows
end Go.Proofs.YtoadabodhdgdjaaDoor
