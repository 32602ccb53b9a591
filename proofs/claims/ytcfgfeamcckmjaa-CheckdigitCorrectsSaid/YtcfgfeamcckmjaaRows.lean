/-
  No cell of these rows narrows 'for every input' (looked for: loops, veiled, ifaces, maps, wideKeys, modest, calm, conditions, laid).
  DERIVED. THE GIVEN ROWS OF THIS SEAT. 9 by the template 'for every input the law returns true; each argument reads behind the call as it read before'; 0 by the template 'total and deterministic' (their statements: YtcfgfeamcckmjaaTotals.lean).
  GIVEN WITH THE SEED: the statements are not yours to turn. If you find one false, say at which input.
  Laid BY PROGRAM, IN A SANDBOX (cutbox-rows.mjs): the forced cells as the released guide's own fill.sh prints them over the translation 676e31cf8cf6dc35… (all of the seat's roots in one cut). By AI agents, Wed Nov 11 2026. No macro, syntax, notation, axiom, sorry.
-/
import Derived.Test.YtcfgfeamcckmjaaChecked
import GoSem.Claim
import GoSem.ClaimJoined
import GoSem.ClaimMapViews
import Derived.JoinedTies
import Derived.KernelRfl
namespace Go.Proofs.Ytcfgfeamcckmjaa
/- THE CELL 'sum', in the pinned program and in every row, IS THE sha256 OF THE DUMP (.gsa) THAT YtcfgfeamcckmjaaProg.lean LOADS. Nothing in Lean hashes anything: it is a label: what it is worth is what the hold of that sum in a sandbox is worth. -/
noncomputable def Try.pinned : Pinned := { name := "ytcfgfeamcckmjaa", sum := "676e31cf8cf6dc35c251a7228d4ddeb6b62d9a807e7278b35ffa5ac7db1f60c4", checked := Try.checked }
namespace Rows
def none {H : Type} : Left H := { results := [], args := [] }

/-- 'barscanlaw09.CheckdigitVerifies': WHATEVER THE INPUT: true; the input reads as it did. -/
def checkdigitVerifiesSpec : ChangeSpec := { name := "checkdigitVerifies", fn := fun _ => fun
  | [d1, d2] => { results := [.lit (.bool true)], args := [d1, d2] }
  | _ => none }
def checkdigitVerifiesRow : OpenClaim := { program := "ytcfgfeamcckmjaa", sum := "676e31cf8cf6dc35c251a7228d4ddeb6b62d9a807e7278b35ffa5ac7db1f60c4", func := "barscan/barscanlaw09.CheckdigitVerifies", spec := "checkdigitVerifies", inPlace := ["internal/bytealg.IndexByteString"], unfollowed := true, recurses := true, apart := false }
def CheckdigitVerifiesSaid : Prop := checkdigitVerifiesRow.holds Try.pinned (OpenSpec.ofChange checkdigitVerifiesSpec)

/-- ITS FALSE NEIGHBOUR: 'it returns false'. Refute it at one input. -/
def checkdigitVerifiesWrong : ChangeSpec := { name := "checkdigitVerifies", fn := fun _ => fun
  | [d1, d2] => { results := [.lit (.bool false)], args := [d1, d2] }
  | _ => none }
def CheckdigitVerifiesWrongFalsely : Prop := checkdigitVerifiesRow.holds Try.pinned (OpenSpec.ofChange checkdigitVerifiesWrong)

/-- 'barscanlaw09.CheckdigitWeighs': WHATEVER THE INPUT: true; the input reads as it did. -/
def checkdigitWeighsSpec : ChangeSpec := { name := "checkdigitWeighs", fn := fun _ => fun
  | [d1, d2, d3] => { results := [.lit (.bool true)], args := [d1, d2, d3] }
  | _ => none }
def checkdigitWeighsRow : OpenClaim := { program := "ytcfgfeamcckmjaa", sum := "676e31cf8cf6dc35c251a7228d4ddeb6b62d9a807e7278b35ffa5ac7db1f60c4", func := "barscan/barscanlaw09.CheckdigitWeighs", spec := "checkdigitWeighs", inPlace := ["internal/bytealg.IndexByteString"], unfollowed := true, recurses := true, apart := false }
def CheckdigitWeighsSaid : Prop := checkdigitWeighsRow.holds Try.pinned (OpenSpec.ofChange checkdigitWeighsSpec)

/-- ITS FALSE NEIGHBOUR: 'it returns false'. Refute it at one input. -/
def checkdigitWeighsWrong : ChangeSpec := { name := "checkdigitWeighs", fn := fun _ => fun
  | [d1, d2, d3] => { results := [.lit (.bool false)], args := [d1, d2, d3] }
  | _ => none }
def CheckdigitWeighsWrongFalsely : Prop := checkdigitWeighsRow.holds Try.pinned (OpenSpec.ofChange checkdigitWeighsWrong)

/-- 'barscanlaw09.CheckdigitCorrects': WHATEVER THE INPUT: true; the input reads as it did. -/
def checkdigitCorrectsSpec : ChangeSpec := { name := "checkdigitCorrects", fn := fun _ => fun
  | [d1, d2] => { results := [.lit (.bool true)], args := [d1, d2] }
  | _ => none }
def checkdigitCorrectsRow : OpenClaim := { program := "ytcfgfeamcckmjaa", sum := "676e31cf8cf6dc35c251a7228d4ddeb6b62d9a807e7278b35ffa5ac7db1f60c4", func := "barscan/barscanlaw09.CheckdigitCorrects", spec := "checkdigitCorrects", inPlace := ["internal/bytealg.IndexByteString"], unfollowed := true, recurses := true, apart := false }
def CheckdigitCorrectsSaid : Prop := checkdigitCorrectsRow.holds Try.pinned (OpenSpec.ofChange checkdigitCorrectsSpec)

/-- ITS FALSE NEIGHBOUR: 'it returns false'. Refute it at one input. -/
def checkdigitCorrectsWrong : ChangeSpec := { name := "checkdigitCorrects", fn := fun _ => fun
  | [d1, d2] => { results := [.lit (.bool false)], args := [d1, d2] }
  | _ => none }
def CheckdigitCorrectsWrongFalsely : Prop := checkdigitCorrectsRow.holds Try.pinned (OpenSpec.ofChange checkdigitCorrectsWrong)

/-- 'barscanlaw09.CheckdigitSums': WHATEVER THE INPUT: true; the input reads as it did. -/
def checkdigitSumsSpec : ChangeSpec := { name := "checkdigitSums", fn := fun _ => fun
  | [d] => { results := [.lit (.bool true)], args := [d] }
  | _ => none }
def checkdigitSumsRow : OpenClaim := { program := "ytcfgfeamcckmjaa", sum := "676e31cf8cf6dc35c251a7228d4ddeb6b62d9a807e7278b35ffa5ac7db1f60c4", func := "barscan/barscanlaw09.CheckdigitSums", spec := "checkdigitSums", inPlace := ["internal/bytealg.IndexByteString"], unfollowed := true, recurses := true, apart := false }
def CheckdigitSumsSaid : Prop := checkdigitSumsRow.holds Try.pinned (OpenSpec.ofChange checkdigitSumsSpec)

/-- ITS FALSE NEIGHBOUR: 'it returns false'. Refute it at one input. -/
def checkdigitSumsWrong : ChangeSpec := { name := "checkdigitSums", fn := fun _ => fun
  | [d] => { results := [.lit (.bool false)], args := [d] }
  | _ => none }
def CheckdigitSumsWrongFalsely : Prop := checkdigitSumsRow.holds Try.pinned (OpenSpec.ofChange checkdigitSumsWrong)

/-- 'barscanlaw09.CheckdigitLimits': WHATEVER THE INPUT: true; the input reads as it did. -/
def checkdigitLimitsSpec : ChangeSpec := { name := "checkdigitLimits", fn := fun _ => fun
  | [d1, d2] => { results := [.lit (.bool true)], args := [d1, d2] }
  | _ => none }
def checkdigitLimitsRow : OpenClaim := { program := "ytcfgfeamcckmjaa", sum := "676e31cf8cf6dc35c251a7228d4ddeb6b62d9a807e7278b35ffa5ac7db1f60c4", func := "barscan/barscanlaw09.CheckdigitLimits", spec := "checkdigitLimits", inPlace := ["internal/bytealg.IndexByteString"], unfollowed := true, recurses := true, apart := false }
def CheckdigitLimitsSaid : Prop := checkdigitLimitsRow.holds Try.pinned (OpenSpec.ofChange checkdigitLimitsSpec)

/-- ITS FALSE NEIGHBOUR: 'it returns false'. Refute it at one input. -/
def checkdigitLimitsWrong : ChangeSpec := { name := "checkdigitLimits", fn := fun _ => fun
  | [d1, d2] => { results := [.lit (.bool false)], args := [d1, d2] }
  | _ => none }
def CheckdigitLimitsWrongFalsely : Prop := checkdigitLimitsRow.holds Try.pinned (OpenSpec.ofChange checkdigitLimitsWrong)

/-- 'barscanlaw09.CheckdigitAccepts': WHATEVER THE INPUT: true; the input reads as it did. -/
def checkdigitAcceptsSpec : ChangeSpec := { name := "checkdigitAccepts", fn := fun _ => fun
  | [d1, d2, d3] => { results := [.lit (.bool true)], args := [d1, d2, d3] }
  | _ => none }
def checkdigitAcceptsRow : OpenClaim := { program := "ytcfgfeamcckmjaa", sum := "676e31cf8cf6dc35c251a7228d4ddeb6b62d9a807e7278b35ffa5ac7db1f60c4", func := "barscan/barscanlaw09.CheckdigitAccepts", spec := "checkdigitAccepts", inPlace := ["internal/bytealg.IndexByteString"], unfollowed := true, recurses := true, apart := false }
def CheckdigitAcceptsSaid : Prop := checkdigitAcceptsRow.holds Try.pinned (OpenSpec.ofChange checkdigitAcceptsSpec)

/-- ITS FALSE NEIGHBOUR: 'it returns false'. Refute it at one input. -/
def checkdigitAcceptsWrong : ChangeSpec := { name := "checkdigitAccepts", fn := fun _ => fun
  | [d1, d2, d3] => { results := [.lit (.bool false)], args := [d1, d2, d3] }
  | _ => none }
def CheckdigitAcceptsWrongFalsely : Prop := checkdigitAcceptsRow.holds Try.pinned (OpenSpec.ofChange checkdigitAcceptsWrong)

/-- 'barscanlaw09.CheckdigitDetects': WHATEVER THE INPUT: true; the input reads as it did. -/
def checkdigitDetectsSpec : ChangeSpec := { name := "checkdigitDetects", fn := fun _ => fun
  | [d1, d2, d3, d4] => { results := [.lit (.bool true)], args := [d1, d2, d3, d4] }
  | _ => none }
def checkdigitDetectsRow : OpenClaim := { program := "ytcfgfeamcckmjaa", sum := "676e31cf8cf6dc35c251a7228d4ddeb6b62d9a807e7278b35ffa5ac7db1f60c4", func := "barscan/barscanlaw09.CheckdigitDetects", spec := "checkdigitDetects", inPlace := ["internal/bytealg.IndexByteString"], unfollowed := true, recurses := true, apart := false }
def CheckdigitDetectsSaid : Prop := checkdigitDetectsRow.holds Try.pinned (OpenSpec.ofChange checkdigitDetectsSpec)

/-- ITS FALSE NEIGHBOUR: 'it returns false'. Refute it at one input. -/
def checkdigitDetectsWrong : ChangeSpec := { name := "checkdigitDetects", fn := fun _ => fun
  | [d1, d2, d3, d4] => { results := [.lit (.bool false)], args := [d1, d2, d3, d4] }
  | _ => none }
def CheckdigitDetectsWrongFalsely : Prop := checkdigitDetectsRow.holds Try.pinned (OpenSpec.ofChange checkdigitDetectsWrong)

/-- 'barscanlaw09.CheckdigitRestores': WHATEVER THE INPUT: true; the input reads as it did. -/
def checkdigitRestoresSpec : ChangeSpec := { name := "checkdigitRestores", fn := fun _ => fun
  | [d1, d2, d3, d4, d5] => { results := [.lit (.bool true)], args := [d1, d2, d3, d4, d5] }
  | _ => none }
def checkdigitRestoresRow : OpenClaim := { program := "ytcfgfeamcckmjaa", sum := "676e31cf8cf6dc35c251a7228d4ddeb6b62d9a807e7278b35ffa5ac7db1f60c4", func := "barscan/barscanlaw09.CheckdigitRestores", spec := "checkdigitRestores", inPlace := ["internal/bytealg.IndexByteString"], unfollowed := true, recurses := true, apart := false }
def CheckdigitRestoresSaid : Prop := checkdigitRestoresRow.holds Try.pinned (OpenSpec.ofChange checkdigitRestoresSpec)

/-- ITS FALSE NEIGHBOUR: 'it returns false'. Refute it at one input. -/
def checkdigitRestoresWrong : ChangeSpec := { name := "checkdigitRestores", fn := fun _ => fun
  | [d1, d2, d3, d4, d5] => { results := [.lit (.bool false)], args := [d1, d2, d3, d4, d5] }
  | _ => none }
def CheckdigitRestoresWrongFalsely : Prop := checkdigitRestoresRow.holds Try.pinned (OpenSpec.ofChange checkdigitRestoresWrong)

/-- 'barscanlaw09.CheckdigitComputes': WHATEVER THE INPUT: true; the input reads as it did. -/
def checkdigitComputesSpec : ChangeSpec := { name := "checkdigitComputes", fn := fun _ => fun
  | [d1, d2] => { results := [.lit (.bool true)], args := [d1, d2] }
  | _ => none }
def checkdigitComputesRow : OpenClaim := { program := "ytcfgfeamcckmjaa", sum := "676e31cf8cf6dc35c251a7228d4ddeb6b62d9a807e7278b35ffa5ac7db1f60c4", func := "barscan/barscanlaw09.CheckdigitComputes", spec := "checkdigitComputes", inPlace := ["internal/bytealg.IndexByteString"], unfollowed := true, recurses := true, apart := false }
def CheckdigitComputesSaid : Prop := checkdigitComputesRow.holds Try.pinned (OpenSpec.ofChange checkdigitComputesSpec)

/-- ITS FALSE NEIGHBOUR: 'it returns false'. Refute it at one input. -/
def checkdigitComputesWrong : ChangeSpec := { name := "checkdigitComputes", fn := fun _ => fun
  | [d1, d2] => { results := [.lit (.bool false)], args := [d1, d2] }
  | _ => none }
def CheckdigitComputesWrongFalsely : Prop := checkdigitComputesRow.holds Try.pinned (OpenSpec.ofChange checkdigitComputesWrong)

/- THE SECOND FORM. 'bulk': how many values and letters a reading holds, each counted each time it is reached (what is shared counts as often as it is met; a slice's spare places count too). A statement '..UptoSaid' is the law's where the arguments, and the package variables that the reading takes, are together of bulk at most 1048576: NARROWER than '..Said'. Prove '..Said' where nothing that the law and all that it calls make is longer than what came in: it says more and counts as full. Else prove '..UptoSaid'. A law counts once. -/
mutual
def uptoBulk {H : Type} : DataW H → Nat
  | .lit (.string bytes) => bytes.length + 1
  | .lit _ => 1
  | .nil => 1
  | .ptr d => uptoBulk d + 1
  | .slice elems spare => uptoBulkAll elems + uptoBulkAll spare + 1
  | .agg parts => uptoBulkAll parts + 1
  | .iface _ d => uptoBulk d + 1
  | .map entries => uptoBulkEntries entries + 1
  | .held _ => 1
def uptoBulkAll {H : Type} : List (DataW H) → Nat
  | [] => 0
  | d :: r => uptoBulk d + uptoBulkAll r
def uptoBulkEntries {H : Type} : List (Lit × DataW H) → Nat
  | [] => 0
  | x :: r => uptoBulkEntry x + uptoBulkEntries r
def uptoBulkEntry {H : Type} : Lit × DataW H → Nat
  | (.string bytes, d) => bytes.length + uptoBulk d + 1
  | (_, d) => uptoBulk d + 1
 end
def uptoSmall : (H : Type) → List (DataW H) → Bool := fun _ ds => decide (uptoBulkAll ds ≤ 1048576)
def OpenSpec.upto (s : _root_.Go.ChangeSpec) : _root_.Go.OpenSpec := { _root_.Go.OpenSpec.ofChange s with cond := some uptoSmall }

/-- 'barscanlaw09.CheckdigitVerifies', WHERE WHAT IT READS IS OF BULK AT MOST 1048576: true; the input reads as it did. -/
def checkdigitVerifiesUptoRow : OpenClaim := { program := "ytcfgfeamcckmjaa", sum := "676e31cf8cf6dc35c251a7228d4ddeb6b62d9a807e7278b35ffa5ac7db1f60c4", func := "barscan/barscanlaw09.CheckdigitVerifies", spec := "checkdigitVerifies", inPlace := ["internal/bytealg.IndexByteString"], unfollowed := true, recurses := true, apart := false, narrowed := true }
def CheckdigitVerifiesUptoSaid : Prop := checkdigitVerifiesUptoRow.holds Try.pinned (OpenSpec.upto checkdigitVerifiesSpec)

/-- 'barscanlaw09.CheckdigitWeighs', WHERE WHAT IT READS IS OF BULK AT MOST 1048576: true; the input reads as it did. -/
def checkdigitWeighsUptoRow : OpenClaim := { program := "ytcfgfeamcckmjaa", sum := "676e31cf8cf6dc35c251a7228d4ddeb6b62d9a807e7278b35ffa5ac7db1f60c4", func := "barscan/barscanlaw09.CheckdigitWeighs", spec := "checkdigitWeighs", inPlace := ["internal/bytealg.IndexByteString"], unfollowed := true, recurses := true, apart := false, narrowed := true }
def CheckdigitWeighsUptoSaid : Prop := checkdigitWeighsUptoRow.holds Try.pinned (OpenSpec.upto checkdigitWeighsSpec)

/-- 'barscanlaw09.CheckdigitCorrects', WHERE WHAT IT READS IS OF BULK AT MOST 1048576: true; the input reads as it did. -/
def checkdigitCorrectsUptoRow : OpenClaim := { program := "ytcfgfeamcckmjaa", sum := "676e31cf8cf6dc35c251a7228d4ddeb6b62d9a807e7278b35ffa5ac7db1f60c4", func := "barscan/barscanlaw09.CheckdigitCorrects", spec := "checkdigitCorrects", inPlace := ["internal/bytealg.IndexByteString"], unfollowed := true, recurses := true, apart := false, narrowed := true }
def CheckdigitCorrectsUptoSaid : Prop := checkdigitCorrectsUptoRow.holds Try.pinned (OpenSpec.upto checkdigitCorrectsSpec)

/-- 'barscanlaw09.CheckdigitSums', WHERE WHAT IT READS IS OF BULK AT MOST 1048576: true; the input reads as it did. -/
def checkdigitSumsUptoRow : OpenClaim := { program := "ytcfgfeamcckmjaa", sum := "676e31cf8cf6dc35c251a7228d4ddeb6b62d9a807e7278b35ffa5ac7db1f60c4", func := "barscan/barscanlaw09.CheckdigitSums", spec := "checkdigitSums", inPlace := ["internal/bytealg.IndexByteString"], unfollowed := true, recurses := true, apart := false, narrowed := true }
def CheckdigitSumsUptoSaid : Prop := checkdigitSumsUptoRow.holds Try.pinned (OpenSpec.upto checkdigitSumsSpec)

/-- 'barscanlaw09.CheckdigitLimits', WHERE WHAT IT READS IS OF BULK AT MOST 1048576: true; the input reads as it did. -/
def checkdigitLimitsUptoRow : OpenClaim := { program := "ytcfgfeamcckmjaa", sum := "676e31cf8cf6dc35c251a7228d4ddeb6b62d9a807e7278b35ffa5ac7db1f60c4", func := "barscan/barscanlaw09.CheckdigitLimits", spec := "checkdigitLimits", inPlace := ["internal/bytealg.IndexByteString"], unfollowed := true, recurses := true, apart := false, narrowed := true }
def CheckdigitLimitsUptoSaid : Prop := checkdigitLimitsUptoRow.holds Try.pinned (OpenSpec.upto checkdigitLimitsSpec)

/-- 'barscanlaw09.CheckdigitAccepts', WHERE WHAT IT READS IS OF BULK AT MOST 1048576: true; the input reads as it did. -/
def checkdigitAcceptsUptoRow : OpenClaim := { program := "ytcfgfeamcckmjaa", sum := "676e31cf8cf6dc35c251a7228d4ddeb6b62d9a807e7278b35ffa5ac7db1f60c4", func := "barscan/barscanlaw09.CheckdigitAccepts", spec := "checkdigitAccepts", inPlace := ["internal/bytealg.IndexByteString"], unfollowed := true, recurses := true, apart := false, narrowed := true }
def CheckdigitAcceptsUptoSaid : Prop := checkdigitAcceptsUptoRow.holds Try.pinned (OpenSpec.upto checkdigitAcceptsSpec)

/-- 'barscanlaw09.CheckdigitDetects', WHERE WHAT IT READS IS OF BULK AT MOST 1048576: true; the input reads as it did. -/
def checkdigitDetectsUptoRow : OpenClaim := { program := "ytcfgfeamcckmjaa", sum := "676e31cf8cf6dc35c251a7228d4ddeb6b62d9a807e7278b35ffa5ac7db1f60c4", func := "barscan/barscanlaw09.CheckdigitDetects", spec := "checkdigitDetects", inPlace := ["internal/bytealg.IndexByteString"], unfollowed := true, recurses := true, apart := false, narrowed := true }
def CheckdigitDetectsUptoSaid : Prop := checkdigitDetectsUptoRow.holds Try.pinned (OpenSpec.upto checkdigitDetectsSpec)

/-- 'barscanlaw09.CheckdigitRestores', WHERE WHAT IT READS IS OF BULK AT MOST 1048576: true; the input reads as it did. -/
def checkdigitRestoresUptoRow : OpenClaim := { program := "ytcfgfeamcckmjaa", sum := "676e31cf8cf6dc35c251a7228d4ddeb6b62d9a807e7278b35ffa5ac7db1f60c4", func := "barscan/barscanlaw09.CheckdigitRestores", spec := "checkdigitRestores", inPlace := ["internal/bytealg.IndexByteString"], unfollowed := true, recurses := true, apart := false, narrowed := true }
def CheckdigitRestoresUptoSaid : Prop := checkdigitRestoresUptoRow.holds Try.pinned (OpenSpec.upto checkdigitRestoresSpec)

/-- 'barscanlaw09.CheckdigitComputes', WHERE WHAT IT READS IS OF BULK AT MOST 1048576: true; the input reads as it did. -/
def checkdigitComputesUptoRow : OpenClaim := { program := "ytcfgfeamcckmjaa", sum := "676e31cf8cf6dc35c251a7228d4ddeb6b62d9a807e7278b35ffa5ac7db1f60c4", func := "barscan/barscanlaw09.CheckdigitComputes", spec := "checkdigitComputes", inPlace := ["internal/bytealg.IndexByteString"], unfollowed := true, recurses := true, apart := false, narrowed := true }
def CheckdigitComputesUptoSaid : Prop := checkdigitComputesUptoRow.holds Try.pinned (OpenSpec.upto checkdigitComputesSpec)

end Rows
end Go.Proofs.Ytcfgfeamcckmjaa
