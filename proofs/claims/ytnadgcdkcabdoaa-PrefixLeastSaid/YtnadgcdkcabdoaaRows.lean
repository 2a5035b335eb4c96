/-
  No cell of these rows narrows 'for every input' (looked for: loops, veiled, ifaces, maps, wideKeys, modest, calm, conditions, laid).
  DERIVED. THE GIVEN ROWS OF THIS SEAT. 11 by the template 'for every input the law returns true; each argument reads behind the call as it read before'; 0 by the template 'total and deterministic' (their statements: YtnadgcdkcabdoaaTotals.lean).
  GIVEN WITH THE SEED: the statements are not yours to turn. If you find one false, say at which input.
  Laid BY PROGRAM, IN A SANDBOX (cutbox-rows.mjs): the forced cells as the released guide's own fill.sh prints them over the translation eabd002486ee9f0f… (all of the seat's roots in one cut). By AI agents, Wed Nov 11 2026. No macro, syntax, notation, axiom, sorry.
-/
import Derived.Test.YtnadgcdkcabdoaaChecked
import GoSem.Claim
import GoSem.ClaimJoined
import GoSem.ClaimMapViews
import Derived.JoinedTies
import Derived.KernelRfl
namespace Go.Proofs.Ytnadgcdkcabdoaa
/- THE CELL 'sum', in the pinned program and in every row, IS THE sha256 OF THE DUMP (.gsa) THAT YtnadgcdkcabdoaaProg.lean LOADS. Nothing in Lean hashes anything: it is a label: what it is worth is what the hold of that sum in a sandbox is worth. -/
noncomputable def Try.pinned : Pinned := { name := "ytnadgcdkcabdoaa", sum := "eabd002486ee9f0f722a6ca575f4693c1f86b911aa0b925ebabedd30e2876abf", checked := Try.checked }
namespace Rows
def none {H : Type} : Left H := { results := [], args := [] }

/-- 'incunablelaw04.PrefixLengths': WHATEVER THE INPUT: true; the input reads as it did. -/
def prefixLengthsSpec : ChangeSpec := { name := "prefixLengths", fn := fun _ => fun
  | [d1, d2] => { results := [.lit (.bool true)], args := [d1, d2] }
  | _ => none }
def prefixLengthsRow : OpenClaim := { program := "ytnadgcdkcabdoaa", sum := "eabd002486ee9f0f722a6ca575f4693c1f86b911aa0b925ebabedd30e2876abf", func := "incunable/incunablelaw04.PrefixLengths", spec := "prefixLengths", plainKeys := false, apart := false }
def PrefixLengthsSaid : Prop := prefixLengthsRow.holds Try.pinned (OpenSpec.ofChange prefixLengthsSpec)

/-- ITS FALSE NEIGHBOUR: 'it returns false'. Refute it at one input. -/
def prefixLengthsWrong : ChangeSpec := { name := "prefixLengths", fn := fun _ => fun
  | [d1, d2] => { results := [.lit (.bool false)], args := [d1, d2] }
  | _ => none }
def PrefixLengthsWrongFalsely : Prop := prefixLengthsRow.holds Try.pinned (OpenSpec.ofChange prefixLengthsWrong)

/-- 'incunablelaw04.PrefixLeast': WHATEVER THE INPUT: true; the input reads as it did. -/
def prefixLeastSpec : ChangeSpec := { name := "prefixLeast", fn := fun _ => fun
  | [d1, d2] => { results := [.lit (.bool true)], args := [d1, d2] }
  | _ => none }
def prefixLeastRow : OpenClaim := { program := "ytnadgcdkcabdoaa", sum := "eabd002486ee9f0f722a6ca575f4693c1f86b911aa0b925ebabedd30e2876abf", func := "incunable/incunablelaw04.PrefixLeast", spec := "prefixLeast", plainKeys := false, apart := false }
def PrefixLeastSaid : Prop := prefixLeastRow.holds Try.pinned (OpenSpec.ofChange prefixLeastSpec)

/-- ITS FALSE NEIGHBOUR: 'it returns false'. Refute it at one input. -/
def prefixLeastWrong : ChangeSpec := { name := "prefixLeast", fn := fun _ => fun
  | [d1, d2] => { results := [.lit (.bool false)], args := [d1, d2] }
  | _ => none }
def PrefixLeastWrongFalsely : Prop := prefixLeastRow.holds Try.pinned (OpenSpec.ofChange prefixLeastWrong)

/-- 'incunablelaw04.PrefixTables': WHATEVER THE INPUT: true; the input reads as it did. -/
def prefixTablesSpec : ChangeSpec := { name := "prefixTables", fn := fun _ => fun
  | [d] => { results := [.lit (.bool true)], args := [d] }
  | _ => none }
def prefixTablesRow : OpenClaim := { program := "ytnadgcdkcabdoaa", sum := "eabd002486ee9f0f722a6ca575f4693c1f86b911aa0b925ebabedd30e2876abf", func := "incunable/incunablelaw04.PrefixTables", spec := "prefixTables", plainKeys := false, apart := false }
def PrefixTablesSaid : Prop := prefixTablesRow.holds Try.pinned (OpenSpec.ofChange prefixTablesSpec)

/-- ITS FALSE NEIGHBOUR: 'it returns false'. Refute it at one input. -/
def prefixTablesWrong : ChangeSpec := { name := "prefixTables", fn := fun _ => fun
  | [d] => { results := [.lit (.bool false)], args := [d] }
  | _ => none }
def PrefixTablesWrongFalsely : Prop := prefixTablesRow.holds Try.pinned (OpenSpec.ofChange prefixTablesWrong)

/-- 'incunablelaw04.PrefixStandard': WHATEVER THE INPUT: true; the input reads as it did. -/
def prefixStandardSpec : ChangeSpec := { name := "prefixStandard", fn := fun _ => fun
  | [d] => { results := [.lit (.bool true)], args := [d] }
  | _ => none }
def prefixStandardRow : OpenClaim := { program := "ytnadgcdkcabdoaa", sum := "eabd002486ee9f0f722a6ca575f4693c1f86b911aa0b925ebabedd30e2876abf", func := "incunable/incunablelaw04.PrefixStandard", spec := "prefixStandard", plainKeys := false, apart := false }
def PrefixStandardSaid : Prop := prefixStandardRow.holds Try.pinned (OpenSpec.ofChange prefixStandardSpec)

/-- ITS FALSE NEIGHBOUR: 'it returns false'. Refute it at one input. -/
def prefixStandardWrong : ChangeSpec := { name := "prefixStandard", fn := fun _ => fun
  | [d] => { results := [.lit (.bool false)], args := [d] }
  | _ => none }
def PrefixStandardWrongFalsely : Prop := prefixStandardRow.holds Try.pinned (OpenSpec.ofChange prefixStandardWrong)

/-- 'incunablelaw04.PrefixCodes': WHATEVER THE INPUT: true; the input reads as it did. -/
def prefixCodesSpec : ChangeSpec := { name := "prefixCodes", fn := fun _ => fun
  | [d] => { results := [.lit (.bool true)], args := [d] }
  | _ => none }
def prefixCodesRow : OpenClaim := { program := "ytnadgcdkcabdoaa", sum := "eabd002486ee9f0f722a6ca575f4693c1f86b911aa0b925ebabedd30e2876abf", func := "incunable/incunablelaw04.PrefixCodes", spec := "prefixCodes", plainKeys := false, apart := false }
def PrefixCodesSaid : Prop := prefixCodesRow.holds Try.pinned (OpenSpec.ofChange prefixCodesSpec)

/-- ITS FALSE NEIGHBOUR: 'it returns false'. Refute it at one input. -/
def prefixCodesWrong : ChangeSpec := { name := "prefixCodes", fn := fun _ => fun
  | [d] => { results := [.lit (.bool false)], args := [d] }
  | _ => none }
def PrefixCodesWrongFalsely : Prop := prefixCodesRow.holds Try.pinned (OpenSpec.ofChange prefixCodesWrong)

/-- 'incunablelaw04.PrefixBits': WHATEVER THE INPUT: true; the input reads as it did. -/
def prefixBitsSpec : ChangeSpec := { name := "prefixBits", fn := fun _ => fun
  | [d1, d2] => { results := [.lit (.bool true)], args := [d1, d2] }
  | _ => none }
def prefixBitsRow : OpenClaim := { program := "ytnadgcdkcabdoaa", sum := "eabd002486ee9f0f722a6ca575f4693c1f86b911aa0b925ebabedd30e2876abf", func := "incunable/incunablelaw04.PrefixBits", spec := "prefixBits", plainKeys := false, apart := false }
def PrefixBitsSaid : Prop := prefixBitsRow.holds Try.pinned (OpenSpec.ofChange prefixBitsSpec)

/-- ITS FALSE NEIGHBOUR: 'it returns false'. Refute it at one input. -/
def prefixBitsWrong : ChangeSpec := { name := "prefixBits", fn := fun _ => fun
  | [d1, d2] => { results := [.lit (.bool false)], args := [d1, d2] }
  | _ => none }
def PrefixBitsWrongFalsely : Prop := prefixBitsRow.holds Try.pinned (OpenSpec.ofChange prefixBitsWrong)

/-- 'incunablelaw04.PrefixEncodes': WHATEVER THE INPUT: true; the input reads as it did. -/
def prefixEncodesSpec : ChangeSpec := { name := "prefixEncodes", fn := fun _ => fun
  | [d1, d2] => { results := [.lit (.bool true)], args := [d1, d2] }
  | _ => none }
def prefixEncodesRow : OpenClaim := { program := "ytnadgcdkcabdoaa", sum := "eabd002486ee9f0f722a6ca575f4693c1f86b911aa0b925ebabedd30e2876abf", func := "incunable/incunablelaw04.PrefixEncodes", spec := "prefixEncodes", plainKeys := false, apart := false }
def PrefixEncodesSaid : Prop := prefixEncodesRow.holds Try.pinned (OpenSpec.ofChange prefixEncodesSpec)

/-- ITS FALSE NEIGHBOUR: 'it returns false'. Refute it at one input. -/
def prefixEncodesWrong : ChangeSpec := { name := "prefixEncodes", fn := fun _ => fun
  | [d1, d2] => { results := [.lit (.bool false)], args := [d1, d2] }
  | _ => none }
def PrefixEncodesWrongFalsely : Prop := prefixEncodesRow.holds Try.pinned (OpenSpec.ofChange prefixEncodesWrong)

/-- 'incunablelaw04.PrefixDecodes': WHATEVER THE INPUT: true; the input reads as it did. -/
def prefixDecodesSpec : ChangeSpec := { name := "prefixDecodes", fn := fun _ => fun
  | [d1, d2, d3] => { results := [.lit (.bool true)], args := [d1, d2, d3] }
  | _ => none }
def prefixDecodesRow : OpenClaim := { program := "ytnadgcdkcabdoaa", sum := "eabd002486ee9f0f722a6ca575f4693c1f86b911aa0b925ebabedd30e2876abf", func := "incunable/incunablelaw04.PrefixDecodes", spec := "prefixDecodes", plainKeys := false, apart := false }
def PrefixDecodesSaid : Prop := prefixDecodesRow.holds Try.pinned (OpenSpec.ofChange prefixDecodesSpec)

/-- ITS FALSE NEIGHBOUR: 'it returns false'. Refute it at one input. -/
def prefixDecodesWrong : ChangeSpec := { name := "prefixDecodes", fn := fun _ => fun
  | [d1, d2, d3] => { results := [.lit (.bool false)], args := [d1, d2, d3] }
  | _ => none }
def PrefixDecodesWrongFalsely : Prop := prefixDecodesRow.holds Try.pinned (OpenSpec.ofChange prefixDecodesWrong)

/-- 'incunablelaw04.PrefixComplete': WHATEVER THE INPUT: true; the input reads as it did. -/
def prefixCompleteSpec : ChangeSpec := { name := "prefixComplete", fn := fun _ => fun
  | [d1, d2, d3] => { results := [.lit (.bool true)], args := [d1, d2, d3] }
  | _ => none }
def prefixCompleteRow : OpenClaim := { program := "ytnadgcdkcabdoaa", sum := "eabd002486ee9f0f722a6ca575f4693c1f86b911aa0b925ebabedd30e2876abf", func := "incunable/incunablelaw04.PrefixComplete", spec := "prefixComplete", plainKeys := false, apart := false }
def PrefixCompleteSaid : Prop := prefixCompleteRow.holds Try.pinned (OpenSpec.ofChange prefixCompleteSpec)

/-- ITS FALSE NEIGHBOUR: 'it returns false'. Refute it at one input. -/
def prefixCompleteWrong : ChangeSpec := { name := "prefixComplete", fn := fun _ => fun
  | [d1, d2, d3] => { results := [.lit (.bool false)], args := [d1, d2, d3] }
  | _ => none }
def PrefixCompleteWrongFalsely : Prop := prefixCompleteRow.holds Try.pinned (OpenSpec.ofChange prefixCompleteWrong)

/-- 'incunablelaw04.PrefixBack': WHATEVER THE INPUT: true; the input reads as it did. -/
def prefixBackSpec : ChangeSpec := { name := "prefixBack", fn := fun _ => fun
  | [d1, d2, d3] => { results := [.lit (.bool true)], args := [d1, d2, d3] }
  | _ => none }
def prefixBackRow : OpenClaim := { program := "ytnadgcdkcabdoaa", sum := "eabd002486ee9f0f722a6ca575f4693c1f86b911aa0b925ebabedd30e2876abf", func := "incunable/incunablelaw04.PrefixBack", spec := "prefixBack", plainKeys := false, apart := false }
def PrefixBackSaid : Prop := prefixBackRow.holds Try.pinned (OpenSpec.ofChange prefixBackSpec)

/-- ITS FALSE NEIGHBOUR: 'it returns false'. Refute it at one input. -/
def prefixBackWrong : ChangeSpec := { name := "prefixBack", fn := fun _ => fun
  | [d1, d2, d3] => { results := [.lit (.bool false)], args := [d1, d2, d3] }
  | _ => none }
def PrefixBackWrongFalsely : Prop := prefixBackRow.holds Try.pinned (OpenSpec.ofChange prefixBackWrong)

/-- 'incunablelaw04.PrefixOwn': WHATEVER THE INPUT: true; the input reads as it did. -/
def prefixOwnSpec : ChangeSpec := { name := "prefixOwn", fn := fun _ => fun
  | [d] => { results := [.lit (.bool true)], args := [d] }
  | _ => none }
def prefixOwnRow : OpenClaim := { program := "ytnadgcdkcabdoaa", sum := "eabd002486ee9f0f722a6ca575f4693c1f86b911aa0b925ebabedd30e2876abf", func := "incunable/incunablelaw04.PrefixOwn", spec := "prefixOwn", unfollowed := true, recurses := true, plainKeys := false, apart := false }
def PrefixOwnSaid : Prop := prefixOwnRow.holds Try.pinned (OpenSpec.ofChange prefixOwnSpec)

/-- ITS FALSE NEIGHBOUR: 'it returns false'. Refute it at one input. -/
def prefixOwnWrong : ChangeSpec := { name := "prefixOwn", fn := fun _ => fun
  | [d] => { results := [.lit (.bool false)], args := [d] }
  | _ => none }
def PrefixOwnWrongFalsely : Prop := prefixOwnRow.holds Try.pinned (OpenSpec.ofChange prefixOwnWrong)

/- THE SECOND FORM. 'bulk': how many values and letters a reading holds, each counted each time it is reached (what is shared counts as often as it is met; a slice's spare places count too). A statement '..UptoSaid' is the law's where the arguments, and the package variables that the reading takes, are together of bulk at most 1048576: NARROWER than '..Said'. Prove '..Said' where nothing that the law and all that it calls make is longer than what came in: it says more and counts as full. Else prove '..UptoSaid'. A law counts once. -/
mutual
def uptoBulk {H : Type} : DataW H → Nat
  | .lit (.string bytes) => bytes.length + 1
  | .lit _ => 1
  | .nil => 1
  | .ptr d => uptoBulk d + 1
  | .slice elems spare => uptoBulkAll elems + uptoBulkAll spare + 1
  | .agg parts => uptoBulkAll parts + 1
  | .iface _ d => uptoBulk d + 1
  | .map entries => uptoBulkEntries entries + 1
  | .held _ => 1
def uptoBulkAll {H : Type} : List (DataW H) → Nat
  | [] => 0
  | d :: r => uptoBulk d + uptoBulkAll r
def uptoBulkEntries {H : Type} : List (Lit × DataW H) → Nat
  | [] => 0
  | x :: r => uptoBulkEntry x + uptoBulkEntries r
def uptoBulkEntry {H : Type} : Lit × DataW H → Nat
  | (.string bytes, d) => bytes.length + uptoBulk d + 1
  | (_, d) => uptoBulk d + 1
 end
def uptoSmall : (H : Type) → List (DataW H) → Bool := fun _ ds => decide (uptoBulkAll ds ≤ 1048576)
def OpenSpec.upto (s : _root_.Go.ChangeSpec) : _root_.Go.OpenSpec := { _root_.Go.OpenSpec.ofChange s with cond := some uptoSmall }

/-- 'incunablelaw04.PrefixLengths', WHERE WHAT IT READS IS OF BULK AT MOST 1048576: true; the input reads as it did. -/
def prefixLengthsUptoRow : OpenClaim := { program := "ytnadgcdkcabdoaa", sum := "eabd002486ee9f0f722a6ca575f4693c1f86b911aa0b925ebabedd30e2876abf", func := "incunable/incunablelaw04.PrefixLengths", spec := "prefixLengths", plainKeys := false, apart := false, narrowed := true }
def PrefixLengthsUptoSaid : Prop := prefixLengthsUptoRow.holds Try.pinned (OpenSpec.upto prefixLengthsSpec)

/-- 'incunablelaw04.PrefixLeast', WHERE WHAT IT READS IS OF BULK AT MOST 1048576: true; the input reads as it did. -/
def prefixLeastUptoRow : OpenClaim := { program := "ytnadgcdkcabdoaa", sum := "eabd002486ee9f0f722a6ca575f4693c1f86b911aa0b925ebabedd30e2876abf", func := "incunable/incunablelaw04.PrefixLeast", spec := "prefixLeast", plainKeys := false, apart := false, narrowed := true }
def PrefixLeastUptoSaid : Prop := prefixLeastUptoRow.holds Try.pinned (OpenSpec.upto prefixLeastSpec)

/-- 'incunablelaw04.PrefixTables', WHERE WHAT IT READS IS OF BULK AT MOST 1048576: true; the input reads as it did. -/
def prefixTablesUptoRow : OpenClaim := { program := "ytnadgcdkcabdoaa", sum := "eabd002486ee9f0f722a6ca575f4693c1f86b911aa0b925ebabedd30e2876abf", func := "incunable/incunablelaw04.PrefixTables", spec := "prefixTables", plainKeys := false, apart := false, narrowed := true }
def PrefixTablesUptoSaid : Prop := prefixTablesUptoRow.holds Try.pinned (OpenSpec.upto prefixTablesSpec)

/-- 'incunablelaw04.PrefixStandard', WHERE WHAT IT READS IS OF BULK AT MOST 1048576: true; the input reads as it did. -/
def prefixStandardUptoRow : OpenClaim := { program := "ytnadgcdkcabdoaa", sum := "eabd002486ee9f0f722a6ca575f4693c1f86b911aa0b925ebabedd30e2876abf", func := "incunable/incunablelaw04.PrefixStandard", spec := "prefixStandard", plainKeys := false, apart := false, narrowed := true }
def PrefixStandardUptoSaid : Prop := prefixStandardUptoRow.holds Try.pinned (OpenSpec.upto prefixStandardSpec)

/-- 'incunablelaw04.PrefixCodes', WHERE WHAT IT READS IS OF BULK AT MOST 1048576: true; the input reads as it did. -/
def prefixCodesUptoRow : OpenClaim := { program := "ytnadgcdkcabdoaa", sum := "eabd002486ee9f0f722a6ca575f4693c1f86b911aa0b925ebabedd30e2876abf", func := "incunable/incunablelaw04.PrefixCodes", spec := "prefixCodes", plainKeys := false, apart := false, narrowed := true }
def PrefixCodesUptoSaid : Prop := prefixCodesUptoRow.holds Try.pinned (OpenSpec.upto prefixCodesSpec)

/-- 'incunablelaw04.PrefixBits', WHERE WHAT IT READS IS OF BULK AT MOST 1048576: true; the input reads as it did. -/
def prefixBitsUptoRow : OpenClaim := { program := "ytnadgcdkcabdoaa", sum := "eabd002486ee9f0f722a6ca575f4693c1f86b911aa0b925ebabedd30e2876abf", func := "incunable/incunablelaw04.PrefixBits", spec := "prefixBits", plainKeys := false, apart := false, narrowed := true }
def PrefixBitsUptoSaid : Prop := prefixBitsUptoRow.holds Try.pinned (OpenSpec.upto prefixBitsSpec)

/-- 'incunablelaw04.PrefixEncodes', WHERE WHAT IT READS IS OF BULK AT MOST 1048576: true; the input reads as it did. -/
def prefixEncodesUptoRow : OpenClaim := { program := "ytnadgcdkcabdoaa", sum := "eabd002486ee9f0f722a6ca575f4693c1f86b911aa0b925ebabedd30e2876abf", func := "incunable/incunablelaw04.PrefixEncodes", spec := "prefixEncodes", plainKeys := false, apart := false, narrowed := true }
def PrefixEncodesUptoSaid : Prop := prefixEncodesUptoRow.holds Try.pinned (OpenSpec.upto prefixEncodesSpec)

/-- 'incunablelaw04.PrefixDecodes', WHERE WHAT IT READS IS OF BULK AT MOST 1048576: true; the input reads as it did. -/
def prefixDecodesUptoRow : OpenClaim := { program := "ytnadgcdkcabdoaa", sum := "eabd002486ee9f0f722a6ca575f4693c1f86b911aa0b925ebabedd30e2876abf", func := "incunable/incunablelaw04.PrefixDecodes", spec := "prefixDecodes", plainKeys := false, apart := false, narrowed := true }
def PrefixDecodesUptoSaid : Prop := prefixDecodesUptoRow.holds Try.pinned (OpenSpec.upto prefixDecodesSpec)

/-- 'incunablelaw04.PrefixComplete', WHERE WHAT IT READS IS OF BULK AT MOST 1048576: true; the input reads as it did. -/
def prefixCompleteUptoRow : OpenClaim := { program := "ytnadgcdkcabdoaa", sum := "eabd002486ee9f0f722a6ca575f4693c1f86b911aa0b925ebabedd30e2876abf", func := "incunable/incunablelaw04.PrefixComplete", spec := "prefixComplete", plainKeys := false, apart := false, narrowed := true }
def PrefixCompleteUptoSaid : Prop := prefixCompleteUptoRow.holds Try.pinned (OpenSpec.upto prefixCompleteSpec)

/-- 'incunablelaw04.PrefixBack', WHERE WHAT IT READS IS OF BULK AT MOST 1048576: true; the input reads as it did. -/
def prefixBackUptoRow : OpenClaim := { program := "ytnadgcdkcabdoaa", sum := "eabd002486ee9f0f722a6ca575f4693c1f86b911aa0b925ebabedd30e2876abf", func := "incunable/incunablelaw04.PrefixBack", spec := "prefixBack", plainKeys := false, apart := false, narrowed := true }
def PrefixBackUptoSaid : Prop := prefixBackUptoRow.holds Try.pinned (OpenSpec.upto prefixBackSpec)

/-- 'incunablelaw04.PrefixOwn', WHERE WHAT IT READS IS OF BULK AT MOST 1048576: true; the input reads as it did. -/
def prefixOwnUptoRow : OpenClaim := { program := "ytnadgcdkcabdoaa", sum := "eabd002486ee9f0f722a6ca575f4693c1f86b911aa0b925ebabedd30e2876abf", func := "incunable/incunablelaw04.PrefixOwn", spec := "prefixOwn", unfollowed := true, recurses := true, plainKeys := false, apart := false, narrowed := true }
def PrefixOwnUptoSaid : Prop := prefixOwnUptoRow.holds Try.pinned (OpenSpec.upto prefixOwnSpec)

end Rows
end Go.Proofs.Ytnadgcdkcabdoaa
