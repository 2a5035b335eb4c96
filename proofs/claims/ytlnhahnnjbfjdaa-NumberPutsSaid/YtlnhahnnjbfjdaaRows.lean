/-
  No cell of these rows narrows 'for every input' (looked for: loops, veiled, ifaces, maps, wideKeys, modest, calm, conditions, laid).
  DERIVED. THE GIVEN ROWS OF THIS SEAT. 7 by the template 'for every input the law returns true; each argument reads behind the call as it read before'; 0 by the template 'total and deterministic' (their statements: YtlnhahnnjbfjdaaTotals.lean).
  GIVEN WITH THE SEED: the statements are not yours to turn. If you find one false, say at which input.
  Laid BY PROGRAM, IN A SANDBOX (cutbox-rows.mjs): the forced cells as the released guide's own fill.sh prints them over the translation f61af675d0f843a3… (all of the seat's roots in one cut). By AI agents, Wed Nov 11 2026. No macro, syntax, notation, axiom, sorry.
-/
import Derived.Test.YtlnhahnnjbfjdaaChecked
import GoSem.Claim
import GoSem.ClaimJoined
import GoSem.ClaimMapViews
import Derived.JoinedTies
import Derived.KernelRfl
namespace Go.Proofs.Ytlnhahnnjbfjdaa
/- THE CELL 'sum', in the pinned program and in every row, IS THE sha256 OF THE DUMP (.gsa) THAT YtlnhahnnjbfjdaaProg.lean LOADS. Nothing in Lean hashes anything: it is a label: what it is worth is what the hold of that sum in a sandbox is worth. -/
noncomputable def Try.pinned : Pinned := { name := "ytlnhahnnjbfjdaa", sum := "f61af675d0f843a39291ebea5d57f5d4047808af1df3f6ddcf0463d4346042ff", checked := Try.checked }
namespace Rows
def none {H : Type} : Left H := { results := [], args := [] }

/-- 'incunablelaw03.NumberEvents': WHATEVER THE INPUT: true; the input reads as it did. -/
def numberEventsSpec : ChangeSpec := { name := "numberEvents", fn := fun _ => fun
  | [d1, d2] => { results := [.lit (.bool true)], args := [d1, d2] }
  | _ => none }
def numberEventsRow : OpenClaim := { program := "ytlnhahnnjbfjdaa", sum := "f61af675d0f843a39291ebea5d57f5d4047808af1df3f6ddcf0463d4346042ff", func := "incunable/incunablelaw03.NumberEvents", spec := "numberEvents", apart := false }
def NumberEventsSaid : Prop := numberEventsRow.holds Try.pinned (OpenSpec.ofChange numberEventsSpec)

/-- ITS FALSE NEIGHBOUR: 'it returns false'. Refute it at one input. -/
def numberEventsWrong : ChangeSpec := { name := "numberEvents", fn := fun _ => fun
  | [d1, d2] => { results := [.lit (.bool false)], args := [d1, d2] }
  | _ => none }
def NumberEventsWrongFalsely : Prop := numberEventsRow.holds Try.pinned (OpenSpec.ofChange numberEventsWrong)

/-- 'incunablelaw03.NumberWidths': WHATEVER THE INPUT: true; the input reads as it did. -/
def numberWidthsSpec : ChangeSpec := { name := "numberWidths", fn := fun _ => fun
  | [d] => { results := [.lit (.bool true)], args := [d] }
  | _ => none }
def numberWidthsRow : OpenClaim := { program := "ytlnhahnnjbfjdaa", sum := "f61af675d0f843a39291ebea5d57f5d4047808af1df3f6ddcf0463d4346042ff", func := "incunable/incunablelaw03.NumberWidths", spec := "numberWidths", apart := false }
def NumberWidthsSaid : Prop := numberWidthsRow.holds Try.pinned (OpenSpec.ofChange numberWidthsSpec)

/-- ITS FALSE NEIGHBOUR: 'it returns false'. Refute it at one input. -/
def numberWidthsWrong : ChangeSpec := { name := "numberWidths", fn := fun _ => fun
  | [d] => { results := [.lit (.bool false)], args := [d] }
  | _ => none }
def NumberWidthsWrongFalsely : Prop := numberWidthsRow.holds Try.pinned (OpenSpec.ofChange numberWidthsWrong)

/-- 'incunablelaw03.NumberDecodes': WHATEVER THE INPUT: true; the input reads as it did. -/
def numberDecodesSpec : ChangeSpec := { name := "numberDecodes", fn := fun _ => fun
  | [d1, d2, d3] => { results := [.lit (.bool true)], args := [d1, d2, d3] }
  | _ => none }
def numberDecodesRow : OpenClaim := { program := "ytlnhahnnjbfjdaa", sum := "f61af675d0f843a39291ebea5d57f5d4047808af1df3f6ddcf0463d4346042ff", func := "incunable/incunablelaw03.NumberDecodes", spec := "numberDecodes", apart := false }
def NumberDecodesSaid : Prop := numberDecodesRow.holds Try.pinned (OpenSpec.ofChange numberDecodesSpec)

/-- ITS FALSE NEIGHBOUR: 'it returns false'. Refute it at one input. -/
def numberDecodesWrong : ChangeSpec := { name := "numberDecodes", fn := fun _ => fun
  | [d1, d2, d3] => { results := [.lit (.bool false)], args := [d1, d2, d3] }
  | _ => none }
def NumberDecodesWrongFalsely : Prop := numberDecodesRow.holds Try.pinned (OpenSpec.ofChange numberDecodesWrong)

/-- 'incunablelaw03.NumberGets': WHATEVER THE INPUT: true; the input reads as it did. -/
def numberGetsSpec : ChangeSpec := { name := "numberGets", fn := fun _ => fun
  | [d] => { results := [.lit (.bool true)], args := [d] }
  | _ => none }
def numberGetsRow : OpenClaim := { program := "ytlnhahnnjbfjdaa", sum := "f61af675d0f843a39291ebea5d57f5d4047808af1df3f6ddcf0463d4346042ff", func := "incunable/incunablelaw03.NumberGets", spec := "numberGets", apart := false }
def NumberGetsSaid : Prop := numberGetsRow.holds Try.pinned (OpenSpec.ofChange numberGetsSpec)

/-- ITS FALSE NEIGHBOUR: 'it returns false'. Refute it at one input. -/
def numberGetsWrong : ChangeSpec := { name := "numberGets", fn := fun _ => fun
  | [d] => { results := [.lit (.bool false)], args := [d] }
  | _ => none }
def NumberGetsWrongFalsely : Prop := numberGetsRow.holds Try.pinned (OpenSpec.ofChange numberGetsWrong)

/-- 'incunablelaw03.NumberNil': WHATEVER THE INPUT: true; the input reads as it did. -/
def numberNilSpec : ChangeSpec := { name := "numberNil", fn := fun _ => fun
  | [d] => { results := [.lit (.bool true)], args := [d] }
  | _ => none }
def numberNilRow : OpenClaim := { program := "ytlnhahnnjbfjdaa", sum := "f61af675d0f843a39291ebea5d57f5d4047808af1df3f6ddcf0463d4346042ff", func := "incunable/incunablelaw03.NumberNil", spec := "numberNil", apart := false }
def NumberNilSaid : Prop := numberNilRow.holds Try.pinned (OpenSpec.ofChange numberNilSpec)

/-- ITS FALSE NEIGHBOUR: 'it returns false'. Refute it at one input. -/
def numberNilWrong : ChangeSpec := { name := "numberNil", fn := fun _ => fun
  | [d] => { results := [.lit (.bool false)], args := [d] }
  | _ => none }
def NumberNilWrongFalsely : Prop := numberNilRow.holds Try.pinned (OpenSpec.ofChange numberNilWrong)

/-- 'incunablelaw03.NumberEncodes': WHATEVER THE INPUT: true; the input reads as it did. -/
def numberEncodesSpec : ChangeSpec := { name := "numberEncodes", fn := fun _ => fun
  | [d1, d2, d3] => { results := [.lit (.bool true)], args := [d1, d2, d3] }
  | _ => none }
def numberEncodesRow : OpenClaim := { program := "ytlnhahnnjbfjdaa", sum := "f61af675d0f843a39291ebea5d57f5d4047808af1df3f6ddcf0463d4346042ff", func := "incunable/incunablelaw03.NumberEncodes", spec := "numberEncodes", apart := false }
def NumberEncodesSaid : Prop := numberEncodesRow.holds Try.pinned (OpenSpec.ofChange numberEncodesSpec)

/-- ITS FALSE NEIGHBOUR: 'it returns false'. Refute it at one input. -/
def numberEncodesWrong : ChangeSpec := { name := "numberEncodes", fn := fun _ => fun
  | [d1, d2, d3] => { results := [.lit (.bool false)], args := [d1, d2, d3] }
  | _ => none }
def NumberEncodesWrongFalsely : Prop := numberEncodesRow.holds Try.pinned (OpenSpec.ofChange numberEncodesWrong)

/-- 'incunablelaw03.NumberPuts': WHATEVER THE INPUT: true; the input reads as it did. -/
def numberPutsSpec : ChangeSpec := { name := "numberPuts", fn := fun _ => fun
  | [d1, d2, d3] => { results := [.lit (.bool true)], args := [d1, d2, d3] }
  | _ => none }
def numberPutsRow : OpenClaim := { program := "ytlnhahnnjbfjdaa", sum := "f61af675d0f843a39291ebea5d57f5d4047808af1df3f6ddcf0463d4346042ff", func := "incunable/incunablelaw03.NumberPuts", spec := "numberPuts", apart := false }
def NumberPutsSaid : Prop := numberPutsRow.holds Try.pinned (OpenSpec.ofChange numberPutsSpec)

/-- ITS FALSE NEIGHBOUR: 'it returns false'. Refute it at one input. -/
def numberPutsWrong : ChangeSpec := { name := "numberPuts", fn := fun _ => fun
  | [d1, d2, d3] => { results := [.lit (.bool false)], args := [d1, d2, d3] }
  | _ => none }
def NumberPutsWrongFalsely : Prop := numberPutsRow.holds Try.pinned (OpenSpec.ofChange numberPutsWrong)

/- THE SECOND FORM. 'bulk': how many values and letters a reading holds, each counted each time it is reached (what is shared counts as often as it is met; a slice's spare places count too). A statement '..UptoSaid' is the law's where the arguments, and the package variables that the reading takes, are together of bulk at most 1048576: NARROWER than '..Said'. Prove '..Said' where nothing that the law and all that it calls make is longer than what came in: it says more and counts as full. Else prove '..UptoSaid'. A law counts once. -/
mutual
def uptoBulk {H : Type} : DataW H → Nat
  | .lit (.string bytes) => bytes.length + 1
  | .lit _ => 1
  | .nil => 1
  | .ptr d => uptoBulk d + 1
  | .slice elems spare => uptoBulkAll elems + uptoBulkAll spare + 1
  | .agg parts => uptoBulkAll parts + 1
  | .iface _ d => uptoBulk d + 1
  | .map entries => uptoBulkEntries entries + 1
  | .held _ => 1
def uptoBulkAll {H : Type} : List (DataW H) → Nat
  | [] => 0
  | d :: r => uptoBulk d + uptoBulkAll r
def uptoBulkEntries {H : Type} : List (Lit × DataW H) → Nat
  | [] => 0
  | x :: r => uptoBulkEntry x + uptoBulkEntries r
def uptoBulkEntry {H : Type} : Lit × DataW H → Nat
  | (.string bytes, d) => bytes.length + uptoBulk d + 1
  | (_, d) => uptoBulk d + 1
 end
def uptoSmall : (H : Type) → List (DataW H) → Bool := fun _ ds => decide (uptoBulkAll ds ≤ 1048576)
def OpenSpec.upto (s : _root_.Go.ChangeSpec) : _root_.Go.OpenSpec := { _root_.Go.OpenSpec.ofChange s with cond := some uptoSmall }

/-- 'incunablelaw03.NumberEvents', WHERE WHAT IT READS IS OF BULK AT MOST 1048576: true; the input reads as it did. -/
def numberEventsUptoRow : OpenClaim := { program := "ytlnhahnnjbfjdaa", sum := "f61af675d0f843a39291ebea5d57f5d4047808af1df3f6ddcf0463d4346042ff", func := "incunable/incunablelaw03.NumberEvents", spec := "numberEvents", apart := false, narrowed := true }
def NumberEventsUptoSaid : Prop := numberEventsUptoRow.holds Try.pinned (OpenSpec.upto numberEventsSpec)

/-- 'incunablelaw03.NumberWidths', WHERE WHAT IT READS IS OF BULK AT MOST 1048576: true; the input reads as it did. -/
def numberWidthsUptoRow : OpenClaim := { program := "ytlnhahnnjbfjdaa", sum := "f61af675d0f843a39291ebea5d57f5d4047808af1df3f6ddcf0463d4346042ff", func := "incunable/incunablelaw03.NumberWidths", spec := "numberWidths", apart := false, narrowed := true }
def NumberWidthsUptoSaid : Prop := numberWidthsUptoRow.holds Try.pinned (OpenSpec.upto numberWidthsSpec)

/-- 'incunablelaw03.NumberDecodes', WHERE WHAT IT READS IS OF BULK AT MOST 1048576: true; the input reads as it did. -/
def numberDecodesUptoRow : OpenClaim := { program := "ytlnhahnnjbfjdaa", sum := "f61af675d0f843a39291ebea5d57f5d4047808af1df3f6ddcf0463d4346042ff", func := "incunable/incunablelaw03.NumberDecodes", spec := "numberDecodes", apart := false, narrowed := true }
def NumberDecodesUptoSaid : Prop := numberDecodesUptoRow.holds Try.pinned (OpenSpec.upto numberDecodesSpec)

/-- 'incunablelaw03.NumberGets', WHERE WHAT IT READS IS OF BULK AT MOST 1048576: true; the input reads as it did. -/
def numberGetsUptoRow : OpenClaim := { program := "ytlnhahnnjbfjdaa", sum := "f61af675d0f843a39291ebea5d57f5d4047808af1df3f6ddcf0463d4346042ff", func := "incunable/incunablelaw03.NumberGets", spec := "numberGets", apart := false, narrowed := true }
def NumberGetsUptoSaid : Prop := numberGetsUptoRow.holds Try.pinned (OpenSpec.upto numberGetsSpec)

/-- 'incunablelaw03.NumberNil', WHERE WHAT IT READS IS OF BULK AT MOST 1048576: true; the input reads as it did. -/
def numberNilUptoRow : OpenClaim := { program := "ytlnhahnnjbfjdaa", sum := "f61af675d0f843a39291ebea5d57f5d4047808af1df3f6ddcf0463d4346042ff", func := "incunable/incunablelaw03.NumberNil", spec := "numberNil", apart := false, narrowed := true }
def NumberNilUptoSaid : Prop := numberNilUptoRow.holds Try.pinned (OpenSpec.upto numberNilSpec)

/-- 'incunablelaw03.NumberEncodes', WHERE WHAT IT READS IS OF BULK AT MOST 1048576: true; the input reads as it did. -/
def numberEncodesUptoRow : OpenClaim := { program := "ytlnhahnnjbfjdaa", sum := "f61af675d0f843a39291ebea5d57f5d4047808af1df3f6ddcf0463d4346042ff", func := "incunable/incunablelaw03.NumberEncodes", spec := "numberEncodes", apart := false, narrowed := true }
def NumberEncodesUptoSaid : Prop := numberEncodesUptoRow.holds Try.pinned (OpenSpec.upto numberEncodesSpec)

/-- 'incunablelaw03.NumberPuts', WHERE WHAT IT READS IS OF BULK AT MOST 1048576: true; the input reads as it did. -/
def numberPutsUptoRow : OpenClaim := { program := "ytlnhahnnjbfjdaa", sum := "f61af675d0f843a39291ebea5d57f5d4047808af1df3f6ddcf0463d4346042ff", func := "incunable/incunablelaw03.NumberPuts", spec := "numberPuts", apart := false, narrowed := true }
def NumberPutsUptoSaid : Prop := numberPutsUptoRow.holds Try.pinned (OpenSpec.upto numberPutsSpec)

end Rows
end Go.Proofs.Ytlnhahnnjbfjdaa
