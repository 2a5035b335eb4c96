/-
  No cell of these rows narrows 'for every input' (looked for: loops, veiled, ifaces, maps, wideKeys, modest, calm, conditions, laid).
  DERIVED. THE GIVEN ROWS OF THIS SEAT. 9 by the template 'for every input the law returns true; each argument reads behind the call as it read before'; 0 by the template 'total and deterministic' (their statements: YtpnmedmghncpiaaTotals.lean).
  GIVEN WITH THE SEED: the statements are not yours to turn. If you find one false, say at which input.
  Laid BY PROGRAM, IN A SANDBOX (cutbox-rows.mjs): the forced cells as the released guide's own fill.sh prints them over the translation d9ed901f72e8b544… (all of the seat's roots in one cut). By AI agents, Wed Nov 11 2026. No macro, syntax, notation, axiom, sorry.
-/
import Derived.Test.YtpnmedmghncpiaaChecked
import GoSem.Claim
import GoSem.ClaimJoined
import GoSem.ClaimMapViews
import Derived.JoinedTies
import Derived.KernelRfl
namespace Go.Proofs.Ytpnmedmghncpiaa
/- THE CELL 'sum', in the pinned program and in every row, IS THE sha256 OF THE DUMP (.gsa) THAT YtpnmedmghncpiaaProg.lean LOADS. Nothing in Lean hashes anything: it is a label: what it is worth is what the hold of that sum in a sandbox is worth. -/
noncomputable def Try.pinned : Pinned := { name := "ytpnmedmghncpiaa", sum := "d9ed901f72e8b5441bcccf41ef73a01d6fc8c1f8cf8765e5d1906fab218c64e3", checked := Try.checked }
namespace Rows
def none {H : Type} : Left H := { results := [], args := [] }

/-- 'incunablelaw02.CoderNew': WHATEVER THE INPUT: true; the input reads as it did. -/
def coderNewSpec : ChangeSpec := { name := "coderNew", fn := fun _ => fun
  | [d1, d2, d3] => { results := [.lit (.bool true)], args := [d1, d2, d3] }
  | _ => none }
def coderNewRow : OpenClaim := { program := "ytpnmedmghncpiaa", sum := "d9ed901f72e8b5441bcccf41ef73a01d6fc8c1f8cf8765e5d1906fab218c64e3", func := "incunable/incunablelaw02.CoderNew", spec := "coderNew", apart := false }
def CoderNewSaid : Prop := coderNewRow.holds Try.pinned (OpenSpec.ofChange coderNewSpec)

/-- ITS FALSE NEIGHBOUR: 'it returns false'. Refute it at one input. -/
def coderNewWrong : ChangeSpec := { name := "coderNew", fn := fun _ => fun
  | [d1, d2, d3] => { results := [.lit (.bool false)], args := [d1, d2, d3] }
  | _ => none }
def CoderNewWrongFalsely : Prop := coderNewRow.holds Try.pinned (OpenSpec.ofChange coderNewWrong)

/-- 'incunablelaw02.CoderEncodes': WHATEVER THE INPUT: true; the input reads as it did. -/
def coderEncodesSpec : ChangeSpec := { name := "coderEncodes", fn := fun _ => fun
  | [d1, d2] => { results := [.lit (.bool true)], args := [d1, d2] }
  | _ => none }
def coderEncodesRow : OpenClaim := { program := "ytpnmedmghncpiaa", sum := "d9ed901f72e8b5441bcccf41ef73a01d6fc8c1f8cf8765e5d1906fab218c64e3", func := "incunable/incunablelaw02.CoderEncodes", spec := "coderEncodes", apart := false }
def CoderEncodesSaid : Prop := coderEncodesRow.holds Try.pinned (OpenSpec.ofChange coderEncodesSpec)

/-- ITS FALSE NEIGHBOUR: 'it returns false'. Refute it at one input. -/
def coderEncodesWrong : ChangeSpec := { name := "coderEncodes", fn := fun _ => fun
  | [d1, d2] => { results := [.lit (.bool false)], args := [d1, d2] }
  | _ => none }
def CoderEncodesWrongFalsely : Prop := coderEncodesRow.holds Try.pinned (OpenSpec.ofChange coderEncodesWrong)

/-- 'incunablelaw02.CoderPuts': WHATEVER THE INPUT: true; the input reads as it did. -/
def coderPutsSpec : ChangeSpec := { name := "coderPuts", fn := fun _ => fun
  | [d1, d2, d3] => { results := [.lit (.bool true)], args := [d1, d2, d3] }
  | _ => none }
def coderPutsRow : OpenClaim := { program := "ytpnmedmghncpiaa", sum := "d9ed901f72e8b5441bcccf41ef73a01d6fc8c1f8cf8765e5d1906fab218c64e3", func := "incunable/incunablelaw02.CoderPuts", spec := "coderPuts", apart := false }
def CoderPutsSaid : Prop := coderPutsRow.holds Try.pinned (OpenSpec.ofChange coderPutsSpec)

/-- ITS FALSE NEIGHBOUR: 'it returns false'. Refute it at one input. -/
def coderPutsWrong : ChangeSpec := { name := "coderPuts", fn := fun _ => fun
  | [d1, d2, d3] => { results := [.lit (.bool false)], args := [d1, d2, d3] }
  | _ => none }
def CoderPutsWrongFalsely : Prop := coderPutsRow.holds Try.pinned (OpenSpec.ofChange coderPutsWrong)

/-- 'incunablelaw02.CoderStates': WHATEVER THE INPUT: true; the input reads as it did. -/
def coderStatesSpec : ChangeSpec := { name := "coderStates", fn := fun _ => fun
  | [d1, d2, d3] => { results := [.lit (.bool true)], args := [d1, d2, d3] }
  | _ => none }
def coderStatesRow : OpenClaim := { program := "ytpnmedmghncpiaa", sum := "d9ed901f72e8b5441bcccf41ef73a01d6fc8c1f8cf8765e5d1906fab218c64e3", func := "incunable/incunablelaw02.CoderStates", spec := "coderStates", apart := false }
def CoderStatesSaid : Prop := coderStatesRow.holds Try.pinned (OpenSpec.ofChange coderStatesSpec)

/-- ITS FALSE NEIGHBOUR: 'it returns false'. Refute it at one input. -/
def coderStatesWrong : ChangeSpec := { name := "coderStates", fn := fun _ => fun
  | [d1, d2, d3] => { results := [.lit (.bool false)], args := [d1, d2, d3] }
  | _ => none }
def CoderStatesWrongFalsely : Prop := coderStatesRow.holds Try.pinned (OpenSpec.ofChange coderStatesWrong)

/-- 'incunablelaw02.CoderNil': WHATEVER THE INPUT: true; the input reads as it did. -/
def coderNilSpec : ChangeSpec := { name := "coderNil", fn := fun _ => fun
  | [d1, d2] => { results := [.lit (.bool true)], args := [d1, d2] }
  | _ => none }
def coderNilRow : OpenClaim := { program := "ytpnmedmghncpiaa", sum := "d9ed901f72e8b5441bcccf41ef73a01d6fc8c1f8cf8765e5d1906fab218c64e3", func := "incunable/incunablelaw02.CoderNil", spec := "coderNil", apart := false }
def CoderNilSaid : Prop := coderNilRow.holds Try.pinned (OpenSpec.ofChange coderNilSpec)

/-- ITS FALSE NEIGHBOUR: 'it returns false'. Refute it at one input. -/
def coderNilWrong : ChangeSpec := { name := "coderNil", fn := fun _ => fun
  | [d1, d2] => { results := [.lit (.bool false)], args := [d1, d2] }
  | _ => none }
def CoderNilWrongFalsely : Prop := coderNilRow.holds Try.pinned (OpenSpec.ofChange coderNilWrong)

/-- 'incunablelaw02.CoderGets': WHATEVER THE INPUT: true; the input reads as it did. -/
def coderGetsSpec : ChangeSpec := { name := "coderGets", fn := fun _ => fun
  | [d1, d2, d3] => { results := [.lit (.bool true)], args := [d1, d2, d3] }
  | _ => none }
def coderGetsRow : OpenClaim := { program := "ytpnmedmghncpiaa", sum := "d9ed901f72e8b5441bcccf41ef73a01d6fc8c1f8cf8765e5d1906fab218c64e3", func := "incunable/incunablelaw02.CoderGets", spec := "coderGets", apart := false }
def CoderGetsSaid : Prop := coderGetsRow.holds Try.pinned (OpenSpec.ofChange coderGetsSpec)

/-- ITS FALSE NEIGHBOUR: 'it returns false'. Refute it at one input. -/
def coderGetsWrong : ChangeSpec := { name := "coderGets", fn := fun _ => fun
  | [d1, d2, d3] => { results := [.lit (.bool false)], args := [d1, d2, d3] }
  | _ => none }
def CoderGetsWrongFalsely : Prop := coderGetsRow.holds Try.pinned (OpenSpec.ofChange coderGetsWrong)

/-- 'incunablelaw02.CoderDecodes': WHATEVER THE INPUT: true; the input reads as it did. -/
def coderDecodesSpec : ChangeSpec := { name := "coderDecodes", fn := fun _ => fun
  | [d1, d2, d3] => { results := [.lit (.bool true)], args := [d1, d2, d3] }
  | _ => none }
def coderDecodesRow : OpenClaim := { program := "ytpnmedmghncpiaa", sum := "d9ed901f72e8b5441bcccf41ef73a01d6fc8c1f8cf8765e5d1906fab218c64e3", func := "incunable/incunablelaw02.CoderDecodes", spec := "coderDecodes", apart := false }
def CoderDecodesSaid : Prop := coderDecodesRow.holds Try.pinned (OpenSpec.ofChange coderDecodesSpec)

/-- ITS FALSE NEIGHBOUR: 'it returns false'. Refute it at one input. -/
def coderDecodesWrong : ChangeSpec := { name := "coderDecodes", fn := fun _ => fun
  | [d1, d2, d3] => { results := [.lit (.bool false)], args := [d1, d2, d3] }
  | _ => none }
def CoderDecodesWrongFalsely : Prop := coderDecodesRow.holds Try.pinned (OpenSpec.ofChange coderDecodesWrong)

/-- 'incunablelaw02.CoderBack': WHATEVER THE INPUT: true; the input reads as it did. -/
def coderBackSpec : ChangeSpec := { name := "coderBack", fn := fun _ => fun
  | [d1, d2, d3] => { results := [.lit (.bool true)], args := [d1, d2, d3] }
  | _ => none }
def coderBackRow : OpenClaim := { program := "ytpnmedmghncpiaa", sum := "d9ed901f72e8b5441bcccf41ef73a01d6fc8c1f8cf8765e5d1906fab218c64e3", func := "incunable/incunablelaw02.CoderBack", spec := "coderBack", apart := false }
def CoderBackSaid : Prop := coderBackRow.holds Try.pinned (OpenSpec.ofChange coderBackSpec)

/-- ITS FALSE NEIGHBOUR: 'it returns false'. Refute it at one input. -/
def coderBackWrong : ChangeSpec := { name := "coderBack", fn := fun _ => fun
  | [d1, d2, d3] => { results := [.lit (.bool false)], args := [d1, d2, d3] }
  | _ => none }
def CoderBackWrongFalsely : Prop := coderBackRow.holds Try.pinned (OpenSpec.ofChange coderBackWrong)

/-- 'incunablelaw02.CoderShort': WHATEVER THE INPUT: true; the input reads as it did. -/
def coderShortSpec : ChangeSpec := { name := "coderShort", fn := fun _ => fun
  | [d1, d2] => { results := [.lit (.bool true)], args := [d1, d2] }
  | _ => none }
def coderShortRow : OpenClaim := { program := "ytpnmedmghncpiaa", sum := "d9ed901f72e8b5441bcccf41ef73a01d6fc8c1f8cf8765e5d1906fab218c64e3", func := "incunable/incunablelaw02.CoderShort", spec := "coderShort", apart := false }
def CoderShortSaid : Prop := coderShortRow.holds Try.pinned (OpenSpec.ofChange coderShortSpec)

/-- ITS FALSE NEIGHBOUR: 'it returns false'. Refute it at one input. -/
def coderShortWrong : ChangeSpec := { name := "coderShort", fn := fun _ => fun
  | [d1, d2] => { results := [.lit (.bool false)], args := [d1, d2] }
  | _ => none }
def CoderShortWrongFalsely : Prop := coderShortRow.holds Try.pinned (OpenSpec.ofChange coderShortWrong)

/- THE SECOND FORM. 'bulk': how many values and letters a reading holds, each counted each time it is reached (what is shared counts as often as it is met; a slice's spare places count too). A statement '..UptoSaid' is the law's where the arguments, and the package variables that the reading takes, are together of bulk at most 1048576: NARROWER than '..Said'. Prove '..Said' where nothing that the law and all that it calls make is longer than what came in: it says more and counts as full. Else prove '..UptoSaid'. A law counts once. -/
mutual
def uptoBulk {H : Type} : DataW H → Nat
  | .lit (.string bytes) => bytes.length + 1
  | .lit _ => 1
  | .nil => 1
  | .ptr d => uptoBulk d + 1
  | .slice elems spare => uptoBulkAll elems + uptoBulkAll spare + 1
  | .agg parts => uptoBulkAll parts + 1
  | .iface _ d => uptoBulk d + 1
  | .map entries => uptoBulkEntries entries + 1
  | .held _ => 1
def uptoBulkAll {H : Type} : List (DataW H) → Nat
  | [] => 0
  | d :: r => uptoBulk d + uptoBulkAll r
def uptoBulkEntries {H : Type} : List (Lit × DataW H) → Nat
  | [] => 0
  | x :: r => uptoBulkEntry x + uptoBulkEntries r
def uptoBulkEntry {H : Type} : Lit × DataW H → Nat
  | (.string bytes, d) => bytes.length + uptoBulk d + 1
  | (_, d) => uptoBulk d + 1
 end
def uptoSmall : (H : Type) → List (DataW H) → Bool := fun _ ds => decide (uptoBulkAll ds ≤ 1048576)
def OpenSpec.upto (s : _root_.Go.ChangeSpec) : _root_.Go.OpenSpec := { _root_.Go.OpenSpec.ofChange s with cond := some uptoSmall }

/-- 'incunablelaw02.CoderNew', WHERE WHAT IT READS IS OF BULK AT MOST 1048576: true; the input reads as it did. -/
def coderNewUptoRow : OpenClaim := { program := "ytpnmedmghncpiaa", sum := "d9ed901f72e8b5441bcccf41ef73a01d6fc8c1f8cf8765e5d1906fab218c64e3", func := "incunable/incunablelaw02.CoderNew", spec := "coderNew", apart := false, narrowed := true }
def CoderNewUptoSaid : Prop := coderNewUptoRow.holds Try.pinned (OpenSpec.upto coderNewSpec)

/-- 'incunablelaw02.CoderEncodes', WHERE WHAT IT READS IS OF BULK AT MOST 1048576: true; the input reads as it did. -/
def coderEncodesUptoRow : OpenClaim := { program := "ytpnmedmghncpiaa", sum := "d9ed901f72e8b5441bcccf41ef73a01d6fc8c1f8cf8765e5d1906fab218c64e3", func := "incunable/incunablelaw02.CoderEncodes", spec := "coderEncodes", apart := false, narrowed := true }
def CoderEncodesUptoSaid : Prop := coderEncodesUptoRow.holds Try.pinned (OpenSpec.upto coderEncodesSpec)

/-- 'incunablelaw02.CoderPuts', WHERE WHAT IT READS IS OF BULK AT MOST 1048576: true; the input reads as it did. -/
def coderPutsUptoRow : OpenClaim := { program := "ytpnmedmghncpiaa", sum := "d9ed901f72e8b5441bcccf41ef73a01d6fc8c1f8cf8765e5d1906fab218c64e3", func := "incunable/incunablelaw02.CoderPuts", spec := "coderPuts", apart := false, narrowed := true }
def CoderPutsUptoSaid : Prop := coderPutsUptoRow.holds Try.pinned (OpenSpec.upto coderPutsSpec)

/-- 'incunablelaw02.CoderStates', WHERE WHAT IT READS IS OF BULK AT MOST 1048576: true; the input reads as it did. -/
def coderStatesUptoRow : OpenClaim := { program := "ytpnmedmghncpiaa", sum := "d9ed901f72e8b5441bcccf41ef73a01d6fc8c1f8cf8765e5d1906fab218c64e3", func := "incunable/incunablelaw02.CoderStates", spec := "coderStates", apart := false, narrowed := true }
def CoderStatesUptoSaid : Prop := coderStatesUptoRow.holds Try.pinned (OpenSpec.upto coderStatesSpec)

/-- 'incunablelaw02.CoderNil', WHERE WHAT IT READS IS OF BULK AT MOST 1048576: true; the input reads as it did. -/
def coderNilUptoRow : OpenClaim := { program := "ytpnmedmghncpiaa", sum := "d9ed901f72e8b5441bcccf41ef73a01d6fc8c1f8cf8765e5d1906fab218c64e3", func := "incunable/incunablelaw02.CoderNil", spec := "coderNil", apart := false, narrowed := true }
def CoderNilUptoSaid : Prop := coderNilUptoRow.holds Try.pinned (OpenSpec.upto coderNilSpec)

/-- 'incunablelaw02.CoderGets', WHERE WHAT IT READS IS OF BULK AT MOST 1048576: true; the input reads as it did. -/
def coderGetsUptoRow : OpenClaim := { program := "ytpnmedmghncpiaa", sum := "d9ed901f72e8b5441bcccf41ef73a01d6fc8c1f8cf8765e5d1906fab218c64e3", func := "incunable/incunablelaw02.CoderGets", spec := "coderGets", apart := false, narrowed := true }
def CoderGetsUptoSaid : Prop := coderGetsUptoRow.holds Try.pinned (OpenSpec.upto coderGetsSpec)

/-- 'incunablelaw02.CoderDecodes', WHERE WHAT IT READS IS OF BULK AT MOST 1048576: true; the input reads as it did. -/
def coderDecodesUptoRow : OpenClaim := { program := "ytpnmedmghncpiaa", sum := "d9ed901f72e8b5441bcccf41ef73a01d6fc8c1f8cf8765e5d1906fab218c64e3", func := "incunable/incunablelaw02.CoderDecodes", spec := "coderDecodes", apart := false, narrowed := true }
def CoderDecodesUptoSaid : Prop := coderDecodesUptoRow.holds Try.pinned (OpenSpec.upto coderDecodesSpec)

/-- 'incunablelaw02.CoderBack', WHERE WHAT IT READS IS OF BULK AT MOST 1048576: true; the input reads as it did. -/
def coderBackUptoRow : OpenClaim := { program := "ytpnmedmghncpiaa", sum := "d9ed901f72e8b5441bcccf41ef73a01d6fc8c1f8cf8765e5d1906fab218c64e3", func := "incunable/incunablelaw02.CoderBack", spec := "coderBack", apart := false, narrowed := true }
def CoderBackUptoSaid : Prop := coderBackUptoRow.holds Try.pinned (OpenSpec.upto coderBackSpec)

/-- 'incunablelaw02.CoderShort', WHERE WHAT IT READS IS OF BULK AT MOST 1048576: true; the input reads as it did. -/
def coderShortUptoRow : OpenClaim := { program := "ytpnmedmghncpiaa", sum := "d9ed901f72e8b5441bcccf41ef73a01d6fc8c1f8cf8765e5d1906fab218c64e3", func := "incunable/incunablelaw02.CoderShort", spec := "coderShort", apart := false, narrowed := true }
def CoderShortUptoSaid : Prop := coderShortUptoRow.holds Try.pinned (OpenSpec.upto coderShortSpec)

end Rows
end Go.Proofs.Ytpnmedmghncpiaa
