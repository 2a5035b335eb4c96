/-
  No cell of these rows narrows 'for every input' (looked for: loops, veiled, ifaces, maps, wideKeys, modest, calm, conditions, laid).
  DERIVED. THE GIVEN ROWS OF THIS SEAT. 8 by the template 'for every input the law returns true; each argument reads behind the call as it read before'; 0 by the template 'total and deterministic' (their statements: YtkfejicdjpffcaaTotals.lean).
  GIVEN WITH THE SEED: the statements are not yours to turn. If you find one false, say at which input.
  Laid BY PROGRAM, IN A SANDBOX (cutbox-rows.mjs): the forced cells as the released guide's own fill.sh prints them over the translation 11fd3bdf540c3206… (all of the seat's roots in one cut). By AI agents, Wed Nov 11 2026. No macro, syntax, notation, axiom, sorry.
-/
import Derived.Test.YtkfejicdjpffcaaChecked
import GoSem.Claim
import GoSem.ClaimJoined
import GoSem.ClaimMapViews
import Derived.JoinedTies
import Derived.KernelRfl
namespace Go.Proofs.Ytkfejicdjpffcaa
/- THE CELL 'sum', in the pinned program and in every row, IS THE sha256 OF THE DUMP (.gsa) THAT YtkfejicdjpffcaaProg.lean LOADS. Nothing in Lean hashes anything: it is a label: what it is worth is what the hold of that sum in a sandbox is worth. -/
noncomputable def Try.pinned : Pinned := { name := "ytkfejicdjpffcaa", sum := "11fd3bdf540c320603b52a88ccb0af9bb307bd4fe59144b35574a51bc2b83144", checked := Try.checked }
namespace Rows
def none {H : Type} : Left H := { results := [], args := [] }

/-- 'incunablelaw08.RefineOptions': WHATEVER THE INPUT: true; the input reads as it did. -/
def refineOptionsSpec : ChangeSpec := { name := "refineOptions", fn := fun _ => fun
  | [d] => { results := [.lit (.bool true)], args := [d] }
  | _ => none }
def refineOptionsRow : OpenClaim := { program := "ytkfejicdjpffcaa", sum := "11fd3bdf540c320603b52a88ccb0af9bb307bd4fe59144b35574a51bc2b83144", func := "incunable/incunablelaw08.RefineOptions", spec := "refineOptions", apart := false }
def RefineOptionsSaid : Prop := refineOptionsRow.holds Try.pinned (OpenSpec.ofChange refineOptionsSpec)

/-- ITS FALSE NEIGHBOUR: 'it returns false'. Refute it at one input. -/
def refineOptionsWrong : ChangeSpec := { name := "refineOptions", fn := fun _ => fun
  | [d] => { results := [.lit (.bool false)], args := [d] }
  | _ => none }
def RefineOptionsWrongFalsely : Prop := refineOptionsRow.holds Try.pinned (OpenSpec.ofChange refineOptionsWrong)

/-- 'incunablelaw08.RefineEncodes': WHATEVER THE INPUT: true; the input reads as it did. -/
def refineEncodesSpec : ChangeSpec := { name := "refineEncodes", fn := fun _ => fun
  | [d1, d2, d3] => { results := [.lit (.bool true)], args := [d1, d2, d3] }
  | _ => none }
def refineEncodesRow : OpenClaim := { program := "ytkfejicdjpffcaa", sum := "11fd3bdf540c320603b52a88ccb0af9bb307bd4fe59144b35574a51bc2b83144", func := "incunable/incunablelaw08.RefineEncodes", spec := "refineEncodes", apart := false }
def RefineEncodesSaid : Prop := refineEncodesRow.holds Try.pinned (OpenSpec.ofChange refineEncodesSpec)

/-- ITS FALSE NEIGHBOUR: 'it returns false'. Refute it at one input. -/
def refineEncodesWrong : ChangeSpec := { name := "refineEncodes", fn := fun _ => fun
  | [d1, d2, d3] => { results := [.lit (.bool false)], args := [d1, d2, d3] }
  | _ => none }
def RefineEncodesWrongFalsely : Prop := refineEncodesRow.holds Try.pinned (OpenSpec.ofChange refineEncodesWrong)

/-- 'incunablelaw08.RefineDecodes': WHATEVER THE INPUT: true; the input reads as it did. -/
def refineDecodesSpec : ChangeSpec := { name := "refineDecodes", fn := fun _ => fun
  | [d1, d2, d3, d4, d5] => { results := [.lit (.bool true)], args := [d1, d2, d3, d4, d5] }
  | _ => none }
def refineDecodesRow : OpenClaim := { program := "ytkfejicdjpffcaa", sum := "11fd3bdf540c320603b52a88ccb0af9bb307bd4fe59144b35574a51bc2b83144", func := "incunable/incunablelaw08.RefineDecodes", spec := "refineDecodes", apart := false }
def RefineDecodesSaid : Prop := refineDecodesRow.holds Try.pinned (OpenSpec.ofChange refineDecodesSpec)

/-- ITS FALSE NEIGHBOUR: 'it returns false'. Refute it at one input. -/
def refineDecodesWrong : ChangeSpec := { name := "refineDecodes", fn := fun _ => fun
  | [d1, d2, d3, d4, d5] => { results := [.lit (.bool false)], args := [d1, d2, d3, d4, d5] }
  | _ => none }
def RefineDecodesWrongFalsely : Prop := refineDecodesRow.holds Try.pinned (OpenSpec.ofChange refineDecodesWrong)

/-- 'incunablelaw08.RefineBack': WHATEVER THE INPUT: true; the input reads as it did. -/
def refineBackSpec : ChangeSpec := { name := "refineBack", fn := fun _ => fun
  | [d1, d2, d3] => { results := [.lit (.bool true)], args := [d1, d2, d3] }
  | _ => none }
def refineBackRow : OpenClaim := { program := "ytkfejicdjpffcaa", sum := "11fd3bdf540c320603b52a88ccb0af9bb307bd4fe59144b35574a51bc2b83144", func := "incunable/incunablelaw08.RefineBack", spec := "refineBack", apart := false }
def RefineBackSaid : Prop := refineBackRow.holds Try.pinned (OpenSpec.ofChange refineBackSpec)

/-- ITS FALSE NEIGHBOUR: 'it returns false'. Refute it at one input. -/
def refineBackWrong : ChangeSpec := { name := "refineBack", fn := fun _ => fun
  | [d1, d2, d3] => { results := [.lit (.bool false)], args := [d1, d2, d3] }
  | _ => none }
def RefineBackWrongFalsely : Prop := refineBackRow.holds Try.pinned (OpenSpec.ofChange refineBackWrong)

/-- 'incunablelaw08.RefinePuts': WHATEVER THE INPUT: true; the input reads as it did. -/
def refinePutsSpec : ChangeSpec := { name := "refinePuts", fn := fun _ => fun
  | [d1, d2, d3, d4, d5] => { results := [.lit (.bool true)], args := [d1, d2, d3, d4, d5] }
  | _ => none }
def refinePutsRow : OpenClaim := { program := "ytkfejicdjpffcaa", sum := "11fd3bdf540c320603b52a88ccb0af9bb307bd4fe59144b35574a51bc2b83144", func := "incunable/incunablelaw08.RefinePuts", spec := "refinePuts", apart := false }
def RefinePutsSaid : Prop := refinePutsRow.holds Try.pinned (OpenSpec.ofChange refinePutsSpec)

/-- ITS FALSE NEIGHBOUR: 'it returns false'. Refute it at one input. -/
def refinePutsWrong : ChangeSpec := { name := "refinePuts", fn := fun _ => fun
  | [d1, d2, d3, d4, d5] => { results := [.lit (.bool false)], args := [d1, d2, d3, d4, d5] }
  | _ => none }
def RefinePutsWrongFalsely : Prop := refinePutsRow.holds Try.pinned (OpenSpec.ofChange refinePutsWrong)

/-- 'incunablelaw08.RefineErrors': WHATEVER THE INPUT: true; the input reads as it did. -/
def refineErrorsSpec : ChangeSpec := { name := "refineErrors", fn := fun _ => fun
  | [d1, d2, d3, d4, d5] => { results := [.lit (.bool true)], args := [d1, d2, d3, d4, d5] }
  | _ => none }
def refineErrorsRow : OpenClaim := { program := "ytkfejicdjpffcaa", sum := "11fd3bdf540c320603b52a88ccb0af9bb307bd4fe59144b35574a51bc2b83144", func := "incunable/incunablelaw08.RefineErrors", spec := "refineErrors", apart := false }
def RefineErrorsSaid : Prop := refineErrorsRow.holds Try.pinned (OpenSpec.ofChange refineErrorsSpec)

/-- ITS FALSE NEIGHBOUR: 'it returns false'. Refute it at one input. -/
def refineErrorsWrong : ChangeSpec := { name := "refineErrors", fn := fun _ => fun
  | [d1, d2, d3, d4, d5] => { results := [.lit (.bool false)], args := [d1, d2, d3, d4, d5] }
  | _ => none }
def RefineErrorsWrongFalsely : Prop := refineErrorsRow.holds Try.pinned (OpenSpec.ofChange refineErrorsWrong)

/-- 'incunablelaw08.RefineContext': WHATEVER THE INPUT: true; the input reads as it did. -/
def refineContextSpec : ChangeSpec := { name := "refineContext", fn := fun _ => fun
  | [d1, d2, d3, d4, d5] => { results := [.lit (.bool true)], args := [d1, d2, d3, d4, d5] }
  | _ => none }
def refineContextRow : OpenClaim := { program := "ytkfejicdjpffcaa", sum := "11fd3bdf540c320603b52a88ccb0af9bb307bd4fe59144b35574a51bc2b83144", func := "incunable/incunablelaw08.RefineContext", spec := "refineContext", apart := false }
def RefineContextSaid : Prop := refineContextRow.holds Try.pinned (OpenSpec.ofChange refineContextSpec)

/-- ITS FALSE NEIGHBOUR: 'it returns false'. Refute it at one input. -/
def refineContextWrong : ChangeSpec := { name := "refineContext", fn := fun _ => fun
  | [d1, d2, d3, d4, d5] => { results := [.lit (.bool false)], args := [d1, d2, d3, d4, d5] }
  | _ => none }
def RefineContextWrongFalsely : Prop := refineContextRow.holds Try.pinned (OpenSpec.ofChange refineContextWrong)

/-- 'incunablelaw08.RefineSame': WHATEVER THE INPUT: true; the input reads as it did. -/
def refineSameSpec : ChangeSpec := { name := "refineSame", fn := fun _ => fun
  | [d1, d2, d3] => { results := [.lit (.bool true)], args := [d1, d2, d3] }
  | _ => none }
def refineSameRow : OpenClaim := { program := "ytkfejicdjpffcaa", sum := "11fd3bdf540c320603b52a88ccb0af9bb307bd4fe59144b35574a51bc2b83144", func := "incunable/incunablelaw08.RefineSame", spec := "refineSame", apart := false }
def RefineSameSaid : Prop := refineSameRow.holds Try.pinned (OpenSpec.ofChange refineSameSpec)

/-- ITS FALSE NEIGHBOUR: 'it returns false'. Refute it at one input. -/
def refineSameWrong : ChangeSpec := { name := "refineSame", fn := fun _ => fun
  | [d1, d2, d3] => { results := [.lit (.bool false)], args := [d1, d2, d3] }
  | _ => none }
def RefineSameWrongFalsely : Prop := refineSameRow.holds Try.pinned (OpenSpec.ofChange refineSameWrong)

/- THE SECOND FORM. 'bulk': how many values and letters a reading holds, each counted each time it is reached (what is shared counts as often as it is met; a slice's spare places count too). A statement '..UptoSaid' is the law's where the arguments, and the package variables that the reading takes, are together of bulk at most 1048576: NARROWER than '..Said'. Prove '..Said' where nothing that the law and all that it calls make is longer than what came in: it says more and counts as full. Else prove '..UptoSaid'. A law counts once. -/
mutual
def uptoBulk {H : Type} : DataW H → Nat
  | .lit (.string bytes) => bytes.length + 1
  | .lit _ => 1
  | .nil => 1
  | .ptr d => uptoBulk d + 1
  | .slice elems spare => uptoBulkAll elems + uptoBulkAll spare + 1
  | .agg parts => uptoBulkAll parts + 1
  | .iface _ d => uptoBulk d + 1
  | .map entries => uptoBulkEntries entries + 1
  | .held _ => 1
def uptoBulkAll {H : Type} : List (DataW H) → Nat
  | [] => 0
  | d :: r => uptoBulk d + uptoBulkAll r
def uptoBulkEntries {H : Type} : List (Lit × DataW H) → Nat
  | [] => 0
  | x :: r => uptoBulkEntry x + uptoBulkEntries r
def uptoBulkEntry {H : Type} : Lit × DataW H → Nat
  | (.string bytes, d) => bytes.length + uptoBulk d + 1
  | (_, d) => uptoBulk d + 1
 end
def uptoSmall : (H : Type) → List (DataW H) → Bool := fun _ ds => decide (uptoBulkAll ds ≤ 1048576)
def OpenSpec.upto (s : _root_.Go.ChangeSpec) : _root_.Go.OpenSpec := { _root_.Go.OpenSpec.ofChange s with cond := some uptoSmall }

/-- 'incunablelaw08.RefineOptions', WHERE WHAT IT READS IS OF BULK AT MOST 1048576: true; the input reads as it did. -/
def refineOptionsUptoRow : OpenClaim := { program := "ytkfejicdjpffcaa", sum := "11fd3bdf540c320603b52a88ccb0af9bb307bd4fe59144b35574a51bc2b83144", func := "incunable/incunablelaw08.RefineOptions", spec := "refineOptions", apart := false, narrowed := true }
def RefineOptionsUptoSaid : Prop := refineOptionsUptoRow.holds Try.pinned (OpenSpec.upto refineOptionsSpec)

/-- 'incunablelaw08.RefineEncodes', WHERE WHAT IT READS IS OF BULK AT MOST 1048576: true; the input reads as it did. -/
def refineEncodesUptoRow : OpenClaim := { program := "ytkfejicdjpffcaa", sum := "11fd3bdf540c320603b52a88ccb0af9bb307bd4fe59144b35574a51bc2b83144", func := "incunable/incunablelaw08.RefineEncodes", spec := "refineEncodes", apart := false, narrowed := true }
def RefineEncodesUptoSaid : Prop := refineEncodesUptoRow.holds Try.pinned (OpenSpec.upto refineEncodesSpec)

/-- 'incunablelaw08.RefineDecodes', WHERE WHAT IT READS IS OF BULK AT MOST 1048576: true; the input reads as it did. -/
def refineDecodesUptoRow : OpenClaim := { program := "ytkfejicdjpffcaa", sum := "11fd3bdf540c320603b52a88ccb0af9bb307bd4fe59144b35574a51bc2b83144", func := "incunable/incunablelaw08.RefineDecodes", spec := "refineDecodes", apart := false, narrowed := true }
def RefineDecodesUptoSaid : Prop := refineDecodesUptoRow.holds Try.pinned (OpenSpec.upto refineDecodesSpec)

/-- 'incunablelaw08.RefineBack', WHERE WHAT IT READS IS OF BULK AT MOST 1048576: true; the input reads as it did. -/
def refineBackUptoRow : OpenClaim := { program := "ytkfejicdjpffcaa", sum := "11fd3bdf540c320603b52a88ccb0af9bb307bd4fe59144b35574a51bc2b83144", func := "incunable/incunablelaw08.RefineBack", spec := "refineBack", apart := false, narrowed := true }
def RefineBackUptoSaid : Prop := refineBackUptoRow.holds Try.pinned (OpenSpec.upto refineBackSpec)

/-- 'incunablelaw08.RefinePuts', WHERE WHAT IT READS IS OF BULK AT MOST 1048576: true; the input reads as it did. -/
def refinePutsUptoRow : OpenClaim := { program := "ytkfejicdjpffcaa", sum := "11fd3bdf540c320603b52a88ccb0af9bb307bd4fe59144b35574a51bc2b83144", func := "incunable/incunablelaw08.RefinePuts", spec := "refinePuts", apart := false, narrowed := true }
def RefinePutsUptoSaid : Prop := refinePutsUptoRow.holds Try.pinned (OpenSpec.upto refinePutsSpec)

/-- 'incunablelaw08.RefineErrors', WHERE WHAT IT READS IS OF BULK AT MOST 1048576: true; the input reads as it did. -/
def refineErrorsUptoRow : OpenClaim := { program := "ytkfejicdjpffcaa", sum := "11fd3bdf540c320603b52a88ccb0af9bb307bd4fe59144b35574a51bc2b83144", func := "incunable/incunablelaw08.RefineErrors", spec := "refineErrors", apart := false, narrowed := true }
def RefineErrorsUptoSaid : Prop := refineErrorsUptoRow.holds Try.pinned (OpenSpec.upto refineErrorsSpec)

/-- 'incunablelaw08.RefineContext', WHERE WHAT IT READS IS OF BULK AT MOST 1048576: true; the input reads as it did. -/
def refineContextUptoRow : OpenClaim := { program := "ytkfejicdjpffcaa", sum := "11fd3bdf540c320603b52a88ccb0af9bb307bd4fe59144b35574a51bc2b83144", func := "incunable/incunablelaw08.RefineContext", spec := "refineContext", apart := false, narrowed := true }
def RefineContextUptoSaid : Prop := refineContextUptoRow.holds Try.pinned (OpenSpec.upto refineContextSpec)

/-- 'incunablelaw08.RefineSame', WHERE WHAT IT READS IS OF BULK AT MOST 1048576: true; the input reads as it did. -/
def refineSameUptoRow : OpenClaim := { program := "ytkfejicdjpffcaa", sum := "11fd3bdf540c320603b52a88ccb0af9bb307bd4fe59144b35574a51bc2b83144", func := "incunable/incunablelaw08.RefineSame", spec := "refineSame", apart := false, narrowed := true }
def RefineSameUptoSaid : Prop := refineSameUptoRow.holds Try.pinned (OpenSpec.upto refineSameSpec)

end Rows
end Go.Proofs.Ytkfejicdjpffcaa
