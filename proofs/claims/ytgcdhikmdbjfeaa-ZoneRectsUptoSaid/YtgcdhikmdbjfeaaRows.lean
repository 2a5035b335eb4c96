/-
  NARROWER THAN 'FOR EVERY INPUT', by the rows' own cells (each row's printed sentence says how): ZoneFinds: loops · ZoneAll: loops · ZoneRight: loops · ZoneAts: loops · ZoneRects: loops · ZoneSelects: loops · ZoneShifts: loops.
  DERIVED. THE GIVEN ROWS OF THIS SEAT. 7 by the template 'for every input the law returns true; each argument reads behind the call as it read before'; 0 by the template 'total and deterministic' (their statements: YtgcdhikmdbjfeaaTotals.lean).
  GIVEN WITH THE SEED: the statements are not yours to turn. If you find one false, say at which input.
  Laid BY PROGRAM, IN A SANDBOX (cutbox-rows.mjs): the forced cells as the released guide's own fill.sh prints them over the translation 20191eb25f5c7e0e… (all of the seat's roots in one cut). By AI agents, Wed Nov 11 2026. No macro, syntax, notation, axiom, sorry.
-/
import Derived.Test.YtgcdhikmdbjfeaaChecked
import GoSem.Claim
import GoSem.ClaimJoined
import GoSem.ClaimMapViews
import Derived.JoinedTies
import Derived.KernelRfl
namespace Go.Proofs.Ytgcdhikmdbjfeaa
/- THE CELL 'sum', in the pinned program and in every row, IS THE sha256 OF THE DUMP (.gsa) THAT YtgcdhikmdbjfeaaProg.lean LOADS. Nothing in Lean hashes anything: it is a label: what it is worth is what the hold of that sum in a sandbox is worth. -/
noncomputable def Try.pinned : Pinned := { name := "ytgcdhikmdbjfeaa", sum := "20191eb25f5c7e0e4317f209714c1066fcb914be79557d11cd4a5f4238350072", checked := Try.checked }
namespace Rows
def none {H : Type} : Left H := { results := [], args := [] }

/-- 'incunablelaw24.ZoneFinds': WHATEVER THE INPUT: true; the input reads as it did. -/
def zoneFindsSpec : ChangeSpec := { name := "zoneFinds", fn := fun _ => fun
  | [d1, d2] => { results := [.lit (.bool true)], args := [d1, d2] }
  | _ => none }
def zoneFindsRow : OpenClaim := { program := "ytgcdhikmdbjfeaa", sum := "20191eb25f5c7e0e4317f209714c1066fcb914be79557d11cd4a5f4238350072", func := "incunable/incunablelaw24.ZoneFinds", spec := "zoneFinds", inPlace := ["internal/bytealg.IndexByte", "internal/bytealg.Index"], recurses := true, named := ["internal/bytealg.MaxLen"], loops := true, apart := false }
def ZoneFindsSaid : Prop := zoneFindsRow.holds Try.pinned (OpenSpec.ofChange zoneFindsSpec)

/-- ITS FALSE NEIGHBOUR: 'it returns false'. Refute it at one input. -/
def zoneFindsWrong : ChangeSpec := { name := "zoneFinds", fn := fun _ => fun
  | [d1, d2] => { results := [.lit (.bool false)], args := [d1, d2] }
  | _ => none }
def ZoneFindsWrongFalsely : Prop := zoneFindsRow.holds Try.pinned (OpenSpec.ofChange zoneFindsWrong)

/-- 'incunablelaw24.ZoneAll': WHATEVER THE INPUT: true; the input reads as it did. -/
def zoneAllSpec : ChangeSpec := { name := "zoneAll", fn := fun _ => fun
  | [d1, d2] => { results := [.lit (.bool true)], args := [d1, d2] }
  | _ => none }
def zoneAllRow : OpenClaim := { program := "ytgcdhikmdbjfeaa", sum := "20191eb25f5c7e0e4317f209714c1066fcb914be79557d11cd4a5f4238350072", func := "incunable/incunablelaw24.ZoneAll", spec := "zoneAll", inPlace := ["internal/bytealg.IndexByte", "internal/bytealg.Index"], recurses := true, named := ["internal/bytealg.MaxLen"], loops := true, apart := false }
def ZoneAllSaid : Prop := zoneAllRow.holds Try.pinned (OpenSpec.ofChange zoneAllSpec)

/-- ITS FALSE NEIGHBOUR: 'it returns false'. Refute it at one input. -/
def zoneAllWrong : ChangeSpec := { name := "zoneAll", fn := fun _ => fun
  | [d1, d2] => { results := [.lit (.bool false)], args := [d1, d2] }
  | _ => none }
def ZoneAllWrongFalsely : Prop := zoneAllRow.holds Try.pinned (OpenSpec.ofChange zoneAllWrong)

/-- 'incunablelaw24.ZoneRight': WHATEVER THE INPUT: true; the input reads as it did. -/
def zoneRightSpec : ChangeSpec := { name := "zoneRight", fn := fun _ => fun
  | [d1, d2] => { results := [.lit (.bool true)], args := [d1, d2] }
  | _ => none }
def zoneRightRow : OpenClaim := { program := "ytgcdhikmdbjfeaa", sum := "20191eb25f5c7e0e4317f209714c1066fcb914be79557d11cd4a5f4238350072", func := "incunable/incunablelaw24.ZoneRight", spec := "zoneRight", inPlace := ["internal/bytealg.IndexByte", "internal/bytealg.Index"], unfollowed := true, recurses := true, named := ["internal/bytealg.MaxLen"], loops := true, apart := false }
def ZoneRightSaid : Prop := zoneRightRow.holds Try.pinned (OpenSpec.ofChange zoneRightSpec)

/-- ITS FALSE NEIGHBOUR: 'it returns false'. Refute it at one input. -/
def zoneRightWrong : ChangeSpec := { name := "zoneRight", fn := fun _ => fun
  | [d1, d2] => { results := [.lit (.bool false)], args := [d1, d2] }
  | _ => none }
def ZoneRightWrongFalsely : Prop := zoneRightRow.holds Try.pinned (OpenSpec.ofChange zoneRightWrong)

/-- 'incunablelaw24.ZoneAts': WHATEVER THE INPUT: true; the input reads as it did. -/
def zoneAtsSpec : ChangeSpec := { name := "zoneAts", fn := fun _ => fun
  | [d1, d2, d3] => { results := [.lit (.bool true)], args := [d1, d2, d3] }
  | _ => none }
def zoneAtsRow : OpenClaim := { program := "ytgcdhikmdbjfeaa", sum := "20191eb25f5c7e0e4317f209714c1066fcb914be79557d11cd4a5f4238350072", func := "incunable/incunablelaw24.ZoneAts", spec := "zoneAts", inPlace := ["internal/bytealg.IndexByte", "internal/bytealg.Index"], unfollowed := true, recurses := true, named := ["internal/bytealg.MaxLen"], loops := true, apart := false }
def ZoneAtsSaid : Prop := zoneAtsRow.holds Try.pinned (OpenSpec.ofChange zoneAtsSpec)

/-- ITS FALSE NEIGHBOUR: 'it returns false'. Refute it at one input. -/
def zoneAtsWrong : ChangeSpec := { name := "zoneAts", fn := fun _ => fun
  | [d1, d2, d3] => { results := [.lit (.bool false)], args := [d1, d2, d3] }
  | _ => none }
def ZoneAtsWrongFalsely : Prop := zoneAtsRow.holds Try.pinned (OpenSpec.ofChange zoneAtsWrong)

/-- 'incunablelaw24.ZoneRects': WHATEVER THE INPUT: true; the input reads as it did. -/
def zoneRectsSpec : ChangeSpec := { name := "zoneRects", fn := fun _ => fun
  | [d1, d2, d3] => { results := [.lit (.bool true)], args := [d1, d2, d3] }
  | _ => none }
def zoneRectsRow : OpenClaim := { program := "ytgcdhikmdbjfeaa", sum := "20191eb25f5c7e0e4317f209714c1066fcb914be79557d11cd4a5f4238350072", func := "incunable/incunablelaw24.ZoneRects", spec := "zoneRects", inPlace := ["internal/bytealg.IndexByte", "internal/bytealg.Index"], unfollowed := true, recurses := true, named := ["internal/bytealg.MaxLen"], loops := true, apart := false }
def ZoneRectsSaid : Prop := zoneRectsRow.holds Try.pinned (OpenSpec.ofChange zoneRectsSpec)

/-- ITS FALSE NEIGHBOUR: 'it returns false'. Refute it at one input. -/
def zoneRectsWrong : ChangeSpec := { name := "zoneRects", fn := fun _ => fun
  | [d1, d2, d3] => { results := [.lit (.bool false)], args := [d1, d2, d3] }
  | _ => none }
def ZoneRectsWrongFalsely : Prop := zoneRectsRow.holds Try.pinned (OpenSpec.ofChange zoneRectsWrong)

/-- 'incunablelaw24.ZoneSelects': WHATEVER THE INPUT: true; the input reads as it did. -/
def zoneSelectsSpec : ChangeSpec := { name := "zoneSelects", fn := fun _ => fun
  | [d1, d2] => { results := [.lit (.bool true)], args := [d1, d2] }
  | _ => none }
def zoneSelectsRow : OpenClaim := { program := "ytgcdhikmdbjfeaa", sum := "20191eb25f5c7e0e4317f209714c1066fcb914be79557d11cd4a5f4238350072", func := "incunable/incunablelaw24.ZoneSelects", spec := "zoneSelects", inPlace := ["internal/bytealg.IndexByte", "internal/bytealg.Index"], unfollowed := true, recurses := true, named := ["internal/bytealg.MaxLen"], loops := true, apart := false }
def ZoneSelectsSaid : Prop := zoneSelectsRow.holds Try.pinned (OpenSpec.ofChange zoneSelectsSpec)

/-- ITS FALSE NEIGHBOUR: 'it returns false'. Refute it at one input. -/
def zoneSelectsWrong : ChangeSpec := { name := "zoneSelects", fn := fun _ => fun
  | [d1, d2] => { results := [.lit (.bool false)], args := [d1, d2] }
  | _ => none }
def ZoneSelectsWrongFalsely : Prop := zoneSelectsRow.holds Try.pinned (OpenSpec.ofChange zoneSelectsWrong)

/-- 'incunablelaw24.ZoneShifts': WHATEVER THE INPUT: true; the input reads as it did. -/
def zoneShiftsSpec : ChangeSpec := { name := "zoneShifts", fn := fun _ => fun
  | [d1, d2, d3, d4, d5] => { results := [.lit (.bool true)], args := [d1, d2, d3, d4, d5] }
  | _ => none }
def zoneShiftsRow : OpenClaim := { program := "ytgcdhikmdbjfeaa", sum := "20191eb25f5c7e0e4317f209714c1066fcb914be79557d11cd4a5f4238350072", func := "incunable/incunablelaw24.ZoneShifts", spec := "zoneShifts", inPlace := ["internal/bytealg.IndexByte", "internal/bytealg.Index"], unfollowed := true, recurses := true, named := ["internal/bytealg.MaxLen"], loops := true, apart := false }
def ZoneShiftsSaid : Prop := zoneShiftsRow.holds Try.pinned (OpenSpec.ofChange zoneShiftsSpec)

/-- ITS FALSE NEIGHBOUR: 'it returns false'. Refute it at one input. -/
def zoneShiftsWrong : ChangeSpec := { name := "zoneShifts", fn := fun _ => fun
  | [d1, d2, d3, d4, d5] => { results := [.lit (.bool false)], args := [d1, d2, d3, d4, d5] }
  | _ => none }
def ZoneShiftsWrongFalsely : Prop := zoneShiftsRow.holds Try.pinned (OpenSpec.ofChange zoneShiftsWrong)

/- THE SECOND FORM. 'bulk': how many values and letters a reading holds, each counted each time it is reached (what is shared counts as often as it is met; a slice's spare places count too). A statement '..UptoSaid' is the law's where the arguments, and the package variables that the reading takes, are together of bulk at most 1048576: NARROWER than '..Said'. Prove '..Said' where nothing that the law and all that it calls make is longer than what came in: it says more and counts as full. Else prove '..UptoSaid'. A law counts once. -/
mutual
def uptoBulk {H : Type} : DataW H → Nat
  | .lit (.string bytes) => bytes.length + 1
  | .lit _ => 1
  | .nil => 1
  | .ptr d => uptoBulk d + 1
  | .slice elems spare => uptoBulkAll elems + uptoBulkAll spare + 1
  | .agg parts => uptoBulkAll parts + 1
  | .iface _ d => uptoBulk d + 1
  | .map entries => uptoBulkEntries entries + 1
  | .held _ => 1
def uptoBulkAll {H : Type} : List (DataW H) → Nat
  | [] => 0
  | d :: r => uptoBulk d + uptoBulkAll r
def uptoBulkEntries {H : Type} : List (Lit × DataW H) → Nat
  | [] => 0
  | x :: r => uptoBulkEntry x + uptoBulkEntries r
def uptoBulkEntry {H : Type} : Lit × DataW H → Nat
  | (.string bytes, d) => bytes.length + uptoBulk d + 1
  | (_, d) => uptoBulk d + 1
 end
def uptoSmall : (H : Type) → List (DataW H) → Bool := fun _ ds => decide (uptoBulkAll ds ≤ 1048576)
def OpenSpec.upto (s : _root_.Go.ChangeSpec) : _root_.Go.OpenSpec := { _root_.Go.OpenSpec.ofChange s with cond := some uptoSmall }

/-- 'incunablelaw24.ZoneFinds', WHERE WHAT IT READS IS OF BULK AT MOST 1048576: true; the input reads as it did. -/
def zoneFindsUptoRow : OpenClaim := { program := "ytgcdhikmdbjfeaa", sum := "20191eb25f5c7e0e4317f209714c1066fcb914be79557d11cd4a5f4238350072", func := "incunable/incunablelaw24.ZoneFinds", spec := "zoneFinds", inPlace := ["internal/bytealg.IndexByte", "internal/bytealg.Index"], recurses := true, named := ["internal/bytealg.MaxLen"], loops := true, apart := false, narrowed := true }
def ZoneFindsUptoSaid : Prop := zoneFindsUptoRow.holds Try.pinned (OpenSpec.upto zoneFindsSpec)

/-- 'incunablelaw24.ZoneAll', WHERE WHAT IT READS IS OF BULK AT MOST 1048576: true; the input reads as it did. -/
def zoneAllUptoRow : OpenClaim := { program := "ytgcdhikmdbjfeaa", sum := "20191eb25f5c7e0e4317f209714c1066fcb914be79557d11cd4a5f4238350072", func := "incunable/incunablelaw24.ZoneAll", spec := "zoneAll", inPlace := ["internal/bytealg.IndexByte", "internal/bytealg.Index"], recurses := true, named := ["internal/bytealg.MaxLen"], loops := true, apart := false, narrowed := true }
def ZoneAllUptoSaid : Prop := zoneAllUptoRow.holds Try.pinned (OpenSpec.upto zoneAllSpec)

/-- 'incunablelaw24.ZoneRight', WHERE WHAT IT READS IS OF BULK AT MOST 1048576: true; the input reads as it did. -/
def zoneRightUptoRow : OpenClaim := { program := "ytgcdhikmdbjfeaa", sum := "20191eb25f5c7e0e4317f209714c1066fcb914be79557d11cd4a5f4238350072", func := "incunable/incunablelaw24.ZoneRight", spec := "zoneRight", inPlace := ["internal/bytealg.IndexByte", "internal/bytealg.Index"], unfollowed := true, recurses := true, named := ["internal/bytealg.MaxLen"], loops := true, apart := false, narrowed := true }
def ZoneRightUptoSaid : Prop := zoneRightUptoRow.holds Try.pinned (OpenSpec.upto zoneRightSpec)

/-- 'incunablelaw24.ZoneAts', WHERE WHAT IT READS IS OF BULK AT MOST 1048576: true; the input reads as it did. -/
def zoneAtsUptoRow : OpenClaim := { program := "ytgcdhikmdbjfeaa", sum := "20191eb25f5c7e0e4317f209714c1066fcb914be79557d11cd4a5f4238350072", func := "incunable/incunablelaw24.ZoneAts", spec := "zoneAts", inPlace := ["internal/bytealg.IndexByte", "internal/bytealg.Index"], unfollowed := true, recurses := true, named := ["internal/bytealg.MaxLen"], loops := true, apart := false, narrowed := true }
def ZoneAtsUptoSaid : Prop := zoneAtsUptoRow.holds Try.pinned (OpenSpec.upto zoneAtsSpec)

/-- 'incunablelaw24.ZoneRects', WHERE WHAT IT READS IS OF BULK AT MOST 1048576: true; the input reads as it did. -/
def zoneRectsUptoRow : OpenClaim := { program := "ytgcdhikmdbjfeaa", sum := "20191eb25f5c7e0e4317f209714c1066fcb914be79557d11cd4a5f4238350072", func := "incunable/incunablelaw24.ZoneRects", spec := "zoneRects", inPlace := ["internal/bytealg.IndexByte", "internal/bytealg.Index"], unfollowed := true, recurses := true, named := ["internal/bytealg.MaxLen"], loops := true, apart := false, narrowed := true }
def ZoneRectsUptoSaid : Prop := zoneRectsUptoRow.holds Try.pinned (OpenSpec.upto zoneRectsSpec)

/-- 'incunablelaw24.ZoneSelects', WHERE WHAT IT READS IS OF BULK AT MOST 1048576: true; the input reads as it did. -/
def zoneSelectsUptoRow : OpenClaim := { program := "ytgcdhikmdbjfeaa", sum := "20191eb25f5c7e0e4317f209714c1066fcb914be79557d11cd4a5f4238350072", func := "incunable/incunablelaw24.ZoneSelects", spec := "zoneSelects", inPlace := ["internal/bytealg.IndexByte", "internal/bytealg.Index"], unfollowed := true, recurses := true, named := ["internal/bytealg.MaxLen"], loops := true, apart := false, narrowed := true }
def ZoneSelectsUptoSaid : Prop := zoneSelectsUptoRow.holds Try.pinned (OpenSpec.upto zoneSelectsSpec)

/-- 'incunablelaw24.ZoneShifts', WHERE WHAT IT READS IS OF BULK AT MOST 1048576: true; the input reads as it did. -/
def zoneShiftsUptoRow : OpenClaim := { program := "ytgcdhikmdbjfeaa", sum := "20191eb25f5c7e0e4317f209714c1066fcb914be79557d11cd4a5f4238350072", func := "incunable/incunablelaw24.ZoneShifts", spec := "zoneShifts", inPlace := ["internal/bytealg.IndexByte", "internal/bytealg.Index"], unfollowed := true, recurses := true, named := ["internal/bytealg.MaxLen"], loops := true, apart := false, narrowed := true }
def ZoneShiftsUptoSaid : Prop := zoneShiftsUptoRow.holds Try.pinned (OpenSpec.upto zoneShiftsSpec)

end Rows
end Go.Proofs.Ytgcdhikmdbjfeaa
