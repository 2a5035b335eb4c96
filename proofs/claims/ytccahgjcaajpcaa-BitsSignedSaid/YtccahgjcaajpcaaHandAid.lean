import Derived.Test.YtccahgjcaajpcaaAid
-- needs: Aid
import Derived.Test.YtccahgjcaajpcaaProg
import Derived.Below
import Derived.Deep.Draws
import Derived.Deep.AppendLies
import Derived.Maps.AppendAt
import Derived.OwnWalk
import Derived.Laws.BytesArg
import Derived.Laws.MakeOwn
import Derived.Laws.OwnMore
import Derived.Deep.OwnRows
import Derived.Tactics
import Derived.Lib.ConvBytes
import Derived.Laws.Slices
import Derived.WalkKit
import Derived.KernelRfl
import Derived.RowKit3
import Derived.Deep.LoopGhost
import Derived.Deep.QuietTactic
import Derived.BigQuiet
import Derived.WideLaws
import Derived.Deep.DeepCutAuto
import Derived.Deep.CutBlock
import Derived.Deep.RegionHeld3
import Derived.Laws.Rows
import Derived.Lib.AppendStr
import Derived.ArgAppend
import Derived.Laws.IdiomCopy
import Derived.OrdersHeld
import Derived.Laws.BitsLemmas
import Derived.RowKit
import Derived.Test.YtccahgjcaajpcaaWWords
import Derived.Test.YtccahgjcaajpcaaWLast
import Derived.Test.YtccahgjcaajpcaaWTab
import Derived.Test.YtccahgjcaajpcaaWFour
import Derived.Test.YtccahgjcaajpcaaWQPut
import Derived.Test.YtccahgjcaajpcaaWApart
import Derived.Test.YtccahgjcaajpcaaWArr
import Derived.Test.YtccahgjcaajpcaaWZeros
import Derived.Test.YtccahgjcaajpcaaWFoot
import Derived.Test.YtccahgjcaajpcaaWKept
import Derived.Test.YtccahgjcaajpcaaWShare
import Derived.Test.YtccahgjcaajpcaaWN
import Derived.Test.YtccahgjcaajpcaaWFootNe
import Derived.Test.YtccahgjcaajpcaaWAt
import Derived.Test.YtccahgjcaajpcaaWEqStruct
import Derived.Test.YtccahgjcaajpcaaWRepsOne
import Derived.Test.YtccahgjcaajpcaaWInv
import Derived.Test.YtccahgjcaajpcaaWInvWords
import Derived.Test.YtccahgjcaajpcaaWGuard
import Derived.Test.YtccahgjcaajpcaaWNEv
import Derived.Test.YtccahgjcaajpcaaWMore
namespace Go.Proofs.Ytccahgjcaajpcaa.HandAid
open Go Go.RowKit Go.Proofs.YtccahgjcaajpcaaW.PrintWords Go.Proofs.YtccahgjcaajpcaaW.PrintLast Go.Proofs.YtccahgjcaajpcaaW.PrintMore Go.Proofs.Ytccahgjcaajpcaa.Aid
set_option linter.unusedVariables false
theorem ret2_int {k k' : IntKind} {a a' b b' : Int} (h : a = a') (h' : b = b') : Ending.returned (.tuple #[.int k a, .int k' b]) = .returned (.tuple #[.int k a', .int k' b']) := by rw [h, h']
theorem grown_drewN {w wr : World} {row : Option Nat} (h : w.grownBy wr row) (m : Nat) : w.grownBy (wr.drewN m) row := ⟨h.os, h.tape, h.output, h.size, h.block⟩
theorem grown_set {w wr : World} {g i : Nat} {v : Value} (h : w.grownBy wr (some g)) : w.grownBy (wr.setCell ⟨g, i, none⟩ v) (some g) :=
  ⟨h.os, h.tape, h.output, by simpa [World.setCell] using h.size, fun k hk hne => (Below.heap_setCell wr ⟨g, i, none⟩ v k (by intro e; exact hne (by rw [e]))).trans (h.block k hk hne)⟩
end Go.Proofs.Ytccahgjcaajpcaa.HandAid
