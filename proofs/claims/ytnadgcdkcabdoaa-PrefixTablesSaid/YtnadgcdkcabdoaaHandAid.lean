import Derived.Test.YtnadgcdkcabdoaaAid
-- needs: Aid
import Derived.Test.YtnadgcdkcabdoaaProg
import Derived.Below
import Derived.Deep.Draws
import Derived.Deep.AppendLies
import Derived.Maps.AppendAt
import Derived.OwnWalk
import Derived.Laws.BytesArg
import Derived.Laws.MakeOwn
import Derived.Laws.OwnMore
import Derived.Deep.OwnRows
import Derived.Tactics
import Derived.Lib.ConvBytes
import Derived.Laws.Slices
import Derived.WalkKit
import Derived.KernelRfl
import Derived.RowKit3
import Derived.Deep.LoopGhost
import Derived.Deep.QuietTactic
import Derived.BigQuiet
import Derived.WideLaws
import Derived.Deep.DeepCutAuto
import Derived.Deep.CutBlock
import Derived.Deep.RegionHeld3
import Derived.Laws.Rows
import Derived.Lib.AppendStr
import Derived.ArgAppend
import Derived.Laws.IdiomCopy
import Derived.OrdersHeld
import Derived.Laws.BitsLemmas
import Derived.RowKit
import Derived.Test.YtnadgcdkcabdoaaWWords
import Derived.Test.YtnadgcdkcabdoaaWLast
import Derived.Test.YtnadgcdkcabdoaaWTab
import Derived.Test.YtnadgcdkcabdoaaWFour
import Derived.Test.YtnadgcdkcabdoaaWQPut
import Derived.Test.YtnadgcdkcabdoaaWApart
import Derived.Test.YtnadgcdkcabdoaaWArr
import Derived.Test.YtnadgcdkcabdoaaWZeros
import Derived.Test.YtnadgcdkcabdoaaWFoot
import Derived.Test.YtnadgcdkcabdoaaWKept
import Derived.Test.YtnadgcdkcabdoaaWShare
import Derived.Test.YtnadgcdkcabdoaaWN
import Derived.Test.YtnadgcdkcabdoaaWFootNe
import Derived.Test.YtnadgcdkcabdoaaWAt
import Derived.Test.YtnadgcdkcabdoaaWEqStruct
import Derived.Test.YtnadgcdkcabdoaaWRepsOne
import Derived.Test.YtnadgcdkcabdoaaWInv
import Derived.Test.YtnadgcdkcabdoaaWInvWords
import Derived.Test.YtnadgcdkcabdoaaWGuard
import Derived.Test.YtnadgcdkcabdoaaWNEv
import Derived.Test.YtnadgcdkcabdoaaWMore
namespace Go.Proofs.Ytnadgcdkcabdoaa.HandAid
open Go Go.RowKit Go.Proofs.YtnadgcdkcabdoaaW.PrintWords Go.Proofs.YtnadgcdkcabdoaaW.PrintLast Go.Proofs.YtnadgcdkcabdoaaW.PrintMore Go.Proofs.Ytnadgcdkcabdoaa.Aid
set_option linter.unusedVariables false
set_option linter.unusedSimpArgs false
theorem ret_int {k : IntKind} {a b : Int} (h : a = b) : Ending.returned (.int k a) = .returned (.int k b) := by rw [h]
theorem ret2_int {k k' : IntKind} {a a' b b' : Int} (h : a = a') (h' : b = b') : Ending.returned (.tuple #[.int k a, .int k' b]) = .returned (.tuple #[.int k a', .int k' b']) := by rw [h, h']
theorem grown_drewN {w wr : World} {row : Option Nat} (h : w.grownBy wr row) (m : Nat) : w.grownBy (wr.drewN m) row := ⟨h.os, h.tape, h.output, h.size, h.block⟩
theorem grown_set {w wr : World} {g i : Nat} {v : Value} (h : w.grownBy wr (some g)) : w.grownBy (wr.setCell ⟨g, i, none⟩ v) (some g) :=
  ⟨h.os, h.tape, h.output, by simpa [World.setCell] using h.size, fun k hk hne => (Below.heap_setCell wr ⟨g, i, none⟩ v k (by intro e; exact hne (by rw [e]))).trans (h.block k hk hne)⟩
theorem heap_new (w : World) (o : Obj) : (w.alloc o).heap[w.heap.size]? = some o := by simpa using heap_alloc_new w o
theorem cell_new (w : World) (cs : Array Value) (t : TypeId) (i : Nat) : (w.alloc (.cells cs t)).cell? ⟨w.heap.size, i, none⟩ = cs[i]? := blk_cell (heap_new w (.cells cs t)) i
theorem below_grown1 {B g : Nat} {w wr w1 : World} (h : Below B w wr) (hB : B ≤ wr.heap.size) (hg : wr.grownBy w1 (some g)) (hr : B ≤ g) : Below B w w1 :=
  h.grown hg hB (fun k hk => by injection hk with hk; omega)
theorem below_undrew {w w1 : World} {m : Nat} (h : Below (w.drewN m).heap.size (w.drewN m) w1) : Below w.heap.size w w1 := ⟨h.os, h.tape, h.output, h.size, h.block⟩
theorem infoU8 : (Try.prog.info? 5).map (fun i => (i.zero, i.size, i.bytes)) = some (some (.int .u8 0), 1, 1) := by kernel_rfl
/-- A piece of a slice of bytes, its address under a name. -/
theorem cutU8 (A : Option Addr) (n c : Nat) (lo hi : Int) (h0 : 0 ≤ lo) (h1 : lo ≤ hi) (h2 : hi ≤ n) (hc : n ≤ c) :
    ∃ A' c', (∀ W : World, (Instr.slice 46 (.slice A n c) (some (.int .i64 lo)) (some (.int .i64 hi)) none).run Try.prog W = .ok (.slice A' (hi.toNat - lo.toNat) c') W) ∧ hi.toNat - lo.toNat ≤ c' ∧
      ∀ (w : World) (l : List Int), l.length = n → Kd.C (Kd.int .u8) w A l.length l → Kd.C (Kd.int .u8) w A' (hi.toNat - lo.toNat) ((l.take hi.toNat).drop lo.toNat) := by
  obtain ⟨i, hi', hz⟩ := Option.map_eq_some_iff.1 infoU8
  simp only [Prod.mk.injEq] at hz
  refine ⟨_, _, cut_mid 46 5 .i64 .i64 Try.underlying46 hi' 1 hz.2.1 A n c lo hi h0 h1 h2 hc, by omega, fun w l hl hC => ?_⟩
  have h := Kd.C_mid (lo := lo.toNat) (hi := hi.toNat) (c := c) hC (by omega) (by omega) (by omega)
  rw [show ((l.take hi.toNat).drop lo.toNat).length = hi.toNat - lo.toNat by simp; omega] at h
  exact h
theorem below_undrew1 {w w1 : World} (h : Below w.drew.heap.size w.drew w1) : Below w.heap.size w w1 := ⟨h.os, h.tape, h.output, h.size, h.block⟩
theorem grown_drew {w wr : World} {row : Option Nat} (h : w.grownBy wr row) : w.grownBy wr.drew row := ⟨h.os, h.tape, h.output, h.size, h.block⟩
theorem wraps_u64 (n : Int) (h₀ : 0 ≤ n) (h₁ : n < 2 ^ 64) : IntKind.u64.wrap n = n := by
  rw [show IntKind.u64.wrap n = n % 18446744073709551616 from by simp [IntKind.wrap, IntKind.bits, IntKind.signed]]
  omega
theorem u64_low32 {x : Int} (h : 0 ≤ x) (h' : x < 2 ^ 64) : Go.bits .and .u64 x 4294967295 = x % 4294967296 := bits_mask .u64 64 (by decide) wraps_u64 32 (by decide) x h h'
theorem u64_or255 {x : Int} (h : 0 ≤ x) (hm : x % 256 = 0) (h' : x < 2 ^ 64) : Go.bits .or .u64 x 255 = x + 255 := bits_join .u64 64 (by decide) wraps_u64 8 x 255 h hm h' (by decide) (by decide) (by decide)
end Go.Proofs.Ytnadgcdkcabdoaa.HandAid
