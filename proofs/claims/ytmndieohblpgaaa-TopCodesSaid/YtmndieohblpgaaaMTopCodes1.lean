import Derived.Test.YtmndieohblpgaaaProg
import Derived.Below
import Derived.Deep.Draws
import Derived.Deep.AppendLies
import Derived.Maps.AppendAt
import Derived.OwnWalk
import Derived.Laws.BytesArg
import Derived.Laws.MakeOwn
import Derived.Laws.OwnMore
import Derived.Deep.OwnRows
import Derived.Tactics
import Derived.Lib.ConvBytes
import Derived.Laws.Slices
import Derived.WalkKit
import Derived.KernelRfl
import Derived.RowKit3
import Derived.Deep.LoopGhost
import Derived.Deep.QuietTactic
import Derived.BigQuiet
import Derived.WideLaws
import Derived.Deep.DeepCutAuto
import Derived.Deep.CutBlock
import Derived.Deep.RegionHeld3
import Derived.Laws.Rows
import Derived.Lib.AppendStr
import Derived.ArgAppend
import Derived.Laws.IdiomCopy
import Derived.OrdersHeld
import Derived.Laws.BitsLemmas
import Derived.RowKit
import Derived.Test.YtmndieohblpgaaaMTopCodes0
import Derived.Shelf.Small.Bits
import Derived.Shelf.Strconv.Itoa0
import Derived.Lib.ItoaNum
import Derived.Laws.CopyOwn
import Derived.Deep.MidRow
set_option linter.unusedVariables false
set_option linter.unusedSimpArgs false
namespace Go.Proofs.Ytmndieohblpgaaa.U
open Go.RowKit YtmndieohblpgaaaW PrintWords PrintLast PrintMore
attribute [local go_sem] max2_int min2_int max_two min_two max_three min_three max_four min_four
def errW : Option Int → Value
 | none => .nilIface
 | some c => .iface 0 (.int .i64 c)
theorem errW_none : errW none = .nilIface := rfl
theorem errW_some (c : Int) : errW (some c) = .iface 0 (.int .i64 c) := rfl
theorem info3 : (Try.prog.info? 3).map (fun i => (i.zero, i.size, i.bytes)) = some (some (.int .i64 0), 1, 8) := by kernel_rfl
theorem info5 : (Try.prog.info? 5).map (fun i => (i.zero, i.size, i.bytes)) = some (some (.int .u8 0), 1, 1) := by kernel_rfl
theorem info28 : (Try.prog.info? 28).map (fun i => (i.zero, i.size, i.bytes)) = some (some (.agg #[(.bool false), (.int .i64 0)]), 2, 16) := by kernel_rfl
theorem info46 : (Try.prog.info? 46).map (fun i => (i.zero, i.size, i.bytes)) = some (some (.agg #[(.int .i64 0), (.int .i64 0)]), 2, 16) := by kernel_rfl
structure S46 where
 f0 : Int
 f1 : Int
def z46 : S46 := ⟨(0 : Int), (0 : Int)⟩
def k46 : Kd S46 := Kd.iso (Kd.pair (Kd.int .i64) (Kd.int .i64)) (fun x : S46 => (x.f0, x.f1))
theorem k46_open {w : World} {x : S46} {cs : List Value} (h : k46.K w x cs) : cs = [.int .i64 x.f0, .int .i64 x.f1] := by
 obtain ⟨_, _, rfl, rfl, rfl⟩ := h; exact rfl
theorem k46_mkM (w : World) (base : Nat) (ok : Nat → Prop) (x : S46)  : k46.M w base ok x [.int .i64 x.f0, .int .i64 x.f1] := ⟨[.int .i64 x.f0], [.int .i64 x.f1], rfl, rfl, rfl⟩
def rd_T46 (xs : List S46) (i : Int) : S46 := xs.getD i.toNat z46
theorem at_T46 {w : World} {A : Option Addr} {n : Nat} {xs : List S46} (h : Kd.C k46 w A n xs) (i : Int) (h0 : 0 ≤ i) (h1 : i < n) : ∃ ad , A = some ad ∧ w.cell? (ad.add (i.toNat * 2)) = some (.int .i64 (rd_T46 xs i).f0) ∧ w.cell? ⟨(ad.add (i.toNat * 2)).block, (ad.add (i.toNat * 2)).off + 1, none⟩ = some (.int .i64 (rd_T46 xs i).f1) := by
 obtain ⟨ad, c, e, _, hK, hc0⟩ := Kd.C_get h z46 i h0 h1; have hc : ∀ j u, c[j]? = some u → w.cell? (ad.add (i.toNat * 2 + j)) = some u := hc0; obtain rfl := k46_open hK; exact ⟨ad, e, hc 0 _ rfl, by rw [← add_field _ _ 1 (by omega)]; exact hc 1 _ rfl⟩
structure S28 where
 f0 : Bool
 f1 : Int
def z28 : S28 := ⟨false, (0 : Int)⟩
def k28 : Kd S28 := Kd.iso (Kd.pair Kd.bool (Kd.int .i64)) (fun x : S28 => (x.f0, x.f1))
theorem k28_open {w : World} {x : S28} {cs : List Value} (h : k28.K w x cs) : cs = [.bool x.f0, .int .i64 x.f1] := by
 obtain ⟨_, _, rfl, rfl, rfl⟩ := h; exact rfl
theorem k28_mkM (w : World) (base : Nat) (ok : Nat → Prop) (x : S28)  : k28.M w base ok x [.bool x.f0, .int .i64 x.f1] := ⟨[.bool x.f0], [.int .i64 x.f1], rfl, rfl, rfl⟩
def rd_T28 (xs : List S28) (i : Int) : S28 := xs.getD i.toNat z28
theorem at_T28 {w : World} {A : Option Addr} {n : Nat} {xs : List S28} (h : Kd.C k28 w A n xs) (i : Int) (h0 : 0 ≤ i) (h1 : i < n) : ∃ ad , A = some ad ∧ w.cell? (ad.add (i.toNat * 2)) = some (.bool (rd_T28 xs i).f0) ∧ w.cell? ⟨(ad.add (i.toNat * 2)).block, (ad.add (i.toNat * 2)).off + 1, none⟩ = some (.int .i64 (rd_T28 xs i).f1) := by
 obtain ⟨ad, c, e, _, hK, hc0⟩ := Kd.C_get h z28 i h0 h1; have hc : ∀ j u, c[j]? = some u → w.cell? (ad.add (i.toNat * 2 + j)) = some u := hc0; obtain rfl := k28_open hK; exact ⟨ad, e, hc 0 _ rfl, by rw [← add_field _ _ 1 (by omega)]; exact hc 1 _ rfl⟩
def rd_L4 (xs : List (List S28)) (i : Int) : (List S28) := xs.getD i.toNat ([] : List S28)
theorem at_L4 {w : World} {A : Option Addr} {n : Nat} {xs : List (List S28)} (h : Kd.C (Kd.slice 28 k28) w A n xs) (i : Int) (h0 : 0 ≤ i) (h1 : i < n) : ∃ ad A0 c0, A = some ad ∧ w.cell? (ad.add i.toNat) = some (.slice A0 (rd_L4 xs i).length c0) ∧ (rd_L4 xs i).length ≤ c0 ∧ k28.C w A0 (rd_L4 xs i).length (rd_L4 xs i) := by
 obtain ⟨ad, c, e, _, hK, hc0⟩ := Kd.C_get h ([] : List S28) i h0 h1; have hc : ∀ j u, c[j]? = some u → w.cell? (ad.add (i.toNat * 1 + j)) = some u := hc0; obtain ⟨A0, c0, rfl, l0, g0⟩ := hK; exact ⟨ad, A0, c0, e, by have hq := hc 0 _ rfl; rwa [Nat.mul_one, Nat.add_zero] at hq, l0, g0⟩
structure S8 where
 f0 : Int
 f1 : Int
 f2 : Bool
 f3 : Int
def z8 : S8 := ⟨(0 : Int), (0 : Int), false, (0 : Int)⟩
def incunableref03_Valid.f (a0_0 : Bool) (a0_1 : Int) : Option (Bool) := if a0_0 = true then (some (a0_1 == 0)) else (if a0_1 ≥ (-1048576) then (some (decide (a0_1 ≤ 1048576))) else (some false))
set_option maxHeartbeats 8000000 in
set_option maxRecDepth 100000 in
theorem incunableref03_Valid.calls (a0_0 : Bool) (a0_1 : Int) (r : Bool) (w : World) (h : incunableref03_Valid.f a0_0 a0_1 = some r) :
 Calls Try.prog 4 #[.agg #[.bool a0_0, .int .i64 a0_1]] w fun e w' => e = .returned (.bool r) ∧ Below w.heap.size w w' := by
 have hu28 := Try.underlying28; have HB := A' (Below.refl w.heap.size w); have H : (if a0_0 = true then (some (a0_1 == 0)) else (if a0_1 ≥ (-1048576) then (some (decide (a0_1 ≤ 1048576))) else (some false))) = some r := h; clear h; by_cases c2 : a0_0 = true
 (· subst c2; (have H1 : (some (a0_1 == 0)) = some r := by rw [if_pos rfl] at H; exact H); clear H; have H := H1; clear H1; obtain rfl := Option.some.inj H; go_enter Try.func4, Try.ntmps4; go_wp2_with (first | ((with_reducible refine gate_dst (N := 1) rfl ?_); refine box_event ?hg (N := 1) ?hd (cs := #[.bool true, .int .i64 a0_1]) (t := 28) ?hr ?_; (case hd => rfl); (case hg => rfl); (case hr => first | (go_simp; done) | (go_simp; rfl)); intro gb101 hg w3 hbox hb; have n0_ := A' (below_step (by repeat (first | (with_reducible first | exact HB.out | apply below_alloc | apply pw_below_drewN | apply below_drew1) | exact HB.out)) hb); have n1_ := A' (hbox); have n2_ := A' ((by rw [hg]; exact (below_size (by repeat (first | (with_reducible first | exact HB.out | apply below_alloc | apply pw_below_drewN | apply below_drew1) | exact HB.out))) : w.heap.size ≤ gb101)); have n3_ := A' ((by rw [hg]; exact (below_size (by repeat (first | (with_reducible first | exact HB.out | apply below_alloc | apply pw_below_drewN | apply below_drew1) | exact HB.out))) : w.heap.size ≤ gb101)); clear HB; have HB := n0_; have BK101 := n1_; have GW101 := n2_; have GE101 := n3_; clear n0_ n1_ n2_ n3_; clear hb hbox hg; have hcz4_0 : w3.cell? ⟨gb101, 0, none⟩ = some (.bool true) := (blk_cell BK101.out 0).trans rfl; have hcz4_1 : w3.cell? ⟨gb101, 1, none⟩ = some (.int .i64 a0_1) := (blk_cell BK101.out 1).trans rfl; have hfz4_0 := blk_frozen BK101.out 0; have hfz4_1 := blk_frozen BK101.out 1)); go_ret; (exact ⟨by first | rfl | (simp [errW_none, errW_some] <;> rfl) | (simp [*, errW_none, errW_some] <;> rfl), by repeat (first | (with_reducible first | exact HB.out | apply below_alloc | apply pw_below_drewN | apply below_drew1 | refine below_set ?_ GE101.out) | exact HB.out)⟩))
 (· replace c2 := Bool.eq_false_iff.mpr c2; subst c2; (have H1 : (if a0_1 ≥ (-1048576) then (some (decide (a0_1 ≤ 1048576))) else (some false)) = some r := by rw [if_neg (show ¬ (false = true) by decide)] at H; exact H); clear H; have H := H1; clear H1; by_cases c5 : a0_1 ≥ (-1048576); (· rw [if_pos c5] at H; have c5b0 : decide ((-1048576) ≤ a0_1) = true := decide_eq_true c5; clear c5; obtain rfl := Option.some.inj H; go_enter Try.func4, Try.ntmps4; go_wp2_with (first | ((with_reducible refine gate_dst (N := 1) rfl ?_); refine box_event ?hg (N := 1) ?hd (cs := #[.bool false, .int .i64 a0_1]) (t := 28) ?hr ?_; (case hd => rfl); (case hg => rfl); (case hr => first | (go_simp; done) | (go_simp; rfl)); intro gb101 hg w6 hbox hb; have n0_ := A' (below_step (by repeat (first | (with_reducible first | exact HB.out | apply below_alloc | apply pw_below_drewN | apply below_drew1) | exact HB.out)) hb); have n1_ := A' (hbox); have n2_ := A' ((by rw [hg]; exact (below_size (by repeat (first | (with_reducible first | exact HB.out | apply below_alloc | apply pw_below_drewN | apply below_drew1) | exact HB.out))) : w.heap.size ≤ gb101)); have n3_ := A' ((by rw [hg]; exact (below_size (by repeat (first | (with_reducible first | exact HB.out | apply below_alloc | apply pw_below_drewN | apply below_drew1) | exact HB.out))) : w.heap.size ≤ gb101)); clear HB; have HB := n0_; have BK101 := n1_; have GW101 := n2_; have GE101 := n3_; clear n0_ n1_ n2_ n3_; clear hb hbox hg; have hcz7_0 : w6.cell? ⟨gb101, 0, none⟩ = some (.bool false) := (blk_cell BK101.out 0).trans rfl; have hcz7_1 : w6.cell? ⟨gb101, 1, none⟩ = some (.int .i64 a0_1) := (blk_cell BK101.out 1).trans rfl; have hfz7_0 := blk_frozen BK101.out 0; have hfz7_1 := blk_frozen BK101.out 1)); go_ret; (exact ⟨by first | rfl | (simp [errW_none, errW_some] <;> rfl) | (simp [*, errW_none, errW_some] <;> rfl), by repeat (first | (with_reducible first | exact HB.out | apply below_alloc | apply pw_below_drewN | apply below_drew1 | refine below_set ?_ GE101.out) | exact HB.out)⟩)); (· rw [if_neg c5] at H; have c5b0 : decide ((-1048576) ≤ a0_1) = false := decide_eq_false c5; clear c5; obtain rfl := Option.some.inj H; go_enter Try.func4, Try.ntmps4; go_wp2_with (first | ((with_reducible refine gate_dst (N := 1) rfl ?_); refine box_event ?hg (N := 1) ?hd (cs := #[.bool false, .int .i64 a0_1]) (t := 28) ?hr ?_; (case hd => rfl); (case hg => rfl); (case hr => first | (go_simp; done) | (go_simp; rfl)); intro gb101 hg w8 hbox hb; have n0_ := A' (below_step (by repeat (first | (with_reducible first | exact HB.out | apply below_alloc | apply pw_below_drewN | apply below_drew1) | exact HB.out)) hb); have n1_ := A' (hbox); have n2_ := A' ((by rw [hg]; exact (below_size (by repeat (first | (with_reducible first | exact HB.out | apply below_alloc | apply pw_below_drewN | apply below_drew1) | exact HB.out))) : w.heap.size ≤ gb101)); have n3_ := A' ((by rw [hg]; exact (below_size (by repeat (first | (with_reducible first | exact HB.out | apply below_alloc | apply pw_below_drewN | apply below_drew1) | exact HB.out))) : w.heap.size ≤ gb101)); clear HB; have HB := n0_; have BK101 := n1_; have GW101 := n2_; have GE101 := n3_; clear n0_ n1_ n2_ n3_; clear hb hbox hg; have hcz9_0 : w8.cell? ⟨gb101, 0, none⟩ = some (.bool false) := (blk_cell BK101.out 0).trans rfl; have hcz9_1 : w8.cell? ⟨gb101, 1, none⟩ = some (.int .i64 a0_1) := (blk_cell BK101.out 1).trans rfl; have hfz9_0 := blk_frozen BK101.out 0; have hfz9_1 := blk_frozen BK101.out 1)); go_ret; (exact ⟨by first | rfl | (simp [errW_none, errW_some] <;> rfl) | (simp [*, errW_none, errW_some] <;> rfl), by repeat (first | (with_reducible first | exact HB.out | apply below_alloc | apply pw_below_drewN | apply below_drew1 | refine below_set ?_ GE101.out) | exact HB.out)⟩)))
end Go.Proofs.Ytmndieohblpgaaa.U
namespace Go.Proofs.Ytmndieohblpgaaa.Aid
open Go Go.RowKit YtmndieohblpgaaaW PrintWords PrintLast PrintMore
theorem wrap_id {n : Int} (h : -9223372036854775808 ≤ n) (h' : n ≤ 9223372036854775807) : wrap64 n = n := by
 unfold wrap64; omega
theorem tdiv_id {a b : Int} (h : 0 ≤ a) : Int.tdiv a b = a / b := Int.tdiv_eq_ediv_of_nonneg h
theorem tmod_id {a b : Int} (h : 0 ≤ a) : Int.tmod a b = a % b := Int.tmod_eq_emod_of_nonneg h
theorem ev_succ {α : Type} {g : Nat → Option α} {r : α} (h : Ev (fun k => g (k + 1)) r) : Ev g r := Ev.step (fun _ => rfl) h
theorem ev_pos {α : Type} {c : Prop} [Decidable c] {a b : Nat → Option α} {r : α} (hc : c) (h : Ev a r) : Ev (fun k => if c then a k else b k) r :=
 Ev.congr (fun _ => if_pos hc) h
theorem ev_neg {α : Type} {c : Prop} [Decidable c] {a b : Nat → Option α} {r : α} (hc : ¬ c) (h : Ev b r) : Ev (fun k => if c then a k else b k) r :=
 Ev.congr (fun _ => if_neg hc) h
theorem ev_some {α β : Type} {f : Nat → α → Option β} {a : α} {r : β} (h : Ev (fun n => f n a) r) : Ev (fun n => (some a).bind (f n)) r := h
theorem ev_bind {α β : Type} {g : Nat → Option α} {f : Nat → α → Option β} {a : α} {r : β} (h : Ev g a) (k : Ev (fun n => f n a) r) : Ev (fun n => (g n).bind (f n)) r := Ev.bind h k
theorem ev_const {α : Type} {o : Option α} {r : α} (h : o = some r) : Ev (fun _ => o) r := ⟨0, fun _ _ => h⟩
theorem ev_pure {α β : Type} {o : Option α} {f : Nat → α → Option β} {a : α} {r : β} (h : o = some a) (k : Ev (fun n => f n a) r) : Ev (fun n => o.bind (f n)) r := ev_bind (ev_const h) k
theorem ev_eq {α : Type} {g : Nat → Option α} {r r' : α} (h : Ev g r) (e : r = r') : Ev g r' := e ▸ h
/-- A list of bytes. -/
def Bytes (l : List Int) : Prop := ∀ x ∈ l, 0 ≤ x ∧ x ≤ 255
theorem rd_at {l : List Int} {i : Nat} (h : i < l.length) : rd l (i : Int) = l[i] := by
 simp [rd, List.getD_eq_getElem?_getD, List.getElem?_eq_getElem h]
theorem bytes_rd {l : List Int} (h : Bytes l) {i : Nat} (hi : i < l.length) : 0 ≤ rd l (i : Int) ∧ rd l (i : Int) ≤ 255 := by
 rw [rd_at hi]; exact h _ (List.getElem_mem hi)
theorem drop_rd {l : List Int} {i : Nat} (h : i < l.length) : l.drop i = rd l (i : Int) :: l.drop (i + 1) := by
 rw [rd_at h]; exact List.drop_eq_getElem_cons h
theorem bytes_rdI {l : List Int} (h : Bytes l) {i : Int} (h0 : 0 ≤ i) (hi : i < l.length) : 0 ≤ rd l i ∧ rd l i ≤ 255 := by
 obtain ⟨j, rfl⟩ : ∃ j : Nat, i = (j : Int) := ⟨i.toNat, by omega⟩
 exact bytes_rd h (by omega)
theorem rd_mem {l : List Int} {i : Int} (h0 : 0 ≤ i) (h : i < l.length) : rd l i ∈ l := by
 obtain ⟨j, rfl⟩ : ∃ j : Nat, i = (j : Int) := ⟨i.toNat, by omega⟩
 rw [rd_at (by omega)]
 exact List.getElem_mem _
end Go.Proofs.Ytmndieohblpgaaa.Aid
namespace Go.Proofs.Ytmndieohblpgaaa.HandAid
open Go Go.RowKit YtmndieohblpgaaaW PrintWords PrintLast PrintMore Aid
theorem ret_int {k : IntKind} {a b : Int} (h : a = b) : Ending.returned (.int k a) = .returned (.int k b) := by rw [h]
theorem heap_new (w : World) (o : Obj) : (w.alloc o).heap[w.heap.size]? = some o := by simpa using heap_alloc_new w o
theorem cell_new (w : World) (cs : Array Value) (t : TypeId) (i : Nat) : (w.alloc (.cells cs t)).cell? ⟨w.heap.size, i, none⟩ = cs[i]? := blk_cell (heap_new w (.cells cs t)) i
theorem infoU8 : (Try.prog.info? 5).map (fun i => (i.zero, i.size, i.bytes)) = some (some (.int .u8 0), 1, 1) := by kernel_rfl
theorem below_undrew1 {w w1 : World} (h : Below w.drew.heap.size w.drew w1) : Below w.heap.size w w1 := ⟨h.os, h.tape, h.output, h.size, h.block⟩
theorem wraps_u64 (n : Int) (h₀ : 0 ≤ n) (h₁ : n < 2 ^ 64) : IntKind.u64.wrap n = n := by
 rw [show IntKind.u64.wrap n = n % 18446744073709551616 from by simp [IntKind.wrap, IntKind.bits, IntKind.signed]]
 omega
theorem u64_low32 {x : Int} (h : 0 ≤ x) (h' : x < 2 ^ 64) : Go.bits .and .u64 x 4294967295 = x % 4294967296 := bits_mask .u64 64 (by decide) wraps_u64 32 (by decide) x h h'
theorem u64_or255 {x : Int} (h : 0 ≤ x) (hm : x % 256 = 0) (h' : x < 2 ^ 64) : Go.bits .or .u64 x 255 = x + 255 := bits_join .u64 64 (by decide) wraps_u64 8 x 255 h hm h' (by decide) (by decide) (by decide)
end Go.Proofs.Ytmndieohblpgaaa.HandAid
/-
 DERIVED: THE SHELF's CONTRACTS AT THIS DUMP, IN PLAIN WORDS (tools/lay-plain.mjs out of 'TryShelf.lean', which tools/lay-shelf.mjs wrote): THE SAME DECLARATIONS UNDER THE SAME NAMES: 'import', 'namespace', 'open', 'def', 'theorem' AND NOTHING ELSE: no command of the shelf's: FOR A HAND-IN. Each laying: the table of numbers ('.._ren') and one theorem, a field a fact of the dump's own or the kernel's comparison; each contract: ONE APPLICATION.
-/
namespace Go.Proofs
open Go.Shelf
def Try.lays125_ren : Go.Shelf.Ren := ⟨fun | 125 => 25 | 128 => 36 | 129 => 37 | n => n, fun | 46 => 73 | 3 => 3 | 51 => 87 | 53 => 65 | 4 => 4 | 5 => 5 | 9 => 9 | n => n, fun | n => n⟩
theorem Try.lays125 : Go.Proofs.Lays.n125 Try.prog Try.lays125_ren := {
 mixed := by kernel_rfl
 f125 := Try.func25.trans (congrArg some (by kernel_rfl))
 f128 := Try.func36.trans (congrArg some (by kernel_rfl))
 f129 := Try.func37.trans (congrArg some (by kernel_rfl))
 t3 := Try.underlying3
 a3 := Try.isAgg3
 z3 := Try.sizeOf3
 v3 := Try.zeroValue3
 t4 := Try.underlying4
 a4 := Try.isAgg4
 z4 := Try.sizeOf4
 v4 := Try.zeroValue4
 t5 := Try.underlying5
 a5 := Try.isAgg5
 z5 := Try.sizeOf5
 v5 := Try.zeroValue5
 t9 := Try.underlying9
 a9 := Try.isAgg9
 z9 := Try.sizeOf9
 v9 := Try.zeroValue9
 t46 := Try.underlying73
 a46 := Try.isAgg73
 z46 := Try.sizeOf73
 v46 := Try.zeroValue73
 t51 := Try.underlying87
 a51 := Try.isAgg87
 z51 := Try.sizeOf87
 v51 := Try.zeroValue87
 t53 := Try.underlying65
 a53 := Try.isAgg65
 z53 := Try.sizeOf65
 v53 := Try.zeroValue65 }
/-- bits.Len: "Len returns the minimum number of bits required to represent x; the result is 0 for x == 0.": IT RETURNS 'Lib.bitLen x'; the world is as it was. (A uint has 64 bits in the model.) ITS CALLEE bits.Len64 IS MET BY ITS OWN CONTRACT OFF THE SHELF (lay that first). (LAID: no walk: one application.) -/
theorem Try.bits_Len (x : Int) (w : World) (h0 : 0 ≤ x) (h1 : x ≤ 18446744073709551615) :
 Calls Try.prog 25 #[.int .u64 x] w fun e w' => e = .returned (.int .i64 (Lib.bitLen x.toNat)) ∧ w' = w := Any.bits_Len Try.lays125 x w h0 h1
end Go.Proofs
namespace Go.Proofs.Ytmndieohblpgaaa.U
open Go.RowKit YtmndieohblpgaaaW PrintWords PrintLast PrintMore
attribute [local go_sem] max2_int min2_int max_two min_two max_three min_three max_four min_four
def number_Valid.f (a0_0 : Bool) (a0_1 : Int) : Option (Bool) := if a0_0 = true then (some (a0_1 == 0)) else (if a0_1 ≥ (-1048576) then (some (decide (a0_1 ≤ 1048576))) else (some false))
set_option maxHeartbeats 8000000 in
set_option maxRecDepth 100000 in
theorem number_Valid.calls (a0_0 : Bool) (a0_1 : Int) (r : Bool) (w : World) (h : number_Valid.f a0_0 a0_1 = some r) :
 Calls Try.prog 16 #[.agg #[.bool a0_0, .int .i64 a0_1]] w fun e w' => e = .returned (.bool r) ∧ Below w.heap.size w w' := by
 have hu28 := Try.underlying28; have HB := A' (Below.refl w.heap.size w); have H : (if a0_0 = true then (some (a0_1 == 0)) else (if a0_1 ≥ (-1048576) then (some (decide (a0_1 ≤ 1048576))) else (some false))) = some r := h; clear h; by_cases c2 : a0_0 = true
 (· subst c2; (have H1 : (some (a0_1 == 0)) = some r := by rw [if_pos rfl] at H; exact H); clear H; have H := H1; clear H1; obtain rfl := Option.some.inj H; go_enter Try.func16, Try.ntmps16; go_wp2_with (first | ((with_reducible refine gate_dst (N := 1) rfl ?_); refine box_event ?hg (N := 1) ?hd (cs := #[.bool true, .int .i64 a0_1]) (t := 28) ?hr ?_; (case hd => rfl); (case hg => rfl); (case hr => first | (go_simp; done) | (go_simp; rfl)); intro gb102 hg w3 hbox hb; have n0_ := A' (below_step (by repeat (first | (with_reducible first | exact HB.out | apply below_alloc | apply pw_below_drewN | apply below_drew1) | exact HB.out)) hb); have n1_ := A' (hbox); have n2_ := A' ((by rw [hg]; exact (below_size (by repeat (first | (with_reducible first | exact HB.out | apply below_alloc | apply pw_below_drewN | apply below_drew1) | exact HB.out))) : w.heap.size ≤ gb102)); have n3_ := A' ((by rw [hg]; exact (below_size (by repeat (first | (with_reducible first | exact HB.out | apply below_alloc | apply pw_below_drewN | apply below_drew1) | exact HB.out))) : w.heap.size ≤ gb102)); clear HB; have HB := n0_; have BK102 := n1_; have GW102 := n2_; have GE102 := n3_; clear n0_ n1_ n2_ n3_; clear hb hbox hg; have hcz4_0 : w3.cell? ⟨gb102, 0, none⟩ = some (.bool true) := (blk_cell BK102.out 0).trans rfl; have hcz4_1 : w3.cell? ⟨gb102, 1, none⟩ = some (.int .i64 a0_1) := (blk_cell BK102.out 1).trans rfl; have hfz4_0 := blk_frozen BK102.out 0; have hfz4_1 := blk_frozen BK102.out 1)); go_ret; (exact ⟨by first | rfl | (simp [errW_none, errW_some] <;> rfl) | (simp [*, errW_none, errW_some] <;> rfl), by repeat (first | (with_reducible first | exact HB.out | apply below_alloc | apply pw_below_drewN | apply below_drew1 | refine below_set ?_ GE102.out) | exact HB.out)⟩))
 (· replace c2 := Bool.eq_false_iff.mpr c2; subst c2; (have H1 : (if a0_1 ≥ (-1048576) then (some (decide (a0_1 ≤ 1048576))) else (some false)) = some r := by rw [if_neg (show ¬ (false = true) by decide)] at H; exact H); clear H; have H := H1; clear H1; by_cases c5 : a0_1 ≥ (-1048576); (· rw [if_pos c5] at H; have c5b0 : decide ((-1048576) ≤ a0_1) = true := decide_eq_true c5; clear c5; obtain rfl := Option.some.inj H; go_enter Try.func16, Try.ntmps16; go_wp2_with (first | ((with_reducible refine gate_dst (N := 1) rfl ?_); refine box_event ?hg (N := 1) ?hd (cs := #[.bool false, .int .i64 a0_1]) (t := 28) ?hr ?_; (case hd => rfl); (case hg => rfl); (case hr => first | (go_simp; done) | (go_simp; rfl)); intro gb102 hg w6 hbox hb; have n0_ := A' (below_step (by repeat (first | (with_reducible first | exact HB.out | apply below_alloc | apply pw_below_drewN | apply below_drew1) | exact HB.out)) hb); have n1_ := A' (hbox); have n2_ := A' ((by rw [hg]; exact (below_size (by repeat (first | (with_reducible first | exact HB.out | apply below_alloc | apply pw_below_drewN | apply below_drew1) | exact HB.out))) : w.heap.size ≤ gb102)); have n3_ := A' ((by rw [hg]; exact (below_size (by repeat (first | (with_reducible first | exact HB.out | apply below_alloc | apply pw_below_drewN | apply below_drew1) | exact HB.out))) : w.heap.size ≤ gb102)); clear HB; have HB := n0_; have BK102 := n1_; have GW102 := n2_; have GE102 := n3_; clear n0_ n1_ n2_ n3_; clear hb hbox hg; have hcz7_0 : w6.cell? ⟨gb102, 0, none⟩ = some (.bool false) := (blk_cell BK102.out 0).trans rfl; have hcz7_1 : w6.cell? ⟨gb102, 1, none⟩ = some (.int .i64 a0_1) := (blk_cell BK102.out 1).trans rfl; have hfz7_0 := blk_frozen BK102.out 0; have hfz7_1 := blk_frozen BK102.out 1)); go_ret; (exact ⟨by first | rfl | (simp [errW_none, errW_some] <;> rfl) | (simp [*, errW_none, errW_some] <;> rfl), by repeat (first | (with_reducible first | exact HB.out | apply below_alloc | apply pw_below_drewN | apply below_drew1 | refine below_set ?_ GE102.out) | exact HB.out)⟩)); (· rw [if_neg c5] at H; have c5b0 : decide ((-1048576) ≤ a0_1) = false := decide_eq_false c5; clear c5; obtain rfl := Option.some.inj H; go_enter Try.func16, Try.ntmps16; go_wp2_with (first | ((with_reducible refine gate_dst (N := 1) rfl ?_); refine box_event ?hg (N := 1) ?hd (cs := #[.bool false, .int .i64 a0_1]) (t := 28) ?hr ?_; (case hd => rfl); (case hg => rfl); (case hr => first | (go_simp; done) | (go_simp; rfl)); intro gb102 hg w8 hbox hb; have n0_ := A' (below_step (by repeat (first | (with_reducible first | exact HB.out | apply below_alloc | apply pw_below_drewN | apply below_drew1) | exact HB.out)) hb); have n1_ := A' (hbox); have n2_ := A' ((by rw [hg]; exact (below_size (by repeat (first | (with_reducible first | exact HB.out | apply below_alloc | apply pw_below_drewN | apply below_drew1) | exact HB.out))) : w.heap.size ≤ gb102)); have n3_ := A' ((by rw [hg]; exact (below_size (by repeat (first | (with_reducible first | exact HB.out | apply below_alloc | apply pw_below_drewN | apply below_drew1) | exact HB.out))) : w.heap.size ≤ gb102)); clear HB; have HB := n0_; have BK102 := n1_; have GW102 := n2_; have GE102 := n3_; clear n0_ n1_ n2_ n3_; clear hb hbox hg; have hcz9_0 : w8.cell? ⟨gb102, 0, none⟩ = some (.bool false) := (blk_cell BK102.out 0).trans rfl; have hcz9_1 : w8.cell? ⟨gb102, 1, none⟩ = some (.int .i64 a0_1) := (blk_cell BK102.out 1).trans rfl; have hfz9_0 := blk_frozen BK102.out 0; have hfz9_1 := blk_frozen BK102.out 1)); go_ret; (exact ⟨by first | rfl | (simp [errW_none, errW_some] <;> rfl) | (simp [*, errW_none, errW_some] <;> rfl), by repeat (first | (with_reducible first | exact HB.out | apply below_alloc | apply pw_below_drewN | apply below_drew1 | refine below_set ?_ GE102.out) | exact HB.out)⟩)))
def IsS75 (w0 W : World) (g : Nat) (f0 : Int) : Prop := W.heap[g]? = some (.cells #[.int .i64 f0] 75 (0, 0)) ∧ w0.heap.size ≤ g
theorem IsS75.grown {w0 W : World} {g : Nat} {f0 : Int} {W1 : World} {row : Option Nat} (h : IsS75 w0 W g f0) (hw : W.grownBy W1 row) (hne : some g ≠ row) : IsS75 w0 W1 g f0 := by
 obtain ⟨hb, hg⟩ := h; exact ⟨blk_grown hb hw hne, hg⟩
theorem IsS75.fresh {w0 W : World} {g : Nat} {f0 : Int} (h : IsS75 w0 W g f0) : ∀ k, W.heap.size ≤ k → k ≠ g := by
 obtain ⟨hb, hg⟩ := h; exact Kd.freshB hb
theorem IsS75.kept {w0 W : World} {g : Nat} {f0 : Int} {W1 : World} {S : Nat → Prop} (h : IsS75 w0 W g f0) (hk : Kept W W1 S) (hne : ¬ S g) : IsS75 w0 W1 g f0 := by
 obtain ⟨hb, hg⟩ := h; exact ⟨blk_kept hb hk hne, hg⟩
theorem IsS75.below {w0 W : World} {g : Nat} {f0 : Int} {W1 : World} (h : IsS75 w0 W g f0) (hw : Below W.heap.size W W1) : IsS75 w0 W1 g f0 := h.grown (grown_of_below hw none) (by simp)
theorem IsS75.alloc {w0 W : World} {g : Nat} {f0 : Int} (h : IsS75 w0 W g f0) (o : Obj) : IsS75 w0 (W.alloc o) g f0 := h.below (below_alloc (Below.refl _ _) o)
theorem IsS75.drewN {w0 W : World} {g : Nat} {f0 : Int} (h : IsS75 w0 W g f0) (m : Nat) : IsS75 w0 (W.drewN m) g f0 := h
theorem IsS75.drew {w0 W : World} {g : Nat} {f0 : Int} (h : IsS75 w0 W g f0) : IsS75 w0 W.drew g f0 := h
theorem IsS75.apart {w0 W : World} {g : Nat} {f0 : Int} {α : Type} {d : Kd α} {e : Nat} {base : Nat} {ok : Nat → Prop} {v : Value} {xs : List α} (h : IsS75 w0 W g f0) (ho : d.R e W base ok v xs) (ht : ∀ q, q ∈ e :: d.E → q ≠ 75) : d.R e W base (fun k => ok k ∧ k ≠ g) v xs := by
 obtain ⟨hb, hg⟩ := h; exact Kd.R_types ho hb ht
theorem IsS75.own_ne {w0 W : World} {g : Nat} {f0 : Int} {α : Type} {d : Kd α} {e : Nat} {base : Nat} {ok : Nat → Prop} {v : Value} {xs : List α} (h : IsS75 w0 W g f0) (ho : d.R e W base ok v xs) (ht : e ≠ 75) : some g ≠ v.ownBlock := by
 obtain ⟨hb, hg⟩ := h; exact Kd.R_ne ho hb ht
theorem IsS75.ge {w0 W : World} {g : Nat} {f0 : Int} (h : IsS75 w0 W g f0) : w0.heap.size ≤ g := by
 obtain ⟨hb, hg⟩ := h; exact hg
theorem IsS75.ne_blk {w0 W : World} {g : Nat} {f0 : Int} {a : Nat} {cs : Array Value} {t : TypeId} {fr : Nat × Nat} (h : IsS75 w0 W g f0) (hb2 : W.heap[a]? = some (.cells cs t fr)) (ht : t ≠ 75) : g ≠ a := by
 obtain ⟨hb, hg⟩ := h; rintro rfl; rw [hb] at hb2; injection hb2 with hb2; injection hb2 with _ ht2; exact ht ht2.symm
theorem IsS75.far {w0 W : World} {g : Nat} {f0 : Int} {p : Addr} (h : IsS75 w0 W g f0) (hne : g ≠ p.block) (u : Value) : IsS75 w0 (W.setCell p u) g f0 := by
 obtain ⟨hb, hg⟩ := h; exact ⟨blk_far hb hne u, hg⟩
theorem cellS75_0 {W : World} {g : Nat} {f0 : Int} (h : W.heap[g]? = some (.cells #[.int .i64 f0] 75 (0, 0))) : W.cell? ⟨g, 0, none⟩ = some (.int .i64 f0) := (blk_cell h 0).trans rfl
theorem IsS75.set_0 {w0 W : World} {g : Nat} {f0 : Int} (h : IsS75 w0 W g f0) (x : Int) : IsS75 w0 (W.setCell ⟨g, 0, none⟩ (.int .i64 x)) g x := by
 obtain ⟨hb, hg⟩ := h; exact ⟨by simpa using blk_set hb 0 (.int .i64 x), hg⟩
theorem IsS75.new (w0 W : World) (f0 : Int) (hB : Below w0.heap.size w0 W) : IsS75 w0 (W.alloc (.cells #[.int .i64 f0] 75)) W.heap.size f0 := ⟨by simpa using heap_alloc_new W _, hB.size⟩
def number_tail_take.f (s0_0 : Int) : Option (Int × Int) := some (s0_0, mn (wrap64 (s0_0 + 1)) 47)
set_option maxHeartbeats 8000000 in
set_option maxRecDepth 100000 in
theorem number_tail_take.calls (g : Nat) (s0_0 : Int) (r1 : Int) (r2 : Int) (w0 w : World) (hI : IsS75 w0 w g s0_0) (hB : Below w0.heap.size w0 w) (h : number_tail_take.f s0_0 = some (r1, r2)) :
 Calls Try.prog 26 #[.pointer (some ⟨g, 0, none⟩)] w fun e w' => e = .returned (.int .i64 r1) ∧ IsS75 w0 w' g r2 ∧ Below w0.heap.size w0 w' ∧ KeepBut w w' g none := by
 have HI0 := A' hI; have HK := A' (KeepBut.refl w g none); have HL := A' hB.size; clear hI; have HW0 := A' hB.size; have HB := A' hB; clear hB; have H : (some (s0_0, mn (wrap64 (s0_0 + 1)) 47)) = some (r1, r2) := h; clear h; obtain ⟨ji2, hji2⟩ : ∃ j_ : Int, (mn (wrap64 (s0_0 + 1)) 47) = j_ := ⟨_, rfl⟩; (replace H : (some (s0_0, ji2)) = some (r1, r2) := by first | (rw [hji2] at H; exact H) | (simp only [hji2] at H ⊢; exact H)); ((try (have hji2h : ji2 ≤ 47 := by (rw [← hji2]; unfold mn; (repeat' split) <;> omega)))); (try (have hji2g : ji2 ≤ 64 := by omega)); have hji2_ : (if 47 < (wrap64 (s0_0 + 1)) then 47 else (wrap64 (s0_0 + 1))) = ji2 := hji2; simp only [Option.some.injEq, Prod.mk.injEq] at H; obtain ⟨rfl, rfl⟩ := H; obtain ⟨HGz3, hgz3⟩ := HI0.out; have hcz3_0 := cellS75_0 HGz3; have hfz3_0 := blk_frozen HGz3 0; clear HGz3 hgz3; go_enter Try.func26, Try.ntmps26; go_wp2; go_ret
 (exact ⟨by first | rfl | (simp [errW_none, errW_some] <;> rfl) | (simp only [← hji2]; first | rfl | (simp [errW_none, errW_some] <;> rfl)) | (simp [*, errW_none, errW_some] <;> rfl), by repeat (first | (with_reducible first | exact HI0.out | apply IsS75.alloc | apply IsS75.drewN | apply IsS75.drew | apply IsS75.set_0) | exact HI0.out), by repeat (first | (with_reducible first | exact HB.out | apply below_alloc | apply pw_below_drewN | apply below_drew1 | refine below_set ?_ (IsS75.ge HI0.out)) | exact HB.out), by repeat (first | (with_reducible first | exact HK.out | apply KeepBut.set_ | apply keep_drewN | apply keep_drew | apply keep_alloc) | exact HK.out)⟩)
theorem eqA46 (d : Nat) (w : World) (x0 y0 : Int) (x1 y1 : Int) :
 (Op.equalIn (d + 2) 46 (.agg #[.int .i64 x0, .int .i64 x1]) (.agg #[.int .i64 y0, .int .i64 y1])).run Try.prog w = .ok (x0 == y0 && (x1 == y1)) w := by
 refine eqA_of Try.underlying46 (by kernel_rfl) ?_
 refine eqf_cons (by rfl) (by go_simp; rfl) (by go_simp; rfl) (by go_simp) ?_
 exact eqf_last (by rfl) (by go_simp; rfl) (by go_simp; rfl) (by go_simp)
attribute [local go_sem high] eqA46
def incunablelaw03_SameEvents.l0 : Nat → List (S46) → List (S46) → Int → Option (Bool)
 | 0, _, _, _ => none
 | k + 1, x0, x1, x5 => if x5 < (x0.length : Int) then (if 0 ≤ x5 then (if x5 < (x1.length : Int) then (if (!(((rd_T46 x0 x5).f0) == ((rd_T46 x1 x5).f0)) || (!(((rd_T46 x0 x5).f1) == ((rd_T46 x1 x5).f1)))) = true then (some false) else (incunablelaw03_SameEvents.l0 k x0 x1 (wrap64 (x5 + 1)))) else (none)) else (none)) else (some true)
def incunablelaw03_SameEvents.f (k : Nat) (l0 : List (S46)) (l1 : List (S46)) : Option (Bool) := if (l0.length : Int) = (l1.length : Int) then (incunablelaw03_SameEvents.l0 k l0 l1 0) else (some false)
theorem incunablelaw03_SameEvents.mono_l : ∀ k, (∀ y0 y1 y2, LeO (incunablelaw03_SameEvents.l0 k y0 y1 y2) (incunablelaw03_SameEvents.l0 (k + 1) y0 y1 y2))
 | 0 => fun _ _ _ r h => by simp [incunablelaw03_SameEvents.l0] at h
 | k + 1 => by
   have ih0 := incunablelaw03_SameEvents.mono_l k
   · intro y0 y1 y2
     unfold incunablelaw03_SameEvents.l0
     repeat' first
     | (with_reducible exact ih0 _ _ _)
     | (with_reducible exact LeO.refl _)
     | (with_reducible exact LeO.none _)
     | (with_reducible refine LeO.ite ?_ ?_)
     | (with_reducible refine LeO.bind ?_ (fun _ => ?_))
     | exact ih0 _ _ _
     | exact LeO.none _
     | refine LeO.ite ?_ ?_
     | refine LeO.bind ?_ (fun _ => ?_)
theorem incunablelaw03_SameEvents.mono : ∀ a0 a1 k, LeO (incunablelaw03_SameEvents.f k a0 a1) (incunablelaw03_SameEvents.f (k + 1) a0 a1) := by
 intro a0 a1 k; have ih0 := incunablelaw03_SameEvents.mono_l k; unfold incunablelaw03_SameEvents.f
 repeat' first
  | (with_reducible exact ih0 _ _ _)
  | (with_reducible exact LeO.refl _)
  | (with_reducible exact LeO.none _)
  | (with_reducible refine LeO.ite ?_ ?_)
  | (with_reducible refine LeO.bind ?_ (fun _ => ?_))
  | exact ih0 _ _ _
  | exact LeO.none _
  | refine LeO.ite ?_ ?_
  | refine LeO.bind ?_ (fun _ => ?_)
set_option maxHeartbeats 8000000 in
set_option maxRecDepth 100000 in
theorem incunablelaw03_SameEvents.calls (k : Nat) (A0 : Option Addr) (c0 : Nat) (l0 : List (S46)) (A1 : Option Addr) (c1 : Nat) (l1 : List (S46)) (r : Bool) (w : World) (hr0 : Kd.C k46 w A0 l0.length l0) (hc0 : l0.length ≤ c0) (hr1 : Kd.C k46 w A1 l1.length l1) (hc1 : l1.length ≤ c1) (h : incunablelaw03_SameEvents.f k l0 l1 = some r) :
 Calls Try.prog 13 #[.slice A0 l0.length c0, .slice A1 l1.length c1] w fun e w' => e = .returned (.bool r) ∧ Drawn0 w w' := by
 have hu46 := Try.underlying46; have HR0 := A' hr0; have HC0 := A' hc0; clear hr0 hc0; have HR1 := A' hr1; have HC1 := A' hc1; clear hr1 hc1; have H : (if (l0.length : Int) = (l1.length : Int) then (incunablelaw03_SameEvents.l0 k l0 l1 0) else (some false)) = some r := h; clear h; by_cases c3 : (l0.length : Int) = (l1.length : Int)
 · rw [if_pos c3] at H
   have c3b0 : ((l0.length : Int) == (l1.length : Int)) = true := beq_iff_eq.mpr c3; have c3b1 : ((l0.length : Int) != (l1.length : Int)) = false := bne_eq_false_iff_eq.mpr c3; (have c3b2 : (l0.length == l1.length) = true := by first | simpa using c3 | (simp at c3 ⊢; omega)); clear c3; have H' := A' H; clear H; go_enter Try.func13, Try.ntmps13; go_wp2; (repeat (go_quiet (fail); try go_wp2)); go_loopg [5] k (fun kq v5 w' => ∃ (x5_1 : Int), v5 = .int .i64 x5_1 ∧ Aside0 (incunablelaw03_SameEvents.l0 kq l0 l1 x5_1 = some r) ∧ Aside0 (kq ≤ k) ∧ Drawn0 w w'); (case atStart => exact ⟨(0), (by first | rfl | (simp; done) | (simp [*]; done)), H', ⟨Nat.le_refl _⟩, by repeat (first | exact Drawn0.refl _ | apply Drawn0.step)⟩)
   case round =>
    clear H'; (try clear c1); (try clear p2); (try clear c3); (try clear c3b0); (try clear c3b1); (try clear c3b2); obtain ⟨x5_1, rfl, HA, HK1, ⟨m1, rfl⟩⟩ := hrel
    cases gk with
    | zero => exact absurd HA.out (by simp [incunablelaw03_SameEvents.l0])
    | succ k1 =>
     have H := HA.out; clear HA; simp only [incunablelaw03_SameEvents.l0] at H; by_cases c4 : x5_1 < (l0.length : Int)
     (· rw [if_pos c4] at H; have c4b0 : decide (x5_1 < (l0.length : Int)) = true := decide_eq_true c4; clear c4; by_cases c5 : 0 ≤ x5_1; (· rw [if_pos c5] at H; have c5b0 : decide (0 ≤ x5_1) = true := decide_eq_true c5; clear c5; by_cases c6 : x5_1 < (l1.length : Int); (· rw [if_pos c6] at H; have c6b0 : decide (x5_1 < (l1.length : Int)) = true := decide_eq_true c6; clear c6; by_cases c7 : (!(((rd_T46 l0 x5_1).f0) == ((rd_T46 l1 x5_1).f0)) || (!(((rd_T46 l0 x5_1).f1) == ((rd_T46 l1 x5_1).f1)))) = true; (· rw [if_pos c7] at H; have c7b0 : (!(((rd_T46 l0 x5_1).f0) == ((rd_T46 l1 x5_1).f0)) || (!(((rd_T46 l0 x5_1).f1) == ((rd_T46 l1 x5_1).f1)))) = true := c7; clear c7; obtain rfl := Option.some.inj H; have p102 : 0 ≤ (x5_1 : Int) := of_decide_eq_true (by first | (with_reducible assumption) | assumption); have q102 : x5_1 < (l0.length : Int) := of_decide_eq_true (by first | (with_reducible assumption) | assumption); obtain ⟨ad102, e102, hx102_0, hx102_1⟩ := at_T46 HR0.out x5_1 p102 q102; cases e102; replace p102 := eq_true p102; replace q102 := eq_true q102; have p103 : 0 ≤ (x5_1 : Int) := of_decide_eq_true (by first | (with_reducible assumption) | assumption); have q103 : x5_1 < (l1.length : Int) := of_decide_eq_true (by first | (with_reducible assumption) | assumption); obtain ⟨ad103, e103, hx103_0, hx103_1⟩ := at_T46 HR1.out x5_1 p103 q103; cases e103; replace p103 := eq_true p103; replace q103 := eq_true q103; go_wp2; (repeat (go_quiet (fail); try go_wp2)); go_ret; exact ⟨by first | rfl | (simp; done) | (simp [*]; done), by repeat (first | exact Drawn0.refl _ | apply Drawn0.step)⟩); (· rw [if_neg c7] at H; (have c7b0 : (!(((rd_T46 l0 x5_1).f0) == ((rd_T46 l1 x5_1).f0)) || (!(((rd_T46 l0 x5_1).f1) == ((rd_T46 l1 x5_1).f1)))) = false := by simpa using c7); clear c7; have H' := A' H; clear H; have p102 : 0 ≤ (x5_1 : Int) := of_decide_eq_true (by first | (with_reducible assumption) | assumption); have q102 : x5_1 < (l0.length : Int) := of_decide_eq_true (by first | (with_reducible assumption) | assumption); obtain ⟨ad102, e102, hx102_0, hx102_1⟩ := at_T46 HR0.out x5_1 p102 q102; cases e102; replace p102 := eq_true p102; replace q102 := eq_true q102; have p103 : 0 ≤ (x5_1 : Int) := of_decide_eq_true (by first | (with_reducible assumption) | assumption); have q103 : x5_1 < (l1.length : Int) := of_decide_eq_true (by first | (with_reducible assumption) | assumption); obtain ⟨ad103, e103, hx103_0, hx103_1⟩ := at_T46 HR1.out x5_1 p103 q103; cases e103; replace p103 := eq_true p103; replace q103 := eq_true q103; go_wp2; (repeat (go_quiet (fail); try go_wp2)); go_roundg k1; (case measure => have := HK1.out; omega); (case rel => exact ⟨(wrap64 (x5_1 + 1)), (by first | rfl | (simp; done) | (simp [*]; done)), H', ⟨by have := HK1.out; omega⟩, by repeat (first | exact Drawn0.refl _ | apply Drawn0.step)⟩))); (· rw [if_neg c6] at H; exact absurd H (by simp))); (· rw [if_neg c5] at H; exact absurd H (by simp)))
     (· rw [if_neg c4] at H; have c4b0 : decide (x5_1 < (l0.length : Int)) = false := decide_eq_false c4; clear c4; obtain rfl := Option.some.inj H; go_wp2; (repeat (go_quiet (fail); try go_wp2)); go_ret; exact ⟨by first | rfl | (simp; done) | (simp [*]; done), by repeat (first | exact Drawn0.refl _ | apply Drawn0.step)⟩)
 (· rw [if_neg c3] at H; have c3b0 : ((l0.length : Int) == (l1.length : Int)) = false := beq_eq_false_iff_ne.mpr c3; have c3b1 : ((l0.length : Int) != (l1.length : Int)) = true := bne_iff_ne.mpr c3; (have c3b2 : (l0.length == l1.length) = false := by first | simpa using c3 | (simp at c3 ⊢; omega)); obtain rfl := Option.some.inj H; go_enter Try.func13, Try.ntmps13; go_wp2; (repeat (go_quiet (fail); try go_wp2)); go_ret; exact ⟨by first | rfl | (simp; done) | (simp [*]; done), by repeat (first | exact Drawn0.refl _ | apply Drawn0.step)⟩)
end Go.Proofs.Ytmndieohblpgaaa.U
namespace Go.Proofs.Ytmndieohblpgaaa.Num
open Go Go.RowKit YtmndieohblpgaaaW PrintWords PrintLast PrintMore Aid HandAid U
attribute [local go_sem low] max2_int
attribute [local go_sem] min2_int max_two min_two
/-- The size of a number, as the walk has it; and one more. -/
def numA (n : Int) : Int := if n < -n then -n else n
def numV (n : Int) : Int := numA n + 1
theorem numA_eq (n : Int) : numA n = if n < 0 then -n else n := by
 unfold numA
 split <;> split <;> omega
theorem numA_range {n : Int} (h : -1048576 ≤ n) (h' : n ≤ 1048576) : 0 ≤ numA n ∧ numA n ≤ 1048576 := by rw [numA_eq]; split <;> omega
theorem max_numA (n : Int) : Builtin.max2 (.int .i64 n) (.int .i64 (-n)) = pure (.int .i64 (numA n)) := by
 rw [max2_int]
 rfl
attribute [local go_sem high] max_numA
/-- The length of a number's digits, less one. -/
def numC (n : Int) : Nat := Lib.bitLen (numV n).toNat - 1
def evHead (base : Int) (j : Nat) : List S46 := ⟨base, 0⟩ :: (List.range j).map fun (i : Nat) => ⟨base + 1 + i, 1⟩
def evMid (base : Int) (c : Nat) : List S46 := if c < 20 then [⟨base + 1 + c, 0⟩] else []
def evCtx (c j : Nat) : Int := if j = 0 then 23 + c else if j < 4 then 43 + j else 47
def evDig (base n : Int) (c j : Nat) : List S46 := (List.range j).map fun (i : Nat) => ⟨base + evCtx c i, numV n / 2 ^ (c - 1 - i) % 2⟩
def evSign (base n : Int) : List S46 := if n = 0 then [] else [⟨base + 22, if n < 0 then 1 else 0⟩]
/-- The events of a number that is not none. -/
def evList (base n : Int) : List S46 := evHead base (numC n) ++ evMid base (numC n) ++ evDig base n (numC n) (numC n) ++ evSign base n
theorem numV_range {n : Int} (h : -1048576 ≤ n) (h' : n ≤ 1048576) : 1 ≤ numV n ∧ numV n ≤ 1048577 := by have := numA_range h h'; unfold numV; omega
theorem bitLen_spec (x : Nat) (h : x < 18446744073709551616) (h0 : x ≠ 0) : 1 ≤ Lib.bitLen x ∧ 2 ^ (Lib.bitLen x - 1) ≤ x ∧ x < 2 ^ Lib.bitLen x := Lib.bitLenAux_bounds 64 x h h0
theorem pow_cast {a b : Nat} (h : 2 ^ a ≤ b) : (2 : Int) ^ a ≤ (b : Int) := by exact_mod_cast h
theorem cast_pow {a b : Nat} (h : b < 2 ^ a) : (b : Int) < (2 : Int) ^ a := by exact_mod_cast h
theorem numC_spec {n : Int} (h : -1048576 ≤ n) (h' : n ≤ 1048576) : (2 : Int) ^ numC n ≤ numV n ∧ numV n < 2 ^ (numC n + 1) ∧ numC n ≤ 20 ∧ Lib.bitLen (numV n).toNat = numC n + 1 := by
 have hr := numV_range h h'
 obtain ⟨h1, h2, h3⟩ := bitLen_spec (numV n).toNat (by omega) (by omega)
 have hl : Lib.bitLen (numV n).toNat ≤ 21 := by
  rcases Nat.lt_or_ge 21 (Lib.bitLen (numV n).toNat) with c | c
  · exact absurd (Nat.le_trans (Nat.pow_le_pow_right (by decide) (show 21 ≤ Lib.bitLen (numV n).toNat - 1 by omega)) h2) (by omega)
  · exact c
 have e : Lib.bitLen (numV n).toNat = numC n + 1 := by unfold numC; omega
 have e2 : ((numV n).toNat : Int) = numV n := Int.toNat_of_nonneg (by omega)
 refine ⟨?_, ?_, by omega, e⟩
 · rw [← e2]; exact pow_cast (by rw [e] at h2; exact h2)
 · rw [← e2]; exact cast_pow (by rw [e] at h3; exact h3)
theorem events_none (base n : Int) (w : World) : Calls Try.prog 18 #[.int .i64 base, .agg #[.bool true, .int .i64 n]] w fun e w' => ∃ v, e = .returned v ∧ Kd.R k46 46 w' w.heap.size (fun _ => True) v [(⟨base, 1⟩ : S46)] ∧ Below w.heap.size w w' := by
 have HB := A' (Below.refl w.heap.size w)
 have hu := Try.underlying28
 have hu2 := Try.underlying46
 go_enter Try.func18, Try.ntmps18
 go_wp2_with (first | ((with_reducible refine gate_dst (N := 3) rfl ?_); refine box_event ?hg (N := 3) ?hd (cs := #[.bool true, .int .i64 n]) (t := 28) ?hr ?_; (case hd => rfl); (case hg => rfl); (case hr => first | (go_simp; done) | (go_simp; rfl)); intro gb hg wb hbox hb; have n0_ := A' (below_step (by repeat (first | (with_reducible first | exact HB.out | apply below_alloc | apply pw_below_drewN | apply below_drew1 | refine below_set ?_ GE.out) | exact HB.out)) hb); have n1_ := A' (hbox); have n2_ := A' ((by rw [hg]; exact (below_size (by repeat (first | (with_reducible first | exact HB.out | apply below_alloc | apply pw_below_drewN | apply below_drew1 | refine below_set ?_ GE.out) | exact HB.out))) : w.heap.size ≤ gb)); clear HB; have HB := n0_; have BK := n1_; have GE := n2_; clear n0_ n1_ n2_; clear hb hbox hg; have hcz0 : wb.cell? ⟨gb, 0, none⟩ = some (.bool true) := (blk_cell BK.out 0).trans rfl; have hcz1 : wb.cell? ⟨gb, 1, none⟩ = some (.int .i64 n) := (blk_cell BK.out 1).trans rfl; have hfz0 := blk_frozen BK.out 0; have hfz1 := blk_frozen BK.out 1) | ((with_reducible refine gate_dst (N := 17) rfl ?_); refine Kd.R_lit k46 _ 46 ?hg (N := 17) ?hd (xs := ([(⟨base, 1⟩ : S46)] : List (S46))) (inner := [.int .i64 (base), .int .i64 (1)]) (ok := fun _ => True) (okp := fun _ => True) ?hr ?hp (fun _ hk => hk) trivial (Below.refl _ _) (Nat.le_refl _) (by simp) ?_; (case hd => rfl); (case hg => rfl); (case hr => first | (go_simp; done) | (go_simp; rfl)); (case hp => exact (Reps.c2 (show Kd.M k46 _ _ _ (⟨base, 1⟩ : S46) [.int .i64 (base), .int .i64 (1)] from (k46_mkM _ _ _ (⟨base, 1⟩ : S46) )) (Reps.none _ _))); intro v wl ho hb hg_ hnew_; clear hg_ hnew_; have n0_ := A' (Kd.R_lower ho (below_size (by repeat (first | (with_reducible first | exact HB.out | apply below_alloc | apply pw_below_drewN | apply below_drew1 | refine below_set ?_ GE.out) | exact HB.out)))); have n1_ := A' (blk_below (g := gb) (o := .cells #[.bool true, .int .i64 n] 28 (0, 0)) (by (with_reducible repeat (first | refine blk_drewN ?_ _ | refine blk_drew ?_ | refine blk_alloc ?_ _)); exact BK.out) hb); have n2_ := A' (below_step (by repeat (first | (with_reducible first | exact HB.out | apply below_alloc | apply pw_below_drewN | apply below_drew1 | refine below_set ?_ GE.out) | exact HB.out)) hb); clear BK; clear HB; have HO := n0_; have BK := n1_; have HB := n2_; clear n0_ n1_ n2_; clear hb ho; have hczl0 : wl.cell? ⟨gb, 0, none⟩ = some (.bool true) := (blk_cell BK.out 0).trans rfl; have hczl1 : wl.cell? ⟨gb, 1, none⟩ = some (.int .i64 n) := (blk_cell BK.out 1).trans rfl; have hfzl0 := blk_frozen BK.out 0; have hfzl1 := blk_frozen BK.out 1))
 go_ret
 exact ⟨_, rfl, HO.out, by repeat (first | (with_reducible first | exact HB.out | apply below_alloc | apply pw_below_drewN | apply below_drew1) | exact HB.out)⟩
theorem len_calls (n y : Int) (w : World) (h : -1048576 ≤ n) (h' : n ≤ 1048576) (hy : y = numV n) : Calls Try.prog 25 #[.int .u64 y] w fun e w' => e = .returned (.int .i64 ((numC n : Int) + 1)) ∧ w' = w := by
 subst hy
 have hr := numV_range h h'
 refine (Try.bits_Len (numV n) w (by omega) (by omega)).mono ?_
 rintro e w' ⟨rfl, rfl⟩
 rw [(numC_spec h h').2.2.2]
 exact ⟨by simp, rfl⟩
theorem evHead_len (base : Int) (j : Nat) : (evHead base j).length = j + 1 := by simp [evHead]
theorem evMid_len (base : Int) (c : Nat) : (evMid base c).length ≤ 1 := by unfold evMid; split <;> simp
theorem evDig_len (base n : Int) (c j : Nat) : (evDig base n c j).length = j := by simp [evDig]
theorem evHead_step (base : Int) (j : Nat) : evHead base (j + 1) = evHead base j ++ [⟨base + 1 + j, 1⟩] := by simp [evHead, List.range_succ]
theorem evDig_step (base n : Int) (c j : Nat) : evDig base n c (j + 1) = evDig base n c j ++ [⟨base + evCtx c j, numV n / 2 ^ (c - 1 - j) % 2⟩] := by simp [evDig, List.range_succ]
theorem wraps_i64' (x : Int) (h : 0 ≤ x) (h' : x < 2 ^ 62) : IntKind.i64.wrap x = x := by rw [IntKind.wrap_i64]; omega
theorem i64_and1 {x : Int} (h : 0 ≤ x) (h' : x < 4611686018427387904) : Go.bits .and .i64 x 1 = x % 2 := bits_mask .i64 62 (by decide) wraps_i64' 1 (by decide) x h h'
theorem digit_eq {n : Int} (h : -1048576 ≤ n) (h' : n ≤ 1048576) (k : Nat) : Go.bits .and .i64 ((numA n + 1) / 2 ^ k) 1 = numV n / 2 ^ k % 2 := by
 have hA := numA_range h h'
 have h1 : (0 : Int) ≤ (numA n + 1) / 2 ^ k := Int.ediv_nonneg (by omega) (Int.pow_nonneg (by decide))
 have h2 : (numA n + 1) / 2 ^ k ≤ numA n + 1 := Int.ediv_le_self _ (by omega)
 rw [i64_and1 h1 (by omega)]
 rfl
def evTail (j : Nat) : Int := if j = 0 then 44 else if j < 4 then 43 + j else 47
theorem evTail_step (j : Nat) (h : j ≠ 0) : evTail (j + 1) = mn (wrap64 (evTail j + 1)) 47 := by
 have : wrap64 (evTail j + 1) = evTail j + 1 := by refine wrap_id ?_ ?_ <;> (unfold evTail; split <;> (try split) <;> omega)
 rw [this]
 unfold evTail mn
 rw [if_neg (by omega), if_neg h]
 split <;> split <;> (try split) <;> omega
theorem evTail_range (j : Nat) : 44 ≤ evTail j ∧ evTail j ≤ 47 := by unfold evTail; split <;> (try split) <;> omega
set_option maxHeartbeats 40000000 in
set_option maxRecDepth 100000 in
theorem events_calls (base n : Int) (w : World) (hb0 : 0 ≤ base) (hb1 : base ≤ 1000000) (h : -1048576 ≤ n) (h' : n ≤ 1048576) : Calls Try.prog 18 #[.int .i64 base, .agg #[.bool false, .int .i64 n]] w fun e w' => ∃ v, e = .returned v ∧ Kd.R k46 46 w' w.heap.size (fun _ => True) v (evList base n) ∧ Below w.heap.size w w' := by
 have HB := A' (Below.refl w.heap.size w)
 have hu := Try.underlying28
 have hu2 := Try.underlying46
 have hC := numC_spec h h'
 have hA := numA_range h h'
 have hc := hC.2.2.1
 go_enter Try.func18, Try.ntmps18
 go_wp2_with (first | ((with_reducible refine gate_dst (N := 3) rfl ?_); refine box_event ?hg (N := 3) ?hd (cs := #[.bool false, .int .i64 n]) (t := 28) ?hr ?_; (case hd => rfl); (case hg => rfl); (case hr => first | (go_simp; done) | (go_simp; rfl)); intro gb hg wb hbox hb; have n0_ := A' (below_step (by repeat (first | (with_reducible first | exact HB.out | apply below_alloc | apply pw_below_drewN | apply below_drew1 | refine below_set ?_ GE.out) | exact HB.out)) hb); have n1_ := A' (hbox); have n2_ := A' ((by rw [hg]; exact (below_size (by repeat (first | (with_reducible first | exact HB.out | apply below_alloc | apply pw_below_drewN | apply below_drew1 | refine below_set ?_ GE.out) | exact HB.out))) : w.heap.size ≤ gb)); clear HB; have HB := n0_; have BK := n1_; have GE := n2_; clear n0_ n1_ n2_; clear hb hbox hg; have hcz0 : wb.cell? ⟨gb, 0, none⟩ = some (.bool false) := (blk_cell BK.out 0).trans rfl; have hcz1 : wb.cell? ⟨gb, 1, none⟩ = some (.int .i64 n) := (blk_cell BK.out 1).trans rfl; have hfz0 := blk_frozen BK.out 0; have hfz1 := blk_frozen BK.out 1) | ((with_reducible refine gate_dst (N := 20) rfl ?_); refine Kd.R_lit k46 _ 46 ?hg (N := 20) ?hd (xs := ([(⟨base, 0⟩ : S46)] : List (S46))) (inner := [.int .i64 (base), .int .i64 (0)]) (ok := fun _ => True) (okp := fun _ => True) ?hr ?hp (fun _ hk => hk) trivial (Below.refl _ _) (Nat.le_refl _) (by simp) ?_; (case hd => rfl); (case hg => rfl); (case hr => first | (go_simp; done) | (go_simp; rfl)); (case hp => exact (Reps.c2 (show Kd.M k46 _ _ _ (⟨base, 0⟩ : S46) [.int .i64 (base), .int .i64 (0)] from (k46_mkM _ _ _ (⟨base, 0⟩ : S46) )) (Reps.none _ _))); intro v wl ho hb hg_ hnew_; clear hg_ hnew_; have n0_ := A' (Kd.R_lower ho (below_size (by repeat (first | (with_reducible first | exact HB.out | apply below_alloc | apply pw_below_drewN | apply below_drew1 | refine below_set ?_ GE.out) | exact HB.out)))); have n1_ := A' (blk_below (g := gb) (o := .cells #[.bool false, .int .i64 n] 28 (0, 0)) (by (with_reducible repeat (first | refine blk_drewN ?_ _ | refine blk_drew ?_ | refine blk_alloc ?_ _)); exact BK.out) hb); have n2_ := A' (below_step (by repeat (first | (with_reducible first | exact HB.out | apply below_alloc | apply pw_below_drewN | apply below_drew1 | refine below_set ?_ GE.out) | exact HB.out)) hb); clear BK; clear HB; have HO := n0_; have BK := n1_; have HB := n2_; clear n0_ n1_ n2_; clear hb ho; have hczl0 : wl.cell? ⟨gb, 0, none⟩ = some (.bool false) := (blk_cell BK.out 0).trans rfl; have hczl1 : wl.cell? ⟨gb, 1, none⟩ = some (.int .i64 n) := (blk_cell BK.out 1).trans rfl; have hfzl0 := blk_frozen BK.out 0; have hfzl1 := blk_frozen BK.out 1) | (go_at_call 25; (refine (len_calls n _ _ h h' ?he).mono ?_; (case he => rfl); rintro e w' ⟨rfl, rfl⟩)))
 go_loopw [5, 33] (fun l i wr => ∃ j : Nat, j ≤ numC n ∧ i = .int .i64 j ∧ Aside0 (Kd.R k46 46 wr w.heap.size (fun _ => True) l (evHead base j)) ∧ Aside0 (wr.heap[gb]? = some (.cells #[.bool false, .int .i64 n] 28 (0, 0))) ∧ Aside0 (Below w.heap.size w wr)) (fun _ i _ => numC n - (intOf i).toNat)
 case atStart => exact ⟨0, Nat.zero_le _, rfl, HO, BK, HB⟩
 clear hcz0 hcz1 hfz0 hfz1 hczl0 hczl1 hfzl0 hfzl1 HO BK HB
 case round =>
  obtain ⟨j, hj, rfl, HO, BK, HB⟩ := hrel
  by_cases hlt : j < numC n
  · have hL : (evHead base j).length ≤ 30 := by rw [evHead_len]; omega
    have HL := A' hL
    clear hL
    go_wp2_with (first | ((with_reducible refine gate_builtin (b := .append) (xs := #[.tmp 36, .tmp 42]) rfl ?_); at_builtin; (refine Kd.R_append k46 (w0 := w) w.heap.size rfl (.tmp 36) (.tmp 42) 41 46 (.agg #[(.int .i64 0), (.int .i64 0)]) 16 rfl Try.underlying41 info46 rfl (by decide) (by omega) u5 (evHead base j) (⟨base + 1 + j, 1⟩ : S46) [.int .i64 (base + 1 + j), .int .i64 (1)] (fun _ => True) (fun _ => False) rfl rfl ?aP (fun _ hk => hk.elim) ?aF ?aO ?aB ?aS ?aL ?_; (case aP => exact k46_mkM _ _ _ (⟨base + 1 + j, 1⟩ : S46)); (case aB => exact (by repeat (first | (with_reducible first | exact HB.out | apply below_alloc | apply pw_below_drewN | apply below_drew1 | refine below_set ?_ GE.out) | exact HB.out))); (case aF => exact (fun _ _ => trivial)); (case aO => exact (by (with_reducible repeat (first | apply Kd.R_alloc | apply Kd.R_drewN | apply Kd.R_drew)); exact HO.out)); (case aS => exact (below_size (by repeat (first | (with_reducible first | exact HB.out | apply below_alloc | apply pw_below_drewN | apply below_drew1 | refine below_set ?_ GE.out) | exact HB.out)))); (case aL => have := HL.out; omega); intro v2 wa ho hb hg hat; have n1_ := A' (blk_grown (g := gb) (o := .cells #[.bool false, .int .i64 n] 28 (0, 0)) (by (with_reducible repeat (first | refine blk_drewN ?_ _ | refine blk_drew ?_ | refine blk_alloc ?_ _)); exact BK.out) hg (Kd.R_ne HO.out BK.out (by decide))); have n2_ := A' (hb); have n3_ := A' (ho); clear BK; clear HB; clear HO; have BK := n1_; have HB := n2_; have HO := n3_; clear n1_ n2_ n3_; clear ho hb hg hat)))
    go_roundw
    case rel => exact ⟨j + 1, by omega, by go_num, ⟨by rw [evHead_step]; exact HO.out⟩, BK, HB⟩
    case measure => simp [intOf]; omega
  · obtain rfl : j = numC n := by omega
    clear hlt hj
    by_cases h20 : numC n < 20
    · have HL := A' (show (evHead base (numC n)).length ≤ 30 by rw [evHead_len]; omega)
      have hm : evMid base (numC n) = [⟨base + 1 + (numC n : Int), 0⟩] := if_pos h20
      go_wp2_with (first | ((with_reducible refine gate_builtin (b := .append) (xs := #[.tmp 47, .tmp 53]) rfl ?_); at_builtin; (refine Kd.R_append k46 (w0 := w) w.heap.size rfl (.tmp 47) (.tmp 53) 41 46 (.agg #[(.int .i64 0), (.int .i64 0)]) 16 rfl Try.underlying41 info46 rfl (by decide) (by omega) u5 (evHead base (numC n)) (⟨base + 1 + (numC n : Int), 0⟩ : S46) [.int .i64 (base + 1 + (numC n : Int)), .int .i64 (0)] (fun _ => True) (fun _ => False) rfl rfl ?aP (fun _ hk => hk.elim) ?aF ?aO ?aB ?aS ?aL ?_; (case aP => exact k46_mkM _ _ _ (⟨base + 1 + (numC n : Int), 0⟩ : S46)); (case aB => exact (by repeat (first | (with_reducible first | exact HB.out | apply below_alloc | apply pw_below_drewN | apply below_drew1 | refine below_set ?_ GE.out) | exact HB.out))); (case aF => exact (fun _ _ => trivial)); (case aO => exact (by (with_reducible repeat (first | apply Kd.R_alloc | apply Kd.R_drewN | apply Kd.R_drew)); exact HO.out)); (case aS => exact (below_size (by repeat (first | (with_reducible first | exact HB.out | apply below_alloc | apply pw_below_drewN | apply below_drew1 | refine below_set ?_ GE.out) | exact HB.out)))); (case aL => have := HL.out; omega); intro v2 wa ho hb hg hat; have n1_ := A' (blk_grown (g := gb) (o := .cells #[.bool false, .int .i64 n] 28 (0, 0)) (by (with_reducible repeat (first | refine blk_drewN ?_ _ | refine blk_drew ?_ | refine blk_alloc ?_ _)); exact BK.out) hg (Kd.R_ne HO.out BK.out (by decide))); have n2_ := A' (hb); have n3_ := A' (ho); clear BK; clear HB; clear HO; have BK := n1_; have HB := n2_; have HO := n3_; clear n1_ n2_ n3_; clear ho hb hg hat)))
      go_loopw [5, 10] (fun l i wz => ∃ j : Nat, j ≤ numC n ∧ i = .int .i64 ((numC n : Int) - 1 - j) ∧ Aside0 (Kd.R k46 46 wz w.heap.size (fun _ => True) l (evHead base (numC n) ++ evMid base (numC n) ++ evDig base n (numC n) j)) ∧ Aside0 (IsS75 w wz wa.heap.size (evTail j)) ∧ Aside0 (wz.heap[gb]? = some (.cells #[.bool false, .int .i64 n] 28 (0, 0))) ∧ Aside0 (Below w.heap.size w wz)) (fun _ i _ => (intOf i + 1).toNat)
      case atStart =>
       refine ⟨0, Nat.zero_le _, by go_num, ⟨?_⟩, ⟨?_⟩, ⟨?_⟩, ⟨?_⟩⟩
       · rw [hm, show evDig base n (numC n) 0 = [] from rfl, List.append_nil]
         exact Kd.R_alloc (by first | exact HO.out | (rw [List.append_nil]; exact HO.out)) _
       · exact IsS75.new w wa 44 HB.out
       · exact blk_alloc BK.out _
       · exact below_alloc HB.out _
      case round =>
       clear HO BK HB
       obtain ⟨j, hj, rfl, HO, HT, BK, HB⟩ := hrel
       by_cases hlt : j < numC n
       · have HL := A' (show (evHead base (numC n) ++ evMid base (numC n) ++ evDig base n (numC n) j).length ≤ 60 by have := evMid_len base (numC n); simp only [List.length_append, evHead_len, evDig_len]; omega)
         by_cases hj0 : j = 0
         · go_wp2_with (first | ((with_reducible refine gate_builtin (b := .append) (xs := #[.tmp 69, .tmp 78]) rfl ?_); at_builtin; (refine Kd.R_append k46 (w0 := w) w.heap.size rfl (.tmp 69) (.tmp 78) 41 46 (.agg #[(.int .i64 0), (.int .i64 0)]) 16 rfl Try.underlying41 info46 rfl (by decide) (by omega) u5 (evHead base (numC n) ++ evMid base (numC n) ++ evDig base n (numC n) j) (⟨base + (23 + (numC n : Int)), Go.bits .and .i64 ((numA n + 1) / 2 ^ (numC n - 1)) 1⟩ : S46) [.int .i64 (base + (23 + (numC n : Int))), .int .i64 (Go.bits .and .i64 ((numA n + 1) / 2 ^ (numC n - 1)) 1)] (fun _ => True) (fun _ => False) rfl rfl ?aP (fun _ hk => hk.elim) ?aF ?aO ?aB ?aS ?aL ?_; (case aP => exact k46_mkM _ _ _ (⟨base + (23 + (numC n : Int)), Go.bits .and .i64 ((numA n + 1) / 2 ^ (numC n - 1)) 1⟩ : S46)); (case aB => exact (by repeat (first | (with_reducible first | exact HB.out | apply below_alloc | apply pw_below_drewN | apply below_drew1 | refine below_set ?_ GE.out) | exact HB.out))); (case aF => exact (fun _ _ => trivial)); (case aO => exact (by (with_reducible repeat (first | apply Kd.R_alloc | apply Kd.R_drewN | apply Kd.R_drew)); exact HO.out)); (case aS => exact (below_size (by repeat (first | (with_reducible first | exact HB.out | apply below_alloc | apply pw_below_drewN | apply below_drew1 | refine below_set ?_ GE.out) | exact HB.out)))); (case aL => have := HL.out; omega); intro v2 wa ho hb hg hat; have n1_ := A' (blk_grown (g := gb) (o := .cells #[.bool false, .int .i64 n] 28 (0, 0)) (by (with_reducible repeat (first | refine blk_drewN ?_ _ | refine blk_drew ?_ | refine blk_alloc ?_ _)); exact BK.out) hg (Kd.R_ne HO.out BK.out (by decide))); have n2_ := A' (hb); have n3_ := A' (ho); have n5_ := A' (IsS75.grown (by repeat (first | (with_reducible exact HT.out) | apply IsS75.alloc | apply IsS75.drewN | apply IsS75.drew)) hg (IsS75.own_ne HT.out HO.out (by decide))); clear HT; have HT := n5_; clear n5_; clear BK; clear HB; clear HO; have BK := n1_; have HB := n2_; have HO := n3_; clear n1_ n2_ n3_; clear ho hb hg hat)))
           go_roundw
           case rel =>
            subst hj0
            refine ⟨0 + 1, by omega, by go_num, ⟨?_⟩, ⟨HT.out⟩, BK, HB⟩
            rw [evDig_step, ← List.append_assoc, ← digit_eq h h']
            exact HO.out
           case measure => simp [intOf]; omega
         · have ht := evTail_range j
           go_wp2_with (first | (go_at_call 26; (refine (number_tail_take.calls _ (evTail j) _ _ w _ HT.out HB.out rfl).mono ?_); rintro e wt ⟨rfl, hT, hB, hK⟩; have n1_ := A' (Kd.R_mono (Kd.R_keep (IsS75.apart HT.out HO.out (by decide)) hK (fun _ hk => hk.2)) (fun _ _ => trivial)); have n2_ := A' (hK.blk BK.out (IsS75.ne_blk HT.out BK.out (by decide)).symm (by simp)); have n3_ := A' hT; have n4_ := A' hB; clear HO BK HT HB hT hB hK; have HO := n1_; have BK := n2_; have HT := n3_; have HB := n4_; clear n1_ n2_ n3_ n4_) | ((with_reducible refine gate_builtin (b := .append) (xs := #[.tmp 69, .tmp 78]) rfl ?_); at_builtin; (refine Kd.R_append k46 (w0 := w) w.heap.size rfl (.tmp 69) (.tmp 78) 41 46 (.agg #[(.int .i64 0), (.int .i64 0)]) 16 rfl Try.underlying41 info46 rfl (by decide) (by omega) u5 (evHead base (numC n) ++ evMid base (numC n) ++ evDig base n (numC n) j) (⟨base + evTail j, Go.bits .and .i64 ((numA n + 1) / 2 ^ (numC n - 1 - j)) 1⟩ : S46) [.int .i64 (base + evTail j), .int .i64 (Go.bits .and .i64 ((numA n + 1) / 2 ^ (numC n - 1 - j)) 1)] (fun _ => True) (fun _ => False) rfl rfl ?aP (fun _ hk => hk.elim) ?aF ?aO ?aB ?aS ?aL ?_; (case aP => exact k46_mkM _ _ _ (⟨base + evTail j, Go.bits .and .i64 ((numA n + 1) / 2 ^ (numC n - 1 - j)) 1⟩ : S46)); (case aB => exact (by repeat (first | (with_reducible first | exact HB.out | apply below_alloc | apply pw_below_drewN | apply below_drew1 | refine below_set ?_ GE.out) | exact HB.out))); (case aF => exact (fun _ _ => trivial)); (case aO => exact (by (with_reducible repeat (first | apply Kd.R_alloc | apply Kd.R_drewN | apply Kd.R_drew)); exact HO.out)); (case aS => exact (below_size (by repeat (first | (with_reducible first | exact HB.out | apply below_alloc | apply pw_below_drewN | apply below_drew1 | refine below_set ?_ GE.out) | exact HB.out)))); (case aL => have := HL.out; omega); intro v2 wa ho hb hg hat; have n1_ := A' (blk_grown (g := gb) (o := .cells #[.bool false, .int .i64 n] 28 (0, 0)) (by (with_reducible repeat (first | refine blk_drewN ?_ _ | refine blk_drew ?_ | refine blk_alloc ?_ _)); exact BK.out) hg (Kd.R_ne HO.out BK.out (by decide))); have n2_ := A' (hb); have n3_ := A' (ho); have n5_ := A' (IsS75.grown (by repeat (first | (with_reducible exact HT.out) | apply IsS75.alloc | apply IsS75.drewN | apply IsS75.drew)) hg (IsS75.own_ne HT.out HO.out (by decide))); clear HT; have HT := n5_; clear n5_; clear BK; clear HB; clear HO; have BK := n1_; have HB := n2_; have HO := n3_; clear n1_ n2_ n3_; clear ho hb hg hat)))
           go_roundw
           case rel =>
            refine ⟨j + 1, by omega, by go_num, ⟨?_⟩, ⟨?_⟩, BK, HB⟩
            · rw [evDig_step, ← List.append_assoc, ← digit_eq h h', show evCtx (numC n) j = evTail j by simp [evCtx, evTail, hj0]]
              exact HO.out
            · rw [evTail_step j hj0]
              exact HT.out
           case measure => simp [intOf]; omega
       · obtain rfl : j = numC n := by omega
         clear hlt hj
         have hq0 : wr.cell? ⟨gb, 1, none⟩ = some (.int .i64 n) := (blk_cell BK.out 1).trans rfl
         have hq1 := blk_frozen BK.out 1
         have HL := A' (show (evHead base (numC n) ++ evMid base (numC n) ++ evDig base n (numC n) (numC n)).length ≤ 60 by have := evMid_len base (numC n); simp only [List.length_append, evHead_len, evDig_len]; omega)
         by_cases hz : n = 0
         · go_wp2
           go_ret
           refine ⟨_, rfl, ?_, HB.out⟩
           unfold evList
           rw [show evSign base n = [] from if_pos hz, List.append_nil]
           exact HO.out
         · have hq2 : (wr.alloc (.cells #[.int .i64 (base + 22), .int .i64 0] 46)).cell? ⟨gb, 1, none⟩ = some (.int .i64 n) := (blk_cell (blk_alloc BK.out _) 1).trans rfl
           have hq3 : (wr.alloc (.cells #[.int .i64 (base + 22), .int .i64 0] 46)).frozen? ⟨gb, 1, none⟩ = false := blk_frozen (blk_alloc BK.out _) 1
           by_cases hs : n < 0
           · have hg : evSign base n = [⟨base + 22, 1⟩] := by unfold evSign; rw [if_neg hz, if_pos hs]
             go_wp2_with (first | ((with_reducible refine gate_dst (N := 92) rfl ?_); obtain ⟨wq, hwq⟩ : ∃ wq, wr.alloc (.cells #[.int .i64 (base + 22), .int .i64 1] 46) = wq := ⟨_, rfl⟩; rw [hwq]; have n1_ := A' (show Kd.R k46 46 wq w.heap.size (fun _ => True) u5 _ from hwq ▸ Kd.R_alloc HO.out _); have n2_ := A' (show wq.heap[gb]? = some (.cells #[.bool false, .int .i64 n] 28 (0, 0)) from hwq ▸ blk_alloc BK.out _); have n3_ := A' (show Below w.heap.size w wq from hwq ▸ below_alloc HB.out _); clear HO BK HB hq0 hq1 hq2 hq3; have HO := n1_; have BK := n2_; have HB := n3_; clear n1_ n2_ n3_; clear hwq) | ((with_reducible refine gate_builtin (b := .append) (xs := #[.tmp 90, .tmp 92]) rfl ?_); at_builtin; (refine Kd.R_append k46 (w0 := w) w.heap.size rfl (.tmp 90) (.tmp 92) 41 46 (.agg #[(.int .i64 0), (.int .i64 0)]) 16 rfl Try.underlying41 info46 rfl (by decide) (by omega) u5 (evHead base (numC n) ++ evMid base (numC n) ++ evDig base n (numC n) (numC n)) (⟨base + 22, 1⟩ : S46) [.int .i64 (base + 22), .int .i64 (1)] (fun _ => True) (fun _ => False) rfl rfl ?aP (fun _ hk => hk.elim) ?aF ?aO ?aB ?aS ?aL ?_; (case aP => exact k46_mkM _ _ _ (⟨base + 22, 1⟩ : S46)); (case aB => exact (by repeat (first | (with_reducible first | exact HB.out | apply below_alloc | apply pw_below_drewN | apply below_drew1 | refine below_set ?_ GE.out) | exact HB.out))); (case aF => exact (fun _ _ => trivial)); (case aO => exact (by (with_reducible repeat (first | apply Kd.R_alloc | apply Kd.R_drewN | apply Kd.R_drew)); exact HO.out)); (case aS => exact (below_size (by repeat (first | (with_reducible first | exact HB.out | apply below_alloc | apply pw_below_drewN | apply below_drew1 | refine below_set ?_ GE.out) | exact HB.out)))); (case aL => have := HL.out; omega); intro v2 wa ho hb hg hat; have n1_ := A' (blk_grown (g := gb) (o := .cells #[.bool false, .int .i64 n] 28 (0, 0)) (by (with_reducible repeat (first | refine blk_drewN ?_ _ | refine blk_drew ?_ | refine blk_alloc ?_ _)); exact BK.out) hg (Kd.R_ne HO.out BK.out (by decide))); have n2_ := A' (hb); have n3_ := A' (ho); clear BK; clear HB; clear HO; have BK := n1_; have HB := n2_; have HO := n3_; clear n1_ n2_ n3_; clear ho hb hg hat)))
             go_ret
             refine ⟨_, rfl, ?_, HB.out⟩
             unfold evList
             rw [hg]
             exact HO.out
           · have hg : evSign base n = [⟨base + 22, 0⟩] := by unfold evSign; rw [if_neg hz, if_neg hs]
             go_wp2_with (first | ((with_reducible refine gate_dst (N := 92) rfl ?_); obtain ⟨wq, hwq⟩ : ∃ wq, wr.alloc (.cells #[.int .i64 (base + 22), .int .i64 0] 46) = wq := ⟨_, rfl⟩; rw [hwq]; have n1_ := A' (show Kd.R k46 46 wq w.heap.size (fun _ => True) u5 _ from hwq ▸ Kd.R_alloc HO.out _); have n2_ := A' (show wq.heap[gb]? = some (.cells #[.bool false, .int .i64 n] 28 (0, 0)) from hwq ▸ blk_alloc BK.out _); have n3_ := A' (show Below w.heap.size w wq from hwq ▸ below_alloc HB.out _); clear HO BK HB hq0 hq1 hq2 hq3; have HO := n1_; have BK := n2_; have HB := n3_; clear n1_ n2_ n3_; clear hwq) | ((with_reducible refine gate_builtin (b := .append) (xs := #[.tmp 90, .tmp 92]) rfl ?_); at_builtin; (refine Kd.R_append k46 (w0 := w) w.heap.size rfl (.tmp 90) (.tmp 92) 41 46 (.agg #[(.int .i64 0), (.int .i64 0)]) 16 rfl Try.underlying41 info46 rfl (by decide) (by omega) u5 (evHead base (numC n) ++ evMid base (numC n) ++ evDig base n (numC n) (numC n)) (⟨base + 22, 0⟩ : S46) [.int .i64 (base + 22), .int .i64 (0)] (fun _ => True) (fun _ => False) rfl rfl ?aP (fun _ hk => hk.elim) ?aF ?aO ?aB ?aS ?aL ?_; (case aP => exact k46_mkM _ _ _ (⟨base + 22, 0⟩ : S46)); (case aB => exact (by repeat (first | (with_reducible first | exact HB.out | apply below_alloc | apply pw_below_drewN | apply below_drew1 | refine below_set ?_ GE.out) | exact HB.out))); (case aF => exact (fun _ _ => trivial)); (case aO => exact (by (with_reducible repeat (first | apply Kd.R_alloc | apply Kd.R_drewN | apply Kd.R_drew)); exact HO.out)); (case aS => exact (below_size (by repeat (first | (with_reducible first | exact HB.out | apply below_alloc | apply pw_below_drewN | apply below_drew1 | refine below_set ?_ GE.out) | exact HB.out)))); (case aL => have := HL.out; omega); intro v2 wa ho hb hg hat; have n1_ := A' (blk_grown (g := gb) (o := .cells #[.bool false, .int .i64 n] 28 (0, 0)) (by (with_reducible repeat (first | refine blk_drewN ?_ _ | refine blk_drew ?_ | refine blk_alloc ?_ _)); exact BK.out) hg (Kd.R_ne HO.out BK.out (by decide))); have n2_ := A' (hb); have n3_ := A' (ho); clear BK; clear HB; clear HO; have BK := n1_; have HB := n2_; have HO := n3_; clear n1_ n2_ n3_; clear ho hb hg hat)))
             go_ret
             refine ⟨_, rfl, ?_, HB.out⟩
             unfold evList
             rw [hg]
             exact HO.out
    · have hm : evMid base (numC n) = [] := if_neg h20
      go_wp2
      go_loopw [5, 10] (fun l i wz => ∃ j : Nat, j ≤ numC n ∧ i = .int .i64 ((numC n : Int) - 1 - j) ∧ Aside0 (Kd.R k46 46 wz w.heap.size (fun _ => True) l (evHead base (numC n) ++ evMid base (numC n) ++ evDig base n (numC n) j)) ∧ Aside0 (IsS75 w wz wr.heap.size (evTail j)) ∧ Aside0 (wz.heap[gb]? = some (.cells #[.bool false, .int .i64 n] 28 (0, 0))) ∧ Aside0 (Below w.heap.size w wz)) (fun _ i _ => (intOf i + 1).toNat)
      case atStart =>
       refine ⟨0, Nat.zero_le _, by go_num, ⟨?_⟩, ⟨?_⟩, ⟨?_⟩, ⟨?_⟩⟩
       · rw [hm, show evDig base n (numC n) 0 = [] from rfl, List.append_nil]
         exact Kd.R_alloc (by first | exact HO.out | (rw [List.append_nil]; exact HO.out)) _
       · exact IsS75.new w wr 44 HB.out
       · exact blk_alloc BK.out _
       · exact below_alloc HB.out _
      case round =>
       clear HO BK HB
       obtain ⟨j, hj, rfl, HO, HT, BK, HB⟩ := hrel
       by_cases hlt : j < numC n
       · have HL := A' (show (evHead base (numC n) ++ evMid base (numC n) ++ evDig base n (numC n) j).length ≤ 60 by have := evMid_len base (numC n); simp only [List.length_append, evHead_len, evDig_len]; omega)
         by_cases hj0 : j = 0
         · go_wp2_with (first | ((with_reducible refine gate_builtin (b := .append) (xs := #[.tmp 69, .tmp 78]) rfl ?_); at_builtin; (refine Kd.R_append k46 (w0 := w) w.heap.size rfl (.tmp 69) (.tmp 78) 41 46 (.agg #[(.int .i64 0), (.int .i64 0)]) 16 rfl Try.underlying41 info46 rfl (by decide) (by omega) u5 (evHead base (numC n) ++ evMid base (numC n) ++ evDig base n (numC n) j) (⟨base + (23 + (numC n : Int)), Go.bits .and .i64 ((numA n + 1) / 2 ^ (numC n - 1)) 1⟩ : S46) [.int .i64 (base + (23 + (numC n : Int))), .int .i64 (Go.bits .and .i64 ((numA n + 1) / 2 ^ (numC n - 1)) 1)] (fun _ => True) (fun _ => False) rfl rfl ?aP (fun _ hk => hk.elim) ?aF ?aO ?aB ?aS ?aL ?_; (case aP => exact k46_mkM _ _ _ (⟨base + (23 + (numC n : Int)), Go.bits .and .i64 ((numA n + 1) / 2 ^ (numC n - 1)) 1⟩ : S46)); (case aB => exact (by repeat (first | (with_reducible first | exact HB.out | apply below_alloc | apply pw_below_drewN | apply below_drew1 | refine below_set ?_ GE.out) | exact HB.out))); (case aF => exact (fun _ _ => trivial)); (case aO => exact (by (with_reducible repeat (first | apply Kd.R_alloc | apply Kd.R_drewN | apply Kd.R_drew)); exact HO.out)); (case aS => exact (below_size (by repeat (first | (with_reducible first | exact HB.out | apply below_alloc | apply pw_below_drewN | apply below_drew1 | refine below_set ?_ GE.out) | exact HB.out)))); (case aL => have := HL.out; omega); intro v2 wa ho hb hg hat; have n1_ := A' (blk_grown (g := gb) (o := .cells #[.bool false, .int .i64 n] 28 (0, 0)) (by (with_reducible repeat (first | refine blk_drewN ?_ _ | refine blk_drew ?_ | refine blk_alloc ?_ _)); exact BK.out) hg (Kd.R_ne HO.out BK.out (by decide))); have n2_ := A' (hb); have n3_ := A' (ho); have n5_ := A' (IsS75.grown (by repeat (first | (with_reducible exact HT.out) | apply IsS75.alloc | apply IsS75.drewN | apply IsS75.drew)) hg (IsS75.own_ne HT.out HO.out (by decide))); clear HT; have HT := n5_; clear n5_; clear BK; clear HB; clear HO; have BK := n1_; have HB := n2_; have HO := n3_; clear n1_ n2_ n3_; clear ho hb hg hat)))
           go_roundw
           case rel =>
            subst hj0
            refine ⟨0 + 1, by omega, by go_num, ⟨?_⟩, ⟨HT.out⟩, BK, HB⟩
            rw [evDig_step, ← List.append_assoc, ← digit_eq h h']
            exact HO.out
           case measure => simp [intOf]; omega
         · have ht := evTail_range j
           go_wp2_with (first | (go_at_call 26; (refine (number_tail_take.calls _ (evTail j) _ _ w _ HT.out HB.out rfl).mono ?_); rintro e wt ⟨rfl, hT, hB, hK⟩; have n1_ := A' (Kd.R_mono (Kd.R_keep (IsS75.apart HT.out HO.out (by decide)) hK (fun _ hk => hk.2)) (fun _ _ => trivial)); have n2_ := A' (hK.blk BK.out (IsS75.ne_blk HT.out BK.out (by decide)).symm (by simp)); have n3_ := A' hT; have n4_ := A' hB; clear HO BK HT HB hT hB hK; have HO := n1_; have BK := n2_; have HT := n3_; have HB := n4_; clear n1_ n2_ n3_ n4_) | ((with_reducible refine gate_builtin (b := .append) (xs := #[.tmp 69, .tmp 78]) rfl ?_); at_builtin; (refine Kd.R_append k46 (w0 := w) w.heap.size rfl (.tmp 69) (.tmp 78) 41 46 (.agg #[(.int .i64 0), (.int .i64 0)]) 16 rfl Try.underlying41 info46 rfl (by decide) (by omega) u5 (evHead base (numC n) ++ evMid base (numC n) ++ evDig base n (numC n) j) (⟨base + evTail j, Go.bits .and .i64 ((numA n + 1) / 2 ^ (numC n - 1 - j)) 1⟩ : S46) [.int .i64 (base + evTail j), .int .i64 (Go.bits .and .i64 ((numA n + 1) / 2 ^ (numC n - 1 - j)) 1)] (fun _ => True) (fun _ => False) rfl rfl ?aP (fun _ hk => hk.elim) ?aF ?aO ?aB ?aS ?aL ?_; (case aP => exact k46_mkM _ _ _ (⟨base + evTail j, Go.bits .and .i64 ((numA n + 1) / 2 ^ (numC n - 1 - j)) 1⟩ : S46)); (case aB => exact (by repeat (first | (with_reducible first | exact HB.out | apply below_alloc | apply pw_below_drewN | apply below_drew1 | refine below_set ?_ GE.out) | exact HB.out))); (case aF => exact (fun _ _ => trivial)); (case aO => exact (by (with_reducible repeat (first | apply Kd.R_alloc | apply Kd.R_drewN | apply Kd.R_drew)); exact HO.out)); (case aS => exact (below_size (by repeat (first | (with_reducible first | exact HB.out | apply below_alloc | apply pw_below_drewN | apply below_drew1 | refine below_set ?_ GE.out) | exact HB.out)))); (case aL => have := HL.out; omega); intro v2 wa ho hb hg hat; have n1_ := A' (blk_grown (g := gb) (o := .cells #[.bool false, .int .i64 n] 28 (0, 0)) (by (with_reducible repeat (first | refine blk_drewN ?_ _ | refine blk_drew ?_ | refine blk_alloc ?_ _)); exact BK.out) hg (Kd.R_ne HO.out BK.out (by decide))); have n2_ := A' (hb); have n3_ := A' (ho); have n5_ := A' (IsS75.grown (by repeat (first | (with_reducible exact HT.out) | apply IsS75.alloc | apply IsS75.drewN | apply IsS75.drew)) hg (IsS75.own_ne HT.out HO.out (by decide))); clear HT; have HT := n5_; clear n5_; clear BK; clear HB; clear HO; have BK := n1_; have HB := n2_; have HO := n3_; clear n1_ n2_ n3_; clear ho hb hg hat)))
           go_roundw
           case rel =>
            refine ⟨j + 1, by omega, by go_num, ⟨?_⟩, ⟨?_⟩, BK, HB⟩
            · rw [evDig_step, ← List.append_assoc, ← digit_eq h h', show evCtx (numC n) j = evTail j by simp [evCtx, evTail, hj0]]
              exact HO.out
            · rw [evTail_step j hj0]
              exact HT.out
           case measure => simp [intOf]; omega
       · obtain rfl : j = numC n := by omega
         clear hlt hj
         have hq0 : wr.cell? ⟨gb, 1, none⟩ = some (.int .i64 n) := (blk_cell BK.out 1).trans rfl
         have hq1 := blk_frozen BK.out 1
         have HL := A' (show (evHead base (numC n) ++ evMid base (numC n) ++ evDig base n (numC n) (numC n)).length ≤ 60 by have := evMid_len base (numC n); simp only [List.length_append, evHead_len, evDig_len]; omega)
         by_cases hz : n = 0
         · go_wp2
           go_ret
           refine ⟨_, rfl, ?_, HB.out⟩
           unfold evList
           rw [show evSign base n = [] from if_pos hz, List.append_nil]
           exact HO.out
         · have hq2 : (wr.alloc (.cells #[.int .i64 (base + 22), .int .i64 0] 46)).cell? ⟨gb, 1, none⟩ = some (.int .i64 n) := (blk_cell (blk_alloc BK.out _) 1).trans rfl
           have hq3 : (wr.alloc (.cells #[.int .i64 (base + 22), .int .i64 0] 46)).frozen? ⟨gb, 1, none⟩ = false := blk_frozen (blk_alloc BK.out _) 1
           by_cases hs : n < 0
           · have hg : evSign base n = [⟨base + 22, 1⟩] := by unfold evSign; rw [if_neg hz, if_pos hs]
             go_wp2_with (first | ((with_reducible refine gate_dst (N := 92) rfl ?_); obtain ⟨wq, hwq⟩ : ∃ wq, wr.alloc (.cells #[.int .i64 (base + 22), .int .i64 1] 46) = wq := ⟨_, rfl⟩; rw [hwq]; have n1_ := A' (show Kd.R k46 46 wq w.heap.size (fun _ => True) u5 _ from hwq ▸ Kd.R_alloc HO.out _); have n2_ := A' (show wq.heap[gb]? = some (.cells #[.bool false, .int .i64 n] 28 (0, 0)) from hwq ▸ blk_alloc BK.out _); have n3_ := A' (show Below w.heap.size w wq from hwq ▸ below_alloc HB.out _); clear HO BK HB hq0 hq1 hq2 hq3; have HO := n1_; have BK := n2_; have HB := n3_; clear n1_ n2_ n3_; clear hwq) | ((with_reducible refine gate_builtin (b := .append) (xs := #[.tmp 90, .tmp 92]) rfl ?_); at_builtin; (refine Kd.R_append k46 (w0 := w) w.heap.size rfl (.tmp 90) (.tmp 92) 41 46 (.agg #[(.int .i64 0), (.int .i64 0)]) 16 rfl Try.underlying41 info46 rfl (by decide) (by omega) u5 (evHead base (numC n) ++ evMid base (numC n) ++ evDig base n (numC n) (numC n)) (⟨base + 22, 1⟩ : S46) [.int .i64 (base + 22), .int .i64 (1)] (fun _ => True) (fun _ => False) rfl rfl ?aP (fun _ hk => hk.elim) ?aF ?aO ?aB ?aS ?aL ?_; (case aP => exact k46_mkM _ _ _ (⟨base + 22, 1⟩ : S46)); (case aB => exact (by repeat (first | (with_reducible first | exact HB.out | apply below_alloc | apply pw_below_drewN | apply below_drew1 | refine below_set ?_ GE.out) | exact HB.out))); (case aF => exact (fun _ _ => trivial)); (case aO => exact (by (with_reducible repeat (first | apply Kd.R_alloc | apply Kd.R_drewN | apply Kd.R_drew)); exact HO.out)); (case aS => exact (below_size (by repeat (first | (with_reducible first | exact HB.out | apply below_alloc | apply pw_below_drewN | apply below_drew1 | refine below_set ?_ GE.out) | exact HB.out)))); (case aL => have := HL.out; omega); intro v2 wa ho hb hg hat; have n1_ := A' (blk_grown (g := gb) (o := .cells #[.bool false, .int .i64 n] 28 (0, 0)) (by (with_reducible repeat (first | refine blk_drewN ?_ _ | refine blk_drew ?_ | refine blk_alloc ?_ _)); exact BK.out) hg (Kd.R_ne HO.out BK.out (by decide))); have n2_ := A' (hb); have n3_ := A' (ho); clear BK; clear HB; clear HO; have BK := n1_; have HB := n2_; have HO := n3_; clear n1_ n2_ n3_; clear ho hb hg hat)))
             go_ret
             refine ⟨_, rfl, ?_, HB.out⟩
             unfold evList
             rw [hg]
             exact HO.out
           · have hg : evSign base n = [⟨base + 22, 0⟩] := by unfold evSign; rw [if_neg hz, if_neg hs]
             go_wp2_with (first | ((with_reducible refine gate_dst (N := 92) rfl ?_); obtain ⟨wq, hwq⟩ : ∃ wq, wr.alloc (.cells #[.int .i64 (base + 22), .int .i64 0] 46) = wq := ⟨_, rfl⟩; rw [hwq]; have n1_ := A' (show Kd.R k46 46 wq w.heap.size (fun _ => True) u5 _ from hwq ▸ Kd.R_alloc HO.out _); have n2_ := A' (show wq.heap[gb]? = some (.cells #[.bool false, .int .i64 n] 28 (0, 0)) from hwq ▸ blk_alloc BK.out _); have n3_ := A' (show Below w.heap.size w wq from hwq ▸ below_alloc HB.out _); clear HO BK HB hq0 hq1 hq2 hq3; have HO := n1_; have BK := n2_; have HB := n3_; clear n1_ n2_ n3_; clear hwq) | ((with_reducible refine gate_builtin (b := .append) (xs := #[.tmp 90, .tmp 92]) rfl ?_); at_builtin; (refine Kd.R_append k46 (w0 := w) w.heap.size rfl (.tmp 90) (.tmp 92) 41 46 (.agg #[(.int .i64 0), (.int .i64 0)]) 16 rfl Try.underlying41 info46 rfl (by decide) (by omega) u5 (evHead base (numC n) ++ evMid base (numC n) ++ evDig base n (numC n) (numC n)) (⟨base + 22, 0⟩ : S46) [.int .i64 (base + 22), .int .i64 (0)] (fun _ => True) (fun _ => False) rfl rfl ?aP (fun _ hk => hk.elim) ?aF ?aO ?aB ?aS ?aL ?_; (case aP => exact k46_mkM _ _ _ (⟨base + 22, 0⟩ : S46)); (case aB => exact (by repeat (first | (with_reducible first | exact HB.out | apply below_alloc | apply pw_below_drewN | apply below_drew1 | refine below_set ?_ GE.out) | exact HB.out))); (case aF => exact (fun _ _ => trivial)); (case aO => exact (by (with_reducible repeat (first | apply Kd.R_alloc | apply Kd.R_drewN | apply Kd.R_drew)); exact HO.out)); (case aS => exact (below_size (by repeat (first | (with_reducible first | exact HB.out | apply below_alloc | apply pw_below_drewN | apply below_drew1 | refine below_set ?_ GE.out) | exact HB.out)))); (case aL => have := HL.out; omega); intro v2 wa ho hb hg hat; have n1_ := A' (blk_grown (g := gb) (o := .cells #[.bool false, .int .i64 n] 28 (0, 0)) (by (with_reducible repeat (first | refine blk_drewN ?_ _ | refine blk_drew ?_ | refine blk_alloc ?_ _)); exact BK.out) hg (Kd.R_ne HO.out BK.out (by decide))); have n2_ := A' (hb); have n3_ := A' (ho); clear BK; clear HB; clear HO; have BK := n1_; have HB := n2_; have HO := n3_; clear n1_ n2_ n3_; clear ho hb hg hat)))
             go_ret
             refine ⟨_, rfl, ?_, HB.out⟩
             unfold evList
             rw [hg]
             exact HO.out
end Go.Proofs.Ytmndieohblpgaaa.Num
namespace Go.Proofs.Ytmndieohblpgaaa.Evs
open Go Go.RowKit YtmndieohblpgaaaW PrintWords PrintLast PrintMore Aid HandAid U Num
/-- Whether a number is one, or none. -/
def okNum (nn : Bool) (n : Int) : Bool := if nn = true then n == 0 else decide (-1048576 ≤ n) && decide (n ≤ 1048576)
theorem valid_eq (nn : Bool) (n : Int) : number_Valid.f nn n = some (okNum nn n) := by
 unfold number_Valid.f okNum
 cases nn
 · simp only [Bool.false_eq_true, if_false]
   by_cases h : n ≥ -1048576
   · rw [if_pos h, decide_eq_true (show -1048576 ≤ n from h)]; rfl
   · rw [if_neg h, decide_eq_false (show ¬ -1048576 ≤ n from h)]; rfl
 · rfl
theorem ref_valid_eq (nn : Bool) (n : Int) : incunableref03_Valid.f nn n = some (okNum nn n) := valid_eq nn n
/-- The events of a number, or of none. -/
def evAll (base : Int) (nn : Bool) (n : Int) : List S46 := if nn = true then [⟨base, 1⟩] else evList base n
theorem events_all (base n : Int) (nn : Bool) (w : World) (hb0 : 0 ≤ base) (hb1 : base ≤ 1000000) (hok : okNum nn n = true) : Calls Try.prog 18 #[.int .i64 base, .agg #[.bool nn, .int .i64 n]] w fun e w' => ∃ v, e = .returned v ∧ Kd.R k46 46 w' w.heap.size (fun _ => True) v (evAll base nn n) ∧ Below w.heap.size w w' := by
 cases nn
 · unfold okNum at hok
   simp only [Bool.false_eq_true, if_false, Bool.and_eq_true, decide_eq_true_eq] at hok
   exact events_calls base n w hb0 hb1 hok.1 hok.2
 · exact events_none base n w
def evRes (base : Int) (nn : Bool) (n : Int) : List S46 × Int := if okNum nn n = true ∧ 0 ≤ base ∧ base ≤ 8144 then (evAll base nn n, 0) else ([], 2)
set_option maxHeartbeats 4000000 in
set_option maxRecDepth 100000 in
theorem Events_calls (base n : Int) (nn : Bool) (w : World) : Calls Try.prog 12 #[.int .i64 base, .agg #[.bool nn, .int .i64 n]] w fun e w' => ∃ v, e = .returned (.tuple #[v, .int .i64 (evRes base nn n).2]) ∧ Kd.R k46 46 w' w.heap.size (fun _ => True) v (evRes base nn n).1 ∧ Below w.heap.size w w' := by
 have HB := A' (Below.refl w.heap.size w)
 have hu := Try.underlying28
 by_cases hok : okNum nn n = true
 · by_cases hb0 : 0 ≤ base
   · by_cases hb1 : base ≤ 8144
     · have he : evRes base nn n = (evAll base nn n, 0) := if_pos ⟨hok, hb0, hb1⟩
       rw [he]
       have hok' := hok
       go_enter Try.func12, Try.ntmps12
       go_wp2_with (first | ((with_reducible refine gate_dst (N := 3) rfl ?_); refine box_event ?hg (N := 3) ?hd (cs := #[.bool nn, .int .i64 n]) (t := 28) ?hr ?_; (case hd => rfl); (case hg => rfl); (case hr => first | (go_simp; done) | (go_simp; rfl)); intro gb hg wb hbox hb; have n0_ := A' (below_step (by repeat (first | (with_reducible first | exact HB.out | apply below_alloc | apply pw_below_drewN | apply below_drew1 | refine below_set ?_ GE.out) | exact HB.out)) hb); have n1_ := A' (hbox); have n2_ := A' ((by rw [hg]; exact (below_size (by repeat (first | (with_reducible first | exact HB.out | apply below_alloc | apply pw_below_drewN | apply below_drew1 | refine below_set ?_ GE.out) | exact HB.out))) : w.heap.size ≤ gb)); clear HB; have HB := n0_; have BK := n1_; have GE := n2_; clear n0_ n1_ n2_; clear hb hbox hg; have hcz0 : wb.cell? ⟨gb, 0, none⟩ = some (.bool nn) := (blk_cell BK.out 0).trans rfl; have hcz1 : wb.cell? ⟨gb, 1, none⟩ = some (.int .i64 n) := (blk_cell BK.out 1).trans rfl; have hfz0 := blk_frozen BK.out 0; have hfz1 := blk_frozen BK.out 1) | (go_at_call 16; refine (number_Valid.calls nn n _ _ (valid_eq nn n)).mono ?_; rintro e wv ⟨rfl, hv⟩; have n1_ := A' (blk_below BK.out hv); have n2_ := A' (below_step HB.out hv); clear BK HB hv; have BK := n1_; have HB := n2_; clear n1_ n2_; have hcv0 : wv.cell? ⟨gb, 0, none⟩ = some (.bool nn) := (blk_cell BK.out 0).trans rfl; have hcv1 : wv.cell? ⟨gb, 1, none⟩ = some (.int .i64 n) := (blk_cell BK.out 1).trans rfl; have hfv0 := blk_frozen BK.out 0; have hfv1 := blk_frozen BK.out 1) | (go_at_call 18; refine (events_all base n nn _ hb0 (by omega) hok').mono ?_; rintro e we ⟨v, rfl, hR, hE⟩; have HR := A' (Kd.R_lower hR (below_size HB.out)); have n2_ := A' (below_step HB.out hE); clear hR hE HB; have HB := n2_; clear n2_))
       go_ret2
       exact ⟨v, rfl, HR.out, HB.out⟩
     · have he : evRes base nn n = ([], 2) := if_neg (fun h => hb1 h.2.2)
       rw [he]
       go_enter Try.func12, Try.ntmps12
       go_wp2_with (first | ((with_reducible refine gate_dst (N := 3) rfl ?_); refine box_event ?hg (N := 3) ?hd (cs := #[.bool nn, .int .i64 n]) (t := 28) ?hr ?_; (case hd => rfl); (case hg => rfl); (case hr => first | (go_simp; done) | (go_simp; rfl)); intro gb hg wb hbox hb; have n0_ := A' (below_step (by repeat (first | (with_reducible first | exact HB.out | apply below_alloc | apply pw_below_drewN | apply below_drew1 | refine below_set ?_ GE.out) | exact HB.out)) hb); have n1_ := A' (hbox); have n2_ := A' ((by rw [hg]; exact (below_size (by repeat (first | (with_reducible first | exact HB.out | apply below_alloc | apply pw_below_drewN | apply below_drew1 | refine below_set ?_ GE.out) | exact HB.out))) : w.heap.size ≤ gb)); clear HB; have HB := n0_; have BK := n1_; have GE := n2_; clear n0_ n1_ n2_; clear hb hbox hg; have hcz0 : wb.cell? ⟨gb, 0, none⟩ = some (.bool nn) := (blk_cell BK.out 0).trans rfl; have hcz1 : wb.cell? ⟨gb, 1, none⟩ = some (.int .i64 n) := (blk_cell BK.out 1).trans rfl; have hfz0 := blk_frozen BK.out 0; have hfz1 := blk_frozen BK.out 1) | (go_at_call 16; refine (number_Valid.calls nn n _ _ (valid_eq nn n)).mono ?_; rintro e wv ⟨rfl, hv⟩; have n1_ := A' (blk_below BK.out hv); have n2_ := A' (below_step HB.out hv); clear BK HB hv; have BK := n1_; have HB := n2_; clear n1_ n2_; have hcv0 : wv.cell? ⟨gb, 0, none⟩ = some (.bool nn) := (blk_cell BK.out 0).trans rfl; have hcv1 : wv.cell? ⟨gb, 1, none⟩ = some (.int .i64 n) := (blk_cell BK.out 1).trans rfl; have hfv0 := blk_frozen BK.out 0; have hfv1 := blk_frozen BK.out 1))
       go_ret2
       exact ⟨_, rfl, Kd.R_nil _ _ _ _ _, HB.out⟩
   · have he : evRes base nn n = ([], 2) := if_neg (fun h => hb0 h.2.1)
     rw [he]
     go_enter Try.func12, Try.ntmps12
     go_wp2_with (first | ((with_reducible refine gate_dst (N := 3) rfl ?_); refine box_event ?hg (N := 3) ?hd (cs := #[.bool nn, .int .i64 n]) (t := 28) ?hr ?_; (case hd => rfl); (case hg => rfl); (case hr => first | (go_simp; done) | (go_simp; rfl)); intro gb hg wb hbox hb; have n0_ := A' (below_step (by repeat (first | (with_reducible first | exact HB.out | apply below_alloc | apply pw_below_drewN | apply below_drew1 | refine below_set ?_ GE.out) | exact HB.out)) hb); have n1_ := A' (hbox); have n2_ := A' ((by rw [hg]; exact (below_size (by repeat (first | (with_reducible first | exact HB.out | apply below_alloc | apply pw_below_drewN | apply below_drew1 | refine below_set ?_ GE.out) | exact HB.out))) : w.heap.size ≤ gb)); clear HB; have HB := n0_; have BK := n1_; have GE := n2_; clear n0_ n1_ n2_; clear hb hbox hg; have hcz0 : wb.cell? ⟨gb, 0, none⟩ = some (.bool nn) := (blk_cell BK.out 0).trans rfl; have hcz1 : wb.cell? ⟨gb, 1, none⟩ = some (.int .i64 n) := (blk_cell BK.out 1).trans rfl; have hfz0 := blk_frozen BK.out 0; have hfz1 := blk_frozen BK.out 1) | (go_at_call 16; refine (number_Valid.calls nn n _ _ (valid_eq nn n)).mono ?_; rintro e wv ⟨rfl, hv⟩; have n1_ := A' (blk_below BK.out hv); have n2_ := A' (below_step HB.out hv); clear BK HB hv; have BK := n1_; have HB := n2_; clear n1_ n2_; have hcv0 : wv.cell? ⟨gb, 0, none⟩ = some (.bool nn) := (blk_cell BK.out 0).trans rfl; have hcv1 : wv.cell? ⟨gb, 1, none⟩ = some (.int .i64 n) := (blk_cell BK.out 1).trans rfl; have hfv0 := blk_frozen BK.out 0; have hfv1 := blk_frozen BK.out 1))
     go_ret2
     exact ⟨_, rfl, Kd.R_nil _ _ _ _ _, HB.out⟩
 · have he : evRes base nn n = ([], 2) := if_neg (fun h => hok h.1)
   have hok2 : okNum nn n = false := Bool.eq_false_iff.mpr hok
   rw [he]
   go_enter Try.func12, Try.ntmps12
   go_wp2_with (first | ((with_reducible refine gate_dst (N := 3) rfl ?_); refine box_event ?hg (N := 3) ?hd (cs := #[.bool nn, .int .i64 n]) (t := 28) ?hr ?_; (case hd => rfl); (case hg => rfl); (case hr => first | (go_simp; done) | (go_simp; rfl)); intro gb hg wb hbox hb; have n0_ := A' (below_step (by repeat (first | (with_reducible first | exact HB.out | apply below_alloc | apply pw_below_drewN | apply below_drew1 | refine below_set ?_ GE.out) | exact HB.out)) hb); have n1_ := A' (hbox); have n2_ := A' ((by rw [hg]; exact (below_size (by repeat (first | (with_reducible first | exact HB.out | apply below_alloc | apply pw_below_drewN | apply below_drew1 | refine below_set ?_ GE.out) | exact HB.out))) : w.heap.size ≤ gb)); clear HB; have HB := n0_; have BK := n1_; have GE := n2_; clear n0_ n1_ n2_; clear hb hbox hg; have hcz0 : wb.cell? ⟨gb, 0, none⟩ = some (.bool nn) := (blk_cell BK.out 0).trans rfl; have hcz1 : wb.cell? ⟨gb, 1, none⟩ = some (.int .i64 n) := (blk_cell BK.out 1).trans rfl; have hfz0 := blk_frozen BK.out 0; have hfz1 := blk_frozen BK.out 1) | (go_at_call 16; refine (number_Valid.calls nn n _ _ (valid_eq nn n)).mono ?_; rintro e wv ⟨rfl, hv⟩; have n1_ := A' (blk_below BK.out hv); have n2_ := A' (below_step HB.out hv); clear BK HB hv; have BK := n1_; have HB := n2_; clear n1_ n2_; have hcv0 : wv.cell? ⟨gb, 0, none⟩ = some (.bool nn) := (blk_cell BK.out 0).trans rfl; have hcv1 : wv.cell? ⟨gb, 1, none⟩ = some (.int .i64 n) := (blk_cell BK.out 1).trans rfl; have hfv0 := blk_frozen BK.out 0; have hfv1 := blk_frozen BK.out 1))
   go_ret2
   exact ⟨_, rfl, Kd.R_nil _ _ _ _ _, HB.out⟩
end Go.Proofs.Ytmndieohblpgaaa.Evs
namespace Go.Proofs.Ytmndieohblpgaaa.RefEvs
open Go Go.RowKit YtmndieohblpgaaaW PrintWords PrintLast PrintMore Aid HandAid U Num Evs
theorem pow_pos' (i : Nat) : (0 : Int) < 2 ^ i := Int.pow_pos (by decide)
theorem div_half (v : Int) (i : Nat) : v / 2 ^ i / 2 = v / 2 ^ (i + 1) := by
 rw [Int.ediv_ediv_of_nonneg (Int.le_of_lt (pow_pos' i)), Int.pow_succ]
def shift (base : Int) (x : S46) : S46 := ⟨x.f0 + base, x.f1⟩
theorem evList_shift (base n : Int) : (evList 0 n).map (shift base) = evList base n := by
 unfold evList evHead evMid evDig evSign
 simp only [List.map_append, List.map_cons, List.map_map]
 congr 1
 · congr 1
   · congr 1
     · congr 1
       · simp [shift]
       · apply List.map_congr_left; intro i _; simp [shift]; omega
     · split <;> simp [shift] <;> omega
   · apply List.map_congr_left; intro i _; simp [shift]; omega
 · split
   · rfl
   · simp [shift]; omega
theorem evAll_shift (base : Int) (nn : Bool) (n : Int) : (evAll 0 nn n).map (shift base) = evAll base nn n := by
 unfold evAll
 cases nn
 · exact evList_shift base n
 · simp [shift]
theorem evAll_ctx (nn : Bool) (n : Int) (hok : okNum nn n = true) : ∀ x ∈ evAll 0 nn n, 0 ≤ x.f0 ∧ x.f0 ≤ 47 := by
 unfold evAll
 cases nn
 · unfold okNum at hok
   simp only [Bool.false_eq_true, if_false, Bool.and_eq_true, decide_eq_true_eq] at hok ⊢
   have hC := (numC_spec hok.1 hok.2).2.2.1
   intro x hx
   unfold evList evHead evMid evDig evSign at hx
   simp only [List.mem_append, List.mem_cons, List.mem_map, List.mem_range] at hx
   rcases hx with ((( rfl | ⟨i, hi, rfl⟩) | hx) | ⟨i, hi, rfl⟩) | hx
   · simp
   · simp only; omega
   · split at hx
     · simp only [List.mem_singleton] at hx; subst hx; simp only; omega
     · simp at hx
   · simp only [evCtx]; split <;> (try split) <;> omega
   · split at hx
     · simp at hx
     · simp only [List.mem_singleton] at hx; subst hx; simp only; omega
 · intro x hx
   simp only [if_true, List.mem_singleton] at hx
   subst hx; simp
theorem evAll_len (base : Int) (nn : Bool) (n : Int) (hok : okNum nn n = true) : (evAll base nn n).length ≤ 60 := by
 unfold evAll
 cases nn
 · unfold okNum at hok
   simp only [Bool.false_eq_true, if_false, Bool.and_eq_true, decide_eq_true_eq] at hok ⊢
   have hC := (numC_spec hok.1 hok.2).2.2.1
   have := evMid_len base (numC n)
   unfold evList evSign
   simp only [List.length_append, evHead_len, evDig_len]
   split <;> simp <;> omega
 · simp
theorem same_l0 (l : List S46) (hn : l.length ≤ 1000000) : ∀ (d i : Nat), i + d = l.length → Ev (fun k => incunablelaw03_SameEvents.l0 k l l i) true
 | 0, i, hd => by
   refine ev_succ ?_
   simp only [incunablelaw03_SameEvents.l0]
   exact ev_neg (by omega) (Ev.now _)
 | d + 1, i, hd => by
   refine ev_succ ?_
   simp only [incunablelaw03_SameEvents.l0]
   refine ev_pos (by omega) (ev_pos (by omega) (ev_pos (by omega) (ev_neg (by simp) ?_)))
   rw [show wrap64 ((i : Int) + 1) = ((i + 1 : Nat) : Int) by rw [wrap_id] <;> omega]
   exact same_l0 l hn d (i + 1) (by omega)
theorem sameEvents_ev (l : List S46) (hn : l.length ≤ 1000000) : Ev (fun k => incunablelaw03_SameEvents.f k l l) true := by
 unfold incunablelaw03_SameEvents.f
 exact ev_pos rfl (same_l0 l hn l.length 0 (by omega))
end Go.Proofs.Ytmndieohblpgaaa.RefEvs
namespace Go.Proofs.Ytmndieohblpgaaa.Sane
open Go Go.RowKit YtmndieohblpgaaaW PrintWords PrintLast PrintMore Aid HandAid U Num Evs RefEvs
def sane5 : List S46 := [⟨0, 0⟩, ⟨1, 1⟩, ⟨2, 0⟩, ⟨24, 1⟩, ⟨22, 0⟩]
theorem sane_ev : evRes 0 false 2 = (sane5, 0) := by
 have h : numC 2 = 1 := by unfold numC numV numA; decide
 unfold evRes
 rw [if_pos ⟨by decide, by decide, by decide⟩]
 unfold evAll evList evHead evMid evDig evSign numV numA
 rw [h]
 rfl
set_option maxHeartbeats 4000000 in
set_option maxRecDepth 100000 in
theorem sane_calls (w : World) : Calls Try.prog 5 #[] w fun e w' => e = .returned (.bool true) ∧ Below w.heap.size w w' := by
 have HB := A' (Below.refl w.heap.size w)
 have hE := sane_ev
 go_enter Try.func5, Try.ntmps5
 go_wp2_with (first | (go_at_call 12; refine (Events_calls 0 2 false _).mono ?_; rw [sane_ev]; rintro e wv ⟨v1, rfl, hR, hv⟩; obtain ⟨A1, c1, rfl⟩ := Kd.R_slice hR; have HR1 := A' hR; have n2_ := A' (below_step HB.out hv); clear hR HB hv; have HB := n2_; clear n2_) | ((with_reducible refine gate_dst (N := 17) rfl ?_); (refine gate_guard (by first | rfl | (go_simp; done)) ?_; refine Kd.R_lit k46 _ 46 ?hg (N := 17) ?hd (xs := sane5) (inner := [.int .i64 0, .int .i64 0, .int .i64 1, .int .i64 1, .int .i64 2, .int .i64 0, .int .i64 24, .int .i64 1, .int .i64 22, .int .i64 0]) (ok := fun _ => True) (okp := fun _ => True) ?hr ?hp (fun _ hk => hk) trivial (Below.refl _ _) (Nat.le_refl _) (by decide) ?_; (case hd => rfl); (case hg => rfl); (case hr => first | (go_simp; done) | (go_simp; rfl)); (case hp => exact (Reps.c2 (show Kd.M k46 _ _ _ (⟨0, 0⟩ : S46) [.int .i64 0, .int .i64 0] from (k46_mkM _ _ _ (⟨0, 0⟩ : S46))) (Reps.c2 (show Kd.M k46 _ _ _ (⟨1, 1⟩ : S46) [.int .i64 1, .int .i64 1] from (k46_mkM _ _ _ (⟨1, 1⟩ : S46))) (Reps.c2 (show Kd.M k46 _ _ _ (⟨2, 0⟩ : S46) [.int .i64 2, .int .i64 0] from (k46_mkM _ _ _ (⟨2, 0⟩ : S46))) (Reps.c2 (show Kd.M k46 _ _ _ (⟨24, 1⟩ : S46) [.int .i64 24, .int .i64 1] from (k46_mkM _ _ _ (⟨24, 1⟩ : S46))) (Reps.c2 (show Kd.M k46 _ _ _ (⟨22, 0⟩ : S46) [.int .i64 22, .int .i64 0] from (k46_mkM _ _ _ (⟨22, 0⟩ : S46))) (Reps.none _ _))))))); intro v5 wl ho hb hg_ hnew_; clear hg_ hnew_; obtain ⟨A5, c5, rfl⟩ := Kd.R_slice ho; have HO := A' ho; have n1_ := A' (Kd.R_below HR1.out hb); have n2_ := A' (below_step HB.out hb); clear HB HR1; have HB := n2_; have HR1 := n1_; clear n1_ n2_; clear hb ho)) | (go_at_call 13; (obtain ⟨K5, hK5⟩ := sameEvents_ev sane5 (by decide); refine (incunablelaw03_SameEvents.calls K5 A1 c1 sane5 A5 c5 sane5 _ _ (Kd.R_reads' HR1.out).2.2 (Kd.R_reads' HR1.out).2.1 (Kd.R_reads' HO.out).2.2 (Kd.R_reads' HO.out).2.1 (hK5 K5 (Nat.le_refl _))).mono ?_; rintro e w5 ⟨rfl, m5, rfl⟩)))
 go_ret
 exact ⟨rfl, by repeat (first | (with_reducible first | exact HB.out | apply below_alloc | apply pw_below_drewN | apply below_drew1) | exact HB.out)⟩
end Go.Proofs.Ytmndieohblpgaaa.Sane
namespace Go.Proofs.Ytmndieohblpgaaa.U
open Go Go.RowKit YtmndieohblpgaaaW PrintWords PrintLast PrintMore Aid HandAid
def incunablelaw03_Sane.f : Option Bool := some true
theorem incunablelaw03_Sane.calls (r : Bool) (w : World) (h : incunablelaw03_Sane.f = some r) :
 Calls Try.prog 5 #[] w fun e w' => e = .returned (.bool r) ∧ Below w.heap.size w w' := by
 obtain rfl := Option.some.inj h
 exact Go.Proofs.Ytmndieohblpgaaa.Sane.sane_calls w
end Go.Proofs.Ytmndieohblpgaaa.U
namespace Go.Proofs.Ytmndieohblpgaaa.Cod1
open Go Go.RowKit YtmndieohblpgaaaW PrintWords PrintLast PrintMore Aid HandAid
/-- q(k) of the chapter. -/
def qv : Nat → Int
 | 0 => 2048
 | k + 1 => qv k - qv k / 8
theorem qv_range : ∀ k, 0 ≤ qv k ∧ qv k ≤ 2048
 | 0 => by simp [qv]
 | k + 1 => by have := qv_range k; unfold qv; omega
/-- The table when k places are written. -/
def qpart (k : Nat) : List Value := (List.range 32).map fun (i : Nat) => .int .i64 (if i < k then qv i else 0)
def qtab : Array Value := (qpart 32).toArray
theorem qpart_step (k : Nat) (h : k < 32) : ((qpart k).toArray.setIfInBounds k (.int .i64 (qv k))) = (qpart (k + 1)).toArray := by
 rw [List.setIfInBounds_toArray]
 congr 1
 apply List.ext_getElem
 · simp [qpart]
 intro j h1 h2
 simp only [qpart, List.length_set, List.length_map, List.length_range] at h1 h2
 rw [List.getElem_set]
 by_cases e : k = j
 · subst e; simp [qpart]
 · rw [if_neg e]
   simp only [qpart, List.getElem_map, List.getElem_range]
   by_cases c : j < k
   · rw [if_pos c, if_pos (by omega)]
   · rw [if_neg c, if_neg (by omega)]
theorem qsize (k : Nat) : (qpart k).toArray.size = 32 := by simp [qpart]
theorem qone (k : Nat) : (qpart k).toArray.all (·.oneCell') = true := by
 rw [Array.all_eq_true_iff_forall_mem]
 intro x hx
 simp only [qpart, List.mem_toArray, List.mem_map] at hx
 obtain ⟨i, _, rfl⟩ := hx
 rfl
theorem infoTab : (Try.prog.info? 64).map (·.size) = some 32 := by kernel_rfl
theorem infoQ (k : Nat) : (Try.prog.info? 64).map (·.size) = some (qpart k).toArray.size := by rw [qsize]; exact infoTab
def z32 : Array Value := #[.int .i64 0, .int .i64 0, .int .i64 0, .int .i64 0, .int .i64 0, .int .i64 0, .int .i64 0, .int .i64 0, .int .i64 0, .int .i64 0, .int .i64 0, .int .i64 0, .int .i64 0, .int .i64 0, .int .i64 0, .int .i64 0, .int .i64 0, .int .i64 0, .int .i64 0, .int .i64 0, .int .i64 0, .int .i64 0, .int .i64 0, .int .i64 0, .int .i64 0, .int .i64 0, .int .i64 0, .int .i64 0, .int .i64 0, .int .i64 0, .int .i64 0, .int .i64 0]
theorem z32_def : z32 = #[.int .i64 0, .int .i64 0, .int .i64 0, .int .i64 0, .int .i64 0, .int .i64 0, .int .i64 0, .int .i64 0, .int .i64 0, .int .i64 0, .int .i64 0, .int .i64 0, .int .i64 0, .int .i64 0, .int .i64 0, .int .i64 0, .int .i64 0, .int .i64 0, .int .i64 0, .int .i64 0, .int .i64 0, .int .i64 0, .int .i64 0, .int .i64 0, .int .i64 0, .int .i64 0, .int .i64 0, .int .i64 0, .int .i64 0, .int .i64 0, .int .i64 0, .int .i64 0] := rfl
theorem z32_q : z32 = (qpart 0).toArray := by rfl
set_option maxRecDepth 100000 in
theorem chances_calls (w : World) : Calls Try.prog 31 #[] w fun e w' => e = .returned (.agg qtab) ∧ Below w.heap.size w w' := by
 go_enter Try.func31, Try.ntmps31
 go_wp2
 rw [← z32_def]
 have hb0 := A' ((below_alloc (below_alloc (Below.refl w.heap.size w) (.cells z32 64)) (.cells z32 64)))
 have hb1 : Aside0 (((w.alloc (.cells z32 64)).alloc (.cells z32 64)).heap[w.heap.size + 1]? = some (.cells (qpart 0).toArray 64 (0, 0))) := ⟨by
  have h := heap_new (w.alloc (.cells z32 64)) (.cells z32 64)
  rw [World.size_alloc, z32_q] at h
  rw [z32_q]
  exact h⟩
 have hb2 : Aside0 (((w.alloc (.cells z32 64)).alloc (.cells z32 64)).heap[w.heap.size]? = some (.cells (qpart 0).toArray 64 (0, 0))) := ⟨by
  have h := heap_new w (.cells z32 64)
  rw [z32_q] at h ⊢
  exact ((below_alloc (Below.refl _ _) _).block _ (blk_lt h)).trans h⟩
 generalize ((w.alloc (.cells z32 64)).alloc (.cells z32 64)) = W2 at hb0 hb1 hb2 ⊢
 go_loopw [2, 3, 4] (fun q _ i wr => ∃ k : Nat, k ≤ 32 ∧ q = .int .i64 (qv k) ∧ i = .int .i64 k ∧ Aside0 (wr.heap[w.heap.size]? = some (.cells (qpart 0).toArray 64 (0, 0))) ∧ Aside0 (wr.heap[w.heap.size + 1]? = some (.cells (qpart k).toArray 64 (0, 0))) ∧ Aside0 (Below w.heap.size w wr)) (fun _ _ i _ => 32 - (intOf i).toNat)
 case atStart => exact ⟨0, by omega, rfl, rfl, hb2, hb1, hb0⟩
 case round =>
  obtain ⟨k, hk, rfl, rfl, h0, h1, hB⟩ := hrel
  have hq := qv_range k
  by_cases hlt : k < 32
  · have hfz := blk_frozen h1.out k
    have hc : wr.cell? ⟨w.heap.size + 1, k, none⟩ = some (.int .i64 0) := (blk_cell h1.out k).trans (by simp [qpart, hlt])
    go_wp2
    go_roundw
    case rel =>
     refine ⟨k + 1, by omega, rfl, by go_num, ⟨?_⟩, ⟨?_⟩, ⟨?_⟩⟩
     · exact blk_far h0.out (by simp) _
     · rw [← qpart_step k hlt]
       exact blk_set h1.out k _
     · exact hB.out.setCell (by simp) _
    case measure => simp [intOf]; omega
  · obtain rfl : k = 32 := by omega
    go_wp2_with (first
     | (with_reducible refine wpList_load_row rfl _ _ rfl _ rfl _ _ _ _ h1.out Try.underlying64 rfl (infoQ 32) ?_)
     | (with_reducible refine wpList_store_row rfl _ _ _ rfl _ _ rfl rfl _ _ h0.out (infoQ 32) ((qsize 0).trans (qsize 32).symm) (qone 32) ?_))
    have hrow := setRow_heap wr w.heap.size (qpart 0).toArray (qpart 32).toArray 64 (0, 0) h0.out
    exact bodyPost_ret (v := .agg qtab) (results_cell_row rfl _ _ w.heap.size 64 _ _ _ rfl hrow Try.underlying64 rfl (infoQ 32)) rfl ⟨rfl, below_setRow hB.out (Nat.le_refl _) _⟩
/-- How likely a 1 is, of 4096, in a state. -/
def likely (kind s : Int) : Int :=
 if kind = 1 then (if 4095 < (if (2 * (s % 256) + 1) * 4096 / (2 * (s / 256) + 2 * (s % 256) + 2) < 1 then 1 else (2 * (s % 256) + 1) * 4096 / (2 * (s / 256) + 2 * (s % 256) + 2)) then 4095 else (if (2 * (s % 256) + 1) * 4096 / (2 * (s / 256) + 2 * (s % 256) + 2) < 1 then 1 else (2 * (s % 256) + 1) * 4096 / (2 * (s / 256) + 2 * (s % 256) + 2)))
 else if s ≥ 32 then 4096 - qv (s - 32).toNat else qv s.toNat
/-- A state that is one. -/
def okState (kind s : Int) : Prop := (kind = 0 ∧ 0 ≤ s ∧ s < 64) ∨ (kind = 1 ∧ 0 ≤ s ∧ s < 65536)
attribute [local go_sem] max2_int min2_int max_two min_two
theorem qtab_at (k : Nat) (h : k < 32) : qtab[k]? = some (.int .i64 (qv k)) := by simp [qtab, qpart, h]
set_option maxHeartbeats 1000000 in
theorem chance_calls (kind s : Int) (w : World) (hs : okState kind s) : Calls Try.prog 40 #[.agg qtab, .int .i64 kind, .int .i64 s] w fun e w' => e = .returned (.int .i64 (likely kind s)) ∧ Below w.heap.size w w' := by
 rcases hs with ⟨rfl, h0, h1⟩ | ⟨rfl, h0, h1⟩
 · unfold likely
   rw [if_neg (by omega)]
   by_cases c : s ≥ 32
   · rw [if_pos c]
     have hc : (w.alloc (.cells qtab 64)).cell? ⟨w.heap.size, (s - 32).toNat, none⟩ = some (.int .i64 (qv (s - 32).toNat)) := (cell_new _ _ _ _).trans (qtab_at _ (by omega))
     have hr := qv_range (s - 32).toNat
     go_enter Try.func40, Try.ntmps40
     go_wp2
     go_ret
     exact ⟨rfl, below_alloc (Below.refl _ _) _⟩
   · rw [if_neg c]
     have hc : (w.alloc (.cells qtab 64)).cell? ⟨w.heap.size, s.toNat, none⟩ = some (.int .i64 (qv s.toNat)) := (cell_new _ _ _ _).trans (qtab_at _ (by omega))
     have hr := qv_range s.toNat
     go_enter Try.func40, Try.ntmps40
     go_wp2
     go_ret
     exact ⟨rfl, below_alloc (Below.refl _ _) _⟩
 · have hd : 0 ≤ s / 256 ∧ s / 256 ≤ 255 := by omega
   have hm : 0 ≤ s % 256 ∧ s % 256 ≤ 255 := by omega
   have hw1 : 0 ≤ (2 * (s % 256) + 1) * 4096 / (2 * (s / 256) + 2 * (s % 256) + 2) := Int.ediv_nonneg (by omega) (by omega)
   go_enter Try.func40, Try.ntmps40
   go_wp2
   all_goals
    go_ret
    refine ⟨ret_int ?_, below_alloc (Below.refl _ _) _⟩
    unfold likely
    rw [if_pos rfl]
    repeat' split
    all_goals omega
/-- The state behind a bit. -/
def after (kind s bit : Int) : Int :=
 if kind = 1 then
  (if bit = 0 then (if s / 256 = 255 then 256 * (255 / 2 + 1) + s % 256 / 2 else 256 * (s / 256 + 1) + s % 256)
   else (if s % 256 = 255 then 256 * (s / 256 / 2) + (255 / 2 + 1) else 256 * (s / 256) + (s % 256 + 1)))
 else if bit = s / 32 then 32 * (s / 32) + (if 31 < s % 32 + 1 then 31 else s % 32 + 1)
 else if s % 32 = 0 then 32 * bit + 0
 else 32 * (s / 32) + (s % 32 - (1 + s % 32 / 4))
theorem after_ok (kind s bit : Int) (hs : okState kind s) (hb : bit = 0 ∨ bit = 1) : okState kind (after kind s bit) := by
 rcases hs with ⟨rfl, h0, h1⟩ | ⟨rfl, h0, h1⟩
 · left
   refine ⟨rfl, ?_⟩
   unfold after
   rw [if_neg (by omega)]
   repeat' split
   all_goals omega
 · right
   refine ⟨rfl, ?_⟩
   unfold after
   rw [if_pos rfl]
   repeat' split
   all_goals omega
theorem likely_range (kind s : Int) (hs : okState kind s) : 1 ≤ likely kind s ∧ likely kind s ≤ 4095 := by
 rcases hs with ⟨rfl, h0, h1⟩ | ⟨rfl, h0, h1⟩
 · have key : ∀ k : Nat, k < 32 → 1 ≤ qv k ∧ qv k ≤ 2048 := by decide
   unfold likely
   rw [if_neg (by omega)]
   by_cases c : s ≥ 32
   · rw [if_pos c]
     have := key (s - 32).toNat (by omega)
     omega
   · rw [if_neg c]
     have := key s.toNat (by omega)
     omega
 · unfold likely
   rw [if_pos rfl]
   repeat' split
   all_goals omega
set_option maxHeartbeats 1000000 in
theorem next_calls (kind s bit : Int) (w : World) (hs : okState kind s) (hb : bit = 0 ∨ bit = 1) : Calls Try.prog 39 #[.int .i64 kind, .int .i64 s, .int .i64 bit] w fun e w' => e = .returned (.int .i64 (after kind s bit)) ∧ Below w.heap.size w w' := by
 rcases hs with ⟨rfl, h0, h1⟩ | ⟨rfl, h0, h1⟩
 · have hd : 0 ≤ s / 32 ∧ s / 32 ≤ 1 := by omega
   have hm : 0 ≤ s % 32 ∧ s % 32 ≤ 31 := by omega
   rcases hb with rfl | rfl
   all_goals
    go_enter Try.func39, Try.ntmps39
    go_wp2
    all_goals
     go_ret
     refine ⟨ret_int ?_, Below.refl _ _⟩
     simp only [beq_iff_eq, beq_eq_false_iff_ne, ne_eq] at *
     unfold after
     rw [if_neg (by omega)]
     repeat' split
     all_goals omega
 · have hd : 0 ≤ s / 256 ∧ s / 256 ≤ 255 := by omega
   have hm : 0 ≤ s % 256 ∧ s % 256 ≤ 255 := by omega
   rcases hb with rfl | rfl
   all_goals
    go_enter Try.func39, Try.ntmps39
    go_wp2
    all_goals
     go_ret
     refine ⟨ret_int ?_, ?_⟩
     · simp only [beq_iff_eq, beq_eq_false_iff_ne, ne_eq] at *
       unfold after
       rw [if_pos rfl]
       repeat' split
       all_goals omega
     · repeat (first | (refine Below.setCell ?_ (Nat.le_refl _) _) | exact below_alloc (Below.refl _ _) _)
theorem qtab_lit : qtab = #[.int .i64 2048, .int .i64 1792, .int .i64 1568, .int .i64 1372, .int .i64 1201, .int .i64 1051, .int .i64 920, .int .i64 805, .int .i64 705, .int .i64 617, .int .i64 540, .int .i64 473, .int .i64 414, .int .i64 363, .int .i64 318, .int .i64 279, .int .i64 245, .int .i64 215, .int .i64 189, .int .i64 166, .int .i64 146, .int .i64 128, .int .i64 112, .int .i64 98, .int .i64 86, .int .i64 76, .int .i64 67, .int .i64 59, .int .i64 52, .int .i64 46, .int .i64 41, .int .i64 36] := by rfl
end Go.Proofs.Ytmndieohblpgaaa.Cod1
namespace Go.Proofs.Ytmndieohblpgaaa.Cod2
open Go Go.RowKit YtmndieohblpgaaaW PrintWords PrintLast PrintMore Aid HandAid Cod1
attribute [local go_sem] max2_int min2_int max_two min_two
/-- Where a chance cuts the interval. -/
def midOf (low high p : Int) : Int := low + (high - low) / 4096 * p + (high - low) % 4096 * p / 4096
theorem mid_range (low high p : Int) (h : low ≤ high) (h1 : 1 ≤ p) (h2 : p ≤ 4095) : low ≤ midOf low high p ∧ (low < high → midOf low high p < high) ∧ midOf low high p ≤ high := by
 have ha : (high - low) / 4096 * p ≤ (high - low) / 4096 * 4095 := Int.mul_le_mul_of_nonneg_left (by omega) (by omega)
 have hb : (high - low) % 4096 * p ≤ (high - low) % 4096 * 4095 := Int.mul_le_mul_of_nonneg_left (by omega) (by omega)
 have hc : 0 ≤ (high - low) / 4096 * p := Int.mul_nonneg (by omega) (by omega)
 have hd : 0 ≤ (high - low) % 4096 * p := Int.mul_nonneg (by omega) (by omega)
 unfold midOf
 refine ⟨by omega, fun h => by omega, by omega⟩
end Go.Proofs.Ytmndieohblpgaaa.Cod2
namespace Go.Proofs.Ytmndieohblpgaaa.Cod3
open Go Go.RowKit YtmndieohblpgaaaW PrintWords PrintLast PrintMore Aid HandAid Cod1 Cod2
set_option maxRecDepth 100000
/-- A block's interval, at its begin: kind, states' row, table, low, high. -/
structure Iv (w : World) (g : Nat) (kind : Int) (A : Option Addr) (n c : Nat) (low high : Int) : Prop where
 k : w.cell? ⟨g, 0, none⟩ = some (.int .i64 kind)
 s : w.cell? ⟨g, 1, none⟩ = some (.slice A n c)
 q : w.rangeAt g 2 (qpart 32)
 l : w.cell? ⟨g, 34, none⟩ = some (.int .u64 low)
 h : w.cell? ⟨g, 35, none⟩ = some (.int .u64 high)
 f : ∀ i, w.frozen? ⟨g, i, none⟩ = false
theorem Iv.below {w w' : World} {g : Nat} {kind : Int} {A : Option Addr} {n c : Nat} {low high : Int} (h : Iv w g kind A n c low high) (hb : Below w.heap.size w w') : Iv w' g kind A n c low high :=
 have hg := World.block_lt_of_cell? w _ h.k
 ⟨pw_cell_below hb h.k, pw_cell_below hb h.s, fun j v hj => pw_cell_below hb (h.q j v hj), pw_cell_below hb h.l, pw_cell_below hb h.h, fun i => (hb.frozen (p := ⟨g, i, none⟩) hg).trans (h.f i)⟩
theorem qlen : (qpart 32).length = 32 := by simp [qpart]
theorem infoL : (Try.prog.info? 64).map (·.size) = some (qpart 32).length := by rw [qlen]; exact infoTab
set_option maxHeartbeats 2000000 in
theorem mid_calls (w : World) (g : Nat) (kind : Int) (A : Option Addr) (n c : Nat) (low high : Int) (i : Nat) (s : Int) (hI : Iv w g kind A n c low high) (hA : ∃ ad, A = some ad ∧ w.cell? (ad.add i) = some (.int .i64 s)) (hi : i < n) (hn : n ≤ 8192)
 (hs : okState kind s) (h0 : 0 ≤ low) (h1 : low ≤ high) (h2 : high ≤ 4294967295) :
 Calls Try.prog 33 #[.pointer (some ⟨g, 0, none⟩), .int .i64 i] w fun e w' => e = .returned (.int .u64 (midOf low high (likely kind s))) ∧ Below w.heap.size w w' := by
 obtain ⟨ad, rfl, hc⟩ := hA
 obtain ⟨hk, hsl, hq, hl, hh, hf⟩ := hI
 have hu := Try.underlying64
 have hq2 := infoL
 have hg := World.block_lt_of_cell? w _ hk
 have hga := World.block_lt_of_cell? w _ hc
 have hr := likely_range kind s hs
 have hm := mid_range low high _ h1 hr.1 hr.2
 have hi' : (i : Int) < (n : Int) := by omega
 clear hf
 go_enter Try.func33, Try.ntmps33
 go_wp2
 go_region_held3 (fun w' => w'.cell? ⟨g, 0, none⟩ = some (.int .i64 kind) ∧ w'.cell? ⟨g, 1, none⟩ = some (.slice (some ad) n c) ∧ w'.rangeAt g 2 (qpart 32) ∧ w'.cell? ⟨g, 34, none⟩ = some (.int .u64 low) ∧ w'.cell? ⟨g, 35, none⟩ = some (.int .u64 high) ∧ w'.cell? (ad.add i) = some (.int .i64 s))
  (first
    | exact ⟨hk, hsl, hq, hl, hh, hc⟩
    | exact ⟨pw_cell_below hb hk, pw_cell_below hb hsl, fun j v hj => pw_cell_below hb (hq j v hj), pw_cell_below hb hl, pw_cell_below hb hh, pw_cell_below hb hc⟩)
  (first | (go_at_call 40; refine (chance_calls kind s _ hs).mono ?_; rintro e w1 ⟨rfl, hb⟩))
 have hx : 0 ≤ high - low ∧ high - low ≤ 4294967295 := by omega
 have hp1 : 0 ≤ (high - low) / 4096 * likely kind s ∧ (high - low) / 4096 * likely kind s ≤ 4294967295 := by
  have := Int.mul_le_mul_of_nonneg_left (show likely kind s ≤ 4096 by omega) (show 0 ≤ (high - low) / 4096 by omega)
  exact ⟨Int.mul_nonneg (by omega) (by omega), by omega⟩
 have hp2 : 0 ≤ (high - low) % 4096 * likely kind s ∧ (high - low) % 4096 * likely kind s ≤ 16777216 := by
  have := Int.mul_le_mul_of_nonneg_left (show likely kind s ≤ 4096 by omega) (show 0 ≤ (high - low) % 4096 by omega)
  exact ⟨Int.mul_nonneg (by omega) (by omega), by omega⟩
 go_wp2
 go_ret
 exact ⟨rfl, below_undrew1 hb⟩
/-- The world when the interval has taken a bit, ahead of the state. -/
def cutW (w : World) (g : Nat) (bit mid : Int) : World := if bit = 1 then w.setCell ⟨g, 35, none⟩ (.int .u64 mid) else w.setCell ⟨g, 34, none⟩ (.int .u64 (mid + 1))
theorem cell_far {w : World} {a p : Addr} {v x : Value} (h : w.cell? a = some v) (hne : p.block ≠ a.block ∨ p.off ≠ a.off) : (w.setCell p x).cell? a = some v :=
 (World.cell?_setCell_other w p a x (by rintro rfl; rcases hne with h | h <;> exact h rfl)).trans h
set_option maxHeartbeats 2000000 in
theorem take_calls (w : World) (g : Nat) (kind : Int) (n c : Nat) (low high : Int) (i : Nat) (s mid bit : Int) (ad : Addr) (hI : Iv w g kind (some ad) n c low high)
 (hc : w.cell? (ad.add i) = some (.int .i64 s)) (hfA : w.frozen? (ad.add i) = false) (hne : ad.block ≠ g) (hi : i < n) (hn : n ≤ 8192) (hs : okState kind s) (hb : bit = 0 ∨ bit = 1) (hm0 : 0 ≤ mid) (hm1 : mid ≤ 4294967295) :
 Calls Try.prog 32 #[.pointer (some ⟨g, 0, none⟩), .int .i64 i, .int .i64 bit, .int .u64 mid] w fun e w' => e = .returned (.tuple #[]) ∧ ∃ w1, Below w.heap.size (cutW w g bit mid) w1 ∧ w' = w1.setCell (ad.add i) (.int .i64 (after kind s bit)) := by
 obtain ⟨hk, hsl, hq, hl, hh, hf⟩ := hI
 have hi' : (i : Int) < (n : Int) := by omega
 have hne' : (ad.add i).block ≠ g := by rw [add_block]; exact hne
 have hf1 := hf 35
 have hf2 := hf 34
 have hsz : ∀ p v, (w.setCell p v).heap.size = w.heap.size := fun p v => by simp [World.setCell]
 clear hq hf
 rcases hb with rfl | rfl
 · have k1 : (w.setCell ⟨g, 34, none⟩ (.int .u64 (mid + 1))).cell? ⟨g, 0, none⟩ = _ := cell_far hk (.inr (by simp))
   have s1 : (w.setCell ⟨g, 34, none⟩ (.int .u64 (mid + 1))).cell? ⟨g, 1, none⟩ = _ := cell_far hsl (.inr (by simp))
   have c1 : (w.setCell ⟨g, 34, none⟩ (.int .u64 (mid + 1))).cell? (ad.add i) = _ := cell_far hc (.inl (Ne.symm hne'))
   have f1 : (w.setCell ⟨g, 34, none⟩ (.int .u64 (mid + 1))).frozen? (ad.add i) = false := by rw [World.frozen?_setCell]; exact hfA
   have z1 := hsz ⟨g, 34, none⟩ (.int .u64 (mid + 1))
   rw [show cutW w g 0 mid = (w.setCell ⟨g, 34, none⟩ (.int .u64 (mid + 1))) from rfl]
   clear hsz
   go_enter Try.func32, Try.ntmps32
   go_wp2
   generalize hW : (w.setCell ⟨g, 34, none⟩ (.int .u64 (mid + 1))) = W1 at k1 s1 c1 f1 z1 ⊢
   have HW := A' hW
   clear hW
   have hga := World.block_lt_of_cell? W1 _ c1
   clear hk hsl hl hh hc hfA
   refine start_ (n := 23) (S := fun w' => w'.cell? ⟨g, 0, none⟩ = some (.int .i64 kind) ∧ w'.cell? ⟨g, 1, none⟩ = some (.slice (some ad) n c) ∧ w'.cell? (ad.add i) = some (.int .i64 s)) (ds := [22]) #[false, false, false, false, false, false, false, false, false, false, false, false, false, false, false, false, false, false, false, false, false, false, false] (by kernel_rfl) rfl rfl ⟨k1, s1, c1⟩ (fun hHeld => ?_)
   refine u' 0 19 (B' 23 1) ?_ rfl rfl (by kernel_rfl) (fun _ _ _ h => h) (.inl ⟨by rfl, ?_⟩) ?_ ?_ ?_; rotate_left; (intro w'; go_simp; with_reducible rfl); rotate_left; (simp only [Act.put, p1', p2', p3', i64_w, i32_w]; rfl)
   refine u' 1 20 (B' 23 3) ?_ rfl rfl (by kernel_rfl) (fun _ _ _ h => h) (.inl ⟨by rfl, ?_⟩) ?_ ?_ ?_; rotate_left; (intro w'; go_simp; with_reducible rfl); rotate_left; (simp only [Act.put, p1', p2', p3', i64_w, i32_w]; rfl)
   refine u' 2 21 (B' 23 7) ?_ rfl rfl (by kernel_rfl) (fun _ _ _ h => h) (.inl ⟨by rfl, ?_⟩) ?_ ?_ ?_; rotate_left; (intro w'; go_simp; with_reducible rfl); rotate_left; (simp only [Act.put, p1', p2', p3', i64_w, i32_w]; rfl)
   refine u' 3 22 (B' 23 15) ?_ rfl rfl (by kernel_rfl) (fun _ _ _ h => h) (.inl ⟨by rfl, ?_⟩) ?_ ?_ ?_; rotate_left; (intro w'; go_simp; with_reducible rfl); rotate_left; (simp only [Act.put, p1', p2', p3', i64_w, i32_w]; rfl)
   refine u' 5 24 (B' 23 47) ?_ rfl rfl (by kernel_rfl) (fun _ _ _ h => h) (.inl ⟨by rfl, ?_⟩) ?_ ?_ ?_; rotate_left; (intro w'; go_simp; with_reducible rfl); rotate_left; (simp only [Act.put, p1', p2', p3', i64_w, i32_w]; rfl)
   refine u' 6 25 (B' 23 111) ?_ rfl rfl (by kernel_rfl) (fun _ _ _ h => h) (.inl ⟨by rfl, ?_⟩) ?_ ?_ ?_; rotate_left; (intro w'; go_simp; with_reducible rfl); rotate_left; (simp only [Act.put, p1', p2', p3', i64_w, i32_w]; rfl)
   refine u' 7 26 (B' 23 239) ?_ rfl rfl (by kernel_rfl) (fun _ _ _ h => h) (.inl ⟨by rfl, ?_⟩) ?_ ?_ ?_; rotate_left; (intro w'; go_simp; with_reducible rfl); rotate_left; (simp only [Act.put, p1', p2', p3', i64_w, i32_w]; rfl)
   refine u' 8 27 (B' 23 495) ?_ rfl rfl (by kernel_rfl) (fun _ _ _ h => h) (.inl ⟨by rfl, ?_⟩) ?_ ?_ ?_; rotate_left; (intro w'; go_simp; with_reducible rfl); rotate_left; (simp only [Act.put, p1', p2', p3', i64_w, i32_w]; rfl)
   refine u' 9 28 (B' 23 1007) ?_ rfl rfl (by kernel_rfl) (fun _ _ _ h => h) (.inl ⟨by rfl, ?_⟩) ?_ ?_ ?_; rotate_left; (intro w'; go_simp; with_reducible rfl); rotate_left; (simp only [Act.put, p1', p2', p3', i64_w, i32_w]; rfl)
   refine u' 11 30 (B' 23 3055) ?_ rfl rfl (by kernel_rfl) (fun _ _ _ h => h) (.inl ⟨by rfl, ?_⟩) ?_ ?_ ?_; rotate_left; (intro w'; go_simp; with_reducible rfl); rotate_left; (simp only [Act.put, p1', p2', p3', i64_w, i32_w]; rfl)
   refine u' 12 31 (B' 23 7151) ?_ rfl rfl (by kernel_rfl) (fun _ _ _ h => h) (.inl ⟨by rfl, ?_⟩) ?_ ?_ ?_; rotate_left; (intro w'; go_simp; with_reducible rfl); rotate_left; (simp only [Act.put, p1', p2', p3', i64_w, i32_w]; rfl)
   refine u' 13 32 (B' 23 15343) ?_ rfl rfl (by kernel_rfl) (fun _ _ _ h => h) (.inl ⟨by rfl, ?_⟩) ?_ ?_ ?_; rotate_left; (intro w'; go_simp; with_reducible rfl); rotate_left; (simp only [Act.put, p1', p2', p3', i64_w, i32_w]; rfl)
   refine u' 14 33 (B' 23 31727) ?_ rfl rfl (by kernel_rfl) (fun _ _ _ h => h) (.inl ⟨by rfl, ?_⟩) ?_ ?_ ?_; rotate_left; (intro w'; go_simp; with_reducible rfl); rotate_left; (simp only [Act.put, p1', p2', p3', i64_w, i32_w]; rfl)
   refine u' 16 35 (B' 23 97263) ?_ rfl rfl (by kernel_rfl) (fun _ _ _ h => h) (.inl ⟨by rfl, ?_⟩) ?_ ?_ ?_; rotate_left; (intro w'; go_simp; with_reducible rfl); rotate_left; (simp only [Act.put, p1', p2', p3', i64_w, i32_w]; rfl)
   refine u' 19 38 (B' 23 621551) ?_ rfl rfl (by kernel_rfl) (fun _ _ _ h => h) (.inl ⟨by rfl, ?_⟩) ?_ ?_ ?_; rotate_left; (intro w'; go_simp; with_reducible rfl); rotate_left; (simp only [Act.put, p1', p2', p3', i64_w, i32_w]; rfl)
   refine t' 4 23 (B' 23 621567) ?_ rfl rfl (by kernel_rfl) (fun _ _ _ h => h) (.inl ⟨by rfl, ?_⟩) hHeld ?_ ?_ ?_; rotate_left; (rintro w' ⟨s0, s1, s2⟩; go_simp; with_reducible rfl); rotate_left; (simp only [Act.put, p1', p2', p3', i64_w, i32_w]; rfl)
   refine t' 10 29 (B' 23 622591) ?_ rfl rfl (by kernel_rfl) (fun _ _ _ h => h) (.inl ⟨by rfl, ?_⟩) hHeld ?_ ?_ ?_; rotate_left; (rintro w' ⟨s0, s1, s2⟩; go_simp; with_reducible rfl); rotate_left; (simp only [Act.put, p1', p2', p3', i64_w, i32_w]; rfl)
   refine t' 15 34 (B' 23 655359) ?_ rfl rfl (by kernel_rfl) (fun _ _ _ h => h) (.inl ⟨by rfl, ?_⟩) hHeld ?_ ?_ ?_; rotate_left; (rintro w' ⟨s0, s1, s2⟩; go_simp; with_reducible rfl); rotate_left; (simp only [Act.put, p1', p2', p3', i64_w, i32_w]; rfl)
   refine u' 17 36 (B' 23 786431) ?_ rfl rfl (by kernel_rfl) (fun _ _ _ h => h) (.inl ⟨by rfl, ?_⟩) ?_ ?_ ?_; rotate_left; (intro w'; go_simp; with_reducible rfl); rotate_left; (simp only [Act.put, p1', p2', p3', i64_w, i32_w]; rfl)
   refine t' 18 37 (B' 23 1048575) ?_ rfl rfl (by kernel_rfl) (fun _ _ _ h => h) (.inl ⟨by rfl, ?_⟩) hHeld ?_ ?_ ?_; rotate_left; (rintro w' ⟨s0, s1, s2⟩; go_simp; with_reducible rfl); rotate_left; (simp only [Act.put, p1', p2', p3', i64_w, i32_w]; rfl)
   refine one_ (i := 20) (N := some 39) (B' 23 2097151) rfl rfl (by kernel_rfl) (by decide) (fun K hK => ?_)
   refine goes_ Try.func39 (by kernel_rfl) rfl #[.int .i64 kind, .int .i64 s, .int .i64 0] (by rfl) rfl rfl (by simp only [List.map_toArray, List.map_cons, List.map_nil]; rfl) ?_
   with_reducible refine (next_calls kind s 0 _ hs (by omega)).mono ?_
   rintro e w1 ⟨rfl, hb⟩
   refine ⟨_, rfl, ?_⟩
   have k2 := pw_cell_below hb k1
   have s2 := pw_cell_below hb s1
   have c2 := pw_cell_below hb c1
   have f2 := (hb.frozen (p := ad.add i) hga).trans f1
   refine hK.out _ _ ⟨k2, s2, c2⟩ (fun hHeld => ?_)
   clear hK K
   refine norm_ (a' := ?_) ?_ ?_; rotate_left; (show Act.put _ (some 39) _ = _; simp only [Act.put, p1', p2', p3', i64_w, i32_w]; rfl)
   refine u' 21 40 (B' 23 4194303) ?_ rfl rfl (by kernel_rfl) (fun _ _ _ h => h) (.inl ⟨by rfl, ?_⟩) ?_ ?_ ?_; rotate_left; (intro w'; go_simp; with_reducible rfl); rotate_left; (simp only [Act.put, p1', p2', p3', i64_w, i32_w]; rfl)
   refine last_ (i := 22) (N := none) (B' 23 8388607) rfl rfl (by kernel_rfl) (by decide) (fun K hK => ?_)
   refine skip_ (w1 := ?_) (by rfl) rfl ?_ ?_
   rotate_left
   · go_simp
     rfl
   refine hK.out _ _ ?_
   clear hK K
   refine done_ (by kernel_rfl) ?_
   go_end0
   refine ⟨rfl, w1, ?_, rfl⟩
   rw [← z1, HW.out]
   exact below_undrew1 hb
 · have k1 : (w.setCell ⟨g, 35, none⟩ (.int .u64 mid)).cell? ⟨g, 0, none⟩ = _ := cell_far hk (.inr (by simp))
   have s1 : (w.setCell ⟨g, 35, none⟩ (.int .u64 mid)).cell? ⟨g, 1, none⟩ = _ := cell_far hsl (.inr (by simp))
   have c1 : (w.setCell ⟨g, 35, none⟩ (.int .u64 mid)).cell? (ad.add i) = _ := cell_far hc (.inl (Ne.symm hne'))
   have f1 : (w.setCell ⟨g, 35, none⟩ (.int .u64 mid)).frozen? (ad.add i) = false := by rw [World.frozen?_setCell]; exact hfA
   have z1 := hsz ⟨g, 35, none⟩ (.int .u64 mid)
   rw [show cutW w g 1 mid = (w.setCell ⟨g, 35, none⟩ (.int .u64 mid)) from rfl]
   clear hsz
   go_enter Try.func32, Try.ntmps32
   go_wp2
   generalize hW : (w.setCell ⟨g, 35, none⟩ (.int .u64 mid)) = W1 at k1 s1 c1 f1 z1 ⊢
   have HW := A' hW
   clear hW
   have hga := World.block_lt_of_cell? W1 _ c1
   clear hk hsl hl hh hc hfA
   refine start_ (n := 23) (S := fun w' => w'.cell? ⟨g, 0, none⟩ = some (.int .i64 kind) ∧ w'.cell? ⟨g, 1, none⟩ = some (.slice (some ad) n c) ∧ w'.cell? (ad.add i) = some (.int .i64 s)) (ds := [22]) #[false, false, false, false, false, false, false, false, false, false, false, false, false, false, false, false, false, false, false, false, false, false, false] (by kernel_rfl) rfl rfl ⟨k1, s1, c1⟩ (fun hHeld => ?_)
   refine u' 0 19 (B' 23 1) ?_ rfl rfl (by kernel_rfl) (fun _ _ _ h => h) (.inl ⟨by rfl, ?_⟩) ?_ ?_ ?_; rotate_left; (intro w'; go_simp; with_reducible rfl); rotate_left; (simp only [Act.put, p1', p2', p3', i64_w, i32_w]; rfl)
   refine u' 1 20 (B' 23 3) ?_ rfl rfl (by kernel_rfl) (fun _ _ _ h => h) (.inl ⟨by rfl, ?_⟩) ?_ ?_ ?_; rotate_left; (intro w'; go_simp; with_reducible rfl); rotate_left; (simp only [Act.put, p1', p2', p3', i64_w, i32_w]; rfl)
   refine u' 2 21 (B' 23 7) ?_ rfl rfl (by kernel_rfl) (fun _ _ _ h => h) (.inl ⟨by rfl, ?_⟩) ?_ ?_ ?_; rotate_left; (intro w'; go_simp; with_reducible rfl); rotate_left; (simp only [Act.put, p1', p2', p3', i64_w, i32_w]; rfl)
   refine u' 3 22 (B' 23 15) ?_ rfl rfl (by kernel_rfl) (fun _ _ _ h => h) (.inl ⟨by rfl, ?_⟩) ?_ ?_ ?_; rotate_left; (intro w'; go_simp; with_reducible rfl); rotate_left; (simp only [Act.put, p1', p2', p3', i64_w, i32_w]; rfl)
   refine u' 5 24 (B' 23 47) ?_ rfl rfl (by kernel_rfl) (fun _ _ _ h => h) (.inl ⟨by rfl, ?_⟩) ?_ ?_ ?_; rotate_left; (intro w'; go_simp; with_reducible rfl); rotate_left; (simp only [Act.put, p1', p2', p3', i64_w, i32_w]; rfl)
   refine u' 6 25 (B' 23 111) ?_ rfl rfl (by kernel_rfl) (fun _ _ _ h => h) (.inl ⟨by rfl, ?_⟩) ?_ ?_ ?_; rotate_left; (intro w'; go_simp; with_reducible rfl); rotate_left; (simp only [Act.put, p1', p2', p3', i64_w, i32_w]; rfl)
   refine u' 7 26 (B' 23 239) ?_ rfl rfl (by kernel_rfl) (fun _ _ _ h => h) (.inl ⟨by rfl, ?_⟩) ?_ ?_ ?_; rotate_left; (intro w'; go_simp; with_reducible rfl); rotate_left; (simp only [Act.put, p1', p2', p3', i64_w, i32_w]; rfl)
   refine u' 8 27 (B' 23 495) ?_ rfl rfl (by kernel_rfl) (fun _ _ _ h => h) (.inl ⟨by rfl, ?_⟩) ?_ ?_ ?_; rotate_left; (intro w'; go_simp; with_reducible rfl); rotate_left; (simp only [Act.put, p1', p2', p3', i64_w, i32_w]; rfl)
   refine u' 9 28 (B' 23 1007) ?_ rfl rfl (by kernel_rfl) (fun _ _ _ h => h) (.inl ⟨by rfl, ?_⟩) ?_ ?_ ?_; rotate_left; (intro w'; go_simp; with_reducible rfl); rotate_left; (simp only [Act.put, p1', p2', p3', i64_w, i32_w]; rfl)
   refine u' 11 30 (B' 23 3055) ?_ rfl rfl (by kernel_rfl) (fun _ _ _ h => h) (.inl ⟨by rfl, ?_⟩) ?_ ?_ ?_; rotate_left; (intro w'; go_simp; with_reducible rfl); rotate_left; (simp only [Act.put, p1', p2', p3', i64_w, i32_w]; rfl)
   refine u' 12 31 (B' 23 7151) ?_ rfl rfl (by kernel_rfl) (fun _ _ _ h => h) (.inl ⟨by rfl, ?_⟩) ?_ ?_ ?_; rotate_left; (intro w'; go_simp; with_reducible rfl); rotate_left; (simp only [Act.put, p1', p2', p3', i64_w, i32_w]; rfl)
   refine u' 13 32 (B' 23 15343) ?_ rfl rfl (by kernel_rfl) (fun _ _ _ h => h) (.inl ⟨by rfl, ?_⟩) ?_ ?_ ?_; rotate_left; (intro w'; go_simp; with_reducible rfl); rotate_left; (simp only [Act.put, p1', p2', p3', i64_w, i32_w]; rfl)
   refine u' 14 33 (B' 23 31727) ?_ rfl rfl (by kernel_rfl) (fun _ _ _ h => h) (.inl ⟨by rfl, ?_⟩) ?_ ?_ ?_; rotate_left; (intro w'; go_simp; with_reducible rfl); rotate_left; (simp only [Act.put, p1', p2', p3', i64_w, i32_w]; rfl)
   refine u' 16 35 (B' 23 97263) ?_ rfl rfl (by kernel_rfl) (fun _ _ _ h => h) (.inl ⟨by rfl, ?_⟩) ?_ ?_ ?_; rotate_left; (intro w'; go_simp; with_reducible rfl); rotate_left; (simp only [Act.put, p1', p2', p3', i64_w, i32_w]; rfl)
   refine u' 19 38 (B' 23 621551) ?_ rfl rfl (by kernel_rfl) (fun _ _ _ h => h) (.inl ⟨by rfl, ?_⟩) ?_ ?_ ?_; rotate_left; (intro w'; go_simp; with_reducible rfl); rotate_left; (simp only [Act.put, p1', p2', p3', i64_w, i32_w]; rfl)
   refine t' 4 23 (B' 23 621567) ?_ rfl rfl (by kernel_rfl) (fun _ _ _ h => h) (.inl ⟨by rfl, ?_⟩) hHeld ?_ ?_ ?_; rotate_left; (rintro w' ⟨s0, s1, s2⟩; go_simp; with_reducible rfl); rotate_left; (simp only [Act.put, p1', p2', p3', i64_w, i32_w]; rfl)
   refine t' 10 29 (B' 23 622591) ?_ rfl rfl (by kernel_rfl) (fun _ _ _ h => h) (.inl ⟨by rfl, ?_⟩) hHeld ?_ ?_ ?_; rotate_left; (rintro w' ⟨s0, s1, s2⟩; go_simp; with_reducible rfl); rotate_left; (simp only [Act.put, p1', p2', p3', i64_w, i32_w]; rfl)
   refine t' 15 34 (B' 23 655359) ?_ rfl rfl (by kernel_rfl) (fun _ _ _ h => h) (.inl ⟨by rfl, ?_⟩) hHeld ?_ ?_ ?_; rotate_left; (rintro w' ⟨s0, s1, s2⟩; go_simp; with_reducible rfl); rotate_left; (simp only [Act.put, p1', p2', p3', i64_w, i32_w]; rfl)
   refine u' 17 36 (B' 23 786431) ?_ rfl rfl (by kernel_rfl) (fun _ _ _ h => h) (.inl ⟨by rfl, ?_⟩) ?_ ?_ ?_; rotate_left; (intro w'; go_simp; with_reducible rfl); rotate_left; (simp only [Act.put, p1', p2', p3', i64_w, i32_w]; rfl)
   refine t' 18 37 (B' 23 1048575) ?_ rfl rfl (by kernel_rfl) (fun _ _ _ h => h) (.inl ⟨by rfl, ?_⟩) hHeld ?_ ?_ ?_; rotate_left; (rintro w' ⟨s0, s1, s2⟩; go_simp; with_reducible rfl); rotate_left; (simp only [Act.put, p1', p2', p3', i64_w, i32_w]; rfl)
   refine one_ (i := 20) (N := some 39) (B' 23 2097151) rfl rfl (by kernel_rfl) (by decide) (fun K hK => ?_)
   refine goes_ Try.func39 (by kernel_rfl) rfl #[.int .i64 kind, .int .i64 s, .int .i64 1] (by rfl) rfl rfl (by simp only [List.map_toArray, List.map_cons, List.map_nil]; rfl) ?_
   with_reducible refine (next_calls kind s 1 _ hs (by omega)).mono ?_
   rintro e w1 ⟨rfl, hb⟩
   refine ⟨_, rfl, ?_⟩
   have k2 := pw_cell_below hb k1
   have s2 := pw_cell_below hb s1
   have c2 := pw_cell_below hb c1
   have f2 := (hb.frozen (p := ad.add i) hga).trans f1
   refine hK.out _ _ ⟨k2, s2, c2⟩ (fun hHeld => ?_)
   clear hK K
   refine norm_ (a' := ?_) ?_ ?_; rotate_left; (show Act.put _ (some 39) _ = _; simp only [Act.put, p1', p2', p3', i64_w, i32_w]; rfl)
   refine u' 21 40 (B' 23 4194303) ?_ rfl rfl (by kernel_rfl) (fun _ _ _ h => h) (.inl ⟨by rfl, ?_⟩) ?_ ?_ ?_; rotate_left; (intro w'; go_simp; with_reducible rfl); rotate_left; (simp only [Act.put, p1', p2', p3', i64_w, i32_w]; rfl)
   refine last_ (i := 22) (N := none) (B' 23 8388607) rfl rfl (by kernel_rfl) (by decide) (fun K hK => ?_)
   refine skip_ (w1 := ?_) (by rfl) rfl ?_ ?_
   rotate_left
   · go_simp
     rfl
   refine hK.out _ _ ?_
   clear hK K
   refine done_ (by kernel_rfl) ?_
   go_end0
   refine ⟨rfl, w1, ?_, rfl⟩
   rw [← z1, HW.out]
   exact below_undrew1 hb
theorem same_calls (w : World) (g : Nat) (low high : Int) (hl : w.cell? ⟨g, 34, none⟩ = some (.int .u64 low)) (hh : w.cell? ⟨g, 35, none⟩ = some (.int .u64 high)) (h0 : 0 ≤ low) (h1 : 0 ≤ high) :
 Calls Try.prog 34 #[.pointer (some ⟨g, 0, none⟩)] w fun e w' => e = .returned (.bool (decide (low / 16777216 = high / 16777216))) ∧ ∃ m, w' = w.drewN m := by
 go_enter Try.func34, Try.ntmps34
 go_wp2
 go_quiet (fail)
 go_wp2
 go_ret
 exact ⟨rfl, _, rfl⟩
theorem lose_calls (w : World) (g : Nat) (low high : Int) (hl : w.cell? ⟨g, 34, none⟩ = some (.int .u64 low)) (hh : w.cell? ⟨g, 35, none⟩ = some (.int .u64 high)) (hf : ∀ i, w.frozen? ⟨g, i, none⟩ = false) (h0 : 0 ≤ low) (h1 : 0 ≤ high) (h2 : low ≤ 4294967295) (h3 : high ≤ 4294967295) :
 Calls Try.prog 35 #[.pointer (some ⟨g, 0, none⟩)] w fun e w' => e = .returned (.int .u8 (low / 16777216)) ∧ w' = (w.setCell ⟨g, 34, none⟩ (.int .u64 (low % 16777216 * 256))).setCell ⟨g, 35, none⟩ (.int .u64 (high % 16777216 * 256 + 255)) := by
 have hf1 := hf 34
 have hf2 := hf 35
 have e1 : Go.bits .and .u64 (low * 256) 4294967295 = low % 16777216 * 256 := (u64_low32 (x := low * 256) (by omega) (by omega)).trans (by omega)
 have e2 : Go.bits .and .u64 (high * 256) 4294967295 = high % 16777216 * 256 := (u64_low32 (x := high * 256) (by omega) (by omega)).trans (by omega)
 have e3 : Go.bits .or .u64 (high % 16777216 * 256) 255 = high % 16777216 * 256 + 255 := u64_or255 (by omega) (by omega) (by omega)
 clear hf
 go_enter Try.func35, Try.ntmps35
 go_wp2
 go_ret
 exact ⟨rfl, rfl⟩
end Go.Proofs.Ytmndieohblpgaaa.Cod3
namespace Go.Proofs.Ytmndieohblpgaaa.U
open Go.RowKit YtmndieohblpgaaaW PrintWords PrintLast PrintMore
attribute [local go_sem] max2_int min2_int max_two min_two max_three min_three max_four min_four
mutual
def coder_Valid.j0 : Nat → Bool → Int → List Int → Option (Bool)
 | 0, _, _, _ => none
 | k + 1, x19, x146000, x146001 => if x19 = true then (some false) else (if x146000 = 1 then (coder_Valid.j1 k 65536 x146000 x146001) else (coder_Valid.j1 k 64 x146000 x146001))
def coder_Valid.j1 : Nat → Int → Int → List Int → Option (Bool)
 | 0, _, _, _ => none
 | k + 1, x3, x146000, x146001 => coder_Valid.l0 k x3 x146001 (x146001.length : Int) 0
def coder_Valid.l0 : Nat → Int → List Int → Int → Int → Option (Bool)
 | 0, _, _, _, _ => none
 | k + 1, x3, x24, x25, x26 => if x26 < x25 then (if 0 ≤ x26 then (if x26 < (x24.length : Int) then (if (rd x24 x26) < 0 then (some false) else (if (rd x24 x26) ≥ x3 then (some false) else (coder_Valid.l0 k x3 x24 x25 (wrap64 (x26 + 1))))) else (none)) else (none)) else (some true)
end
def coder_Valid.f (k : Nat) (a0_0 : Int) (l0_1 : List Int) : Option (Bool) := if a0_0 = 0 then (coder_Valid.j0 k (decide ((l0_1.length : Int) > 8192)) a0_0 l0_1) else (if a0_0 = 1 then (coder_Valid.j0 k (decide ((l0_1.length : Int) > 8192)) a0_0 l0_1) else (coder_Valid.j0 k true a0_0 l0_1))
theorem coder_Valid.mono_l : ∀ k, (∀ y0 y1 y2, LeO (coder_Valid.j0 k y0 y1 y2) (coder_Valid.j0 (k + 1) y0 y1 y2)) ∧ (∀ y0 y1 y2, LeO (coder_Valid.j1 k y0 y1 y2) (coder_Valid.j1 (k + 1) y0 y1 y2)) ∧ (∀ y0 y1 y2 y3, LeO (coder_Valid.l0 k y0 y1 y2 y3) (coder_Valid.l0 (k + 1) y0 y1 y2 y3))
 | 0 => ⟨fun _ _ _ r h => by simp [coder_Valid.j0] at h, fun _ _ _ r h => by simp [coder_Valid.j1] at h, fun _ _ _ _ r h => by simp [coder_Valid.l0] at h⟩
 | k + 1 => by
   obtain ⟨ih0, ih1, ih2⟩ := coder_Valid.mono_l k
   refine ⟨?_, ?_, ?_⟩
   · intro y0 y1 y2
     unfold coder_Valid.j0
     repeat' first
     | (with_reducible exact ih0 _ _ _)
     | (with_reducible exact ih1 _ _ _)
     | (with_reducible exact ih2 _ _ _ _)
     | (with_reducible exact LeO.refl _)
     | (with_reducible exact LeO.none _)
     | (with_reducible refine LeO.ite ?_ ?_)
     | (with_reducible refine LeO.bind ?_ (fun _ => ?_))
     | exact ih0 _ _ _
     | exact ih1 _ _ _
     | exact ih2 _ _ _ _
     | exact LeO.none _
     | refine LeO.ite ?_ ?_
     | refine LeO.bind ?_ (fun _ => ?_)
   · intro y0 y1 y2
     unfold coder_Valid.j1
     repeat' first
     | (with_reducible exact ih0 _ _ _)
     | (with_reducible exact ih1 _ _ _)
     | (with_reducible exact ih2 _ _ _ _)
     | (with_reducible exact LeO.refl _)
     | (with_reducible exact LeO.none _)
     | (with_reducible refine LeO.ite ?_ ?_)
     | (with_reducible refine LeO.bind ?_ (fun _ => ?_))
     | exact ih0 _ _ _
     | exact ih1 _ _ _
     | exact ih2 _ _ _ _
     | exact LeO.none _
     | refine LeO.ite ?_ ?_
     | refine LeO.bind ?_ (fun _ => ?_)
   · intro y0 y1 y2 y3
     unfold coder_Valid.l0
     repeat' first
     | (with_reducible exact ih0 _ _ _)
     | (with_reducible exact ih1 _ _ _)
     | (with_reducible exact ih2 _ _ _ _)
     | (with_reducible exact LeO.refl _)
     | (with_reducible exact LeO.none _)
     | (with_reducible refine LeO.ite ?_ ?_)
     | (with_reducible refine LeO.bind ?_ (fun _ => ?_))
     | exact ih0 _ _ _
     | exact ih1 _ _ _
     | exact ih2 _ _ _ _
     | exact LeO.none _
     | refine LeO.ite ?_ ?_
     | refine LeO.bind ?_ (fun _ => ?_)
theorem coder_Valid.mono : ∀ a0 a1 k, LeO (coder_Valid.f k a0 a1) (coder_Valid.f (k + 1) a0 a1) := by
 intro a0 a1 k; obtain ⟨ih0, ih1, ih2⟩ := coder_Valid.mono_l k; unfold coder_Valid.f
 repeat' first
  | (with_reducible exact ih0 _ _ _)
  | (with_reducible exact ih1 _ _ _)
  | (with_reducible exact ih2 _ _ _ _)
  | (with_reducible exact LeO.refl _)
  | (with_reducible exact LeO.none _)
  | (with_reducible refine LeO.ite ?_ ?_)
  | (with_reducible refine LeO.bind ?_ (fun _ => ?_))
  | exact ih0 _ _ _
  | exact ih1 _ _ _
  | exact ih2 _ _ _ _
  | exact LeO.none _
  | refine LeO.ite ?_ ?_
  | refine LeO.bind ?_ (fun _ => ?_)
set_option maxHeartbeats 8000000 in
set_option maxRecDepth 100000 in
theorem coder_Valid.calls (k : Nat) (a0_0 : Int) (A0_1 : Option Addr) (c0_1 : Nat) (l0_1 : List Int) (r : Bool) (w : World) (hr0_1 : Kd.C (Kd.int .i64) w A0_1 l0_1.length l0_1) (hc0_1 : l0_1.length ≤ c0_1) (h : coder_Valid.f k a0_0 l0_1 = some r) :
 Calls Try.prog 22 #[.agg #[.int .i64 a0_0, .slice A0_1 l0_1.length c0_1]] w fun e w' => e = .returned (.bool r) ∧ Below w.heap.size w w' := by
 have hu48 := Try.underlying48; have HR0_1 := A' hr0_1; have HC0_1 := A' hc0_1; clear hr0_1 hc0_1; have HB := A' (Below.refl w.heap.size w); have H : (if a0_0 = 0 then (coder_Valid.j0 k (decide ((l0_1.length : Int) > 8192)) a0_0 l0_1) else (if a0_0 = 1 then (coder_Valid.j0 k (decide ((l0_1.length : Int) > 8192)) a0_0 l0_1) else (coder_Valid.j0 k true a0_0 l0_1))) = some r := h; clear h; have HC2 := A' H; clear H; go_enter Try.func22, Try.ntmps22
 go_upto_region 1 with (first | ((with_reducible refine gate_dst (N := 1) rfl ?_); (try (refine gate_guard (by rfl) ?_; dsimp only)); refine box_event ?hg (N := 1) ?hd (cs := #[.int .i64 a0_0, .slice A0_1 l0_1.length c0_1]) (t := 48) ?hr ?_; (case hd => rfl); (case hg => rfl); (case hr => first | (go_simp; done) | (go_simp; rfl)); intro gb145 hg w3 hbox hb; have n0_ := A' (below_step (by repeat (first | (with_reducible first | exact HB.out | apply below_alloc | apply pw_below_drewN | apply below_drew1) | exact HB.out)) hb); have n1_ := A' (hbox); have n2_ := A' ((by rw [hg]; exact (below_size (by repeat (first | (with_reducible first | exact HB.out | apply below_alloc | apply pw_below_drewN | apply below_drew1) | exact HB.out))) : w.heap.size ≤ gb145)); have n3_ := A' ((by rw [hg]; exact (below_size (by repeat (first | (with_reducible first | exact HB.out | apply below_alloc | apply pw_below_drewN | apply below_drew1) | exact HB.out))) : w.heap.size ≤ gb145)); clear HB; have HB := n0_; have BK145 := n1_; have GW145 := n2_; have GE145 := n3_; clear n0_ n1_ n2_ n3_; clear hb hbox hg)); (try simp only [Act.put, List.setIfInBounds_toArray, List.set_cons_zero, List.set_cons_succ]); go_cut [19] (fun v19 wc => ∃ (kq : Nat) (x19_1 : Bool), v19 = .bool x19_1 ∧ Aside0 (coder_Valid.j0 kq x19_1 a0_0 l0_1 = some r) ∧ Aside0 (kq ≤ k) ∧ Aside0 (wc.heap[gb145]? = some (.cells #[.int .i64 a0_0, (.slice A0_1 l0_1.length c0_1)] 48 (0, 0))) ∧ Aside0 (Below w.heap.size w wc))
 (case first => have H := HC2.out; clear HC2; by_cases c4 : a0_0 = 0; (· rw [if_pos c4] at H; have c4b0 : (a0_0 == 0) = true := beq_iff_eq.mpr c4; have c4b1 : (a0_0 != 0) = false := bne_eq_false_iff_eq.mpr c4; clear c4; (first | rw [c4b0] | (simp only [i64_w, i32_w]; rw [c4b0]) | skip); have H' := A' H; clear H; have hcz5_0 : w3.cell? ⟨gb145, 0, none⟩ = some (.int .i64 a0_0) := (blk_cell BK145.out 0).trans rfl; have hcz5_1 : w3.cell? ⟨gb145, 1, none⟩ = some (.slice A0_1 l0_1.length c0_1) := (blk_cell BK145.out 1).trans rfl; have hfz5_0 := blk_frozen BK145.out 0; have hfz5_1 := blk_frozen BK145.out 1; go_wp2; go_meet; (case rel => exact ⟨_, (decide ((l0_1.length : Int) > 8192)), (by first | rfl | (simp; done) | (simp [*]; done)), H', ⟨by first | omega | exact Nat.le_refl _⟩, ⟨by (with_reducible repeat (first | refine blk_drewN ?_ _ | refine blk_drew ?_ | refine blk_alloc ?_ _)); exact BK145.out⟩, ⟨by repeat (first | (with_reducible first | exact HB.out | apply below_alloc | apply pw_below_drewN | apply below_drew1 | refine below_set ?_ GE145.out) | exact HB.out)⟩⟩)); (· rw [if_neg c4] at H; have c4b0 : (a0_0 == 0) = false := beq_eq_false_iff_ne.mpr c4; have c4b1 : (a0_0 != 0) = true := bne_iff_ne.mpr c4; (first | rw [c4b0] | (simp only [i64_w, i32_w]; rw [c4b0]) | skip); by_cases c6 : a0_0 = 1; (· rw [if_pos c6] at H; have c6b0 : (a0_0 == 1) = true := beq_iff_eq.mpr c6; have c6b1 : (a0_0 != 1) = false := bne_eq_false_iff_eq.mpr c6; clear c6; have H' := A' H; clear H; have hcz7_0 : w3.cell? ⟨gb145, 0, none⟩ = some (.int .i64 a0_0) := (blk_cell BK145.out 0).trans rfl; have hcz7_1 : w3.cell? ⟨gb145, 1, none⟩ = some (.slice A0_1 l0_1.length c0_1) := (blk_cell BK145.out 1).trans rfl; have hfz7_0 := blk_frozen BK145.out 0; have hfz7_1 := blk_frozen BK145.out 1; go_wp2; go_meet; (case rel => exact ⟨_, (decide ((l0_1.length : Int) > 8192)), (by first | rfl | (simp; done) | (simp [*]; done)), H', ⟨by first | omega | exact Nat.le_refl _⟩, ⟨by (with_reducible repeat (first | refine blk_drewN ?_ _ | refine blk_drew ?_ | refine blk_alloc ?_ _)); exact BK145.out⟩, ⟨by repeat (first | (with_reducible first | exact HB.out | apply below_alloc | apply pw_below_drewN | apply below_drew1 | refine below_set ?_ GE145.out) | exact HB.out)⟩⟩)); (· rw [if_neg c6] at H; have c6b0 : (a0_0 == 1) = false := beq_eq_false_iff_ne.mpr c6; have c6b1 : (a0_0 != 1) = true := bne_iff_ne.mpr c6; have H' := A' H; clear H; have hcz8_0 : w3.cell? ⟨gb145, 0, none⟩ = some (.int .i64 a0_0) := (blk_cell BK145.out 0).trans rfl; have hcz8_1 : w3.cell? ⟨gb145, 1, none⟩ = some (.slice A0_1 l0_1.length c0_1) := (blk_cell BK145.out 1).trans rfl; have hfz8_0 := blk_frozen BK145.out 0; have hfz8_1 := blk_frozen BK145.out 1; go_wp2; go_meet; (case rel => exact ⟨_, (true), (by first | rfl | (simp; done) | (simp [*]; done)), H', ⟨by first | omega | exact Nat.le_refl _⟩, ⟨by (with_reducible repeat (first | refine blk_drewN ?_ _ | refine blk_drew ?_ | refine blk_alloc ?_ _)); exact BK145.out⟩, ⟨by repeat (first | (with_reducible first | exact HB.out | apply below_alloc | apply pw_below_drewN | apply below_drew1 | refine below_set ?_ GE145.out) | exact HB.out)⟩⟩))))
 case rest =>
  clear HC2; (try clear c2); (try clear p2); (try clear c4); (try clear c4b0); (try clear c4b1); (try clear c6); (try clear c6b0); (try clear c6b1); (try clear hcz5_0); (try clear hcz5_1); (try clear hcz7_0); (try clear hcz7_1); (try clear hcz8_0); (try clear hcz8_1); (try clear hfz5_0); (try clear hfz5_1); (try clear hfz7_0); (try clear hfz7_1); (try clear hfz8_0); (try clear hfz8_1); obtain ⟨kq, x19_1, rfl, HA, HJ1, BK145, HB⟩ := hcut
  cases kq with
  | zero => exact absurd HA.out (by simp [coder_Valid.j0])
  | succ kj1 =>
   have H := HA.out; clear HA; simp only [coder_Valid.j0] at H; by_cases c9 : x19_1 = true; (· subst c9; (have H1 : (some false) = some r := by rw [if_pos rfl] at H; exact H); clear H; have H := H1; clear H1; obtain rfl := Option.some.inj H; go_wp2; go_ret; (exact ⟨by first | rfl | (simp [errW_none, errW_some] <;> rfl) | (simp [*, errW_none, errW_some] <;> rfl), by repeat (first | (with_reducible first | exact HB.out | apply below_alloc | apply pw_below_drewN | apply below_drew1 | refine below_set ?_ GE145.out) | exact HB.out)⟩))
   · replace c9 := Bool.eq_false_iff.mpr c9
     subst c9; (have H1 : (if a0_0 = 1 then (coder_Valid.j1 kj1 65536 a0_0 l0_1) else (coder_Valid.j1 kj1 64 a0_0 l0_1)) = some r := by rw [if_neg (show ¬ (false = true) by decide)] at H; exact H); clear H; have H := H1; clear H1; have HC10 := A' H; clear H; have hcz11_0 : wc.cell? ⟨gb145, 0, none⟩ = some (.int .i64 a0_0) := (blk_cell BK145.out 0).trans rfl; have hcz11_1 : wc.cell? ⟨gb145, 1, none⟩ = some (.slice A0_1 l0_1.length c0_1) := (blk_cell BK145.out 1).trans rfl; have hfz11_0 := blk_frozen BK145.out 0; have hfz11_1 := blk_frozen BK145.out 1; go_upto_if 22 with (fail); go_cut [3] (fun v3 wc => ∃ (kq : Nat) (x3_9 : Int), v3 = .int .i64 x3_9 ∧ Aside0 (coder_Valid.j1 kq x3_9 a0_0 l0_1 = some r) ∧ Aside0 (kq ≤ kj1) ∧ Aside0 (wc.heap[gb145]? = some (.cells #[.int .i64 a0_0, (.slice A0_1 l0_1.length c0_1)] 48 (0, 0))) ∧ Aside0 (Below w.heap.size w wc))
     (case first => have H := HC10.out; clear HC10; by_cases c12 : a0_0 = 1; (· rw [if_pos c12] at H; have c12b0 : (a0_0 == 1) = true := beq_iff_eq.mpr c12; have c12b1 : (a0_0 != 1) = false := bne_eq_false_iff_eq.mpr c12; clear c12; (first | rw [c12b0] | (simp only [i64_w, i32_w]; rw [c12b0]) | skip); have H' := A' H; clear H; go_wp2; go_meet; (case rel => exact ⟨_, (65536), (by first | rfl | (simp; done) | (simp [*]; done)), H', ⟨by have := HJ1.out; first | omega | exact Nat.le_refl _⟩, ⟨by (with_reducible repeat (first | refine blk_drewN ?_ _ | refine blk_drew ?_ | refine blk_alloc ?_ _)); exact BK145.out⟩, ⟨by repeat (first | (with_reducible first | exact HB.out | apply below_alloc | apply pw_below_drewN | apply below_drew1 | refine below_set ?_ GE145.out) | exact HB.out)⟩⟩)); (· rw [if_neg c12] at H; have c12b0 : (a0_0 == 1) = false := beq_eq_false_iff_ne.mpr c12; have c12b1 : (a0_0 != 1) = true := bne_iff_ne.mpr c12; (first | rw [c12b0] | (simp only [i64_w, i32_w]; rw [c12b0]) | skip); have H' := A' H; clear H; go_wp2; go_meet; (case rel => exact ⟨_, (64), (by first | rfl | (simp; done) | (simp [*]; done)), H', ⟨by have := HJ1.out; first | omega | exact Nat.le_refl _⟩, ⟨by (with_reducible repeat (first | refine blk_drewN ?_ _ | refine blk_drew ?_ | refine blk_alloc ?_ _)); exact BK145.out⟩, ⟨by repeat (first | (with_reducible first | exact HB.out | apply below_alloc | apply pw_below_drewN | apply below_drew1 | refine below_set ?_ GE145.out) | exact HB.out)⟩⟩)))
     case rest =>
      clear HC10; (try clear c1); (try clear c2); (try clear p2); (try clear c4); (try clear c4b0); (try clear c4b1); (try clear c6); (try clear c6b0); (try clear c6b1); (try clear c9); (try clear c12); (try clear c12b0); (try clear c12b1); (try clear hcz11_0); (try clear hcz11_1); (try clear hcz5_0); (try clear hcz5_1); (try clear hcz7_0); (try clear hcz7_1); (try clear hcz8_0); (try clear hcz8_1); (try clear hfz11_0); (try clear hfz11_1); (try clear hfz5_0); (try clear hfz5_1); (try clear hfz7_0); (try clear hfz7_1); (try clear hfz8_0); (try clear hfz8_1); (try clear p2); obtain ⟨kq, x3_9, rfl, HA, HJ9, BK145, HB⟩ := hcut
      cases kq with
      | zero => exact absurd HA.out (by simp [coder_Valid.j1])
      | succ kj9 =>
       have H := HA.out; clear HA; simp only [coder_Valid.j1] at H; have H' := A' H; clear H; have hcz13_0 : wc.cell? ⟨gb145, 0, none⟩ = some (.int .i64 a0_0) := (blk_cell BK145.out 0).trans rfl; have hcz13_1 : wc.cell? ⟨gb145, 1, none⟩ = some (.slice A0_1 l0_1.length c0_1) := (blk_cell BK145.out 1).trans rfl; have hfz13_0 := blk_frozen BK145.out 0; have hfz13_1 := blk_frozen BK145.out 1; go_wp2; go_loopg [26] kj9 (fun kq v26 w' => ∃ (x26_3 : Int), v26 = .int .i64 x26_3 ∧ Aside0 (coder_Valid.l0 kq x3_9 l0_1 (l0_1.length : Int) x26_3 = some r) ∧ Aside0 (kq ≤ kj9) ∧ Aside0 (w'.heap[gb145]? = some (.cells #[.int .i64 a0_0, (.slice A0_1 l0_1.length c0_1)] 48 (0, 0))) ∧ Aside0 (Below w.heap.size w w')); (case atStart => exact ⟨(0), (by first | rfl | (simp; done) | (simp [*]; done)), H', ⟨Nat.le_refl _⟩, ⟨by (with_reducible repeat (first | refine blk_drewN ?_ _ | refine blk_drew ?_ | refine blk_alloc ?_ _)); exact BK145.out⟩, ⟨by repeat (first | (with_reducible first | exact HB.out | apply below_alloc | apply pw_below_drewN | apply below_drew1 | refine below_set ?_ GE145.out) | exact HB.out)⟩⟩)
       case round =>
        clear H'; (try clear c1); (try clear c2); (try clear p2); (try clear c4); (try clear c4b0); (try clear c4b1); (try clear c6); (try clear c6b0); (try clear c6b1); (try clear c9); (try clear c12); (try clear c12b0); (try clear c12b1); (try clear hcz11_0); (try clear hcz11_1); (try clear hcz13_0); (try clear hcz13_1); (try clear hcz5_0); (try clear hcz5_1); (try clear hcz7_0); (try clear hcz7_1); (try clear hcz8_0); (try clear hcz8_1); (try clear hfz11_0); (try clear hfz11_1); (try clear hfz13_0); (try clear hfz13_1); (try clear hfz5_0); (try clear hfz5_1); (try clear hfz7_0); (try clear hfz7_1); (try clear hfz8_0); (try clear hfz8_1); (try clear p2); obtain ⟨x26_3, rfl, HA, HK3, BK145, HB⟩ := hrel
        cases gk with
        | zero => exact absurd HA.out (by simp [coder_Valid.l0])
        | succ k3 =>
         have H := HA.out; clear HA; simp only [coder_Valid.l0] at H; by_cases c14 : x26_3 < (l0_1.length : Int)
         (· rw [if_pos c14] at H; have c14b0 : decide (x26_3 < (l0_1.length : Int)) = true := decide_eq_true c14; clear c14; by_cases c15 : 0 ≤ x26_3; (· rw [if_pos c15] at H; have c15b0 : decide (0 ≤ x26_3) = true := decide_eq_true c15; clear c15; by_cases c16 : x26_3 < (l0_1.length : Int); (· rw [if_pos c16] at H; have c16b0 : decide (x26_3 < (l0_1.length : Int)) = true := decide_eq_true c16; clear c16; by_cases c17 : (rd l0_1 x26_3) < 0; (· rw [if_pos c17] at H; have c17b0 : decide ((rd l0_1 x26_3) < 0) = true := decide_eq_true c17; clear c17; obtain rfl := Option.some.inj H; have p146 : 0 ≤ (x26_3 : Int) := of_decide_eq_true (by first | (with_reducible assumption) | assumption); have q146 : x26_3 < (l0_1.length : Int) := of_decide_eq_true (by first | (with_reducible assumption) | assumption); obtain ⟨ad146, e146, hx146_0⟩ := Kd.at_int HR0_1.out x26_3 p146 q146; cases e146; replace hx146_0 := (HB.out.cell (World.block_lt_of_cell? w _ hx146_0)).trans hx146_0; replace p146 := eq_true p146; replace q146 := eq_true q146; go_wp2; go_ret; (exact ⟨by first | rfl | (simp [errW_none, errW_some] <;> rfl) | (simp [*, errW_none, errW_some] <;> rfl), by repeat (first | (with_reducible first | exact HB.out | apply below_alloc | apply pw_below_drewN | apply below_drew1 | refine below_set ?_ GE145.out) | exact HB.out)⟩)); (· rw [if_neg c17] at H; have c17b0 : decide ((rd l0_1 x26_3) < 0) = false := decide_eq_false c17; clear c17; by_cases c18 : (rd l0_1 x26_3) ≥ x3_9; (· rw [if_pos c18] at H; have c18b0 : decide (x3_9 ≤ (rd l0_1 x26_3)) = true := decide_eq_true c18; clear c18; obtain rfl := Option.some.inj H; have p146 : 0 ≤ (x26_3 : Int) := of_decide_eq_true (by first | (with_reducible assumption) | assumption); have q146 : x26_3 < (l0_1.length : Int) := of_decide_eq_true (by first | (with_reducible assumption) | assumption); obtain ⟨ad146, e146, hx146_0⟩ := Kd.at_int HR0_1.out x26_3 p146 q146; cases e146; replace hx146_0 := (HB.out.cell (World.block_lt_of_cell? w _ hx146_0)).trans hx146_0; replace p146 := eq_true p146; replace q146 := eq_true q146; go_wp2; go_ret; (exact ⟨by first | rfl | (simp [errW_none, errW_some] <;> rfl) | (simp [*, errW_none, errW_some] <;> rfl), by repeat (first | (with_reducible first | exact HB.out | apply below_alloc | apply pw_below_drewN | apply below_drew1 | refine below_set ?_ GE145.out) | exact HB.out)⟩)); (· rw [if_neg c18] at H; have c18b0 : decide (x3_9 ≤ (rd l0_1 x26_3)) = false := decide_eq_false c18; clear c18; have H' := A' H; clear H; have p146 : 0 ≤ (x26_3 : Int) := of_decide_eq_true (by first | (with_reducible assumption) | assumption); have q146 : x26_3 < (l0_1.length : Int) := of_decide_eq_true (by first | (with_reducible assumption) | assumption); obtain ⟨ad146, e146, hx146_0⟩ := Kd.at_int HR0_1.out x26_3 p146 q146; cases e146; replace hx146_0 := (HB.out.cell (World.block_lt_of_cell? w _ hx146_0)).trans hx146_0; replace p146 := eq_true p146; replace q146 := eq_true q146; go_wp2; go_roundg k3; (case measure => have := HJ1.out; have := HJ9.out; have := HK3.out; omega); (case rel => exact ⟨(wrap64 (x26_3 + 1)), (by first | rfl | (simp; done) | (simp [*]; done)), H', ⟨by have := HJ1.out; have := HJ9.out; have := HK3.out; omega⟩, ⟨by (with_reducible repeat (first | refine blk_drewN ?_ _ | refine blk_drew ?_ | refine blk_alloc ?_ _)); exact BK145.out⟩, ⟨by repeat (first | (with_reducible first | exact HB.out | apply below_alloc | apply pw_below_drewN | apply below_drew1 | refine below_set ?_ GE145.out) | exact HB.out)⟩⟩)))); (· rw [if_neg c16] at H; exact absurd H (by simp))); (· rw [if_neg c15] at H; exact absurd H (by simp)))
         (· rw [if_neg c14] at H; have c14b0 : decide (x26_3 < (l0_1.length : Int)) = false := decide_eq_false c14; clear c14; obtain rfl := Option.some.inj H; go_wp2; go_ret; (exact ⟨by first | rfl | (simp [errW_none, errW_some] <;> rfl) | (simp [*, errW_none, errW_some] <;> rfl), by repeat (first | (with_reducible first | exact HB.out | apply below_alloc | apply pw_below_drewN | apply below_drew1 | refine below_set ?_ GE145.out) | exact HB.out)⟩))
def coder_clone.f (a0_0 : Int) (l0_1 : List Int) : Option (Int × List Int) := (some (([] : List Int) : List Int)).bind fun y149 => (if y149.length + l0_1.length < 17592186044416 then (some (a0_0, (y149 ++ l0_1))) else (none))
def coder_clone.T1 : Bool × List (List Nat × List Nat) := (true, [([], []), ([0], [0]), ([], []), ([], []), ([3], [3]), ([2, 4], [2, 4]), ([1, 5], [1, 5]), ([6, 5, 0, 1, 2, 3, 4, 5, 6], [6])])
def coder_clone.B1 : List Nat := [0, 1, 0, 0, 8, 28, 63, 127]
theorem coder_clone.tab1 : rtab .any (opsOf Try.f30 1) = coder_clone.T1 := by kernel_rfl
theorem coder_clone.bits1 : waitsOk coder_clone.T1.2 coder_clone.B1 = true := by kernel_rfl
set_option maxHeartbeats 8000000 in
set_option maxRecDepth 100000 in
theorem coder_clone.calls (a0_0 : Int) (A0_1 : Option Addr) (c0_1 : Nat) (l0_1 : List Int) (r1 : Int) (r2 : List Int) (w : World) (hr0_1 : Kd.C (Kd.int .i64) w A0_1 l0_1.length l0_1) (hc0_1 : l0_1.length ≤ c0_1) (h : coder_clone.f a0_0 l0_1 = some (r1, r2)) :
 Calls Try.prog 30 #[.agg #[.int .i64 a0_0, .slice A0_1 l0_1.length c0_1]] w fun e w' => ∃ v1_ : Value, e = .returned (.agg #[.int .i64 r1, v1_]) ∧ Kd.R (Kd.int .i64) 3 w' w.heap.size (fun _ => True) v1_ r2 ∧ Below w.heap.size w w' := by
 have hu48 := Try.underlying48; have HR0_1 := A' hr0_1; have HC0_1 := A' hc0_1; clear hr0_1 hc0_1; have HB := A' (Below.refl w.heap.size w); have H : ((some (([] : List Int) : List Int)).bind fun y149 => (if y149.length + l0_1.length < 17592186044416 then (some (a0_0, (y149 ++ l0_1))) else (none))) = some (r1, r2) := h; clear h; obtain ⟨y149, hy149⟩ : ∃ y_ : List Int, y_ = (([] : List Int)) := ⟨_, rfl⟩; (replace H : (if y149.length + l0_1.length < 17592186044416 then (some (a0_0, (y149 ++ l0_1))) else (none)) = some (r1, r2) := by first | (rw [hy149]; with_reducible exact H) | (have H2_ := (Option.bind_some _ _).symm.trans H; rw [hy149]; with_reducible exact H2_) | (have H2_ := (Option.bind_some _ _).symm.trans H; with_reducible exact H2_) | with_reducible exact H | (rw [hy149]; exact H) | exact H); have Ny149 := A' hy149; clear hy149; by_cases c2 : y149.length + l0_1.length < 17592186044416
 (· rw [if_pos c2] at H; have LMc2 := A' c2; clear c2; obtain ⟨y152, hy152⟩ : ∃ y_ : List Int, y_ = (y149 ++ l0_1) := ⟨_, rfl⟩; (replace H : (some (a0_0, y152)) = some (r1, r2) := by first | (rw [hy152]; with_reducible exact H) | (have H2_ := (Option.bind_some _ _).symm.trans H; rw [hy152]; with_reducible exact H2_) | (have H2_ := (Option.bind_some _ _).symm.trans H; with_reducible exact H2_) | with_reducible exact H | (rw [hy152]; exact H) | exact H); have Ny152 := A' hy152; clear hy152; simp only [Option.some.injEq, Prod.mk.injEq] at H; obtain ⟨rfl, rfl⟩ := H; go_enter Try.func30, Try.ntmps30; (try go_wp2_with (first | ((with_reducible refine gate_dst (N := 1) rfl ?_); refine box_event ?hg (N := 1) ?hd (cs := #[.int .i64 a0_0, .slice A0_1 l0_1.length c0_1]) (t := 48) ?hr ?_; (case hd => rfl); (case hg => rfl); (case hr => first | (go_simp; done) | (go_simp; rfl)); intro gb147 hg w3 hbox hb; have n0_ := A' (below_step (by repeat (first | (with_reducible first | exact HB.out | apply below_alloc | apply pw_below_drewN | apply below_drew1) | exact HB.out)) hb); have n1_ := A' (hbox); have n2_ := A' ((by rw [hg]; exact (below_size (by repeat (first | (with_reducible first | exact HB.out | apply below_alloc | apply pw_below_drewN | apply below_drew1) | exact HB.out))) : w.heap.size ≤ gb147)); have n3_ := A' ((by rw [hg]; exact (below_size (by repeat (first | (with_reducible first | exact HB.out | apply below_alloc | apply pw_below_drewN | apply below_drew1) | exact HB.out))) : w.heap.size ≤ gb147)); clear HB; have HB := n0_; have BK147 := n1_; have GW147 := n2_; have GE147 := n3_; clear n0_ n1_ n2_ n3_; clear hb hbox hg) | ((with_reducible refine gate_dst (N := 2) rfl ?_); refine box_event ?hg (N := 2) ?hd (cs := #[.int .i64 0, .slice none 0 0]) (t := 48) ?hr ?_; (case hd => rfl); (case hg => rfl); (case hr => first | (go_simp; done) | (go_simp; rfl)); intro gb148 hg w4 hbox hb; have n0_ := A' (blk_below (g := gb147) (o := .cells #[.int .i64 a0_0, .slice A0_1 l0_1.length c0_1] 48 (0, 0)) (by (with_reducible repeat (first | refine blk_drewN ?_ _ | refine blk_drew ?_ | refine blk_alloc ?_ _)); exact BK147.out) hb); have n1_ := A' (below_step (by repeat (first | (with_reducible first | exact HB.out | apply below_alloc | apply pw_below_drewN | apply below_drew1 | refine below_set ?_ GE147.out) | exact HB.out)) hb); have n2_ := A' (hbox); have n3_ := A' ((by rw [hg]; exact (below_size (by repeat (first | (with_reducible first | exact HB.out | apply below_alloc | apply pw_below_drewN | apply below_drew1 | refine below_set ?_ GE147.out) | exact HB.out))) : w.heap.size ≤ gb148)); have n4_ := A' ((by rw [hg]; exact (below_size (by repeat (first | (with_reducible first | exact HB.out | apply below_alloc | apply pw_below_drewN | apply below_drew1 | refine below_set ?_ GE147.out) | exact HB.out))) : w.heap.size ≤ gb148)); have n5_ := A' ((by rw [hg]; exact Nat.ne_of_lt (blk_lt (g := gb147) (o := .cells #[.int .i64 a0_0, .slice A0_1 l0_1.length c0_1] 48 (0, 0)) (by (with_reducible repeat (first | refine blk_drewN ?_ _ | refine blk_drew ?_ | refine blk_alloc ?_ _)); exact BK147.out)) : gb147 ≠ gb148)); have n6_ := A' ((by rw [hg]; exact Nat.ne_of_gt (blk_lt (g := gb147) (o := .cells #[.int .i64 a0_0, .slice A0_1 l0_1.length c0_1] 48 (0, 0)) (by (with_reducible repeat (first | refine blk_drewN ?_ _ | refine blk_drew ?_ | refine blk_alloc ?_ _)); exact BK147.out)) : gb148 ≠ gb147)); clear BK147; clear HB; have BK147 := n0_; have HB := n1_; have BK148 := n2_; have GW148 := n3_; have GE148 := n4_; have NB147_148 := n5_; have NB148_147 := n6_; clear n0_ n1_ n2_ n3_ n4_ n5_ n6_; clear hb hbox hg))); have n0_ := A' (blk_drew BK147.out); have n1_ := A' (blk_drew BK148.out); have n2_ := A' (below_drew1 HB.out); clear BK147; clear BK148; clear HB; have BK147 := n0_; have BK148 := n1_; have HB := n2_; clear n0_ n1_ n2_; refine start_ (n := 8) (S := fun w' => w'.cell? ⟨gb147, 0, none⟩ = some (.int .i64 a0_0) ∧ w'.cell? ⟨gb147, 1, none⟩ = some (.slice A0_1 l0_1.length c0_1)) (ds := []) #[false, false, false, false, false, false, false, false] (by kernel_rfl) rfl rfl ⟨(blk_cell BK147.out 0).trans rfl, (blk_cell BK147.out 1).trans rfl⟩ (fun hHeld => ?_); refine with_tabW coder_clone.tab1 coder_clone.bits1 (fun HT_ HW_ => ?_); generalize w4.drew = w5 at BK147 BK148 HB hHeld ⊢; refine pure_ (i := 0) (N := some 3) (v := ?_) (a' := ?_) (B' 8 1) rfl rfl (any_of HT_.out (by kernel_rfl)) (fun _ _ _ h => h) (Or.inl ⟨by rfl, ?_⟩) ?_ ?_; rotate_left; (intro w'; go_simp; with_reducible rfl); rotate_left; (simp only [Act.put, p1', p2', p3', i64_w, i32_w]; rfl); refine pure_ (i := 3) (N := some 6) (v := ?_) (a' := ?_) (B' 8 9) rfl rfl (any_of HT_.out (by kernel_rfl)) (fun _ _ _ h => h) (Or.inl ⟨by rfl, ?_⟩) ?_ ?_; rotate_left; (intro w'; go_simp; with_reducible rfl); rotate_left; (simp only [Act.put, p1', p2', p3', i64_w, i32_w]; rfl); refine take_ (i := 1) (N := some 4) (v := ?_) (a' := ?_) (B' 8 11) rfl rfl (take_ofW HT_.out HW_.out (by kernel_rfl)) (fun _ _ _ h => h) (Or.inl ⟨by rfl, ?_⟩) hHeld ?_ ?_; rotate_left; (rintro w' ⟨s0, s1⟩; go_simp; with_reducible rfl); rotate_left; (simp only [Act.put, p1', p2', p3', i64_w, i32_w]; rfl); refine take_ (i := 4) (N := some 7) (v := ?_) (a' := ?_) (B' 8 27) rfl rfl (take_ofW HT_.out HW_.out (by kernel_rfl)) (fun _ _ _ h => h) (Or.inl ⟨by rfl, ?_⟩) hHeld ?_ ?_; rotate_left; (rintro w' ⟨s0, s1⟩; go_simp; with_reducible rfl); rotate_left; (simp only [Act.put, p1', p2', p3', i64_w, i32_w]; rfl); refine one_ (i := 2) (N := some 5) (B' 8 31) rfl rfl (one_of HT_.out (by kernel_rfl)) (by decide) (fun K hK => ?_); refine Kd.R_lit_step (Kd.int .i64) _ 3 ?hg (N := 5) ?hd (xs := ([] : List Int)) (inner := []) (ok := fun _ => True) (okp := fun _ => True) ?hr ?hp (fun _ hk => hk) trivial (Below.refl _ _) (Nat.le_refl _) (by simp) ?_; (case hd => rfl); (case hg => rfl); (case hr => first | (go_simp; done) | (go_simp; rfl)); (case hp => exact (Reps.none _ _)); intro v150 w6 ho7 hb hg_ hnew_; clear hg_ hnew_; (first | rw [← Ny149.out] at ho7 | (simp only [Int.reduceToNat] at ho7; rw [← Ny149.out] at ho7)); have n0_ := A' (Kd.R_lower ho7 (below_size (by repeat (first | (with_reducible first | exact HB.out | apply below_alloc | apply pw_below_drewN | apply below_drew1 | refine below_set ?_ GE147.out | refine below_set ?_ GE148.out) | exact HB.out)))); have n1_ := A' (blk_below (g := gb147) (o := .cells #[.int .i64 a0_0, .slice A0_1 l0_1.length c0_1] 48 (0, 0)) (by (with_reducible repeat (first | refine blk_drewN ?_ _ | refine blk_drew ?_ | refine blk_alloc ?_ _)); exact BK147.out) hb); have n2_ := A' (blk_below (g := gb148) (o := .cells #[.int .i64 0, .slice none 0 0] 48 (0, 0)) (by (with_reducible repeat (first | refine blk_drewN ?_ _ | refine blk_drew ?_ | refine blk_alloc ?_ _)); exact BK148.out) hb); have n3_ := A' (below_step (by repeat (first | (with_reducible first | exact HB.out | apply below_alloc | apply pw_below_drewN | apply below_drew1 | refine below_set ?_ GE147.out | refine below_set ?_ GE148.out) | exact HB.out)) hb); clear BK147; clear BK148; clear HB; have HO151 := n0_; have BK147 := n1_; have BK148 := n2_; have HB := n3_; clear n0_ n1_ n2_ n3_; clear hb ho7; refine hK.out _ _ ⟨(blk_cell BK147.out 0).trans rfl, (blk_cell BK147.out 1).trans rfl⟩ (fun hHeld => ?_); clear hK K; refine norm_ (a' := ?_) ?_ ?_; rotate_left; (show Act.put _ (some 5) _ = _; simp only [Act.put, p1', p2', p3', i64_w, i32_w]; rfl); refine one_ (i := 5) (N := some 8) (B' 8 63) rfl rfl (one_of HT_.out (by kernel_rfl)) (by decide) (fun K hK => ?_); refine Kd.R_append_rows_step (Kd.int .i64) (w0 := w) w.heap.size (by rfl) (.tmp 5) (.tmp 7) 23 3 (.int .i64 0) 8 rfl Try.underlying23 info3 rfl (by decide) (by omega) v150 y149 l0_1 _ _ _ (fun _ => True) (fun _ => False) rfl rfl ?aO ?aR (fun _ _ h => h) (fun _ h => h.elim) ?aF ?aB ?aS ?aL ?_; (case aR => repeat (first | exact (Kd.C_below HR0_1.out HB.out) | (with_reducible refine Kd.C_alloc ?_ _) | (with_reducible refine Kd.C_drewN ?_ _) | (with_reducible refine Kd.C_drew ?_))); (case aB => exact (by repeat (first | (with_reducible first | exact HB.out | apply below_alloc | apply pw_below_drewN | apply below_drew1 | refine below_set ?_ GE147.out | refine below_set ?_ GE148.out) | exact HB.out))); (case aF => exact (fun _ _ => trivial)); (case aO => exact (by (with_reducible repeat (first | apply Kd.R_alloc | apply Kd.R_drewN | apply Kd.R_drew)); exact HO151.out)); (case aS => exact (below_size (by repeat (first | (with_reducible first | exact HB.out | apply below_alloc | apply pw_below_drewN | apply below_drew1 | refine below_set ?_ GE147.out | refine below_set ?_ GE148.out) | exact HB.out)))); (case aL => have := LMc2.out; omega); intro v153 w8 ho hb hg hat; rw [← Ny152.out] at ho; have n0_ := A' (blk_grown (g := gb147) (o := .cells #[.int .i64 a0_0, .slice A0_1 l0_1.length c0_1] 48 (0, 0)) (by (with_reducible repeat (first | refine blk_drewN ?_ _ | refine blk_drew ?_ | refine blk_alloc ?_ _)); exact BK147.out) hg (Kd.R_ne HO151.out BK147.out (by decide))); have n1_ := A' (blk_grown (g := gb148) (o := .cells #[.int .i64 0, .slice none 0 0] 48 (0, 0)) (by (with_reducible repeat (first | refine blk_drewN ?_ _ | refine blk_drew ?_ | refine blk_alloc ?_ _)); exact BK148.out) hg (Kd.R_ne HO151.out BK148.out (by decide))); have n2_ := A' (hb); have n3_ := A' (ho); clear BK147; clear BK148; clear HB; clear HO151; have BK147 := n0_; have BK148 := n1_; have HB := n2_; have HO154 := n3_; clear n0_ n1_ n2_ n3_; clear ho hb hg hat; obtain ⟨Ao9, co9, eo9⟩ := Kd.R_slice HO154.out; (first | subst eo9 | (injection eo9 with f1_ f2_ f3_; have f4_ := f1_.symm; have f5_ := f3_.symm; clear f1_ f2_ f3_; subst f4_; subst f5_)); refine hK.out _ _ ⟨(blk_cell BK147.out 0).trans rfl, (blk_cell BK147.out 1).trans rfl⟩ (fun hHeld => ?_); clear hK K; refine norm_ (a' := ?_) ?_ ?_; rotate_left; (show Act.put _ (some 8) _ = _; simp only [Act.put, p1', p2', p3', i64_w, i32_w]; rfl); refine pure_ (i := 6) (N := some 9) (v := ?_) (a' := ?_) (B' 8 127) rfl rfl (any_of HT_.out (by kernel_rfl)) (fun _ _ _ h => h) (Or.inl ⟨by rfl, ?_⟩) ?_ ?_; rotate_left; (intro w'; go_simp; with_reducible rfl); rotate_left; (simp only [Act.put, p1', p2', p3', i64_w, i32_w]; rfl); refine one_ (i := 7) (N := none) (B' 8 255) rfl rfl (one_of HT_.out (by kernel_rfl)) (by decide) (fun K hK => ?_); have hs10 : w8.cell? ⟨gb148, 0, none⟩ = some (.int .i64 0) := (blk_cell BK148.out 0).trans rfl; have hfs10 := blk_frozen BK148.out 0; have hns10_0 := NB147_148.out; have hms10_0 := NB148_147.out; have hs11 : w8.cell? ⟨gb148, 1, none⟩ = some (.slice none 0 0) := (blk_cell BK148.out 1).trans rfl; have hfs11 := blk_frozen BK148.out 1; have hns11_0 := NB147_148.out; have hms11_0 := NB148_147.out; refine skip_ (w1 := ?_) (by rfl) rfl ?_ ?_; rotate_left; (· go_simp; rfl); refine hK.out _ _ ⟨((cell_far (p := ⟨gb148, _, none⟩) NB147_148.out _).trans (((cell_far (p := ⟨gb148, _, none⟩) NB147_148.out _).trans (hHeld.1)))), ((cell_far (p := ⟨gb148, _, none⟩) NB147_148.out _).trans (((cell_far (p := ⟨gb148, _, none⟩) NB147_148.out _).trans (hHeld.2))))⟩ (fun hHeld => ?_); clear hK K; refine done_ (done_of HT_.out (by kernel_rfl)) ?_; (try go_wp2); refine bodyPost_ret (results_cell_row rfl _ _ gb148 48 #[.int .i64 a0_0, .slice Ao9 y152.length co9] (0, 0) _ rfl (by (with_reducible repeat (first | refine blk_drewN ?_ _ | refine blk_drew ?_ | refine blk_alloc ?_ _)); refine blk_put (cs := #[.int .i64 a0_0, .slice none 0 0]) ?_ 1 _ rfl; (with_reducible repeat (first | refine blk_drewN ?_ _ | refine blk_drew ?_ | refine blk_alloc ?_ _)); refine blk_put (cs := #[.int .i64 0, .slice none 0 0]) ?_ 0 _ rfl; (with_reducible repeat (first | refine blk_drewN ?_ _ | refine blk_drew ?_ | refine blk_alloc ?_ _)); exact BK148.out) Try.underlying48 rfl (by kernel_rfl)) rfl ?_; (exact ⟨_, by first | rfl | (simp [errW_none, errW_some] <;> rfl) | (simp [*, errW_none, errW_some] <;> rfl), by (with_reducible repeat (first | apply Kd.R_alloc | apply Kd.R_drewN | apply Kd.R_drew)); exact Kd.R_mono (Kd.R_far (p := ⟨gb148, 1, none⟩) (Kd.R_far (p := ⟨gb148, 0, none⟩) (Kd.R_types HO154.out BK148.out (by decide)) (fun _ hk => hk.2) (.int .i64 a0_0)) (fun _ hk => hk.2) (.slice Ao9 y152.length co9)) (fun _ hk => trivial), by repeat (first | (with_reducible first | exact HB.out | apply below_alloc | apply pw_below_drewN | apply below_drew1 | refine below_set ?_ GE147.out | refine below_set ?_ GE148.out) | exact HB.out)⟩))
 (· rw [if_neg c2] at H; exact absurd H (by simp))
def coder_New.f (a0 : Int) (a1 : Int) : Option (Int × List Int × Int) := if a0 = 0 then (if a1 < 0 then (some (0, ([] : List Int), 2)) else (if a1 > 8192 then (some (0, ([] : List Int), 2)) else (if 0 ≤ a1 then (if (a1 : Int).toNat ≤ 35184372088832 then (some (a0, (List.replicate (a1 : Int).toNat 0), 0)) else (none)) else (none)))) else (if a0 = 1 then (if a1 < 0 then (some (0, ([] : List Int), 2)) else (if a1 > 8192 then (some (0, ([] : List Int), 2)) else (if 0 ≤ a1 then (if (a1 : Int).toNat ≤ 35184372088832 then (some (a0, (List.replicate (a1 : Int).toNat 0), 0)) else (none)) else (none)))) else (some (0, ([] : List Int), 2)))
set_option maxHeartbeats 8000000 in
set_option maxRecDepth 100000 in
theorem coder_New.calls (a0 : Int) (a1 : Int) (r1 : Int) (r2 : List Int) (r3 : Int) (w : World) (h : coder_New.f a0 a1 = some (r1, r2, r3)) :
 Calls Try.prog 14 #[.int .i64 a0, .int .i64 a1] w fun e w' => ∃ v1_ : Value, e = .returned (.tuple #[.agg #[.int .i64 r1, v1_], .int .i64 r3]) ∧ Kd.R (Kd.int .i64) 3 w' w.heap.size (fun _ => True) v1_ r2 ∧ Below w.heap.size w w' := by
 have hu48 := Try.underlying48; have HB := A' (Below.refl w.heap.size w); have H : (if a0 = 0 then (if a1 < 0 then (some (0, ([] : List Int), 2)) else (if a1 > 8192 then (some (0, ([] : List Int), 2)) else (if 0 ≤ a1 then (if (a1 : Int).toNat ≤ 35184372088832 then (some (a0, (List.replicate (a1 : Int).toNat 0), 0)) else (none)) else (none)))) else (if a0 = 1 then (if a1 < 0 then (some (0, ([] : List Int), 2)) else (if a1 > 8192 then (some (0, ([] : List Int), 2)) else (if 0 ≤ a1 then (if (a1 : Int).toNat ≤ 35184372088832 then (some (a0, (List.replicate (a1 : Int).toNat 0), 0)) else (none)) else (none)))) else (some (0, ([] : List Int), 2)))) = some (r1, r2, r3) := h; clear h; by_cases c3 : a0 = 0
 (· rw [if_pos c3] at H; have c3b0 : (a0 == 0) = true := beq_iff_eq.mpr c3; have c3b1 : (a0 != 0) = false := bne_eq_false_iff_eq.mpr c3; clear c3; by_cases c4 : a1 < 0; (· rw [if_pos c4] at H; have c4b0 : decide (a1 < 0) = true := decide_eq_true c4; clear c4; simp only [Option.some.injEq, Prod.mk.injEq] at H; obtain ⟨rfl, rfl, rfl⟩ := H; go_enter Try.func14, Try.ntmps14; go_wp2_with (first | ((with_reducible refine gate_dst (N := 4) rfl ?_); refine box_event ?hg (N := 4) ?hd (cs := #[.int .i64 0, .slice none 0 0]) (t := 48) ?hr ?_; (case hd => rfl); (case hg => rfl); (case hr => first | (go_simp; done) | (go_simp; rfl)); intro gb138 hg w5 hbox hb; have n0_ := A' (below_step (by repeat (first | (with_reducible first | exact HB.out | apply below_alloc | apply pw_below_drewN | apply below_drew1) | exact HB.out)) hb); have n1_ := A' (hbox); have n2_ := A' ((by rw [hg]; exact (below_size (by repeat (first | (with_reducible first | exact HB.out | apply below_alloc | apply pw_below_drewN | apply below_drew1) | exact HB.out))) : w.heap.size ≤ gb138)); have n3_ := A' ((by rw [hg]; exact (below_size (by repeat (first | (with_reducible first | exact HB.out | apply below_alloc | apply pw_below_drewN | apply below_drew1) | exact HB.out))) : w.heap.size ≤ gb138)); clear HB; have HB := n0_; have BK138 := n1_; have GW138 := n2_; have GE138 := n3_; clear n0_ n1_ n2_ n3_; clear hb hbox hg; have hcz6_0 : w5.cell? ⟨gb138, 0, none⟩ = some (.int .i64 0) := (blk_cell BK138.out 0).trans rfl; have hcz6_1 : w5.cell? ⟨gb138, 1, none⟩ = some (.slice none 0 0) := (blk_cell BK138.out 1).trans rfl; have hfz6_0 := blk_frozen BK138.out 0; have hfz6_1 := blk_frozen BK138.out 1)); refine bodyPost_ret (results_ct rfl _ _ gb138 48 #[.int .i64 0, .slice none 0 0] (0, 0) _ rfl (by (with_reducible repeat (first | refine blk_drewN ?_ _ | refine blk_drew ?_ | refine blk_alloc ?_ _)); refine blk_put (cs := #[.int .i64 0, .slice none 0 0]) ?_ 1 _ rfl; (with_reducible repeat (first | refine blk_drewN ?_ _ | refine blk_drew ?_ | refine blk_alloc ?_ _)); refine blk_put (cs := #[.int .i64 0, .slice none 0 0]) ?_ 0 _ rfl; (with_reducible repeat (first | refine blk_drewN ?_ _ | refine blk_drew ?_ | refine blk_alloc ?_ _)); exact BK138.out) Try.underlying48 rfl (by kernel_rfl)) rfl ?_; (exact ⟨_, by first | rfl | (simp [errW_none, errW_some] <;> rfl) | (simp [*, errW_none, errW_some] <;> rfl), by first | exact Kd.R_nil _ _ _ _ _ | exact Kd.N_nil _ _ _ _ _ | exact Kd.V_nil _ _ _ _ _ | exact Kd.Q_nil _ _ _ _ _ | exact Kd.S_nil _ _ _ _ _, by repeat (first | (with_reducible first | exact HB.out | apply below_alloc | apply pw_below_drewN | apply below_drew1 | refine below_set ?_ GE138.out) | exact HB.out)⟩)); (· rw [if_neg c4] at H; have c4b0 : decide (a1 < 0) = false := decide_eq_false c4; clear c4; by_cases c7 : a1 > 8192; (· rw [if_pos c7] at H; have c7b0 : decide (8192 < a1) = true := decide_eq_true c7; clear c7; simp only [Option.some.injEq, Prod.mk.injEq] at H; obtain ⟨rfl, rfl, rfl⟩ := H; go_enter Try.func14, Try.ntmps14; go_wp2_with (first | ((with_reducible refine gate_dst (N := 4) rfl ?_); refine box_event ?hg (N := 4) ?hd (cs := #[.int .i64 0, .slice none 0 0]) (t := 48) ?hr ?_; (case hd => rfl); (case hg => rfl); (case hr => first | (go_simp; done) | (go_simp; rfl)); intro gb138 hg w8 hbox hb; have n0_ := A' (below_step (by repeat (first | (with_reducible first | exact HB.out | apply below_alloc | apply pw_below_drewN | apply below_drew1) | exact HB.out)) hb); have n1_ := A' (hbox); have n2_ := A' ((by rw [hg]; exact (below_size (by repeat (first | (with_reducible first | exact HB.out | apply below_alloc | apply pw_below_drewN | apply below_drew1) | exact HB.out))) : w.heap.size ≤ gb138)); have n3_ := A' ((by rw [hg]; exact (below_size (by repeat (first | (with_reducible first | exact HB.out | apply below_alloc | apply pw_below_drewN | apply below_drew1) | exact HB.out))) : w.heap.size ≤ gb138)); clear HB; have HB := n0_; have BK138 := n1_; have GW138 := n2_; have GE138 := n3_; clear n0_ n1_ n2_ n3_; clear hb hbox hg; have hcz9_0 : w8.cell? ⟨gb138, 0, none⟩ = some (.int .i64 0) := (blk_cell BK138.out 0).trans rfl; have hcz9_1 : w8.cell? ⟨gb138, 1, none⟩ = some (.slice none 0 0) := (blk_cell BK138.out 1).trans rfl; have hfz9_0 := blk_frozen BK138.out 0; have hfz9_1 := blk_frozen BK138.out 1)); refine bodyPost_ret (results_ct rfl _ _ gb138 48 #[.int .i64 0, .slice none 0 0] (0, 0) _ rfl (by (with_reducible repeat (first | refine blk_drewN ?_ _ | refine blk_drew ?_ | refine blk_alloc ?_ _)); refine blk_put (cs := #[.int .i64 0, .slice none 0 0]) ?_ 1 _ rfl; (with_reducible repeat (first | refine blk_drewN ?_ _ | refine blk_drew ?_ | refine blk_alloc ?_ _)); refine blk_put (cs := #[.int .i64 0, .slice none 0 0]) ?_ 0 _ rfl; (with_reducible repeat (first | refine blk_drewN ?_ _ | refine blk_drew ?_ | refine blk_alloc ?_ _)); exact BK138.out) Try.underlying48 rfl (by kernel_rfl)) rfl ?_; (exact ⟨_, by first | rfl | (simp [errW_none, errW_some] <;> rfl) | (simp [*, errW_none, errW_some] <;> rfl), by first | exact Kd.R_nil _ _ _ _ _ | exact Kd.N_nil _ _ _ _ _ | exact Kd.V_nil _ _ _ _ _ | exact Kd.Q_nil _ _ _ _ _ | exact Kd.S_nil _ _ _ _ _, by repeat (first | (with_reducible first | exact HB.out | apply below_alloc | apply pw_below_drewN | apply below_drew1 | refine below_set ?_ GE138.out) | exact HB.out)⟩)); (· rw [if_neg c7] at H; have c7b0 : decide (8192 < a1) = false := decide_eq_false c7; clear c7; by_cases c10 : 0 ≤ a1; (· rw [if_pos c10] at H; have c10b0 := eq_true c10; have c10b1 : decide (0 ≤ a1) = true := decide_eq_true c10; clear c10; by_cases c11 : (a1 : Int).toNat ≤ 35184372088832; (· rw [if_pos c11] at H; have c11b0 := eq_true c11; have c11b1 : decide ((a1 : Int).toNat ≤ 35184372088832) = true := decide_eq_true c11; clear c11; obtain ⟨y139, hy139⟩ : ∃ y_ : List Int, y_ = (List.replicate (a1 : Int).toNat 0) := ⟨_, rfl⟩; (replace H : (some (a0, y139, 0)) = some (r1, r2, r3) := by first | (rw [hy139]; with_reducible exact H) | (have H2_ := (Option.bind_some _ _).symm.trans H; rw [hy139]; with_reducible exact H2_) | (have H2_ := (Option.bind_some _ _).symm.trans H; with_reducible exact H2_) | with_reducible exact H | (rw [hy139]; exact H) | exact H); have Ny139 := A' hy139; clear hy139; simp only [Option.some.injEq, Prod.mk.injEq] at H; obtain ⟨rfl, rfl, rfl⟩ := H; go_enter Try.func14, Try.ntmps14; go_wp2_with (first | ((with_reducible refine gate_dst (N := 4) rfl ?_); refine box_event ?hg (N := 4) ?hd (cs := #[.int .i64 0, .slice none 0 0]) (t := 48) ?hr ?_; (case hd => rfl); (case hg => rfl); (case hr => first | (go_simp; done) | (go_simp; rfl)); intro gb138 hg w12 hbox hb; have n0_ := A' (below_step (by repeat (first | (with_reducible first | exact HB.out | apply below_alloc | apply pw_below_drewN | apply below_drew1) | exact HB.out)) hb); have n1_ := A' (hbox); have n2_ := A' ((by rw [hg]; exact (below_size (by repeat (first | (with_reducible first | exact HB.out | apply below_alloc | apply pw_below_drewN | apply below_drew1) | exact HB.out))) : w.heap.size ≤ gb138)); have n3_ := A' ((by rw [hg]; exact (below_size (by repeat (first | (with_reducible first | exact HB.out | apply below_alloc | apply pw_below_drewN | apply below_drew1) | exact HB.out))) : w.heap.size ≤ gb138)); clear HB; have HB := n0_; have BK138 := n1_; have GW138 := n2_; have GE138 := n3_; clear n0_ n1_ n2_ n3_; clear hb hbox hg) | ((with_reducible refine gate_dst (N := 23) rfl ?_); refine Kd.R_make (Kd.int .i64) _ 3 rfl (N := 23) rfl 23 _ _ rfl a1 rfl rfl Try.underlying23 (.int .i64 0) 8 info3 rfl (by decide) (by omega) 0 (ok := fun _ => True) (okp := fun _ => True) rfl (fun _ hk => hk) trivial (of_decide_eq_true (by first | (with_reducible assumption) | assumption)) (Nat.le_trans (Nat.mul_le_mul_right _ (of_decide_eq_true (by first | (with_reducible assumption) | assumption) : a1.toNat ≤ 35184372088832)) (by omega)) (Below.refl _ _) (Nat.le_refl _) ?_; intro v140 w13 ho14 hb hg_ hnew_; clear hg_ hnew_; (first | rw [← Ny139.out] at ho14 | (simp only [Int.reduceToNat] at ho14; rw [← Ny139.out] at ho14)); have n0_ := A' (Kd.R_lower ho14 (below_size (by repeat (first | (with_reducible first | exact HB.out | apply below_alloc | apply pw_below_drewN | apply below_drew1 | refine below_set ?_ GE138.out) | exact HB.out)))); have n1_ := A' (blk_below (g := gb138) (o := .cells #[.int .i64 0, .slice none 0 0] 48 (0, 0)) (by (with_reducible repeat (first | refine blk_drewN ?_ _ | refine blk_drew ?_ | refine blk_alloc ?_ _)); exact BK138.out) hb); have n2_ := A' (below_step (by repeat (first | (with_reducible first | exact HB.out | apply below_alloc | apply pw_below_drewN | apply below_drew1 | refine below_set ?_ GE138.out) | exact HB.out)) hb); clear BK138; clear HB; have HO141 := n0_; have BK138 := n1_; have HB := n2_; clear n0_ n1_ n2_; clear hb ho14; obtain ⟨Ao15, co15, eo15⟩ := Kd.R_slice HO141.out; subst eo15; have hcz16_0 : w13.cell? ⟨gb138, 0, none⟩ = some (.int .i64 0) := (blk_cell BK138.out 0).trans rfl; have hcz16_1 : w13.cell? ⟨gb138, 1, none⟩ = some (.slice none 0 0) := (blk_cell BK138.out 1).trans rfl; have hfz16_0 := blk_frozen BK138.out 0; have hfz16_1 := blk_frozen BK138.out 1)); refine bodyPost_ret (results_ct rfl _ _ gb138 48 #[.int .i64 a0, .slice Ao15 y139.length co15] (0, 0) _ rfl (by (with_reducible repeat (first | refine blk_drewN ?_ _ | refine blk_drew ?_ | refine blk_alloc ?_ _)); refine blk_put (cs := #[.int .i64 a0, .slice none 0 0]) ?_ 1 _ rfl; (with_reducible repeat (first | refine blk_drewN ?_ _ | refine blk_drew ?_ | refine blk_alloc ?_ _)); refine blk_put (cs := #[.int .i64 0, .slice none 0 0]) ?_ 0 _ rfl; (with_reducible repeat (first | refine blk_drewN ?_ _ | refine blk_drew ?_ | refine blk_alloc ?_ _)); exact BK138.out) Try.underlying48 rfl (by kernel_rfl)) rfl ?_; (exact ⟨_, by first | rfl | (simp [errW_none, errW_some] <;> rfl) | (simp [*, errW_none, errW_some] <;> rfl), by (with_reducible repeat (first | apply Kd.R_alloc | apply Kd.R_drewN | apply Kd.R_drew)); exact Kd.R_mono (Kd.R_far (p := ⟨gb138, 1, none⟩) (Kd.R_far (p := ⟨gb138, 0, none⟩) (Kd.R_types HO141.out BK138.out (by decide)) (fun _ hk => hk.2) (.int .i64 a0)) (fun _ hk => hk.2) (.slice Ao15 y139.length co15)) (fun _ hk => trivial), by repeat (first | (with_reducible first | exact HB.out | apply below_alloc | apply pw_below_drewN | apply below_drew1 | refine below_set ?_ GE138.out) | exact HB.out)⟩)); (· rw [if_neg c11] at H; exact absurd H (by simp))); (· rw [if_neg c10] at H; exact absurd H (by simp)))))
 (· rw [if_neg c3] at H; have c3b0 : (a0 == 0) = false := beq_eq_false_iff_ne.mpr c3; have c3b1 : (a0 != 0) = true := bne_iff_ne.mpr c3; by_cases c17 : a0 = 1; (· rw [if_pos c17] at H; have c17b0 : (a0 == 1) = true := beq_iff_eq.mpr c17; have c17b1 : (a0 != 1) = false := bne_eq_false_iff_eq.mpr c17; clear c17; by_cases c18 : a1 < 0; (· rw [if_pos c18] at H; have c18b0 : decide (a1 < 0) = true := decide_eq_true c18; clear c18; simp only [Option.some.injEq, Prod.mk.injEq] at H; obtain ⟨rfl, rfl, rfl⟩ := H; go_enter Try.func14, Try.ntmps14; go_wp2_with (first | ((with_reducible refine gate_dst (N := 4) rfl ?_); refine box_event ?hg (N := 4) ?hd (cs := #[.int .i64 0, .slice none 0 0]) (t := 48) ?hr ?_; (case hd => rfl); (case hg => rfl); (case hr => first | (go_simp; done) | (go_simp; rfl)); intro gb138 hg w19 hbox hb; have n0_ := A' (below_step (by repeat (first | (with_reducible first | exact HB.out | apply below_alloc | apply pw_below_drewN | apply below_drew1) | exact HB.out)) hb); have n1_ := A' (hbox); have n2_ := A' ((by rw [hg]; exact (below_size (by repeat (first | (with_reducible first | exact HB.out | apply below_alloc | apply pw_below_drewN | apply below_drew1) | exact HB.out))) : w.heap.size ≤ gb138)); have n3_ := A' ((by rw [hg]; exact (below_size (by repeat (first | (with_reducible first | exact HB.out | apply below_alloc | apply pw_below_drewN | apply below_drew1) | exact HB.out))) : w.heap.size ≤ gb138)); clear HB; have HB := n0_; have BK138 := n1_; have GW138 := n2_; have GE138 := n3_; clear n0_ n1_ n2_ n3_; clear hb hbox hg; have hcz20_0 : w19.cell? ⟨gb138, 0, none⟩ = some (.int .i64 0) := (blk_cell BK138.out 0).trans rfl; have hcz20_1 : w19.cell? ⟨gb138, 1, none⟩ = some (.slice none 0 0) := (blk_cell BK138.out 1).trans rfl; have hfz20_0 := blk_frozen BK138.out 0; have hfz20_1 := blk_frozen BK138.out 1)); refine bodyPost_ret (results_ct rfl _ _ gb138 48 #[.int .i64 0, .slice none 0 0] (0, 0) _ rfl (by (with_reducible repeat (first | refine blk_drewN ?_ _ | refine blk_drew ?_ | refine blk_alloc ?_ _)); refine blk_put (cs := #[.int .i64 0, .slice none 0 0]) ?_ 1 _ rfl; (with_reducible repeat (first | refine blk_drewN ?_ _ | refine blk_drew ?_ | refine blk_alloc ?_ _)); refine blk_put (cs := #[.int .i64 0, .slice none 0 0]) ?_ 0 _ rfl; (with_reducible repeat (first | refine blk_drewN ?_ _ | refine blk_drew ?_ | refine blk_alloc ?_ _)); exact BK138.out) Try.underlying48 rfl (by kernel_rfl)) rfl ?_; (exact ⟨_, by first | rfl | (simp [errW_none, errW_some] <;> rfl) | (simp [*, errW_none, errW_some] <;> rfl), by first | exact Kd.R_nil _ _ _ _ _ | exact Kd.N_nil _ _ _ _ _ | exact Kd.V_nil _ _ _ _ _ | exact Kd.Q_nil _ _ _ _ _ | exact Kd.S_nil _ _ _ _ _, by repeat (first | (with_reducible first | exact HB.out | apply below_alloc | apply pw_below_drewN | apply below_drew1 | refine below_set ?_ GE138.out) | exact HB.out)⟩)); (· rw [if_neg c18] at H; have c18b0 : decide (a1 < 0) = false := decide_eq_false c18; clear c18; by_cases c21 : a1 > 8192; (· rw [if_pos c21] at H; have c21b0 : decide (8192 < a1) = true := decide_eq_true c21; clear c21; simp only [Option.some.injEq, Prod.mk.injEq] at H; obtain ⟨rfl, rfl, rfl⟩ := H; go_enter Try.func14, Try.ntmps14; go_wp2_with (first | ((with_reducible refine gate_dst (N := 4) rfl ?_); refine box_event ?hg (N := 4) ?hd (cs := #[.int .i64 0, .slice none 0 0]) (t := 48) ?hr ?_; (case hd => rfl); (case hg => rfl); (case hr => first | (go_simp; done) | (go_simp; rfl)); intro gb138 hg w22 hbox hb; have n0_ := A' (below_step (by repeat (first | (with_reducible first | exact HB.out | apply below_alloc | apply pw_below_drewN | apply below_drew1) | exact HB.out)) hb); have n1_ := A' (hbox); have n2_ := A' ((by rw [hg]; exact (below_size (by repeat (first | (with_reducible first | exact HB.out | apply below_alloc | apply pw_below_drewN | apply below_drew1) | exact HB.out))) : w.heap.size ≤ gb138)); have n3_ := A' ((by rw [hg]; exact (below_size (by repeat (first | (with_reducible first | exact HB.out | apply below_alloc | apply pw_below_drewN | apply below_drew1) | exact HB.out))) : w.heap.size ≤ gb138)); clear HB; have HB := n0_; have BK138 := n1_; have GW138 := n2_; have GE138 := n3_; clear n0_ n1_ n2_ n3_; clear hb hbox hg; have hcz23_0 : w22.cell? ⟨gb138, 0, none⟩ = some (.int .i64 0) := (blk_cell BK138.out 0).trans rfl; have hcz23_1 : w22.cell? ⟨gb138, 1, none⟩ = some (.slice none 0 0) := (blk_cell BK138.out 1).trans rfl; have hfz23_0 := blk_frozen BK138.out 0; have hfz23_1 := blk_frozen BK138.out 1)); refine bodyPost_ret (results_ct rfl _ _ gb138 48 #[.int .i64 0, .slice none 0 0] (0, 0) _ rfl (by (with_reducible repeat (first | refine blk_drewN ?_ _ | refine blk_drew ?_ | refine blk_alloc ?_ _)); refine blk_put (cs := #[.int .i64 0, .slice none 0 0]) ?_ 1 _ rfl; (with_reducible repeat (first | refine blk_drewN ?_ _ | refine blk_drew ?_ | refine blk_alloc ?_ _)); refine blk_put (cs := #[.int .i64 0, .slice none 0 0]) ?_ 0 _ rfl; (with_reducible repeat (first | refine blk_drewN ?_ _ | refine blk_drew ?_ | refine blk_alloc ?_ _)); exact BK138.out) Try.underlying48 rfl (by kernel_rfl)) rfl ?_; (exact ⟨_, by first | rfl | (simp [errW_none, errW_some] <;> rfl) | (simp [*, errW_none, errW_some] <;> rfl), by first | exact Kd.R_nil _ _ _ _ _ | exact Kd.N_nil _ _ _ _ _ | exact Kd.V_nil _ _ _ _ _ | exact Kd.Q_nil _ _ _ _ _ | exact Kd.S_nil _ _ _ _ _, by repeat (first | (with_reducible first | exact HB.out | apply below_alloc | apply pw_below_drewN | apply below_drew1 | refine below_set ?_ GE138.out) | exact HB.out)⟩)); (· rw [if_neg c21] at H; have c21b0 : decide (8192 < a1) = false := decide_eq_false c21; clear c21; by_cases c24 : 0 ≤ a1; (· rw [if_pos c24] at H; have c24b0 := eq_true c24; have c24b1 : decide (0 ≤ a1) = true := decide_eq_true c24; clear c24; by_cases c25 : (a1 : Int).toNat ≤ 35184372088832; (· rw [if_pos c25] at H; have c25b0 := eq_true c25; have c25b1 : decide ((a1 : Int).toNat ≤ 35184372088832) = true := decide_eq_true c25; clear c25; obtain ⟨y142, hy142⟩ : ∃ y_ : List Int, y_ = (List.replicate (a1 : Int).toNat 0) := ⟨_, rfl⟩; (replace H : (some (a0, y142, 0)) = some (r1, r2, r3) := by first | (rw [hy142]; with_reducible exact H) | (have H2_ := (Option.bind_some _ _).symm.trans H; rw [hy142]; with_reducible exact H2_) | (have H2_ := (Option.bind_some _ _).symm.trans H; with_reducible exact H2_) | with_reducible exact H | (rw [hy142]; exact H) | exact H); have Ny142 := A' hy142; clear hy142; simp only [Option.some.injEq, Prod.mk.injEq] at H; obtain ⟨rfl, rfl, rfl⟩ := H; go_enter Try.func14, Try.ntmps14; go_wp2_with (first | ((with_reducible refine gate_dst (N := 4) rfl ?_); refine box_event ?hg (N := 4) ?hd (cs := #[.int .i64 0, .slice none 0 0]) (t := 48) ?hr ?_; (case hd => rfl); (case hg => rfl); (case hr => first | (go_simp; done) | (go_simp; rfl)); intro gb138 hg w26 hbox hb; have n0_ := A' (below_step (by repeat (first | (with_reducible first | exact HB.out | apply below_alloc | apply pw_below_drewN | apply below_drew1) | exact HB.out)) hb); have n1_ := A' (hbox); have n2_ := A' ((by rw [hg]; exact (below_size (by repeat (first | (with_reducible first | exact HB.out | apply below_alloc | apply pw_below_drewN | apply below_drew1) | exact HB.out))) : w.heap.size ≤ gb138)); have n3_ := A' ((by rw [hg]; exact (below_size (by repeat (first | (with_reducible first | exact HB.out | apply below_alloc | apply pw_below_drewN | apply below_drew1) | exact HB.out))) : w.heap.size ≤ gb138)); clear HB; have HB := n0_; have BK138 := n1_; have GW138 := n2_; have GE138 := n3_; clear n0_ n1_ n2_ n3_; clear hb hbox hg) | ((with_reducible refine gate_dst (N := 23) rfl ?_); refine Kd.R_make (Kd.int .i64) _ 3 rfl (N := 23) rfl 23 _ _ rfl a1 rfl rfl Try.underlying23 (.int .i64 0) 8 info3 rfl (by decide) (by omega) 0 (ok := fun _ => True) (okp := fun _ => True) rfl (fun _ hk => hk) trivial (of_decide_eq_true (by first | (with_reducible assumption) | assumption)) (Nat.le_trans (Nat.mul_le_mul_right _ (of_decide_eq_true (by first | (with_reducible assumption) | assumption) : a1.toNat ≤ 35184372088832)) (by omega)) (Below.refl _ _) (Nat.le_refl _) ?_; intro v143 w27 ho28 hb hg_ hnew_; clear hg_ hnew_; (first | rw [← Ny142.out] at ho28 | (simp only [Int.reduceToNat] at ho28; rw [← Ny142.out] at ho28)); have n0_ := A' (Kd.R_lower ho28 (below_size (by repeat (first | (with_reducible first | exact HB.out | apply below_alloc | apply pw_below_drewN | apply below_drew1 | refine below_set ?_ GE138.out) | exact HB.out)))); have n1_ := A' (blk_below (g := gb138) (o := .cells #[.int .i64 0, .slice none 0 0] 48 (0, 0)) (by (with_reducible repeat (first | refine blk_drewN ?_ _ | refine blk_drew ?_ | refine blk_alloc ?_ _)); exact BK138.out) hb); have n2_ := A' (below_step (by repeat (first | (with_reducible first | exact HB.out | apply below_alloc | apply pw_below_drewN | apply below_drew1 | refine below_set ?_ GE138.out) | exact HB.out)) hb); clear BK138; clear HB; have HO144 := n0_; have BK138 := n1_; have HB := n2_; clear n0_ n1_ n2_; clear hb ho28; obtain ⟨Ao29, co29, eo29⟩ := Kd.R_slice HO144.out; subst eo29; have hcz30_0 : w27.cell? ⟨gb138, 0, none⟩ = some (.int .i64 0) := (blk_cell BK138.out 0).trans rfl; have hcz30_1 : w27.cell? ⟨gb138, 1, none⟩ = some (.slice none 0 0) := (blk_cell BK138.out 1).trans rfl; have hfz30_0 := blk_frozen BK138.out 0; have hfz30_1 := blk_frozen BK138.out 1)); refine bodyPost_ret (results_ct rfl _ _ gb138 48 #[.int .i64 a0, .slice Ao29 y142.length co29] (0, 0) _ rfl (by (with_reducible repeat (first | refine blk_drewN ?_ _ | refine blk_drew ?_ | refine blk_alloc ?_ _)); refine blk_put (cs := #[.int .i64 a0, .slice none 0 0]) ?_ 1 _ rfl; (with_reducible repeat (first | refine blk_drewN ?_ _ | refine blk_drew ?_ | refine blk_alloc ?_ _)); refine blk_put (cs := #[.int .i64 0, .slice none 0 0]) ?_ 0 _ rfl; (with_reducible repeat (first | refine blk_drewN ?_ _ | refine blk_drew ?_ | refine blk_alloc ?_ _)); exact BK138.out) Try.underlying48 rfl (by kernel_rfl)) rfl ?_; (exact ⟨_, by first | rfl | (simp [errW_none, errW_some] <;> rfl) | (simp [*, errW_none, errW_some] <;> rfl), by (with_reducible repeat (first | apply Kd.R_alloc | apply Kd.R_drewN | apply Kd.R_drew)); exact Kd.R_mono (Kd.R_far (p := ⟨gb138, 1, none⟩) (Kd.R_far (p := ⟨gb138, 0, none⟩) (Kd.R_types HO144.out BK138.out (by decide)) (fun _ hk => hk.2) (.int .i64 a0)) (fun _ hk => hk.2) (.slice Ao29 y142.length co29)) (fun _ hk => trivial), by repeat (first | (with_reducible first | exact HB.out | apply below_alloc | apply pw_below_drewN | apply below_drew1 | refine below_set ?_ GE138.out) | exact HB.out)⟩)); (· rw [if_neg c25] at H; exact absurd H (by simp))); (· rw [if_neg c24] at H; exact absurd H (by simp))))); (· rw [if_neg c17] at H; have c17b0 : (a0 == 1) = false := beq_eq_false_iff_ne.mpr c17; have c17b1 : (a0 != 1) = true := bne_iff_ne.mpr c17; simp only [Option.some.injEq, Prod.mk.injEq] at H; obtain ⟨rfl, rfl, rfl⟩ := H; go_enter Try.func14, Try.ntmps14; go_wp2_with (first | ((with_reducible refine gate_dst (N := 4) rfl ?_); refine box_event ?hg (N := 4) ?hd (cs := #[.int .i64 0, .slice none 0 0]) (t := 48) ?hr ?_; (case hd => rfl); (case hg => rfl); (case hr => first | (go_simp; done) | (go_simp; rfl)); intro gb138 hg w31 hbox hb; have n0_ := A' (below_step (by repeat (first | (with_reducible first | exact HB.out | apply below_alloc | apply pw_below_drewN | apply below_drew1) | exact HB.out)) hb); have n1_ := A' (hbox); have n2_ := A' ((by rw [hg]; exact (below_size (by repeat (first | (with_reducible first | exact HB.out | apply below_alloc | apply pw_below_drewN | apply below_drew1) | exact HB.out))) : w.heap.size ≤ gb138)); have n3_ := A' ((by rw [hg]; exact (below_size (by repeat (first | (with_reducible first | exact HB.out | apply below_alloc | apply pw_below_drewN | apply below_drew1) | exact HB.out))) : w.heap.size ≤ gb138)); clear HB; have HB := n0_; have BK138 := n1_; have GW138 := n2_; have GE138 := n3_; clear n0_ n1_ n2_ n3_; clear hb hbox hg; have hcz32_0 : w31.cell? ⟨gb138, 0, none⟩ = some (.int .i64 0) := (blk_cell BK138.out 0).trans rfl; have hcz32_1 : w31.cell? ⟨gb138, 1, none⟩ = some (.slice none 0 0) := (blk_cell BK138.out 1).trans rfl; have hfz32_0 := blk_frozen BK138.out 0; have hfz32_1 := blk_frozen BK138.out 1)); refine bodyPost_ret (results_ct rfl _ _ gb138 48 #[.int .i64 0, .slice none 0 0] (0, 0) _ rfl (by (with_reducible repeat (first | refine blk_drewN ?_ _ | refine blk_drew ?_ | refine blk_alloc ?_ _)); refine blk_put (cs := #[.int .i64 0, .slice none 0 0]) ?_ 1 _ rfl; (with_reducible repeat (first | refine blk_drewN ?_ _ | refine blk_drew ?_ | refine blk_alloc ?_ _)); refine blk_put (cs := #[.int .i64 0, .slice none 0 0]) ?_ 0 _ rfl; (with_reducible repeat (first | refine blk_drewN ?_ _ | refine blk_drew ?_ | refine blk_alloc ?_ _)); exact BK138.out) Try.underlying48 rfl (by kernel_rfl)) rfl ?_; (exact ⟨_, by first | rfl | (simp [errW_none, errW_some] <;> rfl) | (simp [*, errW_none, errW_some] <;> rfl), by first | exact Kd.R_nil _ _ _ _ _ | exact Kd.N_nil _ _ _ _ _ | exact Kd.V_nil _ _ _ _ _ | exact Kd.Q_nil _ _ _ _ _ | exact Kd.S_nil _ _ _ _ _, by repeat (first | (with_reducible first | exact HB.out | apply below_alloc | apply pw_below_drewN | apply below_drew1 | refine below_set ?_ GE138.out) | exact HB.out)⟩)))
end Go.Proofs.Ytmndieohblpgaaa.U
namespace Go.Proofs.Ytmndieohblpgaaa.Mod
open Go Go.RowKit YtmndieohblpgaaaW PrintWords PrintLast PrintMore Aid HandAid Cod1 Cod2 U
instance (kind s : Int) : Decidable (okState kind s) := by unfold okState; infer_instance
/-- A model that is one. -/
def okModel (kind : Int) (st : List Int) : Prop := (kind = 0 ∨ kind = 1) ∧ st.length ≤ 8192 ∧ ∀ s ∈ st, okState kind s
instance (kind : Int) (st : List Int) : Decidable (okModel kind st) := by unfold okModel; infer_instance
theorem okState_iff (kind s : Int) (hk : kind = 0 ∨ kind = 1) : okState kind s ↔ 0 ≤ s ∧ s < (if kind = 1 then 65536 else 64) := by
 unfold okState
 rcases hk with rfl | rfl <;> simp
def allIn (e : Int) (l : List Int) : Bool := l.all fun s => decide (0 ≤ s) && decide (s < e)
theorem allIn_iff (e : Int) (l : List Int) : allIn e l = true ↔ ∀ s ∈ l, 0 ≤ s ∧ s < e := by simp [allIn]
theorem allIn_from (e : Int) (st : List Int) (i : Nat) (h : i < st.length) : allIn e (st.drop i) = ((decide (0 ≤ rd st i) && decide (rd st i < e)) && allIn e (st.drop (i + 1))) := by
 rw [drop_rd h]
 rfl
theorem valid_loop (st : List Int) (hn : st.length ≤ 8192) (e : Int) : ∀ (d i : Nat), i + d = st.length → Ev (fun k => coder_Valid.l0 k e st (st.length : Int) (i : Int)) (allIn e (st.drop i))
 | 0, i, hd => by
   refine ev_succ ?_
   simp only [coder_Valid.l0]
   refine ev_eq (ev_neg (by omega) (Ev.now _)) ?_
   rw [List.drop_of_length_le (by omega)]
   rfl
 | d + 1, i, hd => by
   refine ev_succ ?_
   simp only [coder_Valid.l0]
   simp (disch := omega) only [wrap_id]
   refine ev_pos (by omega) (ev_pos (by omega) (ev_pos (by omega) ?_))
   rw [allIn_from e st i (by omega)]
   by_cases c : rd st i < 0
   · exact ev_eq (ev_pos c (Ev.now _)) (by rw [decide_eq_false (show ¬ 0 ≤ rd st (i : Int) by omega)]; rfl)
   refine ev_neg c ?_
   by_cases c2 : rd st i ≥ e
   · exact ev_eq (ev_pos c2 (Ev.now _)) (by rw [decide_eq_false (show ¬ rd st (i : Int) < _ by omega), Bool.and_false]; rfl)
   refine ev_neg c2 (ev_eq (valid_loop st hn e d (i + 1) (by omega)) ?_)
   rw [decide_eq_true (show 0 ≤ rd st (i : Int) by omega), decide_eq_true (show rd st (i : Int) < _ by omega)]
   rfl
theorem valid_ev (kind : Int) (st : List Int) : Ev (fun k => coder_Valid.f k kind st) (decide (okModel kind st)) := by
 have hj : ∀ b, (b = false → (kind = 0 ∨ kind = 1) ∧ st.length ≤ 8192) → (b = true → ¬ okModel kind st) → Ev (fun k => coder_Valid.j0 k b kind st) (decide (okModel kind st)) := by
  intro b h1 h2
  refine ev_succ ?_
  simp only [coder_Valid.j0]
  cases b with
  | true => exact ev_eq (ev_pos (by simp) (Ev.now _)) (by simp [h2 rfl])
  | false =>
    obtain ⟨hk, hl⟩ := h1 rfl
    refine ev_neg (by simp) ?_
    have e2 : ∀ e : Int, e = (if kind = 1 then 65536 else 64) → allIn e (st.drop 0) = decide (okModel kind st) := by
     intro e he
     rw [Bool.eq_iff_iff, allIn_iff, decide_eq_true_eq]
     unfold okModel
     constructor
     · exact fun h => ⟨hk, hl, fun s hs => (okState_iff kind s hk).2 (he ▸ h s hs)⟩
     · exact fun h s hs => he ▸ (okState_iff kind s hk).1 (h.2.2 s hs)
    by_cases c : kind = 1
    · refine ev_pos c (ev_succ ?_)
      simp only [coder_Valid.j1]
      exact ev_eq (valid_loop st hl 65536 st.length 0 (by omega)) (e2 _ (by rw [if_pos c]))
    · refine ev_neg c (ev_succ ?_)
      simp only [coder_Valid.j1]
      exact ev_eq (valid_loop st hl 64 st.length 0 (by omega)) (e2 _ (by rw [if_neg c]))
 unfold coder_Valid.f
 by_cases c0 : kind = 0
 · exact ev_pos c0 (hj _ (fun h => ⟨.inl c0, by simp at h; omega⟩) (fun h hm => by have := hm.2.1; simp at h; omega))
 refine ev_neg c0 ?_
 by_cases c1 : kind = 1
 · exact ev_pos c1 (hj _ (fun h => ⟨.inr c1, by simp at h; omega⟩) (fun h hm => by have := hm.2.1; simp at h; omega))
 exact ev_neg c1 (hj _ (fun h => by simp at h) (fun _ hm => by rcases hm.1 with h | h <;> omega))
theorem valid_calls (A : Option Addr) (c : Nat) (kind : Int) (st : List Int) (w : World) (hC : Kd.C (Kd.int .i64) w A st.length st) (hc : st.length ≤ c) :
 Calls Try.prog 22 #[.agg #[.int .i64 kind, .slice A st.length c]] w fun e w' => e = .returned (.bool (decide (okModel kind st))) ∧ Below w.heap.size w w' := by
 obtain ⟨k, h⟩ := Ev.rounds (valid_ev kind st)
 exact coder_Valid.calls k kind A c st _ w hC hc h
theorem clone_calls (A : Option Addr) (c : Nat) (kind : Int) (st : List Int) (w : World) (hC : Kd.C (Kd.int .i64) w A st.length st) (hc : st.length ≤ c) (hl : st.length ≤ 1000000) :
 Calls Try.prog 30 #[.agg #[.int .i64 kind, .slice A st.length c]] w fun e w' => ∃ A' c', e = .returned (.agg #[.int .i64 kind, .slice A' st.length c']) ∧ Kd.R (Kd.int .i64) 3 w' w.heap.size (fun _ => True) (.slice A' st.length c') st ∧ Below w.heap.size w w' := by
 refine (coder_clone.calls kind A c st kind st w hC hc ?_).mono ?_
 · unfold coder_clone.f
   simp only [Option.bind_some, List.nil_append, List.length_nil]
   rw [if_pos (by omega)]
 · rintro e w' ⟨v, rfl, hR, hb⟩
   obtain ⟨A', c', rfl⟩ := Kd.R_slice hR
   exact ⟨A', c', rfl, hR, hb⟩
/-- New's model: its kind, its states, its error. -/
def newModel (kind n : Int) : Int × List Int × Int := if (kind = 0 ∨ kind = 1) ∧ 0 ≤ n ∧ n ≤ 8192 then (kind, List.replicate n.toNat 0, 0) else (0, [], 2)
theorem new_eq (kind n : Int) : coder_New.f kind n = some (newModel kind n) := by
 unfold coder_New.f newModel
 by_cases c0 : kind = 0
 · rw [if_pos c0]
   by_cases h1 : n < 0
   · rw [if_pos h1, if_neg (by omega)]
   rw [if_neg h1]
   by_cases h2 : n > 8192
   · rw [if_pos h2, if_neg (by omega)]
   rw [if_neg h2, if_pos (by omega), if_pos (by omega), if_pos ⟨.inl c0, by omega, by omega⟩]
 rw [if_neg c0]
 by_cases c1 : kind = 1
 · rw [if_pos c1]
   by_cases h1 : n < 0
   · rw [if_pos h1, if_neg (by omega)]
   rw [if_neg h1]
   by_cases h2 : n > 8192
   · rw [if_pos h2, if_neg (by omega)]
   rw [if_neg h2, if_pos (by omega), if_pos (by omega), if_pos ⟨.inr c1, by omega, by omega⟩]
 rw [if_neg c1, if_neg (by omega)]
theorem new_calls (kind n : Int) (w : World) : Calls Try.prog 14 #[.int .i64 kind, .int .i64 n] w fun e w' => ∃ A c, e = .returned (.tuple #[.agg #[.int .i64 (newModel kind n).1, .slice A (newModel kind n).2.1.length c], .int .i64 (newModel kind n).2.2]) ∧ Kd.R (Kd.int .i64) 3 w' w.heap.size (fun _ => True) (.slice A (newModel kind n).2.1.length c) (newModel kind n).2.1 ∧ Below w.heap.size w w' := by
 refine (coder_New.calls kind n _ _ _ w (new_eq kind n)).mono ?_
 rintro e w' ⟨v, rfl, hR, hb⟩
 obtain ⟨A', c', rfl⟩ := Kd.R_slice hR
 exact ⟨A', c', rfl, hR, hb⟩
theorem new_ok (kind n : Int) (h : (newModel kind n).2.2 = 0) : okModel (newModel kind n).1 (newModel kind n).2.1 := by
 unfold newModel at h ⊢
 by_cases c : (kind = 0 ∨ kind = 1) ∧ 0 ≤ n ∧ n ≤ 8192
 · rw [if_pos c]
   refine ⟨c.1, by simp; omega, fun s hs => ?_⟩
   have h0 := List.eq_of_mem_replicate hs
   subst h0
   unfold okState
   omega
 · rw [if_neg c] at h
   simp at h
end Go.Proofs.Ytmndieohblpgaaa.Mod
namespace Go.Proofs.Ytmndieohblpgaaa.Enc
open Go Go.RowKit YtmndieohblpgaaaW PrintWords PrintLast PrintMore Aid HandAid Cod1 Cod2 Cod3 Ytmndieohblpgaaa.Mod
def z36 : Array Value := #[.int .i64 0, .slice none 0 0, .int .i64 0, .int .i64 0, .int .i64 0, .int .i64 0, .int .i64 0, .int .i64 0, .int .i64 0, .int .i64 0, .int .i64 0, .int .i64 0, .int .i64 0, .int .i64 0, .int .i64 0, .int .i64 0, .int .i64 0, .int .i64 0, .int .i64 0, .int .i64 0, .int .i64 0, .int .i64 0, .int .i64 0, .int .i64 0, .int .i64 0, .int .i64 0, .int .i64 0, .int .i64 0, .int .i64 0, .int .i64 0, .int .i64 0, .int .i64 0, .int .i64 0, .int .i64 0, .int .u64 0, .int .u64 0]
theorem z36_def : z36 = #[.int .i64 0, .slice none 0 0, .int .i64 0, .int .i64 0, .int .i64 0, .int .i64 0, .int .i64 0, .int .i64 0, .int .i64 0, .int .i64 0, .int .i64 0, .int .i64 0, .int .i64 0, .int .i64 0, .int .i64 0, .int .i64 0, .int .i64 0, .int .i64 0, .int .i64 0, .int .i64 0, .int .i64 0, .int .i64 0, .int .i64 0, .int .i64 0, .int .i64 0, .int .i64 0, .int .i64 0, .int .i64 0, .int .i64 0, .int .i64 0, .int .i64 0, .int .i64 0, .int .i64 0, .int .i64 0, .int .u64 0, .int .u64 0] := rfl
/-- An interval's cells. -/
def iv36 (kind : Int) (v : Value) (low high : Int) : Array Value := #[.int .i64 kind, v, .int .i64 2048, .int .i64 1792, .int .i64 1568, .int .i64 1372, .int .i64 1201, .int .i64 1051, .int .i64 920, .int .i64 805, .int .i64 705, .int .i64 617, .int .i64 540, .int .i64 473, .int .i64 414, .int .i64 363, .int .i64 318, .int .i64 279, .int .i64 245, .int .i64 215, .int .i64 189, .int .i64 166, .int .i64 146, .int .i64 128, .int .i64 112, .int .i64 98, .int .i64 86, .int .i64 76, .int .i64 67, .int .i64 59, .int .i64 52, .int .i64 46, .int .i64 41, .int .i64 36, .int .u64 low, .int .u64 high]
theorem iv36_size (kind : Int) (v : Value) (low high : Int) : (iv36 kind v low high).size = 36 := rfl
theorem info36 (kind : Int) (v : Value) (low high : Int) : (Try.prog.info? 67).map (·.size) = some (iv36 kind v low high).size := by rw [iv36_size]; kernel_rfl
theorem one36 (kind : Int) (A : Option Addr) (n c : Nat) (low high : Int) : (iv36 kind (.slice A n c) low high).all (·.oneCell') = true := by simp [iv36, Value.oneCell']
set_option maxHeartbeats 1000000 in
set_option maxRecDepth 100000 in
theorem begin_calls (A : Option Addr) (c : Nat) (kind : Int) (st : List Int) (w : World) (hC : Kd.C (Kd.int .i64) w A st.length st) (hc : st.length ≤ c) (hl : st.length ≤ 1000000) :
 Calls Try.prog 23 #[.agg #[.int .i64 kind, .slice A st.length c]] w fun e w' => ∃ A' c', e = .returned (.agg (iv36 kind (.slice A' st.length c') 0 4294967295)) ∧ Kd.R (Kd.int .i64) 3 w' w.heap.size (fun _ => True) (.slice A' st.length c') st ∧ Below w.heap.size w w' := by
 have HC := A' hC
 clear hC
 go_enter Try.func23, Try.ntmps23
 go_wp2_with (fail)
 rw [← z36_def]
 have hb0 := A' (below_alloc (below_alloc (Below.refl w.heap.size w) (.cells #[.int .i64 kind, .slice A st.length c] 48)) (.cells z36 67))
 have hb1 : Aside0 (((w.alloc (.cells #[.int .i64 kind, .slice A st.length c] 48)).alloc (.cells z36 67)).heap[w.heap.size + 1]? = some (.cells z36 67 (0, 0))) := ⟨by
  have h := heap_new (w.alloc (.cells #[.int .i64 kind, .slice A st.length c] 48)) (.cells z36 67)
  rw [World.size_alloc] at h
  exact h⟩
 generalize ((w.alloc (.cells #[.int .i64 kind, .slice A st.length c] 48)).alloc (.cells z36 67)) = W2 at hb0 hb1 ⊢
 refine (clone_calls A c kind st _ (Kd.C_below HC.out hb0.out) hc hl).mono ?_
 rintro e w1 ⟨A1, c1, rfl, hR, hB⟩
 have HR := A' hR
 have HB := A' hB
 have HB2 := A' (below_then hb0.out hb0.out.size hB)
 have hq1 : Aside0 (w1.heap[w.heap.size + 1]? = some (.cells z36 67 (0, 0))) := ⟨(hB.block _ (blk_lt hb1.out)).trans hb1.out⟩
 have HB2' : Aside0 (w.heap.size ≤ W2.heap.size) := ⟨hb0.out.size⟩
 clear hR hB hb1
 go_wp2_with (first
  | (go_at_call 31; refine (chances_calls _).mono ?_; rintro e w2 ⟨rfl, hB⟩; rw [qtab_lit]; have HB3 := A' (below_then HB2.out HB2.out.size hB); have HR3' := Kd.R_below HR.out hB; have hq2 : Aside0 (w2.heap[w.heap.size + 1]? = some (.cells z36 67 (0, 0))) := ⟨(hB.block _ (blk_lt hq1.out)).trans hq1.out⟩; have HR3 := A' (Kd.R_types HR3' hq2.out (by decide)); clear hB HR3')
  | (with_reducible refine wpList_store_row rfl _ _ _ rfl _ (iv36 kind (.slice A1 st.length c1) 0 4294967295) rfl rfl _ _ hq2.out (info36 _ _ _ _) rfl (one36 _ _ _ _ _ _) ?_))
 have hrow := setRow_heap w2 (w.heap.size + 1) z36 (iv36 kind (.slice A1 st.length c1) 0 4294967295) 67 (0, 0) hq2.out
 have hR4 := Kd.R_lower (Kd.R_step HR3.out (w1 := w2.setRow (w.heap.size + 1) (iv36 kind (.slice A1 st.length c1) 0 4294967295)) fun k hk hlt => setRow_other _ _ _ _ hk.2) HB2'.out
 exact bodyPost_ret (v := .agg (iv36 kind (.slice A1 st.length c1) 0 4294967295)) (results_cell_row rfl _ _ (w.heap.size + 1) 67 _ _ _ rfl hrow Try.underlying67 rfl (info36 _ _ _ _)) rfl ⟨A1, c1, rfl, Kd.R_mono hR4 (fun _ _ => trivial), below_setRow HB3.out (Nat.le_succ _) _⟩
/-- An encoder's cells. -/
def enc38 (kind : Int) (v : Value) (low high : Int) (o : Value) (real : Bool) : Array Value := #[.int .i64 kind, v, .int .i64 2048, .int .i64 1792, .int .i64 1568, .int .i64 1372, .int .i64 1201, .int .i64 1051, .int .i64 920, .int .i64 805, .int .i64 705, .int .i64 617, .int .i64 540, .int .i64 473, .int .i64 414, .int .i64 363, .int .i64 318, .int .i64 279, .int .i64 245, .int .i64 215, .int .i64 189, .int .i64 166, .int .i64 146, .int .i64 128, .int .i64 112, .int .i64 98, .int .i64 86, .int .i64 76, .int .i64 67, .int .i64 59, .int .i64 52, .int .i64 46, .int .i64 41, .int .i64 36, .int .u64 low, .int .u64 high, o, .bool real]
/-- An encoder at block g, its rows within own. -/
structure IsEnc (W : World) (own : Nat → Prop) (base g : Nat) (kind : Int) (st : List Int) (low high : Int) (out : List Int) : Prop where
 ex : ∃ A n c vo, W.heap[g]? = some (.cells (enc38 kind (.slice A n c) low high vo true) 70 (0, 0)) ∧ Kd.R (Kd.int .i64) 3 W base own (.slice A n c) st ∧ Kd.R (Kd.int .u8) 5 W base own vo out
 og : own g
 bg : base ≤ g
 ok : okModel kind st
 l0 : 0 ≤ low
 lh : low / 16777216 ≠ high / 16777216
 le : low ≤ high
 h1 : high ≤ 4294967295
set_option maxHeartbeats 1000000 in
set_option maxRecDepth 100000 in
theorem newenc_calls (A : Option Addr) (c : Nat) (kind : Int) (st : List Int) (w : World) (hC : Kd.C (Kd.int .i64) w A st.length st) (hc : st.length ≤ c) (hm : okModel kind st) :
 Calls Try.prog 15 #[.agg #[.int .i64 kind, .slice A st.length c]] w fun e w' => ∃ g, e = .returned (.tuple #[.pointer (some ⟨g, 0, none⟩), .int .i64 0]) ∧ IsEnc w' (fun k => w.heap.size ≤ k ∧ k < w'.heap.size) w.heap.size g kind st 0 4294967295 [] ∧ Below w.heap.size w w' := by
 have HC := A' hC
 have hv := valid_calls A c kind st
 rw [decide_eq_true hm] at hv
 have HV := A' hv
 have HM := A' hm
 have hl := hm.2.1
 clear hC hv hm
 have hb0 := A' (below_alloc (Below.refl w.heap.size w) (.cells #[.int .i64 kind, .slice A st.length c] 48))
 have hq0 : Aside0 ((w.alloc (.cells #[.int .i64 kind, .slice A st.length c] 48)).heap[w.heap.size]? = some (.cells #[.int .i64 kind, .slice A st.length c] 48 (0, 0))) := ⟨heap_new _ _⟩
 go_enter Try.func15, Try.ntmps15
 go_wp2_with (first
  | (go_at_call 22; refine (HV.out _ (Kd.C_below HC.out hb0.out) hc).mono ?_; rintro e w1 ⟨rfl, hB⟩; have HB := A' (below_then hb0.out hb0.out.size hB); have hq1 : Aside0 (w1.heap[w.heap.size]? = some (.cells #[.int .i64 kind, .slice A st.length c] 48 (0, 0))) := ⟨(hB.block _ (blk_lt hq0.out)).trans hq0.out⟩; have k0 : w1.cell? ⟨w.heap.size, 0, none⟩ = some (.int .i64 kind) := (blk_cell hq1.out 0).trans rfl; have k1 : w1.cell? ⟨w.heap.size, 1, none⟩ = some (.slice A st.length c) := (blk_cell hq1.out 1).trans rfl; clear hB)
  | (go_at_call 23; refine (begin_calls A c kind st _ (Kd.C_below HC.out HB.out) hc (by omega)).mono ?_; rintro e w2 ⟨A2, c2, rfl, hR, hB⟩; have HB2 := A' (below_then HB.out HB.out.size hB); have HR := A' (Kd.R_lower hR HB.out.size); clear hR hB; unfold iv36))
 go_ret2
 refine ⟨w2.heap.size, rfl, ⟨⟨A2, st.length, c2, .slice none 0 0, heap_new w2 (.cells (enc38 kind (.slice A2 st.length c2) 0 4294967295 (.slice none 0 0) true) 70), ?_, Kd.R_nil _ _ _ _ _⟩, ⟨HB2.out.size, by simp⟩, HB2.out.size, HM.out, by omega, by decide, by omega, by omega⟩, below_alloc HB2.out _⟩
 exact Kd.R_mono (Kd.R_alloc (Kd.R_bound HR.out) _) (fun k hk => ⟨hk.2.1, by have := hk.2.2.1; simp; omega⟩)
theorem enc_none (w : World) (g : Nat) (real : Bool) (h2 : w.cell? ⟨g, 37, none⟩ = some (.bool real)) : Calls Try.prog 27 #[.pointer (some ⟨g, 0, none⟩)] w fun e w' => e = .returned (.bool (!real)) ∧ w = w' := by
 go_enter Try.func27, Try.ntmps27
 go_wp2
 go_ret
 exact ⟨rfl, rfl⟩
theorem enc_put_arg (w : World) (g : Nat) (A : Option Addr) (n c : Nat) (i b : Int) (h1 : w.cell? ⟨g, 1, none⟩ = some (.slice A n c)) (h2 : w.cell? ⟨g, 37, none⟩ = some (.bool true)) (hbad : i < 0 ∨ n ≤ i ∨ (b ≠ 0 ∧ b ≠ 1)) :
 Calls Try.prog 24 #[.pointer (some ⟨g, 0, none⟩), .int .i64 i, .int .i64 b] w fun e w' => e = .returned (.int .i64 2) ∧ w = w' := by
 by_cases c1 : i < 0
 · go_enter Try.func24, Try.ntmps24
   go_wp2_with (go_at_call 27; refine (enc_none _ _ _ h2).mono ?_; rintro e w' ⟨rfl, rfl⟩)
   go_ret
   exact ⟨rfl, rfl⟩
 by_cases c2 : (n : Int) ≤ i
 · go_enter Try.func24, Try.ntmps24
   go_wp2_with (go_at_call 27; refine (enc_none _ _ _ h2).mono ?_; rintro e w' ⟨rfl, rfl⟩)
   go_ret
   exact ⟨rfl, rfl⟩
 have hb0 : b ≠ 0 := by rcases hbad with h | h | h <;> omega
 have hb1 : b ≠ 1 := by rcases hbad with h | h | h <;> omega
 have e0 : (b != 0) = true := by simpa using hb0
 have e1 : (b != 1) = true := by simpa using hb1
 go_enter Try.func24, Try.ntmps24
 go_wp2_with (go_at_call 27; refine (enc_none _ _ _ h2).mono ?_; rintro e w' ⟨rfl, rfl⟩)
 go_ret
 exact ⟨rfl, rfl⟩
/-- The bytes that an interval loses, and what it becomes. -/
def normE : Nat → Int → Int → List Int × Int × Int
 | 0, l, h => ([], l, h)
 | d + 1, l, h => if l / 16777216 = h / 16777216 then (l / 16777216 :: (normE d (l % 16777216 * 256) (h % 16777216 * 256 + 255)).1, (normE d (l % 16777216 * 256) (h % 16777216 * 256 + 255)).2) else ([], l, h)
/-- How many bytes an interval can still lose: it is whole behind four. -/
theorem norm_done : ∀ (d : Nat) (l h : Int), 0 ≤ l → l ≤ h → h ≤ 4294967295 → (h - l + 1) * 256 ^ d ≥ 4294967296 → (normE d l h).2.1 / 16777216 ≠ (normE d l h).2.2 / 16777216 ∧ 0 ≤ (normE d l h).2.1 ∧ (normE d l h).2.1 ≤ (normE d l h).2.2 ∧ (normE d l h).2.2 ≤ 4294967295
 | 0, l, h, h0, h1, h2, hd => by
   simp only [Int.pow_zero, Int.mul_one] at hd
   refine ⟨?_, h0, h1, h2⟩
   show l / 16777216 ≠ h / 16777216
   omega
 | d + 1, l, h, h0, h1, h2, hd => by
   unfold normE
   by_cases c : l / 16777216 = h / 16777216
   · rw [if_pos c]
     refine norm_done d _ _ (by omega) (by omega) (by omega) ?_
     rw [show h % 16777216 * 256 + 255 - l % 16777216 * 256 + 1 = (h - l + 1) * 256 by omega, Int.mul_assoc, Int.mul_comm 256, ← Int.pow_succ]
     exact hd
   · rw [if_neg c]
     exact ⟨c, h0, h1, h2⟩
end Go.Proofs.Ytmndieohblpgaaa.Enc
namespace Go.Proofs.Ytmndieohblpgaaa.Mods
open Go Go.RowKit YtmndieohblpgaaaW PrintWords PrintLast PrintMore Aid HandAid
/-- From w to W nothing has turned but the blocks of S, and what is new. -/
structure Mods (w W : World) (S : Nat → Prop) : Prop where
 os : W.os = w.os
 tape : W.tape = w.tape
 output : W.output = w.output
 size : w.heap.size ≤ W.heap.size
 block : ∀ i, i < w.heap.size → ¬ S i → W.heap[i]? = w.heap[i]?
section
variable {w W W2 : World} {S S2 S' : Nat → Prop}
theorem Mods.refl (w : World) (S : Nat → Prop) : Mods w w S := ⟨rfl, rfl, rfl, Nat.le_refl _, fun _ _ _ => rfl⟩
theorem Mods.kept (h : Mods w W S) : Kept w W S := ⟨h.size, h.block⟩
theorem Mods.of_below (h : Below w.heap.size w W) (S : Nat → Prop) : Mods w W S := ⟨h.os, h.tape, h.output, h.size, fun i hi _ => h.block i hi⟩
theorem Mods.mono (h : Mods w W S) (hs : ∀ k, S k → S' k) : Mods w W S' := ⟨h.os, h.tape, h.output, h.size, fun i hi hn => h.block i hi (fun hk => hn (hs i hk))⟩
theorem Mods.then_ (h : Mods w W S) (k : Mods W W2 S2) (hs : ∀ k, S2 k → S k ∨ w.heap.size ≤ k) : Mods w W2 S :=
 ⟨k.os.trans h.os, k.tape.trans h.tape, k.output.trans h.output, Nat.le_trans h.size k.size, fun i hi hn => (k.block i (Nat.lt_of_lt_of_le hi h.size) (fun h2 => (hs i h2).elim hn (fun h3 => by omega))).trans (h.block i hi hn)⟩
theorem Mods.of_grown {row : Option Nat} (hg : W.grownBy W2 row) (h : Mods w W S) (hr : ∀ k, row = some k → S k ∨ w.heap.size ≤ k) : Mods w W2 S :=
 h.then_ (S2 := fun k => row = some k) ⟨hg.os, hg.tape, hg.output, hg.size, fun i hi hn => hg.block i hi (fun he => hn he.symm)⟩ hr
theorem Mods.below (h : Mods w W S) (hb : Below W.heap.size W W2) : Mods w W2 S := h.then_ (Mods.of_below hb (fun _ => False)) (fun _ hk => hk.elim)
theorem Mods.alloc (h : Mods w W S) (o : Obj) : Mods w (W.alloc o) S := h.below (below_alloc (Below.refl _ _) o)
theorem Mods.drew (h : Mods w W S) : Mods w W.drew S := h.below (below_drew (Below.refl _ _))
theorem Mods.drewN (h : Mods w W S) (m : Nat) : Mods w (W.drewN m) S := h.below (pw_below_drewN (Below.refl _ _) m)
theorem Mods.setCell (h : Mods w W S) {p : Addr} (hp : S p.block ∨ w.heap.size ≤ p.block) (u : Value) : Mods w (W.setCell p u) S :=
 h.then_ (S2 := fun k => k = p.block) ⟨rfl, rfl, rfl, by simp [World.setCell], fun i _ hn => Below.heap_setCell W p u i hn⟩ (fun k hk => by rw [hk]; exact hp)
/-- What turns lies from B on. -/
theorem Mods.toBelow {B : Nat} (h : Mods w W S) (hs : ∀ k, S k → B ≤ k) (hB : B ≤ w.heap.size) : Below B w W :=
 ⟨h.os, h.tape, h.output, h.size, fun i hi => h.block i (by omega) (fun hk => by have := hs i hk; omega)⟩
theorem below_mods {B : Nat} {w0 : World} (hb : Below B w0 w) (h : Mods w W S) (hs : ∀ k, S k → B ≤ k) (hB : B ≤ w.heap.size) : Below B w0 W := hb.trans (h.toBelow hs hB)
theorem blk_mods {g : Nat} {o : Obj} (hb : w.heap[g]? = some o) (h : Mods w W S) (hne : ¬ S g) : W.heap[g]? = some o := (h.block g (blk_lt hb) hne).trans hb
end
end Go.Proofs.Ytmndieohblpgaaa.Mods
namespace Go.Proofs.Ytmndieohblpgaaa.EncAt
open Go Go.RowKit YtmndieohblpgaaaW PrintWords PrintLast PrintMore Aid HandAid Cod1 Cod2 Cod3 Ytmndieohblpgaaa.Mod Enc Mods
theorem qlist : qpart 32 = [.int .i64 2048, .int .i64 1792, .int .i64 1568, .int .i64 1372, .int .i64 1201, .int .i64 1051, .int .i64 920, .int .i64 805, .int .i64 705, .int .i64 617, .int .i64 540, .int .i64 473, .int .i64 414, .int .i64 363, .int .i64 318, .int .i64 279, .int .i64 245, .int .i64 215, .int .i64 189, .int .i64 166, .int .i64 146, .int .i64 128, .int .i64 112, .int .i64 98, .int .i64 86, .int .i64 76, .int .i64 67, .int .i64 59, .int .i64 52, .int .i64 46, .int .i64 41, .int .i64 36] := by rfl
/-- What cells 2 to 33 of a block tell. -/
theorem range_of {W : World} {g : Nat} {t : TypeId} {a b : Value} {r : List Value} (h : W.heap[g]? = some (.cells (a :: b :: (qpart 32 ++ r)).toArray t (0, 0))) : W.rangeAt g 2 (qpart 32) := by
 intro j v hj
 have h1 := blk_cell h (2 + j)
 rw [h1, show 2 + j = j + 1 + 1 by omega, List.getElem?_toArray, List.getElem?_cons_succ, List.getElem?_cons_succ, List.getElem?_append_left (List.getElem?_eq_some_iff.1 hj).1]
 exact hj
structure EncRow (W : World) (S : Nat → Prop) (g : Nat) (kind : Int) (A : Option Addr) (c : Nat) (st : List Int) (low high : Int) (vo : Value) (out : List Int) : Prop where
 b : W.heap[g]? = some (.cells (enc38 kind (.slice A st.length c) low high vo true) 70 (0, 0))
 s : Kd.R (Kd.int .i64) 3 W 0 S (.slice A st.length c) st
 o : Kd.R (Kd.int .u8) 5 W 0 S vo out
 g : S g
section
variable {W W' : World} {S S' : Nat → Prop} {g : Nat} {kind : Int} {A : Option Addr} {c : Nat} {st : List Int} {low high : Int} {vo : Value} {out : List Int}
theorem EncRow.kept (h : EncRow W S g kind A c st low high vo out) (hk : Mods W W' S') (hne : ∀ k, S k → ¬ S' k) : EncRow W' S g kind A c st low high vo out :=
 ⟨blk_kept h.b hk.kept (hne g h.g), Kd.R_kept h.s hk.kept hne, Kd.R_kept h.o hk.kept hne, h.g⟩
theorem EncRow.below (h : EncRow W S g kind A c st low high vo out) (hb : Below W.heap.size W W') : EncRow W' S g kind A c st low high vo out :=
 ⟨blk_below h.b hb, Kd.R_below h.s hb, Kd.R_below h.o hb, h.g⟩
theorem EncRow.drewN (h : EncRow W S g kind A c st low high vo out) (m : Nat) : EncRow (W.drewN m) S g kind A c st low high vo out := h.below (pw_below_drewN (Below.refl _ _) m)
theorem EncRow.drew (h : EncRow W S g kind A c st low high vo out) : EncRow W.drew S g kind A c st low high vo out := h.below (below_drew (Below.refl _ _))
theorem EncRow.mono (h : EncRow W S g kind A c st low high vo out) (hs : ∀ k, S k → S' k) : EncRow W S' g kind A c st low high vo out :=
 ⟨h.b, Kd.R_mono h.s hs, Kd.R_mono h.o hs, hs g h.g⟩
theorem EncRow.bound (h : EncRow W S g kind A c st low high vo out) : EncRow W (fun k => S k ∧ k < W.heap.size) g kind A c st low high vo out :=
 ⟨h.b, Kd.R_mono (Kd.R_bound h.s) (fun _ hk => ⟨hk.1, hk.2.2.1⟩), Kd.R_mono (Kd.R_bound h.o) (fun _ hk => ⟨hk.1, hk.2.2.1⟩), h.g, blk_lt h.b⟩
theorem EncRow.iv (h : EncRow W S g kind A c st low high vo out) : Iv W g kind A st.length c low high :=
 ⟨(blk_cell h.b 0).trans rfl, (blk_cell h.b 1).trans rfl, range_of (r := [.int .u64 low, .int .u64 high, vo, .bool true]) (by rw [qlist]; exact h.b), (blk_cell h.b 34).trans rfl, (blk_cell h.b 35).trans rfl, fun i => blk_frozen h.b i⟩
theorem EncRow.real (h : EncRow W S g kind A c st low high vo out) : W.cell? ⟨g, 37, none⟩ = some (.bool true) := (blk_cell h.b 37).trans rfl
theorem EncRow.vo_ (h : EncRow W S g kind A c st low high vo out) : W.cell? ⟨g, 36, none⟩ = some vo := (blk_cell h.b 36).trans rfl
theorem EncRow.cell (h : EncRow W S g kind A c st low high vo out) {i : Nat} (hi : i < st.length) : ∃ b, A = some ⟨b, 0, none⟩ ∧ W.cell? ⟨b, i, none⟩ = some (.int .i64 (rd st i)) ∧ W.frozen? ⟨b, i, none⟩ = false ∧ b ≠ g := by
 obtain ⟨b, cap, hv, _, _, cells, hc⟩ := Kd.R_form h.s (by omega)
 injection hv with hA _ hcap
 subst hA hcap
 have h1 := Kd.R_cell (0 : Int) h.s (i : Int) (by omega) (by omega)
 have hne : b ≠ g := blk_ne hc h.b (by decide)
 exact ⟨b, rfl, h1.1, h1.2, hne⟩
theorem EncRow.cut (h : EncRow W S g kind A c st low high vo out) (bit mid : Int) : EncRow (cutW W g bit mid) S g kind A c st (if bit = 1 then low else mid + 1) (if bit = 1 then mid else high) vo out := by
 unfold cutW
 split
 · exact ⟨blk_put h.b 35 _ rfl, Kd.R_set h.s h.b (by decide) _ _, Kd.R_set h.o h.b (by decide) _ _, h.g⟩
 · exact ⟨blk_put h.b 34 _ rfl, Kd.R_set h.s h.b (by decide) _ _, Kd.R_set h.o h.b (by decide) _ _, h.g⟩
theorem cut_kept (bit mid : Int) (hg : S g) : Mods W (cutW W g bit mid) S := by
 unfold cutW
 split
 · exact (Mods.refl W S).setCell (.inl hg) _
 · exact (Mods.refl W S).setCell (.inl hg) _
theorem EncRow.lost (h : EncRow W S g kind A c st low high vo out) (l' h' : Int) : EncRow ((W.setCell ⟨g, 34, none⟩ (.int .u64 l')).setCell ⟨g, 35, none⟩ (.int .u64 h')) S g kind A c st l' h' vo out := by
 have h1 : (W.setCell ⟨g, 34, none⟩ (.int .u64 l')).heap[g]? = some (.cells (enc38 kind (.slice A st.length c) l' high vo true) 70 (0, 0)) := blk_put h.b 34 _ rfl
 exact ⟨blk_put h1 35 _ rfl, Kd.R_set (Kd.R_set h.s h.b (by decide) _ _) h1 (by decide) _ _, Kd.R_set (Kd.R_set h.o h.b (by decide) _ _) h1 (by decide) _ _, h.g⟩
theorem EncRow.setst {b : Nat} (h : EncRow W S g kind (some ⟨b, 0, none⟩) c st low high vo out) {i : Nat} (hi : i < st.length) (x : Int) : EncRow (W.setCell ⟨b, i, none⟩ (.int .i64 x)) S g kind (some ⟨b, 0, none⟩) c (st.set i x) low high vo out := by
 obtain ⟨b', hA, _, _, hne⟩ := h.cell hi
 injection hA with hA
 injection hA with hA _ _
 subst hA
 obtain ⟨cells, hty⟩ := Kd.R_typed h.s b (by simp [Value.ownBlock])
 have hp := (Kd.R_put (enc := Value.int .i64) h.s (i : Int) x).1
 rw [Int.toNat_natCast] at hp
 have hl : (st.set i x).length = st.length := List.length_set
 refine ⟨?_, ?_, Kd.R_set h.o hty (by decide) _ _, h.g⟩
 · rw [hl]
   exact blk_far h.b (Ne.symm hne) _
 · rw [hl]
   exact hp
theorem EncRow.grew {v1 : Value} {out1 : List Int} (h : EncRow W S g kind A c st low high vo out) (hg : W.grownBy W' vo.ownBlock) (hR : Kd.R (Kd.int .u8) 5 W' 0 S v1 out1) : EncRow (W'.setCell ⟨g, 36, none⟩ v1) S g kind A c st low high v1 out1 := by
 have hb : W'.heap[g]? = some (.cells (enc38 kind (.slice A st.length c) low high vo true) 70 (0, 0)) := blk_grown h.b hg (Kd.R_ne h.o h.b (by decide))
 have hs := Kd.R_over h.s h.o (by decide) hg
 exact ⟨blk_put hb 36 _ rfl, Kd.R_set hs hb (by decide) _ _, Kd.R_set hR hb (by decide) _ _, h.g⟩
end
/-- An encoder's state. -/
structure ES where
 kind : Int
 st : List Int
 low : Int
 high : Int
 out : List Int
def EncAt (W : World) (S : Nat → Prop) (g : Nat) (s : ES) : Prop := ∃ A c vo, EncRow W S g s.kind A c s.st s.low s.high vo s.out
/-- An encoder's state that is one. -/
structure ES.ok (s : ES) : Prop where
 m : okModel s.kind s.st
 l : 0 ≤ s.low
 lh : s.low ≤ s.high
 h : s.high ≤ 4294967295
 n : s.low / 16777216 ≠ s.high / 16777216
theorem EncAt.kept {W W' : World} {S S' : Nat → Prop} {g : Nat} {s : ES} (h : EncAt W S g s) (hk : Mods W W' S') (hne : ∀ k, S k → ¬ S' k) : EncAt W' S g s := by
 obtain ⟨A, c, vo, h⟩ := h
 exact ⟨A, c, vo, h.kept hk hne⟩
theorem EncAt.below {W W' : World} {S : Nat → Prop} {g : Nat} {s : ES} (h : EncAt W S g s) (hb : Below W.heap.size W W') : EncAt W' S g s := by
 obtain ⟨A, c, vo, h⟩ := h
 exact ⟨A, c, vo, h.below hb⟩
theorem EncAt.mono {W : World} {S S' : Nat → Prop} {g : Nat} {s : ES} (h : EncAt W S g s) (hs : ∀ k, S k → S' k) : EncAt W S' g s := by
 obtain ⟨A, c, vo, h⟩ := h
 exact ⟨A, c, vo, h.mono hs⟩
theorem EncAt.bound {W : World} {S : Nat → Prop} {g : Nat} {s : ES} (h : EncAt W S g s) : EncAt W (fun k => S k ∧ k < W.heap.size) g s := by
 obtain ⟨A, c, vo, h⟩ := h
 exact ⟨A, c, vo, h.bound⟩
/-- The parts of the interval, and what is left of it. -/
def cutL (low mid bit : Int) : Int := if bit = 1 then low else mid + 1
def cutH (high mid bit : Int) : Int := if bit = 1 then mid else high
def ES.mid (s : ES) (i : Nat) : Int := midOf s.low s.high (likely s.kind (rd s.st i))
def ES.norm (s : ES) (i : Nat) (bit : Int) : List Int × Int × Int := normE 4 (cutL s.low (s.mid i) bit) (cutH s.high (s.mid i) bit)
/-- The state behind a bit. -/
def ES.put (s : ES) (i : Nat) (bit : Int) : ES := ⟨s.kind, s.st.set i (after s.kind (rd s.st i) bit), (s.norm i bit).2.1, (s.norm i bit).2.2, s.out ++ (s.norm i bit).1⟩
theorem ES.at_ {s : ES} (h : s.ok) {i : Nat} (hi : i < s.st.length) : okState s.kind (rd s.st i) := h.m.2.2 _ (rd_mem (by omega) (by omega))
theorem ES.mid_ {s : ES} (h : s.ok) {i : Nat} (hi : i < s.st.length) : s.low ≤ s.mid i ∧ s.mid i < s.high := by
 have hr := likely_range _ _ (ES.at_ h hi)
 have hm := mid_range s.low s.high _ h.lh hr.1 hr.2
 have hlt : s.low < s.high := by
  have := h.lh
  have := h.n
  rcases Int.lt_or_le s.low s.high with c | c
  · exact c
  · exact absurd (by rw [show s.low = s.high by omega]) h.n
 exact ⟨hm.1, hm.2.1 hlt⟩
theorem ES.cut_ {s : ES} (h : s.ok) {i : Nat} (hi : i < s.st.length) {bit : Int} : 0 ≤ cutL s.low (s.mid i) bit ∧ cutL s.low (s.mid i) bit ≤ cutH s.high (s.mid i) bit ∧ cutH s.high (s.mid i) bit ≤ 4294967295 := by
 have hm := ES.mid_ h hi
 have := h.l
 have := h.h
 unfold cutL cutH
 split <;> omega
theorem ES.put_ok {s : ES} (h : s.ok) {i : Nat} (hi : i < s.st.length) {bit : Int} (hb : bit = 0 ∨ bit = 1) : (s.put i bit).ok := by
 obtain ⟨h0, h1, h2⟩ := ES.cut_ h hi (bit := bit)
 have hd := norm_done 4 _ _ h0 h1 h2 (by rw [show (256 : Int) ^ 4 = 4294967296 from rfl]; omega)
 refine ⟨⟨h.m.1, ?_, fun x hx => ?_⟩, hd.2.1, hd.2.2.1, hd.2.2.2, hd.1⟩
 · show (s.st.set i _).length ≤ 8192
   rw [List.length_set]
   exact h.m.2.1
 · rcases List.mem_or_eq_of_mem_set hx with hx | rfl
   · exact h.m.2.2 x hx
   · exact after_ok _ _ _ (ES.at_ h hi) hb
theorem norm_len : ∀ (d : Nat) (l h : Int), (normE d l h).1.length ≤ d
 | 0, _, _ => Nat.le_refl _
 | d + 1, l, h => by
   unfold normE
   split
   · have := norm_len d (l % 16777216 * 256) (h % 16777216 * 256 + 255)
     simp only [List.length_cons]
     omega
   · simp
/-- The error of a Put. -/
def ES.good (s : ES) (i bit : Int) : Bool := decide (0 ≤ i) && decide (i < s.st.length) && (decide (bit = 0) || decide (bit = 1))
def ES.err (s : ES) (i bit : Int) : Int := if s.good i bit = true then 0 else 2
def ES.putI (s : ES) (i bit : Int) : ES := if s.good i bit = true then s.put i.toNat bit else s
theorem ES.putI_ok {s : ES} (h : s.ok) (i bit : Int) : (s.putI i bit).ok := by
 unfold ES.putI
 split
 · rename_i c
   simp only [ES.good, Bool.and_eq_true, Bool.or_eq_true, decide_eq_true_eq] at c
   exact ES.put_ok h (by omega) c.2
 · exact h
theorem ES.putI_len (s : ES) (i bit : Int) : (s.putI i bit).out.length ≤ s.out.length + 4 ∧ s.out.length ≤ (s.putI i bit).out.length ∧ (s.putI i bit).st.length = s.st.length := by
 unfold ES.putI
 split
 · have := norm_len 4 (cutL s.low (s.mid i.toNat) bit) (cutH s.high (s.mid i.toNat) bit)
   have h1 : (s.put i.toNat bit).out.length = s.out.length + (s.norm i.toNat bit).1.length := List.length_append
   have h2 : (s.put i.toNat bit).st.length = s.st.length := List.length_set
   have h3 : (s.norm i.toNat bit).1.length ≤ 4 := this
   omega
 · omega
/-- The highest n bytes of 32 bits. -/
def hiBytes (high : Int) : List Int := [high / 16777216, high / 65536 % 256, high / 256 % 256, high % 256]
/-- How many bytes the end has. -/
def endN (low high : Int) : Nat :=
 if low ≤ high / 4294967296 * 4294967296 then 0 else if low ≤ high / 16777216 * 16777216 then 1 else if low ≤ high / 65536 * 65536 then 2 else if low ≤ high / 256 * 256 then 3 else 4
def endOf (low high : Int) : List Int := (hiBytes high).take (endN low high)
def ES.end_ (s : ES) : List Int := s.out ++ endOf s.low s.high
end Go.Proofs.Ytmndieohblpgaaa.EncAt
namespace Go.Proofs.Ytmndieohblpgaaa.Put
open Go Go.RowKit YtmndieohblpgaaaW PrintWords PrintLast PrintMore Aid HandAid Cod1 Cod2 Cod3 Ytmndieohblpgaaa.Mod Enc Mods EncAt
theorem cutW_size (W : World) (g : Nat) (bit mid : Int) : (cutW W g bit mid).heap.size = W.heap.size := by
 unfold cutW
 split <;> simp [World.setCell]
/-- What stands when d bytes at the most are still to be lost. -/
structure PutInv (out : List Int) (l1 h1 : Int) (d : Nat) (l h : Int) (out1 : List Int) : Prop where
 l0 : 0 ≤ l
 lh : l ≤ h
 h0 : h ≤ 4294967295
 w : (h - l + 1) * 256 ^ d ≥ 4294967296
 o : out1 ++ (normE d l h).1 = out ++ (normE 4 l1 h1).1
 n : (normE d l h).2 = (normE 4 l1 h1).2
 len : out1.length + d ≤ out.length + 4
theorem PutInv.step {out : List Int} {l1 h1 : Int} {d : Nat} {l h : Int} {out1 : List Int} (H : PutInv out l1 h1 d l h out1) (c : l / 16777216 = h / 16777216) : ∃ d', d = d' + 1 ∧ PutInv out l1 h1 d' (l % 16777216 * 256) (h % 16777216 * 256 + 255) (out1 ++ [l / 16777216]) := by
 have hl0 := H.l0
 have hlh := H.lh
 have hh0 := H.h0
 cases d with
 | zero =>
   have := H.w
   simp only [Int.pow_zero, Int.mul_one] at this
   omega
 | succ d =>
   refine ⟨d, rfl, by omega, by omega, by omega, ?_, ?_, ?_, ?_⟩
   · have hw := H.w
     rw [Int.pow_succ, Int.mul_comm (256 ^ d) 256, ← Int.mul_assoc, show (h - l + 1) * 256 = h % 16777216 * 256 + 255 - l % 16777216 * 256 + 1 by omega] at hw
     exact hw
   · have ho := H.o
     unfold normE at ho
     rw [if_pos c] at ho
     rw [List.append_assoc]
     exact ho
   · have hn := H.n
     conv at hn => lhs; unfold normE
     rw [if_pos c] at hn
     exact hn
   · have := H.len
     simp only [List.length_append, List.length_cons, List.length_nil]
     omega
theorem PutInv.done {out : List Int} {l1 h1 : Int} {d : Nat} {l h : Int} {out1 : List Int} (H : PutInv out l1 h1 d l h out1) (c : ¬ l / 16777216 = h / 16777216) : out1 = out ++ (normE 4 l1 h1).1 ∧ (normE 4 l1 h1).2 = (l, h) := by
 have hn : normE d l h = ([], l, h) := by
  cases d with
  | zero => rfl
  | succ d =>
    unfold normE
    rw [if_neg c]
 have ho := H.o
 have hn2 := H.n
 rw [hn] at ho hn2
 simp only [List.append_nil] at ho
 exact ⟨ho, hn2.symm⟩
/-- What a good Put leaves. -/
def PutPost (w : World) (S : Nat → Prop) (g : Nat) (kind : Int) (st : List Int) (low high mid : Int) (out : List Int) (i : Nat) (bit : Int) (e : Ending) (w' : World) : Prop :=
 e = .returned (.int .i64 0) ∧ (∃ l h out1, (∃ A c vo, EncRow w' (fun k => S k ∨ w.heap.size ≤ k) g kind A c (st.set i (after kind (rd st i) bit)) l h vo out1) ∧ out1 = out ++ (normE 4 (cutL low mid bit) (cutH high mid bit)).1 ∧ (normE 4 (cutL low mid bit) (cutH high mid bit)).2 = (l, h)) ∧ Mods w w' S
set_option maxHeartbeats 4000000 in
set_option maxRecDepth 100000 in
theorem put_row0 (w : World) (S : Nat → Prop) (g : Nat) (kind : Int) (b c : Nat) (st : List Int) (low high mid : Int) (vo : Value) (out : List Int) (i : Nat) (hE : EncRow w S g kind (some ⟨b, 0, none⟩) c st low high vo out) (hi : i < st.length) (hn : st.length ≤ 8192) (hs : okState kind (rd st i)) (hl0 : 0 ≤ low) (hlh : low ≤ high) (hh : high ≤ 4294967295) (hmid : midOf low high (likely kind (rd st i)) = mid) (hm0 : 0 ≤ mid) (hm1 : mid ≤ 4294967295) (hI0 : PutInv out (cutL low mid 0) (cutH high mid 0) 4 (cutL low mid 0) (cutH high mid 0) out) (hlen : out.length ≤ 1099511627776) :
 Calls Try.prog 24 #[.pointer (some ⟨g, 0, none⟩), .int .i64 i, .int .i64 0] w (PutPost w S g kind st low high mid out i 0) := by
 have HE := A' hE
 have hSg : S g := hE.g
 have h2 := hE.real
 have k1 := hE.iv.s
 have HMID := A' (hmid ▸ mid_calls w.drew g kind (some ⟨b, 0, none⟩) st.length c low high i (rd st i) hE.drew.iv ⟨_, rfl, by obtain ⟨b', hA, hc, _⟩ := hE.drew.cell hi; cases hA; rw [add_plain]; exact hc⟩ hi hn hs hl0 hlh hh)
 have HI := A' hI0
 clear hE hmid hI0
 have hi1 : (0 : Int) ≤ (i : Int) := by omega
 have hi2 : (i : Int) < (st.length : Int) := by omega
 go_enter Try.func24, Try.ntmps24
 go_wp2_with (go_at_call 27; refine (enc_none _ _ _ h2).mono ?_; rintro e w' ⟨rfl, rfl⟩)
 refine start_ (n := 11) (S := fun w' => True) (ds := []) #[false, false, false, false, false, false, false, false, false, false, false] (by kernel_rfl) rfl rfl trivial (fun hHeld => ?_)
 refine u' 0 32 (B' 11 1) ?_ rfl rfl (by kernel_rfl) (fun _ _ _ h => h) (.inl ⟨by rfl, ?_⟩) ?_ ?_ ?_; rotate_left; (intro w'; go_simp; with_reducible rfl); rotate_left; (simp only [Act.put, p1', p2', p3', i64_w, i32_w]; rfl)
 refine u' 1 33 (B' 11 3) ?_ rfl rfl (by kernel_rfl) (fun _ _ _ h => h) (.inl ⟨by rfl, ?_⟩) ?_ ?_ ?_; rotate_left; (intro w'; go_simp; with_reducible rfl); rotate_left; (simp only [Act.put, p1', p2', p3', i64_w, i32_w]; rfl)
 refine u' 2 34 (B' 11 7) ?_ rfl rfl (by kernel_rfl) (fun _ _ _ h => h) (.inl ⟨by rfl, ?_⟩) ?_ ?_ ?_; rotate_left; (intro w'; go_simp; with_reducible rfl); rotate_left; (simp only [Act.put, p1', p2', p3', i64_w, i32_w]; rfl)
 refine u' 3 35 (B' 11 15) ?_ rfl rfl (by kernel_rfl) (fun _ _ _ h => h) (.inl ⟨by rfl, ?_⟩) ?_ ?_ ?_; rotate_left; (intro w'; go_simp; with_reducible rfl); rotate_left; (simp only [Act.put, p1', p2', p3', i64_w, i32_w]; rfl)
 refine u' 4 36 (B' 11 31) ?_ rfl rfl (by kernel_rfl) (fun _ _ _ h => h) (.inl ⟨by rfl, ?_⟩) ?_ ?_ ?_; rotate_left; (intro w'; go_simp; with_reducible rfl); rotate_left; (simp only [Act.put, p1', p2', p3', i64_w, i32_w]; rfl)
 refine u' 5 37 (B' 11 63) ?_ rfl rfl (by kernel_rfl) (fun _ _ _ h => h) (.inl ⟨by rfl, ?_⟩) ?_ ?_ ?_; rotate_left; (intro w'; go_simp; with_reducible rfl); rotate_left; (simp only [Act.put, p1', p2', p3', i64_w, i32_w]; rfl)
 refine u' 6 38 (B' 11 127) ?_ rfl rfl (by kernel_rfl) (fun _ _ _ h => h) (.inl ⟨by rfl, ?_⟩) ?_ ?_ ?_; rotate_left; (intro w'; go_simp; with_reducible rfl); rotate_left; (simp only [Act.put, p1', p2', p3', i64_w, i32_w]; rfl)
 refine u' 7 39 (B' 11 255) ?_ rfl rfl (by kernel_rfl) (fun _ _ _ h => h) (.inl ⟨by rfl, ?_⟩) ?_ ?_ ?_; rotate_left; (intro w'; go_simp; with_reducible rfl); rotate_left; (simp only [Act.put, p1', p2', p3', i64_w, i32_w]; rfl)
 refine u' 8 40 (B' 11 511) ?_ rfl rfl (by kernel_rfl) (fun _ _ _ h => h) (.inl ⟨by rfl, ?_⟩) ?_ ?_ ?_; rotate_left; (intro w'; go_simp; with_reducible rfl); rotate_left; (simp only [Act.put, p1', p2', p3', i64_w, i32_w]; rfl)
 refine one_ (i := 9) (N := some 41) (B' 11 1023) rfl rfl (by kernel_rfl) (by decide) (fun K hK => ?_)
 refine goes_ Try.func33 (by kernel_rfl) rfl #[.pointer (some ⟨g, 0, none⟩), .int .i64 i] (by rfl) rfl rfl (by simp only [List.map_toArray, List.map_cons, List.map_nil]; rfl) ?_
 with_reducible refine (HMID.out).mono ?_
 rintro e w3 ⟨rfl, hb3⟩
 refine ⟨_, rfl, ?_⟩
 have HE3 := A' (HE.out.drew.below hb3)
 have HK3 := A' ((Mods.refl w S).below (below_undrew1 hb3))
 clear hb3
 have hT := take_calls w3 g kind st.length c low high i (rd st i) mid 0 ⟨b, 0, none⟩ HE3.out.iv
 have HT := A' hT
 clear hT
 refine hK.out _ _ trivial (fun hHeld => ?_)
 clear hK K
 refine norm_ (a' := ?_) ?_ ?_; rotate_left; (show Act.put _ (some 41) _ = _; simp only [Act.put, p1', p2', p3', i64_w, i32_w]; rfl)
 refine one_ (i := 10) (N := some 42) (B' 11 2047) rfl rfl (by kernel_rfl) (by decide) (fun K hK => ?_)
 obtain ⟨b3, hA3, hc3, hf3, hne3⟩ := HE3.out.cell hi
 cases hA3
 refine goes_ Try.func32 (by kernel_rfl) rfl #[.pointer (some ⟨g, 0, none⟩), .int .i64 i, .int .i64 0, .int .u64 mid] (by rfl) rfl rfl (by simp only [List.map_toArray, List.map_cons, List.map_nil]; rfl) ?_
 with_reducible refine (HT.out (by rw [add_plain]; exact hc3) (by rw [add_plain]; exact hf3) hne3 hi hn hs (by decide) hm0 hm1).mono ?_
 rintro e w4 ⟨rfl, w4', hb4, hw4⟩
 refine ⟨_, rfl, ?_⟩
 rw [add_plain] at hw4
 have HE4 := A' (show EncRow w4 S g kind (some ⟨b, 0, none⟩) c (st.set i (after kind (rd st i) 0)) (cutL low mid 0) (cutH high mid 0) vo out from hw4 ▸ (((HE3.out.cut 0 mid).below (by rw [cutW_size]; exact hb4)).setst hi _))
 have hsb : S b := HE3.out.s.1 b (by simp [Value.ownBlock])
 have HK4 := A' (show Mods w w4 S from hw4 ▸ (((HK3.out.then_ (cut_kept 0 mid HE3.out.g) (fun _ h => .inl h)).below (by rw [cutW_size]; exact hb4)).setCell (.inl hsb) _))
 clear hb4 hw4 hc3 hf3 hne3
 refine hK.out _ _ trivial (fun hHeld => ?_)
 clear hK K
 refine norm_ (a' := ?_) ?_ ?_; rotate_left; (show Act.put _ (some 42) _ = _; simp only [Act.put, p1', p2', p3', i64_w, i32_w]; rfl)
 refine done_ (by kernel_rfl) ?_
 go_wp2
 obtain ⟨S', hS'⟩ : ∃ S' : Nat → Prop, S' = fun k => S k ∨ w.heap.size ≤ k := ⟨_, rfl⟩
 have HS' : ∀ k, S' k → S k ∨ w.heap.size ≤ k := fun k hk => by rw [hS'] at hk; exact hk
 have HSf : ∀ k, S k ∨ w.heap.size ≤ k → S' k := fun k hk => by rw [hS']; exact hk
 obtain ⟨st', hst'⟩ : ∃ st' : List Int, st' = st.set i (after kind (rd st i) 0) := ⟨_, rfl⟩
 have HST := A' hst'
 have HSS := A' hS'
 rw [← hst'] at HE4
 clear hst' hS'
 have HS2 := A' HS'
 have HS3 := A' HSf
 clear HS' HSf
 clear h2 k1
 go_loopg [] 4 (fun d wr => ∃ (l h : Int) (out1 : List Int), Aside0 (∃ A c vo, EncRow wr S' g kind A c st' l h vo out1) ∧ Aside0 (Mods w wr S) ∧ Aside0 (PutInv out (cutL low mid 0) (cutH high mid 0) d l h out1))
 case atStart => exact ⟨_, _, out, ⟨_, _, _, HE4.out.mono (fun k hk => HS3.out k (.inl hk))⟩, HK4, HI⟩
 clear HE4 HK4 HI
 case round =>
  obtain ⟨l, h, out1, ⟨A1, c1, vo1, hE5⟩, HK5, HP⟩ := hrel
  have HE5 := A' hE5
  clear hE5
  have hp0 := HP.out.l0
  have hp1 := HP.out.lh
  have hp2 := HP.out.h0
  have hs := same_calls wr g l h HE5.out.iv.l HE5.out.iv.h hp0 (by omega)
  by_cases cc : l / 16777216 = h / 16777216
  · rw [decide_eq_true cc] at hs
    have HSA := A' hs
    clear hs
    obtain ⟨d', hd', hP'⟩ := HP.out.step cc
    have HP' := A' hP'
    have hlen1 : out1.length ≤ 1099511627780 := by have := HP.out.len; omega
    have HD := A' hd'
    have HCC := A' cc
    clear hd' hP' cc
    go_wp2_with (go_at_call 34; refine HSA.out.mono ?_; rintro e w6 ⟨rfl, m6, hw6⟩; have HE6 := A' (show EncRow w6 S' g kind A1 c1 st' l h vo1 out1 from hw6 ▸ HE5.out.drewN m6); have HK6 := A' (show Mods w w6 S from hw6 ▸ HK5.out.drewN m6); clear hw6)
    have HLO := A' (lose_calls w6.drew g l h HE6.out.drew.iv.l HE6.out.drew.iv.h HE6.out.drew.iv.f hp0 (by omega) (by omega) hp2)
    have HS' := HS2.out
    have p0 := HE6.out.vo_
    clear HSA HE5 HK5
    refine start_ (n := 14) (S := fun w' => w'.cell? ⟨g, 36, none⟩ = some vo1) (ds := [13]) #[false, false, false, false, false, false, false, false, false, false, false, false, false, false] (by kernel_rfl) rfl rfl (p0) (fun hHeld => ?_)
    refine u' 0 47 (B' 14 1) ?_ rfl rfl (by kernel_rfl) (fun _ _ _ h => h) (.inl ⟨by rfl, ?_⟩) ?_ ?_ ?_; rotate_left; (intro w'; go_simp; with_reducible rfl); rotate_left; (simp only [Act.put, p1', p2', p3', i64_w, i32_w]; rfl)
    refine u' 1 48 (B' 14 3) ?_ rfl rfl (by kernel_rfl) (fun _ _ _ h => h) (.inl ⟨by rfl, ?_⟩) ?_ ?_ ?_; rotate_left; (intro w'; go_simp; with_reducible rfl); rotate_left; (simp only [Act.put, p1', p2', p3', i64_w, i32_w]; rfl)
    refine u' 2 49 (B' 14 7) ?_ rfl rfl (by kernel_rfl) (fun _ _ _ h => h) (.inl ⟨by rfl, ?_⟩) ?_ ?_ ?_; rotate_left; (intro w'; go_simp; with_reducible rfl); rotate_left; (simp only [Act.put, p1', p2', p3', i64_w, i32_w]; rfl)
    refine u' 3 50 (B' 14 15) ?_ rfl rfl (by kernel_rfl) (fun _ _ _ h => h) (.inl ⟨by rfl, ?_⟩) ?_ ?_ ?_; rotate_left; (intro w'; go_simp; with_reducible rfl); rotate_left; (simp only [Act.put, p1', p2', p3', i64_w, i32_w]; rfl)
    refine u' 5 52 (B' 14 47) ?_ rfl rfl (by kernel_rfl) (fun _ _ _ h => h) (.inl ⟨by rfl, ?_⟩) ?_ ?_ ?_; rotate_left; (intro w'; go_simp; with_reducible rfl); rotate_left; (simp only [Act.put, p1', p2', p3', i64_w, i32_w]; rfl)
    refine u' 6 53 (B' 14 111) ?_ rfl rfl (by kernel_rfl) (fun _ _ _ h => h) (.inl ⟨by rfl, ?_⟩) ?_ ?_ ?_; rotate_left; (intro w'; go_simp; with_reducible rfl); rotate_left; (simp only [Act.put, p1', p2', p3', i64_w, i32_w]; rfl)
    refine u' 7 54 (B' 14 239) ?_ rfl rfl (by kernel_rfl) (fun _ _ _ h => h) (.inl ⟨by rfl, ?_⟩) ?_ ?_ ?_; rotate_left; (intro w'; go_simp; with_reducible rfl); rotate_left; (simp only [Act.put, p1', p2', p3', i64_w, i32_w]; rfl)
    refine t' 4 51 (B' 14 255) ?_ rfl rfl (by kernel_rfl) (fun _ _ _ h => h) (.inl ⟨by rfl, ?_⟩) hHeld ?_ ?_ ?_; rotate_left; (intro w' s0; go_simp; with_reducible rfl); rotate_left; (simp only [Act.put, p1', p2', p3', i64_w, i32_w]; rfl)
    refine one_ (i := 8) (N := some 55) (B' 14 511) rfl rfl (by kernel_rfl) (by decide) (fun K hK => ?_)
    refine goes_ Try.func35 (by kernel_rfl) rfl #[.pointer (some ⟨g, 0, none⟩)] (by rfl) rfl rfl (by simp only [List.map_toArray, List.map_cons, List.map_nil]; rfl) ?_
    with_reducible refine (HLO.out).mono ?_
    rintro e w7 ⟨rfl, hw7⟩
    refine ⟨_, rfl, ?_⟩
    have HE7 := A' (show EncRow w7 S' g kind A1 c1 st' (l % 16777216 * 256) (h % 16777216 * 256 + 255) vo1 out1 from hw7 ▸ (HE6.out.drew.lost _ _))
    have HK7 := A' (show Mods w w7 S from hw7 ▸ ((HK6.out.drew.setCell (.inl hSg) _).setCell (.inl hSg) _))
    clear hw7
    have t0 := HE7.out.vo_
    refine hK.out _ _ (t0) (fun hHeld => ?_)
    clear hK K
    refine norm_ (a' := ?_) ?_ ?_; rotate_left; (show Act.put _ (some 55) _ = _; simp only [Act.put, p1', p2', p3', i64_w, i32_w]; rfl)
    refine one_ (i := 9) (N := some 56) (B' 14 1023) rfl rfl (by kernel_rfl) (by decide) (fun K hK => ?_)
    refine value_ (w1 := ?_) (v := ?_) (by rfl) rfl ?_ ?_
    rotate_left 2
    · go_simp
      constructor
      · rfl
      · rfl
    refine hK.out _ _ (pw_cell_below (below_alloc (Below.refl _ _) _) t0) (fun hHeld => ?_)
    clear hK K
    refine norm_ (a' := ?_) ?_ ?_; rotate_left; (show Act.put _ (some 56) _ = _; simp only [Act.put, p1', p2', p3', i64_w, i32_w]; rfl)
    refine one_ (i := 10) (N := some 57) (B' 14 2047) rfl rfl (by kernel_rfl) (by decide) (fun K hK => ?_)
    refine Kd.R_append_step (Kd.int .u8) 0 (by rfl) (.tmp 51) (.tmp 56) 24 5 (.int .u8 0) 1 rfl Try.underlying24 infoU8 rfl (by decide) (by decide) vo1 out1 (l / 16777216) [.int .u8 (l / 16777216)] S' (fun _ => False) rfl rfl rfl (fun _ h => h.elim) (fun k hk => HS3.out k (.inr (Nat.le_trans HK7.out.size hk))) HE7.out.o (Below.refl 0 _) (Nat.zero_le _) (by omega) ?_
    intro v8 w8 hR8 _ hg8 hat8
    obtain ⟨A8, c8, rfl⟩ := Kd.R_slice hR8
    rw [List.length_append, List.length_cons, List.length_nil, Nat.zero_add] at hR8
    have hne8 := Kd.R_ne HE7.out.o HE7.out.b (by decide)
    have t1 : w8.cell? ⟨g, 36, none⟩ = some vo1 := hg8.cell t0 hne8
    have z8 : w8.frozen? ⟨g, 36, none⟩ = false := blk_frozen (blk_grown HE7.out.b hg8 hne8) 36
    have HE8 := A' (HE7.out.grew hg8 hR8)
    have HK8 := A' ((HK7.out.of_grown hg8 (fun k hk => HS' k (HE7.out.o.1 k hk))).setCell (p := ⟨g, 36, none⟩) (.inl hSg) (.slice A8 (out1.length + 1) c8))
    clear hR8 hg8 hat8 hne8 HK7
    refine hK.out _ _ (t1) (fun hHeld => ?_)
    clear hK K
    refine norm_ (a' := ?_) ?_ ?_; rotate_left; (show Act.put _ (some 57) _ = _; simp only [Act.put, p1', p2', p3', i64_w, i32_w]; rfl)
    refine u' 11 58 (B' 14 4095) ?_ rfl rfl (by kernel_rfl) (fun _ _ _ h => h) (.inl ⟨by rfl, ?_⟩) ?_ ?_ ?_; rotate_left; (intro w'; go_simp; with_reducible rfl); rotate_left; (simp only [Act.put, p1', p2', p3', i64_w, i32_w]; rfl)
    refine u' 12 59 (B' 14 8191) ?_ rfl rfl (by kernel_rfl) (fun _ _ _ h => h) (.inl ⟨by rfl, ?_⟩) ?_ ?_ ?_; rotate_left; (intro w'; go_simp; with_reducible rfl); rotate_left; (simp only [Act.put, p1', p2', p3', i64_w, i32_w]; rfl)
    refine last_ (i := 13) (N := none) (B' 14 16383) rfl rfl (by kernel_rfl) (by decide) (fun K hK => ?_)
    refine skip_ (w1 := ?_) (by rfl) rfl ?_ ?_
    rotate_left
    · go_simp
      rfl
    refine hK.out _ _ ?_
    clear hK K
    refine done_ (by kernel_rfl) ?_
    go_wp2
    go_roundg d'
    case measure => have := HD.out; omega
    case rel => exact ⟨_, _, _, ⟨_, _, _, HE8.out⟩, HK8, HP'⟩
  · rw [decide_eq_false cc] at hs
    have HSA := A' hs
    clear hs
    have HCC := A' cc
    clear cc
    go_wp2_with (go_at_call 34; refine HSA.out.mono ?_; rintro e w6 ⟨rfl, m6, hw6⟩; have HE6 := A' (show EncRow w6 S' g kind A1 c1 st' l h vo1 out1 from hw6 ▸ HE5.out.drewN m6); have HK6 := A' (show Mods w w6 S from hw6 ▸ HK5.out.drewN m6); clear hw6)
    go_ret
    have hd := HP.out.done HCC.out
    have hE6 := HE6.out
    rw [HSS.out, HST.out] at hE6
    exact ⟨rfl, ⟨l, h, out1, ⟨_, _, _, hE6⟩, hd.1, hd.2⟩, HK6.out⟩
set_option maxHeartbeats 4000000 in
set_option maxRecDepth 100000 in
theorem put_row1 (w : World) (S : Nat → Prop) (g : Nat) (kind : Int) (b c : Nat) (st : List Int) (low high mid : Int) (vo : Value) (out : List Int) (i : Nat) (hE : EncRow w S g kind (some ⟨b, 0, none⟩) c st low high vo out) (hi : i < st.length) (hn : st.length ≤ 8192) (hs : okState kind (rd st i)) (hl0 : 0 ≤ low) (hlh : low ≤ high) (hh : high ≤ 4294967295) (hmid : midOf low high (likely kind (rd st i)) = mid) (hm0 : 0 ≤ mid) (hm1 : mid ≤ 4294967295) (hI0 : PutInv out (cutL low mid 1) (cutH high mid 1) 4 (cutL low mid 1) (cutH high mid 1) out) (hlen : out.length ≤ 1099511627776) :
 Calls Try.prog 24 #[.pointer (some ⟨g, 0, none⟩), .int .i64 i, .int .i64 1] w (PutPost w S g kind st low high mid out i 1) := by
 have HE := A' hE
 have hSg : S g := hE.g
 have h2 := hE.real
 have k1 := hE.iv.s
 have HMID := A' (hmid ▸ mid_calls w.drew g kind (some ⟨b, 0, none⟩) st.length c low high i (rd st i) hE.drew.iv ⟨_, rfl, by obtain ⟨b', hA, hc, _⟩ := hE.drew.cell hi; cases hA; rw [add_plain]; exact hc⟩ hi hn hs hl0 hlh hh)
 have HI := A' hI0
 clear hE hmid hI0
 have hi1 : (0 : Int) ≤ (i : Int) := by omega
 have hi2 : (i : Int) < (st.length : Int) := by omega
 go_enter Try.func24, Try.ntmps24
 go_wp2_with (go_at_call 27; refine (enc_none _ _ _ h2).mono ?_; rintro e w' ⟨rfl, rfl⟩)
 refine start_ (n := 11) (S := fun w' => True) (ds := []) #[false, false, false, false, false, false, false, false, false, false, false] (by kernel_rfl) rfl rfl trivial (fun hHeld => ?_)
 refine u' 0 32 (B' 11 1) ?_ rfl rfl (by kernel_rfl) (fun _ _ _ h => h) (.inl ⟨by rfl, ?_⟩) ?_ ?_ ?_; rotate_left; (intro w'; go_simp; with_reducible rfl); rotate_left; (simp only [Act.put, p1', p2', p3', i64_w, i32_w]; rfl)
 refine u' 1 33 (B' 11 3) ?_ rfl rfl (by kernel_rfl) (fun _ _ _ h => h) (.inl ⟨by rfl, ?_⟩) ?_ ?_ ?_; rotate_left; (intro w'; go_simp; with_reducible rfl); rotate_left; (simp only [Act.put, p1', p2', p3', i64_w, i32_w]; rfl)
 refine u' 2 34 (B' 11 7) ?_ rfl rfl (by kernel_rfl) (fun _ _ _ h => h) (.inl ⟨by rfl, ?_⟩) ?_ ?_ ?_; rotate_left; (intro w'; go_simp; with_reducible rfl); rotate_left; (simp only [Act.put, p1', p2', p3', i64_w, i32_w]; rfl)
 refine u' 3 35 (B' 11 15) ?_ rfl rfl (by kernel_rfl) (fun _ _ _ h => h) (.inl ⟨by rfl, ?_⟩) ?_ ?_ ?_; rotate_left; (intro w'; go_simp; with_reducible rfl); rotate_left; (simp only [Act.put, p1', p2', p3', i64_w, i32_w]; rfl)
 refine u' 4 36 (B' 11 31) ?_ rfl rfl (by kernel_rfl) (fun _ _ _ h => h) (.inl ⟨by rfl, ?_⟩) ?_ ?_ ?_; rotate_left; (intro w'; go_simp; with_reducible rfl); rotate_left; (simp only [Act.put, p1', p2', p3', i64_w, i32_w]; rfl)
 refine u' 5 37 (B' 11 63) ?_ rfl rfl (by kernel_rfl) (fun _ _ _ h => h) (.inl ⟨by rfl, ?_⟩) ?_ ?_ ?_; rotate_left; (intro w'; go_simp; with_reducible rfl); rotate_left; (simp only [Act.put, p1', p2', p3', i64_w, i32_w]; rfl)
 refine u' 6 38 (B' 11 127) ?_ rfl rfl (by kernel_rfl) (fun _ _ _ h => h) (.inl ⟨by rfl, ?_⟩) ?_ ?_ ?_; rotate_left; (intro w'; go_simp; with_reducible rfl); rotate_left; (simp only [Act.put, p1', p2', p3', i64_w, i32_w]; rfl)
 refine u' 7 39 (B' 11 255) ?_ rfl rfl (by kernel_rfl) (fun _ _ _ h => h) (.inl ⟨by rfl, ?_⟩) ?_ ?_ ?_; rotate_left; (intro w'; go_simp; with_reducible rfl); rotate_left; (simp only [Act.put, p1', p2', p3', i64_w, i32_w]; rfl)
 refine u' 8 40 (B' 11 511) ?_ rfl rfl (by kernel_rfl) (fun _ _ _ h => h) (.inl ⟨by rfl, ?_⟩) ?_ ?_ ?_; rotate_left; (intro w'; go_simp; with_reducible rfl); rotate_left; (simp only [Act.put, p1', p2', p3', i64_w, i32_w]; rfl)
 refine one_ (i := 9) (N := some 41) (B' 11 1023) rfl rfl (by kernel_rfl) (by decide) (fun K hK => ?_)
 refine goes_ Try.func33 (by kernel_rfl) rfl #[.pointer (some ⟨g, 0, none⟩), .int .i64 i] (by rfl) rfl rfl (by simp only [List.map_toArray, List.map_cons, List.map_nil]; rfl) ?_
 with_reducible refine (HMID.out).mono ?_
 rintro e w3 ⟨rfl, hb3⟩
 refine ⟨_, rfl, ?_⟩
 have HE3 := A' (HE.out.drew.below hb3)
 have HK3 := A' ((Mods.refl w S).below (below_undrew1 hb3))
 clear hb3
 have hT := take_calls w3 g kind st.length c low high i (rd st i) mid 1 ⟨b, 0, none⟩ HE3.out.iv
 have HT := A' hT
 clear hT
 refine hK.out _ _ trivial (fun hHeld => ?_)
 clear hK K
 refine norm_ (a' := ?_) ?_ ?_; rotate_left; (show Act.put _ (some 41) _ = _; simp only [Act.put, p1', p2', p3', i64_w, i32_w]; rfl)
 refine one_ (i := 10) (N := some 42) (B' 11 2047) rfl rfl (by kernel_rfl) (by decide) (fun K hK => ?_)
 obtain ⟨b3, hA3, hc3, hf3, hne3⟩ := HE3.out.cell hi
 cases hA3
 refine goes_ Try.func32 (by kernel_rfl) rfl #[.pointer (some ⟨g, 0, none⟩), .int .i64 i, .int .i64 1, .int .u64 mid] (by rfl) rfl rfl (by simp only [List.map_toArray, List.map_cons, List.map_nil]; rfl) ?_
 with_reducible refine (HT.out (by rw [add_plain]; exact hc3) (by rw [add_plain]; exact hf3) hne3 hi hn hs (by decide) hm0 hm1).mono ?_
 rintro e w4 ⟨rfl, w4', hb4, hw4⟩
 refine ⟨_, rfl, ?_⟩
 rw [add_plain] at hw4
 have HE4 := A' (show EncRow w4 S g kind (some ⟨b, 0, none⟩) c (st.set i (after kind (rd st i) 1)) (cutL low mid 1) (cutH high mid 1) vo out from hw4 ▸ (((HE3.out.cut 1 mid).below (by rw [cutW_size]; exact hb4)).setst hi _))
 have hsb : S b := HE3.out.s.1 b (by simp [Value.ownBlock])
 have HK4 := A' (show Mods w w4 S from hw4 ▸ (((HK3.out.then_ (cut_kept 1 mid HE3.out.g) (fun _ h => .inl h)).below (by rw [cutW_size]; exact hb4)).setCell (.inl hsb) _))
 clear hb4 hw4 hc3 hf3 hne3
 refine hK.out _ _ trivial (fun hHeld => ?_)
 clear hK K
 refine norm_ (a' := ?_) ?_ ?_; rotate_left; (show Act.put _ (some 42) _ = _; simp only [Act.put, p1', p2', p3', i64_w, i32_w]; rfl)
 refine done_ (by kernel_rfl) ?_
 go_wp2
 obtain ⟨S', hS'⟩ : ∃ S' : Nat → Prop, S' = fun k => S k ∨ w.heap.size ≤ k := ⟨_, rfl⟩
 have HS' : ∀ k, S' k → S k ∨ w.heap.size ≤ k := fun k hk => by rw [hS'] at hk; exact hk
 have HSf : ∀ k, S k ∨ w.heap.size ≤ k → S' k := fun k hk => by rw [hS']; exact hk
 obtain ⟨st', hst'⟩ : ∃ st' : List Int, st' = st.set i (after kind (rd st i) 1) := ⟨_, rfl⟩
 have HST := A' hst'
 have HSS := A' hS'
 rw [← hst'] at HE4
 clear hst' hS'
 have HS2 := A' HS'
 have HS3 := A' HSf
 clear HS' HSf
 clear h2 k1
 go_loopg [] 4 (fun d wr => ∃ (l h : Int) (out1 : List Int), Aside0 (∃ A c vo, EncRow wr S' g kind A c st' l h vo out1) ∧ Aside0 (Mods w wr S) ∧ Aside0 (PutInv out (cutL low mid 1) (cutH high mid 1) d l h out1))
 case atStart => exact ⟨_, _, out, ⟨_, _, _, HE4.out.mono (fun k hk => HS3.out k (.inl hk))⟩, HK4, HI⟩
 clear HE4 HK4 HI
 case round =>
  obtain ⟨l, h, out1, ⟨A1, c1, vo1, hE5⟩, HK5, HP⟩ := hrel
  have HE5 := A' hE5
  clear hE5
  have hp0 := HP.out.l0
  have hp1 := HP.out.lh
  have hp2 := HP.out.h0
  have hs := same_calls wr g l h HE5.out.iv.l HE5.out.iv.h hp0 (by omega)
  by_cases cc : l / 16777216 = h / 16777216
  · rw [decide_eq_true cc] at hs
    have HSA := A' hs
    clear hs
    obtain ⟨d', hd', hP'⟩ := HP.out.step cc
    have HP' := A' hP'
    have hlen1 : out1.length ≤ 1099511627780 := by have := HP.out.len; omega
    have HD := A' hd'
    have HCC := A' cc
    clear hd' hP' cc
    go_wp2_with (go_at_call 34; refine HSA.out.mono ?_; rintro e w6 ⟨rfl, m6, hw6⟩; have HE6 := A' (show EncRow w6 S' g kind A1 c1 st' l h vo1 out1 from hw6 ▸ HE5.out.drewN m6); have HK6 := A' (show Mods w w6 S from hw6 ▸ HK5.out.drewN m6); clear hw6)
    have HLO := A' (lose_calls w6.drew g l h HE6.out.drew.iv.l HE6.out.drew.iv.h HE6.out.drew.iv.f hp0 (by omega) (by omega) hp2)
    have HS' := HS2.out
    have p0 := HE6.out.vo_
    clear HSA HE5 HK5
    refine start_ (n := 14) (S := fun w' => w'.cell? ⟨g, 36, none⟩ = some vo1) (ds := [13]) #[false, false, false, false, false, false, false, false, false, false, false, false, false, false] (by kernel_rfl) rfl rfl (p0) (fun hHeld => ?_)
    refine u' 0 47 (B' 14 1) ?_ rfl rfl (by kernel_rfl) (fun _ _ _ h => h) (.inl ⟨by rfl, ?_⟩) ?_ ?_ ?_; rotate_left; (intro w'; go_simp; with_reducible rfl); rotate_left; (simp only [Act.put, p1', p2', p3', i64_w, i32_w]; rfl)
    refine u' 1 48 (B' 14 3) ?_ rfl rfl (by kernel_rfl) (fun _ _ _ h => h) (.inl ⟨by rfl, ?_⟩) ?_ ?_ ?_; rotate_left; (intro w'; go_simp; with_reducible rfl); rotate_left; (simp only [Act.put, p1', p2', p3', i64_w, i32_w]; rfl)
    refine u' 2 49 (B' 14 7) ?_ rfl rfl (by kernel_rfl) (fun _ _ _ h => h) (.inl ⟨by rfl, ?_⟩) ?_ ?_ ?_; rotate_left; (intro w'; go_simp; with_reducible rfl); rotate_left; (simp only [Act.put, p1', p2', p3', i64_w, i32_w]; rfl)
    refine u' 3 50 (B' 14 15) ?_ rfl rfl (by kernel_rfl) (fun _ _ _ h => h) (.inl ⟨by rfl, ?_⟩) ?_ ?_ ?_; rotate_left; (intro w'; go_simp; with_reducible rfl); rotate_left; (simp only [Act.put, p1', p2', p3', i64_w, i32_w]; rfl)
    refine u' 5 52 (B' 14 47) ?_ rfl rfl (by kernel_rfl) (fun _ _ _ h => h) (.inl ⟨by rfl, ?_⟩) ?_ ?_ ?_; rotate_left; (intro w'; go_simp; with_reducible rfl); rotate_left; (simp only [Act.put, p1', p2', p3', i64_w, i32_w]; rfl)
    refine u' 6 53 (B' 14 111) ?_ rfl rfl (by kernel_rfl) (fun _ _ _ h => h) (.inl ⟨by rfl, ?_⟩) ?_ ?_ ?_; rotate_left; (intro w'; go_simp; with_reducible rfl); rotate_left; (simp only [Act.put, p1', p2', p3', i64_w, i32_w]; rfl)
    refine u' 7 54 (B' 14 239) ?_ rfl rfl (by kernel_rfl) (fun _ _ _ h => h) (.inl ⟨by rfl, ?_⟩) ?_ ?_ ?_; rotate_left; (intro w'; go_simp; with_reducible rfl); rotate_left; (simp only [Act.put, p1', p2', p3', i64_w, i32_w]; rfl)
    refine t' 4 51 (B' 14 255) ?_ rfl rfl (by kernel_rfl) (fun _ _ _ h => h) (.inl ⟨by rfl, ?_⟩) hHeld ?_ ?_ ?_; rotate_left; (intro w' s0; go_simp; with_reducible rfl); rotate_left; (simp only [Act.put, p1', p2', p3', i64_w, i32_w]; rfl)
    refine one_ (i := 8) (N := some 55) (B' 14 511) rfl rfl (by kernel_rfl) (by decide) (fun K hK => ?_)
    refine goes_ Try.func35 (by kernel_rfl) rfl #[.pointer (some ⟨g, 0, none⟩)] (by rfl) rfl rfl (by simp only [List.map_toArray, List.map_cons, List.map_nil]; rfl) ?_
    with_reducible refine (HLO.out).mono ?_
    rintro e w7 ⟨rfl, hw7⟩
    refine ⟨_, rfl, ?_⟩
    have HE7 := A' (show EncRow w7 S' g kind A1 c1 st' (l % 16777216 * 256) (h % 16777216 * 256 + 255) vo1 out1 from hw7 ▸ (HE6.out.drew.lost _ _))
    have HK7 := A' (show Mods w w7 S from hw7 ▸ ((HK6.out.drew.setCell (.inl hSg) _).setCell (.inl hSg) _))
    clear hw7
    have t0 := HE7.out.vo_
    refine hK.out _ _ (t0) (fun hHeld => ?_)
    clear hK K
    refine norm_ (a' := ?_) ?_ ?_; rotate_left; (show Act.put _ (some 55) _ = _; simp only [Act.put, p1', p2', p3', i64_w, i32_w]; rfl)
    refine one_ (i := 9) (N := some 56) (B' 14 1023) rfl rfl (by kernel_rfl) (by decide) (fun K hK => ?_)
    refine value_ (w1 := ?_) (v := ?_) (by rfl) rfl ?_ ?_
    rotate_left 2
    · go_simp
      constructor
      · rfl
      · rfl
    refine hK.out _ _ (pw_cell_below (below_alloc (Below.refl _ _) _) t0) (fun hHeld => ?_)
    clear hK K
    refine norm_ (a' := ?_) ?_ ?_; rotate_left; (show Act.put _ (some 56) _ = _; simp only [Act.put, p1', p2', p3', i64_w, i32_w]; rfl)
    refine one_ (i := 10) (N := some 57) (B' 14 2047) rfl rfl (by kernel_rfl) (by decide) (fun K hK => ?_)
    refine Kd.R_append_step (Kd.int .u8) 0 (by rfl) (.tmp 51) (.tmp 56) 24 5 (.int .u8 0) 1 rfl Try.underlying24 infoU8 rfl (by decide) (by decide) vo1 out1 (l / 16777216) [.int .u8 (l / 16777216)] S' (fun _ => False) rfl rfl rfl (fun _ h => h.elim) (fun k hk => HS3.out k (.inr (Nat.le_trans HK7.out.size hk))) HE7.out.o (Below.refl 0 _) (Nat.zero_le _) (by omega) ?_
    intro v8 w8 hR8 _ hg8 hat8
    obtain ⟨A8, c8, rfl⟩ := Kd.R_slice hR8
    rw [List.length_append, List.length_cons, List.length_nil, Nat.zero_add] at hR8
    have hne8 := Kd.R_ne HE7.out.o HE7.out.b (by decide)
    have t1 : w8.cell? ⟨g, 36, none⟩ = some vo1 := hg8.cell t0 hne8
    have z8 : w8.frozen? ⟨g, 36, none⟩ = false := blk_frozen (blk_grown HE7.out.b hg8 hne8) 36
    have HE8 := A' (HE7.out.grew hg8 hR8)
    have HK8 := A' ((HK7.out.of_grown hg8 (fun k hk => HS' k (HE7.out.o.1 k hk))).setCell (p := ⟨g, 36, none⟩) (.inl hSg) (.slice A8 (out1.length + 1) c8))
    clear hR8 hg8 hat8 hne8 HK7
    refine hK.out _ _ (t1) (fun hHeld => ?_)
    clear hK K
    refine norm_ (a' := ?_) ?_ ?_; rotate_left; (show Act.put _ (some 57) _ = _; simp only [Act.put, p1', p2', p3', i64_w, i32_w]; rfl)
    refine u' 11 58 (B' 14 4095) ?_ rfl rfl (by kernel_rfl) (fun _ _ _ h => h) (.inl ⟨by rfl, ?_⟩) ?_ ?_ ?_; rotate_left; (intro w'; go_simp; with_reducible rfl); rotate_left; (simp only [Act.put, p1', p2', p3', i64_w, i32_w]; rfl)
    refine u' 12 59 (B' 14 8191) ?_ rfl rfl (by kernel_rfl) (fun _ _ _ h => h) (.inl ⟨by rfl, ?_⟩) ?_ ?_ ?_; rotate_left; (intro w'; go_simp; with_reducible rfl); rotate_left; (simp only [Act.put, p1', p2', p3', i64_w, i32_w]; rfl)
    refine last_ (i := 13) (N := none) (B' 14 16383) rfl rfl (by kernel_rfl) (by decide) (fun K hK => ?_)
    refine skip_ (w1 := ?_) (by rfl) rfl ?_ ?_
    rotate_left
    · go_simp
      rfl
    refine hK.out _ _ ?_
    clear hK K
    refine done_ (by kernel_rfl) ?_
    go_wp2
    go_roundg d'
    case measure => have := HD.out; omega
    case rel => exact ⟨_, _, _, ⟨_, _, _, HE8.out⟩, HK8, HP'⟩
  · rw [decide_eq_false cc] at hs
    have HSA := A' hs
    clear hs
    have HCC := A' cc
    clear cc
    go_wp2_with (go_at_call 34; refine HSA.out.mono ?_; rintro e w6 ⟨rfl, m6, hw6⟩; have HE6 := A' (show EncRow w6 S' g kind A1 c1 st' l h vo1 out1 from hw6 ▸ HE5.out.drewN m6); have HK6 := A' (show Mods w w6 S from hw6 ▸ HK5.out.drewN m6); clear hw6)
    go_ret
    have hd := HP.out.done HCC.out
    have hE6 := HE6.out
    rw [HSS.out, HST.out] at hE6
    exact ⟨rfl, ⟨l, h, out1, ⟨_, _, _, hE6⟩, hd.1, hd.2⟩, HK6.out⟩
end Go.Proofs.Ytmndieohblpgaaa.Put
namespace Go.Proofs.Ytmndieohblpgaaa.End
open Go Go.RowKit YtmndieohblpgaaaW PrintWords PrintLast PrintMore Aid HandAid Cod1 Cod2 Cod3 Ytmndieohblpgaaa.Mod Enc Mods EncAt Put
theorem put_calls (w : World) (S : Nat → Prop) (g : Nat) (s : ES) (i bit : Int) (hE : EncAt w S g s) (hok : s.ok) (hlen : s.out.length ≤ 1099511627776) :
 Calls Try.prog 24 #[.pointer (some ⟨g, 0, none⟩), .int .i64 i, .int .i64 bit] w fun e w' => e = .returned (.int .i64 (s.err i bit)) ∧ EncAt w' (fun k => (S k ∨ w.heap.size ≤ k) ∧ k < w'.heap.size) g (s.putI i bit) ∧ Mods w w' S := by
 obtain ⟨A, c, vo, hR⟩ := hE
 by_cases hg : s.good i bit = true
 · have e1 : s.err i bit = 0 := if_pos hg
   have e2 : s.putI i bit = s.put i.toNat bit := if_pos hg
   rw [e1, e2]
   simp only [ES.good, Bool.and_eq_true, Bool.or_eq_true, decide_eq_true_eq] at hg
   obtain ⟨⟨h0, h1⟩, hb⟩ := hg
   obtain ⟨j, rfl⟩ : ∃ j : Nat, i = (j : Int) := ⟨i.toNat, by omega⟩
   rw [Int.toNat_natCast]
   have hj : j < s.st.length := by omega
   obtain ⟨b, rfl, _⟩ := hR.cell hj
   have hm := ES.mid_ hok hj
   have hc := ES.cut_ hok hj (bit := bit)
   have := hok.l
   have := hok.h
   have hI : PutInv s.out (cutL s.low (s.mid j) bit) (cutH s.high (s.mid j) bit) 4 (cutL s.low (s.mid j) bit) (cutH s.high (s.mid j) bit) s.out := ⟨hc.1, hc.2.1, hc.2.2, by rw [show (256 : Int) ^ 4 = 4294967296 from rfl]; omega, rfl, rfl, Nat.le_refl _⟩
   have key : Calls Try.prog 24 #[.pointer (some ⟨g, 0, none⟩), .int .i64 j, .int .i64 bit] w (PutPost w S g s.kind s.st s.low s.high (s.mid j) s.out j bit) := by
    rcases hb with rfl | rfl
    · exact put_row0 w S g s.kind b c s.st s.low s.high (s.mid j) vo s.out j hR hj hok.m.2.1 (ES.at_ hok hj) hok.l hok.lh hok.h rfl (by omega) (by omega) hI hlen
    · exact put_row1 w S g s.kind b c s.st s.low s.high (s.mid j) vo s.out j hR hj hok.m.2.1 (ES.at_ hok hj) hok.l hok.lh hok.h rfl (by omega) (by omega) hI hlen
   refine key.mono ?_
   rintro e w' ⟨he, ⟨l, h, out1, hE', ho, hn⟩, hk⟩
   refine ⟨he, ?_, hk⟩
   have hE2 : EncAt w' (fun k => S k ∨ w.heap.size ≤ k) g (s.put j bit) := by
    obtain ⟨A', c', vo', h'⟩ := hE'
    refine ⟨A', c', vo', ?_⟩
    have hn' : s.norm j bit = (out1.drop s.out.length, l, h) := by
     show normE 4 _ _ = _
     rw [ho, List.drop_left, ← hn]
    simp only [ES.put]
    rw [show (s.norm j bit).2.1 = l by rw [hn'], show (s.norm j bit).2.2 = h by rw [hn'], show s.out ++ (s.norm j bit).1 = out1 from ho.symm]
    exact h'
   exact hE2.bound
 · have e1 : s.err i bit = 2 := if_neg hg
   have e2 : s.putI i bit = s := if_neg hg
   rw [e1, e2]
   have hbad : i < 0 ∨ (s.st.length : Int) ≤ i ∨ (bit ≠ 0 ∧ bit ≠ 1) := by
    simp only [ES.good, Bool.and_eq_true, Bool.or_eq_true, decide_eq_true_eq] at hg
    omega
   refine (enc_put_arg w g A s.st.length c i bit hR.iv.s hR.real hbad).mono ?_
   rintro e w' ⟨rfl, rfl⟩
   exact ⟨rfl, ⟨A, c, vo, hR.bound.mono (fun k hk => ⟨.inl hk.1, hk.2⟩)⟩, Mods.refl _ _⟩
def EndPost (w : World) (l : List Int) (e : Ending) (w' : World) : Prop := ∃ A c, e = .returned (.slice A l.length c) ∧ Kd.R (Kd.int .u8) 5 w' w.heap.size (fun _ => True) (.slice A l.length c) l ∧ Below w.heap.size w w'
set_option maxHeartbeats 4000000 in
set_option maxRecDepth 100000 in
theorem end_row (w : World) (S : Nat → Prop) (g : Nat) (kind : Int) (A : Option Addr) (c : Nat) (st : List Int) (low high : Int) (vo : Value) (out : List Int) (hE : EncRow w S g kind A c st low high vo out) (hl0 : 0 ≤ low) (hlh : low ≤ high) (hh : high ≤ 4294967295) (hlen : out.length ≤ 1099511627880) :
 Calls Try.prog 19 #[.pointer (some ⟨g, 0, none⟩)] w (EndPost w (out ++ endOf low high)) := by
 have HE := A' hE
 have h2 := hE.real
 have hh0 : 0 ≤ high := by omega
 clear hE
 have HE1 := A' (HE.out.below (below_alloc (Below.refl _ _) (.cells #[] 5)))
 have HB1 := A' (below_alloc (Below.refl w.heap.size w) (.cells #[] 5))
 have HR1 : Aside0 (Kd.R (Kd.int .u8) 5 (w.alloc (.cells #[] 5)) w.heap.size (fun _ => True) (.slice (some ⟨w.heap.size, 0, none⟩) 0 0) []) := ⟨Kd.R_of_own (enc := Value.int .u8) (World.ownsRow_lit w #[] 0 (Nat.le_refl _) (by decide) rfl) (fun _ _ => trivial)⟩
 have hcv : (w.alloc (.cells #[] 5)).cell? ⟨g, 36, none⟩ = some vo := HE1.out.vo_
 obtain ⟨Ao, co, hvo⟩ := Kd.R_slice HE.out.o
 subst hvo
 have HCo := A' (Kd.R_reads' HE1.out.o).2.2
 go_enter Try.func19, Try.ntmps19
 go_wp2_with (first
  | (go_at_call 27; refine (enc_none _ _ _ h2).mono ?_; rintro e w' ⟨rfl, rfl⟩)
  | (at_builtin; refine Kd.R_append_rows (Kd.int .u8) (w0 := w) w.heap.size (by rfl) (.tmp 9) (.tmp 13) 24 5 (.int .u8 0) 1 rfl Try.underlying24 infoU8 rfl (by decide) (by omega) (.slice (some ⟨w.heap.size, 0, none⟩) 0 0) [] out _ _ _ (fun _ => True) (fun _ => False) rfl rfl HR1.out HCo.out (fun _ _ h => h) (fun _ h => h.elim) (fun _ _ => trivial) HB1.out (Nat.le_of_lt (by simp)) (by simp only [List.length_nil]; omega) ?_; intro v3 w3 hR3 hB3 hg3 hat3; have HR3 := A' hR3; have HB3 := A' hB3; clear hR3 hB3 hg3 hat3))
 clear HR1 HB1 HE1 HCo hcv
 rw [List.nil_append] at HR3
 obtain ⟨A3, c3, hv3⟩ := Kd.R_slice HR3.out
 subst hv3
 go_loopw [3, 15] (fun o i wr => ∃ (k : Nat), k ≤ 4 ∧ i = .int .i64 k ∧ o = .slice A3 out.length c3 ∧ Aside0 (k ≤ endN low high) ∧ Aside0 (Kd.R (Kd.int .u8) 5 wr w.heap.size (fun _ => True) (.slice A3 out.length c3) out) ∧ Aside0 (Below w.heap.size w wr)) (fun _ i _ => 5 - (intOf i).toNat)
 case atStart => exact ⟨0, by omega, rfl, rfl, ⟨Nat.zero_le _⟩, HR3, HB3⟩
 clear HR3 HB3 h2
 case round =>
  obtain ⟨k, hk, rfl, rfl, HK, HR4, HB4⟩ := hrel
  have k34 := (HE.out.below HB4.out).iv.l
  have k35 := (HE.out.below HB4.out).iv.h
  have hcase : k = 0 ∨ k = 1 ∨ k = 2 ∨ k = 3 ∨ k = 4 := by omega
  rcases hcase with rfl | rfl | rfl | rfl | rfl
  · by_cases ct : low ≤ high / 4294967296 * 4294967296
    · have hEN : endN low high = 0 := by
        have := HK.out
        unfold endN at this ⊢
        repeat' split
        all_goals (first | rfl | omega | (split at this <;> omega))
      have hend : out ++ endOf low high = out ++ (hiBytes high).take 0 := by unfold endOf; rw [hEN]
      have HEND := A' hend
      clear hEN hend
      go_wp2
      go_quiet (fail)
      go_wp2
      clear k34 k35 HK
      go_loopg [3, 38] 0 (fun d o i w5 => ∃ (j : Nat), j ≤ 0 ∧ Aside0 (j + d = 0) ∧ i = .int .i64 j ∧ ∃ A5 c5, o = .slice A5 (out.length + j) c5 ∧ Aside0 (Kd.R (Kd.int .u8) 5 w5 w.heap.size (fun _ => True) (.slice A5 (out.length + j) c5) (out ++ (hiBytes high).take j)) ∧ Aside0 (Below w.heap.size w w5))
      case atStart => exact ⟨0, by omega, ⟨by omega⟩, rfl, A3, c3, rfl, ⟨by rw [List.take_zero, List.append_nil]; exact Kd.R_drewN HR4.out _⟩, ⟨pw_below_drewN HB4.out _⟩⟩
      clear HR4 HB4
      case round =>
       obtain ⟨j, hj, HD, rfl, A5, c5, rfl, HR6, HB6⟩ := hrel
       have k35 := (HE.out.below HB6.out).iv.h
       have hcase : j = 0 := by omega
       subst hcase
       · go_wp2
         go_ret
         refine ⟨A5, c5, ?_, ?_, HB6.out⟩
         · rw [HEND.out]; simp [hiBytes]
         · have := HR6.out
           rw [HEND.out]
           simp [hiBytes] at this ⊢
           exact this
    · have HN : 1 ≤ endN low high := by
        have := HK.out
        unfold endN at this ⊢
        repeat' split
        all_goals (first | omega | (split at this <;> omega))
      go_wp2
      go_quiet (fail)
      go_wp2
      go_roundw
      case rel => exact ⟨1, by omega, rfl, rfl, ⟨HN⟩, ⟨Kd.R_drewN HR4.out _⟩, ⟨pw_below_drewN HB4.out _⟩⟩
      case measure => simp [intOf]
  · by_cases ct : low ≤ high / 16777216 * 16777216
    · have hEN : endN low high = 1 := by
        have := HK.out
        unfold endN at this ⊢
        repeat' split
        all_goals (first | rfl | omega | (split at this <;> omega))
      have hend : out ++ endOf low high = out ++ (hiBytes high).take 1 := by unfold endOf; rw [hEN]
      have HEND := A' hend
      clear hEN hend
      go_wp2
      go_quiet (fail)
      go_wp2
      clear k34 k35 HK
      go_loopg [3, 38] 1 (fun d o i w5 => ∃ (j : Nat), j ≤ 1 ∧ Aside0 (j + d = 1) ∧ i = .int .i64 j ∧ ∃ A5 c5, o = .slice A5 (out.length + j) c5 ∧ Aside0 (Kd.R (Kd.int .u8) 5 w5 w.heap.size (fun _ => True) (.slice A5 (out.length + j) c5) (out ++ (hiBytes high).take j)) ∧ Aside0 (Below w.heap.size w w5))
      case atStart => exact ⟨0, by omega, ⟨by omega⟩, rfl, A3, c3, rfl, ⟨by rw [List.take_zero, List.append_nil]; exact Kd.R_drewN HR4.out _⟩, ⟨pw_below_drewN HB4.out _⟩⟩
      clear HR4 HB4
      case round =>
       obtain ⟨j, hj, HD, rfl, A5, c5, rfl, HR6, HB6⟩ := hrel
       have k35 := (HE.out.below HB6.out).iv.h
       have hcase : j = 0 ∨ j = 1 := by omega
       rcases hcase with rfl | rfl
       · have HB7 := A' (below_alloc HB6.out (.cells #[.int .u8 (high / 16777216)] 5))
         have hle := HB6.out.size
         go_wp2_with (at_builtin; refine Kd.R_append (Kd.int .u8) (w0 := w) w.heap.size (by rfl) (.tmp 41) (.tmp 52) 24 5 (.int .u8 0) 1 rfl Try.underlying24 infoU8 rfl (by decide) (by decide) (.slice A5 (out.length + 0) c5) (out ++ (hiBytes high).take 0) (high / 16777216) [.int .u8 (high / 16777216)] (fun _ => True) (fun _ => False) rfl rfl rfl (fun _ h => h.elim) (fun _ _ => trivial) HR6.out HB6.out hle (by simp only [hiBytes, List.length_append, List.length_take, List.length_cons, List.length_nil]; omega) ?_; intro v8 w8 hR8 hB8 hg8 hat8; obtain ⟨A8, c8, hv8⟩ := Kd.R_slice hR8; rw [show (out ++ (hiBytes high).take 0 ++ [high / 16777216]).length = out.length + 1 by simp [hiBytes]] at hv8; subst hv8; have HR8 := A' (show Kd.R (Kd.int .u8) 5 w8 w.heap.size (fun _ => True) (.slice A8 (out.length + 1) c8) (out ++ (hiBytes high).take 1) from by simpa [hiBytes] using hR8); have HB8 := A' hB8; clear hR8 hB8 hg8 hat8)
         go_roundg 0
         case measure => have := HD.out; omega
         case rel => exact ⟨1, by omega, ⟨by omega⟩, rfl, A8, c8, rfl, HR8, HB8⟩
       · go_wp2
         go_ret
         refine ⟨A5, c5, ?_, ?_, HB6.out⟩
         · rw [HEND.out]; simp [hiBytes]
         · have := HR6.out
           rw [HEND.out]
           simp [hiBytes] at this ⊢
           exact this
    · have HN : 2 ≤ endN low high := by
        have := HK.out
        unfold endN at this ⊢
        repeat' split
        all_goals (first | omega | (split at this <;> omega))
      go_wp2
      go_quiet (fail)
      go_wp2
      go_roundw
      case rel => exact ⟨2, by omega, rfl, rfl, ⟨HN⟩, ⟨Kd.R_drewN HR4.out _⟩, ⟨pw_below_drewN HB4.out _⟩⟩
      case measure => simp [intOf]
  · by_cases ct : low ≤ high / 65536 * 65536
    · have hEN : endN low high = 2 := by
        have := HK.out
        unfold endN at this ⊢
        repeat' split
        all_goals (first | rfl | omega | (split at this <;> omega))
      have hend : out ++ endOf low high = out ++ (hiBytes high).take 2 := by unfold endOf; rw [hEN]
      have HEND := A' hend
      clear hEN hend
      go_wp2
      go_quiet (fail)
      go_wp2
      clear k34 k35 HK
      go_loopg [3, 38] 2 (fun d o i w5 => ∃ (j : Nat), j ≤ 2 ∧ Aside0 (j + d = 2) ∧ i = .int .i64 j ∧ ∃ A5 c5, o = .slice A5 (out.length + j) c5 ∧ Aside0 (Kd.R (Kd.int .u8) 5 w5 w.heap.size (fun _ => True) (.slice A5 (out.length + j) c5) (out ++ (hiBytes high).take j)) ∧ Aside0 (Below w.heap.size w w5))
      case atStart => exact ⟨0, by omega, ⟨by omega⟩, rfl, A3, c3, rfl, ⟨by rw [List.take_zero, List.append_nil]; exact Kd.R_drewN HR4.out _⟩, ⟨pw_below_drewN HB4.out _⟩⟩
      clear HR4 HB4
      case round =>
       obtain ⟨j, hj, HD, rfl, A5, c5, rfl, HR6, HB6⟩ := hrel
       have k35 := (HE.out.below HB6.out).iv.h
       have hcase : j = 0 ∨ j = 1 ∨ j = 2 := by omega
       rcases hcase with rfl | rfl | rfl
       · have HB7 := A' (below_alloc HB6.out (.cells #[.int .u8 (high / 16777216)] 5))
         have hle := HB6.out.size
         go_wp2_with (at_builtin; refine Kd.R_append (Kd.int .u8) (w0 := w) w.heap.size (by rfl) (.tmp 41) (.tmp 52) 24 5 (.int .u8 0) 1 rfl Try.underlying24 infoU8 rfl (by decide) (by decide) (.slice A5 (out.length + 0) c5) (out ++ (hiBytes high).take 0) (high / 16777216) [.int .u8 (high / 16777216)] (fun _ => True) (fun _ => False) rfl rfl rfl (fun _ h => h.elim) (fun _ _ => trivial) HR6.out HB6.out hle (by simp only [hiBytes, List.length_append, List.length_take, List.length_cons, List.length_nil]; omega) ?_; intro v8 w8 hR8 hB8 hg8 hat8; obtain ⟨A8, c8, hv8⟩ := Kd.R_slice hR8; rw [show (out ++ (hiBytes high).take 0 ++ [high / 16777216]).length = out.length + 1 by simp [hiBytes]] at hv8; subst hv8; have HR8 := A' (show Kd.R (Kd.int .u8) 5 w8 w.heap.size (fun _ => True) (.slice A8 (out.length + 1) c8) (out ++ (hiBytes high).take 1) from by simpa [hiBytes] using hR8); have HB8 := A' hB8; clear hR8 hB8 hg8 hat8)
         go_roundg 1
         case measure => have := HD.out; omega
         case rel => exact ⟨1, by omega, ⟨by omega⟩, rfl, A8, c8, rfl, HR8, HB8⟩
       · have HB7 := A' (below_alloc HB6.out (.cells #[.int .u8 (high / 65536 % 256)] 5))
         have hle := HB6.out.size
         go_wp2_with (at_builtin; refine Kd.R_append (Kd.int .u8) (w0 := w) w.heap.size (by rfl) (.tmp 41) (.tmp 52) 24 5 (.int .u8 0) 1 rfl Try.underlying24 infoU8 rfl (by decide) (by decide) (.slice A5 (out.length + 1) c5) (out ++ (hiBytes high).take 1) (high / 65536 % 256) [.int .u8 (high / 65536 % 256)] (fun _ => True) (fun _ => False) rfl rfl rfl (fun _ h => h.elim) (fun _ _ => trivial) HR6.out HB6.out hle (by simp only [hiBytes, List.length_append, List.length_take, List.length_cons, List.length_nil]; omega) ?_; intro v8 w8 hR8 hB8 hg8 hat8; obtain ⟨A8, c8, hv8⟩ := Kd.R_slice hR8; rw [show (out ++ (hiBytes high).take 1 ++ [high / 65536 % 256]).length = out.length + 2 by simp [hiBytes]] at hv8; subst hv8; have HR8 := A' (show Kd.R (Kd.int .u8) 5 w8 w.heap.size (fun _ => True) (.slice A8 (out.length + 2) c8) (out ++ (hiBytes high).take 2) from by simpa [hiBytes] using hR8); have HB8 := A' hB8; clear hR8 hB8 hg8 hat8)
         go_roundg 0
         case measure => have := HD.out; omega
         case rel => exact ⟨2, by omega, ⟨by omega⟩, rfl, A8, c8, rfl, HR8, HB8⟩
       · go_wp2
         go_ret
         refine ⟨A5, c5, ?_, ?_, HB6.out⟩
         · rw [HEND.out]; simp [hiBytes]
         · have := HR6.out
           rw [HEND.out]
           simp [hiBytes] at this ⊢
           exact this
    · have HN : 3 ≤ endN low high := by
        have := HK.out
        unfold endN at this ⊢
        repeat' split
        all_goals (first | omega | (split at this <;> omega))
      go_wp2
      go_quiet (fail)
      go_wp2
      go_roundw
      case rel => exact ⟨3, by omega, rfl, rfl, ⟨HN⟩, ⟨Kd.R_drewN HR4.out _⟩, ⟨pw_below_drewN HB4.out _⟩⟩
      case measure => simp [intOf]
  · by_cases ct : low ≤ high / 256 * 256
    · have hEN : endN low high = 3 := by
        have := HK.out
        unfold endN at this ⊢
        repeat' split
        all_goals (first | rfl | omega | (split at this <;> omega))
      have hend : out ++ endOf low high = out ++ (hiBytes high).take 3 := by unfold endOf; rw [hEN]
      have HEND := A' hend
      clear hEN hend
      go_wp2
      go_quiet (fail)
      go_wp2
      clear k34 k35 HK
      go_loopg [3, 38] 3 (fun d o i w5 => ∃ (j : Nat), j ≤ 3 ∧ Aside0 (j + d = 3) ∧ i = .int .i64 j ∧ ∃ A5 c5, o = .slice A5 (out.length + j) c5 ∧ Aside0 (Kd.R (Kd.int .u8) 5 w5 w.heap.size (fun _ => True) (.slice A5 (out.length + j) c5) (out ++ (hiBytes high).take j)) ∧ Aside0 (Below w.heap.size w w5))
      case atStart => exact ⟨0, by omega, ⟨by omega⟩, rfl, A3, c3, rfl, ⟨by rw [List.take_zero, List.append_nil]; exact Kd.R_drewN HR4.out _⟩, ⟨pw_below_drewN HB4.out _⟩⟩
      clear HR4 HB4
      case round =>
       obtain ⟨j, hj, HD, rfl, A5, c5, rfl, HR6, HB6⟩ := hrel
       have k35 := (HE.out.below HB6.out).iv.h
       have hcase : j = 0 ∨ j = 1 ∨ j = 2 ∨ j = 3 := by omega
       rcases hcase with rfl | rfl | rfl | rfl
       · have HB7 := A' (below_alloc HB6.out (.cells #[.int .u8 (high / 16777216)] 5))
         have hle := HB6.out.size
         go_wp2_with (at_builtin; refine Kd.R_append (Kd.int .u8) (w0 := w) w.heap.size (by rfl) (.tmp 41) (.tmp 52) 24 5 (.int .u8 0) 1 rfl Try.underlying24 infoU8 rfl (by decide) (by decide) (.slice A5 (out.length + 0) c5) (out ++ (hiBytes high).take 0) (high / 16777216) [.int .u8 (high / 16777216)] (fun _ => True) (fun _ => False) rfl rfl rfl (fun _ h => h.elim) (fun _ _ => trivial) HR6.out HB6.out hle (by simp only [hiBytes, List.length_append, List.length_take, List.length_cons, List.length_nil]; omega) ?_; intro v8 w8 hR8 hB8 hg8 hat8; obtain ⟨A8, c8, hv8⟩ := Kd.R_slice hR8; rw [show (out ++ (hiBytes high).take 0 ++ [high / 16777216]).length = out.length + 1 by simp [hiBytes]] at hv8; subst hv8; have HR8 := A' (show Kd.R (Kd.int .u8) 5 w8 w.heap.size (fun _ => True) (.slice A8 (out.length + 1) c8) (out ++ (hiBytes high).take 1) from by simpa [hiBytes] using hR8); have HB8 := A' hB8; clear hR8 hB8 hg8 hat8)
         go_roundg 2
         case measure => have := HD.out; omega
         case rel => exact ⟨1, by omega, ⟨by omega⟩, rfl, A8, c8, rfl, HR8, HB8⟩
       · have HB7 := A' (below_alloc HB6.out (.cells #[.int .u8 (high / 65536 % 256)] 5))
         have hle := HB6.out.size
         go_wp2_with (at_builtin; refine Kd.R_append (Kd.int .u8) (w0 := w) w.heap.size (by rfl) (.tmp 41) (.tmp 52) 24 5 (.int .u8 0) 1 rfl Try.underlying24 infoU8 rfl (by decide) (by decide) (.slice A5 (out.length + 1) c5) (out ++ (hiBytes high).take 1) (high / 65536 % 256) [.int .u8 (high / 65536 % 256)] (fun _ => True) (fun _ => False) rfl rfl rfl (fun _ h => h.elim) (fun _ _ => trivial) HR6.out HB6.out hle (by simp only [hiBytes, List.length_append, List.length_take, List.length_cons, List.length_nil]; omega) ?_; intro v8 w8 hR8 hB8 hg8 hat8; obtain ⟨A8, c8, hv8⟩ := Kd.R_slice hR8; rw [show (out ++ (hiBytes high).take 1 ++ [high / 65536 % 256]).length = out.length + 2 by simp [hiBytes]] at hv8; subst hv8; have HR8 := A' (show Kd.R (Kd.int .u8) 5 w8 w.heap.size (fun _ => True) (.slice A8 (out.length + 2) c8) (out ++ (hiBytes high).take 2) from by simpa [hiBytes] using hR8); have HB8 := A' hB8; clear hR8 hB8 hg8 hat8)
         go_roundg 1
         case measure => have := HD.out; omega
         case rel => exact ⟨2, by omega, ⟨by omega⟩, rfl, A8, c8, rfl, HR8, HB8⟩
       · have HB7 := A' (below_alloc HB6.out (.cells #[.int .u8 (high / 256 % 256)] 5))
         have hle := HB6.out.size
         go_wp2_with (at_builtin; refine Kd.R_append (Kd.int .u8) (w0 := w) w.heap.size (by rfl) (.tmp 41) (.tmp 52) 24 5 (.int .u8 0) 1 rfl Try.underlying24 infoU8 rfl (by decide) (by decide) (.slice A5 (out.length + 2) c5) (out ++ (hiBytes high).take 2) (high / 256 % 256) [.int .u8 (high / 256 % 256)] (fun _ => True) (fun _ => False) rfl rfl rfl (fun _ h => h.elim) (fun _ _ => trivial) HR6.out HB6.out hle (by simp only [hiBytes, List.length_append, List.length_take, List.length_cons, List.length_nil]; omega) ?_; intro v8 w8 hR8 hB8 hg8 hat8; obtain ⟨A8, c8, hv8⟩ := Kd.R_slice hR8; rw [show (out ++ (hiBytes high).take 2 ++ [high / 256 % 256]).length = out.length + 3 by simp [hiBytes]] at hv8; subst hv8; have HR8 := A' (show Kd.R (Kd.int .u8) 5 w8 w.heap.size (fun _ => True) (.slice A8 (out.length + 3) c8) (out ++ (hiBytes high).take 3) from by simpa [hiBytes] using hR8); have HB8 := A' hB8; clear hR8 hB8 hg8 hat8)
         go_roundg 0
         case measure => have := HD.out; omega
         case rel => exact ⟨3, by omega, ⟨by omega⟩, rfl, A8, c8, rfl, HR8, HB8⟩
       · go_wp2
         go_ret
         refine ⟨A5, c5, ?_, ?_, HB6.out⟩
         · rw [HEND.out]; simp [hiBytes]
         · have := HR6.out
           rw [HEND.out]
           simp [hiBytes] at this ⊢
           exact this
    · have HN : 4 ≤ endN low high := by
        have := HK.out
        unfold endN at this ⊢
        repeat' split
        all_goals (first | omega | (split at this <;> omega))
      go_wp2
      go_quiet (fail)
      go_wp2
      go_roundw
      case rel => exact ⟨4, by omega, rfl, rfl, ⟨HN⟩, ⟨Kd.R_drewN HR4.out _⟩, ⟨pw_below_drewN HB4.out _⟩⟩
      case measure => simp [intOf]
  · by_cases ct : low ≤ high / 1 * 1
    · have hEN : endN low high = 4 := by
        have := HK.out
        unfold endN at this ⊢
        repeat' split
        all_goals (first | rfl | omega | (split at this <;> omega))
      have hend : out ++ endOf low high = out ++ (hiBytes high).take 4 := by unfold endOf; rw [hEN]
      have HEND := A' hend
      clear hEN hend
      go_wp2
      go_quiet (fail)
      go_wp2
      clear k34 k35 HK
      go_loopg [3, 38] 4 (fun d o i w5 => ∃ (j : Nat), j ≤ 4 ∧ Aside0 (j + d = 4) ∧ i = .int .i64 j ∧ ∃ A5 c5, o = .slice A5 (out.length + j) c5 ∧ Aside0 (Kd.R (Kd.int .u8) 5 w5 w.heap.size (fun _ => True) (.slice A5 (out.length + j) c5) (out ++ (hiBytes high).take j)) ∧ Aside0 (Below w.heap.size w w5))
      case atStart => exact ⟨0, by omega, ⟨by omega⟩, rfl, A3, c3, rfl, ⟨by rw [List.take_zero, List.append_nil]; exact Kd.R_drewN HR4.out _⟩, ⟨pw_below_drewN HB4.out _⟩⟩
      clear HR4 HB4
      case round =>
       obtain ⟨j, hj, HD, rfl, A5, c5, rfl, HR6, HB6⟩ := hrel
       have k35 := (HE.out.below HB6.out).iv.h
       have hcase : j = 0 ∨ j = 1 ∨ j = 2 ∨ j = 3 ∨ j = 4 := by omega
       rcases hcase with rfl | rfl | rfl | rfl | rfl
       · have HB7 := A' (below_alloc HB6.out (.cells #[.int .u8 (high / 16777216)] 5))
         have hle := HB6.out.size
         go_wp2_with (at_builtin; refine Kd.R_append (Kd.int .u8) (w0 := w) w.heap.size (by rfl) (.tmp 41) (.tmp 52) 24 5 (.int .u8 0) 1 rfl Try.underlying24 infoU8 rfl (by decide) (by decide) (.slice A5 (out.length + 0) c5) (out ++ (hiBytes high).take 0) (high / 16777216) [.int .u8 (high / 16777216)] (fun _ => True) (fun _ => False) rfl rfl rfl (fun _ h => h.elim) (fun _ _ => trivial) HR6.out HB6.out hle (by simp only [hiBytes, List.length_append, List.length_take, List.length_cons, List.length_nil]; omega) ?_; intro v8 w8 hR8 hB8 hg8 hat8; obtain ⟨A8, c8, hv8⟩ := Kd.R_slice hR8; rw [show (out ++ (hiBytes high).take 0 ++ [high / 16777216]).length = out.length + 1 by simp [hiBytes]] at hv8; subst hv8; have HR8 := A' (show Kd.R (Kd.int .u8) 5 w8 w.heap.size (fun _ => True) (.slice A8 (out.length + 1) c8) (out ++ (hiBytes high).take 1) from by simpa [hiBytes] using hR8); have HB8 := A' hB8; clear hR8 hB8 hg8 hat8)
         go_roundg 3
         case measure => have := HD.out; omega
         case rel => exact ⟨1, by omega, ⟨by omega⟩, rfl, A8, c8, rfl, HR8, HB8⟩
       · have HB7 := A' (below_alloc HB6.out (.cells #[.int .u8 (high / 65536 % 256)] 5))
         have hle := HB6.out.size
         go_wp2_with (at_builtin; refine Kd.R_append (Kd.int .u8) (w0 := w) w.heap.size (by rfl) (.tmp 41) (.tmp 52) 24 5 (.int .u8 0) 1 rfl Try.underlying24 infoU8 rfl (by decide) (by decide) (.slice A5 (out.length + 1) c5) (out ++ (hiBytes high).take 1) (high / 65536 % 256) [.int .u8 (high / 65536 % 256)] (fun _ => True) (fun _ => False) rfl rfl rfl (fun _ h => h.elim) (fun _ _ => trivial) HR6.out HB6.out hle (by simp only [hiBytes, List.length_append, List.length_take, List.length_cons, List.length_nil]; omega) ?_; intro v8 w8 hR8 hB8 hg8 hat8; obtain ⟨A8, c8, hv8⟩ := Kd.R_slice hR8; rw [show (out ++ (hiBytes high).take 1 ++ [high / 65536 % 256]).length = out.length + 2 by simp [hiBytes]] at hv8; subst hv8; have HR8 := A' (show Kd.R (Kd.int .u8) 5 w8 w.heap.size (fun _ => True) (.slice A8 (out.length + 2) c8) (out ++ (hiBytes high).take 2) from by simpa [hiBytes] using hR8); have HB8 := A' hB8; clear hR8 hB8 hg8 hat8)
         go_roundg 2
         case measure => have := HD.out; omega
         case rel => exact ⟨2, by omega, ⟨by omega⟩, rfl, A8, c8, rfl, HR8, HB8⟩
       · have HB7 := A' (below_alloc HB6.out (.cells #[.int .u8 (high / 256 % 256)] 5))
         have hle := HB6.out.size
         go_wp2_with (at_builtin; refine Kd.R_append (Kd.int .u8) (w0 := w) w.heap.size (by rfl) (.tmp 41) (.tmp 52) 24 5 (.int .u8 0) 1 rfl Try.underlying24 infoU8 rfl (by decide) (by decide) (.slice A5 (out.length + 2) c5) (out ++ (hiBytes high).take 2) (high / 256 % 256) [.int .u8 (high / 256 % 256)] (fun _ => True) (fun _ => False) rfl rfl rfl (fun _ h => h.elim) (fun _ _ => trivial) HR6.out HB6.out hle (by simp only [hiBytes, List.length_append, List.length_take, List.length_cons, List.length_nil]; omega) ?_; intro v8 w8 hR8 hB8 hg8 hat8; obtain ⟨A8, c8, hv8⟩ := Kd.R_slice hR8; rw [show (out ++ (hiBytes high).take 2 ++ [high / 256 % 256]).length = out.length + 3 by simp [hiBytes]] at hv8; subst hv8; have HR8 := A' (show Kd.R (Kd.int .u8) 5 w8 w.heap.size (fun _ => True) (.slice A8 (out.length + 3) c8) (out ++ (hiBytes high).take 3) from by simpa [hiBytes] using hR8); have HB8 := A' hB8; clear hR8 hB8 hg8 hat8)
         go_roundg 1
         case measure => have := HD.out; omega
         case rel => exact ⟨3, by omega, ⟨by omega⟩, rfl, A8, c8, rfl, HR8, HB8⟩
       · have HB7 := A' (below_alloc HB6.out (.cells #[.int .u8 (high % 256)] 5))
         have hle := HB6.out.size
         go_wp2_with (at_builtin; refine Kd.R_append (Kd.int .u8) (w0 := w) w.heap.size (by rfl) (.tmp 41) (.tmp 52) 24 5 (.int .u8 0) 1 rfl Try.underlying24 infoU8 rfl (by decide) (by decide) (.slice A5 (out.length + 3) c5) (out ++ (hiBytes high).take 3) (high % 256) [.int .u8 (high % 256)] (fun _ => True) (fun _ => False) rfl rfl rfl (fun _ h => h.elim) (fun _ _ => trivial) HR6.out HB6.out hle (by simp only [hiBytes, List.length_append, List.length_take, List.length_cons, List.length_nil]; omega) ?_; intro v8 w8 hR8 hB8 hg8 hat8; obtain ⟨A8, c8, hv8⟩ := Kd.R_slice hR8; rw [show (out ++ (hiBytes high).take 3 ++ [high % 256]).length = out.length + 4 by simp [hiBytes]] at hv8; subst hv8; have HR8 := A' (show Kd.R (Kd.int .u8) 5 w8 w.heap.size (fun _ => True) (.slice A8 (out.length + 4) c8) (out ++ (hiBytes high).take 4) from by simpa [hiBytes] using hR8); have HB8 := A' hB8; clear hR8 hB8 hg8 hat8)
         go_roundg 0
         case measure => have := HD.out; omega
         case rel => exact ⟨4, by omega, ⟨by omega⟩, rfl, A8, c8, rfl, HR8, HB8⟩
       · go_wp2
         go_ret
         refine ⟨A5, c5, ?_, ?_, HB6.out⟩
         · rw [HEND.out]; simp [hiBytes]
         · have := HR6.out
           rw [HEND.out]
           simp [hiBytes] at this ⊢
           exact this
    · exact absurd ct (by omega)
theorem end_calls (w : World) (S : Nat → Prop) (g : Nat) (s : ES) (hE : EncAt w S g s) (hok : s.ok) (hlen : s.out.length ≤ 1099511627880) :
 Calls Try.prog 19 #[.pointer (some ⟨g, 0, none⟩)] w (EndPost w s.end_) := by
 obtain ⟨A, c, vo, hR⟩ := hE
 exact end_row w S g s.kind A c s.st s.low s.high vo s.out hR hok.l hok.lh hok.h hlen
end Go.Proofs.Ytmndieohblpgaaa.End
namespace Go.Proofs.Ytmndieohblpgaaa.Snc
open Go Go.RowKit YtmndieohblpgaaaW PrintWords PrintLast PrintMore Aid HandAid Cod1 Cod2 Cod3 Ytmndieohblpgaaa.Mod Enc Mods EncAt Put End U
/-- A new encoder's state. -/
def newES (kind : Int) (st : List Int) : ES := ⟨kind, st, 0, 4294967295, []⟩
theorem newES_ok {kind : Int} {st : List Int} (h : okModel kind st) : (newES kind st).ok := ⟨h, show (0 : Int) ≤ 0 by decide, show (0 : Int) ≤ 4294967295 by decide, show (4294967295 : Int) ≤ 4294967295 by decide, show (0 : Int) / 16777216 ≠ 4294967295 / 16777216 by decide⟩
/-- The blocks from B on, as far as they go. -/
def Since (B : Nat) (W : World) (k : Nat) : Prop := B ≤ k ∧ k < W.heap.size
theorem new_enc (A : Option Addr) (c : Nat) (kind : Int) (st : List Int) (w : World) (hC : Kd.C (Kd.int .i64) w A st.length st) (hc : st.length ≤ c) (hm : okModel kind st) :
 Calls Try.prog 15 #[.agg #[.int .i64 kind, .slice A st.length c]] w fun e w' => ∃ g, e = .returned (.tuple #[.pointer (some ⟨g, 0, none⟩), .int .i64 0]) ∧ EncAt w' (Since w.heap.size w') g (newES kind st) ∧ Below w.heap.size w w' := by
 refine (newenc_calls A c kind st w hC hc hm).mono ?_
 rintro e w' ⟨g, rfl, hE, hb⟩
 refine ⟨g, rfl, ?_, hb⟩
 obtain ⟨A', n', c', vo, hh, hs, ho⟩ := hE.ex
 obtain ⟨hn, _, _⟩ := Kd.R_reads' hs
 subst hn
 exact ⟨A', c', vo, hh, Kd.R_lower hs (Nat.zero_le _), Kd.R_lower ho (Nat.zero_le _), hE.og⟩
end Go.Proofs.Ytmndieohblpgaaa.Snc
