import Derived.Test.YtnadgcdkcabdoaaMPrefixComplete1
import Derived.Test.YtnadgcdkcabdoaaMPrefixComplete3
import Derived.Test.YtnadgcdkcabdoaaMPrefixComplete2
import Derived.Maps.OwnOps
import Derived.Maps.OwnSet
import Derived.DeepKeys3
import Derived.StillTailTactics
import Derived.Laws.ResultCell
set_option linter.unusedVariables false
set_option linter.unusedSimpArgs false
namespace Go.Proofs.Ytnadgcdkcabdoaa.U
open Go.RowKit Go.Proofs.YtnadgcdkcabdoaaW.PrintWords Go.Proofs.YtnadgcdkcabdoaaW.PrintLast Go.Proofs.YtnadgcdkcabdoaaW.PrintMore
attribute [local go_sem] max2_int min2_int max_two min_two max_three min_three max_four min_four   -- for this text's walks alone
def incunableref04_Bits.l0 : Nat → List (S32) → Int → List (S32) → Int → Int → Bool → Int → Option (List Int × Bool)
  | 0, _, _, _, _, _, _, _ => none
  | k + 1, x0, x6, x13, x14, x15, x477000, x477001 => if x15 < x14 then (if 0 ≤ x15 then (if x15 < (x13.length : Int) then ((incunableref04_Place.f k ((rd_T32 x13 x15).f0) ((rd_T32 x13 x15).f1) ((rd_T32 x13 x15).f2) ((rd_T32 x13 x15).f3) x477000 x477001).bind fun bt479 => ((incunableref04_used.f ((rd_T32 x13 x15).f0) ((rd_T32 x13 x15).f1) ((rd_T32 x13 x15).f2) ((rd_T32 x13 x15).f3)).bind fun t481 => (if t481 = true then (if bt479.2 = true then (if x6 < 0 then (incunableref04_Bits.l0 k x0 x15 x13 x14 (wrap64 (x15 + 1)) x477000 x477001) else (if 0 ≤ x6 then (if x6 < (x0.length : Int) then (if (wrap64 (((rd_T32 x13 x15).f0) + ((rd_T32 x13 x15).f1))) < (wrap64 (((rd_T32 x0 x6).f0) + ((rd_T32 x0 x6).f1))) then (incunableref04_Bits.l0 k x0 x15 x13 x14 (wrap64 (x15 + 1)) x477000 x477001) else (incunableref04_Bits.l0 k x0 x6 x13 x14 (wrap64 (x15 + 1)) x477000 x477001)) else (none)) else (none))) else (incunableref04_Bits.l0 k x0 x6 x13 x14 (wrap64 (x15 + 1)) x477000 x477001)) else (incunableref04_Bits.l0 k x0 x6 x13 x14 (wrap64 (x15 + 1)) x477000 x477001)))) else (none)) else (none)) else (if x6 < 0 then (some (([] : List Int), false)) else (if 0 ≤ x6 then (if x6 < (x0.length : Int) then ((incunableref04_Place.f k ((rd_T32 x0 x6).f0) ((rd_T32 x0 x6).f1) ((rd_T32 x0 x6).f2) ((rd_T32 x0 x6).f3) x477000 x477001).bind fun bt485 => ((incunableref04_Code.f k x0 x6).bind fun t487 => ((incunableref04_digits.f k bt485.1 ((rd_T32 x0 x6).f1)).bind fun t491 => (if t487.length + t491.length < 140737488355328 then (some ((t487 ++ t491), true)) else (none))))) else (none)) else (none)))
def incunableref04_Bits.f (k : Nat) (l0 : List (S32)) (a1_0 : Bool) (a1_1 : Int) : Option (List Int × Bool) := incunableref04_Bits.l0 k l0 (-1) l0 (l0.length : Int) 0 a1_0 a1_1
theorem incunableref04_Bits.mono_l : ∀ k, (∀ y0 y1 y2 y3 y4 y5 y6, LeO (incunableref04_Bits.l0 k y0 y1 y2 y3 y4 y5 y6) (incunableref04_Bits.l0 (k + 1) y0 y1 y2 y3 y4 y5 y6))
  | 0 => fun _ _ _ _ _ _ _ r h => by simp [incunableref04_Bits.l0] at h
  | k + 1 => by
    have ih0 := incunableref04_Bits.mono_l k
    · intro y0 y1 y2 y3 y4 y5 y6
      unfold incunableref04_Bits.l0
      repeat' first
      | (with_reducible exact ih0 _ _ _ _ _ _ _)
      | (with_reducible exact incunableref04_Code.mono _ _ _)
      | (with_reducible exact incunableref04_Place.mono _ _ _ _ _ _ _)
      | (with_reducible exact incunableref04_digits.mono _ _ _)
      | (with_reducible exact LeO.refl _)
      | (with_reducible exact LeO.none _)
      | (with_reducible refine LeO.ite ?_ ?_)
      | (with_reducible refine LeO.bind ?_ (fun _ => ?_))
      | exact ih0 _ _ _ _ _ _ _
      | exact incunableref04_Code.mono _ _ _
      | exact incunableref04_Place.mono _ _ _ _ _ _ _
      | exact incunableref04_digits.mono _ _ _
      | exact LeO.none _
      | refine LeO.ite ?_ ?_
      | refine LeO.bind ?_ (fun _ => ?_)
theorem incunableref04_Bits.mono : ∀ a0 a1 a2 k, LeO (incunableref04_Bits.f k a0 a1 a2) (incunableref04_Bits.f (k + 1) a0 a1 a2) := by
 intro a0 a1 a2 k; have ih0 := incunableref04_Bits.mono_l k; unfold incunableref04_Bits.f
 repeat' first
  | (with_reducible exact ih0 _ _ _ _ _ _ _)
  | (with_reducible exact incunableref04_Code.mono _ _ _)
  | (with_reducible exact incunableref04_Place.mono _ _ _ _ _ _ _)
  | (with_reducible exact incunableref04_digits.mono _ _ _)
  | (with_reducible exact LeO.refl _)
  | (with_reducible exact LeO.none _)
  | (with_reducible refine LeO.ite ?_ ?_)
  | (with_reducible refine LeO.bind ?_ (fun _ => ?_))
  | exact ih0 _ _ _ _ _ _ _
  | exact incunableref04_Code.mono _ _ _
  | exact incunableref04_Place.mono _ _ _ _ _ _ _
  | exact incunableref04_digits.mono _ _ _
  | exact LeO.none _
  | refine LeO.ite ?_ ?_
  | refine LeO.bind ?_ (fun _ => ?_)
def incunableref04_Bits.T6 : Bool × List (List Nat × List Nat) := (true, [([], []), ([0], [0]), ([1, 1], [1]), ([2], [2]), ([2, 3], [2, 3]), ([4, 2], [4]), ([5], [5]), ([6, 5], [5, 6]), ([7, 5, 5], [5, 7]), ([8], [8]), ([9, 8], [8, 9]), ([8], [8]), ([11, 8], [8, 11]), ([10, 12, 8], [8, 10, 12]), ([8], [8]), ([8], [8]), ([14, 15, 8], [8, 14, 15]), ([16, 8], [8, 16]), ([17, 8], [8, 17]), ([8], [8]), ([8], [8]), ([19, 20, 8], [8, 19, 20]), ([21, 8], [8, 21]), ([22, 8], [8, 22]), ([18, 23, 8], [8, 18, 23]), ([13, 24, 8], [8, 13, 24]), ([8, 25, 5], [5, 8, 25]), ([5, 26], [5, 26])])
def incunableref04_Bits.B6 : List Nat := [0, 1, 3, 7, 15, 31, 63, 127, 255, 511, 1023, 511, 2559, 8191, 511, 511, 49663, 115199, 246271, 511, 511, 1573375, 3670527, 7864831, 16761343, 33554431, 67108863, 134217727]
theorem incunableref04_Bits.tab6 : rtab .any (opsOf Try.f31 6) = incunableref04_Bits.T6 := by kernel_rfl
theorem incunableref04_Bits.bits6 : waitsOk incunableref04_Bits.T6.2 incunableref04_Bits.B6 = true := by kernel_rfl
def incunableref04_Bits.T11 : Bool × List (List Nat × List Nat) := (true, [([], []), ([], []), ([0, 1], [0, 1]), ([2], [2]), ([], []), ([3, 4], [3, 4]), ([5], [5]), ([6], [6]), ([6], [6]), ([7, 5, 0, 1, 2, 3, 4, 5, 6, 7], [7]), ([8, 9, 0, 1, 2, 3, 4, 5, 6, 7, 8, 9], [8])])
def incunableref04_Bits.B11 : List Nat := [0, 0, 3, 7, 0, 31, 63, 127, 127, 255, 1023]
theorem incunableref04_Bits.tab11 : rtab .any (opsOf Try.f31 11) = incunableref04_Bits.T11 := by kernel_rfl
theorem incunableref04_Bits.bits11 : waitsOk incunableref04_Bits.T11.2 incunableref04_Bits.B11 = true := by kernel_rfl
def incunableref04_Bits.T12 : Bool × List (List Nat × List Nat) := (true, [([], []), ([], []), ([0, 1], [0, 1]), ([], []), ([], []), ([], []), ([4, 5], [4, 5]), ([6], [6]), ([7], [7]), ([3, 8, 2], [3, 8]), ([2, 9, 9], [2, 9]), ([10, 10, 0, 1, 2, 3, 4, 5, 6, 7, 8, 9, 10], [10]), ([11, 0, 1, 2, 3, 4, 5, 6, 7, 8, 9, 10, 11], [])])
def incunableref04_Bits.B12 : List Nat := [0, 0, 3, 0, 0, 0, 48, 112, 240, 511, 1023, 2047, 4095]
theorem incunableref04_Bits.tab12 : rtab .any (opsOf Try.f31 12) = incunableref04_Bits.T12 := by kernel_rfl
theorem incunableref04_Bits.bits12 : waitsOk incunableref04_Bits.T12.2 incunableref04_Bits.B12 = true := by kernel_rfl
set_option maxHeartbeats 8000000 in
set_option maxRecDepth 100000 in
theorem incunableref04_Bits.calls (k : Nat) (A0 : Option Addr) (c0 : Nat) (l0 : List (S32)) (a1_0 : Bool) (a1_1 : Int) (r1 : List Int) (r2 : Bool) (w : World) (hr0 : Kd.C k32 w A0 l0.length l0) (hc0 : l0.length ≤ c0) (h : incunableref04_Bits.f k l0 a1_0 a1_1 = some (r1, r2)) :
    Calls Try.prog 31 #[.slice A0 l0.length c0, .agg #[.bool a1_0, .int .i64 a1_1]] w fun e w' => ∃ v0_ : Value, e = .returned (.tuple #[v0_, .bool r2]) ∧ Kd.R (Kd.int .u8) 5 w' w.heap.size (fun _ => True) v0_ r1 ∧ Below w.heap.size w w' := by
 have hu48 := Try.underlying48; have hu32 := Try.underlying32; have HR0 := Aside0.mk hr0; have HC0 := Aside0.mk hc0; clear hr0 hc0; have HB := Aside0.mk (Below.refl w.heap.size w); have H : (incunableref04_Bits.l0 k l0 (-1) l0 (l0.length : Int) 0 a1_0 a1_1) = some (r1, r2) := h; clear h; have H' := Aside0.mk H; clear H; go_enter Try.func31, Try.ntmps31; go_wp2_with (first | ((with_reducible refine gate_dst (N := 3) rfl ?_); refine box_event ?hg (N := 3) ?hd (cs := #[.bool a1_0, .int .i64 a1_1]) (t := 48) ?hr ?_; (case hd => rfl); (case hg => rfl); (case hr => first | (go_simp; done) | (go_simp; rfl)); intro gb476 hg w3 hbox hb; have n0_ := Aside0.mk (below_step (by repeat (first | (with_reducible first | exact HB.out | apply below_alloc | apply pw_below_drewN | apply below_drew1) | exact HB.out)) hb); have n1_ := Aside0.mk (hbox); have n2_ := Aside0.mk ((by rw [hg]; exact (below_size (by repeat (first | (with_reducible first | exact HB.out | apply below_alloc | apply pw_below_drewN | apply below_drew1) | exact HB.out))) : w.heap.size ≤ gb476)); have n3_ := Aside0.mk ((by rw [hg]; exact (below_size (by repeat (first | (with_reducible first | exact HB.out | apply below_alloc | apply pw_below_drewN | apply below_drew1) | exact HB.out))) : w.heap.size ≤ gb476)); clear HB; have HB := n0_; have BK476 := n1_; have GW476 := n2_; have GE476 := n3_; clear n0_ n1_ n2_ n3_; clear hb hbox hg))
 go_loopg [6, 15] k (fun kq v6 v15 w' => ∃ (x6_1 : Int) (x15_1 : Int), v6 = .int .i64 x6_1 ∧ v15 = .int .i64 x15_1 ∧ Aside0 (incunableref04_Bits.l0 kq l0 x6_1 l0 (l0.length : Int) x15_1 a1_0 a1_1 = some (r1, r2)) ∧ Aside0 (kq ≤ k) ∧ Aside0 (w'.heap[gb476]? = some (.cells #[.bool a1_0, .int .i64 a1_1] 48 (0, 0))) ∧ Aside0 (Below w.heap.size w w')); (case atStart => exact ⟨((-1)), (0), (by first | rfl | (simp; done) | (simp [*]; done)), (by first | rfl | (simp; done) | (simp [*]; done)), H', ⟨Nat.le_refl _⟩, ⟨by (with_reducible repeat (first | refine blk_drewN ?_ _ | refine blk_drew ?_ | refine blk_alloc ?_ _)); exact BK476.out⟩, ⟨by repeat (first | (with_reducible first | exact HB.out | apply below_alloc | apply pw_below_drewN | apply below_drew1 | refine below_set ?_ GE476.out) | exact HB.out)⟩⟩)
 case round =>
  clear H'; (try clear p2); (try clear c3); obtain ⟨x6_1, x15_1, rfl, rfl, HA, HK1, BK476, HB⟩ := hrel
  cases gk with
  | zero => exact absurd HA.out (by simp [incunableref04_Bits.l0])
  | succ k1 =>
   have H := HA.out; clear HA; simp only [incunableref04_Bits.l0] at H; by_cases c4 : x15_1 < (l0.length : Int)
   (· rw [if_pos c4] at H; have c4b0 : decide (x15_1 < (l0.length : Int)) = true := decide_eq_true c4; clear c4; by_cases c5 : 0 ≤ x15_1; (· rw [if_pos c5] at H; have c5b0 : decide (0 ≤ x15_1) = true := decide_eq_true c5; clear c5; by_cases c6 : x15_1 < (l0.length : Int); (· rw [if_pos c6] at H; have c6b0 : decide (x15_1 < (l0.length : Int)) = true := decide_eq_true c6; clear c6; replace H := Option.bind_eq_some_iff.mp H; obtain ⟨⟨t479, t480⟩, A70, H⟩ := H; replace H : ((incunableref04_used.f ((rd_T32 l0 x15_1).f0) ((rd_T32 l0 x15_1).f1) ((rd_T32 l0 x15_1).f2) ((rd_T32 l0 x15_1).f3)).bind fun t481 => (if t481 = true then (if t480 = true then (if x6_1 < 0 then (incunableref04_Bits.l0 k1 l0 x15_1 l0 (l0.length : Int) (wrap64 (x15_1 + 1)) a1_0 a1_1) else (if 0 ≤ x6_1 then (if x6_1 < (l0.length : Int) then (if (wrap64 (((rd_T32 l0 x15_1).f0) + ((rd_T32 l0 x15_1).f1))) < (wrap64 (((rd_T32 l0 x6_1).f0) + ((rd_T32 l0 x6_1).f1))) then (incunableref04_Bits.l0 k1 l0 x15_1 l0 (l0.length : Int) (wrap64 (x15_1 + 1)) a1_0 a1_1) else (incunableref04_Bits.l0 k1 l0 x6_1 l0 (l0.length : Int) (wrap64 (x15_1 + 1)) a1_0 a1_1)) else (none)) else (none))) else (incunableref04_Bits.l0 k1 l0 x6_1 l0 (l0.length : Int) (wrap64 (x15_1 + 1)) a1_0 a1_1)) else (incunableref04_Bits.l0 k1 l0 x6_1 l0 (l0.length : Int) (wrap64 (x15_1 + 1)) a1_0 a1_1))) = some (r1, r2) := H; have A7 := Aside0.mk A70; clear A70; replace H := Option.bind_eq_some_iff.mp H; obtain ⟨t481, A80, H⟩ := H; replace H : (if t481 = true then (if t480 = true then (if x6_1 < 0 then (incunableref04_Bits.l0 k1 l0 x15_1 l0 (l0.length : Int) (wrap64 (x15_1 + 1)) a1_0 a1_1) else (if 0 ≤ x6_1 then (if x6_1 < (l0.length : Int) then (if (wrap64 (((rd_T32 l0 x15_1).f0) + ((rd_T32 l0 x15_1).f1))) < (wrap64 (((rd_T32 l0 x6_1).f0) + ((rd_T32 l0 x6_1).f1))) then (incunableref04_Bits.l0 k1 l0 x15_1 l0 (l0.length : Int) (wrap64 (x15_1 + 1)) a1_0 a1_1) else (incunableref04_Bits.l0 k1 l0 x6_1 l0 (l0.length : Int) (wrap64 (x15_1 + 1)) a1_0 a1_1)) else (none)) else (none))) else (incunableref04_Bits.l0 k1 l0 x6_1 l0 (l0.length : Int) (wrap64 (x15_1 + 1)) a1_0 a1_1)) else (incunableref04_Bits.l0 k1 l0 x6_1 l0 (l0.length : Int) (wrap64 (x15_1 + 1)) a1_0 a1_1)) = some (r1, r2) := H; have A8 := Aside0.mk A80; clear A80; by_cases c9 : t481 = true; (· subst c9; (have H1 : (if t480 = true then (if x6_1 < 0 then (incunableref04_Bits.l0 k1 l0 x15_1 l0 (l0.length : Int) (wrap64 (x15_1 + 1)) a1_0 a1_1) else (if 0 ≤ x6_1 then (if x6_1 < (l0.length : Int) then (if (wrap64 (((rd_T32 l0 x15_1).f0) + ((rd_T32 l0 x15_1).f1))) < (wrap64 (((rd_T32 l0 x6_1).f0) + ((rd_T32 l0 x6_1).f1))) then (incunableref04_Bits.l0 k1 l0 x15_1 l0 (l0.length : Int) (wrap64 (x15_1 + 1)) a1_0 a1_1) else (incunableref04_Bits.l0 k1 l0 x6_1 l0 (l0.length : Int) (wrap64 (x15_1 + 1)) a1_0 a1_1)) else (none)) else (none))) else (incunableref04_Bits.l0 k1 l0 x6_1 l0 (l0.length : Int) (wrap64 (x15_1 + 1)) a1_0 a1_1)) = some (r1, r2) := by rw [if_pos rfl] at H; exact H); clear H; have H := H1; clear H1; by_cases c10 : t480 = true; (· subst c10; (have H1 : (if x6_1 < 0 then (incunableref04_Bits.l0 k1 l0 x15_1 l0 (l0.length : Int) (wrap64 (x15_1 + 1)) a1_0 a1_1) else (if 0 ≤ x6_1 then (if x6_1 < (l0.length : Int) then (if (wrap64 (((rd_T32 l0 x15_1).f0) + ((rd_T32 l0 x15_1).f1))) < (wrap64 (((rd_T32 l0 x6_1).f0) + ((rd_T32 l0 x6_1).f1))) then (incunableref04_Bits.l0 k1 l0 x15_1 l0 (l0.length : Int) (wrap64 (x15_1 + 1)) a1_0 a1_1) else (incunableref04_Bits.l0 k1 l0 x6_1 l0 (l0.length : Int) (wrap64 (x15_1 + 1)) a1_0 a1_1)) else (none)) else (none))) = some (r1, r2) := by rw [if_pos rfl] at H; exact H); clear H; have H := H1; clear H1; by_cases c11 : x6_1 < 0; (· rw [if_pos c11] at H; have c11b0 : decide (x6_1 < 0) = true := decide_eq_true c11; clear c11; have H' := Aside0.mk H; clear H; have p477 : 0 ≤ (x15_1 : Int) := of_decide_eq_true (by first | (with_reducible assumption) | assumption); have q477 : x15_1 < (l0.length : Int) := of_decide_eq_true (by first | (with_reducible assumption) | assumption); obtain ⟨ad477, e477, hx477_0, hx477_1, hx477_2, hx477_3⟩ := at_T32 HR0.out x15_1 p477 q477; cases e477; replace hx477_0 := (HB.out.cell (World.block_lt_of_cell? w _ hx477_0)).trans hx477_0; replace hx477_1 := (HB.out.cell (World.block_lt_of_cell? w _ hx477_1)).trans hx477_1; replace hx477_2 := (HB.out.cell (World.block_lt_of_cell? w _ hx477_2)).trans hx477_2; replace hx477_3 := (HB.out.cell (World.block_lt_of_cell? w _ hx477_3)).trans hx477_3; replace p477 := eq_true p477; replace q477 := eq_true q477; (try go_wp2_with (first | ((with_reducible refine gate_dst (N := 8) rfl ?_); refine box_event ?hg (N := 8) ?hd (cs := #[.int .i64 0, .int .i64 0, .int .i64 0, .int .i64 0]) (t := 32) ?hr ?_; (case hd => rfl); (case hg => rfl); (case hr => first | (go_simp; done) | (go_simp; rfl)); intro gb478 hg w12 hbox hb; have n0_ := Aside0.mk (blk_below (g := gb476) (o := .cells #[.bool a1_0, .int .i64 a1_1] 48 (0, 0)) (by (with_reducible repeat (first | refine blk_drewN ?_ _ | refine blk_drew ?_ | refine blk_alloc ?_ _)); exact BK476.out) hb); have n1_ := Aside0.mk (below_step (by repeat (first | (with_reducible first | exact HB.out | apply below_alloc | apply pw_below_drewN | apply below_drew1 | refine below_set ?_ GE476.out) | exact HB.out)) hb); have n2_ := Aside0.mk (hbox); have n3_ := Aside0.mk ((by rw [hg]; exact (below_size (by repeat (first | (with_reducible first | exact HB.out | apply below_alloc | apply pw_below_drewN | apply below_drew1 | refine below_set ?_ GE476.out) | exact HB.out))) : w.heap.size ≤ gb478)); have n4_ := Aside0.mk ((by rw [hg]; exact (below_size (by repeat (first | (with_reducible first | exact HB.out | apply below_alloc | apply pw_below_drewN | apply below_drew1 | refine below_set ?_ GE476.out) | exact HB.out))) : w.heap.size ≤ gb478)); have n5_ := Aside0.mk ((by rw [hg]; exact Nat.ne_of_lt (blk_lt (g := gb476) (o := .cells #[.bool a1_0, .int .i64 a1_1] 48 (0, 0)) (by (with_reducible repeat (first | refine blk_drewN ?_ _ | refine blk_drew ?_ | refine blk_alloc ?_ _)); exact BK476.out)) : gb476 ≠ gb478)); have n6_ := Aside0.mk ((by rw [hg]; exact Nat.ne_of_gt (blk_lt (g := gb476) (o := .cells #[.bool a1_0, .int .i64 a1_1] 48 (0, 0)) (by (with_reducible repeat (first | refine blk_drewN ?_ _ | refine blk_drew ?_ | refine blk_alloc ?_ _)); exact BK476.out)) : gb478 ≠ gb476)); clear BK476; clear HB; have BK476 := n0_; have HB := n1_; have BK478 := n2_; have GW478 := n3_; have GE478 := n4_; have NB476_478 := n5_; have NB478_476 := n6_; clear n0_ n1_ n2_ n3_ n4_ n5_ n6_; clear hb hbox hg; have hnb13 := NB478_476.out; have hnc13 := NB476_478.out; have hcz14_0 : w12.cell? ⟨gb478, 0, none⟩ = some (.int .i64 0) := (blk_cell BK478.out 0).trans rfl; have hcz14_1 : w12.cell? ⟨gb478, 1, none⟩ = some (.int .i64 0) := (blk_cell BK478.out 1).trans rfl; have hcz14_2 : w12.cell? ⟨gb478, 2, none⟩ = some (.int .i64 0) := (blk_cell BK478.out 2).trans rfl; have hcz14_3 : w12.cell? ⟨gb478, 3, none⟩ = some (.int .i64 0) := (blk_cell BK478.out 3).trans rfl; have hfz14_0 := blk_frozen BK478.out 0; have hfz14_1 := blk_frozen BK478.out 1; have hfz14_2 := blk_frozen BK478.out 2; have hfz14_3 := blk_frozen BK478.out 3; have hcz15_0 : w12.cell? ⟨gb476, 0, none⟩ = some (.bool a1_0) := (blk_cell BK476.out 0).trans rfl; have hcz15_1 : w12.cell? ⟨gb476, 1, none⟩ = some (.int .i64 a1_1) := (blk_cell BK476.out 1).trans rfl; have hfz15_0 := blk_frozen BK476.out 0; have hfz15_1 := blk_frozen BK476.out 1) | ((with_reducible refine gate_callee (f := 54) rfl ?_); refine goesL_ (some 23) rfl rfl Try.func54 (by kernel_rfl) rfl #[.agg #[.int .i64 ((rd_T32 l0 x15_1).f0), .int .i64 ((rd_T32 l0 x15_1).f1), .int .i64 ((rd_T32 l0 x15_1).f2), .int .i64 ((rd_T32 l0 x15_1).f3)], .agg #[.bool a1_0, .int .i64 a1_1]] rfl (by (try simp only [List.map_toArray, List.map_cons, List.map_nil]); first | done | rfl | (simp only [List.length_drop, List.length_take]; rfl)) ?_; (with_reducible refine (incunableref04_Place.calls k1 ((rd_T32 l0 x15_1).f0) ((rd_T32 l0 x15_1).f1) ((rd_T32 l0 x15_1).f2) ((rd_T32 l0 x15_1).f3) a1_0 a1_1 t479 true _ A7.out).mono ?_); rintro e w16 ⟨rfl, hb⟩; refine ⟨_, rfl, ?_⟩; have n0_ := Aside0.mk (blk_below (g := gb476) (o := .cells #[.bool a1_0, .int .i64 a1_1] 48 (0, 0)) (by (with_reducible repeat (first | refine blk_drewN ?_ _ | refine blk_drew ?_ | refine blk_alloc ?_ _)); refine blk_far ?_ NB476_478.out _; (with_reducible repeat (first | refine blk_drewN ?_ _ | refine blk_drew ?_ | refine blk_alloc ?_ _)); refine blk_far ?_ NB476_478.out _; (with_reducible repeat (first | refine blk_drewN ?_ _ | refine blk_drew ?_ | refine blk_alloc ?_ _)); refine blk_far ?_ NB476_478.out _; (with_reducible repeat (first | refine blk_drewN ?_ _ | refine blk_drew ?_ | refine blk_alloc ?_ _)); refine blk_far ?_ NB476_478.out _; (with_reducible repeat (first | refine blk_drewN ?_ _ | refine blk_drew ?_ | refine blk_alloc ?_ _)); exact BK476.out) hb); have n1_ := Aside0.mk (blk_below (g := gb478) (o := .cells #[.int .i64 ((rd_T32 l0 x15_1).f0), .int .i64 ((rd_T32 l0 x15_1).f1), .int .i64 ((rd_T32 l0 x15_1).f2), .int .i64 ((rd_T32 l0 x15_1).f3)] 32 (0, 0)) (by (with_reducible repeat (first | refine blk_drewN ?_ _ | refine blk_drew ?_ | refine blk_alloc ?_ _)); refine blk_put (cs := #[.int .i64 ((rd_T32 l0 x15_1).f0), .int .i64 ((rd_T32 l0 x15_1).f1), .int .i64 ((rd_T32 l0 x15_1).f2), .int .i64 0]) ?_ 3 _ rfl; (with_reducible repeat (first | refine blk_drewN ?_ _ | refine blk_drew ?_ | refine blk_alloc ?_ _)); refine blk_put (cs := #[.int .i64 ((rd_T32 l0 x15_1).f0), .int .i64 ((rd_T32 l0 x15_1).f1), .int .i64 0, .int .i64 0]) ?_ 2 _ rfl; (with_reducible repeat (first | refine blk_drewN ?_ _ | refine blk_drew ?_ | refine blk_alloc ?_ _)); refine blk_put (cs := #[.int .i64 ((rd_T32 l0 x15_1).f0), .int .i64 0, .int .i64 0, .int .i64 0]) ?_ 1 _ rfl; (with_reducible repeat (first | refine blk_drewN ?_ _ | refine blk_drew ?_ | refine blk_alloc ?_ _)); refine blk_put (cs := #[.int .i64 0, .int .i64 0, .int .i64 0, .int .i64 0]) ?_ 0 _ rfl; (with_reducible repeat (first | refine blk_drewN ?_ _ | refine blk_drew ?_ | refine blk_alloc ?_ _)); exact BK478.out) hb); have n2_ := Aside0.mk (below_step (by repeat (first | (with_reducible first | exact HB.out | apply below_alloc | apply pw_below_drewN | apply below_drew1 | refine below_set ?_ GE476.out | refine below_set ?_ GE478.out) | exact HB.out)) hb); clear BK476; clear BK478; clear HB; have BK476 := n0_; have BK478 := n1_; have HB := n2_; clear n0_ n1_ n2_; (try clear hb); (try clear hb2); (try clear hk); (try clear hi)))); have n0_ := Aside0.mk (blk_drew BK476.out); have n1_ := Aside0.mk (blk_drew BK478.out); have n2_ := Aside0.mk (below_drew1 HB.out); clear BK476; clear BK478; clear HB; have BK476 := n0_; have BK478 := n1_; have HB := n2_; clear n0_ n1_ n2_; refine start_ (n := 28) (S := fun w' => w'.cell? ⟨gb478, 0, none⟩ = some (.int .i64 ((rd_T32 l0 x15_1).f0)) ∧ w'.cell? ⟨gb478, 1, none⟩ = some (.int .i64 ((rd_T32 l0 x15_1).f1)) ∧ w'.cell? ⟨gb478, 2, none⟩ = some (.int .i64 ((rd_T32 l0 x15_1).f2)) ∧ w'.cell? ⟨gb478, 3, none⟩ = some (.int .i64 ((rd_T32 l0 x15_1).f3))) (ds := []) #[false, false, false, false, false, false, false, false, false, false, false, false, false, false, false, false, false, false, false, false, false, false, false, false, false, false, false, false] (by kernel_rfl) rfl rfl ⟨(blk_cell BK478.out 0).trans rfl, (blk_cell BK478.out 1).trans rfl, (blk_cell BK478.out 2).trans rfl, (blk_cell BK478.out 3).trans rfl⟩ (fun hHeld => ?_); refine with_tabW incunableref04_Bits.tab6 incunableref04_Bits.bits6 (fun HT_ HW_ => ?_); generalize w16.drew = w17 at BK476 BK478 HB hHeld ⊢; refine take_ (i := 0) (N := some 26) (v := ?_) (a' := ?_) #[true, false, false, false, false, false, false, false, false, false, false, false, false, false, false, false, false, false, false, false, false, false, false, false, false, false, false, false] rfl rfl (take_ofW HT_.out HW_.out (by kernel_rfl)) (fun _ _ _ h => h) (Or.inl ⟨by rfl, ?_⟩) hHeld ?_ ?_; rotate_left; (· rintro w' ⟨s0, s1, s2, s3⟩; go_simp; (with_reducible rfl)); rotate_left; (· simp only [Act.put, List.setIfInBounds_toArray, List.set_cons_zero, List.set_cons_succ, i64_w, i32_w]; rfl); refine one_ (i := 1) (N := some 27) #[true, true, false, false, false, false, false, false, false, false, false, false, false, false, false, false, false, false, false, false, false, false, false, false, false, false, false, false] rfl rfl (one_of HT_.out (by kernel_rfl)) (by decide) (fun K hK => ?_); refine goes_ Try.func51 (by kernel_rfl) rfl #[.agg #[.int .i64 ((rd_T32 l0 x15_1).f0), .int .i64 ((rd_T32 l0 x15_1).f1), .int .i64 ((rd_T32 l0 x15_1).f2), .int .i64 ((rd_T32 l0 x15_1).f3)]] (by rfl) rfl rfl (by (try simp only [List.map_toArray, List.map_cons, List.map_nil]); first | done | rfl | (simp only [List.length_drop, List.length_take]; rfl)) ?_; (with_reducible refine (incunableref04_used.calls ((rd_T32 l0 x15_1).f0) ((rd_T32 l0 x15_1).f1) ((rd_T32 l0 x15_1).f2) ((rd_T32 l0 x15_1).f3) true _ A8.out).mono ?_); rintro e w18 ⟨rfl, hb⟩; refine ⟨_, rfl, ?_⟩; have n0_ := Aside0.mk (blk_below (g := gb476) (o := .cells #[.bool a1_0, .int .i64 a1_1] 48 (0, 0)) (by (with_reducible repeat (first | refine blk_drewN ?_ _ | refine blk_drew ?_ | refine blk_alloc ?_ _)); exact BK476.out) hb); have n1_ := Aside0.mk (blk_below (g := gb478) (o := .cells #[.int .i64 ((rd_T32 l0 x15_1).f0), .int .i64 ((rd_T32 l0 x15_1).f1), .int .i64 ((rd_T32 l0 x15_1).f2), .int .i64 ((rd_T32 l0 x15_1).f3)] 32 (0, 0)) (by (with_reducible repeat (first | refine blk_drewN ?_ _ | refine blk_drew ?_ | refine blk_alloc ?_ _)); exact BK478.out) hb); have n2_ := Aside0.mk (below_step (by repeat (first | (with_reducible first | exact HB.out | apply below_alloc | apply pw_below_drewN | apply below_drew1 | refine below_set ?_ GE476.out | refine below_set ?_ GE478.out) | exact HB.out)) hb); clear BK476; clear BK478; clear HB; have BK476 := n0_; have BK478 := n1_; have HB := n2_; clear n0_ n1_ n2_; (try clear hb); (try clear hb2); (try clear hk); (try clear hi); refine hK.out _ _ ⟨(blk_cell BK478.out 0).trans rfl, (blk_cell BK478.out 1).trans rfl, (blk_cell BK478.out 2).trans rfl, (blk_cell BK478.out 3).trans rfl⟩ (fun hHeld => ?_); clear hK K; refine norm_ (a' := ?_) ?_ ?_; rotate_left; (· show Act.put _ (some 27) _ = _; simp only [Act.put, List.setIfInBounds_toArray, List.set_cons_zero, List.set_cons_succ, i64_w, i32_w]; rfl); refine pure_ (i := 2) (N := some 28) (v := ?_) (a' := ?_) #[true, true, true, false, false, false, false, false, false, false, false, false, false, false, false, false, false, false, false, false, false, false, false, false, false, false, false, false] rfl rfl (any_of HT_.out (by kernel_rfl)) (fun _ _ _ h => h) (Or.inl ⟨by rfl, ?_⟩) ?_ ?_; rotate_left; (· intro w'; go_simp; (with_reducible rfl)); rotate_left; (· simp only [Act.put, List.setIfInBounds_toArray, List.set_cons_zero, List.set_cons_succ, i64_w, i32_w]; rfl); refine pure_ (i := 3) (N := some 29) (v := ?_) (a' := ?_) #[true, true, true, true, false, false, false, false, false, false, false, false, false, false, false, false, false, false, false, false, false, false, false, false, false, false, false, false] rfl rfl (any_of HT_.out (by kernel_rfl)) (fun _ _ _ h => h) (Or.inl ⟨by rfl, ?_⟩) ?_ ?_; rotate_left; (· intro w'; go_simp; (with_reducible rfl)); rotate_left; (· simp only [Act.put, List.setIfInBounds_toArray, List.set_cons_zero, List.set_cons_succ, i64_w, i32_w]; rfl); refine pure_ (i := 4) (N := some 30) (v := ?_) (a' := ?_) #[true, true, true, true, true, false, false, false, false, false, false, false, false, false, false, false, false, false, false, false, false, false, false, false, false, false, false, false] rfl rfl (any_of HT_.out (by kernel_rfl)) (fun _ _ _ h => h) (Or.inl ⟨by rfl, ?_⟩) ?_ ?_; rotate_left; (· intro w'; go_simp; (with_reducible rfl)); rotate_left; (· simp only [Act.put, List.setIfInBounds_toArray, List.set_cons_zero, List.set_cons_succ, i64_w, i32_w]; rfl); refine pure_ (i := 5) (N := some 31) (v := ?_) (a' := ?_) #[true, true, true, true, true, true, false, false, false, false, false, false, false, false, false, false, false, false, false, false, false, false, false, false, false, false, false, false] rfl rfl (any_of HT_.out (by kernel_rfl)) (fun _ _ _ h => h) (Or.inl ⟨by rfl, ?_⟩) ?_ ?_; rotate_left; (· intro w'; go_simp; (with_reducible rfl)); rotate_left; (· simp only [Act.put, List.setIfInBounds_toArray, List.set_cons_zero, List.set_cons_succ, i64_w, i32_w]; rfl); refine pure_ (i := 6) (N := some 32) (v := ?_) (a' := ?_) #[true, true, true, true, true, true, true, false, false, false, false, false, false, false, false, false, false, false, false, false, false, false, false, false, false, false, false, false] rfl rfl (any_of HT_.out (by kernel_rfl)) (fun _ _ _ h => h) (Or.inl ⟨by rfl, ?_⟩) ?_ ?_; rotate_left; (· intro w'; go_simp; (with_reducible rfl)); rotate_left; (· simp only [Act.put, List.setIfInBounds_toArray, List.set_cons_zero, List.set_cons_succ, i64_w, i32_w]; rfl); refine pure_ (i := 7) (N := some 33) (v := ?_) (a' := ?_) #[true, true, true, true, true, true, true, true, false, false, false, false, false, false, false, false, false, false, false, false, false, false, false, false, false, false, false, false] rfl rfl (any_of HT_.out (by kernel_rfl)) (fun _ _ _ h => h) (Or.inl ⟨by rfl, ?_⟩) ?_ ?_; rotate_left; (· intro w'; go_simp; (with_reducible rfl)); rotate_left; (· simp only [Act.put, List.setIfInBounds_toArray, List.set_cons_zero, List.set_cons_succ, i64_w, i32_w]; rfl); refine pure_ (i := 8) (N := some 34) (v := ?_) (a' := ?_) #[true, true, true, true, true, true, true, true, true, false, false, false, false, false, false, false, false, false, false, false, false, false, false, false, false, false, false, false] rfl rfl (any_of HT_.out (by kernel_rfl)) (fun _ _ _ h => h) (Or.inl ⟨by rfl, ?_⟩) ?_ ?_; rotate_left; (· intro w'; go_simp; (with_reducible rfl)); rotate_left; (· simp only [Act.put, List.setIfInBounds_toArray, List.set_cons_zero, List.set_cons_succ, i64_w, i32_w]; rfl); refine pure_ (i := 9) (N := some 35) (v := undef) (a' := ?_) #[true, true, true, true, true, true, true, true, true, true, false, false, false, false, false, false, false, false, false, false, false, false, false, false, false, false, false, false] rfl rfl (any_of HT_.out (by kernel_rfl)) (fun _ _ _ h => h) (Or.inr ⟨by rfl, rfl⟩) ?_ ?_; rotate_left; (· simp only [Act.put, List.setIfInBounds_toArray, List.set_cons_zero, List.set_cons_succ, i64_w, i32_w]; rfl); refine pure_ (i := 10) (N := some 36) (v := undef) (a' := ?_) #[true, true, true, true, true, true, true, true, true, true, true, false, false, false, false, false, false, false, false, false, false, false, false, false, false, false, false, false] rfl rfl (any_of HT_.out (by kernel_rfl)) (fun _ _ _ h => h) (Or.inr ⟨by rfl, rfl⟩) ?_ ?_; rotate_left; (· simp only [Act.put, List.setIfInBounds_toArray, List.set_cons_zero, List.set_cons_succ, i64_w, i32_w]; rfl); refine pure_ (i := 11) (N := some 37) (v := undef) (a' := ?_) #[true, true, true, true, true, true, true, true, true, true, true, true, false, false, false, false, false, false, false, false, false, false, false, false, false, false, false, false] rfl rfl (any_of HT_.out (by kernel_rfl)) (fun _ _ _ h => h) (Or.inr ⟨by rfl, rfl⟩) ?_ ?_; rotate_left; (· simp only [Act.put, List.setIfInBounds_toArray, List.set_cons_zero, List.set_cons_succ, i64_w, i32_w]; rfl); refine pure_ (i := 12) (N := some 38) (v := undef) (a' := ?_) #[true, true, true, true, true, true, true, true, true, true, true, true, true, false, false, false, false, false, false, false, false, false, false, false, false, false, false, false] rfl rfl (any_of HT_.out (by kernel_rfl)) (fun _ _ _ h => h) (Or.inr ⟨by rfl, rfl⟩) ?_ ?_; rotate_left; (· simp only [Act.put, List.setIfInBounds_toArray, List.set_cons_zero, List.set_cons_succ, i64_w, i32_w]; rfl); refine pure_ (i := 13) (N := some 39) (v := undef) (a' := ?_) #[true, true, true, true, true, true, true, true, true, true, true, true, true, true, false, false, false, false, false, false, false, false, false, false, false, false, false, false] rfl rfl (any_of HT_.out (by kernel_rfl)) (fun _ _ _ h => h) (Or.inr ⟨by rfl, rfl⟩) ?_ ?_; rotate_left; (· simp only [Act.put, List.setIfInBounds_toArray, List.set_cons_zero, List.set_cons_succ, i64_w, i32_w]; rfl); refine pure_ (i := 14) (N := some 40) (v := undef) (a' := ?_) #[true, true, true, true, true, true, true, true, true, true, true, true, true, true, true, false, false, false, false, false, false, false, false, false, false, false, false, false] rfl rfl (any_of HT_.out (by kernel_rfl)) (fun _ _ _ h => h) (Or.inr ⟨by rfl, rfl⟩) ?_ ?_; rotate_left; (· simp only [Act.put, List.setIfInBounds_toArray, List.set_cons_zero, List.set_cons_succ, i64_w, i32_w]; rfl); refine pure_ (i := 15) (N := some 41) (v := undef) (a' := ?_) #[true, true, true, true, true, true, true, true, true, true, true, true, true, true, true, true, false, false, false, false, false, false, false, false, false, false, false, false] rfl rfl (any_of HT_.out (by kernel_rfl)) (fun _ _ _ h => h) (Or.inr ⟨by rfl, rfl⟩) ?_ ?_; rotate_left; (· simp only [Act.put, List.setIfInBounds_toArray, List.set_cons_zero, List.set_cons_succ, i64_w, i32_w]; rfl); refine pure_ (i := 16) (N := some 42) (v := undef) (a' := ?_) #[true, true, true, true, true, true, true, true, true, true, true, true, true, true, true, true, true, false, false, false, false, false, false, false, false, false, false, false] rfl rfl (any_of HT_.out (by kernel_rfl)) (fun _ _ _ h => h) (Or.inr ⟨by rfl, rfl⟩) ?_ ?_; rotate_left; (· simp only [Act.put, List.setIfInBounds_toArray, List.set_cons_zero, List.set_cons_succ, i64_w, i32_w]; rfl); refine pure_ (i := 17) (N := some 43) (v := undef) (a' := ?_) #[true, true, true, true, true, true, true, true, true, true, true, true, true, true, true, true, true, true, false, false, false, false, false, false, false, false, false, false] rfl rfl (any_of HT_.out (by kernel_rfl)) (fun _ _ _ h => h) (Or.inr ⟨by rfl, rfl⟩) ?_ ?_; rotate_left; (· simp only [Act.put, List.setIfInBounds_toArray, List.set_cons_zero, List.set_cons_succ, i64_w, i32_w]; rfl); refine pure_ (i := 18) (N := some 44) (v := undef) (a' := ?_) #[true, true, true, true, true, true, true, true, true, true, true, true, true, true, true, true, true, true, true, false, false, false, false, false, false, false, false, false] rfl rfl (any_of HT_.out (by kernel_rfl)) (fun _ _ _ h => h) (Or.inr ⟨by rfl, rfl⟩) ?_ ?_; rotate_left; (· simp only [Act.put, List.setIfInBounds_toArray, List.set_cons_zero, List.set_cons_succ, i64_w, i32_w]; rfl); refine pure_ (i := 19) (N := some 45) (v := undef) (a' := ?_) #[true, true, true, true, true, true, true, true, true, true, true, true, true, true, true, true, true, true, true, true, false, false, false, false, false, false, false, false] rfl rfl (any_of HT_.out (by kernel_rfl)) (fun _ _ _ h => h) (Or.inr ⟨by rfl, rfl⟩) ?_ ?_; rotate_left; (· simp only [Act.put, List.setIfInBounds_toArray, List.set_cons_zero, List.set_cons_succ, i64_w, i32_w]; rfl); refine pure_ (i := 20) (N := some 46) (v := undef) (a' := ?_) #[true, true, true, true, true, true, true, true, true, true, true, true, true, true, true, true, true, true, true, true, true, false, false, false, false, false, false, false] rfl rfl (any_of HT_.out (by kernel_rfl)) (fun _ _ _ h => h) (Or.inr ⟨by rfl, rfl⟩) ?_ ?_; rotate_left; (· simp only [Act.put, List.setIfInBounds_toArray, List.set_cons_zero, List.set_cons_succ, i64_w, i32_w]; rfl); refine pure_ (i := 21) (N := some 47) (v := undef) (a' := ?_) #[true, true, true, true, true, true, true, true, true, true, true, true, true, true, true, true, true, true, true, true, true, true, false, false, false, false, false, false] rfl rfl (any_of HT_.out (by kernel_rfl)) (fun _ _ _ h => h) (Or.inr ⟨by rfl, rfl⟩) ?_ ?_; rotate_left; (· simp only [Act.put, List.setIfInBounds_toArray, List.set_cons_zero, List.set_cons_succ, i64_w, i32_w]; rfl); refine pure_ (i := 22) (N := some 48) (v := undef) (a' := ?_) #[true, true, true, true, true, true, true, true, true, true, true, true, true, true, true, true, true, true, true, true, true, true, true, false, false, false, false, false] rfl rfl (any_of HT_.out (by kernel_rfl)) (fun _ _ _ h => h) (Or.inr ⟨by rfl, rfl⟩) ?_ ?_; rotate_left; (· simp only [Act.put, List.setIfInBounds_toArray, List.set_cons_zero, List.set_cons_succ, i64_w, i32_w]; rfl); refine pure_ (i := 23) (N := some 49) (v := undef) (a' := ?_) #[true, true, true, true, true, true, true, true, true, true, true, true, true, true, true, true, true, true, true, true, true, true, true, true, false, false, false, false] rfl rfl (any_of HT_.out (by kernel_rfl)) (fun _ _ _ h => h) (Or.inr ⟨by rfl, rfl⟩) ?_ ?_; rotate_left; (· simp only [Act.put, List.setIfInBounds_toArray, List.set_cons_zero, List.set_cons_succ, i64_w, i32_w]; rfl); refine pure_ (i := 24) (N := some 50) (v := undef) (a' := ?_) #[true, true, true, true, true, true, true, true, true, true, true, true, true, true, true, true, true, true, true, true, true, true, true, true, true, false, false, false] rfl rfl (any_of HT_.out (by kernel_rfl)) (fun _ _ _ h => h) (Or.inr ⟨by rfl, rfl⟩) ?_ ?_; rotate_left; (· simp only [Act.put, List.setIfInBounds_toArray, List.set_cons_zero, List.set_cons_succ, i64_w, i32_w]; rfl); refine pure_ (i := 25) (N := some 51) (v := undef) (a' := ?_) #[true, true, true, true, true, true, true, true, true, true, true, true, true, true, true, true, true, true, true, true, true, true, true, true, true, true, false, false] rfl rfl (any_of HT_.out (by kernel_rfl)) (fun _ _ _ h => h) (Or.inr ⟨by rfl, rfl⟩) ?_ ?_; rotate_left; (· simp only [Act.put, List.setIfInBounds_toArray, List.set_cons_zero, List.set_cons_succ, i64_w, i32_w]; rfl); refine pure_ (i := 26) (N := some 52) (v := ?_) (a' := ?_) #[true, true, true, true, true, true, true, true, true, true, true, true, true, true, true, true, true, true, true, true, true, true, true, true, true, true, true, false] rfl rfl (any_of HT_.out (by kernel_rfl)) (fun _ _ _ h => h) (Or.inl ⟨by rfl, ?_⟩) ?_ ?_; rotate_left; (· intro w'; go_simp; (with_reducible rfl)); rotate_left; (· simp only [Act.put, List.setIfInBounds_toArray, List.set_cons_zero, List.set_cons_succ, i64_w, i32_w]; rfl); refine pure_ (i := 27) (N := some 53) (v := ?_) (a' := ?_) #[true, true, true, true, true, true, true, true, true, true, true, true, true, true, true, true, true, true, true, true, true, true, true, true, true, true, true, true] rfl rfl (any_of HT_.out (by kernel_rfl)) (fun _ _ _ h => h) (Or.inl ⟨by rfl, ?_⟩) ?_ ?_; rotate_left; (· intro w'; go_simp; (with_reducible rfl)); rotate_left; (· simp only [Act.put, List.setIfInBounds_toArray, List.set_cons_zero, List.set_cons_succ, i64_w, i32_w]; rfl); refine done_ (done_of HT_.out (by kernel_rfl)) ?_; (try go_wp2); go_roundg k1; (case measure => have := HK1.out; omega); (case rel => exact ⟨(x15_1), (wrap64 (x15_1 + 1)), (by first | rfl | (simp; done) | (simp [*]; done)), (by first | rfl | (simp; done) | (simp [*]; done)), H', ⟨by have := HK1.out; omega⟩, ⟨by (with_reducible repeat (first | refine blk_drewN ?_ _ | refine blk_drew ?_ | refine blk_alloc ?_ _)); exact BK476.out⟩, ⟨by repeat (first | (with_reducible first | exact HB.out | apply below_alloc | apply pw_below_drewN | apply below_drew1 | refine below_set ?_ GE476.out | refine below_set ?_ GE478.out) | exact HB.out)⟩⟩)); (· rw [if_neg c11] at H; have c11b0 : decide (x6_1 < 0) = false := decide_eq_false c11; clear c11; by_cases c19 : 0 ≤ x6_1; (· rw [if_pos c19] at H; have c19b0 : decide (0 ≤ x6_1) = true := decide_eq_true c19; clear c19; by_cases c20 : x6_1 < (l0.length : Int); (· rw [if_pos c20] at H; have c20b0 : decide (x6_1 < (l0.length : Int)) = true := decide_eq_true c20; clear c20; by_cases c21 : (wrap64 (((rd_T32 l0 x15_1).f0) + ((rd_T32 l0 x15_1).f1))) < (wrap64 (((rd_T32 l0 x6_1).f0) + ((rd_T32 l0 x6_1).f1))); (· rw [if_pos c21] at H; have c21b0 : decide ((wrap64 (((rd_T32 l0 x15_1).f0) + ((rd_T32 l0 x15_1).f1))) < (wrap64 (((rd_T32 l0 x6_1).f0) + ((rd_T32 l0 x6_1).f1)))) = true := decide_eq_true c21; clear c21; have H' := Aside0.mk H; clear H; have p477 : 0 ≤ (x15_1 : Int) := of_decide_eq_true (by first | (with_reducible assumption) | assumption); have q477 : x15_1 < (l0.length : Int) := of_decide_eq_true (by first | (with_reducible assumption) | assumption); obtain ⟨ad477, e477, hx477_0, hx477_1, hx477_2, hx477_3⟩ := at_T32 HR0.out x15_1 p477 q477; cases e477; replace hx477_0 := (HB.out.cell (World.block_lt_of_cell? w _ hx477_0)).trans hx477_0; replace hx477_1 := (HB.out.cell (World.block_lt_of_cell? w _ hx477_1)).trans hx477_1; replace hx477_2 := (HB.out.cell (World.block_lt_of_cell? w _ hx477_2)).trans hx477_2; replace hx477_3 := (HB.out.cell (World.block_lt_of_cell? w _ hx477_3)).trans hx477_3; replace p477 := eq_true p477; replace q477 := eq_true q477; (try go_wp2_with (first | ((with_reducible refine gate_dst (N := 8) rfl ?_); refine box_event ?hg (N := 8) ?hd (cs := #[.int .i64 0, .int .i64 0, .int .i64 0, .int .i64 0]) (t := 32) ?hr ?_; (case hd => rfl); (case hg => rfl); (case hr => first | (go_simp; done) | (go_simp; rfl)); intro gb478 hg w22 hbox hb; have n0_ := Aside0.mk (blk_below (g := gb476) (o := .cells #[.bool a1_0, .int .i64 a1_1] 48 (0, 0)) (by (with_reducible repeat (first | refine blk_drewN ?_ _ | refine blk_drew ?_ | refine blk_alloc ?_ _)); exact BK476.out) hb); have n1_ := Aside0.mk (below_step (by repeat (first | (with_reducible first | exact HB.out | apply below_alloc | apply pw_below_drewN | apply below_drew1 | refine below_set ?_ GE476.out) | exact HB.out)) hb); have n2_ := Aside0.mk (hbox); have n3_ := Aside0.mk ((by rw [hg]; exact (below_size (by repeat (first | (with_reducible first | exact HB.out | apply below_alloc | apply pw_below_drewN | apply below_drew1 | refine below_set ?_ GE476.out) | exact HB.out))) : w.heap.size ≤ gb478)); have n4_ := Aside0.mk ((by rw [hg]; exact (below_size (by repeat (first | (with_reducible first | exact HB.out | apply below_alloc | apply pw_below_drewN | apply below_drew1 | refine below_set ?_ GE476.out) | exact HB.out))) : w.heap.size ≤ gb478)); have n5_ := Aside0.mk ((by rw [hg]; exact Nat.ne_of_lt (blk_lt (g := gb476) (o := .cells #[.bool a1_0, .int .i64 a1_1] 48 (0, 0)) (by (with_reducible repeat (first | refine blk_drewN ?_ _ | refine blk_drew ?_ | refine blk_alloc ?_ _)); exact BK476.out)) : gb476 ≠ gb478)); have n6_ := Aside0.mk ((by rw [hg]; exact Nat.ne_of_gt (blk_lt (g := gb476) (o := .cells #[.bool a1_0, .int .i64 a1_1] 48 (0, 0)) (by (with_reducible repeat (first | refine blk_drewN ?_ _ | refine blk_drew ?_ | refine blk_alloc ?_ _)); exact BK476.out)) : gb478 ≠ gb476)); clear BK476; clear HB; have BK476 := n0_; have HB := n1_; have BK478 := n2_; have GW478 := n3_; have GE478 := n4_; have NB476_478 := n5_; have NB478_476 := n6_; clear n0_ n1_ n2_ n3_ n4_ n5_ n6_; clear hb hbox hg; have hnb23 := NB478_476.out; have hnc23 := NB476_478.out; have hcz24_0 : w22.cell? ⟨gb478, 0, none⟩ = some (.int .i64 0) := (blk_cell BK478.out 0).trans rfl; have hcz24_1 : w22.cell? ⟨gb478, 1, none⟩ = some (.int .i64 0) := (blk_cell BK478.out 1).trans rfl; have hcz24_2 : w22.cell? ⟨gb478, 2, none⟩ = some (.int .i64 0) := (blk_cell BK478.out 2).trans rfl; have hcz24_3 : w22.cell? ⟨gb478, 3, none⟩ = some (.int .i64 0) := (blk_cell BK478.out 3).trans rfl; have hfz24_0 := blk_frozen BK478.out 0; have hfz24_1 := blk_frozen BK478.out 1; have hfz24_2 := blk_frozen BK478.out 2; have hfz24_3 := blk_frozen BK478.out 3; have hcz25_0 : w22.cell? ⟨gb476, 0, none⟩ = some (.bool a1_0) := (blk_cell BK476.out 0).trans rfl; have hcz25_1 : w22.cell? ⟨gb476, 1, none⟩ = some (.int .i64 a1_1) := (blk_cell BK476.out 1).trans rfl; have hfz25_0 := blk_frozen BK476.out 0; have hfz25_1 := blk_frozen BK476.out 1) | ((with_reducible refine gate_callee (f := 54) rfl ?_); refine goesL_ (some 23) rfl rfl Try.func54 (by kernel_rfl) rfl #[.agg #[.int .i64 ((rd_T32 l0 x15_1).f0), .int .i64 ((rd_T32 l0 x15_1).f1), .int .i64 ((rd_T32 l0 x15_1).f2), .int .i64 ((rd_T32 l0 x15_1).f3)], .agg #[.bool a1_0, .int .i64 a1_1]] rfl (by (try simp only [List.map_toArray, List.map_cons, List.map_nil]); first | done | rfl | (simp only [List.length_drop, List.length_take]; rfl)) ?_; (with_reducible refine (incunableref04_Place.calls k1 ((rd_T32 l0 x15_1).f0) ((rd_T32 l0 x15_1).f1) ((rd_T32 l0 x15_1).f2) ((rd_T32 l0 x15_1).f3) a1_0 a1_1 t479 true _ A7.out).mono ?_); rintro e w26 ⟨rfl, hb⟩; refine ⟨_, rfl, ?_⟩; have n0_ := Aside0.mk (blk_below (g := gb476) (o := .cells #[.bool a1_0, .int .i64 a1_1] 48 (0, 0)) (by (with_reducible repeat (first | refine blk_drewN ?_ _ | refine blk_drew ?_ | refine blk_alloc ?_ _)); refine blk_far ?_ NB476_478.out _; (with_reducible repeat (first | refine blk_drewN ?_ _ | refine blk_drew ?_ | refine blk_alloc ?_ _)); refine blk_far ?_ NB476_478.out _; (with_reducible repeat (first | refine blk_drewN ?_ _ | refine blk_drew ?_ | refine blk_alloc ?_ _)); refine blk_far ?_ NB476_478.out _; (with_reducible repeat (first | refine blk_drewN ?_ _ | refine blk_drew ?_ | refine blk_alloc ?_ _)); refine blk_far ?_ NB476_478.out _; (with_reducible repeat (first | refine blk_drewN ?_ _ | refine blk_drew ?_ | refine blk_alloc ?_ _)); exact BK476.out) hb); have n1_ := Aside0.mk (blk_below (g := gb478) (o := .cells #[.int .i64 ((rd_T32 l0 x15_1).f0), .int .i64 ((rd_T32 l0 x15_1).f1), .int .i64 ((rd_T32 l0 x15_1).f2), .int .i64 ((rd_T32 l0 x15_1).f3)] 32 (0, 0)) (by (with_reducible repeat (first | refine blk_drewN ?_ _ | refine blk_drew ?_ | refine blk_alloc ?_ _)); refine blk_put (cs := #[.int .i64 ((rd_T32 l0 x15_1).f0), .int .i64 ((rd_T32 l0 x15_1).f1), .int .i64 ((rd_T32 l0 x15_1).f2), .int .i64 0]) ?_ 3 _ rfl; (with_reducible repeat (first | refine blk_drewN ?_ _ | refine blk_drew ?_ | refine blk_alloc ?_ _)); refine blk_put (cs := #[.int .i64 ((rd_T32 l0 x15_1).f0), .int .i64 ((rd_T32 l0 x15_1).f1), .int .i64 0, .int .i64 0]) ?_ 2 _ rfl; (with_reducible repeat (first | refine blk_drewN ?_ _ | refine blk_drew ?_ | refine blk_alloc ?_ _)); refine blk_put (cs := #[.int .i64 ((rd_T32 l0 x15_1).f0), .int .i64 0, .int .i64 0, .int .i64 0]) ?_ 1 _ rfl; (with_reducible repeat (first | refine blk_drewN ?_ _ | refine blk_drew ?_ | refine blk_alloc ?_ _)); refine blk_put (cs := #[.int .i64 0, .int .i64 0, .int .i64 0, .int .i64 0]) ?_ 0 _ rfl; (with_reducible repeat (first | refine blk_drewN ?_ _ | refine blk_drew ?_ | refine blk_alloc ?_ _)); exact BK478.out) hb); have n2_ := Aside0.mk (below_step (by repeat (first | (with_reducible first | exact HB.out | apply below_alloc | apply pw_below_drewN | apply below_drew1 | refine below_set ?_ GE476.out | refine below_set ?_ GE478.out) | exact HB.out)) hb); clear BK476; clear BK478; clear HB; have BK476 := n0_; have BK478 := n1_; have HB := n2_; clear n0_ n1_ n2_; (try clear hb); (try clear hb2); (try clear hk); (try clear hi)))); have n0_ := Aside0.mk (blk_drew BK476.out); have n1_ := Aside0.mk (blk_drew BK478.out); have n2_ := Aside0.mk (below_drew1 HB.out); clear BK476; clear BK478; clear HB; have BK476 := n0_; have BK478 := n1_; have HB := n2_; clear n0_ n1_ n2_; have p482 : 0 ≤ (x6_1 : Int) := of_decide_eq_true (by first | (with_reducible assumption) | assumption); have q482 : x6_1 < (l0.length : Int) := of_decide_eq_true (by first | (with_reducible assumption) | assumption); obtain ⟨ad482, e482, hx482_0, hx482_1, hx482_2, hx482_3⟩ := at_T32 HR0.out x6_1 p482 q482; have hw482_3 := hx482_3; have hw482_2 := hx482_2; have hw482_1 := hx482_1; have hw482_0 := hx482_0; obtain rfl : ad477 = ad482 := (by injection e482); replace hx482_0 := (HB.out.cell (World.block_lt_of_cell? w _ hx482_0)).trans hx482_0; replace hx482_1 := (HB.out.cell (World.block_lt_of_cell? w _ hx482_1)).trans hx482_1; replace hx482_2 := (HB.out.cell (World.block_lt_of_cell? w _ hx482_2)).trans hx482_2; replace hx482_3 := (HB.out.cell (World.block_lt_of_cell? w _ hx482_3)).trans hx482_3; replace p482 := eq_true p482; replace q482 := eq_true q482; have p483 : 0 ≤ (x6_1 : Int) := of_decide_eq_true (by first | (with_reducible assumption) | assumption); have q483 : x6_1 < (l0.length : Int) := of_decide_eq_true (by first | (with_reducible assumption) | assumption); obtain ⟨ad483, e483, hx483_0, hx483_1, hx483_2, hx483_3⟩ := at_T32 HR0.out x6_1 p483 q483; have hw483_3 := hx483_3; have hw483_2 := hx483_2; have hw483_1 := hx483_1; have hw483_0 := hx483_0; obtain rfl : ad477 = ad483 := (by injection e483); replace hx483_0 := (HB.out.cell (World.block_lt_of_cell? w _ hx483_0)).trans hx483_0; replace hx483_1 := (HB.out.cell (World.block_lt_of_cell? w _ hx483_1)).trans hx483_1; replace hx483_2 := (HB.out.cell (World.block_lt_of_cell? w _ hx483_2)).trans hx483_2; replace hx483_3 := (HB.out.cell (World.block_lt_of_cell? w _ hx483_3)).trans hx483_3; replace p483 := eq_true p483; replace q483 := eq_true q483; refine start_ (n := 28) (S := fun w' => w'.cell? ⟨gb478, 0, none⟩ = some (.int .i64 ((rd_T32 l0 x15_1).f0)) ∧ w'.cell? ⟨gb478, 1, none⟩ = some (.int .i64 ((rd_T32 l0 x15_1).f1)) ∧ w'.cell? ⟨gb478, 2, none⟩ = some (.int .i64 ((rd_T32 l0 x15_1).f2)) ∧ w'.cell? ⟨gb478, 3, none⟩ = some (.int .i64 ((rd_T32 l0 x15_1).f3)) ∧ w'.cell? (ad477.add ((x6_1).toNat * 4)) = some (.int .i64 ((rd_T32 l0 x6_1).f0)) ∧ w'.cell? ⟨(ad477.add ((x6_1).toNat * 4)).block, (ad477.add ((x6_1).toNat * 4)).off + 1, none⟩ = some (.int .i64 ((rd_T32 l0 x6_1).f1)) ∧ w'.cell? ⟨(ad477.add ((x6_1).toNat * 4)).block, (ad477.add ((x6_1).toNat * 4)).off + 2, none⟩ = some (.int .i64 ((rd_T32 l0 x6_1).f2)) ∧ w'.cell? ⟨(ad477.add ((x6_1).toNat * 4)).block, (ad477.add ((x6_1).toNat * 4)).off + 3, none⟩ = some (.int .i64 ((rd_T32 l0 x6_1).f3)) ∧ w'.cell? (ad477.add ((x6_1).toNat * 4)) = some (.int .i64 ((rd_T32 l0 x6_1).f0)) ∧ w'.cell? ⟨(ad477.add ((x6_1).toNat * 4)).block, (ad477.add ((x6_1).toNat * 4)).off + 1, none⟩ = some (.int .i64 ((rd_T32 l0 x6_1).f1)) ∧ w'.cell? ⟨(ad477.add ((x6_1).toNat * 4)).block, (ad477.add ((x6_1).toNat * 4)).off + 2, none⟩ = some (.int .i64 ((rd_T32 l0 x6_1).f2)) ∧ w'.cell? ⟨(ad477.add ((x6_1).toNat * 4)).block, (ad477.add ((x6_1).toNat * 4)).off + 3, none⟩ = some (.int .i64 ((rd_T32 l0 x6_1).f3))) (ds := []) #[false, false, false, false, false, false, false, false, false, false, false, false, false, false, false, false, false, false, false, false, false, false, false, false, false, false, false, false] (by kernel_rfl) rfl rfl ⟨(blk_cell BK478.out 0).trans rfl, (blk_cell BK478.out 1).trans rfl, (blk_cell BK478.out 2).trans rfl, (blk_cell BK478.out 3).trans rfl, ((HB.out.cell (World.block_lt_of_cell? w _ hw482_0)).trans hw482_0), ((HB.out.cell (World.block_lt_of_cell? w _ hw482_1)).trans hw482_1), ((HB.out.cell (World.block_lt_of_cell? w _ hw482_2)).trans hw482_2), ((HB.out.cell (World.block_lt_of_cell? w _ hw482_3)).trans hw482_3), ((HB.out.cell (World.block_lt_of_cell? w _ hw483_0)).trans hw483_0), ((HB.out.cell (World.block_lt_of_cell? w _ hw483_1)).trans hw483_1), ((HB.out.cell (World.block_lt_of_cell? w _ hw483_2)).trans hw483_2), ((HB.out.cell (World.block_lt_of_cell? w _ hw483_3)).trans hw483_3)⟩ (fun hHeld => ?_); refine with_tabW incunableref04_Bits.tab6 incunableref04_Bits.bits6 (fun HT_ HW_ => ?_); generalize w26.drew = w27 at BK476 BK478 HB hx482_0 hx482_1 hx482_2 hx482_3 hx483_0 hx483_1 hx483_2 hx483_3 hHeld ⊢; refine take_ (i := 0) (N := some 26) (v := ?_) (a' := ?_) #[true, false, false, false, false, false, false, false, false, false, false, false, false, false, false, false, false, false, false, false, false, false, false, false, false, false, false, false] rfl rfl (take_ofW HT_.out HW_.out (by kernel_rfl)) (fun _ _ _ h => h) (Or.inl ⟨by rfl, ?_⟩) hHeld ?_ ?_; rotate_left; (· rintro w' ⟨s0, s1, s2, s3, s4, s5, s6, s7, s8, s9, s10, s11⟩; go_simp; (with_reducible rfl)); rotate_left; (· simp only [Act.put, List.setIfInBounds_toArray, List.set_cons_zero, List.set_cons_succ, i64_w, i32_w]; rfl); refine one_ (i := 1) (N := some 27) #[true, true, false, false, false, false, false, false, false, false, false, false, false, false, false, false, false, false, false, false, false, false, false, false, false, false, false, false] rfl rfl (one_of HT_.out (by kernel_rfl)) (by decide) (fun K hK => ?_); refine goes_ Try.func51 (by kernel_rfl) rfl #[.agg #[.int .i64 ((rd_T32 l0 x15_1).f0), .int .i64 ((rd_T32 l0 x15_1).f1), .int .i64 ((rd_T32 l0 x15_1).f2), .int .i64 ((rd_T32 l0 x15_1).f3)]] (by rfl) rfl rfl (by (try simp only [List.map_toArray, List.map_cons, List.map_nil]); first | done | rfl | (simp only [List.length_drop, List.length_take]; rfl)) ?_; (with_reducible refine (incunableref04_used.calls ((rd_T32 l0 x15_1).f0) ((rd_T32 l0 x15_1).f1) ((rd_T32 l0 x15_1).f2) ((rd_T32 l0 x15_1).f3) true _ A8.out).mono ?_); rintro e w28 ⟨rfl, hb⟩; refine ⟨_, rfl, ?_⟩; have n0_ := Aside0.mk (blk_below (g := gb476) (o := .cells #[.bool a1_0, .int .i64 a1_1] 48 (0, 0)) (by (with_reducible repeat (first | refine blk_drewN ?_ _ | refine blk_drew ?_ | refine blk_alloc ?_ _)); exact BK476.out) hb); have n1_ := Aside0.mk (blk_below (g := gb478) (o := .cells #[.int .i64 ((rd_T32 l0 x15_1).f0), .int .i64 ((rd_T32 l0 x15_1).f1), .int .i64 ((rd_T32 l0 x15_1).f2), .int .i64 ((rd_T32 l0 x15_1).f3)] 32 (0, 0)) (by (with_reducible repeat (first | refine blk_drewN ?_ _ | refine blk_drew ?_ | refine blk_alloc ?_ _)); exact BK478.out) hb); have n2_ := Aside0.mk (below_step (by repeat (first | (with_reducible first | exact HB.out | apply below_alloc | apply pw_below_drewN | apply below_drew1 | refine below_set ?_ GE476.out | refine below_set ?_ GE478.out) | exact HB.out)) hb); clear BK476; clear BK478; clear HB; have BK476 := n0_; have BK478 := n1_; have HB := n2_; clear n0_ n1_ n2_; (try clear hb); (try clear hb2); (try clear hk); (try clear hi); refine hK.out _ _ ⟨(blk_cell BK478.out 0).trans rfl, (blk_cell BK478.out 1).trans rfl, (blk_cell BK478.out 2).trans rfl, (blk_cell BK478.out 3).trans rfl, ((HB.out.cell (World.block_lt_of_cell? w _ hw482_0)).trans hw482_0), ((HB.out.cell (World.block_lt_of_cell? w _ hw482_1)).trans hw482_1), ((HB.out.cell (World.block_lt_of_cell? w _ hw482_2)).trans hw482_2), ((HB.out.cell (World.block_lt_of_cell? w _ hw482_3)).trans hw482_3), ((HB.out.cell (World.block_lt_of_cell? w _ hw483_0)).trans hw483_0), ((HB.out.cell (World.block_lt_of_cell? w _ hw483_1)).trans hw483_1), ((HB.out.cell (World.block_lt_of_cell? w _ hw483_2)).trans hw483_2), ((HB.out.cell (World.block_lt_of_cell? w _ hw483_3)).trans hw483_3)⟩ (fun hHeld => ?_); clear hK K; refine norm_ (a' := ?_) ?_ ?_; rotate_left; (· show Act.put _ (some 27) _ = _; simp only [Act.put, List.setIfInBounds_toArray, List.set_cons_zero, List.set_cons_succ, i64_w, i32_w]; rfl); refine pure_ (i := 2) (N := some 28) (v := ?_) (a' := ?_) #[true, true, true, false, false, false, false, false, false, false, false, false, false, false, false, false, false, false, false, false, false, false, false, false, false, false, false, false] rfl rfl (any_of HT_.out (by kernel_rfl)) (fun _ _ _ h => h) (Or.inl ⟨by rfl, ?_⟩) ?_ ?_; rotate_left; (· intro w'; go_simp; (with_reducible rfl)); rotate_left; (· simp only [Act.put, List.setIfInBounds_toArray, List.set_cons_zero, List.set_cons_succ, i64_w, i32_w]; rfl); refine pure_ (i := 3) (N := some 29) (v := ?_) (a' := ?_) #[true, true, true, true, false, false, false, false, false, false, false, false, false, false, false, false, false, false, false, false, false, false, false, false, false, false, false, false] rfl rfl (any_of HT_.out (by kernel_rfl)) (fun _ _ _ h => h) (Or.inl ⟨by rfl, ?_⟩) ?_ ?_; rotate_left; (· intro w'; go_simp; (with_reducible rfl)); rotate_left; (· simp only [Act.put, List.setIfInBounds_toArray, List.set_cons_zero, List.set_cons_succ, i64_w, i32_w]; rfl); refine pure_ (i := 4) (N := some 30) (v := ?_) (a' := ?_) #[true, true, true, true, true, false, false, false, false, false, false, false, false, false, false, false, false, false, false, false, false, false, false, false, false, false, false, false] rfl rfl (any_of HT_.out (by kernel_rfl)) (fun _ _ _ h => h) (Or.inl ⟨by rfl, ?_⟩) ?_ ?_; rotate_left; (· intro w'; go_simp; (with_reducible rfl)); rotate_left; (· simp only [Act.put, List.setIfInBounds_toArray, List.set_cons_zero, List.set_cons_succ, i64_w, i32_w]; rfl); refine pure_ (i := 5) (N := some 31) (v := ?_) (a' := ?_) #[true, true, true, true, true, true, false, false, false, false, false, false, false, false, false, false, false, false, false, false, false, false, false, false, false, false, false, false] rfl rfl (any_of HT_.out (by kernel_rfl)) (fun _ _ _ h => h) (Or.inl ⟨by rfl, ?_⟩) ?_ ?_; rotate_left; (· intro w'; go_simp; (with_reducible rfl)); rotate_left; (· simp only [Act.put, List.setIfInBounds_toArray, List.set_cons_zero, List.set_cons_succ, i64_w, i32_w]; rfl); refine pure_ (i := 6) (N := some 32) (v := ?_) (a' := ?_) #[true, true, true, true, true, true, true, false, false, false, false, false, false, false, false, false, false, false, false, false, false, false, false, false, false, false, false, false] rfl rfl (any_of HT_.out (by kernel_rfl)) (fun _ _ _ h => h) (Or.inl ⟨by rfl, ?_⟩) ?_ ?_; rotate_left; (· intro w'; go_simp; (with_reducible rfl)); rotate_left; (· simp only [Act.put, List.setIfInBounds_toArray, List.set_cons_zero, List.set_cons_succ, i64_w, i32_w]; rfl); refine pure_ (i := 7) (N := some 33) (v := ?_) (a' := ?_) #[true, true, true, true, true, true, true, true, false, false, false, false, false, false, false, false, false, false, false, false, false, false, false, false, false, false, false, false] rfl rfl (any_of HT_.out (by kernel_rfl)) (fun _ _ _ h => h) (Or.inl ⟨by rfl, ?_⟩) ?_ ?_; rotate_left; (· intro w'; go_simp; (with_reducible rfl)); rotate_left; (· simp only [Act.put, List.setIfInBounds_toArray, List.set_cons_zero, List.set_cons_succ, i64_w, i32_w]; rfl); refine pure_ (i := 8) (N := some 34) (v := ?_) (a' := ?_) #[true, true, true, true, true, true, true, true, true, false, false, false, false, false, false, false, false, false, false, false, false, false, false, false, false, false, false, false] rfl rfl (any_of HT_.out (by kernel_rfl)) (fun _ _ _ h => h) (Or.inl ⟨by rfl, ?_⟩) ?_ ?_; rotate_left; (· intro w'; go_simp; (with_reducible rfl)); rotate_left; (· simp only [Act.put, List.setIfInBounds_toArray, List.set_cons_zero, List.set_cons_succ, i64_w, i32_w]; rfl); refine pure_ (i := 9) (N := some 35) (v := ?_) (a' := ?_) #[true, true, true, true, true, true, true, true, true, true, false, false, false, false, false, false, false, false, false, false, false, false, false, false, false, false, false, false] rfl rfl (any_of HT_.out (by kernel_rfl)) (fun _ _ _ h => h) (Or.inl ⟨by rfl, ?_⟩) ?_ ?_; rotate_left; (· intro w'; go_simp; (with_reducible rfl)); rotate_left; (· simp only [Act.put, List.setIfInBounds_toArray, List.set_cons_zero, List.set_cons_succ, i64_w, i32_w]; rfl); refine pure_ (i := 11) (N := some 37) (v := ?_) (a' := ?_) #[true, true, true, true, true, true, true, true, true, true, false, true, false, false, false, false, false, false, false, false, false, false, false, false, false, false, false, false] rfl rfl (any_of HT_.out (by kernel_rfl)) (fun _ _ _ h => h) (Or.inl ⟨by rfl, ?_⟩) ?_ ?_; rotate_left; (· intro w'; go_simp; (with_reducible rfl)); rotate_left; (· simp only [Act.put, List.setIfInBounds_toArray, List.set_cons_zero, List.set_cons_succ, i64_w, i32_w]; rfl); refine pure_ (i := 14) (N := some 40) (v := ?_) (a' := ?_) #[true, true, true, true, true, true, true, true, true, true, false, true, false, false, true, false, false, false, false, false, false, false, false, false, false, false, false, false] rfl rfl (any_of HT_.out (by kernel_rfl)) (fun _ _ _ h => h) (Or.inl ⟨by rfl, ?_⟩) ?_ ?_; rotate_left; (· intro w'; go_simp; (with_reducible rfl)); rotate_left; (· simp only [Act.put, List.setIfInBounds_toArray, List.set_cons_zero, List.set_cons_succ, i64_w, i32_w]; rfl); refine pure_ (i := 15) (N := some 41) (v := ?_) (a' := ?_) #[true, true, true, true, true, true, true, true, true, true, false, true, false, false, true, true, false, false, false, false, false, false, false, false, false, false, false, false] rfl rfl (any_of HT_.out (by kernel_rfl)) (fun _ _ _ h => h) (Or.inl ⟨by rfl, ?_⟩) ?_ ?_; rotate_left; (· intro w'; go_simp; (with_reducible rfl)); rotate_left; (· simp only [Act.put, List.setIfInBounds_toArray, List.set_cons_zero, List.set_cons_succ, i64_w, i32_w]; rfl); refine pure_ (i := 16) (N := some 42) (v := ?_) (a' := ?_) #[true, true, true, true, true, true, true, true, true, true, false, true, false, false, true, true, true, false, false, false, false, false, false, false, false, false, false, false] rfl rfl (any_of HT_.out (by kernel_rfl)) (fun _ _ _ h => h) (Or.inl ⟨by rfl, ?_⟩) ?_ ?_; rotate_left; (· intro w'; go_simp; (with_reducible rfl)); rotate_left; (· simp only [Act.put, List.setIfInBounds_toArray, List.set_cons_zero, List.set_cons_succ, i64_w, i32_w]; rfl); refine pure_ (i := 17) (N := some 43) (v := ?_) (a' := ?_) #[true, true, true, true, true, true, true, true, true, true, false, true, false, false, true, true, true, true, false, false, false, false, false, false, false, false, false, false] rfl rfl (any_of HT_.out (by kernel_rfl)) (fun _ _ _ h => h) (Or.inl ⟨by rfl, ?_⟩) ?_ ?_; rotate_left; (· intro w'; go_simp; (with_reducible rfl)); rotate_left; (· simp only [Act.put, List.setIfInBounds_toArray, List.set_cons_zero, List.set_cons_succ, i64_w, i32_w]; rfl); refine pure_ (i := 19) (N := some 45) (v := ?_) (a' := ?_) #[true, true, true, true, true, true, true, true, true, true, false, true, false, false, true, true, true, true, false, true, false, false, false, false, false, false, false, false] rfl rfl (any_of HT_.out (by kernel_rfl)) (fun _ _ _ h => h) (Or.inl ⟨by rfl, ?_⟩) ?_ ?_; rotate_left; (· intro w'; go_simp; (with_reducible rfl)); rotate_left; (· simp only [Act.put, List.setIfInBounds_toArray, List.set_cons_zero, List.set_cons_succ, i64_w, i32_w]; rfl); refine pure_ (i := 20) (N := some 46) (v := ?_) (a' := ?_) #[true, true, true, true, true, true, true, true, true, true, false, true, false, false, true, true, true, true, false, true, true, false, false, false, false, false, false, false] rfl rfl (any_of HT_.out (by kernel_rfl)) (fun _ _ _ h => h) (Or.inl ⟨by rfl, ?_⟩) ?_ ?_; rotate_left; (· intro w'; go_simp; (with_reducible rfl)); rotate_left; (· simp only [Act.put, List.setIfInBounds_toArray, List.set_cons_zero, List.set_cons_succ, i64_w, i32_w]; rfl); refine pure_ (i := 21) (N := some 47) (v := ?_) (a' := ?_) #[true, true, true, true, true, true, true, true, true, true, false, true, false, false, true, true, true, true, false, true, true, true, false, false, false, false, false, false] rfl rfl (any_of HT_.out (by kernel_rfl)) (fun _ _ _ h => h) (Or.inl ⟨by rfl, ?_⟩) ?_ ?_; rotate_left; (· intro w'; go_simp; (with_reducible rfl)); rotate_left; (· simp only [Act.put, List.setIfInBounds_toArray, List.set_cons_zero, List.set_cons_succ, i64_w, i32_w]; rfl); refine pure_ (i := 22) (N := some 48) (v := ?_) (a' := ?_) #[true, true, true, true, true, true, true, true, true, true, false, true, false, false, true, true, true, true, false, true, true, true, true, false, false, false, false, false] rfl rfl (any_of HT_.out (by kernel_rfl)) (fun _ _ _ h => h) (Or.inl ⟨by rfl, ?_⟩) ?_ ?_; rotate_left; (· intro w'; go_simp; (with_reducible rfl)); rotate_left; (· simp only [Act.put, List.setIfInBounds_toArray, List.set_cons_zero, List.set_cons_succ, i64_w, i32_w]; rfl); refine take_ (i := 10) (N := some 36) (v := ?_) (a' := ?_) #[true, true, true, true, true, true, true, true, true, true, true, true, false, false, true, true, true, true, false, true, true, true, true, false, false, false, false, false] rfl rfl (take_ofW HT_.out HW_.out (by kernel_rfl)) (fun _ _ _ h => h) (Or.inl ⟨by rfl, ?_⟩) hHeld ?_ ?_; rotate_left; (· rintro w' ⟨s0, s1, s2, s3, s4, s5, s6, s7, s8, s9, s10, s11⟩; go_simp; (with_reducible rfl)); rotate_left; (· simp only [Act.put, List.setIfInBounds_toArray, List.set_cons_zero, List.set_cons_succ, i64_w, i32_w]; rfl); refine take_ (i := 12) (N := some 38) (v := ?_) (a' := ?_) #[true, true, true, true, true, true, true, true, true, true, true, true, true, false, true, true, true, true, false, true, true, true, true, false, false, false, false, false] rfl rfl (take_ofW HT_.out HW_.out (by kernel_rfl)) (fun _ _ _ h => h) (Or.inl ⟨by rfl, ?_⟩) hHeld ?_ ?_; rotate_left; (· rintro w' ⟨s0, s1, s2, s3, s4, s5, s6, s7, s8, s9, s10, s11⟩; go_simp; (with_reducible rfl)); rotate_left; (· simp only [Act.put, List.setIfInBounds_toArray, List.set_cons_zero, List.set_cons_succ, i64_w, i32_w]; rfl); refine pure_ (i := 13) (N := some 39) (v := ?_) (a' := ?_) #[true, true, true, true, true, true, true, true, true, true, true, true, true, true, true, true, true, true, false, true, true, true, true, false, false, false, false, false] rfl rfl (any_of HT_.out (by kernel_rfl)) (fun _ _ _ h => h) (Or.inl ⟨by rfl, ?_⟩) ?_ ?_; rotate_left; (· intro w'; go_simp; (with_reducible rfl)); rotate_left; (· simp only [Act.put, List.setIfInBounds_toArray, List.set_cons_zero, List.set_cons_succ, i64_w, i32_w]; rfl); refine take_ (i := 18) (N := some 44) (v := ?_) (a' := ?_) #[true, true, true, true, true, true, true, true, true, true, true, true, true, true, true, true, true, true, true, true, true, true, true, false, false, false, false, false] rfl rfl (take_ofW HT_.out HW_.out (by kernel_rfl)) (fun _ _ _ h => h) (Or.inl ⟨by rfl, ?_⟩) hHeld ?_ ?_; rotate_left; (· rintro w' ⟨s0, s1, s2, s3, s4, s5, s6, s7, s8, s9, s10, s11⟩; go_simp; (with_reducible rfl)); rotate_left; (· simp only [Act.put, List.setIfInBounds_toArray, List.set_cons_zero, List.set_cons_succ, i64_w, i32_w]; rfl); refine take_ (i := 23) (N := some 49) (v := ?_) (a' := ?_) #[true, true, true, true, true, true, true, true, true, true, true, true, true, true, true, true, true, true, true, true, true, true, true, true, false, false, false, false] rfl rfl (take_ofW HT_.out HW_.out (by kernel_rfl)) (fun _ _ _ h => h) (Or.inl ⟨by rfl, ?_⟩) hHeld ?_ ?_; rotate_left; (· rintro w' ⟨s0, s1, s2, s3, s4, s5, s6, s7, s8, s9, s10, s11⟩; go_simp; (with_reducible rfl)); rotate_left; (· simp only [Act.put, List.setIfInBounds_toArray, List.set_cons_zero, List.set_cons_succ, i64_w, i32_w]; rfl); refine pure_ (i := 24) (N := some 50) (v := ?_) (a' := ?_) #[true, true, true, true, true, true, true, true, true, true, true, true, true, true, true, true, true, true, true, true, true, true, true, true, true, false, false, false] rfl rfl (any_of HT_.out (by kernel_rfl)) (fun _ _ _ h => h) (Or.inl ⟨by rfl, ?_⟩) ?_ ?_; rotate_left; (· intro w'; go_simp; (with_reducible rfl)); rotate_left; (· simp only [Act.put, List.setIfInBounds_toArray, List.set_cons_zero, List.set_cons_succ, i64_w, i32_w]; rfl); refine pure_ (i := 25) (N := some 51) (v := ?_) (a' := ?_) #[true, true, true, true, true, true, true, true, true, true, true, true, true, true, true, true, true, true, true, true, true, true, true, true, true, true, false, false] rfl rfl (any_of HT_.out (by kernel_rfl)) (fun _ _ _ h => h) (Or.inl ⟨by rfl, ?_⟩) ?_ ?_; rotate_left; (· intro w'; go_simp; (with_reducible rfl)); rotate_left; (· simp only [Act.put, List.setIfInBounds_toArray, List.set_cons_zero, List.set_cons_succ, i64_w, i32_w]; rfl); refine pure_ (i := 26) (N := some 52) (v := ?_) (a' := ?_) #[true, true, true, true, true, true, true, true, true, true, true, true, true, true, true, true, true, true, true, true, true, true, true, true, true, true, true, false] rfl rfl (any_of HT_.out (by kernel_rfl)) (fun _ _ _ h => h) (Or.inl ⟨by rfl, ?_⟩) ?_ ?_; rotate_left; (· intro w'; go_simp; (with_reducible rfl)); rotate_left; (· simp only [Act.put, List.setIfInBounds_toArray, List.set_cons_zero, List.set_cons_succ, i64_w, i32_w]; rfl); refine pure_ (i := 27) (N := some 53) (v := ?_) (a' := ?_) #[true, true, true, true, true, true, true, true, true, true, true, true, true, true, true, true, true, true, true, true, true, true, true, true, true, true, true, true] rfl rfl (any_of HT_.out (by kernel_rfl)) (fun _ _ _ h => h) (Or.inl ⟨by rfl, ?_⟩) ?_ ?_; rotate_left; (· intro w'; go_simp; (with_reducible rfl)); rotate_left; (· simp only [Act.put, List.setIfInBounds_toArray, List.set_cons_zero, List.set_cons_succ, i64_w, i32_w]; rfl); refine done_ (done_of HT_.out (by kernel_rfl)) ?_; (try go_wp2); go_roundg k1; (case measure => have := HK1.out; omega); (case rel => exact ⟨(x15_1), (wrap64 (x15_1 + 1)), (by first | rfl | (simp; done) | (simp [*]; done)), (by first | rfl | (simp; done) | (simp [*]; done)), H', ⟨by have := HK1.out; omega⟩, ⟨by (with_reducible repeat (first | refine blk_drewN ?_ _ | refine blk_drew ?_ | refine blk_alloc ?_ _)); exact BK476.out⟩, ⟨by repeat (first | (with_reducible first | exact HB.out | apply below_alloc | apply pw_below_drewN | apply below_drew1 | refine below_set ?_ GE476.out | refine below_set ?_ GE478.out) | exact HB.out)⟩⟩)); (· rw [if_neg c21] at H; have c21b0 : decide ((wrap64 (((rd_T32 l0 x15_1).f0) + ((rd_T32 l0 x15_1).f1))) < (wrap64 (((rd_T32 l0 x6_1).f0) + ((rd_T32 l0 x6_1).f1)))) = false := decide_eq_false c21; clear c21; have H' := Aside0.mk H; clear H; have p477 : 0 ≤ (x15_1 : Int) := of_decide_eq_true (by first | (with_reducible assumption) | assumption); have q477 : x15_1 < (l0.length : Int) := of_decide_eq_true (by first | (with_reducible assumption) | assumption); obtain ⟨ad477, e477, hx477_0, hx477_1, hx477_2, hx477_3⟩ := at_T32 HR0.out x15_1 p477 q477; cases e477; replace hx477_0 := (HB.out.cell (World.block_lt_of_cell? w _ hx477_0)).trans hx477_0; replace hx477_1 := (HB.out.cell (World.block_lt_of_cell? w _ hx477_1)).trans hx477_1; replace hx477_2 := (HB.out.cell (World.block_lt_of_cell? w _ hx477_2)).trans hx477_2; replace hx477_3 := (HB.out.cell (World.block_lt_of_cell? w _ hx477_3)).trans hx477_3; replace p477 := eq_true p477; replace q477 := eq_true q477; (try go_wp2_with (first | ((with_reducible refine gate_dst (N := 8) rfl ?_); refine box_event ?hg (N := 8) ?hd (cs := #[.int .i64 0, .int .i64 0, .int .i64 0, .int .i64 0]) (t := 32) ?hr ?_; (case hd => rfl); (case hg => rfl); (case hr => first | (go_simp; done) | (go_simp; rfl)); intro gb478 hg w29 hbox hb; have n0_ := Aside0.mk (blk_below (g := gb476) (o := .cells #[.bool a1_0, .int .i64 a1_1] 48 (0, 0)) (by (with_reducible repeat (first | refine blk_drewN ?_ _ | refine blk_drew ?_ | refine blk_alloc ?_ _)); exact BK476.out) hb); have n1_ := Aside0.mk (below_step (by repeat (first | (with_reducible first | exact HB.out | apply below_alloc | apply pw_below_drewN | apply below_drew1 | refine below_set ?_ GE476.out) | exact HB.out)) hb); have n2_ := Aside0.mk (hbox); have n3_ := Aside0.mk ((by rw [hg]; exact (below_size (by repeat (first | (with_reducible first | exact HB.out | apply below_alloc | apply pw_below_drewN | apply below_drew1 | refine below_set ?_ GE476.out) | exact HB.out))) : w.heap.size ≤ gb478)); have n4_ := Aside0.mk ((by rw [hg]; exact (below_size (by repeat (first | (with_reducible first | exact HB.out | apply below_alloc | apply pw_below_drewN | apply below_drew1 | refine below_set ?_ GE476.out) | exact HB.out))) : w.heap.size ≤ gb478)); have n5_ := Aside0.mk ((by rw [hg]; exact Nat.ne_of_lt (blk_lt (g := gb476) (o := .cells #[.bool a1_0, .int .i64 a1_1] 48 (0, 0)) (by (with_reducible repeat (first | refine blk_drewN ?_ _ | refine blk_drew ?_ | refine blk_alloc ?_ _)); exact BK476.out)) : gb476 ≠ gb478)); have n6_ := Aside0.mk ((by rw [hg]; exact Nat.ne_of_gt (blk_lt (g := gb476) (o := .cells #[.bool a1_0, .int .i64 a1_1] 48 (0, 0)) (by (with_reducible repeat (first | refine blk_drewN ?_ _ | refine blk_drew ?_ | refine blk_alloc ?_ _)); exact BK476.out)) : gb478 ≠ gb476)); clear BK476; clear HB; have BK476 := n0_; have HB := n1_; have BK478 := n2_; have GW478 := n3_; have GE478 := n4_; have NB476_478 := n5_; have NB478_476 := n6_; clear n0_ n1_ n2_ n3_ n4_ n5_ n6_; clear hb hbox hg; have hnb30 := NB478_476.out; have hnc30 := NB476_478.out; have hcz31_0 : w29.cell? ⟨gb478, 0, none⟩ = some (.int .i64 0) := (blk_cell BK478.out 0).trans rfl; have hcz31_1 : w29.cell? ⟨gb478, 1, none⟩ = some (.int .i64 0) := (blk_cell BK478.out 1).trans rfl; have hcz31_2 : w29.cell? ⟨gb478, 2, none⟩ = some (.int .i64 0) := (blk_cell BK478.out 2).trans rfl; have hcz31_3 : w29.cell? ⟨gb478, 3, none⟩ = some (.int .i64 0) := (blk_cell BK478.out 3).trans rfl; have hfz31_0 := blk_frozen BK478.out 0; have hfz31_1 := blk_frozen BK478.out 1; have hfz31_2 := blk_frozen BK478.out 2; have hfz31_3 := blk_frozen BK478.out 3; have hcz32_0 : w29.cell? ⟨gb476, 0, none⟩ = some (.bool a1_0) := (blk_cell BK476.out 0).trans rfl; have hcz32_1 : w29.cell? ⟨gb476, 1, none⟩ = some (.int .i64 a1_1) := (blk_cell BK476.out 1).trans rfl; have hfz32_0 := blk_frozen BK476.out 0; have hfz32_1 := blk_frozen BK476.out 1) | ((with_reducible refine gate_callee (f := 54) rfl ?_); refine goesL_ (some 23) rfl rfl Try.func54 (by kernel_rfl) rfl #[.agg #[.int .i64 ((rd_T32 l0 x15_1).f0), .int .i64 ((rd_T32 l0 x15_1).f1), .int .i64 ((rd_T32 l0 x15_1).f2), .int .i64 ((rd_T32 l0 x15_1).f3)], .agg #[.bool a1_0, .int .i64 a1_1]] rfl (by (try simp only [List.map_toArray, List.map_cons, List.map_nil]); first | done | rfl | (simp only [List.length_drop, List.length_take]; rfl)) ?_; (with_reducible refine (incunableref04_Place.calls k1 ((rd_T32 l0 x15_1).f0) ((rd_T32 l0 x15_1).f1) ((rd_T32 l0 x15_1).f2) ((rd_T32 l0 x15_1).f3) a1_0 a1_1 t479 true _ A7.out).mono ?_); rintro e w33 ⟨rfl, hb⟩; refine ⟨_, rfl, ?_⟩; have n0_ := Aside0.mk (blk_below (g := gb476) (o := .cells #[.bool a1_0, .int .i64 a1_1] 48 (0, 0)) (by (with_reducible repeat (first | refine blk_drewN ?_ _ | refine blk_drew ?_ | refine blk_alloc ?_ _)); refine blk_far ?_ NB476_478.out _; (with_reducible repeat (first | refine blk_drewN ?_ _ | refine blk_drew ?_ | refine blk_alloc ?_ _)); refine blk_far ?_ NB476_478.out _; (with_reducible repeat (first | refine blk_drewN ?_ _ | refine blk_drew ?_ | refine blk_alloc ?_ _)); refine blk_far ?_ NB476_478.out _; (with_reducible repeat (first | refine blk_drewN ?_ _ | refine blk_drew ?_ | refine blk_alloc ?_ _)); refine blk_far ?_ NB476_478.out _; (with_reducible repeat (first | refine blk_drewN ?_ _ | refine blk_drew ?_ | refine blk_alloc ?_ _)); exact BK476.out) hb); have n1_ := Aside0.mk (blk_below (g := gb478) (o := .cells #[.int .i64 ((rd_T32 l0 x15_1).f0), .int .i64 ((rd_T32 l0 x15_1).f1), .int .i64 ((rd_T32 l0 x15_1).f2), .int .i64 ((rd_T32 l0 x15_1).f3)] 32 (0, 0)) (by (with_reducible repeat (first | refine blk_drewN ?_ _ | refine blk_drew ?_ | refine blk_alloc ?_ _)); refine blk_put (cs := #[.int .i64 ((rd_T32 l0 x15_1).f0), .int .i64 ((rd_T32 l0 x15_1).f1), .int .i64 ((rd_T32 l0 x15_1).f2), .int .i64 0]) ?_ 3 _ rfl; (with_reducible repeat (first | refine blk_drewN ?_ _ | refine blk_drew ?_ | refine blk_alloc ?_ _)); refine blk_put (cs := #[.int .i64 ((rd_T32 l0 x15_1).f0), .int .i64 ((rd_T32 l0 x15_1).f1), .int .i64 0, .int .i64 0]) ?_ 2 _ rfl; (with_reducible repeat (first | refine blk_drewN ?_ _ | refine blk_drew ?_ | refine blk_alloc ?_ _)); refine blk_put (cs := #[.int .i64 ((rd_T32 l0 x15_1).f0), .int .i64 0, .int .i64 0, .int .i64 0]) ?_ 1 _ rfl; (with_reducible repeat (first | refine blk_drewN ?_ _ | refine blk_drew ?_ | refine blk_alloc ?_ _)); refine blk_put (cs := #[.int .i64 0, .int .i64 0, .int .i64 0, .int .i64 0]) ?_ 0 _ rfl; (with_reducible repeat (first | refine blk_drewN ?_ _ | refine blk_drew ?_ | refine blk_alloc ?_ _)); exact BK478.out) hb); have n2_ := Aside0.mk (below_step (by repeat (first | (with_reducible first | exact HB.out | apply below_alloc | apply pw_below_drewN | apply below_drew1 | refine below_set ?_ GE476.out | refine below_set ?_ GE478.out) | exact HB.out)) hb); clear BK476; clear BK478; clear HB; have BK476 := n0_; have BK478 := n1_; have HB := n2_; clear n0_ n1_ n2_; (try clear hb); (try clear hb2); (try clear hk); (try clear hi)))); have n0_ := Aside0.mk (blk_drew BK476.out); have n1_ := Aside0.mk (blk_drew BK478.out); have n2_ := Aside0.mk (below_drew1 HB.out); clear BK476; clear BK478; clear HB; have BK476 := n0_; have BK478 := n1_; have HB := n2_; clear n0_ n1_ n2_; have p482 : 0 ≤ (x6_1 : Int) := of_decide_eq_true (by first | (with_reducible assumption) | assumption); have q482 : x6_1 < (l0.length : Int) := of_decide_eq_true (by first | (with_reducible assumption) | assumption); obtain ⟨ad482, e482, hx482_0, hx482_1, hx482_2, hx482_3⟩ := at_T32 HR0.out x6_1 p482 q482; have hw482_3 := hx482_3; have hw482_2 := hx482_2; have hw482_1 := hx482_1; have hw482_0 := hx482_0; obtain rfl : ad477 = ad482 := (by injection e482); replace hx482_0 := (HB.out.cell (World.block_lt_of_cell? w _ hx482_0)).trans hx482_0; replace hx482_1 := (HB.out.cell (World.block_lt_of_cell? w _ hx482_1)).trans hx482_1; replace hx482_2 := (HB.out.cell (World.block_lt_of_cell? w _ hx482_2)).trans hx482_2; replace hx482_3 := (HB.out.cell (World.block_lt_of_cell? w _ hx482_3)).trans hx482_3; replace p482 := eq_true p482; replace q482 := eq_true q482; have p483 : 0 ≤ (x6_1 : Int) := of_decide_eq_true (by first | (with_reducible assumption) | assumption); have q483 : x6_1 < (l0.length : Int) := of_decide_eq_true (by first | (with_reducible assumption) | assumption); obtain ⟨ad483, e483, hx483_0, hx483_1, hx483_2, hx483_3⟩ := at_T32 HR0.out x6_1 p483 q483; have hw483_3 := hx483_3; have hw483_2 := hx483_2; have hw483_1 := hx483_1; have hw483_0 := hx483_0; obtain rfl : ad477 = ad483 := (by injection e483); replace hx483_0 := (HB.out.cell (World.block_lt_of_cell? w _ hx483_0)).trans hx483_0; replace hx483_1 := (HB.out.cell (World.block_lt_of_cell? w _ hx483_1)).trans hx483_1; replace hx483_2 := (HB.out.cell (World.block_lt_of_cell? w _ hx483_2)).trans hx483_2; replace hx483_3 := (HB.out.cell (World.block_lt_of_cell? w _ hx483_3)).trans hx483_3; replace p483 := eq_true p483; replace q483 := eq_true q483; refine start_ (n := 28) (S := fun w' => w'.cell? ⟨gb478, 0, none⟩ = some (.int .i64 ((rd_T32 l0 x15_1).f0)) ∧ w'.cell? ⟨gb478, 1, none⟩ = some (.int .i64 ((rd_T32 l0 x15_1).f1)) ∧ w'.cell? ⟨gb478, 2, none⟩ = some (.int .i64 ((rd_T32 l0 x15_1).f2)) ∧ w'.cell? ⟨gb478, 3, none⟩ = some (.int .i64 ((rd_T32 l0 x15_1).f3)) ∧ w'.cell? (ad477.add ((x6_1).toNat * 4)) = some (.int .i64 ((rd_T32 l0 x6_1).f0)) ∧ w'.cell? ⟨(ad477.add ((x6_1).toNat * 4)).block, (ad477.add ((x6_1).toNat * 4)).off + 1, none⟩ = some (.int .i64 ((rd_T32 l0 x6_1).f1)) ∧ w'.cell? ⟨(ad477.add ((x6_1).toNat * 4)).block, (ad477.add ((x6_1).toNat * 4)).off + 2, none⟩ = some (.int .i64 ((rd_T32 l0 x6_1).f2)) ∧ w'.cell? ⟨(ad477.add ((x6_1).toNat * 4)).block, (ad477.add ((x6_1).toNat * 4)).off + 3, none⟩ = some (.int .i64 ((rd_T32 l0 x6_1).f3)) ∧ w'.cell? (ad477.add ((x6_1).toNat * 4)) = some (.int .i64 ((rd_T32 l0 x6_1).f0)) ∧ w'.cell? ⟨(ad477.add ((x6_1).toNat * 4)).block, (ad477.add ((x6_1).toNat * 4)).off + 1, none⟩ = some (.int .i64 ((rd_T32 l0 x6_1).f1)) ∧ w'.cell? ⟨(ad477.add ((x6_1).toNat * 4)).block, (ad477.add ((x6_1).toNat * 4)).off + 2, none⟩ = some (.int .i64 ((rd_T32 l0 x6_1).f2)) ∧ w'.cell? ⟨(ad477.add ((x6_1).toNat * 4)).block, (ad477.add ((x6_1).toNat * 4)).off + 3, none⟩ = some (.int .i64 ((rd_T32 l0 x6_1).f3))) (ds := []) #[false, false, false, false, false, false, false, false, false, false, false, false, false, false, false, false, false, false, false, false, false, false, false, false, false, false, false, false] (by kernel_rfl) rfl rfl ⟨(blk_cell BK478.out 0).trans rfl, (blk_cell BK478.out 1).trans rfl, (blk_cell BK478.out 2).trans rfl, (blk_cell BK478.out 3).trans rfl, ((HB.out.cell (World.block_lt_of_cell? w _ hw482_0)).trans hw482_0), ((HB.out.cell (World.block_lt_of_cell? w _ hw482_1)).trans hw482_1), ((HB.out.cell (World.block_lt_of_cell? w _ hw482_2)).trans hw482_2), ((HB.out.cell (World.block_lt_of_cell? w _ hw482_3)).trans hw482_3), ((HB.out.cell (World.block_lt_of_cell? w _ hw483_0)).trans hw483_0), ((HB.out.cell (World.block_lt_of_cell? w _ hw483_1)).trans hw483_1), ((HB.out.cell (World.block_lt_of_cell? w _ hw483_2)).trans hw483_2), ((HB.out.cell (World.block_lt_of_cell? w _ hw483_3)).trans hw483_3)⟩ (fun hHeld => ?_); refine with_tabW incunableref04_Bits.tab6 incunableref04_Bits.bits6 (fun HT_ HW_ => ?_); generalize w33.drew = w34 at BK476 BK478 HB hx482_0 hx482_1 hx482_2 hx482_3 hx483_0 hx483_1 hx483_2 hx483_3 hHeld ⊢; refine take_ (i := 0) (N := some 26) (v := ?_) (a' := ?_) #[true, false, false, false, false, false, false, false, false, false, false, false, false, false, false, false, false, false, false, false, false, false, false, false, false, false, false, false] rfl rfl (take_ofW HT_.out HW_.out (by kernel_rfl)) (fun _ _ _ h => h) (Or.inl ⟨by rfl, ?_⟩) hHeld ?_ ?_; rotate_left; (· rintro w' ⟨s0, s1, s2, s3, s4, s5, s6, s7, s8, s9, s10, s11⟩; go_simp; (with_reducible rfl)); rotate_left; (· simp only [Act.put, List.setIfInBounds_toArray, List.set_cons_zero, List.set_cons_succ, i64_w, i32_w]; rfl); refine one_ (i := 1) (N := some 27) #[true, true, false, false, false, false, false, false, false, false, false, false, false, false, false, false, false, false, false, false, false, false, false, false, false, false, false, false] rfl rfl (one_of HT_.out (by kernel_rfl)) (by decide) (fun K hK => ?_); refine goes_ Try.func51 (by kernel_rfl) rfl #[.agg #[.int .i64 ((rd_T32 l0 x15_1).f0), .int .i64 ((rd_T32 l0 x15_1).f1), .int .i64 ((rd_T32 l0 x15_1).f2), .int .i64 ((rd_T32 l0 x15_1).f3)]] (by rfl) rfl rfl (by (try simp only [List.map_toArray, List.map_cons, List.map_nil]); first | done | rfl | (simp only [List.length_drop, List.length_take]; rfl)) ?_; (with_reducible refine (incunableref04_used.calls ((rd_T32 l0 x15_1).f0) ((rd_T32 l0 x15_1).f1) ((rd_T32 l0 x15_1).f2) ((rd_T32 l0 x15_1).f3) true _ A8.out).mono ?_); rintro e w35 ⟨rfl, hb⟩; refine ⟨_, rfl, ?_⟩; have n0_ := Aside0.mk (blk_below (g := gb476) (o := .cells #[.bool a1_0, .int .i64 a1_1] 48 (0, 0)) (by (with_reducible repeat (first | refine blk_drewN ?_ _ | refine blk_drew ?_ | refine blk_alloc ?_ _)); exact BK476.out) hb); have n1_ := Aside0.mk (blk_below (g := gb478) (o := .cells #[.int .i64 ((rd_T32 l0 x15_1).f0), .int .i64 ((rd_T32 l0 x15_1).f1), .int .i64 ((rd_T32 l0 x15_1).f2), .int .i64 ((rd_T32 l0 x15_1).f3)] 32 (0, 0)) (by (with_reducible repeat (first | refine blk_drewN ?_ _ | refine blk_drew ?_ | refine blk_alloc ?_ _)); exact BK478.out) hb); have n2_ := Aside0.mk (below_step (by repeat (first | (with_reducible first | exact HB.out | apply below_alloc | apply pw_below_drewN | apply below_drew1 | refine below_set ?_ GE476.out | refine below_set ?_ GE478.out) | exact HB.out)) hb); clear BK476; clear BK478; clear HB; have BK476 := n0_; have BK478 := n1_; have HB := n2_; clear n0_ n1_ n2_; (try clear hb); (try clear hb2); (try clear hk); (try clear hi); refine hK.out _ _ ⟨(blk_cell BK478.out 0).trans rfl, (blk_cell BK478.out 1).trans rfl, (blk_cell BK478.out 2).trans rfl, (blk_cell BK478.out 3).trans rfl, ((HB.out.cell (World.block_lt_of_cell? w _ hw482_0)).trans hw482_0), ((HB.out.cell (World.block_lt_of_cell? w _ hw482_1)).trans hw482_1), ((HB.out.cell (World.block_lt_of_cell? w _ hw482_2)).trans hw482_2), ((HB.out.cell (World.block_lt_of_cell? w _ hw482_3)).trans hw482_3), ((HB.out.cell (World.block_lt_of_cell? w _ hw483_0)).trans hw483_0), ((HB.out.cell (World.block_lt_of_cell? w _ hw483_1)).trans hw483_1), ((HB.out.cell (World.block_lt_of_cell? w _ hw483_2)).trans hw483_2), ((HB.out.cell (World.block_lt_of_cell? w _ hw483_3)).trans hw483_3)⟩ (fun hHeld => ?_); clear hK K; refine norm_ (a' := ?_) ?_ ?_; rotate_left; (· show Act.put _ (some 27) _ = _; simp only [Act.put, List.setIfInBounds_toArray, List.set_cons_zero, List.set_cons_succ, i64_w, i32_w]; rfl); refine pure_ (i := 2) (N := some 28) (v := ?_) (a' := ?_) #[true, true, true, false, false, false, false, false, false, false, false, false, false, false, false, false, false, false, false, false, false, false, false, false, false, false, false, false] rfl rfl (any_of HT_.out (by kernel_rfl)) (fun _ _ _ h => h) (Or.inl ⟨by rfl, ?_⟩) ?_ ?_; rotate_left; (· intro w'; go_simp; (with_reducible rfl)); rotate_left; (· simp only [Act.put, List.setIfInBounds_toArray, List.set_cons_zero, List.set_cons_succ, i64_w, i32_w]; rfl); refine pure_ (i := 3) (N := some 29) (v := ?_) (a' := ?_) #[true, true, true, true, false, false, false, false, false, false, false, false, false, false, false, false, false, false, false, false, false, false, false, false, false, false, false, false] rfl rfl (any_of HT_.out (by kernel_rfl)) (fun _ _ _ h => h) (Or.inl ⟨by rfl, ?_⟩) ?_ ?_; rotate_left; (· intro w'; go_simp; (with_reducible rfl)); rotate_left; (· simp only [Act.put, List.setIfInBounds_toArray, List.set_cons_zero, List.set_cons_succ, i64_w, i32_w]; rfl); refine pure_ (i := 4) (N := some 30) (v := ?_) (a' := ?_) #[true, true, true, true, true, false, false, false, false, false, false, false, false, false, false, false, false, false, false, false, false, false, false, false, false, false, false, false] rfl rfl (any_of HT_.out (by kernel_rfl)) (fun _ _ _ h => h) (Or.inl ⟨by rfl, ?_⟩) ?_ ?_; rotate_left; (· intro w'; go_simp; (with_reducible rfl)); rotate_left; (· simp only [Act.put, List.setIfInBounds_toArray, List.set_cons_zero, List.set_cons_succ, i64_w, i32_w]; rfl); refine pure_ (i := 5) (N := some 31) (v := ?_) (a' := ?_) #[true, true, true, true, true, true, false, false, false, false, false, false, false, false, false, false, false, false, false, false, false, false, false, false, false, false, false, false] rfl rfl (any_of HT_.out (by kernel_rfl)) (fun _ _ _ h => h) (Or.inl ⟨by rfl, ?_⟩) ?_ ?_; rotate_left; (· intro w'; go_simp; (with_reducible rfl)); rotate_left; (· simp only [Act.put, List.setIfInBounds_toArray, List.set_cons_zero, List.set_cons_succ, i64_w, i32_w]; rfl); refine pure_ (i := 6) (N := some 32) (v := ?_) (a' := ?_) #[true, true, true, true, true, true, true, false, false, false, false, false, false, false, false, false, false, false, false, false, false, false, false, false, false, false, false, false] rfl rfl (any_of HT_.out (by kernel_rfl)) (fun _ _ _ h => h) (Or.inl ⟨by rfl, ?_⟩) ?_ ?_; rotate_left; (· intro w'; go_simp; (with_reducible rfl)); rotate_left; (· simp only [Act.put, List.setIfInBounds_toArray, List.set_cons_zero, List.set_cons_succ, i64_w, i32_w]; rfl); refine pure_ (i := 7) (N := some 33) (v := ?_) (a' := ?_) #[true, true, true, true, true, true, true, true, false, false, false, false, false, false, false, false, false, false, false, false, false, false, false, false, false, false, false, false] rfl rfl (any_of HT_.out (by kernel_rfl)) (fun _ _ _ h => h) (Or.inl ⟨by rfl, ?_⟩) ?_ ?_; rotate_left; (· intro w'; go_simp; (with_reducible rfl)); rotate_left; (· simp only [Act.put, List.setIfInBounds_toArray, List.set_cons_zero, List.set_cons_succ, i64_w, i32_w]; rfl); refine pure_ (i := 8) (N := some 34) (v := ?_) (a' := ?_) #[true, true, true, true, true, true, true, true, true, false, false, false, false, false, false, false, false, false, false, false, false, false, false, false, false, false, false, false] rfl rfl (any_of HT_.out (by kernel_rfl)) (fun _ _ _ h => h) (Or.inl ⟨by rfl, ?_⟩) ?_ ?_; rotate_left; (· intro w'; go_simp; (with_reducible rfl)); rotate_left; (· simp only [Act.put, List.setIfInBounds_toArray, List.set_cons_zero, List.set_cons_succ, i64_w, i32_w]; rfl); refine pure_ (i := 9) (N := some 35) (v := ?_) (a' := ?_) #[true, true, true, true, true, true, true, true, true, true, false, false, false, false, false, false, false, false, false, false, false, false, false, false, false, false, false, false] rfl rfl (any_of HT_.out (by kernel_rfl)) (fun _ _ _ h => h) (Or.inl ⟨by rfl, ?_⟩) ?_ ?_; rotate_left; (· intro w'; go_simp; (with_reducible rfl)); rotate_left; (· simp only [Act.put, List.setIfInBounds_toArray, List.set_cons_zero, List.set_cons_succ, i64_w, i32_w]; rfl); refine pure_ (i := 11) (N := some 37) (v := ?_) (a' := ?_) #[true, true, true, true, true, true, true, true, true, true, false, true, false, false, false, false, false, false, false, false, false, false, false, false, false, false, false, false] rfl rfl (any_of HT_.out (by kernel_rfl)) (fun _ _ _ h => h) (Or.inl ⟨by rfl, ?_⟩) ?_ ?_; rotate_left; (· intro w'; go_simp; (with_reducible rfl)); rotate_left; (· simp only [Act.put, List.setIfInBounds_toArray, List.set_cons_zero, List.set_cons_succ, i64_w, i32_w]; rfl); refine pure_ (i := 14) (N := some 40) (v := ?_) (a' := ?_) #[true, true, true, true, true, true, true, true, true, true, false, true, false, false, true, false, false, false, false, false, false, false, false, false, false, false, false, false] rfl rfl (any_of HT_.out (by kernel_rfl)) (fun _ _ _ h => h) (Or.inl ⟨by rfl, ?_⟩) ?_ ?_; rotate_left; (· intro w'; go_simp; (with_reducible rfl)); rotate_left; (· simp only [Act.put, List.setIfInBounds_toArray, List.set_cons_zero, List.set_cons_succ, i64_w, i32_w]; rfl); refine pure_ (i := 15) (N := some 41) (v := ?_) (a' := ?_) #[true, true, true, true, true, true, true, true, true, true, false, true, false, false, true, true, false, false, false, false, false, false, false, false, false, false, false, false] rfl rfl (any_of HT_.out (by kernel_rfl)) (fun _ _ _ h => h) (Or.inl ⟨by rfl, ?_⟩) ?_ ?_; rotate_left; (· intro w'; go_simp; (with_reducible rfl)); rotate_left; (· simp only [Act.put, List.setIfInBounds_toArray, List.set_cons_zero, List.set_cons_succ, i64_w, i32_w]; rfl); refine pure_ (i := 16) (N := some 42) (v := ?_) (a' := ?_) #[true, true, true, true, true, true, true, true, true, true, false, true, false, false, true, true, true, false, false, false, false, false, false, false, false, false, false, false] rfl rfl (any_of HT_.out (by kernel_rfl)) (fun _ _ _ h => h) (Or.inl ⟨by rfl, ?_⟩) ?_ ?_; rotate_left; (· intro w'; go_simp; (with_reducible rfl)); rotate_left; (· simp only [Act.put, List.setIfInBounds_toArray, List.set_cons_zero, List.set_cons_succ, i64_w, i32_w]; rfl); refine pure_ (i := 17) (N := some 43) (v := ?_) (a' := ?_) #[true, true, true, true, true, true, true, true, true, true, false, true, false, false, true, true, true, true, false, false, false, false, false, false, false, false, false, false] rfl rfl (any_of HT_.out (by kernel_rfl)) (fun _ _ _ h => h) (Or.inl ⟨by rfl, ?_⟩) ?_ ?_; rotate_left; (· intro w'; go_simp; (with_reducible rfl)); rotate_left; (· simp only [Act.put, List.setIfInBounds_toArray, List.set_cons_zero, List.set_cons_succ, i64_w, i32_w]; rfl); refine pure_ (i := 19) (N := some 45) (v := ?_) (a' := ?_) #[true, true, true, true, true, true, true, true, true, true, false, true, false, false, true, true, true, true, false, true, false, false, false, false, false, false, false, false] rfl rfl (any_of HT_.out (by kernel_rfl)) (fun _ _ _ h => h) (Or.inl ⟨by rfl, ?_⟩) ?_ ?_; rotate_left; (· intro w'; go_simp; (with_reducible rfl)); rotate_left; (· simp only [Act.put, List.setIfInBounds_toArray, List.set_cons_zero, List.set_cons_succ, i64_w, i32_w]; rfl); refine pure_ (i := 20) (N := some 46) (v := ?_) (a' := ?_) #[true, true, true, true, true, true, true, true, true, true, false, true, false, false, true, true, true, true, false, true, true, false, false, false, false, false, false, false] rfl rfl (any_of HT_.out (by kernel_rfl)) (fun _ _ _ h => h) (Or.inl ⟨by rfl, ?_⟩) ?_ ?_; rotate_left; (· intro w'; go_simp; (with_reducible rfl)); rotate_left; (· simp only [Act.put, List.setIfInBounds_toArray, List.set_cons_zero, List.set_cons_succ, i64_w, i32_w]; rfl); refine pure_ (i := 21) (N := some 47) (v := ?_) (a' := ?_) #[true, true, true, true, true, true, true, true, true, true, false, true, false, false, true, true, true, true, false, true, true, true, false, false, false, false, false, false] rfl rfl (any_of HT_.out (by kernel_rfl)) (fun _ _ _ h => h) (Or.inl ⟨by rfl, ?_⟩) ?_ ?_; rotate_left; (· intro w'; go_simp; (with_reducible rfl)); rotate_left; (· simp only [Act.put, List.setIfInBounds_toArray, List.set_cons_zero, List.set_cons_succ, i64_w, i32_w]; rfl); refine pure_ (i := 22) (N := some 48) (v := ?_) (a' := ?_) #[true, true, true, true, true, true, true, true, true, true, false, true, false, false, true, true, true, true, false, true, true, true, true, false, false, false, false, false] rfl rfl (any_of HT_.out (by kernel_rfl)) (fun _ _ _ h => h) (Or.inl ⟨by rfl, ?_⟩) ?_ ?_; rotate_left; (· intro w'; go_simp; (with_reducible rfl)); rotate_left; (· simp only [Act.put, List.setIfInBounds_toArray, List.set_cons_zero, List.set_cons_succ, i64_w, i32_w]; rfl); refine take_ (i := 10) (N := some 36) (v := ?_) (a' := ?_) #[true, true, true, true, true, true, true, true, true, true, true, true, false, false, true, true, true, true, false, true, true, true, true, false, false, false, false, false] rfl rfl (take_ofW HT_.out HW_.out (by kernel_rfl)) (fun _ _ _ h => h) (Or.inl ⟨by rfl, ?_⟩) hHeld ?_ ?_; rotate_left; (· rintro w' ⟨s0, s1, s2, s3, s4, s5, s6, s7, s8, s9, s10, s11⟩; go_simp; (with_reducible rfl)); rotate_left; (· simp only [Act.put, List.setIfInBounds_toArray, List.set_cons_zero, List.set_cons_succ, i64_w, i32_w]; rfl); refine take_ (i := 12) (N := some 38) (v := ?_) (a' := ?_) #[true, true, true, true, true, true, true, true, true, true, true, true, true, false, true, true, true, true, false, true, true, true, true, false, false, false, false, false] rfl rfl (take_ofW HT_.out HW_.out (by kernel_rfl)) (fun _ _ _ h => h) (Or.inl ⟨by rfl, ?_⟩) hHeld ?_ ?_; rotate_left; (· rintro w' ⟨s0, s1, s2, s3, s4, s5, s6, s7, s8, s9, s10, s11⟩; go_simp; (with_reducible rfl)); rotate_left; (· simp only [Act.put, List.setIfInBounds_toArray, List.set_cons_zero, List.set_cons_succ, i64_w, i32_w]; rfl); refine pure_ (i := 13) (N := some 39) (v := ?_) (a' := ?_) #[true, true, true, true, true, true, true, true, true, true, true, true, true, true, true, true, true, true, false, true, true, true, true, false, false, false, false, false] rfl rfl (any_of HT_.out (by kernel_rfl)) (fun _ _ _ h => h) (Or.inl ⟨by rfl, ?_⟩) ?_ ?_; rotate_left; (· intro w'; go_simp; (with_reducible rfl)); rotate_left; (· simp only [Act.put, List.setIfInBounds_toArray, List.set_cons_zero, List.set_cons_succ, i64_w, i32_w]; rfl); refine take_ (i := 18) (N := some 44) (v := ?_) (a' := ?_) #[true, true, true, true, true, true, true, true, true, true, true, true, true, true, true, true, true, true, true, true, true, true, true, false, false, false, false, false] rfl rfl (take_ofW HT_.out HW_.out (by kernel_rfl)) (fun _ _ _ h => h) (Or.inl ⟨by rfl, ?_⟩) hHeld ?_ ?_; rotate_left; (· rintro w' ⟨s0, s1, s2, s3, s4, s5, s6, s7, s8, s9, s10, s11⟩; go_simp; (with_reducible rfl)); rotate_left; (· simp only [Act.put, List.setIfInBounds_toArray, List.set_cons_zero, List.set_cons_succ, i64_w, i32_w]; rfl); refine take_ (i := 23) (N := some 49) (v := ?_) (a' := ?_) #[true, true, true, true, true, true, true, true, true, true, true, true, true, true, true, true, true, true, true, true, true, true, true, true, false, false, false, false] rfl rfl (take_ofW HT_.out HW_.out (by kernel_rfl)) (fun _ _ _ h => h) (Or.inl ⟨by rfl, ?_⟩) hHeld ?_ ?_; rotate_left; (· rintro w' ⟨s0, s1, s2, s3, s4, s5, s6, s7, s8, s9, s10, s11⟩; go_simp; (with_reducible rfl)); rotate_left; (· simp only [Act.put, List.setIfInBounds_toArray, List.set_cons_zero, List.set_cons_succ, i64_w, i32_w]; rfl); refine pure_ (i := 24) (N := some 50) (v := ?_) (a' := ?_) #[true, true, true, true, true, true, true, true, true, true, true, true, true, true, true, true, true, true, true, true, true, true, true, true, true, false, false, false] rfl rfl (any_of HT_.out (by kernel_rfl)) (fun _ _ _ h => h) (Or.inl ⟨by rfl, ?_⟩) ?_ ?_; rotate_left; (· intro w'; go_simp; (with_reducible rfl)); rotate_left; (· simp only [Act.put, List.setIfInBounds_toArray, List.set_cons_zero, List.set_cons_succ, i64_w, i32_w]; rfl); refine pure_ (i := 25) (N := some 51) (v := ?_) (a' := ?_) #[true, true, true, true, true, true, true, true, true, true, true, true, true, true, true, true, true, true, true, true, true, true, true, true, true, true, false, false] rfl rfl (any_of HT_.out (by kernel_rfl)) (fun _ _ _ h => h) (Or.inl ⟨by rfl, ?_⟩) ?_ ?_; rotate_left; (· intro w'; go_simp; (with_reducible rfl)); rotate_left; (· simp only [Act.put, List.setIfInBounds_toArray, List.set_cons_zero, List.set_cons_succ, i64_w, i32_w]; rfl); refine pure_ (i := 26) (N := some 52) (v := ?_) (a' := ?_) #[true, true, true, true, true, true, true, true, true, true, true, true, true, true, true, true, true, true, true, true, true, true, true, true, true, true, true, false] rfl rfl (any_of HT_.out (by kernel_rfl)) (fun _ _ _ h => h) (Or.inl ⟨by rfl, ?_⟩) ?_ ?_; rotate_left; (· intro w'; go_simp; (with_reducible rfl)); rotate_left; (· simp only [Act.put, List.setIfInBounds_toArray, List.set_cons_zero, List.set_cons_succ, i64_w, i32_w]; rfl); refine pure_ (i := 27) (N := some 53) (v := ?_) (a' := ?_) #[true, true, true, true, true, true, true, true, true, true, true, true, true, true, true, true, true, true, true, true, true, true, true, true, true, true, true, true] rfl rfl (any_of HT_.out (by kernel_rfl)) (fun _ _ _ h => h) (Or.inl ⟨by rfl, ?_⟩) ?_ ?_; rotate_left; (· intro w'; go_simp; (with_reducible rfl)); rotate_left; (· simp only [Act.put, List.setIfInBounds_toArray, List.set_cons_zero, List.set_cons_succ, i64_w, i32_w]; rfl); refine done_ (done_of HT_.out (by kernel_rfl)) ?_; (try go_wp2); go_roundg k1; (case measure => have := HK1.out; omega); (case rel => exact ⟨(x6_1), (wrap64 (x15_1 + 1)), (by first | rfl | (simp; done) | (simp [*]; done)), (by first | rfl | (simp; done) | (simp [*]; done)), H', ⟨by have := HK1.out; omega⟩, ⟨by (with_reducible repeat (first | refine blk_drewN ?_ _ | refine blk_drew ?_ | refine blk_alloc ?_ _)); exact BK476.out⟩, ⟨by repeat (first | (with_reducible first | exact HB.out | apply below_alloc | apply pw_below_drewN | apply below_drew1 | refine below_set ?_ GE476.out | refine below_set ?_ GE478.out) | exact HB.out)⟩⟩))); (· rw [if_neg c20] at H; exact absurd H (by simp))); (· rw [if_neg c19] at H; exact absurd H (by simp)))); (· replace c10 := Bool.eq_false_iff.mpr c10; subst c10; (have H1 : (incunableref04_Bits.l0 k1 l0 x6_1 l0 (l0.length : Int) (wrap64 (x15_1 + 1)) a1_0 a1_1) = some (r1, r2) := by rw [if_neg (show ¬ (false = true) by decide)] at H; exact H); clear H; have H := H1; clear H1; have H' := Aside0.mk H; clear H; have p477 : 0 ≤ (x15_1 : Int) := of_decide_eq_true (by first | (with_reducible assumption) | assumption); have q477 : x15_1 < (l0.length : Int) := of_decide_eq_true (by first | (with_reducible assumption) | assumption); obtain ⟨ad477, e477, hx477_0, hx477_1, hx477_2, hx477_3⟩ := at_T32 HR0.out x15_1 p477 q477; cases e477; replace hx477_0 := (HB.out.cell (World.block_lt_of_cell? w _ hx477_0)).trans hx477_0; replace hx477_1 := (HB.out.cell (World.block_lt_of_cell? w _ hx477_1)).trans hx477_1; replace hx477_2 := (HB.out.cell (World.block_lt_of_cell? w _ hx477_2)).trans hx477_2; replace hx477_3 := (HB.out.cell (World.block_lt_of_cell? w _ hx477_3)).trans hx477_3; replace p477 := eq_true p477; replace q477 := eq_true q477; (try go_wp2_with (first | ((with_reducible refine gate_dst (N := 8) rfl ?_); refine box_event ?hg (N := 8) ?hd (cs := #[.int .i64 0, .int .i64 0, .int .i64 0, .int .i64 0]) (t := 32) ?hr ?_; (case hd => rfl); (case hg => rfl); (case hr => first | (go_simp; done) | (go_simp; rfl)); intro gb478 hg w36 hbox hb; have n0_ := Aside0.mk (blk_below (g := gb476) (o := .cells #[.bool a1_0, .int .i64 a1_1] 48 (0, 0)) (by (with_reducible repeat (first | refine blk_drewN ?_ _ | refine blk_drew ?_ | refine blk_alloc ?_ _)); exact BK476.out) hb); have n1_ := Aside0.mk (below_step (by repeat (first | (with_reducible first | exact HB.out | apply below_alloc | apply pw_below_drewN | apply below_drew1 | refine below_set ?_ GE476.out) | exact HB.out)) hb); have n2_ := Aside0.mk (hbox); have n3_ := Aside0.mk ((by rw [hg]; exact (below_size (by repeat (first | (with_reducible first | exact HB.out | apply below_alloc | apply pw_below_drewN | apply below_drew1 | refine below_set ?_ GE476.out) | exact HB.out))) : w.heap.size ≤ gb478)); have n4_ := Aside0.mk ((by rw [hg]; exact (below_size (by repeat (first | (with_reducible first | exact HB.out | apply below_alloc | apply pw_below_drewN | apply below_drew1 | refine below_set ?_ GE476.out) | exact HB.out))) : w.heap.size ≤ gb478)); have n5_ := Aside0.mk ((by rw [hg]; exact Nat.ne_of_lt (blk_lt (g := gb476) (o := .cells #[.bool a1_0, .int .i64 a1_1] 48 (0, 0)) (by (with_reducible repeat (first | refine blk_drewN ?_ _ | refine blk_drew ?_ | refine blk_alloc ?_ _)); exact BK476.out)) : gb476 ≠ gb478)); have n6_ := Aside0.mk ((by rw [hg]; exact Nat.ne_of_gt (blk_lt (g := gb476) (o := .cells #[.bool a1_0, .int .i64 a1_1] 48 (0, 0)) (by (with_reducible repeat (first | refine blk_drewN ?_ _ | refine blk_drew ?_ | refine blk_alloc ?_ _)); exact BK476.out)) : gb478 ≠ gb476)); clear BK476; clear HB; have BK476 := n0_; have HB := n1_; have BK478 := n2_; have GW478 := n3_; have GE478 := n4_; have NB476_478 := n5_; have NB478_476 := n6_; clear n0_ n1_ n2_ n3_ n4_ n5_ n6_; clear hb hbox hg; have hnb37 := NB478_476.out; have hnc37 := NB476_478.out; have hcz38_0 : w36.cell? ⟨gb478, 0, none⟩ = some (.int .i64 0) := (blk_cell BK478.out 0).trans rfl; have hcz38_1 : w36.cell? ⟨gb478, 1, none⟩ = some (.int .i64 0) := (blk_cell BK478.out 1).trans rfl; have hcz38_2 : w36.cell? ⟨gb478, 2, none⟩ = some (.int .i64 0) := (blk_cell BK478.out 2).trans rfl; have hcz38_3 : w36.cell? ⟨gb478, 3, none⟩ = some (.int .i64 0) := (blk_cell BK478.out 3).trans rfl; have hfz38_0 := blk_frozen BK478.out 0; have hfz38_1 := blk_frozen BK478.out 1; have hfz38_2 := blk_frozen BK478.out 2; have hfz38_3 := blk_frozen BK478.out 3; have hcz39_0 : w36.cell? ⟨gb476, 0, none⟩ = some (.bool a1_0) := (blk_cell BK476.out 0).trans rfl; have hcz39_1 : w36.cell? ⟨gb476, 1, none⟩ = some (.int .i64 a1_1) := (blk_cell BK476.out 1).trans rfl; have hfz39_0 := blk_frozen BK476.out 0; have hfz39_1 := blk_frozen BK476.out 1) | ((with_reducible refine gate_callee (f := 54) rfl ?_); refine goesL_ (some 23) rfl rfl Try.func54 (by kernel_rfl) rfl #[.agg #[.int .i64 ((rd_T32 l0 x15_1).f0), .int .i64 ((rd_T32 l0 x15_1).f1), .int .i64 ((rd_T32 l0 x15_1).f2), .int .i64 ((rd_T32 l0 x15_1).f3)], .agg #[.bool a1_0, .int .i64 a1_1]] rfl (by (try simp only [List.map_toArray, List.map_cons, List.map_nil]); first | done | rfl | (simp only [List.length_drop, List.length_take]; rfl)) ?_; (with_reducible refine (incunableref04_Place.calls k1 ((rd_T32 l0 x15_1).f0) ((rd_T32 l0 x15_1).f1) ((rd_T32 l0 x15_1).f2) ((rd_T32 l0 x15_1).f3) a1_0 a1_1 t479 false _ A7.out).mono ?_); rintro e w40 ⟨rfl, hb⟩; refine ⟨_, rfl, ?_⟩; have n0_ := Aside0.mk (blk_below (g := gb476) (o := .cells #[.bool a1_0, .int .i64 a1_1] 48 (0, 0)) (by (with_reducible repeat (first | refine blk_drewN ?_ _ | refine blk_drew ?_ | refine blk_alloc ?_ _)); refine blk_far ?_ NB476_478.out _; (with_reducible repeat (first | refine blk_drewN ?_ _ | refine blk_drew ?_ | refine blk_alloc ?_ _)); refine blk_far ?_ NB476_478.out _; (with_reducible repeat (first | refine blk_drewN ?_ _ | refine blk_drew ?_ | refine blk_alloc ?_ _)); refine blk_far ?_ NB476_478.out _; (with_reducible repeat (first | refine blk_drewN ?_ _ | refine blk_drew ?_ | refine blk_alloc ?_ _)); refine blk_far ?_ NB476_478.out _; (with_reducible repeat (first | refine blk_drewN ?_ _ | refine blk_drew ?_ | refine blk_alloc ?_ _)); exact BK476.out) hb); have n1_ := Aside0.mk (blk_below (g := gb478) (o := .cells #[.int .i64 ((rd_T32 l0 x15_1).f0), .int .i64 ((rd_T32 l0 x15_1).f1), .int .i64 ((rd_T32 l0 x15_1).f2), .int .i64 ((rd_T32 l0 x15_1).f3)] 32 (0, 0)) (by (with_reducible repeat (first | refine blk_drewN ?_ _ | refine blk_drew ?_ | refine blk_alloc ?_ _)); refine blk_put (cs := #[.int .i64 ((rd_T32 l0 x15_1).f0), .int .i64 ((rd_T32 l0 x15_1).f1), .int .i64 ((rd_T32 l0 x15_1).f2), .int .i64 0]) ?_ 3 _ rfl; (with_reducible repeat (first | refine blk_drewN ?_ _ | refine blk_drew ?_ | refine blk_alloc ?_ _)); refine blk_put (cs := #[.int .i64 ((rd_T32 l0 x15_1).f0), .int .i64 ((rd_T32 l0 x15_1).f1), .int .i64 0, .int .i64 0]) ?_ 2 _ rfl; (with_reducible repeat (first | refine blk_drewN ?_ _ | refine blk_drew ?_ | refine blk_alloc ?_ _)); refine blk_put (cs := #[.int .i64 ((rd_T32 l0 x15_1).f0), .int .i64 0, .int .i64 0, .int .i64 0]) ?_ 1 _ rfl; (with_reducible repeat (first | refine blk_drewN ?_ _ | refine blk_drew ?_ | refine blk_alloc ?_ _)); refine blk_put (cs := #[.int .i64 0, .int .i64 0, .int .i64 0, .int .i64 0]) ?_ 0 _ rfl; (with_reducible repeat (first | refine blk_drewN ?_ _ | refine blk_drew ?_ | refine blk_alloc ?_ _)); exact BK478.out) hb); have n2_ := Aside0.mk (below_step (by repeat (first | (with_reducible first | exact HB.out | apply below_alloc | apply pw_below_drewN | apply below_drew1 | refine below_set ?_ GE476.out | refine below_set ?_ GE478.out) | exact HB.out)) hb); clear BK476; clear BK478; clear HB; have BK476 := n0_; have BK478 := n1_; have HB := n2_; clear n0_ n1_ n2_; (try clear hb); (try clear hb2); (try clear hk); (try clear hi)))); have n0_ := Aside0.mk (blk_drew BK476.out); have n1_ := Aside0.mk (blk_drew BK478.out); have n2_ := Aside0.mk (below_drew1 HB.out); clear BK476; clear BK478; clear HB; have BK476 := n0_; have BK478 := n1_; have HB := n2_; clear n0_ n1_ n2_; refine start_ (n := 28) (S := fun w' => w'.cell? ⟨gb478, 0, none⟩ = some (.int .i64 ((rd_T32 l0 x15_1).f0)) ∧ w'.cell? ⟨gb478, 1, none⟩ = some (.int .i64 ((rd_T32 l0 x15_1).f1)) ∧ w'.cell? ⟨gb478, 2, none⟩ = some (.int .i64 ((rd_T32 l0 x15_1).f2)) ∧ w'.cell? ⟨gb478, 3, none⟩ = some (.int .i64 ((rd_T32 l0 x15_1).f3))) (ds := []) #[false, false, false, false, false, false, false, false, false, false, false, false, false, false, false, false, false, false, false, false, false, false, false, false, false, false, false, false] (by kernel_rfl) rfl rfl ⟨(blk_cell BK478.out 0).trans rfl, (blk_cell BK478.out 1).trans rfl, (blk_cell BK478.out 2).trans rfl, (blk_cell BK478.out 3).trans rfl⟩ (fun hHeld => ?_); refine with_tabW incunableref04_Bits.tab6 incunableref04_Bits.bits6 (fun HT_ HW_ => ?_); generalize w40.drew = w41 at BK476 BK478 HB hHeld ⊢; refine take_ (i := 0) (N := some 26) (v := ?_) (a' := ?_) #[true, false, false, false, false, false, false, false, false, false, false, false, false, false, false, false, false, false, false, false, false, false, false, false, false, false, false, false] rfl rfl (take_ofW HT_.out HW_.out (by kernel_rfl)) (fun _ _ _ h => h) (Or.inl ⟨by rfl, ?_⟩) hHeld ?_ ?_; rotate_left; (· rintro w' ⟨s0, s1, s2, s3⟩; go_simp; (with_reducible rfl)); rotate_left; (· simp only [Act.put, List.setIfInBounds_toArray, List.set_cons_zero, List.set_cons_succ, i64_w, i32_w]; rfl); refine one_ (i := 1) (N := some 27) #[true, true, false, false, false, false, false, false, false, false, false, false, false, false, false, false, false, false, false, false, false, false, false, false, false, false, false, false] rfl rfl (one_of HT_.out (by kernel_rfl)) (by decide) (fun K hK => ?_); refine goes_ Try.func51 (by kernel_rfl) rfl #[.agg #[.int .i64 ((rd_T32 l0 x15_1).f0), .int .i64 ((rd_T32 l0 x15_1).f1), .int .i64 ((rd_T32 l0 x15_1).f2), .int .i64 ((rd_T32 l0 x15_1).f3)]] (by rfl) rfl rfl (by (try simp only [List.map_toArray, List.map_cons, List.map_nil]); first | done | rfl | (simp only [List.length_drop, List.length_take]; rfl)) ?_; (with_reducible refine (incunableref04_used.calls ((rd_T32 l0 x15_1).f0) ((rd_T32 l0 x15_1).f1) ((rd_T32 l0 x15_1).f2) ((rd_T32 l0 x15_1).f3) true _ A8.out).mono ?_); rintro e w42 ⟨rfl, hb⟩; refine ⟨_, rfl, ?_⟩; have n0_ := Aside0.mk (blk_below (g := gb476) (o := .cells #[.bool a1_0, .int .i64 a1_1] 48 (0, 0)) (by (with_reducible repeat (first | refine blk_drewN ?_ _ | refine blk_drew ?_ | refine blk_alloc ?_ _)); exact BK476.out) hb); have n1_ := Aside0.mk (blk_below (g := gb478) (o := .cells #[.int .i64 ((rd_T32 l0 x15_1).f0), .int .i64 ((rd_T32 l0 x15_1).f1), .int .i64 ((rd_T32 l0 x15_1).f2), .int .i64 ((rd_T32 l0 x15_1).f3)] 32 (0, 0)) (by (with_reducible repeat (first | refine blk_drewN ?_ _ | refine blk_drew ?_ | refine blk_alloc ?_ _)); exact BK478.out) hb); have n2_ := Aside0.mk (below_step (by repeat (first | (with_reducible first | exact HB.out | apply below_alloc | apply pw_below_drewN | apply below_drew1 | refine below_set ?_ GE476.out | refine below_set ?_ GE478.out) | exact HB.out)) hb); clear BK476; clear BK478; clear HB; have BK476 := n0_; have BK478 := n1_; have HB := n2_; clear n0_ n1_ n2_; (try clear hb); (try clear hb2); (try clear hk); (try clear hi); refine hK.out _ _ ⟨(blk_cell BK478.out 0).trans rfl, (blk_cell BK478.out 1).trans rfl, (blk_cell BK478.out 2).trans rfl, (blk_cell BK478.out 3).trans rfl⟩ (fun hHeld => ?_); clear hK K; refine norm_ (a' := ?_) ?_ ?_; rotate_left; (· show Act.put _ (some 27) _ = _; simp only [Act.put, List.setIfInBounds_toArray, List.set_cons_zero, List.set_cons_succ, i64_w, i32_w]; rfl); refine pure_ (i := 2) (N := some 28) (v := ?_) (a' := ?_) #[true, true, true, false, false, false, false, false, false, false, false, false, false, false, false, false, false, false, false, false, false, false, false, false, false, false, false, false] rfl rfl (any_of HT_.out (by kernel_rfl)) (fun _ _ _ h => h) (Or.inl ⟨by rfl, ?_⟩) ?_ ?_; rotate_left; (· intro w'; go_simp; (with_reducible rfl)); rotate_left; (· simp only [Act.put, List.setIfInBounds_toArray, List.set_cons_zero, List.set_cons_succ, i64_w, i32_w]; rfl); refine pure_ (i := 3) (N := some 29) (v := ?_) (a' := ?_) #[true, true, true, true, false, false, false, false, false, false, false, false, false, false, false, false, false, false, false, false, false, false, false, false, false, false, false, false] rfl rfl (any_of HT_.out (by kernel_rfl)) (fun _ _ _ h => h) (Or.inl ⟨by rfl, ?_⟩) ?_ ?_; rotate_left; (· intro w'; go_simp; (with_reducible rfl)); rotate_left; (· simp only [Act.put, List.setIfInBounds_toArray, List.set_cons_zero, List.set_cons_succ, i64_w, i32_w]; rfl); refine pure_ (i := 4) (N := some 30) (v := ?_) (a' := ?_) #[true, true, true, true, true, false, false, false, false, false, false, false, false, false, false, false, false, false, false, false, false, false, false, false, false, false, false, false] rfl rfl (any_of HT_.out (by kernel_rfl)) (fun _ _ _ h => h) (Or.inl ⟨by rfl, ?_⟩) ?_ ?_; rotate_left; (· intro w'; go_simp; (with_reducible rfl)); rotate_left; (· simp only [Act.put, List.setIfInBounds_toArray, List.set_cons_zero, List.set_cons_succ, i64_w, i32_w]; rfl); refine pure_ (i := 5) (N := some 31) (v := ?_) (a' := ?_) #[true, true, true, true, true, true, false, false, false, false, false, false, false, false, false, false, false, false, false, false, false, false, false, false, false, false, false, false] rfl rfl (any_of HT_.out (by kernel_rfl)) (fun _ _ _ h => h) (Or.inl ⟨by rfl, ?_⟩) ?_ ?_; rotate_left; (· intro w'; go_simp; (with_reducible rfl)); rotate_left; (· simp only [Act.put, List.setIfInBounds_toArray, List.set_cons_zero, List.set_cons_succ, i64_w, i32_w]; rfl); refine pure_ (i := 6) (N := some 32) (v := undef) (a' := ?_) #[true, true, true, true, true, true, true, false, false, false, false, false, false, false, false, false, false, false, false, false, false, false, false, false, false, false, false, false] rfl rfl (any_of HT_.out (by kernel_rfl)) (fun _ _ _ h => h) (Or.inr ⟨by rfl, rfl⟩) ?_ ?_; rotate_left; (· simp only [Act.put, List.setIfInBounds_toArray, List.set_cons_zero, List.set_cons_succ, i64_w, i32_w]; rfl); refine pure_ (i := 7) (N := some 33) (v := undef) (a' := ?_) #[true, true, true, true, true, true, true, true, false, false, false, false, false, false, false, false, false, false, false, false, false, false, false, false, false, false, false, false] rfl rfl (any_of HT_.out (by kernel_rfl)) (fun _ _ _ h => h) (Or.inr ⟨by rfl, rfl⟩) ?_ ?_; rotate_left; (· simp only [Act.put, List.setIfInBounds_toArray, List.set_cons_zero, List.set_cons_succ, i64_w, i32_w]; rfl); refine pure_ (i := 8) (N := some 34) (v := undef) (a' := ?_) #[true, true, true, true, true, true, true, true, true, false, false, false, false, false, false, false, false, false, false, false, false, false, false, false, false, false, false, false] rfl rfl (any_of HT_.out (by kernel_rfl)) (fun _ _ _ h => h) (Or.inr ⟨by rfl, rfl⟩) ?_ ?_; rotate_left; (· simp only [Act.put, List.setIfInBounds_toArray, List.set_cons_zero, List.set_cons_succ, i64_w, i32_w]; rfl); refine pure_ (i := 9) (N := some 35) (v := undef) (a' := ?_) #[true, true, true, true, true, true, true, true, true, true, false, false, false, false, false, false, false, false, false, false, false, false, false, false, false, false, false, false] rfl rfl (any_of HT_.out (by kernel_rfl)) (fun _ _ _ h => h) (Or.inr ⟨by rfl, rfl⟩) ?_ ?_; rotate_left; (· simp only [Act.put, List.setIfInBounds_toArray, List.set_cons_zero, List.set_cons_succ, i64_w, i32_w]; rfl); refine pure_ (i := 10) (N := some 36) (v := undef) (a' := ?_) #[true, true, true, true, true, true, true, true, true, true, true, false, false, false, false, false, false, false, false, false, false, false, false, false, false, false, false, false] rfl rfl (any_of HT_.out (by kernel_rfl)) (fun _ _ _ h => h) (Or.inr ⟨by rfl, rfl⟩) ?_ ?_; rotate_left; (· simp only [Act.put, List.setIfInBounds_toArray, List.set_cons_zero, List.set_cons_succ, i64_w, i32_w]; rfl); refine pure_ (i := 11) (N := some 37) (v := undef) (a' := ?_) #[true, true, true, true, true, true, true, true, true, true, true, true, false, false, false, false, false, false, false, false, false, false, false, false, false, false, false, false] rfl rfl (any_of HT_.out (by kernel_rfl)) (fun _ _ _ h => h) (Or.inr ⟨by rfl, rfl⟩) ?_ ?_; rotate_left; (· simp only [Act.put, List.setIfInBounds_toArray, List.set_cons_zero, List.set_cons_succ, i64_w, i32_w]; rfl); refine pure_ (i := 12) (N := some 38) (v := undef) (a' := ?_) #[true, true, true, true, true, true, true, true, true, true, true, true, true, false, false, false, false, false, false, false, false, false, false, false, false, false, false, false] rfl rfl (any_of HT_.out (by kernel_rfl)) (fun _ _ _ h => h) (Or.inr ⟨by rfl, rfl⟩) ?_ ?_; rotate_left; (· simp only [Act.put, List.setIfInBounds_toArray, List.set_cons_zero, List.set_cons_succ, i64_w, i32_w]; rfl); refine pure_ (i := 13) (N := some 39) (v := undef) (a' := ?_) #[true, true, true, true, true, true, true, true, true, true, true, true, true, true, false, false, false, false, false, false, false, false, false, false, false, false, false, false] rfl rfl (any_of HT_.out (by kernel_rfl)) (fun _ _ _ h => h) (Or.inr ⟨by rfl, rfl⟩) ?_ ?_; rotate_left; (· simp only [Act.put, List.setIfInBounds_toArray, List.set_cons_zero, List.set_cons_succ, i64_w, i32_w]; rfl); refine pure_ (i := 14) (N := some 40) (v := undef) (a' := ?_) #[true, true, true, true, true, true, true, true, true, true, true, true, true, true, true, false, false, false, false, false, false, false, false, false, false, false, false, false] rfl rfl (any_of HT_.out (by kernel_rfl)) (fun _ _ _ h => h) (Or.inr ⟨by rfl, rfl⟩) ?_ ?_; rotate_left; (· simp only [Act.put, List.setIfInBounds_toArray, List.set_cons_zero, List.set_cons_succ, i64_w, i32_w]; rfl); refine pure_ (i := 15) (N := some 41) (v := undef) (a' := ?_) #[true, true, true, true, true, true, true, true, true, true, true, true, true, true, true, true, false, false, false, false, false, false, false, false, false, false, false, false] rfl rfl (any_of HT_.out (by kernel_rfl)) (fun _ _ _ h => h) (Or.inr ⟨by rfl, rfl⟩) ?_ ?_; rotate_left; (· simp only [Act.put, List.setIfInBounds_toArray, List.set_cons_zero, List.set_cons_succ, i64_w, i32_w]; rfl); refine pure_ (i := 16) (N := some 42) (v := undef) (a' := ?_) #[true, true, true, true, true, true, true, true, true, true, true, true, true, true, true, true, true, false, false, false, false, false, false, false, false, false, false, false] rfl rfl (any_of HT_.out (by kernel_rfl)) (fun _ _ _ h => h) (Or.inr ⟨by rfl, rfl⟩) ?_ ?_; rotate_left; (· simp only [Act.put, List.setIfInBounds_toArray, List.set_cons_zero, List.set_cons_succ, i64_w, i32_w]; rfl); refine pure_ (i := 17) (N := some 43) (v := undef) (a' := ?_) #[true, true, true, true, true, true, true, true, true, true, true, true, true, true, true, true, true, true, false, false, false, false, false, false, false, false, false, false] rfl rfl (any_of HT_.out (by kernel_rfl)) (fun _ _ _ h => h) (Or.inr ⟨by rfl, rfl⟩) ?_ ?_; rotate_left; (· simp only [Act.put, List.setIfInBounds_toArray, List.set_cons_zero, List.set_cons_succ, i64_w, i32_w]; rfl); refine pure_ (i := 18) (N := some 44) (v := undef) (a' := ?_) #[true, true, true, true, true, true, true, true, true, true, true, true, true, true, true, true, true, true, true, false, false, false, false, false, false, false, false, false] rfl rfl (any_of HT_.out (by kernel_rfl)) (fun _ _ _ h => h) (Or.inr ⟨by rfl, rfl⟩) ?_ ?_; rotate_left; (· simp only [Act.put, List.setIfInBounds_toArray, List.set_cons_zero, List.set_cons_succ, i64_w, i32_w]; rfl); refine pure_ (i := 19) (N := some 45) (v := undef) (a' := ?_) #[true, true, true, true, true, true, true, true, true, true, true, true, true, true, true, true, true, true, true, true, false, false, false, false, false, false, false, false] rfl rfl (any_of HT_.out (by kernel_rfl)) (fun _ _ _ h => h) (Or.inr ⟨by rfl, rfl⟩) ?_ ?_; rotate_left; (· simp only [Act.put, List.setIfInBounds_toArray, List.set_cons_zero, List.set_cons_succ, i64_w, i32_w]; rfl); refine pure_ (i := 20) (N := some 46) (v := undef) (a' := ?_) #[true, true, true, true, true, true, true, true, true, true, true, true, true, true, true, true, true, true, true, true, true, false, false, false, false, false, false, false] rfl rfl (any_of HT_.out (by kernel_rfl)) (fun _ _ _ h => h) (Or.inr ⟨by rfl, rfl⟩) ?_ ?_; rotate_left; (· simp only [Act.put, List.setIfInBounds_toArray, List.set_cons_zero, List.set_cons_succ, i64_w, i32_w]; rfl); refine pure_ (i := 21) (N := some 47) (v := undef) (a' := ?_) #[true, true, true, true, true, true, true, true, true, true, true, true, true, true, true, true, true, true, true, true, true, true, false, false, false, false, false, false] rfl rfl (any_of HT_.out (by kernel_rfl)) (fun _ _ _ h => h) (Or.inr ⟨by rfl, rfl⟩) ?_ ?_; rotate_left; (· simp only [Act.put, List.setIfInBounds_toArray, List.set_cons_zero, List.set_cons_succ, i64_w, i32_w]; rfl); refine pure_ (i := 22) (N := some 48) (v := undef) (a' := ?_) #[true, true, true, true, true, true, true, true, true, true, true, true, true, true, true, true, true, true, true, true, true, true, true, false, false, false, false, false] rfl rfl (any_of HT_.out (by kernel_rfl)) (fun _ _ _ h => h) (Or.inr ⟨by rfl, rfl⟩) ?_ ?_; rotate_left; (· simp only [Act.put, List.setIfInBounds_toArray, List.set_cons_zero, List.set_cons_succ, i64_w, i32_w]; rfl); refine pure_ (i := 23) (N := some 49) (v := undef) (a' := ?_) #[true, true, true, true, true, true, true, true, true, true, true, true, true, true, true, true, true, true, true, true, true, true, true, true, false, false, false, false] rfl rfl (any_of HT_.out (by kernel_rfl)) (fun _ _ _ h => h) (Or.inr ⟨by rfl, rfl⟩) ?_ ?_; rotate_left; (· simp only [Act.put, List.setIfInBounds_toArray, List.set_cons_zero, List.set_cons_succ, i64_w, i32_w]; rfl); refine pure_ (i := 24) (N := some 50) (v := undef) (a' := ?_) #[true, true, true, true, true, true, true, true, true, true, true, true, true, true, true, true, true, true, true, true, true, true, true, true, true, false, false, false] rfl rfl (any_of HT_.out (by kernel_rfl)) (fun _ _ _ h => h) (Or.inr ⟨by rfl, rfl⟩) ?_ ?_; rotate_left; (· simp only [Act.put, List.setIfInBounds_toArray, List.set_cons_zero, List.set_cons_succ, i64_w, i32_w]; rfl); refine pure_ (i := 25) (N := some 51) (v := undef) (a' := ?_) #[true, true, true, true, true, true, true, true, true, true, true, true, true, true, true, true, true, true, true, true, true, true, true, true, true, true, false, false] rfl rfl (any_of HT_.out (by kernel_rfl)) (fun _ _ _ h => h) (Or.inr ⟨by rfl, rfl⟩) ?_ ?_; rotate_left; (· simp only [Act.put, List.setIfInBounds_toArray, List.set_cons_zero, List.set_cons_succ, i64_w, i32_w]; rfl); refine pure_ (i := 26) (N := some 52) (v := undef) (a' := ?_) #[true, true, true, true, true, true, true, true, true, true, true, true, true, true, true, true, true, true, true, true, true, true, true, true, true, true, true, false] rfl rfl (any_of HT_.out (by kernel_rfl)) (fun _ _ _ h => h) (Or.inr ⟨by rfl, rfl⟩) ?_ ?_; rotate_left; (· simp only [Act.put, List.setIfInBounds_toArray, List.set_cons_zero, List.set_cons_succ, i64_w, i32_w]; rfl); refine pure_ (i := 27) (N := some 53) (v := ?_) (a' := ?_) #[true, true, true, true, true, true, true, true, true, true, true, true, true, true, true, true, true, true, true, true, true, true, true, true, true, true, true, true] rfl rfl (any_of HT_.out (by kernel_rfl)) (fun _ _ _ h => h) (Or.inl ⟨by rfl, ?_⟩) ?_ ?_; rotate_left; (· intro w'; go_simp; (with_reducible rfl)); rotate_left; (· simp only [Act.put, List.setIfInBounds_toArray, List.set_cons_zero, List.set_cons_succ, i64_w, i32_w]; rfl); refine done_ (done_of HT_.out (by kernel_rfl)) ?_; (try go_wp2); go_roundg k1; (case measure => have := HK1.out; omega); (case rel => exact ⟨(x6_1), (wrap64 (x15_1 + 1)), (by first | rfl | (simp; done) | (simp [*]; done)), (by first | rfl | (simp; done) | (simp [*]; done)), H', ⟨by have := HK1.out; omega⟩, ⟨by (with_reducible repeat (first | refine blk_drewN ?_ _ | refine blk_drew ?_ | refine blk_alloc ?_ _)); exact BK476.out⟩, ⟨by repeat (first | (with_reducible first | exact HB.out | apply below_alloc | apply pw_below_drewN | apply below_drew1 | refine below_set ?_ GE476.out | refine below_set ?_ GE478.out) | exact HB.out)⟩⟩))); (· replace c9 := Bool.eq_false_iff.mpr c9; subst c9; (have H1 : (incunableref04_Bits.l0 k1 l0 x6_1 l0 (l0.length : Int) (wrap64 (x15_1 + 1)) a1_0 a1_1) = some (r1, r2) := by rw [if_neg (show ¬ (false = true) by decide)] at H; exact H); clear H; have H := H1; clear H1; have H' := Aside0.mk H; clear H; have p477 : 0 ≤ (x15_1 : Int) := of_decide_eq_true (by first | (with_reducible assumption) | assumption); have q477 : x15_1 < (l0.length : Int) := of_decide_eq_true (by first | (with_reducible assumption) | assumption); obtain ⟨ad477, e477, hx477_0, hx477_1, hx477_2, hx477_3⟩ := at_T32 HR0.out x15_1 p477 q477; cases e477; replace hx477_0 := (HB.out.cell (World.block_lt_of_cell? w _ hx477_0)).trans hx477_0; replace hx477_1 := (HB.out.cell (World.block_lt_of_cell? w _ hx477_1)).trans hx477_1; replace hx477_2 := (HB.out.cell (World.block_lt_of_cell? w _ hx477_2)).trans hx477_2; replace hx477_3 := (HB.out.cell (World.block_lt_of_cell? w _ hx477_3)).trans hx477_3; replace p477 := eq_true p477; replace q477 := eq_true q477; (try go_wp2_with (first | ((with_reducible refine gate_dst (N := 8) rfl ?_); refine box_event ?hg (N := 8) ?hd (cs := #[.int .i64 0, .int .i64 0, .int .i64 0, .int .i64 0]) (t := 32) ?hr ?_; (case hd => rfl); (case hg => rfl); (case hr => first | (go_simp; done) | (go_simp; rfl)); intro gb478 hg w43 hbox hb; have n0_ := Aside0.mk (blk_below (g := gb476) (o := .cells #[.bool a1_0, .int .i64 a1_1] 48 (0, 0)) (by (with_reducible repeat (first | refine blk_drewN ?_ _ | refine blk_drew ?_ | refine blk_alloc ?_ _)); exact BK476.out) hb); have n1_ := Aside0.mk (below_step (by repeat (first | (with_reducible first | exact HB.out | apply below_alloc | apply pw_below_drewN | apply below_drew1 | refine below_set ?_ GE476.out) | exact HB.out)) hb); have n2_ := Aside0.mk (hbox); have n3_ := Aside0.mk ((by rw [hg]; exact (below_size (by repeat (first | (with_reducible first | exact HB.out | apply below_alloc | apply pw_below_drewN | apply below_drew1 | refine below_set ?_ GE476.out) | exact HB.out))) : w.heap.size ≤ gb478)); have n4_ := Aside0.mk ((by rw [hg]; exact (below_size (by repeat (first | (with_reducible first | exact HB.out | apply below_alloc | apply pw_below_drewN | apply below_drew1 | refine below_set ?_ GE476.out) | exact HB.out))) : w.heap.size ≤ gb478)); have n5_ := Aside0.mk ((by rw [hg]; exact Nat.ne_of_lt (blk_lt (g := gb476) (o := .cells #[.bool a1_0, .int .i64 a1_1] 48 (0, 0)) (by (with_reducible repeat (first | refine blk_drewN ?_ _ | refine blk_drew ?_ | refine blk_alloc ?_ _)); exact BK476.out)) : gb476 ≠ gb478)); have n6_ := Aside0.mk ((by rw [hg]; exact Nat.ne_of_gt (blk_lt (g := gb476) (o := .cells #[.bool a1_0, .int .i64 a1_1] 48 (0, 0)) (by (with_reducible repeat (first | refine blk_drewN ?_ _ | refine blk_drew ?_ | refine blk_alloc ?_ _)); exact BK476.out)) : gb478 ≠ gb476)); clear BK476; clear HB; have BK476 := n0_; have HB := n1_; have BK478 := n2_; have GW478 := n3_; have GE478 := n4_; have NB476_478 := n5_; have NB478_476 := n6_; clear n0_ n1_ n2_ n3_ n4_ n5_ n6_; clear hb hbox hg; have hnb44 := NB478_476.out; have hnc44 := NB476_478.out; have hcz45_0 : w43.cell? ⟨gb478, 0, none⟩ = some (.int .i64 0) := (blk_cell BK478.out 0).trans rfl; have hcz45_1 : w43.cell? ⟨gb478, 1, none⟩ = some (.int .i64 0) := (blk_cell BK478.out 1).trans rfl; have hcz45_2 : w43.cell? ⟨gb478, 2, none⟩ = some (.int .i64 0) := (blk_cell BK478.out 2).trans rfl; have hcz45_3 : w43.cell? ⟨gb478, 3, none⟩ = some (.int .i64 0) := (blk_cell BK478.out 3).trans rfl; have hfz45_0 := blk_frozen BK478.out 0; have hfz45_1 := blk_frozen BK478.out 1; have hfz45_2 := blk_frozen BK478.out 2; have hfz45_3 := blk_frozen BK478.out 3; have hcz46_0 : w43.cell? ⟨gb476, 0, none⟩ = some (.bool a1_0) := (blk_cell BK476.out 0).trans rfl; have hcz46_1 : w43.cell? ⟨gb476, 1, none⟩ = some (.int .i64 a1_1) := (blk_cell BK476.out 1).trans rfl; have hfz46_0 := blk_frozen BK476.out 0; have hfz46_1 := blk_frozen BK476.out 1) | ((with_reducible refine gate_callee (f := 54) rfl ?_); refine goesL_ (some 23) rfl rfl Try.func54 (by kernel_rfl) rfl #[.agg #[.int .i64 ((rd_T32 l0 x15_1).f0), .int .i64 ((rd_T32 l0 x15_1).f1), .int .i64 ((rd_T32 l0 x15_1).f2), .int .i64 ((rd_T32 l0 x15_1).f3)], .agg #[.bool a1_0, .int .i64 a1_1]] rfl (by (try simp only [List.map_toArray, List.map_cons, List.map_nil]); first | done | rfl | (simp only [List.length_drop, List.length_take]; rfl)) ?_; (with_reducible refine (incunableref04_Place.calls k1 ((rd_T32 l0 x15_1).f0) ((rd_T32 l0 x15_1).f1) ((rd_T32 l0 x15_1).f2) ((rd_T32 l0 x15_1).f3) a1_0 a1_1 t479 t480 _ A7.out).mono ?_); rintro e w47 ⟨rfl, hb⟩; refine ⟨_, rfl, ?_⟩; have n0_ := Aside0.mk (blk_below (g := gb476) (o := .cells #[.bool a1_0, .int .i64 a1_1] 48 (0, 0)) (by (with_reducible repeat (first | refine blk_drewN ?_ _ | refine blk_drew ?_ | refine blk_alloc ?_ _)); refine blk_far ?_ NB476_478.out _; (with_reducible repeat (first | refine blk_drewN ?_ _ | refine blk_drew ?_ | refine blk_alloc ?_ _)); refine blk_far ?_ NB476_478.out _; (with_reducible repeat (first | refine blk_drewN ?_ _ | refine blk_drew ?_ | refine blk_alloc ?_ _)); refine blk_far ?_ NB476_478.out _; (with_reducible repeat (first | refine blk_drewN ?_ _ | refine blk_drew ?_ | refine blk_alloc ?_ _)); refine blk_far ?_ NB476_478.out _; (with_reducible repeat (first | refine blk_drewN ?_ _ | refine blk_drew ?_ | refine blk_alloc ?_ _)); exact BK476.out) hb); have n1_ := Aside0.mk (blk_below (g := gb478) (o := .cells #[.int .i64 ((rd_T32 l0 x15_1).f0), .int .i64 ((rd_T32 l0 x15_1).f1), .int .i64 ((rd_T32 l0 x15_1).f2), .int .i64 ((rd_T32 l0 x15_1).f3)] 32 (0, 0)) (by (with_reducible repeat (first | refine blk_drewN ?_ _ | refine blk_drew ?_ | refine blk_alloc ?_ _)); refine blk_put (cs := #[.int .i64 ((rd_T32 l0 x15_1).f0), .int .i64 ((rd_T32 l0 x15_1).f1), .int .i64 ((rd_T32 l0 x15_1).f2), .int .i64 0]) ?_ 3 _ rfl; (with_reducible repeat (first | refine blk_drewN ?_ _ | refine blk_drew ?_ | refine blk_alloc ?_ _)); refine blk_put (cs := #[.int .i64 ((rd_T32 l0 x15_1).f0), .int .i64 ((rd_T32 l0 x15_1).f1), .int .i64 0, .int .i64 0]) ?_ 2 _ rfl; (with_reducible repeat (first | refine blk_drewN ?_ _ | refine blk_drew ?_ | refine blk_alloc ?_ _)); refine blk_put (cs := #[.int .i64 ((rd_T32 l0 x15_1).f0), .int .i64 0, .int .i64 0, .int .i64 0]) ?_ 1 _ rfl; (with_reducible repeat (first | refine blk_drewN ?_ _ | refine blk_drew ?_ | refine blk_alloc ?_ _)); refine blk_put (cs := #[.int .i64 0, .int .i64 0, .int .i64 0, .int .i64 0]) ?_ 0 _ rfl; (with_reducible repeat (first | refine blk_drewN ?_ _ | refine blk_drew ?_ | refine blk_alloc ?_ _)); exact BK478.out) hb); have n2_ := Aside0.mk (below_step (by repeat (first | (with_reducible first | exact HB.out | apply below_alloc | apply pw_below_drewN | apply below_drew1 | refine below_set ?_ GE476.out | refine below_set ?_ GE478.out) | exact HB.out)) hb); clear BK476; clear BK478; clear HB; have BK476 := n0_; have BK478 := n1_; have HB := n2_; clear n0_ n1_ n2_; (try clear hb); (try clear hb2); (try clear hk); (try clear hi)))); have n0_ := Aside0.mk (blk_drew BK476.out); have n1_ := Aside0.mk (blk_drew BK478.out); have n2_ := Aside0.mk (below_drew1 HB.out); clear BK476; clear BK478; clear HB; have BK476 := n0_; have BK478 := n1_; have HB := n2_; clear n0_ n1_ n2_; refine start_ (n := 28) (S := fun w' => w'.cell? ⟨gb478, 0, none⟩ = some (.int .i64 ((rd_T32 l0 x15_1).f0)) ∧ w'.cell? ⟨gb478, 1, none⟩ = some (.int .i64 ((rd_T32 l0 x15_1).f1)) ∧ w'.cell? ⟨gb478, 2, none⟩ = some (.int .i64 ((rd_T32 l0 x15_1).f2)) ∧ w'.cell? ⟨gb478, 3, none⟩ = some (.int .i64 ((rd_T32 l0 x15_1).f3))) (ds := []) #[false, false, false, false, false, false, false, false, false, false, false, false, false, false, false, false, false, false, false, false, false, false, false, false, false, false, false, false] (by kernel_rfl) rfl rfl ⟨(blk_cell BK478.out 0).trans rfl, (blk_cell BK478.out 1).trans rfl, (blk_cell BK478.out 2).trans rfl, (blk_cell BK478.out 3).trans rfl⟩ (fun hHeld => ?_); refine with_tabW incunableref04_Bits.tab6 incunableref04_Bits.bits6 (fun HT_ HW_ => ?_); generalize w47.drew = w48 at BK476 BK478 HB hHeld ⊢; refine take_ (i := 0) (N := some 26) (v := ?_) (a' := ?_) #[true, false, false, false, false, false, false, false, false, false, false, false, false, false, false, false, false, false, false, false, false, false, false, false, false, false, false, false] rfl rfl (take_ofW HT_.out HW_.out (by kernel_rfl)) (fun _ _ _ h => h) (Or.inl ⟨by rfl, ?_⟩) hHeld ?_ ?_; rotate_left; (· rintro w' ⟨s0, s1, s2, s3⟩; go_simp; (with_reducible rfl)); rotate_left; (· simp only [Act.put, List.setIfInBounds_toArray, List.set_cons_zero, List.set_cons_succ, i64_w, i32_w]; rfl); refine one_ (i := 1) (N := some 27) #[true, true, false, false, false, false, false, false, false, false, false, false, false, false, false, false, false, false, false, false, false, false, false, false, false, false, false, false] rfl rfl (one_of HT_.out (by kernel_rfl)) (by decide) (fun K hK => ?_); refine goes_ Try.func51 (by kernel_rfl) rfl #[.agg #[.int .i64 ((rd_T32 l0 x15_1).f0), .int .i64 ((rd_T32 l0 x15_1).f1), .int .i64 ((rd_T32 l0 x15_1).f2), .int .i64 ((rd_T32 l0 x15_1).f3)]] (by rfl) rfl rfl (by (try simp only [List.map_toArray, List.map_cons, List.map_nil]); first | done | rfl | (simp only [List.length_drop, List.length_take]; rfl)) ?_; (with_reducible refine (incunableref04_used.calls ((rd_T32 l0 x15_1).f0) ((rd_T32 l0 x15_1).f1) ((rd_T32 l0 x15_1).f2) ((rd_T32 l0 x15_1).f3) false _ A8.out).mono ?_); rintro e w49 ⟨rfl, hb⟩; refine ⟨_, rfl, ?_⟩; have n0_ := Aside0.mk (blk_below (g := gb476) (o := .cells #[.bool a1_0, .int .i64 a1_1] 48 (0, 0)) (by (with_reducible repeat (first | refine blk_drewN ?_ _ | refine blk_drew ?_ | refine blk_alloc ?_ _)); exact BK476.out) hb); have n1_ := Aside0.mk (blk_below (g := gb478) (o := .cells #[.int .i64 ((rd_T32 l0 x15_1).f0), .int .i64 ((rd_T32 l0 x15_1).f1), .int .i64 ((rd_T32 l0 x15_1).f2), .int .i64 ((rd_T32 l0 x15_1).f3)] 32 (0, 0)) (by (with_reducible repeat (first | refine blk_drewN ?_ _ | refine blk_drew ?_ | refine blk_alloc ?_ _)); exact BK478.out) hb); have n2_ := Aside0.mk (below_step (by repeat (first | (with_reducible first | exact HB.out | apply below_alloc | apply pw_below_drewN | apply below_drew1 | refine below_set ?_ GE476.out | refine below_set ?_ GE478.out) | exact HB.out)) hb); clear BK476; clear BK478; clear HB; have BK476 := n0_; have BK478 := n1_; have HB := n2_; clear n0_ n1_ n2_; (try clear hb); (try clear hb2); (try clear hk); (try clear hi); refine hK.out _ _ ⟨(blk_cell BK478.out 0).trans rfl, (blk_cell BK478.out 1).trans rfl, (blk_cell BK478.out 2).trans rfl, (blk_cell BK478.out 3).trans rfl⟩ (fun hHeld => ?_); clear hK K; refine norm_ (a' := ?_) ?_ ?_; rotate_left; (· show Act.put _ (some 27) _ = _; simp only [Act.put, List.setIfInBounds_toArray, List.set_cons_zero, List.set_cons_succ, i64_w, i32_w]; rfl); refine pure_ (i := 2) (N := some 28) (v := ?_) (a' := ?_) #[true, true, true, false, false, false, false, false, false, false, false, false, false, false, false, false, false, false, false, false, false, false, false, false, false, false, false, false] rfl rfl (any_of HT_.out (by kernel_rfl)) (fun _ _ _ h => h) (Or.inl ⟨by rfl, ?_⟩) ?_ ?_; rotate_left; (· intro w'; go_simp; (with_reducible rfl)); rotate_left; (· simp only [Act.put, List.setIfInBounds_toArray, List.set_cons_zero, List.set_cons_succ, i64_w, i32_w]; rfl); refine pure_ (i := 3) (N := some 29) (v := undef) (a' := ?_) #[true, true, true, true, false, false, false, false, false, false, false, false, false, false, false, false, false, false, false, false, false, false, false, false, false, false, false, false] rfl rfl (any_of HT_.out (by kernel_rfl)) (fun _ _ _ h => h) (Or.inr ⟨by rfl, rfl⟩) ?_ ?_; rotate_left; (· simp only [Act.put, List.setIfInBounds_toArray, List.set_cons_zero, List.set_cons_succ, i64_w, i32_w]; rfl); refine pure_ (i := 4) (N := some 30) (v := ?_) (a' := ?_) #[true, true, true, true, true, false, false, false, false, false, false, false, false, false, false, false, false, false, false, false, false, false, false, false, false, false, false, false] rfl rfl (any_of HT_.out (by kernel_rfl)) (fun _ _ _ h => h) (Or.inl ⟨by rfl, ?_⟩) ?_ ?_; rotate_left; (· intro w'; go_simp; (with_reducible rfl)); rotate_left; (· simp only [Act.put, List.setIfInBounds_toArray, List.set_cons_zero, List.set_cons_succ, i64_w, i32_w]; rfl); refine pure_ (i := 5) (N := some 31) (v := ?_) (a' := ?_) #[true, true, true, true, true, true, false, false, false, false, false, false, false, false, false, false, false, false, false, false, false, false, false, false, false, false, false, false] rfl rfl (any_of HT_.out (by kernel_rfl)) (fun _ _ _ h => h) (Or.inl ⟨by rfl, ?_⟩) ?_ ?_; rotate_left; (· intro w'; go_simp; (with_reducible rfl)); rotate_left; (· simp only [Act.put, List.setIfInBounds_toArray, List.set_cons_zero, List.set_cons_succ, i64_w, i32_w]; rfl); refine pure_ (i := 6) (N := some 32) (v := undef) (a' := ?_) #[true, true, true, true, true, true, true, false, false, false, false, false, false, false, false, false, false, false, false, false, false, false, false, false, false, false, false, false] rfl rfl (any_of HT_.out (by kernel_rfl)) (fun _ _ _ h => h) (Or.inr ⟨by rfl, rfl⟩) ?_ ?_; rotate_left; (· simp only [Act.put, List.setIfInBounds_toArray, List.set_cons_zero, List.set_cons_succ, i64_w, i32_w]; rfl); refine pure_ (i := 7) (N := some 33) (v := undef) (a' := ?_) #[true, true, true, true, true, true, true, true, false, false, false, false, false, false, false, false, false, false, false, false, false, false, false, false, false, false, false, false] rfl rfl (any_of HT_.out (by kernel_rfl)) (fun _ _ _ h => h) (Or.inr ⟨by rfl, rfl⟩) ?_ ?_; rotate_left; (· simp only [Act.put, List.setIfInBounds_toArray, List.set_cons_zero, List.set_cons_succ, i64_w, i32_w]; rfl); refine pure_ (i := 8) (N := some 34) (v := undef) (a' := ?_) #[true, true, true, true, true, true, true, true, true, false, false, false, false, false, false, false, false, false, false, false, false, false, false, false, false, false, false, false] rfl rfl (any_of HT_.out (by kernel_rfl)) (fun _ _ _ h => h) (Or.inr ⟨by rfl, rfl⟩) ?_ ?_; rotate_left; (· simp only [Act.put, List.setIfInBounds_toArray, List.set_cons_zero, List.set_cons_succ, i64_w, i32_w]; rfl); refine pure_ (i := 9) (N := some 35) (v := undef) (a' := ?_) #[true, true, true, true, true, true, true, true, true, true, false, false, false, false, false, false, false, false, false, false, false, false, false, false, false, false, false, false] rfl rfl (any_of HT_.out (by kernel_rfl)) (fun _ _ _ h => h) (Or.inr ⟨by rfl, rfl⟩) ?_ ?_; rotate_left; (· simp only [Act.put, List.setIfInBounds_toArray, List.set_cons_zero, List.set_cons_succ, i64_w, i32_w]; rfl); refine pure_ (i := 10) (N := some 36) (v := undef) (a' := ?_) #[true, true, true, true, true, true, true, true, true, true, true, false, false, false, false, false, false, false, false, false, false, false, false, false, false, false, false, false] rfl rfl (any_of HT_.out (by kernel_rfl)) (fun _ _ _ h => h) (Or.inr ⟨by rfl, rfl⟩) ?_ ?_; rotate_left; (· simp only [Act.put, List.setIfInBounds_toArray, List.set_cons_zero, List.set_cons_succ, i64_w, i32_w]; rfl); refine pure_ (i := 11) (N := some 37) (v := undef) (a' := ?_) #[true, true, true, true, true, true, true, true, true, true, true, true, false, false, false, false, false, false, false, false, false, false, false, false, false, false, false, false] rfl rfl (any_of HT_.out (by kernel_rfl)) (fun _ _ _ h => h) (Or.inr ⟨by rfl, rfl⟩) ?_ ?_; rotate_left; (· simp only [Act.put, List.setIfInBounds_toArray, List.set_cons_zero, List.set_cons_succ, i64_w, i32_w]; rfl); refine pure_ (i := 12) (N := some 38) (v := undef) (a' := ?_) #[true, true, true, true, true, true, true, true, true, true, true, true, true, false, false, false, false, false, false, false, false, false, false, false, false, false, false, false] rfl rfl (any_of HT_.out (by kernel_rfl)) (fun _ _ _ h => h) (Or.inr ⟨by rfl, rfl⟩) ?_ ?_; rotate_left; (· simp only [Act.put, List.setIfInBounds_toArray, List.set_cons_zero, List.set_cons_succ, i64_w, i32_w]; rfl); refine pure_ (i := 13) (N := some 39) (v := undef) (a' := ?_) #[true, true, true, true, true, true, true, true, true, true, true, true, true, true, false, false, false, false, false, false, false, false, false, false, false, false, false, false] rfl rfl (any_of HT_.out (by kernel_rfl)) (fun _ _ _ h => h) (Or.inr ⟨by rfl, rfl⟩) ?_ ?_; rotate_left; (· simp only [Act.put, List.setIfInBounds_toArray, List.set_cons_zero, List.set_cons_succ, i64_w, i32_w]; rfl); refine pure_ (i := 14) (N := some 40) (v := undef) (a' := ?_) #[true, true, true, true, true, true, true, true, true, true, true, true, true, true, true, false, false, false, false, false, false, false, false, false, false, false, false, false] rfl rfl (any_of HT_.out (by kernel_rfl)) (fun _ _ _ h => h) (Or.inr ⟨by rfl, rfl⟩) ?_ ?_; rotate_left; (· simp only [Act.put, List.setIfInBounds_toArray, List.set_cons_zero, List.set_cons_succ, i64_w, i32_w]; rfl); refine pure_ (i := 15) (N := some 41) (v := undef) (a' := ?_) #[true, true, true, true, true, true, true, true, true, true, true, true, true, true, true, true, false, false, false, false, false, false, false, false, false, false, false, false] rfl rfl (any_of HT_.out (by kernel_rfl)) (fun _ _ _ h => h) (Or.inr ⟨by rfl, rfl⟩) ?_ ?_; rotate_left; (· simp only [Act.put, List.setIfInBounds_toArray, List.set_cons_zero, List.set_cons_succ, i64_w, i32_w]; rfl); refine pure_ (i := 16) (N := some 42) (v := undef) (a' := ?_) #[true, true, true, true, true, true, true, true, true, true, true, true, true, true, true, true, true, false, false, false, false, false, false, false, false, false, false, false] rfl rfl (any_of HT_.out (by kernel_rfl)) (fun _ _ _ h => h) (Or.inr ⟨by rfl, rfl⟩) ?_ ?_; rotate_left; (· simp only [Act.put, List.setIfInBounds_toArray, List.set_cons_zero, List.set_cons_succ, i64_w, i32_w]; rfl); refine pure_ (i := 17) (N := some 43) (v := undef) (a' := ?_) #[true, true, true, true, true, true, true, true, true, true, true, true, true, true, true, true, true, true, false, false, false, false, false, false, false, false, false, false] rfl rfl (any_of HT_.out (by kernel_rfl)) (fun _ _ _ h => h) (Or.inr ⟨by rfl, rfl⟩) ?_ ?_; rotate_left; (· simp only [Act.put, List.setIfInBounds_toArray, List.set_cons_zero, List.set_cons_succ, i64_w, i32_w]; rfl); refine pure_ (i := 18) (N := some 44) (v := undef) (a' := ?_) #[true, true, true, true, true, true, true, true, true, true, true, true, true, true, true, true, true, true, true, false, false, false, false, false, false, false, false, false] rfl rfl (any_of HT_.out (by kernel_rfl)) (fun _ _ _ h => h) (Or.inr ⟨by rfl, rfl⟩) ?_ ?_; rotate_left; (· simp only [Act.put, List.setIfInBounds_toArray, List.set_cons_zero, List.set_cons_succ, i64_w, i32_w]; rfl); refine pure_ (i := 19) (N := some 45) (v := undef) (a' := ?_) #[true, true, true, true, true, true, true, true, true, true, true, true, true, true, true, true, true, true, true, true, false, false, false, false, false, false, false, false] rfl rfl (any_of HT_.out (by kernel_rfl)) (fun _ _ _ h => h) (Or.inr ⟨by rfl, rfl⟩) ?_ ?_; rotate_left; (· simp only [Act.put, List.setIfInBounds_toArray, List.set_cons_zero, List.set_cons_succ, i64_w, i32_w]; rfl); refine pure_ (i := 20) (N := some 46) (v := undef) (a' := ?_) #[true, true, true, true, true, true, true, true, true, true, true, true, true, true, true, true, true, true, true, true, true, false, false, false, false, false, false, false] rfl rfl (any_of HT_.out (by kernel_rfl)) (fun _ _ _ h => h) (Or.inr ⟨by rfl, rfl⟩) ?_ ?_; rotate_left; (· simp only [Act.put, List.setIfInBounds_toArray, List.set_cons_zero, List.set_cons_succ, i64_w, i32_w]; rfl); refine pure_ (i := 21) (N := some 47) (v := undef) (a' := ?_) #[true, true, true, true, true, true, true, true, true, true, true, true, true, true, true, true, true, true, true, true, true, true, false, false, false, false, false, false] rfl rfl (any_of HT_.out (by kernel_rfl)) (fun _ _ _ h => h) (Or.inr ⟨by rfl, rfl⟩) ?_ ?_; rotate_left; (· simp only [Act.put, List.setIfInBounds_toArray, List.set_cons_zero, List.set_cons_succ, i64_w, i32_w]; rfl); refine pure_ (i := 22) (N := some 48) (v := undef) (a' := ?_) #[true, true, true, true, true, true, true, true, true, true, true, true, true, true, true, true, true, true, true, true, true, true, true, false, false, false, false, false] rfl rfl (any_of HT_.out (by kernel_rfl)) (fun _ _ _ h => h) (Or.inr ⟨by rfl, rfl⟩) ?_ ?_; rotate_left; (· simp only [Act.put, List.setIfInBounds_toArray, List.set_cons_zero, List.set_cons_succ, i64_w, i32_w]; rfl); refine pure_ (i := 23) (N := some 49) (v := undef) (a' := ?_) #[true, true, true, true, true, true, true, true, true, true, true, true, true, true, true, true, true, true, true, true, true, true, true, true, false, false, false, false] rfl rfl (any_of HT_.out (by kernel_rfl)) (fun _ _ _ h => h) (Or.inr ⟨by rfl, rfl⟩) ?_ ?_; rotate_left; (· simp only [Act.put, List.setIfInBounds_toArray, List.set_cons_zero, List.set_cons_succ, i64_w, i32_w]; rfl); refine pure_ (i := 24) (N := some 50) (v := undef) (a' := ?_) #[true, true, true, true, true, true, true, true, true, true, true, true, true, true, true, true, true, true, true, true, true, true, true, true, true, false, false, false] rfl rfl (any_of HT_.out (by kernel_rfl)) (fun _ _ _ h => h) (Or.inr ⟨by rfl, rfl⟩) ?_ ?_; rotate_left; (· simp only [Act.put, List.setIfInBounds_toArray, List.set_cons_zero, List.set_cons_succ, i64_w, i32_w]; rfl); refine pure_ (i := 25) (N := some 51) (v := undef) (a' := ?_) #[true, true, true, true, true, true, true, true, true, true, true, true, true, true, true, true, true, true, true, true, true, true, true, true, true, true, false, false] rfl rfl (any_of HT_.out (by kernel_rfl)) (fun _ _ _ h => h) (Or.inr ⟨by rfl, rfl⟩) ?_ ?_; rotate_left; (· simp only [Act.put, List.setIfInBounds_toArray, List.set_cons_zero, List.set_cons_succ, i64_w, i32_w]; rfl); refine pure_ (i := 26) (N := some 52) (v := undef) (a' := ?_) #[true, true, true, true, true, true, true, true, true, true, true, true, true, true, true, true, true, true, true, true, true, true, true, true, true, true, true, false] rfl rfl (any_of HT_.out (by kernel_rfl)) (fun _ _ _ h => h) (Or.inr ⟨by rfl, rfl⟩) ?_ ?_; rotate_left; (· simp only [Act.put, List.setIfInBounds_toArray, List.set_cons_zero, List.set_cons_succ, i64_w, i32_w]; rfl); refine pure_ (i := 27) (N := some 53) (v := ?_) (a' := ?_) #[true, true, true, true, true, true, true, true, true, true, true, true, true, true, true, true, true, true, true, true, true, true, true, true, true, true, true, true] rfl rfl (any_of HT_.out (by kernel_rfl)) (fun _ _ _ h => h) (Or.inl ⟨by rfl, ?_⟩) ?_ ?_; rotate_left; (· intro w'; go_simp; (with_reducible rfl)); rotate_left; (· simp only [Act.put, List.setIfInBounds_toArray, List.set_cons_zero, List.set_cons_succ, i64_w, i32_w]; rfl); refine done_ (done_of HT_.out (by kernel_rfl)) ?_; (try go_wp2); go_roundg k1; (case measure => have := HK1.out; omega); (case rel => exact ⟨(x6_1), (wrap64 (x15_1 + 1)), (by first | rfl | (simp; done) | (simp [*]; done)), (by first | rfl | (simp; done) | (simp [*]; done)), H', ⟨by have := HK1.out; omega⟩, ⟨by (with_reducible repeat (first | refine blk_drewN ?_ _ | refine blk_drew ?_ | refine blk_alloc ?_ _)); exact BK476.out⟩, ⟨by repeat (first | (with_reducible first | exact HB.out | apply below_alloc | apply pw_below_drewN | apply below_drew1 | refine below_set ?_ GE476.out | refine below_set ?_ GE478.out) | exact HB.out)⟩⟩))); (· rw [if_neg c6] at H; exact absurd H (by simp))); (· rw [if_neg c5] at H; exact absurd H (by simp)))
   (· rw [if_neg c4] at H; have c4b0 : decide (x15_1 < (l0.length : Int)) = false := decide_eq_false c4; clear c4; by_cases c50 : x6_1 < 0; (· rw [if_pos c50] at H; have c50b0 : decide (x6_1 < 0) = true := decide_eq_true c50; clear c50; simp only [Option.some.injEq, Prod.mk.injEq] at H; obtain ⟨rfl, rfl⟩ := H; go_wp2; go_ret2; (exact ⟨_, by first | rfl | (simp [errW_none, errW_some] <;> rfl) | (simp [*, errW_none, errW_some] <;> rfl), by first | exact Kd.R_nil _ _ _ _ _ | exact Kd.N_nil _ _ _ _ _ | exact Kd.V_nil _ _ _ _ _ | exact Kd.Q_nil _ _ _ _ _ | exact Kd.S_nil _ _ _ _ _, by repeat (first | (with_reducible first | exact HB.out | apply below_alloc | apply pw_below_drewN | apply below_drew1 | refine below_set ?_ GE476.out) | exact HB.out)⟩)); (· rw [if_neg c50] at H; have c50b0 : decide (x6_1 < 0) = false := decide_eq_false c50; clear c50; by_cases c51 : 0 ≤ x6_1; (· rw [if_pos c51] at H; have c51b0 : decide (0 ≤ x6_1) = true := decide_eq_true c51; clear c51; by_cases c52 : x6_1 < (l0.length : Int); (· rw [if_pos c52] at H; have c52b0 : decide (x6_1 < (l0.length : Int)) = true := decide_eq_true c52; clear c52; replace H := Option.bind_eq_some_iff.mp H; obtain ⟨⟨t485, t486⟩, A530, H⟩ := H; replace H : ((incunableref04_Code.f k1 l0 x6_1).bind fun t487 => ((incunableref04_digits.f k1 t485 ((rd_T32 l0 x6_1).f1)).bind fun t491 => (if t487.length + t491.length < 140737488355328 then (some ((t487 ++ t491), true)) else (none)))) = some (r1, r2) := H; have A53 := Aside0.mk A530; clear A530; replace H := Option.bind_eq_some_iff.mp H; obtain ⟨t487, A540, H⟩ := H; replace H : ((incunableref04_digits.f k1 t485 ((rd_T32 l0 x6_1).f1)).bind fun t491 => (if t487.length + t491.length < 140737488355328 then (some ((t487 ++ t491), true)) else (none))) = some (r1, r2) := H; have A54 := Aside0.mk A540; clear A540; replace H := Option.bind_eq_some_iff.mp H; obtain ⟨t491, A550, H⟩ := H; replace H : (if t487.length + t491.length < 140737488355328 then (some ((t487 ++ t491), true)) else (none)) = some (r1, r2) := H; have A55 := Aside0.mk A550; clear A550; by_cases c56 : t487.length + t491.length < 140737488355328; (· rw [if_pos c56] at H; have LMc56 := Aside0.mk c56; clear c56; obtain ⟨y494, hy494⟩ : ∃ y_ : List Int, y_ = (t487 ++ t491) := ⟨_, rfl⟩; (replace H : (some (y494, true)) = some (r1, r2) := by first | (rw [hy494]; with_reducible exact H) | (have H2_ := (Option.bind_some _ _).symm.trans H; rw [hy494]; with_reducible exact H2_) | (have H2_ := (Option.bind_some _ _).symm.trans H; with_reducible exact H2_) | with_reducible exact H | (rw [hy494]; exact H) | exact H); have Ny494 := Aside0.mk hy494; clear hy494; simp only [Option.some.injEq, Prod.mk.injEq] at H; obtain ⟨rfl, rfl⟩ := H; (try go_wp2); have n0_ := Aside0.mk (blk_drew BK476.out); have n1_ := Aside0.mk (below_drew1 HB.out); clear BK476; clear HB; have BK476 := n0_; have HB := n1_; clear n0_ n1_; have p484 : 0 ≤ (x6_1 : Int) := of_decide_eq_true (by first | (with_reducible assumption) | assumption); have q484 : x6_1 < (l0.length : Int) := of_decide_eq_true (by first | (with_reducible assumption) | assumption); obtain ⟨ad484, e484, hx484_0, hx484_1, hx484_2, hx484_3⟩ := at_T32 HR0.out x6_1 p484 q484; have hw484_3 := hx484_3; have hw484_2 := hx484_2; have hw484_1 := hx484_1; have hw484_0 := hx484_0; cases e484; replace hx484_0 := (HB.out.cell (World.block_lt_of_cell? w _ hx484_0)).trans hx484_0; replace hx484_1 := (HB.out.cell (World.block_lt_of_cell? w _ hx484_1)).trans hx484_1; replace hx484_2 := (HB.out.cell (World.block_lt_of_cell? w _ hx484_2)).trans hx484_2; replace hx484_3 := (HB.out.cell (World.block_lt_of_cell? w _ hx484_3)).trans hx484_3; replace p484 := eq_true p484; replace q484 := eq_true q484; refine start_ (n := 11) (S := fun w' => w'.cell? ⟨gb476, 0, none⟩ = some (.bool a1_0) ∧ w'.cell? ⟨gb476, 1, none⟩ = some (.int .i64 a1_1) ∧ w'.cell? (ad484.add ((x6_1).toNat * 4)) = some (.int .i64 ((rd_T32 l0 x6_1).f0)) ∧ w'.cell? ⟨(ad484.add ((x6_1).toNat * 4)).block, (ad484.add ((x6_1).toNat * 4)).off + 1, none⟩ = some (.int .i64 ((rd_T32 l0 x6_1).f1)) ∧ w'.cell? ⟨(ad484.add ((x6_1).toNat * 4)).block, (ad484.add ((x6_1).toNat * 4)).off + 2, none⟩ = some (.int .i64 ((rd_T32 l0 x6_1).f2)) ∧ w'.cell? ⟨(ad484.add ((x6_1).toNat * 4)).block, (ad484.add ((x6_1).toNat * 4)).off + 3, none⟩ = some (.int .i64 ((rd_T32 l0 x6_1).f3))) (ds := []) #[false, false, false, false, false, false, false, false, false, false, false] (by kernel_rfl) rfl rfl ⟨(blk_cell BK476.out 0).trans rfl, (blk_cell BK476.out 1).trans rfl, ((HB.out.cell (World.block_lt_of_cell? w _ hw484_0)).trans hw484_0), ((HB.out.cell (World.block_lt_of_cell? w _ hw484_1)).trans hw484_1), ((HB.out.cell (World.block_lt_of_cell? w _ hw484_2)).trans hw484_2), ((HB.out.cell (World.block_lt_of_cell? w _ hw484_3)).trans hw484_3)⟩ (fun hHeld => ?_); refine with_tabW incunableref04_Bits.tab11 incunableref04_Bits.bits11 (fun HT_ HW_ => ?_); generalize wr.drew = w57 at BK476 HB hx484_0 hx484_1 hx484_2 hx484_3 hHeld ⊢; refine pure_ (i := 0) (N := some 59) (v := ?_) (a' := ?_) #[true, false, false, false, false, false, false, false, false, false, false] rfl rfl (any_of HT_.out (by kernel_rfl)) (fun _ _ _ h => h) (Or.inl ⟨by rfl, ?_⟩) ?_ ?_; rotate_left; (· intro w'; go_simp; (with_reducible rfl)); rotate_left; (· simp only [Act.put, List.setIfInBounds_toArray, List.set_cons_zero, List.set_cons_succ, i64_w, i32_w]; rfl); refine pure_ (i := 1) (N := some 60) (v := ?_) (a' := ?_) #[true, true, false, false, false, false, false, false, false, false, false] rfl rfl (any_of HT_.out (by kernel_rfl)) (fun _ _ _ h => h) (Or.inl ⟨by rfl, ?_⟩) ?_ ?_; rotate_left; (· intro w'; go_simp; (with_reducible rfl)); rotate_left; (· simp only [Act.put, List.setIfInBounds_toArray, List.set_cons_zero, List.set_cons_succ, i64_w, i32_w]; rfl); refine pure_ (i := 2) (N := some 61) (v := ?_) (a' := ?_) #[true, true, true, false, false, false, false, false, false, false, false] rfl rfl (any_of HT_.out (by kernel_rfl)) (fun _ _ _ h => h) (Or.inl ⟨by rfl, ?_⟩) ?_ ?_; rotate_left; (· intro w'; go_simp; (with_reducible rfl)); rotate_left; (· simp only [Act.put, List.setIfInBounds_toArray, List.set_cons_zero, List.set_cons_succ, i64_w, i32_w]; rfl); refine take_ (i := 3) (N := some 62) (v := ?_) (a' := ?_) #[true, true, true, true, false, false, false, false, false, false, false] rfl rfl (take_ofW HT_.out HW_.out (by kernel_rfl)) (fun _ _ _ h => h) (Or.inl ⟨by rfl, ?_⟩) hHeld ?_ ?_; rotate_left; (· rintro w' ⟨s0, s1, s2, s3, s4, s5⟩; go_simp; (with_reducible rfl)); rotate_left; (· simp only [Act.put, List.setIfInBounds_toArray, List.set_cons_zero, List.set_cons_succ, i64_w, i32_w]; rfl); refine take_ (i := 4) (N := some 63) (v := ?_) (a' := ?_) #[true, true, true, true, true, false, false, false, false, false, false] rfl rfl (take_ofW HT_.out HW_.out (by kernel_rfl)) (fun _ _ _ h => h) (Or.inl ⟨by rfl, ?_⟩) hHeld ?_ ?_; rotate_left; (· rintro w' ⟨s0, s1, s2, s3, s4, s5⟩; go_simp; (with_reducible rfl)); rotate_left; (· simp only [Act.put, List.setIfInBounds_toArray, List.set_cons_zero, List.set_cons_succ, i64_w, i32_w]; rfl); refine one_ (i := 5) (N := some 64) #[true, true, true, true, true, true, false, false, false, false, false] rfl rfl (one_of HT_.out (by kernel_rfl)) (by decide) (fun K hK => ?_); refine goes_ Try.func54 (by kernel_rfl) rfl #[.agg #[.int .i64 ((rd_T32 l0 x6_1).f0), .int .i64 ((rd_T32 l0 x6_1).f1), .int .i64 ((rd_T32 l0 x6_1).f2), .int .i64 ((rd_T32 l0 x6_1).f3)], .agg #[.bool a1_0, .int .i64 a1_1]] (by rfl) rfl rfl (by (try simp only [List.map_toArray, List.map_cons, List.map_nil]); first | done | rfl | (simp only [List.length_drop, List.length_take]; rfl)) ?_; (with_reducible refine (incunableref04_Place.calls k1 ((rd_T32 l0 x6_1).f0) ((rd_T32 l0 x6_1).f1) ((rd_T32 l0 x6_1).f2) ((rd_T32 l0 x6_1).f3) a1_0 a1_1 t485 t486 _ A53.out).mono ?_); rintro e w58 ⟨rfl, hb⟩; refine ⟨_, rfl, ?_⟩; have n0_ := Aside0.mk (blk_below (g := gb476) (o := .cells #[.bool a1_0, .int .i64 a1_1] 48 (0, 0)) (by (with_reducible repeat (first | refine blk_drewN ?_ _ | refine blk_drew ?_ | refine blk_alloc ?_ _)); exact BK476.out) hb); have n1_ := Aside0.mk (below_step (by repeat (first | (with_reducible first | exact HB.out | apply below_alloc | apply pw_below_drewN | apply below_drew1 | refine below_set ?_ GE476.out) | exact HB.out)) hb); clear BK476; clear HB; have BK476 := n0_; have HB := n1_; clear n0_ n1_; (try clear hb); (try clear hb2); (try clear hk); (try clear hi); refine hK.out _ _ ⟨(blk_cell BK476.out 0).trans rfl, (blk_cell BK476.out 1).trans rfl, ((HB.out.cell (World.block_lt_of_cell? w _ hw484_0)).trans hw484_0), ((HB.out.cell (World.block_lt_of_cell? w _ hw484_1)).trans hw484_1), ((HB.out.cell (World.block_lt_of_cell? w _ hw484_2)).trans hw484_2), ((HB.out.cell (World.block_lt_of_cell? w _ hw484_3)).trans hw484_3)⟩ (fun hHeld => ?_); clear hK K; refine norm_ (a' := ?_) ?_ ?_; rotate_left; (· show Act.put _ (some 64) _ = _; simp only [Act.put, List.setIfInBounds_toArray, List.set_cons_zero, List.set_cons_succ, i64_w, i32_w]; rfl); refine pure_ (i := 6) (N := some 58) (v := ?_) (a' := ?_) #[true, true, true, true, true, true, true, false, false, false, false] rfl rfl (any_of HT_.out (by kernel_rfl)) (fun _ _ _ h => h) (Or.inl ⟨by rfl, ?_⟩) ?_ ?_; rotate_left; (· intro w'; go_simp; (with_reducible rfl)); rotate_left; (· simp only [Act.put, List.setIfInBounds_toArray, List.set_cons_zero, List.set_cons_succ, i64_w, i32_w]; rfl); refine pure_ (i := 7) (N := some 65) (v := ?_) (a' := ?_) #[true, true, true, true, true, true, true, true, false, false, false] rfl rfl (any_of HT_.out (by kernel_rfl)) (fun _ _ _ h => h) (Or.inl ⟨by rfl, ?_⟩) ?_ ?_; rotate_left; (· intro w'; go_simp; (with_reducible rfl)); rotate_left; (· simp only [Act.put, List.setIfInBounds_toArray, List.set_cons_zero, List.set_cons_succ, i64_w, i32_w]; rfl); refine pure_ (i := 8) (N := some 66) (v := ?_) (a' := ?_) #[true, true, true, true, true, true, true, true, true, false, false] rfl rfl (any_of HT_.out (by kernel_rfl)) (fun _ _ _ h => h) (Or.inl ⟨by rfl, ?_⟩) ?_ ?_; rotate_left; (· intro w'; go_simp; (with_reducible rfl)); rotate_left; (· simp only [Act.put, List.setIfInBounds_toArray, List.set_cons_zero, List.set_cons_succ, i64_w, i32_w]; rfl); refine pure_ (i := 9) (N := some 11) (v := ?_) (a' := ?_) #[true, true, true, true, true, true, true, true, true, true, false] rfl rfl (any_of HT_.out (by kernel_rfl)) (fun _ _ _ h => h) (Or.inl ⟨by rfl, ?_⟩) ?_ ?_; rotate_left; (· intro w'; go_simp; (with_reducible rfl)); rotate_left; (· simp only [Act.put, List.setIfInBounds_toArray, List.set_cons_zero, List.set_cons_succ, i64_w, i32_w]; rfl); refine pure_ (i := 10) (N := some 12) (v := ?_) (a' := ?_) #[true, true, true, true, true, true, true, true, true, true, true] rfl rfl (any_of HT_.out (by kernel_rfl)) (fun _ _ _ h => h) (Or.inl ⟨by rfl, ?_⟩) ?_ ?_; rotate_left; (· intro w'; go_simp; (with_reducible rfl)); rotate_left; (· simp only [Act.put, List.setIfInBounds_toArray, List.set_cons_zero, List.set_cons_succ, i64_w, i32_w]; rfl); refine done_ (done_of HT_.out (by kernel_rfl)) ?_; (try go_wp2); have n0_ := Aside0.mk (blk_drew BK476.out); have n1_ := Aside0.mk (below_drew1 HB.out); clear BK476; clear HB; have BK476 := n0_; have HB := n1_; clear n0_ n1_; have p490 : 0 ≤ (x6_1 : Int) := of_decide_eq_true (by first | (with_reducible assumption) | assumption); have q490 : x6_1 < (l0.length : Int) := of_decide_eq_true (by first | (with_reducible assumption) | assumption); obtain ⟨ad490, e490, hx490_0, hx490_1, hx490_2, hx490_3⟩ := at_T32 HR0.out x6_1 p490 q490; have hw490_3 := hx490_3; have hw490_2 := hx490_2; have hw490_1 := hx490_1; have hw490_0 := hx490_0; obtain rfl : ad484 = ad490 := (by injection e490); replace hx490_0 := (HB.out.cell (World.block_lt_of_cell? w _ hx490_0)).trans hx490_0; replace hx490_1 := (HB.out.cell (World.block_lt_of_cell? w _ hx490_1)).trans hx490_1; replace hx490_2 := (HB.out.cell (World.block_lt_of_cell? w _ hx490_2)).trans hx490_2; replace hx490_3 := (HB.out.cell (World.block_lt_of_cell? w _ hx490_3)).trans hx490_3; replace p490 := eq_true p490; replace q490 := eq_true q490; refine start_ (n := 13) (S := fun w' => w'.cell? (ad484.add ((x6_1).toNat * 4)) = some (.int .i64 ((rd_T32 l0 x6_1).f0)) ∧ w'.cell? ⟨(ad484.add ((x6_1).toNat * 4)).block, (ad484.add ((x6_1).toNat * 4)).off + 1, none⟩ = some (.int .i64 ((rd_T32 l0 x6_1).f1)) ∧ w'.cell? ⟨(ad484.add ((x6_1).toNat * 4)).block, (ad484.add ((x6_1).toNat * 4)).off + 2, none⟩ = some (.int .i64 ((rd_T32 l0 x6_1).f2)) ∧ w'.cell? ⟨(ad484.add ((x6_1).toNat * 4)).block, (ad484.add ((x6_1).toNat * 4)).off + 3, none⟩ = some (.int .i64 ((rd_T32 l0 x6_1).f3))) (ds := []) #[false, false, false, false, false, false, false, false, false, false, false, false, false] (by kernel_rfl) rfl rfl ⟨((HB.out.cell (World.block_lt_of_cell? w _ hw490_0)).trans hw490_0), ((HB.out.cell (World.block_lt_of_cell? w _ hw490_1)).trans hw490_1), ((HB.out.cell (World.block_lt_of_cell? w _ hw490_2)).trans hw490_2), ((HB.out.cell (World.block_lt_of_cell? w _ hw490_3)).trans hw490_3)⟩ (fun hHeld => ?_); refine with_tabW incunableref04_Bits.tab12 incunableref04_Bits.bits12 (fun HT_ HW_ => ?_); generalize w58.drew = w59 at BK476 HB hx490_0 hx490_1 hx490_2 hx490_3 hHeld ⊢; refine pure_ (i := 0) (N := some 67) (v := ?_) (a' := ?_) #[true, false, false, false, false, false, false, false, false, false, false, false, false] rfl rfl (any_of HT_.out (by kernel_rfl)) (fun _ _ _ h => h) (Or.inl ⟨by rfl, ?_⟩) ?_ ?_; rotate_left; (· intro w'; go_simp; (with_reducible rfl)); rotate_left; (· simp only [Act.put, List.setIfInBounds_toArray, List.set_cons_zero, List.set_cons_succ, i64_w, i32_w]; rfl); refine pure_ (i := 1) (N := some 68) (v := ?_) (a' := ?_) #[true, true, false, false, false, false, false, false, false, false, false, false, false] rfl rfl (any_of HT_.out (by kernel_rfl)) (fun _ _ _ h => h) (Or.inl ⟨by rfl, ?_⟩) ?_ ?_; rotate_left; (· intro w'; go_simp; (with_reducible rfl)); rotate_left; (· simp only [Act.put, List.setIfInBounds_toArray, List.set_cons_zero, List.set_cons_succ, i64_w, i32_w]; rfl); refine pure_ (i := 3) (N := some 70) (v := ?_) (a' := ?_) #[true, true, false, true, false, false, false, false, false, false, false, false, false] rfl rfl (any_of HT_.out (by kernel_rfl)) (fun _ _ _ h => h) (Or.inl ⟨by rfl, ?_⟩) ?_ ?_; rotate_left; (· intro w'; go_simp; (with_reducible rfl)); rotate_left; (· simp only [Act.put, List.setIfInBounds_toArray, List.set_cons_zero, List.set_cons_succ, i64_w, i32_w]; rfl); refine pure_ (i := 4) (N := some 71) (v := ?_) (a' := ?_) #[true, true, false, true, true, false, false, false, false, false, false, false, false] rfl rfl (any_of HT_.out (by kernel_rfl)) (fun _ _ _ h => h) (Or.inl ⟨by rfl, ?_⟩) ?_ ?_; rotate_left; (· intro w'; go_simp; (with_reducible rfl)); rotate_left; (· simp only [Act.put, List.setIfInBounds_toArray, List.set_cons_zero, List.set_cons_succ, i64_w, i32_w]; rfl); refine pure_ (i := 5) (N := some 72) (v := ?_) (a' := ?_) #[true, true, false, true, true, true, false, false, false, false, false, false, false] rfl rfl (any_of HT_.out (by kernel_rfl)) (fun _ _ _ h => h) (Or.inl ⟨by rfl, ?_⟩) ?_ ?_; rotate_left; (· intro w'; go_simp; (with_reducible rfl)); rotate_left; (· simp only [Act.put, List.setIfInBounds_toArray, List.set_cons_zero, List.set_cons_succ, i64_w, i32_w]; rfl); refine pure_ (i := 6) (N := some 73) (v := ?_) (a' := ?_) #[true, true, false, true, true, true, true, false, false, false, false, false, false] rfl rfl (any_of HT_.out (by kernel_rfl)) (fun _ _ _ h => h) (Or.inl ⟨by rfl, ?_⟩) ?_ ?_; rotate_left; (· intro w'; go_simp; (with_reducible rfl)); rotate_left; (· simp only [Act.put, List.setIfInBounds_toArray, List.set_cons_zero, List.set_cons_succ, i64_w, i32_w]; rfl); refine pure_ (i := 7) (N := some 74) (v := ?_) (a' := ?_) #[true, true, false, true, true, true, true, true, false, false, false, false, false] rfl rfl (any_of HT_.out (by kernel_rfl)) (fun _ _ _ h => h) (Or.inl ⟨by rfl, ?_⟩) ?_ ?_; rotate_left; (· intro w'; go_simp; (with_reducible rfl)); rotate_left; (· simp only [Act.put, List.setIfInBounds_toArray, List.set_cons_zero, List.set_cons_succ, i64_w, i32_w]; rfl); refine take_ (i := 8) (N := some 75) (v := ?_) (a' := ?_) #[true, true, false, true, true, true, true, true, true, false, false, false, false] rfl rfl (take_ofW HT_.out HW_.out (by kernel_rfl)) (fun _ _ _ h => h) (Or.inl ⟨by rfl, ?_⟩) hHeld ?_ ?_; rotate_left; (· rintro w' ⟨s0, s1, s2, s3⟩; go_simp; (with_reducible rfl)); rotate_left; (· simp only [Act.put, List.setIfInBounds_toArray, List.set_cons_zero, List.set_cons_succ, i64_w, i32_w]; rfl); refine one_ (i := 2) (N := some 69) #[true, true, true, true, true, true, true, true, true, false, false, false, false] rfl rfl (one_of HT_.out (by kernel_rfl)) (by decide) (fun K hK => ?_); refine goes_ Try.func52 (by kernel_rfl) rfl #[.slice (some ad484) l0.length c0, .int .i64 x6_1] (by rfl) rfl rfl (by (try simp only [List.map_toArray, List.map_cons, List.map_nil]); first | done | rfl | (simp only [List.length_drop, List.length_take]; rfl)) ?_; (with_reducible refine (incunableref04_Code.calls k1 _ _ l0 x6_1 t487 _ ?side1 ?side2 A54.out).mono ?_); (case side1 => repeat (first | exact (Kd.C_below HR0.out HB.out) | (with_reducible refine Kd.C_alloc ?_ _) | (with_reducible refine Kd.C_drewN ?_ _) | (with_reducible refine Kd.C_drew ?_))); (case side2 => exact HC0.out); rintro e w60 ⟨v488, rfl, ho0, hb⟩; refine ⟨_, rfl, ?_⟩; have n0_ := Aside0.mk (Kd.R_lower ho0 (below_size (by repeat (first | (with_reducible first | exact HB.out | apply below_alloc | apply pw_below_drewN | apply below_drew1 | refine below_set ?_ GE476.out) | exact HB.out)))); have n1_ := Aside0.mk (blk_below (g := gb476) (o := .cells #[.bool a1_0, .int .i64 a1_1] 48 (0, 0)) (by (with_reducible repeat (first | refine blk_drewN ?_ _ | refine blk_drew ?_ | refine blk_alloc ?_ _)); exact BK476.out) hb); have n2_ := Aside0.mk (below_step (by repeat (first | (with_reducible first | exact HB.out | apply below_alloc | apply pw_below_drewN | apply below_drew1 | refine below_set ?_ GE476.out) | exact HB.out)) hb); clear BK476; clear HB; have HO489 := n0_; have BK476 := n1_; have HB := n2_; clear n0_ n1_ n2_; (try clear hb); (try clear hb2); (try clear hk); (try clear hi); (try clear ho0); refine hK.out _ _ ⟨((HB.out.cell (World.block_lt_of_cell? w _ hw490_0)).trans hw490_0), ((HB.out.cell (World.block_lt_of_cell? w _ hw490_1)).trans hw490_1), ((HB.out.cell (World.block_lt_of_cell? w _ hw490_2)).trans hw490_2), ((HB.out.cell (World.block_lt_of_cell? w _ hw490_3)).trans hw490_3)⟩ (fun hHeld => ?_); clear hK K; refine norm_ (a' := ?_) ?_ ?_; rotate_left; (· show Act.put _ (some 69) _ = _; simp only [Act.put, List.setIfInBounds_toArray, List.set_cons_zero, List.set_cons_succ, i64_w, i32_w]; rfl); refine one_ (i := 9) (N := some 76) #[true, true, true, true, true, true, true, true, true, true, false, false, false] rfl rfl (one_of HT_.out (by kernel_rfl)) (by decide) (fun K hK => ?_); refine goes_ Try.func55 (by kernel_rfl) rfl #[.int .i64 t485, .int .i64 ((rd_T32 l0 x6_1).f1)] (by rfl) rfl rfl (by (try simp only [List.map_toArray, List.map_cons, List.map_nil]); first | done | rfl | (simp only [List.length_drop, List.length_take]; rfl)) ?_; (with_reducible refine (incunableref04_digits.calls k1 t485 ((rd_T32 l0 x6_1).f1) t491 _ A55.out).mono ?_); rintro e w61 ⟨v492, rfl, ho0, hb⟩; refine ⟨_, rfl, ?_⟩; have n0_ := Aside0.mk (Kd.R_elder' (by (with_reducible repeat (first | apply Kd.R_alloc | apply Kd.R_drewN | apply Kd.R_drew)); exact HO489.out) (Kd.R_base ho0) hb); have n1_ := Aside0.mk (Kd.R_lower (Kd.R_new' ho0 (Kd.R_lt (by (with_reducible repeat (first | apply Kd.R_alloc | apply Kd.R_drewN | apply Kd.R_drew)); exact HO489.out))) (below_size (by repeat (first | (with_reducible first | exact HB.out | apply below_alloc | apply pw_below_drewN | apply below_drew1 | refine below_set ?_ GE476.out) | exact HB.out)))); have n2_ := Aside0.mk (blk_below (g := gb476) (o := .cells #[.bool a1_0, .int .i64 a1_1] 48 (0, 0)) (by (with_reducible repeat (first | refine blk_drewN ?_ _ | refine blk_drew ?_ | refine blk_alloc ?_ _)); exact BK476.out) hb); have n3_ := Aside0.mk (below_step (by repeat (first | (with_reducible first | exact HB.out | apply below_alloc | apply pw_below_drewN | apply below_drew1 | refine below_set ?_ GE476.out) | exact HB.out)) hb); clear HO489; clear BK476; clear HB; have HO489 := n0_; have HO493 := n1_; have BK476 := n2_; have HB := n3_; clear n0_ n1_ n2_ n3_; (try clear hb); (try clear hb2); (try clear hk); (try clear hi); (try clear ho0); obtain ⟨Ao63, co63, eo63⟩ := Kd.R_slice HO493.out; (first | subst eo63 | (injection eo63 with f1_ f2_ f3_; have f4_ := f1_.symm; have f5_ := f3_.symm; clear f1_ f2_ f3_; subst f4_; subst f5_)); refine hK.out _ _ ⟨((HB.out.cell (World.block_lt_of_cell? w _ hw490_0)).trans hw490_0), ((HB.out.cell (World.block_lt_of_cell? w _ hw490_1)).trans hw490_1), ((HB.out.cell (World.block_lt_of_cell? w _ hw490_2)).trans hw490_2), ((HB.out.cell (World.block_lt_of_cell? w _ hw490_3)).trans hw490_3)⟩ (fun hHeld => ?_); clear hK K; refine norm_ (a' := ?_) ?_ ?_; rotate_left; (· show Act.put _ (some 76) _ = _; simp only [Act.put, List.setIfInBounds_toArray, List.set_cons_zero, List.set_cons_succ, i64_w, i32_w]; rfl); refine one_ (i := 10) (N := some 77) #[true, true, true, true, true, true, true, true, true, true, true, false, false] rfl rfl (one_of HT_.out (by kernel_rfl)) (by decide) (fun K hK => ?_); refine Kd.R_append_rows_step (Kd.int .u8) (w0 := w) w.heap.size (by rfl) (.tmp 69) (.tmp 76) 46 5 (.int .u8 0) 1 rfl Try.underlying46 info5 rfl (by decide) (by omega) v488 t487 t491 _ _ _ (fun k_ => some k_ ≠ (.slice Ao63 t491.length co63 : Value).ownBlock) (fun _ => False) rfl rfl ?aO ?aR (fun _ _ h => h) (fun _ h => h.elim) ?aF ?aB ?aS ?aL ?_; (case aR => repeat (first | exact (Kd.R_reads' HO493.out).2.2 | (with_reducible refine Kd.C_alloc ?_ _) | (with_reducible refine Kd.C_drewN ?_ _) | (with_reducible refine Kd.C_drew ?_))); (case aB => exact (by repeat (first | (with_reducible first | exact HB.out | apply below_alloc | apply pw_below_drewN | apply below_drew1 | refine below_set ?_ GE476.out) | exact HB.out))); (case aF => exact (fun k_ hk => Kd.fresh' (Kd.R_lt (by (with_reducible repeat (first | apply Kd.R_alloc | apply Kd.R_drewN | apply Kd.R_drew)); exact HO493.out)) k_ hk)); (case aO => exact (by (with_reducible repeat (first | apply Kd.R_alloc | apply Kd.R_drewN | apply Kd.R_drew)); exact Kd.R_mono HO489.out (fun _ hk => hk.2))); (case aS => exact (below_size (by repeat (first | (with_reducible first | exact HB.out | apply below_alloc | apply pw_below_drewN | apply below_drew1 | refine below_set ?_ GE476.out) | exact HB.out)))); (case aL => have := LMc56.out; omega); intro v495 w62 ho hb hg hat; rw [← Ny494.out] at ho; have n0_ := Aside0.mk (blk_grown (g := gb476) (o := .cells #[.bool a1_0, .int .i64 a1_1] 48 (0, 0)) (by (with_reducible repeat (first | refine blk_drewN ?_ _ | refine blk_drew ?_ | refine blk_alloc ?_ _)); exact BK476.out) hg (Kd.R_ne HO489.out BK476.out (by decide))); have n1_ := Aside0.mk (Kd.R_after (ok := (fun _ => True)) (by (with_reducible repeat (first | apply Kd.R_alloc | apply Kd.R_drewN | apply Kd.R_drew)); exact HO493.out) hg hat); have n2_ := Aside0.mk (hb); have n3_ := Aside0.mk (ho); clear BK476; clear HO493; clear HB; clear HO489; have BK476 := n0_; have HO493 := n1_; have HB := n2_; have HO496 := n3_; clear n0_ n1_ n2_ n3_; clear ho hb hg hat; refine hK.out _ _ ⟨((HB.out.cell (World.block_lt_of_cell? w _ hw490_0)).trans hw490_0), ((HB.out.cell (World.block_lt_of_cell? w _ hw490_1)).trans hw490_1), ((HB.out.cell (World.block_lt_of_cell? w _ hw490_2)).trans hw490_2), ((HB.out.cell (World.block_lt_of_cell? w _ hw490_3)).trans hw490_3)⟩ (fun hHeld => ?_); clear hK K; refine norm_ (a' := ?_) ?_ ?_; rotate_left; (· show Act.put _ (some 77) _ = _; simp only [Act.put, List.setIfInBounds_toArray, List.set_cons_zero, List.set_cons_succ, i64_w, i32_w]; rfl); refine pure_ (i := 11) (N := some 4) (v := ?_) (a' := ?_) #[true, true, true, true, true, true, true, true, true, true, true, true, false] rfl rfl (any_of HT_.out (by kernel_rfl)) (fun _ _ _ h => h) (Or.inl ⟨by rfl, ?_⟩) ?_ ?_; rotate_left; (· intro w'; go_simp; (with_reducible rfl)); rotate_left; (· simp only [Act.put, List.setIfInBounds_toArray, List.set_cons_zero, List.set_cons_succ, i64_w, i32_w]; rfl); refine pure_ (i := 12) (N := some 5) (v := ?_) (a' := ?_) #[true, true, true, true, true, true, true, true, true, true, true, true, true] rfl rfl (any_of HT_.out (by kernel_rfl)) (fun _ _ _ h => h) (Or.inl ⟨by rfl, ?_⟩) ?_ ?_; rotate_left; (· intro w'; go_simp; (with_reducible rfl)); rotate_left; (· simp only [Act.put, List.setIfInBounds_toArray, List.set_cons_zero, List.set_cons_succ, i64_w, i32_w]; rfl); refine done_ (done_of HT_.out (by kernel_rfl)) ?_; (try go_wp2); go_ret2; (exact ⟨_, by first | rfl | (simp [errW_none, errW_some] <;> rfl) | (simp [*, errW_none, errW_some] <;> rfl), by (with_reducible repeat (first | apply Kd.R_alloc | apply Kd.R_drewN | apply Kd.R_drew)); exact Kd.R_mono HO496.out (fun _ hk => trivial), by repeat (first | (with_reducible first | exact HB.out | apply below_alloc | apply pw_below_drewN | apply below_drew1 | refine below_set ?_ GE476.out) | exact HB.out)⟩)); (· rw [if_neg c56] at H; exact absurd H (by simp))); (· rw [if_neg c52] at H; exact absurd H (by simp))); (· rw [if_neg c51] at H; exact absurd H (by simp))))
end Go.Proofs.Ytnadgcdkcabdoaa.U
namespace Go.Proofs.Ytnadgcdkcabdoaa.Cdx
open Go Go.RowKit Go.Proofs.YtnadgcdkcabdoaaW.PrintWords Go.Proofs.YtnadgcdkcabdoaaW.PrintLast Go.Proofs.YtnadgcdkcabdoaaW.PrintMore Go.Proofs.Ytnadgcdkcabdoaa.Aid Go.Proofs.Ytnadgcdkcabdoaa.U Go.Proofs.Ytnadgcdkcabdoaa.Tab
theorem div_pos_le {x : Int} (h : 0 ≤ x) (m : Nat) : 0 ≤ x / 2 ^ m ∧ x / 2 ^ m ≤ x :=
  ⟨Int.ediv_nonneg h (Int.pow_nonneg (by decide)), Int.ediv_le_self _ h⟩
/-- How much of 2^15 the lines in front of line i, among those of length L, take. -/
def front (L : Int) : Nat → List Ln → Int
  | _, [] => 0
  | i, x :: l => (if x.f0 < L then wS x else if x.f0 = L then (if 0 < i then wS x else 0) else 0) + front L (i - 1) l
theorem front_range {L : Int} : ∀ (t : List Ln) (i : Nat), (∀ x ∈ t, lineB x = true) → 0 ≤ front L i t ∧ front L i t ≤ sumI wS t
  | [], _, _ => by simp [front, sumI]
  | x :: l, i, h => by
    have h1 := front_range (L := L) l (i - 1) (fun y hy => h y (List.mem_cons_of_mem _ hy))
    have h2 := wS_range (h x List.mem_cons_self)
    simp only [front, sumI]
    split
    · omega
    · split
      · split <;> omega
      · omega
/-- The line's length. -/
abbrev len (t : List Ln) (i : Nat) : Int := (rd_T32 t (i : Int)).f0
/-- A line's code as a number. -/
def cnum (t : List Ln) (i : Nat) : Int := front (len t i) i t / 2 ^ (15 - len t i).toNat
end Go.Proofs.Ytnadgcdkcabdoaa.Cdx
namespace Go.Proofs.Ytnadgcdkcabdoaa.Cdy
open Go Go.RowKit Go.Proofs.YtnadgcdkcabdoaaW.PrintWords Go.Proofs.YtnadgcdkcabdoaaW.PrintLast Go.Proofs.YtnadgcdkcabdoaaW.PrintMore Go.Proofs.Ytnadgcdkcabdoaa.Aid Go.Proofs.Ytnadgcdkcabdoaa.U Go.Proofs.Ytnadgcdkcabdoaa.Tab Go.Proofs.Ytnadgcdkcabdoaa.Cdx
abbrev Cd := S84
/-- The code of line i, when the lines up to length L, and of L those in front of i, have theirs. -/
def cod (t : List Ln) (j : Nat) : Cd := ⟨cnum t j, len t j⟩
def outAt (t : List Ln) (L : Int) (i : Nat) : List Cd := (List.range t.length).map fun j => if len t j ≠ 0 ∧ (len t j < L ∨ (len t j = L ∧ j < i)) then cod t j else z84
theorem front_next {L : Int} : ∀ (t : List Ln) (n : Nat), t.length ≤ n → front L n t = front (L + 1) 0 t
  | [], _, _ => by simp [front]
  | x :: l, n, h => by
    have hn : l.length + 1 ≤ n := h
    simp only [front]
    rw [front_next l (n - 1) (by omega), show (0 : Nat) - 1 = 0 from rfl]
    congr 1
    by_cases c1 : x.f0 < L
    · rw [if_pos c1, if_pos (by omega)]
    · rw [if_neg c1]
      by_cases c2 : x.f0 = L
      · rw [if_pos c2, if_pos (by omega), if_pos (by omega)]
      · rw [if_neg c2, if_neg (by omega)]
        split <;> simp
theorem front_step {L : Int} : ∀ (t : List Ln) (i : Nat), i < t.length → front L (i + 1) t = front L i t + (if len t i = L then wS (rd_T32 t (i : Int)) else 0)
  | x :: l, 0, h => by
    have hx : rd_T32 (x :: l) ((0 : Nat) : Int) = x := rfl
    simp only [front, len, hx]
    by_cases c1 : x.f0 < L
    · rw [if_pos c1, if_pos c1, if_neg (by omega)]
      simp
    · rw [if_neg c1, if_neg c1]
      by_cases c2 : x.f0 = L
      · rw [if_pos c2, if_pos c2, if_pos c2]
        simp
        omega
      · rw [if_neg c2, if_neg c2, if_neg c2]
        simp
  | x :: l, i + 1, h => by
    have h1 : i < l.length := by simpa using h
    have hx : rd_T32 (x :: l) ((i + 1 : Nat) : Int) = rd_T32 l (i : Int) := by
      simp [rd_T32, List.getD_eq_getElem?_getD]
    have hs : front L (i + 1) l = front L i l + (if len l i = L then wS (rd_T32 l (i : Int)) else 0) := front_step l i h1
    simp only [front, len, hx, Nat.add_sub_cancel]
    rw [hs]
    simp only [len]
    rw [if_pos (show 0 < i + 1 + 1 by omega), if_pos (show 0 < i + 1 by omega), Int.add_assoc]
theorem front_one : ∀ (t : List Ln), (∀ x ∈ t, lineB x = true) → front 1 0 t = 0
  | [], _ => rfl
  | x :: l, h => by
    have hl := of_decide_eq_true (h x List.mem_cons_self)
    simp only [front]
    rw [show (0 : Nat) - 1 = 0 from rfl, front_one l (fun y hy => h y (List.mem_cons_of_mem _ hy))]
    by_cases c1 : x.f0 < 1
    · rw [if_pos c1, show wS x = 0 from if_pos (by omega)]
      rfl
    · rw [if_neg c1]
      split <;> simp
theorem outAt_len (t : List Ln) (L : Int) (i : Nat) : (outAt t L i).length = t.length := by simp [outAt]
theorem outAt_next (t : List Ln) (L : Int) (n : Nat) (h : t.length ≤ n) : outAt t L n = outAt t (L + 1) 0 := by
  unfold outAt
  refine List.map_congr_left fun j hj => ?_
  have := List.mem_range.1 hj
  by_cases c : len t j ≠ 0 ∧ (len t j < L ∨ (len t j = L ∧ j < n))
  · rw [if_pos c, if_pos ⟨c.1, .inl (by omega)⟩]
  · rw [if_neg c, if_neg (by omega)]
theorem pow_half {m : Nat} (h : 1 ≤ m) : (2 : Int) ^ m = 2 * 2 ^ (m - 1) := by
  obtain ⟨k, rfl⟩ : ∃ k, m = k + 1 := ⟨m - 1, by omega⟩
  rw [Nat.add_sub_cancel, Int.pow_succ, Int.mul_comm]
mutual
theorem codes_l0 (t : List Ln) (hv : vldP t) : ∀ (e : Nat) (L : Nat) (c p : Int), L + e = 16 → 1 ≤ L → (L ≤ 15 → p = L - 1 ∧ 2 * c * 2 ^ (15 - L) = front (L : Int) 0 t ∨ p = L ∧ c * 2 ^ (15 - L) = front (L : Int) 0 t) → 0 ≤ c → 1 ≤ p →
    Ev (fun k => prefix_codes.l0 k t (outAt t L 0) (L : Int) c p) (outAt t 16 0)
  | 0, L, c, p, hL, h1, hc, h0, hp => by
    refine ev_succ ?_
    simp only [prefix_codes.l0]
    refine ev_eq (ev_neg (by omega) (Ev.now _)) ?_
    rw [show (L : Int) = 16 by omega]
  | e + 1, L, c, p, hL, h1, hc, h0, hp => by
    have hF := front_range (L := (L : Int)) t 0 hv.2.1
    have hS := hv.2.2.2.2
    have hpw := pow15 (15 - L) (by omega)
    replace hc := hc (by omega)
    have hp1 : (L : Int) - p = 0 ∨ (L : Int) - p = 1 := by omega
    refine ev_succ ?_
    simp only [prefix_codes.l0]
    rw [wrap_id (n := (L : Int) - p) (by omega) (by omega)]
    refine ev_pos (by omega) (ev_pos (by omega) ?_)
    rcases hc with ⟨hp2, hc⟩ | ⟨hp2, hc⟩
    · have hc2 : 2 * c ≤ 32768 := by
        have : 2 * c * 1 ≤ 2 * c * 2 ^ (15 - L) := Int.mul_le_mul_of_nonneg_left hpw.1 (by omega)
        omega
      have hsh : shl .i64 c ((L : Int) - p) = 2 * c := by
        rw [show (L : Int) - p = 1 by omega]
        show IntKind.i64.wrap (c * 2 ^ 1) = 2 * c
        rw [i64_w, wrap_id (by omega) (by omega)]
        omega
      rw [hsh]
      exact codes_l1 t hv e L t.length 0 (2 * c) (by omega) h1 (by omega) (by simpa using hc) (by omega)
    · have hc2 : c ≤ 32768 := by
        have : c * 1 ≤ c * 2 ^ (15 - L) := Int.mul_le_mul_of_nonneg_left hpw.1 (by omega)
        omega
      have hsh : shl .i64 c ((L : Int) - p) = c := by
        rw [show (L : Int) - p = 0 by omega]
        show IntKind.i64.wrap (c * 2 ^ 0) = c
        rw [i64_w, wrap_id (by omega) (by omega)]
        omega
      rw [hsh]
      exact codes_l1 t hv e L t.length 0 c (by omega) h1 (by omega) (by simpa using hc) (by omega)
termination_by e _ _ _ _ _ _ _ => (e, 0)
theorem codes_l1 (t : List Ln) (hv : vldP t) : ∀ (e : Nat) (L : Nat) (d i : Nat) (c : Int), L + e = 15 → 1 ≤ L → i + d = t.length → c * 2 ^ (15 - L) = front (L : Int) i t → 0 ≤ c →
    Ev (fun k => prefix_codes.l1 k t (outAt t L i) (L : Int) t (t.length : Int) (i : Int) c (L : Int)) (outAt t 16 0)
  | e, L, 0, i, c, hL, h1, hd, hc, h0 => by
    have hF := front_range (L := (L : Int)) t i hv.2.1
    have hS := hv.2.2.2.2
    have ht := hv.1
    refine ev_succ ?_
    simp only [prefix_codes.l1]
    rw [wrap_id (n := (L : Int) + 1) (by omega) (by omega), outAt_next t L i (by omega), show (L : Int) + 1 = ((L + 1 : Nat) : Int) by omega]
    refine ev_neg (by omega) (codes_l0 t hv e (L + 1) c L (by omega) (by omega) ?_ h0 (by omega))
    intro hL15
    left
    refine ⟨by omega, ?_⟩
    have h2 := front_next (L := (L : Int)) t i (by omega)
    rw [pow_half (m := 15 - L) (by omega)] at hc
    rw [show ((L + 1 : Nat) : Int) = (L : Int) + 1 by omega, ← h2, ← hc, show 15 - (L + 1) = 15 - L - 1 by omega, Int.mul_comm 2 c, Int.mul_assoc]
  | e, L, d + 1, i, c, hL, h1, hd, hc, h0 => by
    have hi : i < t.length := by omega
    have hl := hv.2.1 _ (rdL_mem hi)
    have hl2 := of_decide_eq_true hl
    have ht := hv.1
    have hS := hv.2.2.2.2
    have hF := front_range (L := (L : Int)) t (i + 1) hv.2.1
    have hpw := pow15 (15 - L) (by omega)
    have hst := front_step (L := (L : Int)) t i hi
    have hlen : len t i = (rd_T32 t (i : Int)).f0 := rfl
    refine ev_succ ?_
    simp only [prefix_codes.l1]
    rw [wrap_id (n := (i : Int) + 1) (by omega) (by omega), outAt_len]
    refine ev_pos (by omega) (ev_pos (by omega) (ev_pos (by omega) ?_))
    by_cases cL : (rd_T32 t (i : Int)).f0 = (L : Int)
    · have hwe : wS (rd_T32 t (i : Int)) = 2 ^ (15 - L) := by
        unfold wS
        rw [if_neg (by omega), cL, show (15 - (L : Int)).toNat = 15 - L by omega]
      rw [hlen, if_pos cL, hwe, ← hc] at hst
      have hc2 : c ≤ 32768 := by
        have : c * 1 ≤ c * 2 ^ (15 - L) := Int.mul_le_mul_of_nonneg_left hpw.1 (by omega)
        omega
      refine ev_pos cL (ev_pos (by omega) ?_)
      rw [wrap_id (n := c + 1) (by omega) (by omega), Int.toNat_natCast]
      have hset : (outAt t L i).set i ⟨c, (L : Int)⟩ = outAt t L (i + 1) := by
        unfold outAt
        apply List.ext_getElem
        · simp
        intro j hj1 hj2
        simp at hj1 hj2
        rw [List.getElem_set]
        simp only [List.getElem_map, List.getElem_range]
        by_cases ej : i = j
        · subst ej
          rw [if_pos rfl, if_pos ⟨by omega, .inr ⟨by omega, by omega⟩⟩]
          unfold cod cnum
          rw [hlen, cL, show (15 - (L : Int)).toNat = 15 - L by omega, ← hc, Int.mul_ediv_cancel _ (by have := hpw.1; omega)]
        · rw [if_neg ej]
          by_cases cj : len t j ≠ 0 ∧ (len t j < L ∨ (len t j = L ∧ j < i))
          · rw [if_pos cj, if_pos ⟨cj.1, by omega⟩]
          · rw [if_neg cj, if_neg (by omega)]
      rw [hset]
      exact codes_l1 t hv e L d (i + 1) (c + 1) hL h1 (by omega) (by rw [hst, Int.add_mul]; omega) (by omega)
    · rw [hlen, if_neg cL, Int.add_zero, ← hc] at hst
      refine ev_neg cL ?_
      have hset : outAt t L i = outAt t L (i + 1) := by
        unfold outAt
        refine List.map_congr_left fun j hj => ?_
        by_cases cj : len t j ≠ 0 ∧ (len t j < L ∨ (len t j = L ∧ j < i))
        · rw [if_pos cj, if_pos ⟨cj.1, by omega⟩]
        · rw [if_neg cj, if_neg (fun hn => cj ⟨hn.1, by
            rcases hn.2 with h | ⟨h, h'⟩
            · exact .inl h
            · rcases Nat.lt_or_ge j i with h'' | h''
              · exact .inr ⟨h, h''⟩
              · have : j = i := by omega
                subst this
                exact absurd h cL⟩)]
      rw [hset]
      exact codes_l1 t hv e L d (i + 1) c hL h1 (by omega) hst.symm h0
termination_by e _ d _ _ _ _ _ _ _ => (e, d + 1)
end
end Go.Proofs.Ytnadgcdkcabdoaa.Cdy
namespace Go.Proofs.Ytnadgcdkcabdoaa.Cdz
open Go Go.RowKit Go.Proofs.YtnadgcdkcabdoaaW.PrintWords Go.Proofs.YtnadgcdkcabdoaaW.PrintLast Go.Proofs.YtnadgcdkcabdoaaW.PrintMore Go.Proofs.Ytnadgcdkcabdoaa.Aid Go.Proofs.Ytnadgcdkcabdoaa.U Go.Proofs.Ytnadgcdkcabdoaa.Tab Go.Proofs.Ytnadgcdkcabdoaa.Cdx Go.Proofs.Ytnadgcdkcabdoaa.Cdy
/-- The codes of all lines. -/
def codesL (t : List Ln) : List Cd := outAt t 16 0
theorem codes_ev (t : List Ln) (hv : vldP t) : Ev (fun k => prefix_codes.f k t) (codesL t) := by
  have ht := hv.1
  unfold prefix_codes.f
  refine ev_pos (by omega) (ev_pos (by rw [Int.toNat_natCast]; omega) ?_)
  rw [Int.toNat_natCast]
  have h := codes_l0 t hv 15 1 0 1 (by omega) (by omega) (fun _ => .inr ⟨rfl, by rw [show ((1 : Nat) : Int) = 1 from rfl, front_one t hv.2.1]; simp⟩) (by omega) (by omega)
  have e : outAt t 1 0 = List.replicate t.length z84 := by
    rw [List.eq_replicate_iff]
    refine ⟨by simp [outAt], fun b hb => ?_⟩
    obtain ⟨j, hj, rfl⟩ := List.mem_map.1 hb
    have hl := of_decide_eq_true (hv.2.1 _ (rdL_mem (List.mem_range.1 hj)))
    have hlen : len t j = (rd_T32 t (j : Int)).f0 := rfl
    rw [if_neg (by omega)]
  rw [show ((1 : Nat) : Int) = 1 from rfl, e] at h
  exact h
theorem codesL_len (t : List Ln) : (codesL t).length = t.length := outAt_len t 16 0
theorem codesL_at (t : List Ln) (hv : vldP t) (i : Nat) (hi : i < t.length) : rd_T84 (codesL t) (i : Int) = if len t i = 0 then z84 else cod t i := by
  have hl := of_decide_eq_true (hv.2.1 _ (rdL_mem hi))
  have hlen : len t i = (rd_T32 t (i : Int)).f0 := rfl
  have h1 : rd_T84 (codesL t) (i : Int) = (codesL t)[i]'(by rw [codesL_len]; exact hi) := by
    unfold rd_T84
    rw [Int.toNat_natCast, List.getD_eq_getElem?_getD, List.getElem?_eq_getElem (by rw [codesL_len]; exact hi)]
    rfl
  rw [h1]
  simp only [codesL, outAt, List.getElem_map, List.getElem_range]
  by_cases c : len t i = 0
  · rw [if_pos c, if_neg (fun h => h.1 c)]
  · rw [if_neg c, if_pos ⟨c, .inl (by omega)⟩]
def enc (o : Option Nat) : Int := match o with | none => -1 | some b => (b : Int)
end Go.Proofs.Ytnadgcdkcabdoaa.Cdz
namespace Go.Proofs.Ytnadgcdkcabdoaa.Rdp
open Go Go.RowKit Go.Proofs.YtnadgcdkcabdoaaW.PrintWords Go.Proofs.YtnadgcdkcabdoaaW.PrintLast Go.Proofs.YtnadgcdkcabdoaaW.PrintMore Go.Proofs.Ytnadgcdkcabdoaa.Aid Go.Proofs.Ytnadgcdkcabdoaa.HandAid
/-- A reader at block g of W: its bytes, and how many bits are read. -/
def IsRdr (W : World) (g : Nat) (b : List Int) (at' : Int) : Prop := ∃ v, W.heap[g]? = some (.cells #[v, .int .i64 at', .bool true] 114 (0, 0)) ∧ Kd.R (Kd.int .u8) 5 W 0 (fun _ => True) v b
theorem none_cell (w : World) (g : Nat) (real : Bool) (h2 : w.cell? ⟨g, 2, none⟩ = some (.bool real)) : Calls Try.prog 68 #[.pointer (some ⟨g, 0, none⟩)] w fun e w' => e = .returned (.bool (!real)) ∧ w = w' := by
  go_enter Try.func68, Try.ntmps68
  go_wp2
  go_ret
  exact ⟨rfl, rfl⟩
theorem left_real (w : World) (g : Nat) (A : Option Addr) (n c : Nat) (at' : Int) (h0 : w.cell? ⟨g, 0, none⟩ = some (.slice A n c)) (h1 : w.cell? ⟨g, 1, none⟩ = some (.int .i64 at')) (h2 : w.cell? ⟨g, 2, none⟩ = some (.bool true)) (hn : n ≤ 140737488355328) (ha : 0 ≤ at') (hb : at' ≤ 1125899906842624) :
    Calls Try.prog 75 #[.pointer (some ⟨g, 0, none⟩)] w fun e w' => e = .returned (.int .i64 (8 * (n : Int) - at')) ∧ ∃ m, w' = w.drewN m := by
  go_enter Try.func75, Try.ntmps75
  go_wp2_with (go_at_call 68; refine (none_cell _ _ _ h2).mono ?_; rintro e w' ⟨rfl, rfl⟩)
  go_quiet (fail)
  go_wp2
  go_ret
  exact ⟨rfl, _, rfl⟩
/-- The number that the bits from a place on are. -/
def bitsAt (b : List Int) (i : Int) : Nat → Int
  | 0 => 0
  | d + 1 => 2 * bitsAt b i d + bitOf b (i + d)
theorem bitsAt_range (b : List Int) (i : Int) : ∀ d : Nat, 0 ≤ bitsAt b i d ∧ bitsAt b i d < 2 ^ d
  | 0 => by simp [bitsAt]
  | d + 1 => by
    have := bitsAt_range b i d
    have h := bitOf_range b (i + d)
    rw [Int.pow_succ]
    unfold bitsAt
    omega
theorem bits_real (n : Int) (w : World) (g : Nat) (b : List Int) (at' : Int) (h : IsRdr w g b at') (hb : Bytes b) (hn0 : 0 ≤ n) (hn1 : n ≤ 32) (hl : b.length ≤ 140737488355328) (ha : 0 ≤ at') (hfit : at' + n ≤ 8 * b.length) :
    Calls Try.prog 67 #[.pointer (some ⟨g, 0, none⟩), .int .i64 n] w fun e w' => e = .returned (.tuple #[.int .i64 (bitsAt b at' n.toNat), .int .i64 0]) ∧ IsRdr w' g b (at' + n) ∧ w.grownBy w' (some g) := by
  obtain ⟨v, hblk, hR⟩ := h
  obtain ⟨A, c, rfl⟩ := Kd.R_slice hR
  have h0 : w.cell? ⟨g, 0, none⟩ = some (.slice A b.length c) := (blk_cell hblk 0).trans rfl
  have h1 : w.cell? ⟨g, 1, none⟩ = some (.int .i64 at') := (blk_cell hblk 1).trans rfl
  have h2 : w.cell? ⟨g, 2, none⟩ = some (.bool true) := (blk_cell hblk 2).trans rfl
  have hn2 : ¬ n < 0 := by omega
  have hn3 : ¬ n > 32 := by omega
  have hn4 : ¬ n > 8 * (b.length : Int) - at' := by omega
  have HBLK := Aside0.mk hblk
  clear hblk
  go_enter Try.func67, Try.ntmps67
  go_wp2_with (first | (go_at_call 68; refine (none_cell _ _ _ h2).mono ?_; rintro e w' ⟨rfl, rfl⟩) | (go_at_call 75; refine (left_real _ _ _ _ _ _ h0 h1 h2 hl ha (by omega)).mono ?_; rintro e w1 ⟨rfl, m, rfl⟩))
  go_loopw [6, 23] (fun x i wr => ∃ j : Nat, (j : Int) ≤ n ∧ x = .int .i64 (bitsAt b at' j) ∧ i = .int .i64 j ∧ Aside0 (wr.heap[g]? = some (.cells #[.slice A b.length c, .int .i64 (at' + j), .bool true] 114 (0, 0))) ∧ Aside0 (Kd.R (Kd.int .u8) 5 wr 0 (fun _ => True) (.slice A b.length c) b) ∧ Aside0 (w.grownBy wr (some g))) (fun _ i _ => (n - intOf i).toNat)
  case atStart => exact ⟨0, by omega, rfl, rfl, ⟨by simpa using HBLK.out⟩, ⟨Kd.R_drewN hR m⟩, ⟨rfl, rfl, rfl, Nat.le_refl _, fun _ _ _ => rfl⟩⟩
  case round =>
    obtain ⟨j, hj, rfl, rfl, hq, hR', hg⟩ := hrel
    by_cases hlt : (j : Int) < n
    · have q0 : wr.cell? ⟨g, 0, none⟩ = some (.slice A b.length c) := (blk_cell hq.out 0).trans rfl
      have q1 : wr.cell? ⟨g, 1, none⟩ = some (.int .i64 (at' + j)) := (blk_cell hq.out 1).trans rfl
      obtain ⟨ad, rfl, hd⟩ := Kd.at_int (Kd.R_reads' hR'.out).2.2 ((at' + j) / 8) (by omega) (by omega)
      have hbr := bytes_rdI hb (i := (at' + j) / 8) (by omega) (by omega)
      have hx := bitsAt_range b at' j
      have hp : (2 : Int) ^ j ≤ 2 ^ 32 := by
        have : j ≤ 32 := by omega
        exact_mod_cast Nat.pow_le_pow_right (by omega) this
      have hfz := blk_frozen hq.out 1
      have hbo := bitOf_range b (at' + j)
      have he : Go.bits .and .u8 (rd b ((at' + j) / 8) / 2 ^ (7 - (at' + j) % 8).toNat) 1 = bitOf b (at' + j) := and_one (Int.ediv_nonneg hbr.1 (Int.pow_nonneg (by decide))) (Int.lt_of_le_of_lt (Int.ediv_le_self _ hbr.1) (by omega))
      go_wp2
      go_quiet (fail)
      go_wp2
      go_roundw
      case rel =>
        refine ⟨j + 1, by omega, ?_, by go_num, ⟨?_⟩, ⟨?_⟩, ⟨?_⟩⟩
        · rfl
        · rw [show (at' + ((j + 1 : Nat) : Int)) = at' + j + 1 by omega]
          simpa using blk_set (w := wr.drewN nq) hq.out 1 (.int .i64 (at' + j + 1))
        · exact Kd.R_set hR'.out hq.out (by decide) _ _
        · exact grown_set (grown_drewN hg.out nq)
      case measure => simp [intOf]; omega
    · have hj' : n = (j : Int) := by omega
      subst hj'
      go_wp2
      go_ret2
      exact ⟨ret2_int (by simp) rfl, ⟨_, hq.out, hR'.out⟩, hg.out⟩
theorem bits_end (n : Int) (w : World) (g : Nat) (b : List Int) (at' : Int) (h : IsRdr w g b at') (hn0 : 0 ≤ n) (hn1 : n ≤ 32) (hl : b.length ≤ 140737488355328) (ha : 0 ≤ at') (ha2 : at' ≤ 8 * b.length) (hfit : 8 * b.length < at' + n) :
    Calls Try.prog 67 #[.pointer (some ⟨g, 0, none⟩), .int .i64 n] w fun e w' => e = .returned (.tuple #[.int .i64 0, .int .i64 6]) ∧ ∃ m, w' = w.drewN m := by
  obtain ⟨v, hblk, hR⟩ := h
  obtain ⟨A, c, rfl⟩ := Kd.R_slice hR
  have h0 : w.cell? ⟨g, 0, none⟩ = some (.slice A b.length c) := (blk_cell hblk 0).trans rfl
  have h1 : w.cell? ⟨g, 1, none⟩ = some (.int .i64 at') := (blk_cell hblk 1).trans rfl
  have h2 : w.cell? ⟨g, 2, none⟩ = some (.bool true) := (blk_cell hblk 2).trans rfl
  have hn2 : ¬ n < 0 := by omega
  have hn3 : ¬ n > 32 := by omega
  have hn4 : n > 8 * (b.length : Int) - at' := by omega
  go_enter Try.func67, Try.ntmps67
  go_wp2_with (first | (go_at_call 68; refine (none_cell _ _ _ h2).mono ?_; rintro e w' ⟨rfl, rfl⟩) | (go_at_call 75; refine (left_real _ _ _ _ _ _ h0 h1 h2 hl ha (by omega)).mono ?_; rintro e w1 ⟨rfl, m, rfl⟩))
  go_ret2
  exact ⟨rfl, _, rfl⟩
theorem at_real (w : World) (g : Nat) (at' : Int) (h1 : w.cell? ⟨g, 1, none⟩ = some (.int .i64 at')) (h2 : w.cell? ⟨g, 2, none⟩ = some (.bool true)) : Calls Try.prog 60 #[.pointer (some ⟨g, 0, none⟩)] w fun e w' => e = .returned (.int .i64 at') ∧ w = w' := by
  go_enter Try.func60, Try.ntmps60
  go_wp2_with (go_at_call 68; refine (none_cell _ _ _ h2).mono ?_; rintro e w' ⟨rfl, rfl⟩)
  go_ret
  exact ⟨rfl, rfl⟩
theorem new_reader (A0 : Option Addr) (c0 : Nat) (l0 : List Int) (w : World) (hr0 : Kd.C (Kd.int .u8) w A0 l0.length l0) (hc0 : l0.length ≤ c0) (hl : l0.length ≤ 140737488355328) :
    Calls Try.prog 66 #[.slice A0 l0.length c0] w fun e w' => ∃ g, e = .returned (.pointer (some ⟨g, 0, none⟩)) ∧ w.heap.size ≤ g ∧ IsRdr w' g l0 0 ∧ Below w.heap.size w w' := by
  have HR0 := Aside0.mk hr0
  have HC0 := Aside0.mk hc0
  clear hr0 hc0
  have HB := Aside0.mk (Below.refl w.heap.size w)
  go_enter Try.func66, Try.ntmps66
  go_wp2_with (first | ((with_reducible refine gate_dst (N := 3) rfl ?_); refine Kd.R_lit (Kd.int .u8) _ 5 ?hg (N := 3) ?hd (xs := ([] : List Int)) (inner := []) (ok := fun _ => True) (okp := fun _ => True) ?hr ?hp (fun _ hk => hk) trivial (Below.refl _ _) (Nat.le_refl _) (by simp) ?_; (case hd => rfl); (case hg => rfl); (case hr => first | (go_simp; done) | (go_simp; rfl)); (case hp => exact (Reps.none _ _)); intro v140 w3 ho4 hb hg_ hnew_; clear hg_ hnew_; have HO := Aside0.mk (Kd.R_lower ho4 (Nat.le_refl _)); have HB1 := Aside0.mk hb; clear hb ho4) | ((with_reducible refine gate_builtin (b := .append) (xs := #[.tmp 3, .tmp 4]) rfl ?_); at_builtin; refine Kd.R_append_rows (Kd.int .u8) (w0 := w) w.heap.size rfl (.tmp 3) (.tmp 4) 46 5 (.int .u8 0) 1 rfl Try.underlying46 infoU8 rfl (by decide) (by omega) v140 ([] : List Int) l0 _ _ _ (fun _ => True) (fun _ => False) rfl rfl ?aO ?aR (fun _ _ h => h) (fun _ h => h.elim) (fun _ _ => trivial) ?aB ?aS ?aL ?_; (case aR => exact Kd.C_below HR0.out HB1.out); (case aB => exact HB1.out); (case aO => exact HO.out); (case aS => exact HB1.out.size); (case aL => have hz : ([] : List Int).length = 0 := rfl; omega); intro v143 w5 ho hb hg hat; obtain ⟨A1, c1, rfl⟩ := Kd.R_slice ho; have HO2 := Aside0.mk ho; have HB2 := Aside0.mk hb; clear ho hb hg hat HO HB1))
  go_ret
  exact ⟨_, rfl, HB2.out.size, ⟨_, by simpa using heap_alloc_new _ _, Kd.R_lower (Kd.R_alloc HO2.out _) (Nat.zero_le _)⟩, below_alloc HB2.out _⟩
theorem IsRdr.drewN {W : World} {g : Nat} {b : List Int} {at' : Int} (h : IsRdr W g b at') (m : Nat) : IsRdr (W.drewN m) g b at' := by
  obtain ⟨v, hblk, hR⟩ := h
  exact ⟨v, hblk, Kd.R_drewN hR m⟩
theorem IsRdr.below {W W' : World} {g : Nat} {b : List Int} {at' : Int} (h : IsRdr W g b at') (hB : Below W.heap.size W W') : IsRdr W' g b at' := by
  obtain ⟨v, hblk, hR⟩ := h
  exact ⟨v, (hB.block g (blk_lt hblk)).trans hblk, Kd.R_below hR hB⟩
theorem IsRdr.cells {W : World} {g : Nat} {b : List Int} {at' : Int} (h : IsRdr W g b at') : ∃ A c, W.cell? ⟨g, 0, none⟩ = some (.slice A b.length c) ∧ W.cell? ⟨g, 1, none⟩ = some (.int .i64 at') ∧ W.cell? ⟨g, 2, none⟩ = some (.bool true) := by
  obtain ⟨v, hblk, hR⟩ := h
  obtain ⟨A, c, rfl⟩ := Kd.R_slice hR
  exact ⟨A, c, (blk_cell hblk 0).trans rfl, (blk_cell hblk 1).trans rfl, (blk_cell hblk 2).trans rfl⟩
end Go.Proofs.Ytnadgcdkcabdoaa.Rdp
namespace Go.Proofs.Ytnadgcdkcabdoaa.Mpp
open Go Go.RowKit Go.Proofs.YtnadgcdkcabdoaaW.PrintWords Go.Proofs.YtnadgcdkcabdoaaW.PrintLast Go.Proofs.YtnadgcdkcabdoaaW.PrintMore Go.Proofs.Ytnadgcdkcabdoaa.Aid Go.Proofs.Ytnadgcdkcabdoaa.HandAid
/-- The key of bits and how many. -/
abbrev kv (v m : Int) : Value := .agg #[.int .i64 v, .int .i64 m]
theorem keyed : Maps.Keyed Try.prog 84 := Maps.Keyed.of_law (deep_law (m := 4) (by omega) (by kernel_rfl) (by kernel_rfl) (by kernel_rfl))
noncomputable def kl (v m : Int) : Lit := @Classical.epsilon Lit ⟨.bool true⟩ (fun l => keyOf Try.prog 84 (kv v m) = some l)
theorem wf64_of {v : Int} (h : -9223372036854775808 ≤ v ∧ v ≤ 9223372036854775807) : (Lit.int .i64 v).wf = true := by
  show (decide (IntKind.i64.min ≤ v) && decide (v ≤ IntKind.i64.max)) = true
  rw [show IntKind.i64.min = -9223372036854775808 from by decide, show IntKind.i64.max = 9223372036854775807 from by decide]
  simpa using h
theorem kl_key {v m : Int} (hv : (Lit.int .i64 v).wf = true) (hm : (Lit.int .i64 m).wf = true) : keyOf Try.prog 84 (kv v m) = some (kl v m) := by
  have h : ∃ l, keyOf Try.prog 84 (kv v m) = some l := by
    have hk : Try.prog.keyType 84 = true := by kernel_rfl
    have hu := Try.underlying84
    have hc : Try.prog.cellsOf 84 = 2 := by kernel_rfl
    have hci : Try.prog.cellsOf 3 = 1 := by kernel_rfl
    have hui := Try.underlying3
    have hf : (kv v m).formed Try.prog 84 = true := by
      simp [Value.formed, hu, hc]
    have hl : Try.prog.keyLits (Try.prog.types.size + 1) 84 (kv v m).cells.toList = some [.int .i64 v, .int .i64 m] := by
      obtain ⟨d, hd⟩ : ∃ d, Try.prog.types.size + 1 = d + 2 := ⟨Try.prog.types.size - 1, by have := of_decide_eq_true (show decide (1 ≤ Try.prog.types.size) = true by kernel_rfl); omega⟩
      rw [hd]
      simp [Program.keyLits, hu, hui, hc, hci, Value.cells, hv, hm]
    unfold keyOf
    rw [hu]
    simp only
    rw [hk, hf, hl]
    exact ⟨_, rfl⟩
  exact Classical.epsilon_spec h
theorem kl_inj {v m v' m' : Int} (hv : (Lit.int .i64 v).wf = true) (hm : (Lit.int .i64 m).wf = true) (hv' : (Lit.int .i64 v').wf = true) (hm' : (Lit.int .i64 m').wf = true) (h : kl v m = kl v' m') : v = v' ∧ m = m' := by
  have h1 := kl_key hv hm
  rw [h] at h1
  have h2 := keyed.inj h1 (kl_key hv' hm')
  injection h2 with h2
  have h3 := congrArg Array.toList h2
  simpa using h3
/-- Block b of w is a map, made here, that has at the keys (bits, how many) just the values that g tells. -/
def InMap (e : TypeId) (w : World) (b n : Nat) (g : Int → Int → Option Lit) : Prop :=
  ∃ D : DataW Unit, w.ownsMap Try.prog 84 (plainElem Try.prog e) b n D ∧ ∀ v m, (Lit.int .i64 v).wf = true → (Lit.int .i64 m).wf = true → ∀ zd, D.atKey (kl v m) zd = (match g v m with | none => zd | some x => .lit x)
theorem InMap.heap {e : TypeId} {w w' : World} {b n : Nat} {g : Int → Int → Option Lit} (h : InMap e w b n g) (hh : w'.heap[b]? = w.heap[b]?) : InMap e w' b n g := by
  obtain ⟨D, ⟨es, clock, hb, F, hs, hD⟩, ha⟩ := h
  exact ⟨D, ⟨es, clock, hh.trans hb, F, hs, hD⟩, ha⟩
theorem InMap.blk {e : TypeId} {w : World} {b n : Nat} {g : Int → Int → Option Lit} (h : InMap e w b n g) : ∃ es clock, w.heap[b]? = some (.map es clock) := by
  obtain ⟨D, ⟨es, clock, hb, F, hs, hD⟩, ha⟩ := h
  exact ⟨es, clock, hb⟩
theorem InMap.same {e : TypeId} {w : World} {b n : Nat} {g g' : Int → Int → Option Lit} (h : InMap e w b n g) (hg : ∀ v m, g v m = g' v m) : InMap e w b n g' := by
  obtain rfl : g = g' := funext fun v => funext fun m => hg v m
  exact h
theorem InMap.made (e : TypeId) (w : World) : InMap e (w.alloc (.map #[] 0)) w.heap.size 0 (fun _ _ => none) := by
  refine ⟨.map [], World.ownsMap_made w _ _ _, fun v m _ _ zd => ?_⟩
  rfl
theorem look {e t : TypeId} {w : World} {b n : Nat} {g : Int → Int → Option Lit} (h : InMap e w b n g) (ht : Try.prog.underlying t = some (.map 84 e)) {z : Value} (hz : ∀ w : World, (zeroValue e).run Try.prog w = .ok z w) {v m : Int} (hv : (Lit.int .i64 v).wf = true) (hm : (Lit.int .i64 m).wf = true) (c : Bool) :
    (g v m = none ∧ (Instr.lookup t (.map (some b)) (kv v m) c).run Try.prog w = .ok (if c then .tuple #[z, .bool false] else z) w) ∨
    ∃ x val ps, g v m = some x ∧ plainElem (H := Unit) Try.prog e val = some (.lit x, ps) ∧ (Instr.lookup t (.map (some b)) (kv v m) c).run Try.prog w = .ok (if c then .tuple #[val, .bool true] else val) w := by
  obtain ⟨D, ⟨es, clock, hb, F, hs, rfl⟩, ha⟩ := h
  have hat := ha v m hv hm
  rcases Maps.fit_look c keyed ht (hz w) hb F (kl_key hv hm) with ⟨hrun, _, hat2⟩ | ⟨e0, y, _, _, hrun, hRv, hat2, _⟩
  · refine .inl ⟨?_, hrun⟩
    have h1 := hat2 .nil
    rw [hat .nil] at h1
    cases hg : g v m with
    | none => rfl
    | some x => rw [hg] at h1; cases h1
  · refine .inr ?_
    cases hg : g v m with
    | none =>
      have h1 := hat2 .nil
      have h2 := hat2 (.lit (.bool true))
      rw [hat, hg] at h1
      rw [hat, hg, ← h1] at h2
      cases h2
    | some x =>
      have h1 := hat2 .nil
      rw [hat, hg] at h1
      obtain ⟨y1, y2⟩ := y
      simp only at h1
      subst h1
      exact ⟨x, e0.val, y2, rfl, hRv, hrun⟩
theorem store {e t : TypeId} {w : World} {b n : Nat} {g : Int → Int → Option Lit} (h : InMap e w b n g) (ht : Try.prog.underlying t = some (.map 84 e)) (hn : n < maxLen) {v m : Int} (hv : (Lit.int .i64 v).wf = true) (hm : (Lit.int .i64 m).wf = true) {val : Value} {x : Lit} {ps : List MemPlace} (hval : plainElem (H := Unit) Try.prog e val = some (.lit x, ps)) :
    ∃ w', (Instr.mapUpdate t (.map (some b)) (kv v m) val).run Try.prog w = .ok () w' ∧ InMap e w' b (n + 1) (fun v' m' => if v' = v ∧ m' = m then some x else g v' m') ∧ w.grownBy w' (some b) := by
  obtain ⟨D, ho, ha⟩ := h
  obtain ⟨w', hrun, ho', hg⟩ := ho.update keyed ht hn (kl_key hv hm) hval
  have hmap : Maps.IsMap D := by
    obtain ⟨es, clock, hb, F, hs, rfl⟩ := ho
    exact ⟨_, rfl⟩
  have hkey := keyed.key (kl_key hv hm)
  refine ⟨w', hrun, ⟨_, ho', fun v' m' hv' hm' zd => ?_⟩, hg⟩
  simp only
  by_cases c : v' = v ∧ m' = m
  · obtain ⟨rfl, rfl⟩ := c
    rw [Maps.atKey_put_same hmap hkey, if_pos ⟨rfl, rfl⟩]
  · rw [Maps.atKey_put_other (fun e => c (kl_inj hv' hm' hv hm e)), ha v' m' hv' hm']
    rw [if_neg c]
end Go.Proofs.Ytnadgcdkcabdoaa.Mpp
namespace Go.Proofs.Ytnadgcdkcabdoaa.Dcm
open Go Go.RowKit Go.Proofs.YtnadgcdkcabdoaaW.PrintWords Go.Proofs.YtnadgcdkcabdoaaW.PrintLast Go.Proofs.YtnadgcdkcabdoaaW.PrintMore Go.Proofs.Ytnadgcdkcabdoaa.Aid Go.Proofs.Ytnadgcdkcabdoaa.HandAid Go.Proofs.Ytnadgcdkcabdoaa.U Go.Proofs.Ytnadgcdkcabdoaa.Tab Go.Proofs.Ytnadgcdkcabdoaa.Cdx Go.Proofs.Ytnadgcdkcabdoaa.Cdy Go.Proofs.Ytnadgcdkcabdoaa.Cdz Go.Proofs.Ytnadgcdkcabdoaa.Rdp Go.Proofs.Ytnadgcdkcabdoaa.Mpp
/-- The lines of the first codes. -/
def gW (t : List Ln) : Nat → Int → Int → Option Lit
  | 0 => fun _ _ => none
  | q + 1 => if len t q = 0 then gW t q else fun v m => if v = cnum t q ∧ m = len t q then some (.int .i64 (q : Int)) else gW t q v m
/-- The beginnings of a code of up to j digits, beside others. -/
def gI (c L : Int) (g : Int → Int → Option Lit) : Nat → Int → Int → Option Lit
  | 0 => g
  | j + 1 => fun v m => if v = c / 2 ^ (L - j).toNat ∧ m = (j : Int) then some (.bool true) else gI c L g j v m
/-- The beginnings of the first codes. -/
def gB (t : List Ln) : Nat → Int → Int → Option Lit
  | 0 => fun _ _ => none
  | q + 1 => if len t q = 0 then gB t q else gI (cnum t q) (len t q) (gB t q) (len t q).toNat
theorem map_off {e : TypeId} {w w' : World} {b n g : Nat} {f : Int → Int → Option Lit} (h : InMap e w b n f) (hg : w.grownBy w' (some g)) (hne : b ≠ g) : InMap e w' b n f := by
  obtain ⟨es, clock, hb⟩ := h.blk
  exact h.heap (hg.block b (Array.getElem?_eq_some_iff.1 hb).1 (fun e => hne (by injection e)))
theorem map_below {e : TypeId} {w w' : World} {b n : Nat} {f : Int → Int → Option Lit} (h : InMap e w b n f) (hB : Below w.heap.size w w') : InMap e w' b n f := by
  obtain ⟨es, clock, hb⟩ := h.blk
  exact h.heap (hB.block b (Array.getElem?_eq_some_iff.1 hb).1)
/-- A row of values that lead nowhere, beside a map that is written. -/
theorem R_map {α : Type} {d : Kd α} {e base b n : Nat} {et : TypeId} {w w1 : World} {ok : Nat → Prop} {v : Value} {xs : List α} {f : Int → Int → Option Lit} (h : d.R e w base ok v xs) (hE : d.E = []) (hm : InMap et w b n f) (hg : w.grownBy w1 (some b)) : d.R e w1 base ok v xs :=
  Kd.R_grown1 h hE hg (fun he => by
    obtain ⟨es, clock, hb⟩ := hm.blk
    obtain ⟨c, hc⟩ := Kd.R_typed h b he.symm
    rw [hb] at hc
    cases hc)
theorem blk_map {e : TypeId} {w w1 : World} {b n g : Nat} {f : Int → Int → Option Lit} {cs : Array Value} {t : TypeId} (h : w.heap[g]? = some (.cells cs t (0, 0))) (hm : InMap e w b n f) (hg : w.grownBy w1 (some b)) : w1.heap[g]? = some (.cells cs t (0, 0)) := by
  refine (hg.block g (Array.getElem?_eq_some_iff.1 h).1 (fun e => ?_)).trans h
  obtain ⟨es, clock, hb⟩ := hm.blk
  injection e with e
  rw [e, hb] at h
  cases h
theorem rdr_map {e : TypeId} {w w1 : World} {b n g : Nat} {f : Int → Int → Option Lit} {l : List Int} {a : Int} (h : IsRdr w g l a) (hm : InMap e w b n f) (hg : w.grownBy w1 (some b)) : IsRdr w1 g l a := by
  obtain ⟨v, hblk, hR⟩ := h
  exact ⟨v, blk_map hblk hm hg, R_map hR rfl hm hg⟩
theorem wpList_put {e t : TypeId} {w : World} {b n : Nat} {f : Int → Int → Option Lit} {ops : Array Oper} {rest : List Oper} {o : Oper} {a : Act} {Q : Exit → Act → World → Prop}
    (hg : o.guard = none) (hd : o.dst = none) (m x v : Operand) (hop : o.op = Op.mapUpdate t m x v) (ht : Try.prog.underlying t = some (.map 84 e)) (hm : a.eval m = .map (some b)) (h : InMap e w b n f) (hn : n < maxLen)
    (p q : Int) (hx : a.eval x = kv p q) (hp : (Lit.int .i64 p).wf = true) (hq : (Lit.int .i64 q).wf = true) (val : Value) (hv : a.eval v = val) (y : Lit) (ps : List MemPlace) (hval : plainElem (H := Unit) Try.prog e val = some (.lit y, ps))
    (hK : ∀ w', InMap e w' b (n + 1) (fun v' m' => if v' = p ∧ m' = q then some y else f v' m') → w.grownBy w' (some b) → wpList Try.prog ops Q rest a w') :
    wpList Try.prog ops Q (o :: rest) a w := by
  refine wpList_plain hg fun K' hK' => ?_
  obtain ⟨w', hrun, r1, r2⟩ := Mpp.store h ht hn hp hq hval
  unfold Oper.wp
  simp [execOp, hop, hm, hx, hv, hrun, Result.andThen]
  show K' (a.put o.dst undef) w'
  rw [hd]
  exact hK' _ _ (hK w' r1 r2)
theorem plain_int (n : Nat) (h : n ≤ 64) : plainElem (H := Unit) Try.prog 3 (.int .i64 (n : Int)) = some (.lit (.int .i64 (n : Int)), []) := plainElem_int Try.underlying3 (wf64_of (by omega))
theorem plain_true : plainElem (H := Unit) Try.prog 4 (.bool true) = some (.lit (.bool true), []) := plainElem_bool Try.underlying4 true
/-- What newReader's loop keeps. -/
structure St (w wr : World) (gx : Nat) (A : Option Addr) (c b1 b2 g : Nat) (Ac : Option Addr) (cc : Nat) (t : List Ln) (b : List Int) (q : Nat) (f : Int → Int → Option Lit) (n1 n2 : Nat) : Prop where
  obj : wr.heap[gx]? = some (.cells #[.slice A t.length c, .map (some b1), .map (some b2), .pointer (some ⟨g, 0, none⟩)] 100 (0, 0))
  m1 : InMap 3 wr b1 n1 (gW t q)
  m2 : InMap 4 wr b2 n2 f
  rdr : IsRdr wr g b 0
  row : Kd.R k84 84 wr 0 (fun _ => True) (.slice Ac t.length cc) (codesL t)
  bel : Below w.heap.size w wr
theorem St.below {w wr w1 : World} {gx : Nat} {A : Option Addr} {c b1 b2 g : Nat} {Ac : Option Addr} {cc : Nat} {t : List Ln} {b : List Int} {q : Nat} {f : Int → Int → Option Lit} {n1 n2 : Nat} (h : St w wr gx A c b1 b2 g Ac cc t b q f n1 n2) (hB : Below wr.heap.size wr w1) : St w w1 gx A c b1 b2 g Ac cc t b q f n1 n2 :=
  ⟨(hB.block gx (Array.getElem?_eq_some_iff.1 h.obj).1).trans h.obj, map_below h.m1 hB, map_below h.m2 hB, h.rdr.below hB, Kd.R_below h.row hB, below_then h.bel h.bel.size hB⟩
theorem St.put1 {w wr w1 : World} {gx : Nat} {A : Option Addr} {c b1 b2 g : Nat} {Ac : Option Addr} {cc : Nat} {t : List Ln} {b : List Int} {q q' : Nat} {f : Int → Int → Option Lit} {n1 n2 n1' : Nat} (h : St w wr gx A c b1 b2 g Ac cc t b q f n1 n2) (hne : b1 ≠ b2) (hb : w.heap.size ≤ b1) (hm : InMap 3 w1 b1 n1' (gW t q')) (hg : wr.grownBy w1 (some b1)) : St w w1 gx A c b1 b2 g Ac cc t b q' f n1' n2 :=
  ⟨blk_map h.obj h.m1 hg, hm, map_off h.m2 hg (fun e => hne e.symm), rdr_map h.rdr h.m1 hg, R_map h.row rfl h.m1 hg, below_grown1 h.bel h.bel.size hg hb⟩
theorem St.put2 {w wr w1 : World} {gx : Nat} {A : Option Addr} {c b1 b2 g : Nat} {Ac : Option Addr} {cc : Nat} {t : List Ln} {b : List Int} {q : Nat} {f f' : Int → Int → Option Lit} {n1 n2 n2' : Nat} (h : St w wr gx A c b1 b2 g Ac cc t b q f n1 n2) (hne : b1 ≠ b2) (hb : w.heap.size ≤ b2) (hm : InMap 4 w1 b2 n2' f') (hg : wr.grownBy w1 (some b2)) : St w w1 gx A c b1 b2 g Ac cc t b q f' n1 n2' :=
  ⟨blk_map h.obj h.m2 hg, map_off h.m1 hg hne, hm, rdr_map h.rdr h.m2 hg, R_map h.row rfl h.m2 hg, below_grown1 h.bel h.bel.size hg hb⟩
end Go.Proofs.Ytnadgcdkcabdoaa.Dcm
namespace Go.Proofs.Ytnadgcdkcabdoaa.Nrd
open Go Go.RowKit Go.Proofs.YtnadgcdkcabdoaaW.PrintWords Go.Proofs.YtnadgcdkcabdoaaW.PrintLast Go.Proofs.YtnadgcdkcabdoaaW.PrintMore Go.Proofs.Ytnadgcdkcabdoaa.Aid Go.Proofs.Ytnadgcdkcabdoaa.HandAid Go.Proofs.Ytnadgcdkcabdoaa.U Go.Proofs.Ytnadgcdkcabdoaa.Tab Go.Proofs.Ytnadgcdkcabdoaa.Cdx Go.Proofs.Ytnadgcdkcabdoaa.Cdy Go.Proofs.Ytnadgcdkcabdoaa.Cdz Go.Proofs.Ytnadgcdkcabdoaa.Rdp Go.Proofs.Ytnadgcdkcabdoaa.Mpp Go.Proofs.Ytnadgcdkcabdoaa.Dcm
/-- A new reader of numbers. -/
def Made (w w' : World) (gx : Nat) (A : Option Addr) (c : Nat) (t : List Ln) (b : List Int) : Prop := w.heap.size ≤ gx ∧ ∃ b1 b2 g Ac cc n1 n2, w.heap.size ≤ g ∧ St w w' gx A c b1 b2 g Ac cc t b t.length (gB t t.length) n1 n2
set_option maxHeartbeats 8000000 in
set_option maxRecDepth 100000 in
theorem newreader_calls (A : Option Addr) (c : Nat) (t : List Ln) (A2 : Option Addr) (c2 : Nat) (b : List Int) (w : World) (hv : vldP t) (hC : Kd.C k32 w A t.length t) (hc : t.length ≤ c) (hC2 : Kd.C (Kd.int .u8) w A2 b.length b) (hc2 : b.length ≤ c2) (hl : b.length ≤ 140737488355328) :
    Calls Try.prog 58 #[.slice A t.length c, .slice A2 b.length c2] w fun e w' => ∃ gx, e = .returned (.pointer (some ⟨gx, 0, none⟩)) ∧ Made w w' gx A c t b := by
  obtain ⟨K0, hcodes⟩ := Ev.rounds (codes_ev t hv)
  have HCO := Aside0.mk hcodes
  have HV := Aside0.mk hv
  have HC := Aside0.mk hC
  have HC2 := Aside0.mk hC2
  clear hcodes hv hC hC2
  have hum1 := Try.underlying96
  have hum2 := Try.underlying97
  have hmk1 : ∀ w : World, (Instr.makeMap 96 none).run Try.prog w = .ok (.map (some w.heap.size)) (w.alloc (.map #[] 0)) := fun w => run_makeMap _ w
  have hmk2 : ∀ w : World, (Instr.makeMap 97 none).run Try.prog w = .ok (.map (some w.heap.size)) (w.alloc (.map #[] 0)) := fun w => run_makeMap _ w
  have hu84 := Try.underlying84
  have hu100 := Try.underlying100
  go_enter Try.func58, Try.ntmps58
  go_wp2_with (first
    | (go_at_call 66; with_reducible refine (new_reader A2 c2 b _ (Kd.C_alloc (Kd.C_alloc HC2.out _) _) hc2 hl).mono ?_; rintro e w1 ⟨g, rfl, hg, hr1, hb1⟩; have HR1 := Aside0.mk hr1; have HG1 := Aside0.mk hg; have HB1 := Aside0.mk hb1; clear hr1 hb1 hg)
    | (go_at_call 49; with_reducible refine (prefix_codes.calls K0 A c t (codesL t) _ ?hs hc HCO.out).mono ?_; (case hs => exact Kd.C_below HC.out (below_alloc (below_then (below_alloc (below_alloc (Below.refl w.heap.size w) _) _) (by rw [World.size_alloc, World.size_alloc]; omega) HB1.out) _)); rintro e w2 ⟨v2, rfl, hr2, hb2⟩; obtain ⟨Ac, cc, rfl⟩ := Kd.R_slice hr2; have HR2 := Aside0.mk hr2; have HB2 := Aside0.mk hb2; clear hr2 hb2))
  have hsz : (w.alloc (.map #[] 0)).heap.size = w.heap.size + 1 := World.size_alloc _ _
  have hsz2 : ((w.alloc (.map #[] 0)).alloc (.map #[] 0)).heap.size = w.heap.size + 2 := by rw [World.size_alloc, hsz]
  obtain ⟨gx, hgx⟩ : ∃ gx, w1.heap.size = gx := ⟨_, rfl⟩
  obtain ⟨b1, hb1⟩ : ∃ b1, w.heap.size = b1 := ⟨_, rfl⟩
  have hgxlt : b1 + 2 ≤ gx := by rw [← hb1, ← hgx, ← hsz2]; exact HB1.out.size
  have hglt : b1 + 2 ≤ g := by rw [← hb1, ← hsz2]; exact HG1.out
  have HS0 : Aside0 (St w w2 gx A c b1 (b1 + 1) g Ac cc t b 0 (gB t 0) 0 0) := by
    refine ⟨⟨?_, ?_, ?_, ?_, (codesL_len t) ▸ Kd.R_lower HR2.out (Nat.zero_le _), ?_⟩⟩
    · exact (HB2.out.block gx (by rw [World.size_alloc, hgx]; omega)).trans (by rw [← hgx, ← hb1]; exact heap_new w1 _)
    · have h := map_below (map_below (map_below (map_below (InMap.made 3 w) (below_alloc (Below.refl _ _) (.map #[] 0))) HB1.out) (below_alloc (Below.refl _ _) (.cells #[.slice A t.length c, .map (some w.heap.size), .map (some (w.heap.size + 1)), .pointer (some ⟨g, 0, none⟩)] 100))) HB2.out
      rw [hb1] at h
      exact h
    · have h := map_below (map_below (map_below (InMap.made 4 (w.alloc (.map #[] 0))) HB1.out) (below_alloc (Below.refl _ _) (.cells #[.slice A t.length c, .map (some w.heap.size), .map (some (w.heap.size + 1)), .pointer (some ⟨g, 0, none⟩)] 100))) HB2.out
      rw [hsz, hb1] at h
      exact h
    · exact (HR1.out.below (below_alloc (Below.refl _ _) _)).below HB2.out
    · exact below_then (below_alloc (below_then (below_alloc (below_alloc (Below.refl w.heap.size w) _) _) (by rw [hsz2]; omega) HB1.out) _) (by rw [World.size_alloc, hgx, hb1]; omega) HB2.out
  clear HR1 HG1 HB1 HR2 HB2
  rw [codesL_len, hgx, hb1]
  clear hsz hsz2 hgx w1
  have hb1' : w.heap.size ≤ b1 := by omega
  have hb2' : w.heap.size ≤ b1 + 1 := by omega
  have hq1 : w.heap.size ≤ gx := by omega
  have hq2 : w.heap.size ≤ g := by omega
  clear hb1
  have hn64 := HV.out.1
  obtain ⟨N, hN⟩ : ∃ N, t.length = N := ⟨_, rfl⟩
  rw [hN]
  go_loopw [19] (fun x wr => ∃ q n1 n2 : Nat, q ≤ N ∧ x = .int .i64 q ∧ n1 ≤ q ∧ n2 ≤ 16 * q ∧ Aside0 (St w wr gx A c b1 (b1 + 1) g Ac cc t b q (gB t q) n1 n2)) (fun x _ => ((N : Int) - intOf x).toNat)
  case atStart => exact ⟨0, 0, 0, by omega, rfl, by omega, by omega, HS0⟩
  case round =>
    obtain ⟨q, n1, n2, hqN, rfl, hn1, hn2, HS⟩ := hrel
    by_cases hlt : (q : Int) < (N : Int)
    · have hq : q < t.length := by omega
      have hx := codesL_at t HV.out q hq
      obtain ⟨ad, hA, h0, h1⟩ := at_T84 (Kd.R_reads' HS.out.row).2.2 (q : Int) (by omega) (by rw [codesL_len]; omega)
      subst hA
      rw [hx] at h0 h1
      have hl := of_decide_eq_true (HV.out.2.1 _ (rdL_mem hq))
      have hlen : len t q = (rd_T32 t (q : Int)).f0 := rfl
      by_cases z : len t q = 0
      · rw [if_pos z] at h0 h1
        have e1 : gW t (q + 1) = gW t q := by simp only [gW]; exact if_pos z
        have e2 : gB t (q + 1) = gB t q := by simp only [gB]; exact if_pos z
        simp only [Int.toNat_natCast] at h0 h1
        rw [show z84.f0 = 0 from rfl] at h0
        rw [show z84.f1 = 0 from rfl] at h1
        clear hx
        go_wp2
        refine ⟨⟨q + 1, n1, n2, by omega, rfl, by omega, by omega, ⟨?_⟩⟩, ?_⟩
        · have h' := HS.out.below (below_alloc (Below.refl _ _) (.cells #[.int .i64 0, .int .i64 0] 84))
          exact ⟨h'.obj, by rw [e1]; exact h'.m1, by rw [e2]; exact h'.m2, h'.rdr, h'.row, h'.bel⟩
        · simp [intOf]; omega
      · rw [if_neg z] at h0 h1
        have e1 : gW t (q + 1) = fun v m => if v = cnum t q ∧ m = len t q then some (.int .i64 (q : Int)) else gW t q v m := by simp only [gW]; exact if_neg z
        have e2 : gB t (q + 1) = gI (cnum t q) (len t q) (gB t q) (len t q).toNat := by simp only [gB]; exact if_neg z
        have hcn : 0 ≤ cnum t q ∧ cnum t q ≤ 32768 := by
          have h1 := front_range (L := len t q) t q HV.out.2.1
          have h2 := HV.out.2.2.2.2
          have h3 := div_pos_le h1.1 (15 - len t q).toNat
          unfold cnum
          omega
        simp only [Int.toNat_natCast] at h0 h1
        rw [show (cod t q).f0 = cnum t q from rfl] at h0
        rw [show (cod t q).f1 = len t q from rfl] at h1
        obtain ⟨L, hL⟩ : ∃ L : Nat, len t q = L := ⟨(len t q).toNat, by omega⟩
        obtain ⟨C, hC⟩ : ∃ C, cnum t q = C := ⟨_, rfl⟩
        have hL1 : 1 ≤ L := by omega
        have hL2 : L ≤ 15 := by omega
        rw [hL] at h1 e1 e2
        rw [hC] at h0 e1 e2 hcn
        rw [Int.toNat_natCast] at e2
        have hz : ((L : Int) == 0) = false := by simpa using (show (L : Int) ≠ 0 by omega)
        clear hx hl hlen z hL hC
        go_wp2
        obtain ⟨gc, hgc⟩ : ∃ gc, wr.heap.size = gc := ⟨_, rfl⟩
        have HS1 := Aside0.mk (HS.out.below (below_alloc (Below.refl _ _) (.cells #[.int .i64 C, .int .i64 (L : Int)] 84)))
        have HC1 := Aside0.mk (show (wr.alloc (.cells #[.int .i64 C, .int .i64 (L : Int)] 84)).heap[gc]? = some (.cells #[.int .i64 C, .int .i64 (L : Int)] 84 (0, 0)) from hgc ▸ heap_new wr _)
        obtain ⟨W, hW⟩ : ∃ W, wr.alloc (.cells #[.int .i64 C, .int .i64 (L : Int)] 84) = W := ⟨_, rfl⟩
        rw [hW] at HS1 HC1 ⊢
        rw [hgc]
        clear HS hgc hW h0 h1
        have k0 : W.cell? ⟨gc, 0, none⟩ = some (.int .i64 C) := (blk_cell HC1.out 0).trans rfl
        have k1 : W.cell? ⟨gc, 1, none⟩ = some (.int .i64 (L : Int)) := (blk_cell HC1.out 1).trans rfl
        have x1 : W.cell? ⟨gx, 1, none⟩ = some (.map (some b1)) := (blk_cell HS1.out.obj 1).trans rfl
        go_still_tail 6, (by kernel_rfl)
        change wpList _ _ _ _ _ W.drew
        refine wpList_put rfl rfl (.tmp 30) (.tmp 31) (.tmp 32) rfl hum1 rfl (HS1.out.m1.heap (w' := W.drew) rfl) (Nat.lt_of_le_of_lt (show n1 ≤ 64 by omega) (by decide)) C L rfl (wf64_of (by omega)) (wf64_of (by omega)) _ rfl _ _ (plain_int q (by omega)) ?_
        intro W2 hm2 hg2
        have hg2' : W.grownBy W2 (some b1) := ⟨hg2.os, hg2.tape, hg2.output, hg2.size, hg2.block⟩
        have HC2' := Aside0.mk (blk_map HC1.out HS1.out.m1 hg2')
        have HS2 := Aside0.mk (HS1.out.put1 (q' := q + 1) (by omega) hb1' (e1 ▸ hm2) hg2')
        clear HS1 HC1 k0 k1 x1 hg2 hg2' hm2
        have k1 : W2.cell? ⟨gc, 1, none⟩ = some (.int .i64 (L : Int)) := (blk_cell HC2'.out 1).trans rfl
        go_wp2
        go_loopw [35] (fun x Wr => ∃ j m2 : Nat, j ≤ L ∧ x = .int .i64 j ∧ m2 ≤ 16 * q + j ∧ Aside0 (St w Wr gx A c b1 (b1 + 1) g (some ad) cc t b (q + 1) (gI C L (gB t q) j) (n1 + 1) m2) ∧ Aside0 (Wr.heap[gc]? = some (.cells #[.int .i64 C, .int .i64 (L : Int)] 84 (0, 0)))) (fun x _ => ((L : Int) - intOf x).toNat)
        case atStart => exact ⟨0, n2, by omega, rfl, by omega, HS2, HC2'⟩
        case round =>
          obtain ⟨j, m2, hj, rfl, hm2, HT, HCC⟩ := hrel
          by_cases hlt2 : (j : Int) < (L : Int)
          · have k0 : wr.cell? ⟨gc, 0, none⟩ = some (.int .i64 C) := (blk_cell HCC.out 0).trans rfl
            have k1 : wr.cell? ⟨gc, 1, none⟩ = some (.int .i64 (L : Int)) := (blk_cell HCC.out 1).trans rfl
            have x2 : wr.cell? ⟨gx, 2, none⟩ = some (.map (some (b1 + 1))) := (blk_cell HT.out.obj 2).trans rfl
            have hwr : IntKind.i64.wrap ((L : Int) - j) = (L : Int) - j := by rw [i64_w]; exact wrap_id (by omega) (by omega)
            have hng : ¬ ((L : Int) - j < 0) := by omega
            go_wp2
            go_still_tail 13, (by kernel_rfl)
            change wpList _ _ _ _ _ wr.drew
            have hmin : L - j = ((L : Int) - j).toNat := by omega
            have hdv : 0 ≤ C / 2 ^ ((L : Int) - j).toNat ∧ C / 2 ^ ((L : Int) - j).toNat ≤ 32768 := by
              have := div_pos_le hcn.1 ((L : Int) - j).toNat
              omega
            refine wpList_put rfl rfl (.tmp 41) (.tmp 50) (.const (.bool true)) rfl hum2 rfl (HT.out.m2.heap (w' := wr.drew) rfl) (Nat.lt_of_le_of_lt (show m2 ≤ 1040 by omega) (by decide)) (C / 2 ^ (L - j)) j rfl (wf64_of (by rw [hmin]; omega)) (wf64_of (by omega)) _ rfl _ _ plain_true ?_
            intro W3 hm3 hg3
            rw [hmin] at hm3
            have hg3' : wr.grownBy W3 (some (b1 + 1)) := ⟨hg3.os, hg3.tape, hg3.output, hg3.size, hg3.block⟩
            have HCC3 := Aside0.mk (blk_map HCC.out HT.out.m2 hg3')
            have HT3 := Aside0.mk (HT.out.put2 (f' := gI C L (gB t q) (j + 1)) (by omega) hb2' hm3 hg3')
            clear HT HCC k0 k1 x2 hg3 hg3' hm3
            go_wp2
            exact ⟨⟨j + 1, m2 + 1, by omega, rfl, by omega, HT3, HCC3⟩, by simp [intOf]; omega⟩
          · have ej : j = L := by omega
            rw [ej] at HT
            go_wp2
            refine ⟨⟨q + 1, n1 + 1, m2, by omega, rfl, by omega, by omega, ⟨?_⟩⟩, by simp [intOf]; omega⟩
            have h' := HT.out
            exact ⟨h'.obj, h'.m1, by rw [e2]; exact h'.m2, h'.rdr, h'.row, h'.bel⟩
    · have eq' : q = N := by omega
      subst eq'
      go_wp2
      go_ret
      subst hN
      exact ⟨gx, rfl, hq1, b1, b1 + 1, g, Ac, cc, n1, n2, hq2, HS.out⟩
end Go.Proofs.Ytnadgcdkcabdoaa.Nrd
namespace Go.Proofs.Ytnadgcdkcabdoaa.Nbr
open Go Go.RowKit Go.Proofs.YtnadgcdkcabdoaaW.PrintWords Go.Proofs.YtnadgcdkcabdoaaW.PrintLast Go.Proofs.YtnadgcdkcabdoaaW.PrintMore Go.Proofs.Ytnadgcdkcabdoaa.Aid Go.Proofs.Ytnadgcdkcabdoaa.HandAid Go.Proofs.Ytnadgcdkcabdoaa.U Go.Proofs.Ytnadgcdkcabdoaa.Tab Go.Proofs.Ytnadgcdkcabdoaa.Cdx Go.Proofs.Ytnadgcdkcabdoaa.Cdy Go.Proofs.Ytnadgcdkcabdoaa.Cdz Go.Proofs.Ytnadgcdkcabdoaa.Rdp Go.Proofs.Ytnadgcdkcabdoaa.Mpp Go.Proofs.Ytnadgcdkcabdoaa.Dcm
theorem gI_some (c L : Int) (g : Int → Int → Option Lit) (v m : Int) : ∀ j : Nat, (∀ x, g v m = some x → x = .bool true ∧ 0 ≤ m ∧ m < 15) → (j : Int) ≤ 15 → ∀ x, gI c L g j v m = some x → x = .bool true ∧ 0 ≤ m ∧ m < 15
  | 0, h, _, x, hx => h x hx
  | j + 1, h, hj, x, hx => by
    simp only [gI] at hx
    split at hx
    · rename_i c
      injection hx with hx
      exact ⟨hx.symm, by omega, by omega⟩
    · exact gI_some c L g v m j h (by omega) x hx
theorem gB_some (t : List Ln) (hv : vldP t) (v m : Int) : ∀ q, q ≤ t.length → ∀ x, gB t q v m = some x → x = .bool true ∧ 0 ≤ m ∧ m < 15
  | 0, _, x, hx => by simp [gB] at hx
  | q + 1, hq, x, hx => by
    have hl := of_decide_eq_true (hv.2.1 _ (rdL_mem (show q < t.length by omega)))
    have hlen : len t q = (rd_T32 t (q : Int)).f0 := rfl
    have ih := gB_some t hv v m q (by omega)
    simp only [gB] at hx
    split at hx
    · exact ih x hx
    · exact gI_some _ _ _ v m _ ih (by omega) x hx
theorem gW_some (t : List Ln) (hv : vldP t) (v m : Int) : ∀ q, q ≤ t.length → ∀ x, gW t q v m = some x → ∃ i : Nat, i < t.length ∧ x = .int .i64 (i : Int) ∧ len t i = m ∧ cnum t i = v ∧ len t i ≠ 0
  | 0, _, x, hx => by simp [gW] at hx
  | q + 1, hq, x, hx => by
    have ih := gW_some t hv v m q (by omega)
    simp only [gW] at hx
    split at hx
    · exact ih x hx
    · dsimp only at hx
      split at hx
      · rename_i c
        injection hx with hx
        exact ⟨q, by omega, hx.symm, c.2.symm, c.1.symm, by assumption⟩
      · exact ih x hx
/-- The number of a line at a place in its range. -/
def numAt (x : Ln) (d : Int) : Bool × Int := if x.f3 = 2 then (true, 0) else (false, if x.f3 = 1 then x.f2 - d else x.f2 + d)
/-- What number tells behind n bits of a code: the number, the error, the place behind. -/
def numG (t : List Ln) (b : List Int) (a : Int) : Nat → Nat → (Bool × Int) × Int × Int
  | 0, _ => ((false, 0), 3, 0)
  | f + 1, n => if (gB t t.length (bitsAt b a n) n).isSome then (if a + n + 1 ≤ 8 * b.length then numG t b a f (n + 1) else ((false, 0), 6, 0))
    else match gW t t.length (bitsAt b a n) n with
      | some (.int _ i) => if a + n + (rd_T32 t i).f1 ≤ 8 * b.length then (numAt (rd_T32 t i) (bitsAt b (a + n) (rd_T32 t i).f1.toNat), 0, a + n + (rd_T32 t i).f1) else ((false, 0), 6, 0)
      | _ => ((false, 0), 3, 0)
theorem grown_trans {a b c : World} {row : Option Nat} (h : a.grownBy b row) (k : b.grownBy c row) : a.grownBy c row :=
  ⟨k.os.trans h.os, k.tape.trans h.tape, k.output.trans h.output, Nat.le_trans h.size k.size, fun i hi hn => (k.block i (Nat.lt_of_lt_of_le hi h.size) hn).trans (h.block i hi hn)⟩
theorem grown_new {a b c : World} {row : Option Nat} {j : Nat} (h : a.grownBy b row) (k : b.grownBy c (some j)) (hj : a.heap.size ≤ j) : a.grownBy c row :=
  ⟨k.os.trans h.os, k.tape.trans h.tape, k.output.trans h.output, Nat.le_trans h.size k.size, fun i hi hn => (k.block i (Nat.lt_of_lt_of_le hi h.size) (fun e => by injection e with e; omega)).trans (h.block i hi hn)⟩
/-- A reader of numbers at block gx, behind some bits. -/
structure Rs (w0 ws wr : World) (gx : Nat) (A : Option Addr) (c b1 b2 g : Nat) (t : List Ln) (b : List Int) (a : Int) : Prop where
  obj : wr.heap[gx]? = some (.cells #[.slice A t.length c, .map (some b1), .map (some b2), .pointer (some ⟨g, 0, none⟩)] 100 (0, 0))
  m1 : ∃ n, InMap 3 wr b1 n (gW t t.length)
  m2 : ∃ n, InMap 4 wr b2 n (gB t t.length)
  rdr : IsRdr wr g b a
  bel : Below w0.heap.size w0 wr
  gro : ws.grownBy wr (some g)
theorem Rs.drewN {w0 ws wr : World} {gx : Nat} {A : Option Addr} {c b1 b2 g : Nat} {t : List Ln} {b : List Int} {a : Int} (h : Rs w0 ws wr gx A c b1 b2 g t b a) (m : Nat) : Rs w0 ws (wr.drewN m) gx A c b1 b2 g t b a :=
  ⟨h.obj, h.m1.imp fun _ h => h.heap rfl, h.m2.imp fun _ h => h.heap rfl, h.rdr.drewN m, pw_below_drewN h.bel m, grown_drewN h.gro m⟩
theorem Rs.below {w0 ws wr w1 : World} {gx : Nat} {A : Option Addr} {c b1 b2 g : Nat} {t : List Ln} {b : List Int} {a : Int} (h : Rs w0 ws wr gx A c b1 b2 g t b a) (hB : Below wr.heap.size wr w1) : Rs w0 ws w1 gx A c b1 b2 g t b a :=
  ⟨(hB.block gx (Array.getElem?_eq_some_iff.1 h.obj).1).trans h.obj, h.m1.imp fun _ h => map_below h hB, h.m2.imp fun _ h => map_below h hB, h.rdr.below hB, below_then h.bel h.bel.size hB, grown_trans h.gro (grown_of_below hB _)⟩
theorem map_cells {e : TypeId} {w w1 : World} {b n g t : Nat} {f : Int → Int → Option Lit} {cs : Array Value} (h : InMap e w b n f) (hb : w.heap[g]? = some (.cells cs t (0, 0))) (hg : w.grownBy w1 (some g)) : InMap e w1 b n f :=
  map_off h hg (fun he => by
    obtain ⟨es, clock, hm⟩ := h.blk
    rw [he, hb] at hm
    cases hm)
theorem blk_cells {w w1 : World} {g g' t t' : Nat} {cs cs' : Array Value} (h : w.heap[g]? = some (.cells cs t (0, 0))) (h' : w.heap[g']? = some (.cells cs' t' (0, 0))) (hne : t ≠ t') (hg : w.grownBy w1 (some g')) : w1.heap[g]? = some (.cells cs t (0, 0)) := by
  refine (hg.block g (Array.getElem?_eq_some_iff.1 h).1 (fun e => ?_)).trans h
  injection e with e
  rw [e, h'] at h
  injection h with h
  injection h with _ h2
  exact hne h2.symm
/-- The reader has moved. -/
theorem Rs.moved {w0 ws wr w1 : World} {gx : Nat} {A : Option Addr} {c b1 b2 g : Nat} {t : List Ln} {b : List Int} {a a' : Int} (h : Rs w0 ws wr gx A c b1 b2 g t b a) (hr : IsRdr w1 g b a') (hg : wr.grownBy w1 (some g)) (hb : w0.heap.size ≤ g) : Rs w0 ws w1 gx A c b1 b2 g t b a' := by
  obtain ⟨v, hblk, _⟩ := h.rdr
  exact ⟨blk_cells h.obj hblk (by decide) hg, h.m1.imp fun _ h => map_cells h hblk hg, h.m2.imp fun _ h => map_cells h hblk hg, hr, below_grown1 h.bel h.bel.size hg hb, grown_trans h.gro hg⟩
/-- A cell beside it has been written. -/
theorem Rs.beside {w0 ws wr w1 : World} {gx : Nat} {A : Option Addr} {c b1 b2 g : Nat} {t : List Ln} {b : List Int} {a : Int} (h : Rs w0 ws wr gx A c b1 b2 g t b a) {k T : Nat} {cs : Array Value} (hk : wr.heap[k]? = some (.cells cs T (0, 0))) (h1 : 100 ≠ T) (h2 : 114 ≠ T) (h3 : 5 ≠ T) (hg : wr.grownBy w1 (some k)) (hb : w0.heap.size ≤ k) (hs : ws.heap.size ≤ k) : Rs w0 ws w1 gx A c b1 b2 g t b a := by
  obtain ⟨v, hblk, hR⟩ := h.rdr
  exact ⟨blk_cells h.obj hk h1 hg, h.m1.imp fun _ h => map_cells h hk hg, h.m2.imp fun _ h => map_cells h hk hg, ⟨v, blk_cells hblk hk h2 hg, Kd.R_grown1 hR rfl hg (Kd.R_ne hR hk h3)⟩, below_grown1 h.bel h.bel.size hg hb, grown_new h.gro hg hs⟩
theorem plain_bool_inv {v : Value} {z : DataW Unit × List MemPlace} (h : plainElem (H := Unit) Try.prog 4 v = some z) : ∃ x, v = .bool x ∧ z = (.lit (.bool x), []) := by
  have hu := Try.underlying4
  cases v <;> simp [plainElem, hu] at h
  exact ⟨_, rfl, h.symm⟩
/-- The look-ups, in whatever world that has only drawn. -/
theorem ask {w : World} {b n : Nat} {t : List Ln} (hv : vldP t) (h : InMap 4 w b n (gB t t.length)) {v m : Int} (h1 : (Lit.int .i64 v).wf = true) (h2 : (Lit.int .i64 m).wf = true) (k : Nat) :
    (Instr.lookup 97 (.map (some b)) (kv v m) false).run Try.prog (w.drewN k) = .ok (.bool (gB t t.length v m).isSome) (w.drewN k) := by
  rcases Mpp.look (h.heap (w' := w.drewN k) rfl) Try.underlying97 (z := .bool false) (fun w => by kernel_rfl) h1 h2 false with ⟨e, hr⟩ | ⟨x, val, ps, e, hval, hr⟩
  · rw [e]; exact hr
  · obtain ⟨rfl, _⟩ := gB_some t hv v m _ (Nat.le_refl _) x e
    obtain ⟨y, rfl, hy⟩ := plain_bool_inv hval
    simp only [Prod.mk.injEq, DataW.lit.injEq, Lit.bool.injEq] at hy
    obtain ⟨rfl, _⟩ := hy
    rw [e]
    exact hr
theorem ask_which {w : World} {b n : Nat} {t : List Ln} (hv : vldP t) (h : InMap 3 w b n (gW t t.length)) {v m : Int} (h1 : (Lit.int .i64 v).wf = true) (h2 : (Lit.int .i64 m).wf = true) :
    (gW t t.length v m = none ∧ ∀ k : Nat, (Instr.lookup 96 (.map (some b)) (kv v m) true).run Try.prog (w.drewN k) = .ok (.tuple #[.int .i64 0, .bool false]) (w.drewN k)) ∨
    ∃ i : Nat, i < t.length ∧ gW t t.length v m = some (.int .i64 (i : Int)) ∧ ∀ k : Nat, (Instr.lookup 96 (.map (some b)) (kv v m) true).run Try.prog (w.drewN k) = .ok (.tuple #[.int .i64 (i : Int), .bool true]) (w.drewN k) := by
  have key := fun k : Nat => Mpp.look (h.heap (w' := w.drewN k) rfl) Try.underlying96 (z := .int .i64 0) (fun w => by kernel_rfl) h1 h2 true
  cases e : gW t t.length v m with
  | none =>
    refine .inl ⟨rfl, fun k => ?_⟩
    rcases key k with ⟨_, hr⟩ | ⟨x, val, ps, e2, _⟩
    · exact hr
    · rw [e] at e2; cases e2
  | some x =>
    obtain ⟨i, hi, rfl, _⟩ := gW_some t hv v m _ (Nat.le_refl _) x e
    refine .inr ⟨i, hi, rfl, fun k => ?_⟩
    rcases key k with ⟨e2, hr⟩ | ⟨x, val, ps, e2, hval, hr⟩
    · rw [e] at e2; exact absurd e2 (by simp)
    · rw [e] at e2
      obtain rfl := Option.some.inj e2
      obtain ⟨a, rfl, hz, _⟩ := plainElem_int_inv Try.underlying3 hval
      simp only [Prod.mk.injEq, DataW.lit.injEq, Lit.int.injEq] at hz
      obtain ⟨⟨_, rfl⟩, _⟩ := hz
      exact hr
end Go.Proofs.Ytnadgcdkcabdoaa.Nbr
namespace Go.Proofs.Ytnadgcdkcabdoaa.Nbw
open Go Go.RowKit Go.Proofs.YtnadgcdkcabdoaaW.PrintWords Go.Proofs.YtnadgcdkcabdoaaW.PrintLast Go.Proofs.YtnadgcdkcabdoaaW.PrintMore Go.Proofs.Ytnadgcdkcabdoaa.Aid Go.Proofs.Ytnadgcdkcabdoaa.HandAid Go.Proofs.Ytnadgcdkcabdoaa.U Go.Proofs.Ytnadgcdkcabdoaa.Tab Go.Proofs.Ytnadgcdkcabdoaa.Cdx Go.Proofs.Ytnadgcdkcabdoaa.Cdy Go.Proofs.Ytnadgcdkcabdoaa.Cdz Go.Proofs.Ytnadgcdkcabdoaa.Rdp Go.Proofs.Ytnadgcdkcabdoaa.Mpp Go.Proofs.Ytnadgcdkcabdoaa.Dcm Go.Proofs.Ytnadgcdkcabdoaa.Nbr
def left (wr : World) (gc : Nat) : Nat := match wr.cell? ⟨gc, 1, none⟩ with | some (.int _ n) => (16 - n).toNat | _ => 0
/-- The reader behind a number. -/
def Behind (w0 ws w' : World) (gx : Nat) (A : Option Addr) (c b1 b2 g : Nat) (t : List Ln) (b : List Int) (R : (Bool × Int) × Int × Int) : Prop := ∃ a', (R.2.1 = 0 → a' = R.2.2) ∧ 0 ≤ a' ∧ a' ≤ 8 * b.length ∧ Rs w0 ws w' gx A c b1 b2 g t b a'
theorem zset {W : World} {gz : Nat} {u v : Value} (h : W.heap[gz]? = some (.cells #[u, v] 48 (0, 0))) (p q : Value) :
    ((W.setCell ⟨gz, 0, none⟩ p).setCell ⟨gz, 1, none⟩ q).heap[gz]? = some (.cells #[p, q] 48 (0, 0)) ∧ W.grownBy ((W.setCell ⟨gz, 0, none⟩ p).setCell ⟨gz, 1, none⟩ q) (some gz) :=
  ⟨by simpa using blk_set (blk_set h 0 p) 1 q, grown_set (grown_set ⟨rfl, rfl, rfl, Nat.le_refl _, fun _ _ _ => rfl⟩)⟩
theorem zret {W : World} {gz : Nat} {nn : Bool} {N err : Int} {tmps : Array Value} (hz : W.heap[gz]? = some (.cells #[.bool nn, .int .i64 N] 48 (0, 0))) (h2 : tmps.getD 2 undef = .pointer (some ⟨gz, 0, none⟩)) (h3 : tmps.getD 3 undef = .int .i64 err) :
    (results Try.f59 tmps).run Try.prog W = .ok (.tuple #[.agg #[.bool nn, .int .i64 N], .int .i64 err]) W := by
  have y0 : W.cell? ⟨gz, 0, none⟩ = some (.bool nn) := (blk_cell hz 0).trans rfl
  have y1 : W.cell? ⟨gz, 1, none⟩ = some (.int .i64 N) := (blk_cell hz 1).trans rfl
  have hu48 := Try.underlying48
  rw [results_cell_tmp rfl, h2, h3]
  go_simp
theorem zend {w0 ws wr : World} {gx : Nat} {A : Option Addr} {c b1 b2 g : Nat} {t : List Ln} {b : List Int} {a : Int} {gz : Nat} {u v : Value} (h : Rs w0 ws wr gx A c b1 b2 g t b a) (hz : wr.heap[gz]? = some (.cells #[u, v] 48 (0, 0))) (hb : w0.heap.size ≤ gz) (hs : ws.heap.size ≤ gz) (p q : Value) (k : Nat) :
    (((wr.drewN k).setCell ⟨gz, 0, none⟩ p).setCell ⟨gz, 1, none⟩ q).heap[gz]? = some (.cells #[p, q] 48 (0, 0)) ∧ Rs w0 ws (((wr.drewN k).setCell ⟨gz, 0, none⟩ p).setCell ⟨gz, 1, none⟩ q) gx A c b1 b2 g t b a :=
  have hz' : (wr.drewN k).heap[gz]? = some (.cells #[u, v] 48 (0, 0)) := hz
  ⟨(zset hz' p q).1, (h.drewN k).beside hz' (by decide) (by decide) (by decide) (zset hz' p q).2 hb hs⟩
theorem zend0 {w0 ws wr : World} {gx : Nat} {A : Option Addr} {c b1 b2 g : Nat} {t : List Ln} {b : List Int} {a : Int} {gz : Nat} {u v : Value} (h : Rs w0 ws wr gx A c b1 b2 g t b a) (hz : wr.heap[gz]? = some (.cells #[u, v] 48 (0, 0))) (hb : w0.heap.size ≤ gz) (hs : ws.heap.size ≤ gz) (p q : Value) :
    ((wr.setCell ⟨gz, 0, none⟩ p).setCell ⟨gz, 1, none⟩ q).heap[gz]? = some (.cells #[p, q] 48 (0, 0)) ∧ Rs w0 ws ((wr.setCell ⟨gz, 0, none⟩ p).setCell ⟨gz, 1, none⟩ q) gx A c b1 b2 g t b a :=
  ⟨(zset hz p q).1, h.beside hz (by decide) (by decide) (by decide) (zset hz p q).2 hb hs⟩
set_option maxHeartbeats 8000000 in
set_option maxRecDepth 100000 in
theorem number_calls (w0 w : World) (gx : Nat) (A : Option Addr) (c b1 b2 g : Nat) (t : List Ln) (b : List Int) (a : Int) (hv : vldP t) (hb : Bytes b) (hl : b.length ≤ 140737488355328) (hC : Kd.C k32 w0 A t.length t) (hS : Rs w0 w w gx A c b1 b2 g t b a) (ha : 0 ≤ a) (ha2 : a ≤ 8 * b.length) (hg : w0.heap.size ≤ g)
    (R : (Bool × Int) × Int × Int) (hR : numG t b a 16 0 = R) :
    Calls Try.prog 59 #[.pointer (some ⟨gx, 0, none⟩)] w fun e w' => e = .returned (.tuple #[.agg #[.bool R.1.1, .int .i64 R.1.2], .int .i64 R.2.1]) ∧ Behind w0 w w' gx A c b1 b2 g t b R := by
  have HV := Aside0.mk hv
  have HC := Aside0.mk hC
  have HS := Aside0.mk hS
  have HB := Aside0.mk hb
  clear hv hC hS hb
  have hum1 := Try.underlying96
  have hum2 := Try.underlying97
  have hu84 := Try.underlying84
  have hu48 := Try.underlying48
  have hu32 := Try.underlying32
  have hu100 := Try.underlying100
  go_enter Try.func59, Try.ntmps59
  go_wp2_with (fail)
  obtain ⟨gz, hgz⟩ : ∃ gz, w.heap.size = gz := ⟨_, rfl⟩
  have HS1 := Aside0.mk ((HS.out.below (below_alloc (Below.refl _ _) (.cells #[.bool false, .int .i64 0] 48))).below (below_alloc (Below.refl _ _) (.cells #[.int .i64 0, .int .i64 0] 84)))
  have HZ1 := Aside0.mk (blk_alloc (heap_new w (.cells #[.bool false, .int .i64 0] 48)) (.cells #[.int .i64 0, .int .i64 0] 84))
  have HC1 := Aside0.mk (heap_new (w.alloc (.cells #[.bool false, .int .i64 0] 48)) (.cells #[.int .i64 0, .int .i64 0] 84))
  rw [World.size_alloc] at HC1
  rw [hgz] at HZ1 HC1 ⊢
  have hgb : w0.heap.size ≤ gz := by rw [← hgz]; exact HS.out.bel.size
  have hgs : w.heap.size ≤ gz := by omega
  clear HS hgz
  go_loopw [5, 6] (fun x y wr => ∃ n : Nat, n ≤ 15 ∧ numG t b a (16 - n) n = R ∧ a + n ≤ 8 * b.length ∧ Aside0 (Rs w0 w wr gx A c b1 b2 g t b (a + n)) ∧ Aside0 (wr.heap[gz + 1]? = some (.cells #[.int .i64 (bitsAt b a n), .int .i64 (n : Int)] 84 (0, 0))) ∧ Aside0 (wr.heap[gz]? = some (.cells #[.bool false, .int .i64 0] 48 (0, 0)))) (fun _ _ wr => left wr (gz + 1))
  case atStart => exact ⟨0, by omega, hR, by omega, ⟨by simpa using HS1.out⟩, HC1, HZ1⟩
  case round =>
    obtain ⟨n, hn, hRn, hfit, HT, HCC, HZZ⟩ := hrel
    obtain ⟨m1, hm1⟩ := HT.out.m1
    obtain ⟨m2, hm2⟩ := HT.out.m2
    have hbr := bitsAt_range b a n
    have hp : (2 : Int) ^ n ≤ 2 ^ 15 := by exact_mod_cast Nat.pow_le_pow_right (by omega) hn
    have hp2 : (2 : Int) ^ 15 = 32768 := by decide
    have wv : (Lit.int .i64 (bitsAt b a n)).wf = true := wf64_of (by omega)
    have wn : (Lit.int .i64 (n : Int)).wf = true := wf64_of (by omega)
    have hask := Nbr.ask HV.out hm2 wv wn
    have hwhich := Nbr.ask_which HV.out hm1 wv wn
    obtain ⟨V, hVe⟩ : ∃ V, bitsAt b a n = V := ⟨_, rfl⟩
    rw [hVe] at HCC hbr wv hask hwhich
    have k0 : wr.cell? ⟨gz + 1, 0, none⟩ = some (.int .i64 V) := (blk_cell HCC.out 0).trans rfl
    have k1 : wr.cell? ⟨gz + 1, 1, none⟩ = some (.int .i64 (n : Int)) := (blk_cell HCC.out 1).trans rfl
    have x0 : wr.cell? ⟨gx, 0, none⟩ = some (.slice A t.length c) := (blk_cell HT.out.obj 0).trans rfl
    have x1 : wr.cell? ⟨gx, 1, none⟩ = some (.map (some b1)) := (blk_cell HT.out.obj 1).trans rfl
    have x2 : wr.cell? ⟨gx, 2, none⟩ = some (.map (some b2)) := (blk_cell HT.out.obj 2).trans rfl
    have x3 : wr.cell? ⟨gx, 3, none⟩ = some (.pointer (some ⟨g, 0, none⟩)) := (blk_cell HT.out.obj 3).trans rfl
    have hleft : left wr (gz + 1) = 16 - n := by unfold left; rw [k1]; simp only; omega
    cases hB : (gB t t.length V n).isSome with
    | true =>
      rw [hB] at hask
      clear hwhich
      obtain ⟨y, hy⟩ := Option.isSome_iff_exists.1 hB
      have hn15 := (gB_some t HV.out V n _ (Nat.le_refl _) y hy).2.2
      have hnum : numG t b a (16 - n) n = if a + n + 1 ≤ 8 * b.length then numG t b a (16 - (n + 1)) (n + 1) else ((false, 0), 6, 0) := by
        rw [show 16 - n = (16 - (n + 1)) + 1 by omega]
        simp only [numG]
        rw [hVe, if_pos hB]
      by_cases fit : a + n + 1 ≤ 8 * b.length
      · rw [if_pos fit] at hnum
        go_wp2
        go_quiet (fail)
        go_wp2_with (fail)
        refine (bits_real 1 _ g b (a + n) (HT.out.rdr.drewN _) HB.out (by omega) (by omega) hl (by omega) (by omega)).mono ?_
        rintro e W ⟨rfl, hr, hgr⟩
        obtain ⟨vr, hrb, _⟩ := (HT.out.rdr.drewN nq)
        have HT2 := Aside0.mk ((HT.out.drewN nq).moved hr hgr hg)
        have HCC2 := Aside0.mk (blk_cells (w := wr.drewN nq) HCC.out hrb (by decide) hgr)
        have HZZ2 := Aside0.mk (blk_cells (w := wr.drewN nq) HZZ.out hrb (by decide) hgr)
        have hq := bitOf_range b (a + n)
        have hbit : bitsAt b (a + n) (1 : Int).toNat = bitOf b (a + n) := by
          show 2 * 0 + bitOf b (a + n + (0 : Nat)) = _
          simp
        have hnext : bitsAt b a (n + 1) = 2 * V + bitOf b (a + n) := by rw [← hVe]; rfl
        rw [hbit]
        obtain ⟨q, hqe⟩ : ∃ q, bitOf b (a + n) = q := ⟨_, rfl⟩
        rw [hqe] at hq hnext ⊢
        clear HT HCC HZZ hr hgr hrb k0 k1 x0 x1 x2 x3 hask hm1 hm2
        have k0 : W.cell? ⟨gz + 1, 0, none⟩ = some (.int .i64 V) := (blk_cell HCC2.out 0).trans rfl
        have k1 : W.cell? ⟨gz + 1, 1, none⟩ = some (.int .i64 (n : Int)) := (blk_cell HCC2.out 1).trans rfl
        have hfz := blk_frozen HCC2.out 0
        have hfz1 := blk_frozen HCC2.out 1
        go_wp2
        have hG : W.grownBy ((W.setCell ⟨gz + 1, 0, none⟩ (.int .i64 (2 * V + q))).setCell ⟨gz + 1, 1, none⟩ (.int .i64 ((n : Int) + 1))) (some (gz + 1)) := grown_set (grown_set ⟨rfl, rfl, rfl, Nat.le_refl _, fun _ _ _ => rfl⟩)
        have hH : ((W.setCell ⟨gz + 1, 0, none⟩ (.int .i64 (2 * V + q))).setCell ⟨gz + 1, 1, none⟩ (.int .i64 ((n : Int) + 1))).heap[gz + 1]? = some (.cells #[.int .i64 (2 * V + q), .int .i64 ((n : Int) + 1)] 84 (0, 0)) := by simpa using blk_set (blk_set HCC2.out 0 (.int .i64 (2 * V + q))) 1 (.int .i64 ((n : Int) + 1))
        refine ⟨⟨n + 1, by omega, hnum.symm.trans hRn, by omega, ⟨?_⟩, ⟨?_⟩, ⟨blk_cells HZZ2.out HCC2.out (by decide) hG⟩⟩, ?_⟩
        · have h := HT2.out.beside HCC2.out (by decide) (by decide) (by decide) hG (by omega) (by omega)
          rw [show a + ((n + 1 : Nat) : Int) = a + n + 1 by omega]
          exact h
        · rw [hH, hnext]
          rfl
        · rw [hleft]
          unfold left
          rw [(blk_cell hH 1).trans rfl]
          show (16 - ((n : Int) + 1)).toNat < 16 - n
          omega
      · rw [if_neg fit] at hnum
        rw [hnum] at hRn
        subst hRn
        go_wp2
        go_quiet (fail)
        go_wp2_with (fail)
        refine (bits_end 1 _ g b (a + n) (HT.out.rdr.drewN _) (by omega) (by omega) hl (by omega) (by omega) (by omega)).mono ?_
        rintro e W ⟨rfl, m, rfl⟩
        have HT2 := Aside0.mk ((HT.out.drewN nq).drewN m)
        have zc0 : wr.cell? ⟨gz, 0, none⟩ = some (.bool false) := (blk_cell HZZ.out 0).trans rfl
        have zc1 : wr.cell? ⟨gz, 1, none⟩ = some (.int .i64 0) := (blk_cell HZZ.out 1).trans rfl
        have zf0 := blk_frozen HZZ.out 0
        have zf1 := blk_frozen HZZ.out 1
        clear k0 k1 x0 x1 x2 x3
        go_wp2
        obtain ⟨hz, hzg⟩ := zset (W := wr.drewN (nq + m)) HZZ.out (.bool false) (.int .i64 0)
        have HT3 := Aside0.mk ((HT.out.drewN (nq + m)).beside (k := gz) (T := 48) (cs := #[.bool false, .int .i64 0]) HZZ.out (by decide) (by decide) (by decide) hzg (by omega) (by omega))
        obtain ⟨W2, hW2⟩ : ∃ W2, ((wr.drewN (nq + m)).setCell ⟨gz, 0, none⟩ (.bool false)).setCell ⟨gz, 1, none⟩ (.int .i64 0) = W2 := ⟨_, rfl⟩
        rw [hW2] at hz HT3 ⊢
        clear hzg hW2
        exact bodyPost_ret (zret hz rfl rfl) rfl ⟨rfl, _, (fun h => by cases h), by omega, hfit, HT3.out⟩
    | false =>
      rw [hB] at hask
      have hnum : numG t b a (16 - n) n = match gW t t.length V n with
          | some (.int _ i) => if a + n + (rd_T32 t i).f1 ≤ 8 * b.length then (numAt (rd_T32 t i) (bitsAt b (a + n) (rd_T32 t i).f1.toNat), 0, a + n + (rd_T32 t i).f1) else ((false, 0), 6, 0)
          | _ => ((false, 0), 3, 0) := by
        rw [show 16 - n = (15 - n) + 1 by omega]
        simp only [numG]
        rw [hVe, hB, if_neg (by simp)]
        try rfl
      rcases hwhich with ⟨hnone, hwhich⟩ | ⟨i, hi, hsome, hwhich⟩
      · rw [hnone] at hnum
        rw [hnum] at hRn
        subst hRn
        have zc0 : wr.cell? ⟨gz, 0, none⟩ = some (.bool false) := (blk_cell HZZ.out 0).trans rfl
        have zc1 : wr.cell? ⟨gz, 1, none⟩ = some (.int .i64 0) := (blk_cell HZZ.out 1).trans rfl
        have zf0 := blk_frozen HZZ.out 0
        have zf1 := blk_frozen HZZ.out 1
        go_wp2
        go_quiet (fail)
        go_wp2_with (fail)
        go_quiet (fail)
        go_wp2_with (fail)
        exact bodyPost_ret (zret (zend HT.out HZZ.out hgb hgs (.bool false) (.int .i64 0) _).1 rfl rfl) rfl ⟨rfl, _, (fun h => by cases h), by omega, hfit, (zend HT.out HZZ.out hgb hgs (.bool false) (.int .i64 0) _).2⟩
      · rw [hsome] at hnum
        have hnum := hnum.symm.trans hRn
        have hl2 := of_decide_eq_true (HV.out.2.1 _ (rdL_mem hi))
        obtain ⟨ad, hA, l0, l1, l2, l3⟩ := at_T32 (Kd.C_below HC.out HT.out.bel) (i : Int) (by omega) (by omega)
        obtain ⟨x, hx⟩ : ∃ x, rd_T32 t (i : Int) = x := ⟨_, rfl⟩
        simp only at hnum
        rw [hx] at hnum hl2 l0 l1 l2 l3
        subst hA
        simp only [Int.toNat_natCast] at l0 l1 l2 l3
        have hi0 : (0 : Int) ≤ (i : Int) := by omega
        have hi1 : (i : Int) < (t.length : Int) := by omega
        go_wp2
        go_quiet (fail)
        obtain ⟨n1, hn1⟩ : ∃ n1, n1 = nq := ⟨_, rfl⟩
        rw [← hn1]
        clear hn1
        go_wp2_with (fail)
        go_quiet (fail)
        go_wp2_with (fail)
        have hdr : ∀ W : World, Below W.heap.size W W.drew := fun W => below_drew (Below.refl _ _)
        have HT0 := Aside0.mk ((HT.out.drewN (n1 + nq)).below (hdr _))
        have HZ0 := Aside0.mk (show (wr.drewN (n1 + nq)).drew.heap[gz]? = some (.cells #[.bool false, .int .i64 0] 48 (0, 0)) from HZZ.out)
        obtain ⟨vr, hrb, _⟩ := HT0.out.rdr
        have hf0 : 0 ≤ x.f1 := by omega
        have hf1 : x.f1 ≤ 32 := by omega
        have hf2 : 0 ≤ a + n := by omega
        have hf3 : a + n ≤ 8 * b.length := hfit
        by_cases hfit2 : a + n + x.f1 ≤ 8 * b.length
        · rw [if_pos hfit2] at hnum
          refine start_ (n := 18) (S := fun w' => w'.cell? ⟨gx, 3, none⟩ = some (.pointer (some ⟨g, 0, none⟩)) ∧ w'.cell? ⟨gx, 0, none⟩ = some (.slice (some ad) t.length c) ∧ w'.cell? { block := (ad.add (i * 4)).block, off := (ad.add (i * 4)).off + 1 } = some (.int .i64 x.f1)) (ds := []) #[false, false, false, false, false, false, false, false, false, false, false, false, false, false, false, false, false, false] (by kernel_rfl) rfl rfl ⟨x3, x0, l1⟩ (fun hHeld => ?_)
          refine pure_ (i := 0) (N := some 52) (v := ?_) (a' := ?_) #[true, false, false, false, false, false, false, false, false, false, false, false, false, false, false, false, false, false] rfl rfl (by kernel_rfl) (fun _ _ _ h => h) (Or.inl ⟨by rfl, ?_⟩) ?_ ?_
          rotate_left
          · intro w'
            go_simp
            with_reducible rfl
          rotate_left
          · simp only [Act.put, List.setIfInBounds_toArray, List.set_cons_zero, List.set_cons_succ, i64_w, i32_w]
            rfl
          refine pure_ (i := 1) (N := some 53) (v := ?_) (a' := ?_) #[true, true, false, false, false, false, false, false, false, false, false, false, false, false, false, false, false, false] rfl rfl (by kernel_rfl) (fun _ _ _ h => h) (Or.inl ⟨by rfl, ?_⟩) ?_ ?_
          rotate_left
          · intro w'
            go_simp
            with_reducible rfl
          rotate_left
          · simp only [Act.put, List.setIfInBounds_toArray, List.set_cons_zero, List.set_cons_succ, i64_w, i32_w]
            rfl
          refine pure_ (i := 2) (N := some 54) (v := ?_) (a' := ?_) #[true, true, true, false, false, false, false, false, false, false, false, false, false, false, false, false, false, false] rfl rfl (by kernel_rfl) (fun _ _ _ h => h) (Or.inl ⟨by rfl, ?_⟩) ?_ ?_
          rotate_left
          · intro w'
            go_simp
            with_reducible rfl
          rotate_left
          · simp only [Act.put, List.setIfInBounds_toArray, List.set_cons_zero, List.set_cons_succ, i64_w, i32_w]
            rfl
          refine pure_ (i := 4) (N := some 56) (v := ?_) (a' := ?_) #[true, true, true, false, true, false, false, false, false, false, false, false, false, false, false, false, false, false] rfl rfl (by kernel_rfl) (fun _ _ _ h => h) (Or.inl ⟨by rfl, ?_⟩) ?_ ?_
          rotate_left
          · intro w'
            go_simp
            with_reducible rfl
          rotate_left
          · simp only [Act.put, List.setIfInBounds_toArray, List.set_cons_zero, List.set_cons_succ, i64_w, i32_w]
            rfl
          refine pure_ (i := 5) (N := some 57) (v := ?_) (a' := ?_) #[true, true, true, false, true, true, false, false, false, false, false, false, false, false, false, false, false, false] rfl rfl (by kernel_rfl) (fun _ _ _ h => h) (Or.inl ⟨by rfl, ?_⟩) ?_ ?_
          rotate_left
          · intro w'
            go_simp
            with_reducible rfl
          rotate_left
          · simp only [Act.put, List.setIfInBounds_toArray, List.set_cons_zero, List.set_cons_succ, i64_w, i32_w]
            rfl
          refine pure_ (i := 6) (N := some 58) (v := ?_) (a' := ?_) #[true, true, true, false, true, true, true, false, false, false, false, false, false, false, false, false, false, false] rfl rfl (by kernel_rfl) (fun _ _ _ h => h) (Or.inl ⟨by rfl, ?_⟩) ?_ ?_
          rotate_left
          · intro w'
            go_simp
            with_reducible rfl
          rotate_left
          · simp only [Act.put, List.setIfInBounds_toArray, List.set_cons_zero, List.set_cons_succ, i64_w, i32_w]
            rfl
          refine pure_ (i := 8) (N := some 60) (v := ?_) (a' := ?_) #[true, true, true, false, true, true, true, false, true, false, false, false, false, false, false, false, false, false] rfl rfl (by kernel_rfl) (fun _ _ _ h => h) (Or.inl ⟨by rfl, ?_⟩) ?_ ?_
          rotate_left
          · intro w'
            go_simp
            with_reducible rfl
          rotate_left
          · simp only [Act.put, List.setIfInBounds_toArray, List.set_cons_zero, List.set_cons_succ, i64_w, i32_w]
            rfl
          refine take_ (i := 3) (N := some 55) (v := ?_) (a' := ?_) #[true, true, true, true, true, true, true, false, true, false, false, false, false, false, false, false, false, false] rfl rfl (by kernel_rfl) (fun _ _ _ h => h) (Or.inl ⟨by rfl, ?_⟩) hHeld ?_ ?_
          rotate_left
          · rintro w' ⟨s0, s1, s2⟩
            go_simp
            with_reducible rfl
          rotate_left
          · simp only [Act.put, List.setIfInBounds_toArray, List.set_cons_zero, List.set_cons_succ, i64_w, i32_w]
            rfl
          refine take_ (i := 7) (N := some 59) (v := ?_) (a' := ?_) #[true, true, true, true, true, true, true, true, true, false, false, false, false, false, false, false, false, false] rfl rfl (by kernel_rfl) (fun _ _ _ h => h) (Or.inl ⟨by rfl, ?_⟩) hHeld ?_ ?_
          rotate_left
          · rintro w' ⟨s0, s1, s2⟩
            go_simp
            with_reducible rfl
          rotate_left
          · simp only [Act.put, List.setIfInBounds_toArray, List.set_cons_zero, List.set_cons_succ, i64_w, i32_w]
            rfl
          refine pure_ (i := 9) (N := some 61) (v := ?_) (a' := ?_) #[true, true, true, true, true, true, true, true, true, true, false, false, false, false, false, false, false, false] rfl rfl (by kernel_rfl) (fun _ _ _ h => h) (Or.inl ⟨by rfl, ?_⟩) ?_ ?_
          rotate_left
          · intro w'
            go_simp
            with_reducible rfl
          rotate_left
          · simp only [Act.put, List.setIfInBounds_toArray, List.set_cons_zero, List.set_cons_succ, i64_w, i32_w]
            rfl
          refine pure_ (i := 10) (N := some 62) (v := ?_) (a' := ?_) #[true, true, true, true, true, true, true, true, true, true, true, false, false, false, false, false, false, false] rfl rfl (by kernel_rfl) (fun _ _ _ h => h) (Or.inl ⟨by rfl, ?_⟩) ?_ ?_
          rotate_left
          · intro w'
            go_simp
            with_reducible rfl
          rotate_left
          · simp only [Act.put, List.setIfInBounds_toArray, List.set_cons_zero, List.set_cons_succ, i64_w, i32_w]
            rfl
          refine take_ (i := 11) (N := some 63) (v := ?_) (a' := ?_) #[true, true, true, true, true, true, true, true, true, true, true, true, false, false, false, false, false, false] rfl rfl (by kernel_rfl) (fun _ _ _ h => h) (Or.inl ⟨by rfl, ?_⟩) hHeld ?_ ?_
          rotate_left
          · rintro w' ⟨s0, s1, s2⟩
            go_simp
            with_reducible rfl
          rotate_left
          · simp only [Act.put, List.setIfInBounds_toArray, List.set_cons_zero, List.set_cons_succ, i64_w, i32_w]
            rfl
          refine one_ (i := 12) (N := some 64) #[true, true, true, true, true, true, true, true, true, true, true, true, true, false, false, false, false, false] rfl rfl (by kernel_rfl) (by decide) (fun K hK => ?_)
          refine goes_ Try.func67 (by kernel_rfl) rfl #[.pointer (some ⟨g, 0, none⟩), .int .i64 x.f1] (by rfl) rfl rfl (by simp only [List.map_toArray, List.map_cons, List.map_nil]; rfl) ?_
          with_reducible refine (bits_real x.f1 _ g b (a + n) HT0.out.rdr HB.out hf0 hf1 hl hf2 hfit2).mono ?_
          rintro e W2 ⟨rfl, hr, hgr⟩
          refine ⟨_, rfl, ?_⟩
          have HT2 := Aside0.mk (HT0.out.moved hr hgr hg)
          have HZ2 := Aside0.mk (blk_cells HZ0.out hrb (by decide) hgr)
          obtain ⟨ad', hA', l0', l1', l2', l3'⟩ := at_T32 (Kd.C_below HC.out HT2.out.bel) (i : Int) hi0 hi1
          obtain rfl : ad = ad' := by injection hA'
          rw [hx] at l0' l1' l2' l3'
          simp only [Int.toNat_natCast] at l0' l1' l2' l3'
          refine hK.out _ _ ⟨(blk_cell HT2.out.obj 3).trans rfl, (blk_cell HT2.out.obj 0).trans rfl, l1'⟩ (fun hHeld => ?_)
          clear hK K
          refine norm_ (a' := ?_) ?_ ?_
          rotate_left
          · show Act.put _ (some 64) _ = _
            simp only [Act.put, List.setIfInBounds_toArray, List.set_cons_zero, List.set_cons_succ, i64_w, i32_w]
            rfl
          refine pure_ (i := 13) (N := some 51) (v := ?_) (a' := ?_) #[true, true, true, true, true, true, true, true, true, true, true, true, true, true, false, false, false, false] rfl rfl (by kernel_rfl) (fun _ _ _ h => h) (Or.inl ⟨by rfl, ?_⟩) ?_ ?_
          rotate_left
          · intro w'
            go_simp
            with_reducible rfl
          rotate_left
          · simp only [Act.put, List.setIfInBounds_toArray, List.set_cons_zero, List.set_cons_succ, i64_w, i32_w]
            rfl
          refine pure_ (i := 14) (N := some 65) (v := ?_) (a' := ?_) #[true, true, true, true, true, true, true, true, true, true, true, true, true, true, true, false, false, false] rfl rfl (by kernel_rfl) (fun _ _ _ h => h) (Or.inl ⟨by rfl, ?_⟩) ?_ ?_
          rotate_left
          · intro w'
            go_simp
            with_reducible rfl
          rotate_left
          · simp only [Act.put, List.setIfInBounds_toArray, List.set_cons_zero, List.set_cons_succ, i64_w, i32_w]
            rfl
          refine pure_ (i := 15) (N := some 66) (v := ?_) (a' := ?_) #[true, true, true, true, true, true, true, true, true, true, true, true, true, true, true, true, false, false] rfl rfl (by kernel_rfl) (fun _ _ _ h => h) (Or.inl ⟨by rfl, ?_⟩) ?_ ?_
          rotate_left
          · intro w'
            go_simp
            with_reducible rfl
          rotate_left
          · simp only [Act.put, List.setIfInBounds_toArray, List.set_cons_zero, List.set_cons_succ, i64_w, i32_w]
            rfl
          refine pure_ (i := 16) (N := some 9) (v := ?_) (a' := ?_) #[true, true, true, true, true, true, true, true, true, true, true, true, true, true, true, true, true, false] rfl rfl (by kernel_rfl) (fun _ _ _ h => h) (Or.inl ⟨by rfl, ?_⟩) ?_ ?_
          rotate_left
          · intro w'
            go_simp
            with_reducible rfl
          rotate_left
          · simp only [Act.put, List.setIfInBounds_toArray, List.set_cons_zero, List.set_cons_succ, i64_w, i32_w]
            rfl
          refine pure_ (i := 17) (N := some 10) (v := ?_) (a' := ?_) #[true, true, true, true, true, true, true, true, true, true, true, true, true, true, true, true, true, true] rfl rfl (by kernel_rfl) (fun _ _ _ h => h) (Or.inl ⟨by rfl, ?_⟩) ?_ ?_
          rotate_left
          · intro w'
            go_simp
            with_reducible rfl
          rotate_left
          · simp only [Act.put, List.setIfInBounds_toArray, List.set_cons_zero, List.set_cons_succ, i64_w, i32_w]
            rfl
          refine done_ (by kernel_rfl) ?_
          have hdr2 := bitsAt_range b (a + n) x.f1.toNat
          have hp20 : (2 : Int) ^ x.f1.toNat ≤ 2 ^ 20 := by exact_mod_cast Nat.pow_le_pow_right (by omega) (show x.f1.toNat ≤ 20 by omega)
          have hp20' : (2 : Int) ^ 20 = 1048576 := by decide
          obtain ⟨d, hd⟩ : ∃ d, bitsAt b (a + n) x.f1.toNat = d := ⟨_, rfl⟩
          rw [hd] at hnum hdr2 ⊢
          have x0' : W2.cell? ⟨gx, 0, none⟩ = some (.slice (some ad) t.length c) := (blk_cell HT2.out.obj 0).trans rfl
          have z0 : W2.cell? ⟨gz, 0, none⟩ = some (.bool false) := (blk_cell HZ2.out 0).trans rfl
          have z1 : W2.cell? ⟨gz, 1, none⟩ = some (.int .i64 0) := (blk_cell HZ2.out 1).trans rfl
          have zf0 := blk_frozen HZ2.out 0
          have zf1 := blk_frozen HZ2.out 1
          clear hHeld k0 k1 x0 x1 x2 x3 l0 l1 l2 l3 hask hwhich
          by_cases c2 : x.f3 = 2
          · have c2b : (x.f3 == 2) = true := by rw [c2]; rfl
            have hx1 : x.f1 = 0 := (hl2.2.2.2.2.2.2.2.2 c2).1
            have hnA : numAt x d = (true, 0) := by unfold numAt; rw [if_pos c2]
            rw [hnA] at hnum
            subst hnum
            go_wp2
            exact bodyPost_ret (zret (zend0 HT2.out HZ2.out hgb hgs (.bool true) (.int .i64 0)).1 rfl rfl) rfl ⟨rfl, a + n, (fun h => rfl), by omega, by omega, by have h := (zend0 HT2.out HZ2.out hgb hgs (.bool true) (.int .i64 0)).2; rwa [hx1, Int.add_zero] at h⟩
          · have c2b : (x.f3 == 2) = false := by simpa using c2
            by_cases c1 : x.f3 = 1
            · have c1b : (x.f3 == 1) = true := by rw [c1]; rfl
              have hnA : numAt x d = (false, x.f2 + -d) := by unfold numAt; rw [if_neg c2, if_pos c1, Int.sub_eq_add_neg]
              rw [hnA] at hnum
              subst hnum
              go_wp2
              exact bodyPost_ret (zret (zend0 HT2.out HZ2.out hgb hgs (.bool false) (.int .i64 (x.f2 + -d))).1 rfl rfl) rfl ⟨rfl, a + n + x.f1, (fun h => rfl), by omega, hfit2, (zend0 HT2.out HZ2.out hgb hgs (.bool false) (.int .i64 (x.f2 + -d))).2⟩
            · have c1b : (x.f3 == 1) = false := by simpa using c1
              have hnA : numAt x d = (false, x.f2 + d) := by unfold numAt; rw [if_neg c2, if_neg c1]
              rw [hnA] at hnum
              subst hnum
              go_wp2
              exact bodyPost_ret (zret (zend0 HT2.out HZ2.out hgb hgs (.bool false) (.int .i64 (x.f2 + d))).1 rfl rfl) rfl ⟨rfl, a + n + x.f1, (fun h => rfl), by omega, hfit2, (zend0 HT2.out HZ2.out hgb hgs (.bool false) (.int .i64 (x.f2 + d))).2⟩
        · rw [if_neg hfit2] at hnum
          have hfit2 : 8 * (b.length : Int) < a + n + x.f1 := by omega
          refine start_ (n := 18) (S := fun w' => w'.cell? ⟨gx, 3, none⟩ = some (.pointer (some ⟨g, 0, none⟩)) ∧ w'.cell? ⟨gx, 0, none⟩ = some (.slice (some ad) t.length c) ∧ w'.cell? { block := (ad.add (i * 4)).block, off := (ad.add (i * 4)).off + 1 } = some (.int .i64 x.f1)) (ds := []) #[false, false, false, false, false, false, false, false, false, false, false, false, false, false, false, false, false, false] (by kernel_rfl) rfl rfl ⟨x3, x0, l1⟩ (fun hHeld => ?_)
          refine pure_ (i := 0) (N := some 52) (v := ?_) (a' := ?_) #[true, false, false, false, false, false, false, false, false, false, false, false, false, false, false, false, false, false] rfl rfl (by kernel_rfl) (fun _ _ _ h => h) (Or.inl ⟨by rfl, ?_⟩) ?_ ?_
          rotate_left
          · intro w'
            go_simp
            with_reducible rfl
          rotate_left
          · simp only [Act.put, List.setIfInBounds_toArray, List.set_cons_zero, List.set_cons_succ, i64_w, i32_w]
            rfl
          refine pure_ (i := 1) (N := some 53) (v := ?_) (a' := ?_) #[true, true, false, false, false, false, false, false, false, false, false, false, false, false, false, false, false, false] rfl rfl (by kernel_rfl) (fun _ _ _ h => h) (Or.inl ⟨by rfl, ?_⟩) ?_ ?_
          rotate_left
          · intro w'
            go_simp
            with_reducible rfl
          rotate_left
          · simp only [Act.put, List.setIfInBounds_toArray, List.set_cons_zero, List.set_cons_succ, i64_w, i32_w]
            rfl
          refine pure_ (i := 2) (N := some 54) (v := ?_) (a' := ?_) #[true, true, true, false, false, false, false, false, false, false, false, false, false, false, false, false, false, false] rfl rfl (by kernel_rfl) (fun _ _ _ h => h) (Or.inl ⟨by rfl, ?_⟩) ?_ ?_
          rotate_left
          · intro w'
            go_simp
            with_reducible rfl
          rotate_left
          · simp only [Act.put, List.setIfInBounds_toArray, List.set_cons_zero, List.set_cons_succ, i64_w, i32_w]
            rfl
          refine pure_ (i := 4) (N := some 56) (v := ?_) (a' := ?_) #[true, true, true, false, true, false, false, false, false, false, false, false, false, false, false, false, false, false] rfl rfl (by kernel_rfl) (fun _ _ _ h => h) (Or.inl ⟨by rfl, ?_⟩) ?_ ?_
          rotate_left
          · intro w'
            go_simp
            with_reducible rfl
          rotate_left
          · simp only [Act.put, List.setIfInBounds_toArray, List.set_cons_zero, List.set_cons_succ, i64_w, i32_w]
            rfl
          refine pure_ (i := 5) (N := some 57) (v := ?_) (a' := ?_) #[true, true, true, false, true, true, false, false, false, false, false, false, false, false, false, false, false, false] rfl rfl (by kernel_rfl) (fun _ _ _ h => h) (Or.inl ⟨by rfl, ?_⟩) ?_ ?_
          rotate_left
          · intro w'
            go_simp
            with_reducible rfl
          rotate_left
          · simp only [Act.put, List.setIfInBounds_toArray, List.set_cons_zero, List.set_cons_succ, i64_w, i32_w]
            rfl
          refine pure_ (i := 6) (N := some 58) (v := ?_) (a' := ?_) #[true, true, true, false, true, true, true, false, false, false, false, false, false, false, false, false, false, false] rfl rfl (by kernel_rfl) (fun _ _ _ h => h) (Or.inl ⟨by rfl, ?_⟩) ?_ ?_
          rotate_left
          · intro w'
            go_simp
            with_reducible rfl
          rotate_left
          · simp only [Act.put, List.setIfInBounds_toArray, List.set_cons_zero, List.set_cons_succ, i64_w, i32_w]
            rfl
          refine pure_ (i := 8) (N := some 60) (v := ?_) (a' := ?_) #[true, true, true, false, true, true, true, false, true, false, false, false, false, false, false, false, false, false] rfl rfl (by kernel_rfl) (fun _ _ _ h => h) (Or.inl ⟨by rfl, ?_⟩) ?_ ?_
          rotate_left
          · intro w'
            go_simp
            with_reducible rfl
          rotate_left
          · simp only [Act.put, List.setIfInBounds_toArray, List.set_cons_zero, List.set_cons_succ, i64_w, i32_w]
            rfl
          refine take_ (i := 3) (N := some 55) (v := ?_) (a' := ?_) #[true, true, true, true, true, true, true, false, true, false, false, false, false, false, false, false, false, false] rfl rfl (by kernel_rfl) (fun _ _ _ h => h) (Or.inl ⟨by rfl, ?_⟩) hHeld ?_ ?_
          rotate_left
          · rintro w' ⟨s0, s1, s2⟩
            go_simp
            with_reducible rfl
          rotate_left
          · simp only [Act.put, List.setIfInBounds_toArray, List.set_cons_zero, List.set_cons_succ, i64_w, i32_w]
            rfl
          refine take_ (i := 7) (N := some 59) (v := ?_) (a' := ?_) #[true, true, true, true, true, true, true, true, true, false, false, false, false, false, false, false, false, false] rfl rfl (by kernel_rfl) (fun _ _ _ h => h) (Or.inl ⟨by rfl, ?_⟩) hHeld ?_ ?_
          rotate_left
          · rintro w' ⟨s0, s1, s2⟩
            go_simp
            with_reducible rfl
          rotate_left
          · simp only [Act.put, List.setIfInBounds_toArray, List.set_cons_zero, List.set_cons_succ, i64_w, i32_w]
            rfl
          refine pure_ (i := 9) (N := some 61) (v := ?_) (a' := ?_) #[true, true, true, true, true, true, true, true, true, true, false, false, false, false, false, false, false, false] rfl rfl (by kernel_rfl) (fun _ _ _ h => h) (Or.inl ⟨by rfl, ?_⟩) ?_ ?_
          rotate_left
          · intro w'
            go_simp
            with_reducible rfl
          rotate_left
          · simp only [Act.put, List.setIfInBounds_toArray, List.set_cons_zero, List.set_cons_succ, i64_w, i32_w]
            rfl
          refine pure_ (i := 10) (N := some 62) (v := ?_) (a' := ?_) #[true, true, true, true, true, true, true, true, true, true, true, false, false, false, false, false, false, false] rfl rfl (by kernel_rfl) (fun _ _ _ h => h) (Or.inl ⟨by rfl, ?_⟩) ?_ ?_
          rotate_left
          · intro w'
            go_simp
            with_reducible rfl
          rotate_left
          · simp only [Act.put, List.setIfInBounds_toArray, List.set_cons_zero, List.set_cons_succ, i64_w, i32_w]
            rfl
          refine take_ (i := 11) (N := some 63) (v := ?_) (a' := ?_) #[true, true, true, true, true, true, true, true, true, true, true, true, false, false, false, false, false, false] rfl rfl (by kernel_rfl) (fun _ _ _ h => h) (Or.inl ⟨by rfl, ?_⟩) hHeld ?_ ?_
          rotate_left
          · rintro w' ⟨s0, s1, s2⟩
            go_simp
            with_reducible rfl
          rotate_left
          · simp only [Act.put, List.setIfInBounds_toArray, List.set_cons_zero, List.set_cons_succ, i64_w, i32_w]
            rfl
          refine one_ (i := 12) (N := some 64) #[true, true, true, true, true, true, true, true, true, true, true, true, true, false, false, false, false, false] rfl rfl (by kernel_rfl) (by decide) (fun K hK => ?_)
          refine goes_ Try.func67 (by kernel_rfl) rfl #[.pointer (some ⟨g, 0, none⟩), .int .i64 x.f1] (by rfl) rfl rfl (by simp only [List.map_toArray, List.map_cons, List.map_nil]; rfl) ?_
          with_reducible refine (bits_end x.f1 _ g b (a + n) HT0.out.rdr hf0 hf1 hl hf2 hf3 hfit2).mono ?_
          rintro e W2 ⟨rfl, m, hW2⟩
          refine ⟨_, rfl, ?_⟩
          have HT2 := Aside0.mk (show Rs w0 w W2 gx (some ad) c b1 b2 g t b (a + n) from hW2 ▸ HT0.out.drewN m)
          have HZ2 := Aside0.mk (show W2.heap[gz]? = some (.cells #[.bool false, .int .i64 0] 48 (0, 0)) from hW2 ▸ HZ0.out)
          clear hW2
          obtain ⟨ad', hA', l0', l1', l2', l3'⟩ := at_T32 (Kd.C_below HC.out HT2.out.bel) (i : Int) hi0 hi1
          obtain rfl : ad = ad' := by injection hA'
          rw [hx] at l0' l1' l2' l3'
          simp only [Int.toNat_natCast] at l0' l1' l2' l3'
          refine hK.out _ _ ⟨(blk_cell HT2.out.obj 3).trans rfl, (blk_cell HT2.out.obj 0).trans rfl, l1'⟩ (fun hHeld => ?_)
          clear hK K
          refine norm_ (a' := ?_) ?_ ?_
          rotate_left
          · show Act.put _ (some 64) _ = _
            simp only [Act.put, List.setIfInBounds_toArray, List.set_cons_zero, List.set_cons_succ, i64_w, i32_w]
            rfl
          refine pure_ (i := 13) (N := some 51) (v := ?_) (a' := ?_) #[true, true, true, true, true, true, true, true, true, true, true, true, true, true, false, false, false, false] rfl rfl (by kernel_rfl) (fun _ _ _ h => h) (Or.inl ⟨by rfl, ?_⟩) ?_ ?_
          rotate_left
          · intro w'
            go_simp
            with_reducible rfl
          rotate_left
          · simp only [Act.put, List.setIfInBounds_toArray, List.set_cons_zero, List.set_cons_succ, i64_w, i32_w]
            rfl
          refine pure_ (i := 14) (N := some 65) (v := ?_) (a' := ?_) #[true, true, true, true, true, true, true, true, true, true, true, true, true, true, true, false, false, false] rfl rfl (by kernel_rfl) (fun _ _ _ h => h) (Or.inl ⟨by rfl, ?_⟩) ?_ ?_
          rotate_left
          · intro w'
            go_simp
            with_reducible rfl
          rotate_left
          · simp only [Act.put, List.setIfInBounds_toArray, List.set_cons_zero, List.set_cons_succ, i64_w, i32_w]
            rfl
          refine pure_ (i := 15) (N := some 66) (v := ?_) (a' := ?_) #[true, true, true, true, true, true, true, true, true, true, true, true, true, true, true, true, false, false] rfl rfl (by kernel_rfl) (fun _ _ _ h => h) (Or.inl ⟨by rfl, ?_⟩) ?_ ?_
          rotate_left
          · intro w'
            go_simp
            with_reducible rfl
          rotate_left
          · simp only [Act.put, List.setIfInBounds_toArray, List.set_cons_zero, List.set_cons_succ, i64_w, i32_w]
            rfl
          refine pure_ (i := 16) (N := some 9) (v := ?_) (a' := ?_) #[true, true, true, true, true, true, true, true, true, true, true, true, true, true, true, true, true, false] rfl rfl (by kernel_rfl) (fun _ _ _ h => h) (Or.inl ⟨by rfl, ?_⟩) ?_ ?_
          rotate_left
          · intro w'
            go_simp
            with_reducible rfl
          rotate_left
          · simp only [Act.put, List.setIfInBounds_toArray, List.set_cons_zero, List.set_cons_succ, i64_w, i32_w]
            rfl
          refine pure_ (i := 17) (N := some 10) (v := ?_) (a' := ?_) #[true, true, true, true, true, true, true, true, true, true, true, true, true, true, true, true, true, true] rfl rfl (by kernel_rfl) (fun _ _ _ h => h) (Or.inl ⟨by rfl, ?_⟩) ?_ ?_
          rotate_left
          · intro w'
            go_simp
            with_reducible rfl
          rotate_left
          · simp only [Act.put, List.setIfInBounds_toArray, List.set_cons_zero, List.set_cons_succ, i64_w, i32_w]
            rfl
          refine done_ (by kernel_rfl) ?_
          have z0 : W2.cell? ⟨gz, 0, none⟩ = some (.bool false) := (blk_cell HZ2.out 0).trans rfl
          have z1 : W2.cell? ⟨gz, 1, none⟩ = some (.int .i64 0) := (blk_cell HZ2.out 1).trans rfl
          have zf0 := blk_frozen HZ2.out 0
          have zf1 := blk_frozen HZ2.out 1
          clear hHeld k0 k1 x0 x1 x2 x3 l0 l1 l2 l3 hask hwhich
          subst hnum
          go_wp2
          exact bodyPost_ret (zret (zend0 HT2.out HZ2.out hgb hgs (.bool false) (.int .i64 0)).1 rfl rfl) rfl ⟨rfl, _, (fun h => by cases h), by omega, hf3, (zend0 HT2.out HZ2.out hgb hgs (.bool false) (.int .i64 0)).2⟩
end Go.Proofs.Ytnadgcdkcabdoaa.Nbw
namespace Go.Proofs.Ytnadgcdkcabdoaa.Dwk
open Go Go.RowKit Go.Proofs.YtnadgcdkcabdoaaW.PrintWords Go.Proofs.YtnadgcdkcabdoaaW.PrintLast Go.Proofs.YtnadgcdkcabdoaaW.PrintMore Go.Proofs.Ytnadgcdkcabdoaa.Aid Go.Proofs.Ytnadgcdkcabdoaa.HandAid Go.Proofs.Ytnadgcdkcabdoaa.U Go.Proofs.Ytnadgcdkcabdoaa.Tab Go.Proofs.Ytnadgcdkcabdoaa.Cdx Go.Proofs.Ytnadgcdkcabdoaa.Cdy Go.Proofs.Ytnadgcdkcabdoaa.Cdz Go.Proofs.Ytnadgcdkcabdoaa.Rdp Go.Proofs.Ytnadgcdkcabdoaa.Mpp Go.Proofs.Ytnadgcdkcabdoaa.Dcm Go.Proofs.Ytnadgcdkcabdoaa.Nrd Go.Proofs.Ytnadgcdkcabdoaa.Nbr Go.Proofs.Ytnadgcdkcabdoaa.Nbw
/-- The numbers behind a place. -/
def decL (t : List Ln) (b : List Int) : Nat → Int → List S48 → List S48 × Int × Int
  | 0, a, l => (l, a, 0)
  | k + 1, a, l => if (numG t b a 16 0).2.1 = 0 then decL t b k (numG t b a 16 0).2.2 (l ++ [⟨(numG t b a 16 0).1.1, (numG t b a 16 0).1.2⟩]) else ([], 0, (numG t b a 16 0).2.1)
def decP (t : List Ln) (b : List Int) (n : Int) : List S48 × Int × Int :=
  if vldP t then (if n < 0 ∨ 20000 < n then ([], 0, 2) else decL t b n.toNat 0 []) else ([], 0, 20)
theorem Rs.now {w0 ws wr : World} {gx : Nat} {A : Option Addr} {c b1 b2 g : Nat} {t : List Ln} {b : List Int} {a : Int} (h : Rs w0 ws wr gx A c b1 b2 g t b a) : Rs w0 wr wr gx A c b1 b2 g t b a :=
  ⟨h.obj, h.m1, h.m2, h.rdr, h.bel, ⟨rfl, rfl, rfl, Nat.le_refl _, fun _ _ _ => rfl⟩⟩
theorem rs_row {w0 ws wr w1 : World} {gx : Nat} {A : Option Addr} {c b1 b2 g : Nat} {t : List Ln} {b : List Int} {a : Int} (h : Rs w0 ws wr gx A c b1 b2 g t b a) {v : Value} {xs : List S48} (hR : Kd.R k48 48 wr w0.heap.size (fun _ => True) v xs) (hg : wr.grownBy w1 v.ownBlock) : Rs w0 w1 w1 gx A c b1 b2 g t b a := by
  cases hv : v.ownBlock with
  | none =>
    rw [hv] at hg
    exact Rs.now (h.below ⟨hg.os, hg.tape, hg.output, hg.size, fun k hk => hg.block k hk (by simp)⟩)
  | some k =>
    rw [hv] at hg
    obtain ⟨cells, hc⟩ := Kd.R_typed hR k hv
    exact Rs.now ((⟨h.obj, h.m1, h.m2, h.rdr, h.bel, ⟨h.bel.os, h.bel.tape, h.bel.output, h.bel.size, fun i hi _ => h.bel.block i hi⟩⟩ : Rs w0 w0 wr gx A c b1 b2 g t b a).beside hc (by decide) (by decide) (by decide) hg (Kd.R_base hR k hv) (Kd.R_base hR k hv))
set_option maxHeartbeats 8000000 in
set_option maxRecDepth 100000 in
theorem decode_main (A : Option Addr) (c : Nat) (t : List Ln) (A2 : Option Addr) (c2 : Nat) (b : List Int) (n : Int) (w : World) (hv : vldP t) (hn0 : 0 ≤ n) (hn1 : n ≤ 20000) (hC : Kd.C k32 w A t.length t) (hc : t.length ≤ c) (hC2 : Kd.C (Kd.int .u8) w A2 b.length b) (hc2 : b.length ≤ c2) (hb : Bytes b) (hl : b.length ≤ 140737488355328)
    (R : List S48 × Int × Int) (hR : decL t b n.toNat 0 [] = R) :
    Calls Try.prog 34 #[.slice A t.length c, .slice A2 b.length c2, .int .i64 n] w fun e w' => ∃ v0, e = .returned (.tuple #[v0, .int .i64 R.2.1, .int .i64 R.2.2]) ∧ Kd.R k48 48 w' w.heap.size (fun _ => True) v0 R.1 ∧ Below w.heap.size w w' := by
  obtain ⟨K0, hval⟩ := Ev.rounds (pvalid_ev t)
  rw [decide_eq_true hv] at hval
  have HVA := Aside0.mk hval
  have HV := Aside0.mk hv
  have HC := Aside0.mk hC
  have HC2 := Aside0.mk hC2
  have HB := Aside0.mk hb
  clear hval hv hC hC2 hb
  have hu48 := Try.underlying48
  have hu100 := Try.underlying100
  have hnn : ¬ n < 0 := by omega
  have hnn2 : ¬ 20000 < n := by omega
  go_enter Try.func34, Try.ntmps34
  go_wp2_with (first
    | (go_at_call 23; with_reducible refine (prefix_Valid.calls K0 A c t true _ HC.out hc HVA.out).mono ?_; rintro e w1 ⟨rfl, hb1⟩; have HB1 := Aside0.mk hb1; clear hb1))
  refine (newreader_calls A c t A2 c2 b _ HV.out (Kd.C_below HC.out HB1.out) hc (Kd.C_below HC2.out HB1.out) hc2 hl).mono ?_
  rintro e w2 ⟨gx, rfl, hgx, b1, b2, g, Ac, cc, n1, n2, hg, hst⟩
  have HST := Aside0.mk hst
  have HG := Aside0.mk hg
  clear hst hg hgx
  go_wp2_with (fail)
  have hle1 := HB1.out.size
  have hg : w.heap.size ≤ g := Nat.le_trans hle1 HG.out
  have HT := Aside0.mk (show Rs w w2 w2 gx A c b1 b2 g t b 0 from ⟨HST.out.obj, ⟨_, HST.out.m1⟩, ⟨_, HST.out.m2⟩, HST.out.rdr, below_then HB1.out hle1 HST.out.bel, ⟨rfl, rfl, rfl, Nat.le_refl _, fun _ _ _ => rfl⟩⟩)
  clear HST HG HB1 hle1
  go_loopw [6, 27] (fun v x wr => ∃ k : Nat, ∃ a : Int, ∃ acc : List S48, (k : Int) ≤ n ∧ x = .int .i64 k ∧ 0 ≤ a ∧ a ≤ 8 * b.length ∧ decL t b (n.toNat - k) a acc = R ∧ acc.length = k ∧ Aside0 (Rs w wr wr gx A c b1 b2 g t b a) ∧ Aside0 (Kd.R k48 48 wr w.heap.size (fun _ => True) v acc)) (fun _ x _ => (n - intOf x).toNat)
  case atStart => exact ⟨0, 0, [], by omega, rfl, by omega, by omega, hR, rfl, HT, ⟨Kd.R_nil _ _ _ _ _⟩⟩
  case round =>
    obtain ⟨k, a, acc, hk, rfl, ha, ha2, hdec, hlen, HS, HO⟩ := hrel
    by_cases hlt : (k : Int) < n
    · obtain ⟨⟨⟨nn, N⟩, er, nx⟩, hR1⟩ : ∃ R1, numG t b a 16 0 = R1 := ⟨_, rfl⟩
      have hstep : decL t b (n.toNat - k) a acc = if er = 0 then decL t b (n.toNat - (k + 1)) nx (acc ++ [⟨nn, N⟩]) else ([], 0, er) := by
        rw [show n.toNat - k = (n.toNat - (k + 1)) + 1 by omega]
        simp only [decL]
        rw [hR1]
      have hdec := hstep.symm.trans hdec
      clear hstep
      by_cases he : er = 0
      · subst he
        rw [if_pos rfl] at hdec
        go_wp2_with (fail)
        refine (number_calls w _ gx A c b1 b2 g t b a HV.out HB.out hl HC.out HS.out ha ha2 hg _ hR1).mono ?_
        rintro e W ⟨rfl, a', h1, h2, h3, h4⟩
        obtain rfl : a' = nx := h1 rfl
        obtain ⟨vr, hrb, _⟩ := HS.out.rdr
        have HO2 := Aside0.mk (Kd.R_grown1 HO.out rfl h4.gro (Kd.R_ne HO.out hrb (by decide)))
        have HS2 := Aside0.mk (Rs.now h4)
        clear h4 hrb HS HO h1
        have hacc : acc.length ≤ 20000 := by omega
        go_wp2_with ((with_reducible refine gate_builtin (b := .append) (xs := #[.tmp 37, .tmp 39]) rfl ?_); at_builtin; refine Kd.R_append k48 (w0 := w) w.heap.size rfl (.tmp 37) (.tmp 39) 54 48 (.agg #[(.bool false), (.int .i64 0)]) 16 rfl Try.underlying54 info48 rfl (by decide) (by omega) u6 acc (⟨nn, N⟩ : S48) [.bool nn, .int .i64 N] (fun _ => True) (fun _ => False) rfl ?aX (k48_mkM _ _ _ (⟨nn, N⟩ : S48)) (fun _ hk => hk.elim) (fun _ _ => trivial) (Kd.R_alloc HO2.out _) (below_alloc HS2.out.bel _) ?aS (by omega) ?_; (case aX => first | (go_simp; done) | rfl); (case aS => exact Nat.le_trans HS2.out.bel.size (by rw [World.size_alloc]; omega)); intro v2 w3 ho hb2 hgr hat; have HO3 := Aside0.mk ho; have HS3 := Aside0.mk (rs_row (HS2.out.below (below_alloc (Below.refl _ _) _)) (Kd.R_alloc HO2.out _) hgr); clear ho hb2 hgr hat)
        exact ⟨⟨k + 1, a', acc ++ [⟨nn, N⟩], by omega, rfl, h2, h3, hdec, by rw [List.length_append, hlen]; rfl, HS3, HO3⟩, by simp [intOf]; omega⟩
      · rw [if_neg he] at hdec
        subst hdec
        have e0 : (er == 0) = false := beq_eq_false_iff_ne.mpr he
        have e1 : (er != 0) = true := bne_iff_ne.mpr he
        go_wp2_with (fail)
        refine (number_calls w _ gx A c b1 b2 g t b a HV.out HB.out hl HC.out HS.out ha ha2 hg _ hR1).mono ?_
        rintro e W ⟨rfl, a', h1, h2, h3, h4⟩
        have HS2 := Aside0.mk (Rs.now h4)
        clear h4 HS HO h1 hR1
        go_wp2_with (fail)
        go_ret3
        exact ⟨_, rfl, Kd.R_nil _ _ _ _ _, below_alloc HS2.out.bel _⟩
    · have hkn : n.toNat - k = 0 := by omega
      rw [hkn] at hdec
      simp only [decL] at hdec
      subst hdec
      have x3 : wr.cell? ⟨gx, 3, none⟩ = some (.pointer (some ⟨g, 0, none⟩)) := (blk_cell HS.out.obj 3).trans rfl
      obtain ⟨Ar, cr, r0, r1, r2⟩ := HS.out.rdr.cells
      go_wp2_with (fail)
      refine (at_real _ g a r1 r2).mono ?_
      rintro e w4 ⟨rfl, rfl⟩
      go_wp2_with (fail)
      go_ret3
      exact ⟨_, rfl, HO.out, HS.out.bel⟩
theorem decode_calls (A : Option Addr) (c : Nat) (t : List Ln) (A2 : Option Addr) (c2 : Nat) (b : List Int) (n : Int) (w : World) (hC : Kd.C k32 w A t.length t) (hc : t.length ≤ c) (hC2 : Kd.C (Kd.int .u8) w A2 b.length b) (hc2 : b.length ≤ c2) (hb : Bytes b) (hl : b.length ≤ 140737488355328) :
    Calls Try.prog 34 #[.slice A t.length c, .slice A2 b.length c2, .int .i64 n] w fun e w' => ∃ v0, e = .returned (.tuple #[v0, .int .i64 (decP t b n).2.1, .int .i64 (decP t b n).2.2]) ∧ Kd.R k48 48 w' w.heap.size (fun _ => True) v0 (decP t b n).1 ∧ Below w.heap.size w w' := by
  by_cases hv : vldP t
  · by_cases hn : n < 0 ∨ 20000 < n
    · have e : decP t b n = ([], 0, 2) := by unfold decP; rw [if_pos hv, if_pos hn]
      rw [e]
      obtain ⟨K0, hval⟩ := Ev.rounds (pvalid_ev t)
      rw [decide_eq_true hv] at hval
      have HVA := Aside0.mk hval
      have HC := Aside0.mk hC
      clear hval hC hC2 e
      have hd : (decide (n < 0) || decide (20000 < n)) = true := by simpa using hn
      rcases hn with hn | hn
      · go_enter Try.func34, Try.ntmps34
        go_wp2_with (fail)
        refine (prefix_Valid.calls K0 A c t true _ HC.out hc HVA.out).mono ?_
        rintro e w1 ⟨rfl, hb1⟩
        go_wp2_with (fail)
        go_ret3
        exact ⟨_, rfl, Kd.R_nil _ _ _ _ _, hb1⟩
      · have hn0 : ¬ n < 0 := by omega
        go_enter Try.func34, Try.ntmps34
        go_wp2_with (fail)
        refine (prefix_Valid.calls K0 A c t true _ HC.out hc HVA.out).mono ?_
        rintro e w1 ⟨rfl, hb1⟩
        go_wp2_with (fail)
        go_ret3
        exact ⟨_, rfl, Kd.R_nil _ _ _ _ _, hb1⟩
    · have e : decP t b n = decL t b n.toNat 0 [] := by unfold decP; rw [if_pos hv, if_neg hn]
      rw [e]
      exact decode_main A c t A2 c2 b n w hv (by omega) (by omega) hC hc hC2 hc2 hb hl _ rfl
  · have e : decP t b n = ([], 0, 20) := by unfold decP; rw [if_neg hv]
    rw [e]
    obtain ⟨K0, hval⟩ := Ev.rounds (pvalid_ev t)
    rw [decide_eq_false hv] at hval
    have HVA := Aside0.mk hval
    have HC := Aside0.mk hC
    clear hval hC hC2 e
    go_enter Try.func34, Try.ntmps34
    go_wp2_with (fail)
    refine (prefix_Valid.calls K0 A c t false _ HC.out hc HVA.out).mono ?_
    rintro e w1 ⟨rfl, hb1⟩
    go_wp2_with (fail)
    go_ret3
    exact ⟨_, rfl, Kd.R_nil _ _ _ _ _, hb1⟩
end Go.Proofs.Ytnadgcdkcabdoaa.Dwk
namespace Go.Proofs.Ytnadgcdkcabdoaa.U
open Go Go.RowKit Go.Proofs.YtnadgcdkcabdoaaW.PrintWords Go.Proofs.YtnadgcdkcabdoaaW.PrintLast Go.Proofs.YtnadgcdkcabdoaaW.PrintMore Go.Proofs.Ytnadgcdkcabdoaa.Aid Go.Proofs.Ytnadgcdkcabdoaa.HandAid Go.Proofs.Ytnadgcdkcabdoaa.Dwk
def prefix_Decode.f (l0 : List S32) (l1 : List Int) (a2 : Int) : Option (List S48 × Int × Int) := if (l1.all fun x => decide (0 ≤ x ∧ x ≤ 255)) = true ∧ l1.length ≤ 140737488355328 then some (decP l0 l1 a2) else none
theorem prefix_Decode.calls (A0 : Option Addr) (c0 : Nat) (l0 : List S32) (A1 : Option Addr) (c1 : Nat) (l1 : List Int) (a2 : Int) (r1 : List S48) (r2 r3 : Int) (w : World) (hr0 : Kd.C k32 w A0 l0.length l0) (hc0 : l0.length ≤ c0) (hr1 : Kd.C (Kd.int .u8) w A1 l1.length l1) (hc1 : l1.length ≤ c1) (h : prefix_Decode.f l0 l1 a2 = some (r1, r2, r3)) :
    Calls Try.prog 34 #[.slice A0 l0.length c0, .slice A1 l1.length c1, .int .i64 a2] w fun e w' => ∃ v0_ : Value, e = .returned (.tuple #[v0_, .int .i64 r2, .int .i64 r3]) ∧ Kd.R k48 48 w' w.heap.size (fun _ => True) v0_ r1 ∧ Below w.heap.size w w' := by
  unfold prefix_Decode.f at h
  split at h
  · rename_i hc
    have e := Option.some.inj h
    have hb : Bytes l1 := fun x hx => of_decide_eq_true (List.all_eq_true.1 hc.1 x hx)
    have hd := decode_calls A0 c0 l0 A1 c1 l1 a2 w hr0 hc0 hr1 hc1 hb hc.2
    rw [e] at hd
    exact hd
  · cases h
end Go.Proofs.Ytnadgcdkcabdoaa.U
