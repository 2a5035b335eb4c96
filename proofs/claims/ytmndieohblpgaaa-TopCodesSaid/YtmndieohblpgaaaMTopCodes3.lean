import Derived.Test.YtmndieohblpgaaaMTopCodes1
import Derived.Test.YtmndieohblpgaaaMTopCodes2
import Derived.Test.YtmndieohblpgaaaMTopCodes0
import Derived.SizedLaws
import Derived.ChangeSlices
import Derived.ChangeArms
set_option linter.unusedVariables false
set_option linter.unusedSimpArgs false
namespace Go.Proofs.Ytmndieohblpgaaa.U
open Go.RowKit YtmndieohblpgaaaW PrintWords PrintLast PrintMore
attribute [local go_sem] max2_int min2_int max_two min_two max_three min_three max_four min_four
mutual
def incunabletop_TopCodes.l0 : Nat → List (List (S28)) → List Int → Int → List Int → Int → Option (Bool)
 | 0, _, _, _, _, _ => none
 | k + 1, x0, x1, x5, x6, x7 => if x7 < (x0.length : Int) then (if 0 ≤ x7 then (incunabletop_TopCodes.l1 k x0 x1 (wrap64 ((wrap64 (x5 + 1)) + ((rd_L4 x0 x7).length : Int))) x6 x7 0) else (none)) else ((bits_Sum.f k x6).bind fun t141 => ((bits_Size.f k t141).bind fun bt142 => (if bt142.2 = 0 then (if x6.length + bt142.1.length < 140737488355328 then (incunabletop_TopCodes.l2 k x0 x1 (x6 ++ bt142.1) 0 0) else (none)) else (some false))))
def incunabletop_TopCodes.l1 : Nat → List (List (S28)) → List Int → Int → List Int → Int → Int → Option (Bool)
 | 0, _, _, _, _, _, _ => none
 | k + 1, x0, x1, x5, x6, x7, x8 => if 0 ≤ x7 then (if x7 < (x0.length : Int) then (if x8 < ((rd_L4 x0 x7).length : Int) then (if 0 ≤ x8 then ((incunableref03_Valid.f ((rd_T28 (rd_L4 x0 x7) x8).f0) ((rd_T28 (rd_L4 x0 x7) x8).f1)).bind fun t122 => (if t122 = true then (incunabletop_TopCodes.l1 k x0 x1 x5 x6 x7 (wrap64 (x8 + 1))) else ((incunablelaw03_Sane.f).bind fun t123 => (some t123)))) else (none)) else (if x5 > 300 then ((incunablelaw03_Sane.f).bind fun t124 => (some t124)) else (if x7 < (x1.length : Int) then (incunabletop_TopCodes.j2 k x0 x1 x5 x6 x7 (Int.tmod (wrap64 ((Int.tmod (rd x1 x7) 2) + 2)) 2)) else (incunabletop_TopCodes.j2 k x0 x1 x5 x6 x7 0)))) else (none)) else (none)
def incunabletop_TopCodes.j2 : Nat → List (List (S28)) → List Int → Int → List Int → Int → Int → Option (Bool)
 | 0, _, _, _, _, _, _ => none
 | k + 1, x0, x1, x5, x6, x7, x9 => if 0 ≤ x7 then (if x7 < (x0.length : Int) then ((number_Encode.f x9 (rd_L4 x0 x7)).bind fun bt127 => ((bits_Size.f k (bt127.1.length : Int)).bind fun bt131 => (if bt127.2 = 0 then (if bt131.2 = 0 then (if x6.length + bt131.1.length < 140737488355328 then ((some (x6 ++ bt131.1 : List Int)).bind fun y135 => (if y135.length + bt127.1.length < 140737488355328 then (incunabletop_TopCodes.l0 k x0 x1 x5 (y135 ++ bt127.1) (wrap64 (x7 + 1))) else (none))) else (none)) else (some false)) else (some false)))) else (none)) else (none)
def incunabletop_TopCodes.l2 : Nat → List (List (S28)) → List Int → List Int → Int → Int → Option (Bool)
 | 0, _, _, _, _, _ => none
 | k + 1, x0, x1, x6, x16, x17 => if x17 < (x0.length : Int) then ((bits_GetSize.f k x6 x16).bind fun bt158 => (if bt158.2.2 = 0 then (if bt158.1 < 0 then (incunabletop_TopCodes.j4 k x0 x1 x6 x17 bt158.1 bt158.2.1 true) else (if bt158.2.1 < 0 then (incunabletop_TopCodes.j4 k x0 x1 x6 x17 bt158.1 bt158.2.1 true) else (if bt158.2.1 > (x6.length : Int) then (incunabletop_TopCodes.j4 k x0 x1 x6 x17 bt158.1 bt158.2.1 true) else (incunabletop_TopCodes.j4 k x0 x1 x6 x17 bt158.1 bt158.2.1 (decide (bt158.1 > (wrap64 ((x6.length : Int) - bt158.2.1)))))))) else (incunabletop_TopCodes.j4 k x0 x1 x6 x17 bt158.1 bt158.2.1 true))) else ((bits_GetSize.f k x6 x16).bind fun bt149 => (if bt149.2.2 = 0 then (if bt149.2.1 = (x6.length : Int) then (if 0 ≤ x16 then (if x16 ≤ (x6.length : Int) then ((bits_Sum.f k (x6.take (x16 : Int).toNat)).bind fun t156 => (if bt149.1 = t156 then ((incunablelaw03_Sane.f).bind fun t157 => (some t157)) else (some false))) else (none)) else (none)) else (some false)) else (some false)))
def incunabletop_TopCodes.j4 : Nat → List (List (S28)) → List Int → List Int → Int → Int → Int → Bool → Option (Bool)
 | 0, _, _, _, _, _, _, _ => none
 | k + 1, x0, x1, x6, x17, x18, x19, x145 => if x145 = true then (some false) else (if x17 < (x1.length : Int) then (if 0 ≤ x17 then (incunabletop_TopCodes.j5 k x0 x1 x6 x17 x18 x19 (Int.tmod (wrap64 ((Int.tmod (rd x1 x17) 2) + 2)) 2)) else (none)) else (incunabletop_TopCodes.j5 k x0 x1 x6 x17 x18 x19 0))
def incunabletop_TopCodes.j5 : Nat → List (List (S28)) → List Int → List Int → Int → Int → Int → Int → Option (Bool)
 | 0, _, _, _, _, _, _, _ => none
 | k + 1, x0, x1, x6, x17, x18, x19, x21 => if 0 ≤ x19 then (if x19 ≤ (wrap64 (x19 + x18)) then (if (wrap64 (x19 + x18)) ≤ (x6.length : Int) then (if 0 ≤ x17 then (if x17 < (x0.length : Int) then ((number_Decode.f x21 ((x6.take ((wrap64 (x19 + x18)) : Int).toNat).drop (x19 : Int).toNat) ((rd_L4 x0 x17).length : Int)).bind fun bt167 => (if bt167.2 = 0 then ((incunableref03_Same.f k bt167.1 (rd_L4 x0 x17)).bind fun t172 => (if t172 = true then (incunabletop_TopCodes.l2 k x0 x1 x6 (wrap64 (x19 + x18)) (wrap64 (x17 + 1))) else (some false))) else (some false))) else (none)) else (none)) else (none)) else (none)) else (none)
end
def incunabletop_TopCodes.f (k : Nat) (l0 : List (List (S28))) (l1 : List Int) : Option (Bool) := incunabletop_TopCodes.l0 k l0 l1 0 ([] : List Int) 0
theorem incunabletop_TopCodes.mono_l : ∀ k, (∀ y0 y1 y2 y3 y4, LeO (incunabletop_TopCodes.l0 k y0 y1 y2 y3 y4) (incunabletop_TopCodes.l0 (k + 1) y0 y1 y2 y3 y4)) ∧ (∀ y0 y1 y2 y3 y4 y5, LeO (incunabletop_TopCodes.l1 k y0 y1 y2 y3 y4 y5) (incunabletop_TopCodes.l1 (k + 1) y0 y1 y2 y3 y4 y5)) ∧ (∀ y0 y1 y2 y3 y4 y5, LeO (incunabletop_TopCodes.j2 k y0 y1 y2 y3 y4 y5) (incunabletop_TopCodes.j2 (k + 1) y0 y1 y2 y3 y4 y5)) ∧ (∀ y0 y1 y2 y3 y4, LeO (incunabletop_TopCodes.l2 k y0 y1 y2 y3 y4) (incunabletop_TopCodes.l2 (k + 1) y0 y1 y2 y3 y4)) ∧ (∀ y0 y1 y2 y3 y4 y5 y6, LeO (incunabletop_TopCodes.j4 k y0 y1 y2 y3 y4 y5 y6) (incunabletop_TopCodes.j4 (k + 1) y0 y1 y2 y3 y4 y5 y6)) ∧ (∀ y0 y1 y2 y3 y4 y5 y6, LeO (incunabletop_TopCodes.j5 k y0 y1 y2 y3 y4 y5 y6) (incunabletop_TopCodes.j5 (k + 1) y0 y1 y2 y3 y4 y5 y6))
 | 0 => ⟨fun _ _ _ _ _ r h => by simp [incunabletop_TopCodes.l0] at h, fun _ _ _ _ _ _ r h => by simp [incunabletop_TopCodes.l1] at h, fun _ _ _ _ _ _ r h => by simp [incunabletop_TopCodes.j2] at h, fun _ _ _ _ _ r h => by simp [incunabletop_TopCodes.l2] at h, fun _ _ _ _ _ _ _ r h => by simp [incunabletop_TopCodes.j4] at h, fun _ _ _ _ _ _ _ r h => by simp [incunabletop_TopCodes.j5] at h⟩
 | k + 1 => by
   obtain ⟨ih0, ih1, ih2, ih3, ih4, ih5⟩ := incunabletop_TopCodes.mono_l k
   refine ⟨?_, ?_, ?_, ?_, ?_, ?_⟩
   · intro y0 y1 y2 y3 y4
     unfold incunabletop_TopCodes.l0
     repeat' first
     | (with_reducible exact ih0 _ _ _ _ _)
     | (with_reducible exact ih1 _ _ _ _ _ _)
     | (with_reducible exact ih2 _ _ _ _ _ _)
     | (with_reducible exact ih3 _ _ _ _ _)
     | (with_reducible exact ih4 _ _ _ _ _ _ _)
     | (with_reducible exact ih5 _ _ _ _ _ _ _)
     | (with_reducible exact bits_GetSize.mono _ _ _)
     | (with_reducible exact bits_Size.mono _ _)
     | (with_reducible exact bits_Sum.mono _ _)
     | (with_reducible exact incunableref03_Same.mono _ _ _)
     | (with_reducible exact LeO.refl _)
     | (with_reducible exact LeO.none _)
     | (with_reducible refine LeO.ite ?_ ?_)
     | (with_reducible refine LeO.bind ?_ (fun _ => ?_))
     | exact ih0 _ _ _ _ _
     | exact ih1 _ _ _ _ _ _
     | exact ih2 _ _ _ _ _ _
     | exact ih3 _ _ _ _ _
     | exact ih4 _ _ _ _ _ _ _
     | exact ih5 _ _ _ _ _ _ _
     | exact bits_GetSize.mono _ _ _
     | exact bits_Size.mono _ _
     | exact bits_Sum.mono _ _
     | exact incunableref03_Same.mono _ _ _
     | exact LeO.none _
     | refine LeO.ite ?_ ?_
     | refine LeO.bind ?_ (fun _ => ?_)
   · intro y0 y1 y2 y3 y4 y5
     unfold incunabletop_TopCodes.l1
     repeat' first
     | (with_reducible exact ih0 _ _ _ _ _)
     | (with_reducible exact ih1 _ _ _ _ _ _)
     | (with_reducible exact ih2 _ _ _ _ _ _)
     | (with_reducible exact ih3 _ _ _ _ _)
     | (with_reducible exact ih4 _ _ _ _ _ _ _)
     | (with_reducible exact ih5 _ _ _ _ _ _ _)
     | (with_reducible exact bits_GetSize.mono _ _ _)
     | (with_reducible exact bits_Size.mono _ _)
     | (with_reducible exact bits_Sum.mono _ _)
     | (with_reducible exact incunableref03_Same.mono _ _ _)
     | (with_reducible exact LeO.refl _)
     | (with_reducible exact LeO.none _)
     | (with_reducible refine LeO.ite ?_ ?_)
     | (with_reducible refine LeO.bind ?_ (fun _ => ?_))
     | exact ih0 _ _ _ _ _
     | exact ih1 _ _ _ _ _ _
     | exact ih2 _ _ _ _ _ _
     | exact ih3 _ _ _ _ _
     | exact ih4 _ _ _ _ _ _ _
     | exact ih5 _ _ _ _ _ _ _
     | exact bits_GetSize.mono _ _ _
     | exact bits_Size.mono _ _
     | exact bits_Sum.mono _ _
     | exact incunableref03_Same.mono _ _ _
     | exact LeO.none _
     | refine LeO.ite ?_ ?_
     | refine LeO.bind ?_ (fun _ => ?_)
   · intro y0 y1 y2 y3 y4 y5
     unfold incunabletop_TopCodes.j2
     repeat' first
     | (with_reducible exact ih0 _ _ _ _ _)
     | (with_reducible exact ih1 _ _ _ _ _ _)
     | (with_reducible exact ih2 _ _ _ _ _ _)
     | (with_reducible exact ih3 _ _ _ _ _)
     | (with_reducible exact ih4 _ _ _ _ _ _ _)
     | (with_reducible exact ih5 _ _ _ _ _ _ _)
     | (with_reducible exact bits_GetSize.mono _ _ _)
     | (with_reducible exact bits_Size.mono _ _)
     | (with_reducible exact bits_Sum.mono _ _)
     | (with_reducible exact incunableref03_Same.mono _ _ _)
     | (with_reducible exact LeO.refl _)
     | (with_reducible exact LeO.none _)
     | (with_reducible refine LeO.ite ?_ ?_)
     | (with_reducible refine LeO.bind ?_ (fun _ => ?_))
     | exact ih0 _ _ _ _ _
     | exact ih1 _ _ _ _ _ _
     | exact ih2 _ _ _ _ _ _
     | exact ih3 _ _ _ _ _
     | exact ih4 _ _ _ _ _ _ _
     | exact ih5 _ _ _ _ _ _ _
     | exact bits_GetSize.mono _ _ _
     | exact bits_Size.mono _ _
     | exact bits_Sum.mono _ _
     | exact incunableref03_Same.mono _ _ _
     | exact LeO.none _
     | refine LeO.ite ?_ ?_
     | refine LeO.bind ?_ (fun _ => ?_)
   · intro y0 y1 y2 y3 y4
     unfold incunabletop_TopCodes.l2
     repeat' first
     | (with_reducible exact ih0 _ _ _ _ _)
     | (with_reducible exact ih1 _ _ _ _ _ _)
     | (with_reducible exact ih2 _ _ _ _ _ _)
     | (with_reducible exact ih3 _ _ _ _ _)
     | (with_reducible exact ih4 _ _ _ _ _ _ _)
     | (with_reducible exact ih5 _ _ _ _ _ _ _)
     | (with_reducible exact bits_GetSize.mono _ _ _)
     | (with_reducible exact bits_Size.mono _ _)
     | (with_reducible exact bits_Sum.mono _ _)
     | (with_reducible exact incunableref03_Same.mono _ _ _)
     | (with_reducible exact LeO.refl _)
     | (with_reducible exact LeO.none _)
     | (with_reducible refine LeO.ite ?_ ?_)
     | (with_reducible refine LeO.bind ?_ (fun _ => ?_))
     | exact ih0 _ _ _ _ _
     | exact ih1 _ _ _ _ _ _
     | exact ih2 _ _ _ _ _ _
     | exact ih3 _ _ _ _ _
     | exact ih4 _ _ _ _ _ _ _
     | exact ih5 _ _ _ _ _ _ _
     | exact bits_GetSize.mono _ _ _
     | exact bits_Size.mono _ _
     | exact bits_Sum.mono _ _
     | exact incunableref03_Same.mono _ _ _
     | exact LeO.none _
     | refine LeO.ite ?_ ?_
     | refine LeO.bind ?_ (fun _ => ?_)
   · intro y0 y1 y2 y3 y4 y5 y6
     unfold incunabletop_TopCodes.j4
     repeat' first
     | (with_reducible exact ih0 _ _ _ _ _)
     | (with_reducible exact ih1 _ _ _ _ _ _)
     | (with_reducible exact ih2 _ _ _ _ _ _)
     | (with_reducible exact ih3 _ _ _ _ _)
     | (with_reducible exact ih4 _ _ _ _ _ _ _)
     | (with_reducible exact ih5 _ _ _ _ _ _ _)
     | (with_reducible exact bits_GetSize.mono _ _ _)
     | (with_reducible exact bits_Size.mono _ _)
     | (with_reducible exact bits_Sum.mono _ _)
     | (with_reducible exact incunableref03_Same.mono _ _ _)
     | (with_reducible exact LeO.refl _)
     | (with_reducible exact LeO.none _)
     | (with_reducible refine LeO.ite ?_ ?_)
     | (with_reducible refine LeO.bind ?_ (fun _ => ?_))
     | exact ih0 _ _ _ _ _
     | exact ih1 _ _ _ _ _ _
     | exact ih2 _ _ _ _ _ _
     | exact ih3 _ _ _ _ _
     | exact ih4 _ _ _ _ _ _ _
     | exact ih5 _ _ _ _ _ _ _
     | exact bits_GetSize.mono _ _ _
     | exact bits_Size.mono _ _
     | exact bits_Sum.mono _ _
     | exact incunableref03_Same.mono _ _ _
     | exact LeO.none _
     | refine LeO.ite ?_ ?_
     | refine LeO.bind ?_ (fun _ => ?_)
   · intro y0 y1 y2 y3 y4 y5 y6
     unfold incunabletop_TopCodes.j5
     repeat' first
     | (with_reducible exact ih0 _ _ _ _ _)
     | (with_reducible exact ih1 _ _ _ _ _ _)
     | (with_reducible exact ih2 _ _ _ _ _ _)
     | (with_reducible exact ih3 _ _ _ _ _)
     | (with_reducible exact ih4 _ _ _ _ _ _ _)
     | (with_reducible exact ih5 _ _ _ _ _ _ _)
     | (with_reducible exact bits_GetSize.mono _ _ _)
     | (with_reducible exact bits_Size.mono _ _)
     | (with_reducible exact bits_Sum.mono _ _)
     | (with_reducible exact incunableref03_Same.mono _ _ _)
     | (with_reducible exact LeO.refl _)
     | (with_reducible exact LeO.none _)
     | (with_reducible refine LeO.ite ?_ ?_)
     | (with_reducible refine LeO.bind ?_ (fun _ => ?_))
     | exact ih0 _ _ _ _ _
     | exact ih1 _ _ _ _ _ _
     | exact ih2 _ _ _ _ _ _
     | exact ih3 _ _ _ _ _
     | exact ih4 _ _ _ _ _ _ _
     | exact ih5 _ _ _ _ _ _ _
     | exact bits_GetSize.mono _ _ _
     | exact bits_Size.mono _ _
     | exact bits_Sum.mono _ _
     | exact incunableref03_Same.mono _ _ _
     | exact LeO.none _
     | refine LeO.ite ?_ ?_
     | refine LeO.bind ?_ (fun _ => ?_)
theorem incunabletop_TopCodes.mono : ∀ a0 a1 k, LeO (incunabletop_TopCodes.f k a0 a1) (incunabletop_TopCodes.f (k + 1) a0 a1) := by
 intro a0 a1 k; obtain ⟨ih0, ih1, ih2, ih3, ih4, ih5⟩ := incunabletop_TopCodes.mono_l k; unfold incunabletop_TopCodes.f
 repeat' first
  | (with_reducible exact ih0 _ _ _ _ _)
  | (with_reducible exact ih1 _ _ _ _ _ _)
  | (with_reducible exact ih2 _ _ _ _ _ _)
  | (with_reducible exact ih3 _ _ _ _ _)
  | (with_reducible exact ih4 _ _ _ _ _ _ _)
  | (with_reducible exact ih5 _ _ _ _ _ _ _)
  | (with_reducible exact bits_GetSize.mono _ _ _)
  | (with_reducible exact bits_Size.mono _ _)
  | (with_reducible exact bits_Sum.mono _ _)
  | (with_reducible exact incunableref03_Same.mono _ _ _)
  | (with_reducible exact LeO.refl _)
  | (with_reducible exact LeO.none _)
  | (with_reducible refine LeO.ite ?_ ?_)
  | (with_reducible refine LeO.bind ?_ (fun _ => ?_))
  | exact ih0 _ _ _ _ _
  | exact ih1 _ _ _ _ _ _
  | exact ih2 _ _ _ _ _ _
  | exact ih3 _ _ _ _ _
  | exact ih4 _ _ _ _ _ _ _
  | exact ih5 _ _ _ _ _ _ _
  | exact bits_GetSize.mono _ _ _
  | exact bits_Size.mono _ _
  | exact bits_Sum.mono _ _
  | exact incunableref03_Same.mono _ _ _
  | exact LeO.none _
  | refine LeO.ite ?_ ?_
  | refine LeO.bind ?_ (fun _ => ?_)
def incunabletop_TopCodes.T36 : Bool × List (List Nat × List Nat) := (true, [([], []), ([], []), ([], []), ([], []), ([], []), ([3, 4], [3, 4]), ([1, 2, 5], [1, 2, 5]), ([], []), ([], []), ([7, 8], [7, 8]), ([9], [9]), ([10], [10]), ([0, 6, 11], [0, 6, 11]), ([12], [12]), ([13], [13]), ([13], [13]), ([14, 12, 0, 1, 2, 3, 4, 5, 6, 7, 8, 9, 10, 11, 12, 13, 14], [14]), ([15, 16, 0, 1, 2, 3, 4, 5, 6, 7, 8, 9, 10, 11, 12, 13, 14, 15, 16], [15])])
def incunabletop_TopCodes.B36 : List Nat := [0, 0, 0, 0, 0, 24, 62, 0, 0, 384, 896, 1920, 4095, 8191, 16383, 16383, 32767, 131071]
theorem incunabletop_TopCodes.tab36 : rtab .any (opsOf Try.f3 36) = incunabletop_TopCodes.T36 := by kernel_rfl
theorem incunabletop_TopCodes.bits36 : waitsOk incunabletop_TopCodes.T36.2 incunabletop_TopCodes.B36 = true := by kernel_rfl
set_option maxHeartbeats 8000000 in
set_option maxRecDepth 100000 in
theorem incunabletop_TopCodes.calls (k : Nat) (A0 : Option Addr) (c0 : Nat) (l0 : List (List (S28))) (A1 : Option Addr) (c1 : Nat) (l1 : List Int) (r : Bool) (w : World) (hr0 : Kd.C (Kd.slice 28 k28) w A0 l0.length l0) (hc0 : l0.length ≤ c0) (hr1 : Kd.C (Kd.int .i64) w A1 l1.length l1) (hc1 : l1.length ≤ c1) (h : incunabletop_TopCodes.f k l0 l1 = some r) :
 Calls Try.prog 3 #[.slice A0 l0.length c0, .slice A1 l1.length c1] w fun e w' => e = .returned (.bool r) ∧ Below w.heap.size w w' := by
 have hu28 := Try.underlying28; have HR0 := A' hr0; have HC0 := A' hc0; clear hr0 hc0; have HR1 := A' hr1; have HC1 := A' hc1; clear hr1 hc1; have HB := A' (Below.refl w.heap.size w); have H : (incunabletop_TopCodes.l0 k l0 l1 0 ([] : List Int) 0) = some r := h; clear h; have H' := A' H; clear H; go_enter Try.func3, Try.ntmps3; go_wp2; go_loopg [5, 6, 7] k (fun kq v5 v6 v7 w' => ∃ (x5_1 : Int) (x6_1 : List Int) (x7_1 : Int), v5 = .int .i64 x5_1 ∧ v7 = .int .i64 x7_1 ∧ Aside0 (incunabletop_TopCodes.l0 kq l0 l1 x5_1 x6_1 x7_1 = some r) ∧ Aside0 (kq ≤ k) ∧ Aside0 (Kd.R (Kd.int .u8) 5 w' w.heap.size (fun _ => True) v6 x6_1) ∧ Aside0 (Below w.heap.size w w')); (case atStart => exact ⟨(0), (([] : List Int)), (0), (by first | rfl | (simp; done) | (simp [*]; done)), (by first | rfl | (simp; done) | (simp [*]; done)), H', ⟨Nat.le_refl _⟩, ⟨by first | exact Kd.R_nil _ _ _ _ _ | exact Kd.N_nil _ _ _ _ _ | exact Kd.V_nil _ _ _ _ _ | exact Kd.Q_nil _ _ _ _ _ | exact Kd.S_nil _ _ _ _ _⟩, ⟨by repeat (first | (with_reducible first | exact HB.out | apply below_alloc | apply pw_below_drewN | apply below_drew1) | exact HB.out)⟩⟩)
 case round =>
  clear H'; (try clear c1); (try clear p2); obtain ⟨x5_1, x6_1, x7_1, rfl, rfl, HA, HK1, HO_6, HB⟩ := hrel
  cases gk with
  | zero => exact absurd HA.out (by simp [incunabletop_TopCodes.l0])
  | succ k1 =>
   have H := HA.out; clear HA; simp only [incunabletop_TopCodes.l0] at H; by_cases c3 : x7_1 < (l0.length : Int)
   · rw [if_pos c3] at H
     have c3b0 : decide (x7_1 < (l0.length : Int)) = true := decide_eq_true c3; clear c3; by_cases c4 : 0 ≤ x7_1
     · rw [if_pos c4] at H
       have c4b0 : decide (0 ≤ x7_1) = true := decide_eq_true c4; clear c4; have H' := A' H; clear H; have p118 : 0 ≤ (x7_1 : Int) := of_decide_eq_true (by first | (with_reducible assumption) | assumption); have q118 : x7_1 < (l0.length : Int) := of_decide_eq_true (by first | (with_reducible assumption) | assumption); obtain ⟨ad118, A118_0, c118_0, e118, hx118_0, hl118_0, hi118_0⟩ := at_L4 HR0.out x7_1 p118 q118; cases e118; replace hx118_0 := (HB.out.cell (World.block_lt_of_cell? w _ hx118_0)).trans hx118_0; have HR118_0 := A' hi118_0; have HC118_0 := A' hl118_0; clear hi118_0 hl118_0; replace p118 := eq_true p118; replace q118 := eq_true q118; go_wp2; go_loopg [8] k1 (fun kq v8 w' => ∃ (x8_2 : Int), v8 = .int .i64 x8_2 ∧ Aside0 (incunabletop_TopCodes.l1 kq l0 l1 (wrap64 ((wrap64 (x5_1 + 1)) + ((rd_L4 l0 x7_1).length : Int))) x6_1 x7_1 x8_2 = some r) ∧ Aside0 (kq ≤ k1) ∧ Aside0 (Kd.R (Kd.int .u8) 5 w' w.heap.size (fun _ => True) u6 x6_1) ∧ Aside0 (Below w.heap.size w w')); (case atStart => exact ⟨(0), (by first | rfl | (simp; done) | (simp [*]; done)), H', ⟨Nat.le_refl _⟩, ⟨by (with_reducible repeat (first | apply Kd.R_alloc | apply Kd.R_drewN | apply Kd.R_drew)); exact HO_6.out⟩, ⟨by repeat (first | (with_reducible first | exact HB.out | apply below_alloc | apply pw_below_drewN | apply below_drew1) | exact HB.out)⟩⟩)
       case round =>
        clear H'; (try clear c1); (try clear p1); (try clear q1); (try clear hx1); (try clear p2); (try clear c3); (try clear c3b0); (try clear c4); (try clear c4b0); (try clear hx118_0); (try clear p118); (try clear p2); (try clear q118); obtain ⟨x8_2, rfl, HA, HK2, HO_6, HB⟩ := hrel
        cases gk with
        | zero => exact absurd HA.out (by simp [incunabletop_TopCodes.l1])
        | succ k2 =>
         have H := HA.out; clear HA; simp only [incunabletop_TopCodes.l1] at H; by_cases c5 : 0 ≤ x7_1
         · rw [if_pos c5] at H
           have c5b0 : decide (0 ≤ x7_1) = true := decide_eq_true c5; clear c5; by_cases c6 : x7_1 < (l0.length : Int)
           · rw [if_pos c6] at H
             have c6b0 : decide (x7_1 < (l0.length : Int)) = true := decide_eq_true c6; clear c6; by_cases c7 : x8_2 < ((rd_L4 l0 x7_1).length : Int)
             (· rw [if_pos c7] at H; have c7b0 : decide (x8_2 < ((rd_L4 l0 x7_1).length : Int)) = true := decide_eq_true c7; clear c7; by_cases c8 : 0 ≤ x8_2; (· rw [if_pos c8] at H; have c8b0 : decide (0 ≤ x8_2) = true := decide_eq_true c8; clear c8; replace H := Option.bind_eq_some_iff.mp H; obtain ⟨t122, A90, H⟩ := H; replace H : (if t122 = true then (incunabletop_TopCodes.l1 k2 l0 l1 (wrap64 ((wrap64 (x5_1 + 1)) + ((rd_L4 l0 x7_1).length : Int))) x6_1 x7_1 (wrap64 (x8_2 + 1))) else ((incunablelaw03_Sane.f).bind fun t123 => (some t123))) = some r := H; have A9 := A' A90; clear A90; by_cases c10 : t122 = true; (· subst c10; (have H1 : (incunabletop_TopCodes.l1 k2 l0 l1 (wrap64 ((wrap64 (x5_1 + 1)) + ((rd_L4 l0 x7_1).length : Int))) x6_1 x7_1 (wrap64 (x8_2 + 1))) = some r := by rw [if_pos rfl] at H; exact H); clear H; have H := H1; clear H1; have H' := A' H; clear H; have p119 : 0 ≤ (x7_1 : Int) := of_decide_eq_true (by first | (with_reducible assumption) | assumption); have q119 : x7_1 < (l0.length : Int) := of_decide_eq_true (by first | (with_reducible assumption) | assumption); obtain ⟨ad119, A119_0, c119_0, e119, hx119_0, hl119_0, hi119_0⟩ := at_L4 HR0.out x7_1 p119 q119; obtain rfl : ad118 = ad119 := (by injection e119); replace hx119_0 := (HB.out.cell (World.block_lt_of_cell? w _ hx119_0)).trans hx119_0; have HR119_0 := A' hi119_0; have HC119_0 := A' hl119_0; clear hi119_0 hl119_0; replace p119 := eq_true p119; replace q119 := eq_true q119; have p120 : 0 ≤ (x7_1 : Int) := of_decide_eq_true (by first | (with_reducible assumption) | assumption); have q120 : x7_1 < (l0.length : Int) := of_decide_eq_true (by first | (with_reducible assumption) | assumption); obtain ⟨ad120, A120_0, c120_0, e120, hx120_0, hl120_0, hi120_0⟩ := at_L4 HR0.out x7_1 p120 q120; obtain rfl : ad118 = ad120 := (by injection e120); replace hx120_0 := (HB.out.cell (World.block_lt_of_cell? w _ hx120_0)).trans hx120_0; have HR120_0 := A' hi120_0; have HC120_0 := A' hl120_0; clear hi120_0 hl120_0; replace p120 := eq_true p120; replace q120 := eq_true q120; have ea_ := Option.some.inj (hx119_0.symm.trans hx120_0); injection ea_ with ea_ en_ ec_; subst ea_; subst ec_; clear en_; have p121 : 0 ≤ (x8_2 : Int) := of_decide_eq_true (by first | (with_reducible assumption) | assumption); have q121 : x8_2 < ((rd_L4 l0 x7_1).length : Int) := of_decide_eq_true (by first | (with_reducible assumption) | assumption); obtain ⟨ad121, e121, hx121_0, hx121_1⟩ := at_T28 HR120_0.out x8_2 p121 q121; cases e121; replace hx121_0 := (HB.out.cell (World.block_lt_of_cell? w _ hx121_0)).trans hx121_0; replace hx121_1 := (HB.out.cell (World.block_lt_of_cell? w _ hx121_1)).trans hx121_1; replace p121 := eq_true p121; replace q121 := eq_true q121; go_wp2_with (first | ((with_reducible refine gate_callee (f := 4) rfl ?_); refine goesL_ (some 55) rfl rfl Try.func4 (by kernel_rfl) rfl #[.agg #[.bool ((rd_T28 (rd_L4 l0 x7_1) x8_2).f0), .int .i64 ((rd_T28 (rd_L4 l0 x7_1) x8_2).f1)]] rfl (by (try simp only [List.map_toArray, List.map_cons, List.map_nil]); first | done | rfl | (simp only [List.length_drop, List.length_take]; rfl)) ?_; (with_reducible refine (incunableref03_Valid.calls ((rd_T28 (rd_L4 l0 x7_1) x8_2).f0) ((rd_T28 (rd_L4 l0 x7_1) x8_2).f1) true _ A9.out).mono ?_); rintro e w11 ⟨rfl, hb⟩; refine ⟨_, rfl, ?_⟩; have n0_ := A' (Kd.R_below (by (with_reducible repeat (first | apply Kd.R_alloc | apply Kd.R_drewN | apply Kd.R_drew)); exact HO_6.out) hb); have n1_ := A' (below_step (by repeat (first | (with_reducible first | exact HB.out | apply below_alloc | apply pw_below_drewN | apply below_drew1) | exact HB.out)) hb); clear HO_6; clear HB; have HO_6 := n0_; have HB := n1_; clear n0_ n1_; (try clear hb); (try clear hb2); (try clear hk); (try clear hi))); go_roundg k2; (case measure => have := HK1.out; have := HK2.out; omega); (case rel => exact ⟨(wrap64 (x8_2 + 1)), (by first | rfl | (simp; done) | (simp [*]; done)), H', ⟨by have := HK1.out; have := HK2.out; omega⟩, ⟨by (with_reducible repeat (first | apply Kd.R_alloc | apply Kd.R_drewN | apply Kd.R_drew)); exact HO_6.out⟩, ⟨by repeat (first | (with_reducible first | exact HB.out | apply below_alloc | apply pw_below_drewN | apply below_drew1) | exact HB.out)⟩⟩)); (· replace c10 := Bool.eq_false_iff.mpr c10; subst c10; (have H1 : ((incunablelaw03_Sane.f).bind fun t123 => (some t123)) = some r := by rw [if_neg (show ¬ (false = true) by decide)] at H; exact H); clear H; have H := H1; clear H1; replace H := Option.bind_eq_some_iff.mp H; obtain ⟨t123, A120, H⟩ := H; replace H : (some t123) = some r := H; have A12 := A' A120; clear A120; obtain rfl := Option.some.inj H; have p119 : 0 ≤ (x7_1 : Int) := of_decide_eq_true (by first | (with_reducible assumption) | assumption); have q119 : x7_1 < (l0.length : Int) := of_decide_eq_true (by first | (with_reducible assumption) | assumption); obtain ⟨ad119, A119_0, c119_0, e119, hx119_0, hl119_0, hi119_0⟩ := at_L4 HR0.out x7_1 p119 q119; obtain rfl : ad118 = ad119 := (by injection e119); replace hx119_0 := (HB.out.cell (World.block_lt_of_cell? w _ hx119_0)).trans hx119_0; have HR119_0 := A' hi119_0; have HC119_0 := A' hl119_0; clear hi119_0 hl119_0; replace p119 := eq_true p119; replace q119 := eq_true q119; have p120 : 0 ≤ (x7_1 : Int) := of_decide_eq_true (by first | (with_reducible assumption) | assumption); have q120 : x7_1 < (l0.length : Int) := of_decide_eq_true (by first | (with_reducible assumption) | assumption); obtain ⟨ad120, A120_0, c120_0, e120, hx120_0, hl120_0, hi120_0⟩ := at_L4 HR0.out x7_1 p120 q120; obtain rfl : ad118 = ad120 := (by injection e120); replace hx120_0 := (HB.out.cell (World.block_lt_of_cell? w _ hx120_0)).trans hx120_0; have HR120_0 := A' hi120_0; have HC120_0 := A' hl120_0; clear hi120_0 hl120_0; replace p120 := eq_true p120; replace q120 := eq_true q120; have ea_ := Option.some.inj (hx119_0.symm.trans hx120_0); injection ea_ with ea_ en_ ec_; subst ea_; subst ec_; clear en_; have p121 : 0 ≤ (x8_2 : Int) := of_decide_eq_true (by first | (with_reducible assumption) | assumption); have q121 : x8_2 < ((rd_L4 l0 x7_1).length : Int) := of_decide_eq_true (by first | (with_reducible assumption) | assumption); obtain ⟨ad121, e121, hx121_0, hx121_1⟩ := at_T28 HR120_0.out x8_2 p121 q121; cases e121; replace hx121_0 := (HB.out.cell (World.block_lt_of_cell? w _ hx121_0)).trans hx121_0; replace hx121_1 := (HB.out.cell (World.block_lt_of_cell? w _ hx121_1)).trans hx121_1; replace p121 := eq_true p121; replace q121 := eq_true q121; go_wp2_with (first | ((with_reducible refine gate_callee (f := 4) rfl ?_); refine goesL_ (some 55) rfl rfl Try.func4 (by kernel_rfl) rfl #[.agg #[.bool ((rd_T28 (rd_L4 l0 x7_1) x8_2).f0), .int .i64 ((rd_T28 (rd_L4 l0 x7_1) x8_2).f1)]] rfl (by (try simp only [List.map_toArray, List.map_cons, List.map_nil]); first | done | rfl | (simp only [List.length_drop, List.length_take]; rfl)) ?_; (with_reducible refine (incunableref03_Valid.calls ((rd_T28 (rd_L4 l0 x7_1) x8_2).f0) ((rd_T28 (rd_L4 l0 x7_1) x8_2).f1) false _ A9.out).mono ?_); rintro e w13 ⟨rfl, hb⟩; refine ⟨_, rfl, ?_⟩; have n0_ := A' (Kd.R_below (by (with_reducible repeat (first | apply Kd.R_alloc | apply Kd.R_drewN | apply Kd.R_drew)); exact HO_6.out) hb); have n1_ := A' (below_step (by repeat (first | (with_reducible first | exact HB.out | apply below_alloc | apply pw_below_drewN | apply below_drew1) | exact HB.out)) hb); clear HO_6; clear HB; have HO_6 := n0_; have HB := n1_; clear n0_ n1_; (try clear hb); (try clear hb2); (try clear hk); (try clear hi)) | ((with_reducible refine gate_callee (f := 5) rfl ?_); refine goesL_ (some 57) rfl rfl Try.func5 (by kernel_rfl) rfl #[] rfl (by (try simp only [List.map_toArray, List.map_cons, List.map_nil]); first | done | rfl | (simp only [List.length_drop, List.length_take]; rfl)) ?_; (with_reducible refine (incunablelaw03_Sane.calls  t123 _ A12.out).mono ?_); rintro e w14 ⟨rfl, hb⟩; refine ⟨_, rfl, ?_⟩; have n0_ := A' (Kd.R_below (by (with_reducible repeat (first | apply Kd.R_alloc | apply Kd.R_drewN | apply Kd.R_drew)); exact HO_6.out) hb); have n1_ := A' (below_step (by repeat (first | (with_reducible first | exact HB.out | apply below_alloc | apply pw_below_drewN | apply below_drew1) | exact HB.out)) hb); clear HO_6; clear HB; have HO_6 := n0_; have HB := n1_; clear n0_ n1_; (try clear hb); (try clear hb2); (try clear hk); (try clear hi))); go_ret; (exact ⟨by first | rfl | (simp [errW_none, errW_some] <;> rfl) | (simp [*, errW_none, errW_some] <;> rfl), by repeat (first | (with_reducible first | exact HB.out | apply below_alloc | apply pw_below_drewN | apply below_drew1) | exact HB.out)⟩))); (· rw [if_neg c8] at H; exact absurd H (by simp)))
             · rw [if_neg c7] at H
               have c7b0 : decide (x8_2 < ((rd_L4 l0 x7_1).length : Int)) = false := decide_eq_false c7; clear c7; by_cases c15 : (wrap64 ((wrap64 (x5_1 + 1)) + ((rd_L4 l0 x7_1).length : Int))) > 300
               (· rw [if_pos c15] at H; have c15b0 : decide (300 < (wrap64 ((wrap64 (x5_1 + 1)) + ((rd_L4 l0 x7_1).length : Int)))) = true := decide_eq_true c15; clear c15; replace H := Option.bind_eq_some_iff.mp H; obtain ⟨t124, A160, H⟩ := H; replace H : (some t124) = some r := H; have A16 := A' A160; clear A160; obtain rfl := Option.some.inj H; have p119 : 0 ≤ (x7_1 : Int) := of_decide_eq_true (by first | (with_reducible assumption) | assumption); have q119 : x7_1 < (l0.length : Int) := of_decide_eq_true (by first | (with_reducible assumption) | assumption); obtain ⟨ad119, A119_0, c119_0, e119, hx119_0, hl119_0, hi119_0⟩ := at_L4 HR0.out x7_1 p119 q119; obtain rfl : ad118 = ad119 := (by injection e119); replace hx119_0 := (HB.out.cell (World.block_lt_of_cell? w _ hx119_0)).trans hx119_0; have HR119_0 := A' hi119_0; have HC119_0 := A' hl119_0; clear hi119_0 hl119_0; replace p119 := eq_true p119; replace q119 := eq_true q119; go_wp2_with (first | ((with_reducible refine gate_callee (f := 5) rfl ?_); refine goesL_ (some 60) rfl rfl Try.func5 (by kernel_rfl) rfl #[] rfl (by (try simp only [List.map_toArray, List.map_cons, List.map_nil]); first | done | rfl | (simp only [List.length_drop, List.length_take]; rfl)) ?_; (with_reducible refine (incunablelaw03_Sane.calls  t124 _ A16.out).mono ?_); rintro e w17 ⟨rfl, hb⟩; refine ⟨_, rfl, ?_⟩; have n0_ := A' (Kd.R_below (by (with_reducible repeat (first | apply Kd.R_alloc | apply Kd.R_drewN | apply Kd.R_drew)); exact HO_6.out) hb); have n1_ := A' (below_step (by repeat (first | (with_reducible first | exact HB.out | apply below_alloc | apply pw_below_drewN | apply below_drew1) | exact HB.out)) hb); clear HO_6; clear HB; have HO_6 := n0_; have HB := n1_; clear n0_ n1_; (try clear hb); (try clear hb2); (try clear hk); (try clear hi))); go_ret; (exact ⟨by first | rfl | (simp [errW_none, errW_some] <;> rfl) | (simp [*, errW_none, errW_some] <;> rfl), by repeat (first | (with_reducible first | exact HB.out | apply below_alloc | apply pw_below_drewN | apply below_drew1) | exact HB.out)⟩))
               · rw [if_neg c15] at H
                 have c15b0 : decide (300 < (wrap64 ((wrap64 (x5_1 + 1)) + ((rd_L4 l0 x7_1).length : Int)))) = false := decide_eq_false c15; clear c15; have HC18 := A' H; clear H; have p119 : 0 ≤ (x7_1 : Int) := of_decide_eq_true (by first | (with_reducible assumption) | assumption); have q119 : x7_1 < (l0.length : Int) := of_decide_eq_true (by first | (with_reducible assumption) | assumption); obtain ⟨ad119, A119_0, c119_0, e119, hx119_0, hl119_0, hi119_0⟩ := at_L4 HR0.out x7_1 p119 q119; obtain rfl : ad118 = ad119 := (by injection e119); replace hx119_0 := (HB.out.cell (World.block_lt_of_cell? w _ hx119_0)).trans hx119_0; have HR119_0 := A' hi119_0; have HC119_0 := A' hl119_0; clear hi119_0 hl119_0; replace p119 := eq_true p119; replace q119 := eq_true q119; go_upto_if 64 with (fail); go_cut [9] (fun v9 wc => ∃ (kq : Nat) (x9_17 : Int), v9 = .int .i64 x9_17 ∧ Aside0 (incunabletop_TopCodes.j2 kq l0 l1 (wrap64 ((wrap64 (x5_1 + 1)) + ((rd_L4 l0 x7_1).length : Int))) x6_1 x7_1 x9_17 = some r) ∧ Aside0 (kq ≤ k2) ∧ Aside0 (Kd.R (Kd.int .u8) 5 wc w.heap.size (fun _ => True) u6 x6_1) ∧ Aside0 (Below w.heap.size w wc))
                 (case first => have H := HC18.out; clear HC18; by_cases c19 : x7_1 < (l1.length : Int); (· rw [if_pos c19] at H; have c19b0 : decide (x7_1 < (l1.length : Int)) = true := decide_eq_true c19; clear c19; (first | rw [c19b0] | (simp only [i64_w, i32_w]; rw [c19b0]) | skip); have H' := A' H; clear H; have p125 : 0 ≤ (x7_1 : Int) := of_decide_eq_true (by first | (with_reducible assumption) | assumption); have q125 : x7_1 < (l1.length : Int) := of_decide_eq_true (by first | (with_reducible assumption) | assumption); obtain ⟨ad125, e125, hx125_0⟩ := Kd.at_int HR1.out x7_1 p125 q125; cases e125; replace hx125_0 := (HB.out.cell (World.block_lt_of_cell? w _ hx125_0)).trans hx125_0; replace p125 := eq_true p125; replace q125 := eq_true q125; go_wp2; go_meet; (case rel => exact ⟨_, (Int.tmod (wrap64 ((Int.tmod (rd l1 x7_1) 2) + 2)) 2), (by first | rfl | (simp; done) | (simp [*]; done)), H', ⟨by have := HK1.out; have := HK2.out; first | omega | exact Nat.le_refl _⟩, ⟨by (with_reducible repeat (first | apply Kd.R_alloc | apply Kd.R_drewN | apply Kd.R_drew)); exact HO_6.out⟩, ⟨by repeat (first | (with_reducible first | exact HB.out | apply below_alloc | apply pw_below_drewN | apply below_drew1) | exact HB.out)⟩⟩)); (· rw [if_neg c19] at H; have c19b0 : decide (x7_1 < (l1.length : Int)) = false := decide_eq_false c19; clear c19; (first | rw [c19b0] | (simp only [i64_w, i32_w]; rw [c19b0]) | skip); have H' := A' H; clear H; go_wp2; go_meet; (case rel => exact ⟨_, (0), (by first | rfl | (simp; done) | (simp [*]; done)), H', ⟨by have := HK1.out; have := HK2.out; first | omega | exact Nat.le_refl _⟩, ⟨by (with_reducible repeat (first | apply Kd.R_alloc | apply Kd.R_drewN | apply Kd.R_drew)); exact HO_6.out⟩, ⟨by repeat (first | (with_reducible first | exact HB.out | apply below_alloc | apply pw_below_drewN | apply below_drew1) | exact HB.out)⟩⟩)))
                 case rest =>
                  clear HC18; (try clear c1); (try clear p1); (try clear q1); (try clear hx1); (try clear p2); (try clear c3); (try clear c3b0); (try clear c4); (try clear c4b0); (try clear c5); (try clear c5b0); (try clear c6); (try clear c6b0); (try clear p6); (try clear c7); (try clear c7b0); (try clear c8); (try clear c8b0); (try clear c10); (try clear c11); (try clear p11); (try clear q11); (try clear hx11); (try clear c12); (try clear p12); (try clear q12); (try clear hx12); (try clear c15); (try clear c15b0); (try clear c19); (try clear c19b0); (try clear hx118_0); (try clear hx119_0); (try clear hx120_0); (try clear hx121_0); (try clear hx121_1); (try clear hx125_0); (try clear p1); (try clear p118); (try clear p119); (try clear p120); (try clear p121); (try clear p125); (try clear p2); (try clear q1); (try clear q118); (try clear q119); (try clear q120); (try clear q121); (try clear q125); obtain ⟨kq, x9_17, rfl, HA, HJ17, HO_6, HB⟩ := hcut
                  cases kq with
                  | zero => exact absurd HA.out (by simp [incunabletop_TopCodes.j2])
                  | succ kj17 =>
                   have H := HA.out; clear HA; simp only [incunabletop_TopCodes.j2] at H; by_cases c20 : 0 ≤ x7_1
                   (· rw [if_pos c20] at H; have c20b0 : decide (0 ≤ x7_1) = true := decide_eq_true c20; clear c20; by_cases c21 : x7_1 < (l0.length : Int); (· rw [if_pos c21] at H; have c21b0 : decide (x7_1 < (l0.length : Int)) = true := decide_eq_true c21; clear c21; replace H := Option.bind_eq_some_iff.mp H; obtain ⟨⟨t127, t128⟩, A220, H⟩ := H; replace H : ((bits_Size.f kj17 (t127.length : Int)).bind fun bt131 => (if t128 = 0 then (if bt131.2 = 0 then (if x6_1.length + bt131.1.length < 140737488355328 then ((some (x6_1 ++ bt131.1 : List Int)).bind fun y135 => (if y135.length + t127.length < 140737488355328 then (incunabletop_TopCodes.l0 kj17 l0 l1 (wrap64 ((wrap64 (x5_1 + 1)) + ((rd_L4 l0 x7_1).length : Int))) (y135 ++ t127) (wrap64 (x7_1 + 1))) else (none))) else (none)) else (some false)) else (some false))) = some r := H; have A22 := A' A220; clear A220; replace H := Option.bind_eq_some_iff.mp H; obtain ⟨⟨t131, t132⟩, A230, H⟩ := H; replace H : (if t128 = 0 then (if t132 = 0 then (if x6_1.length + t131.length < 140737488355328 then ((some (x6_1 ++ t131 : List Int)).bind fun y135 => (if y135.length + t127.length < 140737488355328 then (incunabletop_TopCodes.l0 kj17 l0 l1 (wrap64 ((wrap64 (x5_1 + 1)) + ((rd_L4 l0 x7_1).length : Int))) (y135 ++ t127) (wrap64 (x7_1 + 1))) else (none))) else (none)) else (some false)) else (some false)) = some r := H; have A23 := A' A230; clear A230; by_cases c24 : t128 = 0; (· rw [if_pos c24] at H; have c24b0 : (t128 == 0) = true := beq_iff_eq.mpr c24; have c24b1 : (t128 != 0) = false := bne_eq_false_iff_eq.mpr c24; clear c24; by_cases c25 : t132 = 0; (· rw [if_pos c25] at H; have c25b0 : (t132 == 0) = true := beq_iff_eq.mpr c25; have c25b1 : (t132 != 0) = false := bne_eq_false_iff_eq.mpr c25; clear c25; by_cases c26 : x6_1.length + t131.length < 140737488355328; (· rw [if_pos c26] at H; have LMc26 := A' c26; clear c26; obtain ⟨y135, hy135⟩ : ∃ y_ : List Int, y_ = (x6_1 ++ t131) := ⟨_, rfl⟩; (replace H : (if y135.length + t127.length < 140737488355328 then (incunabletop_TopCodes.l0 kj17 l0 l1 (wrap64 ((wrap64 (x5_1 + 1)) + ((rd_L4 l0 x7_1).length : Int))) (y135 ++ t127) (wrap64 (x7_1 + 1))) else (none)) = some r := by first | (rw [hy135]; with_reducible exact H) | (have H2_ := (Option.bind_some _ _).symm.trans H; rw [hy135]; with_reducible exact H2_) | (have H2_ := (Option.bind_some _ _).symm.trans H; with_reducible exact H2_) | with_reducible exact H | (rw [hy135]; exact H) | exact H); have Ny135 := A' hy135; clear hy135; by_cases c27 : y135.length + t127.length < 140737488355328; (· rw [if_pos c27] at H; have LMc27 := A' c27; clear c27; obtain ⟨y138, hy138⟩ : ∃ y_ : List Int, y_ = (y135 ++ t127) := ⟨_, rfl⟩; (replace H : (incunabletop_TopCodes.l0 kj17 l0 l1 (wrap64 ((wrap64 (x5_1 + 1)) + ((rd_L4 l0 x7_1).length : Int))) y138 (wrap64 (x7_1 + 1))) = some r := by first | (rw [hy138]; with_reducible exact H) | (have H2_ := (Option.bind_some _ _).symm.trans H; rw [hy138]; with_reducible exact H2_) | (have H2_ := (Option.bind_some _ _).symm.trans H; with_reducible exact H2_) | with_reducible exact H | (rw [hy138]; exact H) | exact H); have Ny138 := A' hy138; clear hy138; have H' := A' H; clear H; have p126 : 0 ≤ (x7_1 : Int) := of_decide_eq_true (by first | (with_reducible assumption) | assumption); have q126 : x7_1 < (l0.length : Int) := of_decide_eq_true (by first | (with_reducible assumption) | assumption); obtain ⟨ad126, A126_0, c126_0, e126, hx126_0, hl126_0, hi126_0⟩ := at_L4 HR0.out x7_1 p126 q126; obtain rfl : ad118 = ad126 := (by injection e126); replace hx126_0 := (HB.out.cell (World.block_lt_of_cell? w _ hx126_0)).trans hx126_0; have HR126_0 := A' hi126_0; have HC126_0 := A' hl126_0; clear hi126_0 hl126_0; replace p126 := eq_true p126; replace q126 := eq_true q126; go_wp2_with (first | ((with_reducible refine gate_callee (f := 6) rfl ?_); refine goesL_ (some 78) rfl rfl Try.func6 (by kernel_rfl) rfl #[.int .i64 x9_17, .slice A126_0 (rd_L4 l0 x7_1).length c126_0] rfl (by (try simp only [List.map_toArray, List.map_cons, List.map_nil]); first | done | rfl | (simp only [List.length_drop, List.length_take]; rfl)) ?_; (with_reducible refine (number_Encode.calls x9_17 _ _ (rd_L4 l0 x7_1) t127 t128 _ ?side1 ?side2 A22.out).mono ?_); (case side1 => repeat (first | exact (Kd.C_below HR126_0.out HB.out) | (with_reducible refine Kd.C_alloc ?_ _) | (with_reducible refine Kd.C_drewN ?_ _) | (with_reducible refine Kd.C_drew ?_))); (case side2 => exact HC126_0.out); rintro e w28 ⟨v129, rfl, ho0, hb⟩; refine ⟨_, rfl, ?_⟩; have n0_ := A' (Kd.R_elder' (by (with_reducible repeat (first | apply Kd.R_alloc | apply Kd.R_drewN | apply Kd.R_drew)); exact HO_6.out) (Kd.R_base ho0) hb); have n1_ := A' (Kd.R_lower (Kd.R_new' ho0 (Kd.R_lt (by (with_reducible repeat (first | apply Kd.R_alloc | apply Kd.R_drewN | apply Kd.R_drew)); exact HO_6.out))) (below_size (by repeat (first | (with_reducible first | exact HB.out | apply below_alloc | apply pw_below_drewN | apply below_drew1) | exact HB.out)))); have n2_ := A' (below_step (by repeat (first | (with_reducible first | exact HB.out | apply below_alloc | apply pw_below_drewN | apply below_drew1) | exact HB.out)) hb); clear HO_6; clear HB; have HO_6 := n0_; have HO130 := n1_; have HB := n2_; clear n0_ n1_ n2_; (try clear hb); (try clear hb2); (try clear hk); (try clear hi); (try clear ho0); obtain ⟨Ao29, co29, eo29⟩ := Kd.R_slice HO130.out; subst eo29) | ((with_reducible refine gate_callee (f := 7) rfl ?_); refine goesL_ (some 84) rfl rfl Try.func7 (by kernel_rfl) rfl #[.int .i64 (t127.length : Int)] rfl (by (try simp only [List.map_toArray, List.map_cons, List.map_nil]); first | done | rfl | (simp only [List.length_drop, List.length_take]; rfl)) ?_; (with_reducible refine (bits_Size.calls kj17 (t127.length : Int) t131 t132 _ A23.out).mono ?_); rintro e w30 ⟨v133, rfl, ho0, hb⟩; refine ⟨_, rfl, ?_⟩; have n0_ := A' (Kd.R_elder' (by (with_reducible repeat (first | apply Kd.R_alloc | apply Kd.R_drewN | apply Kd.R_drew)); exact HO_6.out) (Kd.R_base ho0) hb); have n1_ := A' (Kd.R_elder' (by (with_reducible repeat (first | apply Kd.R_alloc | apply Kd.R_drewN | apply Kd.R_drew)); exact HO130.out) (Kd.R_base ho0) hb); have n2_ := A' (Kd.R_lower (Kd.R_new' (Kd.R_new' ho0 (Kd.R_lt (by (with_reducible repeat (first | apply Kd.R_alloc | apply Kd.R_drewN | apply Kd.R_drew)); exact HO_6.out))) (Kd.R_lt (by (with_reducible repeat (first | apply Kd.R_alloc | apply Kd.R_drewN | apply Kd.R_drew)); exact HO130.out))) (below_size (by repeat (first | (with_reducible first | exact HB.out | apply below_alloc | apply pw_below_drewN | apply below_drew1) | exact HB.out)))); have n3_ := A' (below_step (by repeat (first | (with_reducible first | exact HB.out | apply below_alloc | apply pw_below_drewN | apply below_drew1) | exact HB.out)) hb); clear HO_6; clear HO130; clear HB; have HO_6 := n0_; have HO130 := n1_; have HO134 := n2_; have HB := n3_; clear n0_ n1_ n2_ n3_; (try clear hb); (try clear hb2); (try clear hk); (try clear hi); (try clear ho0); obtain ⟨Ao32, co32, eo32⟩ := Kd.R_slice HO134.out; subst eo32) | ((with_reducible refine gate_builtin (b := .append) (xs := #[.tmp 93, .tmp 94]) rfl ?_); (try (refine gate_guard (by rfl) ?_; dsimp only)); at_builtin; refine Kd.R_append_rows (Kd.int .u8) (w0 := w) w.heap.size rfl (.tmp 93) (.tmp 94) 24 5 (.int .u8 0) 1 rfl Try.underlying24 info5 rfl (by decide) (by omega) u6 x6_1 t131 _ _ _ (fun k_ => some k_ ≠ (.slice Ao29 t127.length co29 : Value).ownBlock ∧ some k_ ≠ (.slice Ao32 t131.length co32 : Value).ownBlock) (fun _ => False) rfl rfl ?aO ?aR (fun _ _ h => h) (fun _ h => h.elim) ?aF ?aB ?aS ?aL ?_; (case aR => repeat (first | exact (Kd.R_reads' HO134.out).2.2 | (with_reducible refine Kd.C_alloc ?_ _) | (with_reducible refine Kd.C_drewN ?_ _) | (with_reducible refine Kd.C_drew ?_))); (case aB => exact (by repeat (first | (with_reducible first | exact HB.out | apply below_alloc | apply pw_below_drewN | apply below_drew1) | exact HB.out))); (case aF => exact (fun k_ hk => ⟨Kd.fresh' (Kd.R_lt (by (with_reducible repeat (first | apply Kd.R_alloc | apply Kd.R_drewN | apply Kd.R_drew)); exact HO130.out)) k_ hk, Kd.fresh' (Kd.R_lt (by (with_reducible repeat (first | apply Kd.R_alloc | apply Kd.R_drewN | apply Kd.R_drew)); exact HO134.out)) k_ hk⟩)); (case aO => exact (by (with_reducible repeat (first | apply Kd.R_alloc | apply Kd.R_drewN | apply Kd.R_drew)); exact Kd.R_mono HO_6.out (fun _ hk => ⟨hk.1.2, hk.2⟩))); (case aS => exact (below_size (by repeat (first | (with_reducible first | exact HB.out | apply below_alloc | apply pw_below_drewN | apply below_drew1) | exact HB.out)))); (case aL => have := LMc26.out; omega); intro v136 w31 ho hb hg hat; rw [← Ny135.out] at ho; have n0_ := A' (Kd.R_after (ok := (fun k_ => some k_ ≠ (.slice Ao32 t131.length co32 : Value).ownBlock)) (by (with_reducible repeat (first | apply Kd.R_alloc | apply Kd.R_drewN | apply Kd.R_drew)); exact Kd.R_mono HO130.out (fun _ hk => ⟨hk.2, hk.1.2⟩)) hg hat); have n1_ := A' (Kd.R_after (ok := (fun k_ => some k_ ≠ (.slice Ao29 t127.length co29 : Value).ownBlock)) (by (with_reducible repeat (first | apply Kd.R_alloc | apply Kd.R_drewN | apply Kd.R_drew)); exact Kd.R_mono HO134.out (fun _ hk => ⟨hk.2, hk.1.2⟩)) hg hat); have n2_ := A' (hb); have n3_ := A' (ho); clear HO130; clear HO134; clear HB; clear HO_6; have HO130 := n0_; have HO134 := n1_; have HB := n2_; have HO137 := n3_; clear n0_ n1_ n2_ n3_; clear ho hb hg hat) | ((with_reducible refine gate_builtin (b := .append) (xs := #[.tmp 95, .tmp 96]) rfl ?_); (try (refine gate_guard (by rfl) ?_; dsimp only)); at_builtin; refine Kd.R_append_rows (Kd.int .u8) (w0 := w) w.heap.size rfl (.tmp 95) (.tmp 96) 24 5 (.int .u8 0) 1 rfl Try.underlying24 info5 rfl (by decide) (by omega) v136 y135 t127 _ _ _ (fun k_ => some k_ ≠ (.slice Ao29 t127.length co29 : Value).ownBlock ∧ some k_ ≠ (.slice Ao32 t131.length co32 : Value).ownBlock) (fun _ => False) rfl rfl ?aO ?aR (fun _ _ h => h) (fun _ h => h.elim) ?aF ?aB ?aS ?aL ?_; (case aR => repeat (first | exact (Kd.R_reads' HO130.out).2.2 | (with_reducible refine Kd.C_alloc ?_ _) | (with_reducible refine Kd.C_drewN ?_ _) | (with_reducible refine Kd.C_drew ?_))); (case aB => exact (by repeat (first | (with_reducible first | exact HB.out | apply below_alloc | apply pw_below_drewN | apply below_drew1) | exact HB.out))); (case aF => exact (fun k_ hk => ⟨Kd.fresh' (Kd.R_lt (by (with_reducible repeat (first | apply Kd.R_alloc | apply Kd.R_drewN | apply Kd.R_drew)); exact HO130.out)) k_ hk, Kd.fresh' (Kd.R_lt (by (with_reducible repeat (first | apply Kd.R_alloc | apply Kd.R_drewN | apply Kd.R_drew)); exact HO134.out)) k_ hk⟩)); (case aO => exact (by (with_reducible repeat (first | apply Kd.R_alloc | apply Kd.R_drewN | apply Kd.R_drew)); exact HO137.out)); (case aS => exact (below_size (by repeat (first | (with_reducible first | exact HB.out | apply below_alloc | apply pw_below_drewN | apply below_drew1) | exact HB.out)))); (case aL => have := LMc27.out; omega); intro v139 w33 ho hb hg hat; rw [← Ny138.out] at ho; have n0_ := A' (Kd.R_after (ok := (fun k_ => some k_ ≠ (.slice Ao32 t131.length co32 : Value).ownBlock)) (by (with_reducible repeat (first | apply Kd.R_alloc | apply Kd.R_drewN | apply Kd.R_drew)); exact HO130.out) hg hat); have n1_ := A' (Kd.R_after (ok := (fun k_ => some k_ ≠ (.slice Ao29 t127.length co29 : Value).ownBlock)) (by (with_reducible repeat (first | apply Kd.R_alloc | apply Kd.R_drewN | apply Kd.R_drew)); exact HO134.out) hg hat); have n2_ := A' (hb); have n3_ := A' (ho); clear HO130; clear HO134; clear HB; clear HO137; have HO130 := n0_; have HO134 := n1_; have HB := n2_; have HO140 := n3_; clear n0_ n1_ n2_ n3_; clear ho hb hg hat)); go_roundg kj17; (case measure => have := HK1.out; have := HK2.out; have := HJ17.out; omega); (case rel => exact ⟨((wrap64 ((wrap64 (x5_1 + 1)) + ((rd_L4 l0 x7_1).length : Int)))), (y138), (wrap64 (x7_1 + 1)), (by first | rfl | (simp; done) | (simp [*]; done)), (by first | rfl | (simp; done) | (simp [*]; done)), H', ⟨by have := HK1.out; have := HK2.out; have := HJ17.out; omega⟩, ⟨by (with_reducible repeat (first | apply Kd.R_alloc | apply Kd.R_drewN | apply Kd.R_drew)); exact Kd.R_mono HO140.out (fun _ hk => trivial)⟩, ⟨by repeat (first | (with_reducible first | exact HB.out | apply below_alloc | apply pw_below_drewN | apply below_drew1) | exact HB.out)⟩⟩)); (· rw [if_neg c27] at H; exact absurd H (by simp))); (· rw [if_neg c26] at H; exact absurd H (by simp))); (· rw [if_neg c25] at H; have c25b0 : (t132 == 0) = false := beq_eq_false_iff_ne.mpr c25; have c25b1 : (t132 != 0) = true := bne_iff_ne.mpr c25; obtain rfl := Option.some.inj H; have p126 : 0 ≤ (x7_1 : Int) := of_decide_eq_true (by first | (with_reducible assumption) | assumption); have q126 : x7_1 < (l0.length : Int) := of_decide_eq_true (by first | (with_reducible assumption) | assumption); obtain ⟨ad126, A126_0, c126_0, e126, hx126_0, hl126_0, hi126_0⟩ := at_L4 HR0.out x7_1 p126 q126; obtain rfl : ad118 = ad126 := (by injection e126); replace hx126_0 := (HB.out.cell (World.block_lt_of_cell? w _ hx126_0)).trans hx126_0; have HR126_0 := A' hi126_0; have HC126_0 := A' hl126_0; clear hi126_0 hl126_0; replace p126 := eq_true p126; replace q126 := eq_true q126; go_wp2_with (first | ((with_reducible refine gate_callee (f := 6) rfl ?_); refine goesL_ (some 78) rfl rfl Try.func6 (by kernel_rfl) rfl #[.int .i64 x9_17, .slice A126_0 (rd_L4 l0 x7_1).length c126_0] rfl (by (try simp only [List.map_toArray, List.map_cons, List.map_nil]); first | done | rfl | (simp only [List.length_drop, List.length_take]; rfl)) ?_; (with_reducible refine (number_Encode.calls x9_17 _ _ (rd_L4 l0 x7_1) t127 t128 _ ?side1 ?side2 A22.out).mono ?_); (case side1 => repeat (first | exact (Kd.C_below HR126_0.out HB.out) | (with_reducible refine Kd.C_alloc ?_ _) | (with_reducible refine Kd.C_drewN ?_ _) | (with_reducible refine Kd.C_drew ?_))); (case side2 => exact HC126_0.out); rintro e w34 ⟨v129, rfl, ho0, hb⟩; refine ⟨_, rfl, ?_⟩; have n0_ := A' (Kd.R_elder' (by (with_reducible repeat (first | apply Kd.R_alloc | apply Kd.R_drewN | apply Kd.R_drew)); exact HO_6.out) (Kd.R_base ho0) hb); have n1_ := A' (Kd.R_lower (Kd.R_new' ho0 (Kd.R_lt (by (with_reducible repeat (first | apply Kd.R_alloc | apply Kd.R_drewN | apply Kd.R_drew)); exact HO_6.out))) (below_size (by repeat (first | (with_reducible first | exact HB.out | apply below_alloc | apply pw_below_drewN | apply below_drew1) | exact HB.out)))); have n2_ := A' (below_step (by repeat (first | (with_reducible first | exact HB.out | apply below_alloc | apply pw_below_drewN | apply below_drew1) | exact HB.out)) hb); clear HO_6; clear HB; have HO_6 := n0_; have HO130 := n1_; have HB := n2_; clear n0_ n1_ n2_; (try clear hb); (try clear hb2); (try clear hk); (try clear hi); (try clear ho0); obtain ⟨Ao35, co35, eo35⟩ := Kd.R_slice HO130.out; subst eo35) | ((with_reducible refine gate_callee (f := 7) rfl ?_); refine goesL_ (some 84) rfl rfl Try.func7 (by kernel_rfl) rfl #[.int .i64 (t127.length : Int)] rfl (by (try simp only [List.map_toArray, List.map_cons, List.map_nil]); first | done | rfl | (simp only [List.length_drop, List.length_take]; rfl)) ?_; (with_reducible refine (bits_Size.calls kj17 (t127.length : Int) t131 t132 _ A23.out).mono ?_); rintro e w36 ⟨v133, rfl, ho0, hb⟩; refine ⟨_, rfl, ?_⟩; have n0_ := A' (Kd.R_elder' (by (with_reducible repeat (first | apply Kd.R_alloc | apply Kd.R_drewN | apply Kd.R_drew)); exact HO_6.out) (Kd.R_base ho0) hb); have n1_ := A' (Kd.R_elder' (by (with_reducible repeat (first | apply Kd.R_alloc | apply Kd.R_drewN | apply Kd.R_drew)); exact HO130.out) (Kd.R_base ho0) hb); have n2_ := A' (Kd.R_lower (Kd.R_new' (Kd.R_new' ho0 (Kd.R_lt (by (with_reducible repeat (first | apply Kd.R_alloc | apply Kd.R_drewN | apply Kd.R_drew)); exact HO_6.out))) (Kd.R_lt (by (with_reducible repeat (first | apply Kd.R_alloc | apply Kd.R_drewN | apply Kd.R_drew)); exact HO130.out))) (below_size (by repeat (first | (with_reducible first | exact HB.out | apply below_alloc | apply pw_below_drewN | apply below_drew1) | exact HB.out)))); have n3_ := A' (below_step (by repeat (first | (with_reducible first | exact HB.out | apply below_alloc | apply pw_below_drewN | apply below_drew1) | exact HB.out)) hb); clear HO_6; clear HO130; clear HB; have HO_6 := n0_; have HO130 := n1_; have HO134 := n2_; have HB := n3_; clear n0_ n1_ n2_ n3_; (try clear hb); (try clear hb2); (try clear hk); (try clear hi); (try clear ho0))); go_ret; (exact ⟨by first | rfl | (simp [errW_none, errW_some] <;> rfl) | (simp [*, errW_none, errW_some] <;> rfl), by repeat (first | (with_reducible first | exact HB.out | apply below_alloc | apply pw_below_drewN | apply below_drew1) | exact HB.out)⟩))); (· rw [if_neg c24] at H; have c24b0 : (t128 == 0) = false := beq_eq_false_iff_ne.mpr c24; have c24b1 : (t128 != 0) = true := bne_iff_ne.mpr c24; obtain rfl := Option.some.inj H; have p126 : 0 ≤ (x7_1 : Int) := of_decide_eq_true (by first | (with_reducible assumption) | assumption); have q126 : x7_1 < (l0.length : Int) := of_decide_eq_true (by first | (with_reducible assumption) | assumption); obtain ⟨ad126, A126_0, c126_0, e126, hx126_0, hl126_0, hi126_0⟩ := at_L4 HR0.out x7_1 p126 q126; obtain rfl : ad118 = ad126 := (by injection e126); replace hx126_0 := (HB.out.cell (World.block_lt_of_cell? w _ hx126_0)).trans hx126_0; have HR126_0 := A' hi126_0; have HC126_0 := A' hl126_0; clear hi126_0 hl126_0; replace p126 := eq_true p126; replace q126 := eq_true q126; go_wp2_with (first | ((with_reducible refine gate_callee (f := 6) rfl ?_); refine goesL_ (some 78) rfl rfl Try.func6 (by kernel_rfl) rfl #[.int .i64 x9_17, .slice A126_0 (rd_L4 l0 x7_1).length c126_0] rfl (by (try simp only [List.map_toArray, List.map_cons, List.map_nil]); first | done | rfl | (simp only [List.length_drop, List.length_take]; rfl)) ?_; (with_reducible refine (number_Encode.calls x9_17 _ _ (rd_L4 l0 x7_1) t127 t128 _ ?side1 ?side2 A22.out).mono ?_); (case side1 => repeat (first | exact (Kd.C_below HR126_0.out HB.out) | (with_reducible refine Kd.C_alloc ?_ _) | (with_reducible refine Kd.C_drewN ?_ _) | (with_reducible refine Kd.C_drew ?_))); (case side2 => exact HC126_0.out); rintro e w37 ⟨v129, rfl, ho0, hb⟩; refine ⟨_, rfl, ?_⟩; have n0_ := A' (Kd.R_elder' (by (with_reducible repeat (first | apply Kd.R_alloc | apply Kd.R_drewN | apply Kd.R_drew)); exact HO_6.out) (Kd.R_base ho0) hb); have n1_ := A' (Kd.R_lower (Kd.R_new' ho0 (Kd.R_lt (by (with_reducible repeat (first | apply Kd.R_alloc | apply Kd.R_drewN | apply Kd.R_drew)); exact HO_6.out))) (below_size (by repeat (first | (with_reducible first | exact HB.out | apply below_alloc | apply pw_below_drewN | apply below_drew1) | exact HB.out)))); have n2_ := A' (below_step (by repeat (first | (with_reducible first | exact HB.out | apply below_alloc | apply pw_below_drewN | apply below_drew1) | exact HB.out)) hb); clear HO_6; clear HB; have HO_6 := n0_; have HO130 := n1_; have HB := n2_; clear n0_ n1_ n2_; (try clear hb); (try clear hb2); (try clear hk); (try clear hi); (try clear ho0); obtain ⟨Ao38, co38, eo38⟩ := Kd.R_slice HO130.out; subst eo38) | ((with_reducible refine gate_callee (f := 7) rfl ?_); refine goesL_ (some 84) rfl rfl Try.func7 (by kernel_rfl) rfl #[.int .i64 (t127.length : Int)] rfl (by (try simp only [List.map_toArray, List.map_cons, List.map_nil]); first | done | rfl | (simp only [List.length_drop, List.length_take]; rfl)) ?_; (with_reducible refine (bits_Size.calls kj17 (t127.length : Int) t131 t132 _ A23.out).mono ?_); rintro e w39 ⟨v133, rfl, ho0, hb⟩; refine ⟨_, rfl, ?_⟩; have n0_ := A' (Kd.R_elder' (by (with_reducible repeat (first | apply Kd.R_alloc | apply Kd.R_drewN | apply Kd.R_drew)); exact HO_6.out) (Kd.R_base ho0) hb); have n1_ := A' (Kd.R_elder' (by (with_reducible repeat (first | apply Kd.R_alloc | apply Kd.R_drewN | apply Kd.R_drew)); exact HO130.out) (Kd.R_base ho0) hb); have n2_ := A' (Kd.R_lower (Kd.R_new' (Kd.R_new' ho0 (Kd.R_lt (by (with_reducible repeat (first | apply Kd.R_alloc | apply Kd.R_drewN | apply Kd.R_drew)); exact HO_6.out))) (Kd.R_lt (by (with_reducible repeat (first | apply Kd.R_alloc | apply Kd.R_drewN | apply Kd.R_drew)); exact HO130.out))) (below_size (by repeat (first | (with_reducible first | exact HB.out | apply below_alloc | apply pw_below_drewN | apply below_drew1) | exact HB.out)))); have n3_ := A' (below_step (by repeat (first | (with_reducible first | exact HB.out | apply below_alloc | apply pw_below_drewN | apply below_drew1) | exact HB.out)) hb); clear HO_6; clear HO130; clear HB; have HO_6 := n0_; have HO130 := n1_; have HO134 := n2_; have HB := n3_; clear n0_ n1_ n2_ n3_; (try clear hb); (try clear hb2); (try clear hk); (try clear hi); (try clear ho0))); go_ret; (exact ⟨by first | rfl | (simp [errW_none, errW_some] <;> rfl) | (simp [*, errW_none, errW_some] <;> rfl), by repeat (first | (with_reducible first | exact HB.out | apply below_alloc | apply pw_below_drewN | apply below_drew1) | exact HB.out)⟩))); (· rw [if_neg c21] at H; exact absurd H (by simp)))
                   (· rw [if_neg c20] at H; exact absurd H (by simp))
           (· rw [if_neg c6] at H; exact absurd H (by simp))
         (· rw [if_neg c5] at H; exact absurd H (by simp))
     (· rw [if_neg c4] at H; exact absurd H (by simp))
   · rw [if_neg c3] at H
     have c3b0 : decide (x7_1 < (l0.length : Int)) = false := decide_eq_false c3; clear c3; replace H := Option.bind_eq_some_iff.mp H; obtain ⟨t141, A400, H⟩ := H; replace H : ((bits_Size.f k1 t141).bind fun bt142 => (if bt142.2 = 0 then (if x6_1.length + bt142.1.length < 140737488355328 then (incunabletop_TopCodes.l2 k1 l0 l1 (x6_1 ++ bt142.1) 0 0) else (none)) else (some false))) = some r := H; have A40 := A' A400; clear A400; replace H := Option.bind_eq_some_iff.mp H; obtain ⟨⟨t142, t143⟩, A410, H⟩ := H; replace H : (if t143 = 0 then (if x6_1.length + t142.length < 140737488355328 then (incunabletop_TopCodes.l2 k1 l0 l1 (x6_1 ++ t142) 0 0) else (none)) else (some false)) = some r := H; have A41 := A' A410; clear A410; by_cases c42 : t143 = 0
     · rw [if_pos c42] at H
       have c42b0 : (t143 == 0) = true := beq_iff_eq.mpr c42; have c42b1 : (t143 != 0) = false := bne_eq_false_iff_eq.mpr c42; clear c42; by_cases c43 : x6_1.length + t142.length < 140737488355328
       · rw [if_pos c43] at H
         have LMc43 := A' c43; clear c43; obtain ⟨y146, hy146⟩ : ∃ y_ : List Int, y_ = (x6_1 ++ t142) := ⟨_, rfl⟩; (replace H : (incunabletop_TopCodes.l2 k1 l0 l1 y146 0 0) = some r := by first | (rw [hy146]; with_reducible exact H) | (have H2_ := (Option.bind_some _ _).symm.trans H; rw [hy146]; with_reducible exact H2_) | (have H2_ := (Option.bind_some _ _).symm.trans H; with_reducible exact H2_) | with_reducible exact H | (rw [hy146]; exact H) | exact H); have Ny146 := A' hy146; clear hy146; have H' := A' H; clear H; obtain ⟨Ao44, co44, eo44⟩ := Kd.R_slice HO_6.out; subst eo44
         go_wp2_with (first | ((with_reducible refine gate_callee (f := 8) rfl ?_); refine goesL_ (some 100) rfl rfl Try.func8 (by kernel_rfl) rfl #[.slice Ao44 x6_1.length co44] rfl (by (try simp only [List.map_toArray, List.map_cons, List.map_nil]); first | done | rfl | (simp only [List.length_drop, List.length_take]; rfl)) ?_; (with_reducible refine (bits_Sum.calls k1 _ _ x6_1 t141 _ ?side1 ?side2 A40.out).mono ?_); (case side1 => repeat (first | exact (Kd.R_reads' HO_6.out).2.2 | (with_reducible refine Kd.C_alloc ?_ _) | (with_reducible refine Kd.C_drewN ?_ _) | (with_reducible refine Kd.C_drew ?_))); (case side2 => exact (Kd.R_reads' HO_6.out).2.1); rintro e w' ⟨rfl, ⟨nd, rfl⟩⟩; refine ⟨_, rfl, ?_⟩) | ((with_reducible refine gate_callee (f := 7) rfl ?_); refine goesL_ (some 101) rfl rfl Try.func7 (by kernel_rfl) rfl #[.int .i64 t141] rfl (by (try simp only [List.map_toArray, List.map_cons, List.map_nil]); first | done | rfl | (simp only [List.length_drop, List.length_take]; rfl)) ?_; (with_reducible refine (bits_Size.calls k1 t141 t142 t143 _ A41.out).mono ?_); rintro e w45 ⟨v144, rfl, ho0, hb⟩; refine ⟨_, rfl, ?_⟩; have n0_ := A' (Kd.R_elder' (by (with_reducible repeat (first | apply Kd.R_alloc | apply Kd.R_drewN | apply Kd.R_drew)); exact HO_6.out) (Kd.R_base ho0) hb); have n1_ := A' (Kd.R_lower (Kd.R_new' ho0 (Kd.R_lt (by (with_reducible repeat (first | apply Kd.R_alloc | apply Kd.R_drewN | apply Kd.R_drew)); exact HO_6.out))) (below_size (by repeat (first | (with_reducible first | exact HB.out | apply below_alloc | apply pw_below_drewN | apply below_drew1) | exact HB.out)))); have n2_ := A' (below_step (by repeat (first | (with_reducible first | exact HB.out | apply below_alloc | apply pw_below_drewN | apply below_drew1) | exact HB.out)) hb); clear HO_6; clear HB; have HO_6 := n0_; have HO145 := n1_; have HB := n2_; clear n0_ n1_ n2_; (try clear hb); (try clear hb2); (try clear hk); (try clear hi); (try clear ho0); obtain ⟨Ao47, co47, eo47⟩ := Kd.R_slice HO145.out; subst eo47) | ((with_reducible refine gate_builtin (b := .append) (xs := #[.tmp 106, .tmp 107]) rfl ?_); (try (refine gate_guard (by rfl) ?_; dsimp only)); at_builtin; refine Kd.R_append_rows (Kd.int .u8) (w0 := w) w.heap.size rfl (.tmp 106) (.tmp 107) 24 5 (.int .u8 0) 1 rfl Try.underlying24 info5 rfl (by decide) (by omega) (.slice Ao44 x6_1.length co44) x6_1 t142 _ _ _ (fun k_ => some k_ ≠ (.slice Ao47 t142.length co47 : Value).ownBlock) (fun _ => False) rfl rfl ?aO ?aR (fun _ _ h => h) (fun _ h => h.elim) ?aF ?aB ?aS ?aL ?_; (case aR => repeat (first | exact (Kd.R_reads' HO145.out).2.2 | (with_reducible refine Kd.C_alloc ?_ _) | (with_reducible refine Kd.C_drewN ?_ _) | (with_reducible refine Kd.C_drew ?_))); (case aB => exact (by repeat (first | (with_reducible first | exact HB.out | apply below_alloc | apply pw_below_drewN | apply below_drew1) | exact HB.out))); (case aF => exact (fun k_ hk => Kd.fresh' (Kd.R_lt (by (with_reducible repeat (first | apply Kd.R_alloc | apply Kd.R_drewN | apply Kd.R_drew)); exact HO145.out)) k_ hk)); (case aO => exact (by (with_reducible repeat (first | apply Kd.R_alloc | apply Kd.R_drewN | apply Kd.R_drew)); exact Kd.R_mono HO_6.out (fun _ hk => hk.2))); (case aS => exact (below_size (by repeat (first | (with_reducible first | exact HB.out | apply below_alloc | apply pw_below_drewN | apply below_drew1) | exact HB.out)))); (case aL => have := LMc43.out; omega); intro v147 w46 ho hb hg hat; rw [← Ny146.out] at ho; have n0_ := A' (Kd.R_after (ok := (fun _ => True)) (by (with_reducible repeat (first | apply Kd.R_alloc | apply Kd.R_drewN | apply Kd.R_drew)); exact HO145.out) hg hat); have n1_ := A' (hb); have n2_ := A' (ho); clear HO145; clear HB; clear HO_6; have HO145 := n0_; have HB := n1_; have HO148 := n2_; clear n0_ n1_ n2_; clear ho hb hg hat))
         go_loopg [16, 17] k1 (fun kq v16 v17 w' => ∃ (x16_2 : Int) (x17_2 : Int), v16 = .int .i64 x16_2 ∧ v17 = .int .i64 x17_2 ∧ Aside0 (incunabletop_TopCodes.l2 kq l0 l1 y146 x16_2 x17_2 = some r) ∧ Aside0 (kq ≤ k1) ∧ Aside0 (Kd.R (Kd.int .u8) 5 w' w.heap.size (fun _ => True) v147 y146) ∧ Aside0 (Below w.heap.size w w')); (case atStart => exact ⟨(0), (0), (by first | rfl | (simp; done) | (simp [*]; done)), (by first | rfl | (simp; done) | (simp [*]; done)), H', ⟨Nat.le_refl _⟩, ⟨by (with_reducible repeat (first | apply Kd.R_alloc | apply Kd.R_drewN | apply Kd.R_drew)); exact Kd.R_mono HO148.out (fun _ hk => trivial)⟩, ⟨by repeat (first | (with_reducible first | exact HB.out | apply below_alloc | apply pw_below_drewN | apply below_drew1) | exact HB.out)⟩⟩)
         case round =>
          clear H'; (try clear c1); (try clear p1); (try clear q1); (try clear hx1); (try clear c2); (try clear p2); (try clear c3); (try clear c3b0); (try clear c4); (try clear c4b0); (try clear c5); (try clear c5b0); (try clear c6); (try clear c6b0); (try clear p6); (try clear c7); (try clear c7b0); (try clear c8); (try clear c8b0); (try clear c10); (try clear c11); (try clear p11); (try clear q11); (try clear hx11); (try clear c12); (try clear p12); (try clear q12); (try clear hx12); (try clear c15); (try clear c15b0); (try clear c19); (try clear c19b0); (try clear c20); (try clear c20b0); (try clear c21); (try clear c21b0); (try clear c24); (try clear c24b0); (try clear c24b1); (try clear c25); (try clear c25b0); (try clear c25b1); (try clear c26); (try clear c27); (try clear c42); (try clear c42b0); (try clear c42b1); (try clear c43); (try clear hx118_0); (try clear hx119_0); (try clear hx120_0); (try clear hx121_0); (try clear hx121_1); (try clear hx125_0); (try clear hx126_0); (try clear p1); (try clear p11); (try clear p118); (try clear p119); (try clear p12); (try clear p120); (try clear p121); (try clear p125); (try clear p126); (try clear p2); (try clear p6); (try clear q1); (try clear q11); (try clear q118); (try clear q119); (try clear q12); (try clear q120); (try clear q121); (try clear q125); (try clear q126); obtain ⟨x16_2, x17_2, rfl, rfl, HA, HK2, HO_6, HB⟩ := hrel
          cases gk with
          | zero => exact absurd HA.out (by simp [incunabletop_TopCodes.l2])
          | succ k2 =>
           have H := HA.out; clear HA; simp only [incunabletop_TopCodes.l2] at H; by_cases c48 : x17_2 < (l0.length : Int)
           · rw [if_pos c48] at H
             have c48b0 : decide (x17_2 < (l0.length : Int)) = true := decide_eq_true c48; clear c48; replace H := Option.bind_eq_some_iff.mp H; obtain ⟨⟨t158, t159, t160⟩, A490, H⟩ := H; replace H : (if t160 = 0 then (if t158 < 0 then (incunabletop_TopCodes.j4 k2 l0 l1 y146 x17_2 t158 t159 true) else (if t159 < 0 then (incunabletop_TopCodes.j4 k2 l0 l1 y146 x17_2 t158 t159 true) else (if t159 > (y146.length : Int) then (incunabletop_TopCodes.j4 k2 l0 l1 y146 x17_2 t158 t159 true) else (incunabletop_TopCodes.j4 k2 l0 l1 y146 x17_2 t158 t159 (decide (t158 > (wrap64 ((y146.length : Int) - t159)))))))) else (incunabletop_TopCodes.j4 k2 l0 l1 y146 x17_2 t158 t159 true)) = some r := H; have A49 := A' A490; clear A490; have HC50 := A' H; clear H; obtain ⟨Ao51, co51, eo51⟩ := Kd.R_slice HO_6.out; subst eo51
             go_upto_region 31 with (first | ((with_reducible refine gate_callee (f := 9) rfl ?_); refine goesL_ (some 118) rfl rfl Try.func9 (by kernel_rfl) rfl #[.slice Ao51 y146.length co51, .int .i64 x16_2] rfl (by (try simp only [List.map_toArray, List.map_cons, List.map_nil]); first | done | rfl | (simp only [List.length_drop, List.length_take]; rfl)) ?_; (with_reducible refine (bits_GetSize.calls k2 _ _ y146 x16_2 t158 t159 t160 _ ?side1 ?side2 A49.out).mono ?_); (case side1 => repeat (first | exact (Kd.R_reads' HO_6.out).2.2 | (with_reducible refine Kd.C_alloc ?_ _) | (with_reducible refine Kd.C_drewN ?_ _) | (with_reducible refine Kd.C_drew ?_))); (case side2 => exact (Kd.R_reads' HO_6.out).2.1); rintro e w' ⟨rfl, ⟨nd, rfl⟩⟩; refine ⟨_, rfl, ?_⟩)); (try simp only [Act.put, List.setIfInBounds_toArray, List.set_cons_zero, List.set_cons_succ]); go_cut [145] (fun v145 wc => ∃ (kq : Nat) (x145_49 : Bool), v145 = .bool x145_49 ∧ Aside0 (incunabletop_TopCodes.j4 kq l0 l1 y146 x17_2 t158 t159 x145_49 = some r) ∧ Aside0 (kq ≤ k2) ∧ Aside0 (Kd.R (Kd.int .u8) 5 wc w.heap.size (fun _ => True) (.slice Ao51 y146.length co51) y146) ∧ Aside0 (Below w.heap.size w wc))
             (case first => have H := HC50.out; clear HC50; by_cases c52 : t160 = 0; (· rw [if_pos c52] at H; have c52b0 : (t160 == 0) = true := beq_iff_eq.mpr c52; have c52b1 : (t160 != 0) = false := bne_eq_false_iff_eq.mpr c52; clear c52; (first | rw [c52b0] | (simp only [i64_w, i32_w]; rw [c52b0]) | skip); by_cases c53 : t158 < 0; (· rw [if_pos c53] at H; have c53b0 : decide (t158 < 0) = true := decide_eq_true c53; clear c53; have H' := A' H; clear H; go_wp2; go_meet; (case rel => exact ⟨_, (true), (by first | rfl | (simp; done) | (simp [*]; done)), H', ⟨by have := HK1.out; have := HK2.out; first | omega | exact Nat.le_refl _⟩, ⟨by (with_reducible repeat (first | apply Kd.R_alloc | apply Kd.R_drewN | apply Kd.R_drew)); exact HO_6.out⟩, ⟨by repeat (first | (with_reducible first | exact HB.out | apply below_alloc | apply pw_below_drewN | apply below_drew1) | exact HB.out)⟩⟩)); (· rw [if_neg c53] at H; have c53b0 : decide (t158 < 0) = false := decide_eq_false c53; clear c53; by_cases c54 : t159 < 0; (· rw [if_pos c54] at H; have c54b0 : decide (t159 < 0) = true := decide_eq_true c54; clear c54; have H' := A' H; clear H; go_wp2; go_meet; (case rel => exact ⟨_, (true), (by first | rfl | (simp; done) | (simp [*]; done)), H', ⟨by have := HK1.out; have := HK2.out; first | omega | exact Nat.le_refl _⟩, ⟨by (with_reducible repeat (first | apply Kd.R_alloc | apply Kd.R_drewN | apply Kd.R_drew)); exact HO_6.out⟩, ⟨by repeat (first | (with_reducible first | exact HB.out | apply below_alloc | apply pw_below_drewN | apply below_drew1) | exact HB.out)⟩⟩)); (· rw [if_neg c54] at H; have c54b0 : decide (t159 < 0) = false := decide_eq_false c54; clear c54; by_cases c55 : t159 > (y146.length : Int); (· rw [if_pos c55] at H; have c55b0 : decide ((y146.length : Int) < t159) = true := decide_eq_true c55; clear c55; have H' := A' H; clear H; go_wp2; go_meet; (case rel => exact ⟨_, (true), (by first | rfl | (simp; done) | (simp [*]; done)), H', ⟨by have := HK1.out; have := HK2.out; first | omega | exact Nat.le_refl _⟩, ⟨by (with_reducible repeat (first | apply Kd.R_alloc | apply Kd.R_drewN | apply Kd.R_drew)); exact HO_6.out⟩, ⟨by repeat (first | (with_reducible first | exact HB.out | apply below_alloc | apply pw_below_drewN | apply below_drew1) | exact HB.out)⟩⟩)); (· rw [if_neg c55] at H; have c55b0 : decide ((y146.length : Int) < t159) = false := decide_eq_false c55; clear c55; have H' := A' H; clear H; go_wp2; go_meet; (case rel => exact ⟨_, (decide (t158 > (wrap64 ((y146.length : Int) - t159)))), (by first | rfl | (simp; done) | (simp [*]; done)), H', ⟨by have := HK1.out; have := HK2.out; first | omega | exact Nat.le_refl _⟩, ⟨by (with_reducible repeat (first | apply Kd.R_alloc | apply Kd.R_drewN | apply Kd.R_drew)); exact HO_6.out⟩, ⟨by repeat (first | (with_reducible first | exact HB.out | apply below_alloc | apply pw_below_drewN | apply below_drew1) | exact HB.out)⟩⟩))))); (· rw [if_neg c52] at H; have c52b0 : (t160 == 0) = false := beq_eq_false_iff_ne.mpr c52; have c52b1 : (t160 != 0) = true := bne_iff_ne.mpr c52; (first | rw [c52b0] | (simp only [i64_w, i32_w]; rw [c52b0]) | skip); have H' := A' H; clear H; go_wp2; go_meet; (case rel => exact ⟨_, (true), (by first | rfl | (simp; done) | (simp [*]; done)), H', ⟨by have := HK1.out; have := HK2.out; first | omega | exact Nat.le_refl _⟩, ⟨by (with_reducible repeat (first | apply Kd.R_alloc | apply Kd.R_drewN | apply Kd.R_drew)); exact HO_6.out⟩, ⟨by repeat (first | (with_reducible first | exact HB.out | apply below_alloc | apply pw_below_drewN | apply below_drew1) | exact HB.out)⟩⟩)))
             case rest =>
              clear HC50; (try clear c1); (try clear p1); (try clear q1); (try clear hx1); (try clear c2); (try clear p2); (try clear c3); (try clear c3b0); (try clear c4); (try clear c4b0); (try clear c5); (try clear c5b0); (try clear c6); (try clear c6b0); (try clear p6); (try clear c7); (try clear c7b0); (try clear c8); (try clear c8b0); (try clear c9); (try clear c10); (try clear c11); (try clear p11); (try clear q11); (try clear hx11); (try clear c12); (try clear p12); (try clear q12); (try clear hx12); (try clear c15); (try clear c15b0); (try clear c19); (try clear c19b0); (try clear c20); (try clear c20b0); (try clear c21); (try clear c21b0); (try clear c24); (try clear c24b0); (try clear c24b1); (try clear c25); (try clear c25b0); (try clear c25b1); (try clear c26); (try clear c27); (try clear c42); (try clear c42b0); (try clear c42b1); (try clear c43); (try clear c48); (try clear c48b0); (try clear c52); (try clear c52b0); (try clear c52b1); (try clear c53); (try clear c53b0); (try clear c54); (try clear c54b0); (try clear c55); (try clear c55b0); (try clear hx118_0); (try clear hx119_0); (try clear hx120_0); (try clear hx121_0); (try clear hx121_1); (try clear hx125_0); (try clear hx126_0); (try clear p1); (try clear p11); (try clear p118); (try clear p119); (try clear p12); (try clear p120); (try clear p121); (try clear p125); (try clear p126); (try clear p2); (try clear p6); (try clear q1); (try clear q11); (try clear q118); (try clear q119); (try clear q12); (try clear q120)
              (try clear q121); (try clear q125); (try clear q126); obtain ⟨kq, x145_49, rfl, HA, HJ49, HO_6, HB⟩ := hcut
              cases kq with
              | zero => exact absurd HA.out (by simp [incunabletop_TopCodes.j4])
              | succ kj49 =>
               have H := HA.out; clear HA; simp only [incunabletop_TopCodes.j4] at H; by_cases c56 : x145_49 = true; (· subst c56; (have H1 : (some false) = some r := by rw [if_pos rfl] at H; exact H); clear H; have H := H1; clear H1; obtain rfl := Option.some.inj H; go_wp2; go_ret; (exact ⟨by first | rfl | (simp [errW_none, errW_some] <;> rfl) | (simp [*, errW_none, errW_some] <;> rfl), by repeat (first | (with_reducible first | exact HB.out | apply below_alloc | apply pw_below_drewN | apply below_drew1) | exact HB.out)⟩))
               · replace c56 := Bool.eq_false_iff.mpr c56
                 subst c56; (have H1 : (if x17_2 < (l1.length : Int) then (if 0 ≤ x17_2 then (incunabletop_TopCodes.j5 kj49 l0 l1 y146 x17_2 t158 t159 (Int.tmod (wrap64 ((Int.tmod (rd l1 x17_2) 2) + 2)) 2)) else (none)) else (incunabletop_TopCodes.j5 kj49 l0 l1 y146 x17_2 t158 t159 0)) = some r := by rw [if_neg (show ¬ (false = true) by decide)] at H; exact H); clear H; have H := H1; clear H1; have HC57 := A' H; clear H; go_upto_if 149 with (fail); go_cut [21] (fun v21 wc => ∃ (kq : Nat) (x21_56 : Int), v21 = .int .i64 x21_56 ∧ Aside0 (incunabletop_TopCodes.j5 kq l0 l1 y146 x17_2 t158 t159 x21_56 = some r) ∧ Aside0 (kq ≤ kj49) ∧ Aside0 (Kd.R (Kd.int .u8) 5 wc w.heap.size (fun _ => True) (.slice Ao51 y146.length co51) y146) ∧ Aside0 (Below w.heap.size w wc))
                 (case first => have H := HC57.out; clear HC57; by_cases c58 : x17_2 < (l1.length : Int); (· rw [if_pos c58] at H; have c58b0 : decide (x17_2 < (l1.length : Int)) = true := decide_eq_true c58; clear c58; (first | rw [c58b0] | (simp only [i64_w, i32_w]; rw [c58b0]) | skip); by_cases c59 : 0 ≤ x17_2; (· rw [if_pos c59] at H; have c59b0 : decide (0 ≤ x17_2) = true := decide_eq_true c59; clear c59; have H' := A' H; clear H; have p161 : 0 ≤ (x17_2 : Int) := of_decide_eq_true (by first | (with_reducible assumption) | assumption); have q161 : x17_2 < (l1.length : Int) := of_decide_eq_true (by first | (with_reducible assumption) | assumption); obtain ⟨ad161, e161, hx161_0⟩ := Kd.at_int HR1.out x17_2 p161 q161; cases e161; replace hx161_0 := (HB.out.cell (World.block_lt_of_cell? w _ hx161_0)).trans hx161_0; replace p161 := eq_true p161; replace q161 := eq_true q161; go_wp2; go_meet; (case rel => exact ⟨_, (Int.tmod (wrap64 ((Int.tmod (rd l1 x17_2) 2) + 2)) 2), (by first | rfl | (simp; done) | (simp [*]; done)), H', ⟨by have := HK1.out; have := HK2.out; have := HJ49.out; first | omega | exact Nat.le_refl _⟩, ⟨by (with_reducible repeat (first | apply Kd.R_alloc | apply Kd.R_drewN | apply Kd.R_drew)); exact HO_6.out⟩, ⟨by repeat (first | (with_reducible first | exact HB.out | apply below_alloc | apply pw_below_drewN | apply below_drew1) | exact HB.out)⟩⟩)); (· rw [if_neg c59] at H; exact absurd H (by simp))); (· rw [if_neg c58] at H; have c58b0 : decide (x17_2 < (l1.length : Int)) = false := decide_eq_false c58; clear c58; (first | rw [c58b0] | (simp only [i64_w, i32_w]; rw [c58b0]) | skip); have H' := A' H; clear H; go_wp2; go_meet; (case rel => exact ⟨_, (0), (by first | rfl | (simp; done) | (simp [*]; done)), H', ⟨by have := HK1.out; have := HK2.out; have := HJ49.out; first | omega | exact Nat.le_refl _⟩, ⟨by (with_reducible repeat (first | apply Kd.R_alloc | apply Kd.R_drewN | apply Kd.R_drew)); exact HO_6.out⟩, ⟨by repeat (first | (with_reducible first | exact HB.out | apply below_alloc | apply pw_below_drewN | apply below_drew1) | exact HB.out)⟩⟩)))
                 case rest =>
                  clear HC57; (try clear c1); (try clear p1); (try clear q1); (try clear hx1); (try clear c2); (try clear p2); (try clear c3); (try clear c3b0); (try clear c4); (try clear c4b0); (try clear c5); (try clear c5b0); (try clear c6); (try clear c6b0); (try clear p6); (try clear c7); (try clear c7b0); (try clear c8); (try clear c8b0); (try clear c9); (try clear c10); (try clear c11); (try clear p11); (try clear q11); (try clear hx11); (try clear c12); (try clear p12); (try clear q12); (try clear hx12); (try clear c15); (try clear c15b0); (try clear p16); (try clear q16); (try clear hx16); (try clear c19); (try clear c19b0); (try clear c20); (try clear c20b0); (try clear c21); (try clear c21b0); (try clear c24); (try clear c24b0); (try clear c24b1); (try clear c25); (try clear c25b0); (try clear c25b1); (try clear c26); (try clear c27); (try clear c42); (try clear c42b0); (try clear c42b1); (try clear c43); (try clear c48); (try clear c48b0); (try clear c52); (try clear c52b0); (try clear c52b1); (try clear c53); (try clear c53b0); (try clear c54); (try clear c54b0); (try clear c55); (try clear c55b0); (try clear c56); (try clear c58); (try clear c58b0); (try clear c59); (try clear c59b0); (try clear hx118_0); (try clear hx119_0); (try clear hx120_0); (try clear hx121_0); (try clear hx121_1); (try clear hx125_0); (try clear hx126_0); (try clear hx161_0); (try clear p1); (try clear p11); (try clear p118); (try clear p119); (try clear p12); (try clear p120); (try clear p121)
                  (try clear p125); (try clear p126); (try clear p161); (try clear p2); (try clear p6); (try clear q1); (try clear q11); (try clear q118); (try clear q119); (try clear q12); (try clear q120); (try clear q121); (try clear q125); (try clear q126); (try clear q161); obtain ⟨kq, x21_56, rfl, HA, HJ56, HO_6, HB⟩ := hcut
                  cases kq with
                  | zero => exact absurd HA.out (by simp [incunabletop_TopCodes.j5])
                  | succ kj56 =>
                   have H := HA.out; clear HA; simp only [incunabletop_TopCodes.j5] at H; by_cases c60 : 0 ≤ t159
                   (· rw [if_pos c60] at H; have c60b0 := eq_true c60; have c60b1 : decide (0 ≤ t159) = true := decide_eq_true c60; clear c60; by_cases c61 : t159 ≤ (wrap64 (t159 + t158)); (· rw [if_pos c61] at H; have c61b0 := eq_true c61; have c61b1 : decide (t159 ≤ (wrap64 (t159 + t158))) = true := decide_eq_true c61; by_cases c62 : (wrap64 (t159 + t158)) ≤ (y146.length : Int); (· rw [if_pos c62] at H; have c62b0 := eq_true c62; have c62b1 : decide ((wrap64 (t159 + t158)) ≤ (y146.length : Int)) = true := decide_eq_true c62; obtain ⟨y162, hy162⟩ : ∃ y_ : List Int, y_ = ((y146.take ((wrap64 (t159 + t158)) : Int).toNat).drop (t159 : Int).toNat) := ⟨_, rfl⟩; (replace H : (if 0 ≤ x17_2 then (if x17_2 < (l0.length : Int) then ((number_Decode.f x21_56 y162 ((rd_L4 l0 x17_2).length : Int)).bind fun bt167 => (if bt167.2 = 0 then ((incunableref03_Same.f kj56 bt167.1 (rd_L4 l0 x17_2)).bind fun t172 => (if t172 = true then (incunabletop_TopCodes.l2 kj56 l0 l1 y146 (wrap64 (t159 + t158)) (wrap64 (x17_2 + 1))) else (some false))) else (some false))) else (none)) else (none)) = some r := by first | (rw [hy162]; with_reducible exact H) | (have H2_ := (Option.bind_some _ _).symm.trans H; rw [hy162]; with_reducible exact H2_) | (have H2_ := (Option.bind_some _ _).symm.trans H; with_reducible exact H2_) | with_reducible exact H | (rw [hy162]; exact H) | exact H); have Ny162 := A' hy162; clear hy162; by_cases c63 : 0 ≤ x17_2; (· rw [if_pos c63] at H; have c63b0 : decide (0 ≤ x17_2) = true := decide_eq_true c63; clear c63; by_cases c64 : x17_2 < (l0.length : Int); (· rw [if_pos c64] at H; have c64b0 : decide (x17_2 < (l0.length : Int)) = true := decide_eq_true c64; clear c64; replace H := Option.bind_eq_some_iff.mp H; obtain ⟨⟨t167, t168⟩, A650, H⟩ := H; replace H : (if t168 = 0 then ((incunableref03_Same.f kj56 t167 (rd_L4 l0 x17_2)).bind fun t172 => (if t172 = true then (incunabletop_TopCodes.l2 kj56 l0 l1 y146 (wrap64 (t159 + t158)) (wrap64 (x17_2 + 1))) else (some false))) else (some false)) = some r := H; have A65 := A' A650; clear A650; by_cases c66 : t168 = 0; (· rw [if_pos c66] at H; have c66b0 : (t168 == 0) = true := beq_iff_eq.mpr c66; have c66b1 : (t168 != 0) = false := bne_eq_false_iff_eq.mpr c66; clear c66; replace H := Option.bind_eq_some_iff.mp H; obtain ⟨t172, A670, H⟩ := H; replace H : (if t172 = true then (incunabletop_TopCodes.l2 kj56 l0 l1 y146 (wrap64 (t159 + t158)) (wrap64 (x17_2 + 1))) else (some false)) = some r := H; have A67 := A' A670; clear A670; by_cases c68 : t172 = true; (· subst c68; (have H1 : (incunabletop_TopCodes.l2 kj56 l0 l1 y146 (wrap64 (t159 + t158)) (wrap64 (x17_2 + 1))) = some r := by rw [if_pos rfl] at H; exact H); clear H; have H := H1; clear H1; have H' := A' H; clear H; (try go_wp2); have n0_ := A' (Kd.R_drew HO_6.out); have n1_ := A' (below_drew1 HB.out); clear HO_6; clear HB; have HO_6 := n0_; have HB := n1_; clear n0_ n1_; have q70 : ((wrap64 (t159 + t158)) : Int) ≤ ((y146.length : Int) : Int) := of_decide_eq_true (by first | (with_reducible assumption) | assumption); obtain ⟨i070, hi070, _, hsz70, _⟩ := info_parts info5; have hroom70 : y146.length ≤ co51 := (Kd.R_reads' HO_6.out).2.1; have hC70 : Kd.C (Kd.int .u8) _ Ao51 y146.length y146 := (Kd.R_reads' HO_6.out).2.2; have ql70 : (t159 : Int) ≤ ((wrap64 (t159 + t158)) : Int) := of_decide_eq_true (by first | (with_reducible assumption) | assumption); have q070 : (0 : Int) ≤ (t159 : Int) := of_decide_eq_true (by first | (with_reducible assumption) | assumption); have hcut70 := cut_mid (P := Try.prog) 24 5 .i64 .i64 Try.underlying24 hi070 1 hsz70 Ao51 y146.length co51 t159 (wrap64 (t159 + t158)) q070 ql70 q70 hroom70; have hr70 := Kd.C_mid (lo := (t159 : Int).toNat) (hi := ((wrap64 (t159 + t158)) : Int).toNat) (c := co51) hC70 (by omega) (by omega) hroom70; obtain ⟨A70, hA70⟩ : ∃ A1, A1 = (if co51 = (t159 : Int).toNat then Ao51 else (Ao51 : Option Addr).map (·.add ((t159 : Int).toNat * 1))) := ⟨_, rfl⟩; obtain ⟨c70, hc70⟩ : ∃ c1, c1 = co51 - (t159 : Int).toNat := ⟨_, rfl⟩; (have hy70 : y162.length = ((wrap64 (t159 + t158)) : Int).toNat - (t159 : Int).toNat := (by rw [Ny162.out, List.length_drop, List.length_take] <;> omega)); rw [show ((y146).take ((wrap64 (t159 + t158)) : Int).toNat).drop (t159 : Int).toNat = y162 from Ny162.out.symm] at hr70; replace hr70 : Kd.C (Kd.int .u8) _ A70 y162.length y162 := (by rw [hA70]; exact hr70); rw [← hy70, ← hA70, ← hc70] at hcut70; have HR165 := A' hr70; have HC165 := A' (show y162.length ≤ c70 from by rw [hy70, hc70]; exact Nat.sub_le_sub_right (Nat.le_trans (by omega) hroom70) _); clear hr70 hC70 hroom70 hi070 hsz70 hc70; have KY70 := A' hy70; have KA70 := A' hA70; clear hy70 hA70; have KL70 := A' (show ((wrap64 (t159 + t158)) : Int).toNat ≤ y146.length from by omega); have KM70 := A' (show (t159 : Int).toNat ≤ ((wrap64 (t159 + t158)) : Int).toNat from by omega); replace q70 := eq_true q70; have p166 : 0 ≤ (x17_2 : Int) := of_decide_eq_true (by first | (with_reducible assumption) | assumption); have q166 : x17_2 < (l0.length : Int) := of_decide_eq_true (by first | (with_reducible assumption) | assumption); obtain ⟨ad166, A166_0, c166_0, e166, hx166_0, hl166_0, hi166_0⟩ := at_L4 HR0.out x17_2 p166 q166; have hw166_0 := hx166_0; cases e166; replace hx166_0 := (HB.out.cell (World.block_lt_of_cell? w _ hx166_0)).trans hx166_0; have HR166_0 := A' hi166_0; have HC166_0 := A' hl166_0; clear hi166_0 hl166_0; replace p166 := eq_true p166; replace q166 := eq_true q166; refine start_ (n := 18) (S := fun w' => w'.cell? (ad166.add (x17_2).toNat) = some (.slice A166_0 (rd_L4 l0 x17_2).length c166_0)) (ds := []) #[false, false, false, false, false, false, false, false, false, false, false, false, false, false, false, false, false, false] (by kernel_rfl) rfl rfl (((HB.out.cell (World.block_lt_of_cell? w _ hw166_0)).trans hw166_0)) (fun hHeld => ?_); refine with_tabW incunabletop_TopCodes.tab36 incunabletop_TopCodes.bits36 (fun HT_ HW_ => ?_); generalize wc.drew = w69 at HO_6 HB HR165 HR166_0 hx166_0 hHeld ⊢; refine pure_ (i := 0) (N := some 158) (v := ?_) (a' := ?_) (B' 18 1) rfl rfl (any_of HT_.out (by kernel_rfl)) (fun _ _ _ h => h) (Or.inl ⟨by rfl, ?_⟩) ?_ ?_; rotate_left; (intro w'; go_simp; with_reducible rfl); rotate_left; (simp only [Act.put, p1', p2', p3', i64_w, i32_w]; rfl); refine pure_ (i := 1) (N := some 159) (v := ?_) (a' := ?_) (B' 18 3) rfl rfl (any_of HT_.out (by kernel_rfl)) (fun _ _ _ h => h) (Or.inl ⟨by rfl, ?_⟩) ?_ ?_; rotate_left; (intro w'; go_simp; with_reducible rfl); rotate_left; (simp only [Act.put, p1', p2', p3', i64_w, i32_w]; rfl); refine pure_ (i := 2) (N := some 160) (v := ?_) (a' := ?_) (B' 18 7) rfl rfl (any_of HT_.out (by kernel_rfl)) (fun _ _ _ h => h) (Or.inl ⟨by rfl, ?_⟩) ?_ ?_; rotate_left; (intro w'; go_simp; with_reducible rfl); rotate_left; (simp only [Act.put, p1', p2', p3', i64_w, i32_w]; rfl); refine pure_ (i := 3) (N := some 161) (v := ?_) (a' := ?_) (B' 18 15) rfl rfl (any_of HT_.out (by kernel_rfl)) (fun _ _ _ h => h) (Or.inl ⟨by rfl, ?_⟩) ?_ ?_; rotate_left; (intro w'; go_simp; with_reducible rfl); rotate_left; (simp only [Act.put, p1', p2', p3', i64_w, i32_w]; rfl); refine pure_ (i := 4) (N := some 162) (v := ?_) (a' := ?_) (B' 18 31) rfl rfl (any_of HT_.out (by kernel_rfl)) (fun _ _ _ h => h) (Or.inl ⟨by rfl, ?_⟩) ?_ ?_; rotate_left; (intro w'; go_simp; with_reducible rfl); rotate_left; (simp only [Act.put, p1', p2', p3', i64_w, i32_w]; rfl); refine pure_ (i := 5) (N := some 163) (v := ?_) (a' := ?_) (B' 18 63) rfl rfl (any_of HT_.out (by kernel_rfl)) (fun _ _ _ h => h) (Or.inl ⟨by rfl, ?_⟩) ?_ ?_; rotate_left; (intro w'; go_simp; with_reducible rfl); rotate_left; (simp only [Act.put, p1', p2', p3', i64_w, i32_w]; rfl); refine pure_ (i := 6) (N := some 164) (v := ?_) (a' := ?_) (B' 18 127) rfl rfl (any_of HT_.out (by kernel_rfl)) (fun _ _ _ h => h) (Or.inl ⟨by rfl, ?_⟩) ?_ ?_; rotate_left; (intro w'; go_simp; with_reducible rfl); rotate_left; (simp only [Act.put, p1', p2', p3', i64_w, i32_w]; rfl); refine pure_ (i := 7) (N := some 165) (v := ?_) (a' := ?_) (B' 18 255) rfl rfl (any_of HT_.out (by kernel_rfl)) (fun _ _ _ h => h) (Or.inl ⟨by rfl, ?_⟩) ?_ ?_; rotate_left; (intro w'; go_simp; with_reducible rfl); rotate_left; (simp only [Act.put, p1', p2', p3', i64_w, i32_w]; rfl); refine pure_ (i := 8) (N := some 166) (v := ?_) (a' := ?_) (B' 18 511) rfl rfl (any_of HT_.out (by kernel_rfl)) (fun _ _ _ h => h) (Or.inl ⟨by rfl, ?_⟩) ?_ ?_; rotate_left; (intro w'; go_simp; with_reducible rfl); rotate_left; (simp only [Act.put, p1', p2', p3', i64_w, i32_w]; rfl); refine pure_ (i := 9) (N := some 167) (v := ?_) (a' := ?_) (B' 18 1023) rfl rfl (any_of HT_.out (by kernel_rfl)) (fun _ _ _ h => h) (Or.inl ⟨by rfl, ?_⟩) ?_ ?_; rotate_left; (intro w'; go_simp; with_reducible rfl); rotate_left; (simp only [Act.put, p1', p2', p3', i64_w, i32_w]; rfl); refine take_ (i := 10) (N := some 168) (v := ?_) (a' := ?_) (B' 18 2047) rfl rfl (take_ofW HT_.out HW_.out (by kernel_rfl)) (fun _ _ _ h => h) (Or.inl ⟨by rfl, ?_⟩) hHeld ?_ ?_; rotate_left; (intro w' s0; go_simp; with_reducible rfl); rotate_left; (simp only [Act.put, p1', p2', p3', i64_w, i32_w]; rfl); refine pure_ (i := 11) (N := some 169) (v := ?_) (a' := ?_) (B' 18 4095) rfl rfl (any_of HT_.out (by kernel_rfl)) (fun _ _ _ h => h) (Or.inl ⟨by rfl, ?_⟩) ?_ ?_; rotate_left; (intro w'; go_simp; with_reducible rfl); rotate_left; (simp only [Act.put, p1', p2', p3', i64_w, i32_w]; rfl); refine one_ (i := 12) (N := some 170) (B' 18 8191) rfl rfl (one_of HT_.out (by kernel_rfl)) (by decide) (fun K hK => ?_); refine goes_ Try.func10 (by kernel_rfl) rfl #[.int .i64 x21_56, .slice A70 y162.length c70, .int .i64 ((rd_L4 l0 x17_2).length : Int)] (by rfl) rfl rfl (by (try simp only [List.map_toArray, List.map_cons, List.map_nil]); first | done | rfl | (simp only [List.length_drop, List.length_take]; rfl)) ?_; (with_reducible refine (number_Decode.calls x21_56 _ _ y162 ((rd_L4 l0 x17_2).length : Int) t167 t168 _ ?side1 ?side2 A65.out).mono ?_); (case side1 => repeat (first | exact (by repeat (first | (with_reducible exact HR165.out) | (with_reducible refine Kd.C_alloc ?_ _) | (with_reducible refine Kd.C_drewN ?_ _) | (with_reducible refine Kd.C_drew ?_) | exact HR165.out)) | (with_reducible refine Kd.C_alloc ?_ _) | (with_reducible refine Kd.C_drewN ?_ _) | (with_reducible refine Kd.C_drew ?_))); (case side2 => exact HC165.out); rintro e w71 ⟨v169, rfl, ho0, hb⟩; refine ⟨_, rfl, ?_⟩; have n0_ := A' (Kd.R_below (by (with_reducible repeat (first | apply Kd.R_alloc | apply Kd.R_drewN | apply Kd.R_drew)); exact HO_6.out) hb); have n1_ := A' (Kd.R_lower ho0 (below_size (by repeat (first | (with_reducible first | exact HB.out | apply below_alloc | apply pw_below_drewN | apply below_drew1) | exact HB.out)))); have n2_ := A' (Kd.C_below (by repeat (first | (with_reducible exact HR165.out) | (with_reducible refine Kd.C_alloc ?_ _) | (with_reducible refine Kd.C_drewN ?_ _) | (with_reducible refine Kd.C_drew ?_) | exact HR165.out)) hb); have n3_ := A' (below_step (by repeat (first | (with_reducible first | exact HB.out | apply below_alloc | apply pw_below_drewN | apply below_drew1) | exact HB.out)) hb); clear HO_6; clear HR165; clear HB; have HO_6 := n0_; have HO170 := n1_; have HR165 := n2_; have HB := n3_; clear n0_ n1_ n2_ n3_; (try clear hb); (try clear hb2); (try clear hk); (try clear hi); (try clear ho0); refine hK.out _ _ (((HB.out.cell (World.block_lt_of_cell? w _ hw166_0)).trans hw166_0)) (fun hHeld => ?_); clear hK K; refine norm_ (a' := ?_) ?_ ?_; rotate_left; (show Act.put _ (some 170) _ = _; simp only [Act.put, p1', p2', p3', i64_w, i32_w]; rfl); refine pure_ (i := 13) (N := some 157) (v := ?_) (a' := ?_) (B' 18 16383) rfl rfl (any_of HT_.out (by kernel_rfl)) (fun _ _ _ h => h) (Or.inl ⟨by rfl, ?_⟩) ?_ ?_; rotate_left; (intro w'; go_simp; with_reducible rfl); rotate_left; (simp only [Act.put, p1', p2', p3', i64_w, i32_w]; rfl); refine pure_ (i := 14) (N := some 171) (v := ?_) (a' := ?_) (B' 18 32767) rfl rfl (any_of HT_.out (by kernel_rfl)) (fun _ _ _ h => h) (Or.inl ⟨by rfl, ?_⟩) ?_ ?_; rotate_left; (intro w'; go_simp; with_reducible rfl); rotate_left; (simp only [Act.put, p1', p2', p3', i64_w, i32_w]; rfl); refine pure_ (i := 15) (N := some 172) (v := ?_) (a' := ?_) (B' 18 65535) rfl rfl (any_of HT_.out (by kernel_rfl)) (fun _ _ _ h => h) (Or.inl ⟨by rfl, ?_⟩) ?_ ?_; rotate_left; (intro w'; go_simp; with_reducible rfl); rotate_left; (simp only [Act.put, p1', p2', p3', i64_w, i32_w]; rfl); refine pure_ (i := 16) (N := some 22) (v := ?_) (a' := ?_) (B' 18 131071) rfl rfl (any_of HT_.out (by kernel_rfl)) (fun _ _ _ h => h) (Or.inl ⟨by rfl, ?_⟩) ?_ ?_; rotate_left; (intro w'; go_simp; with_reducible rfl); rotate_left; (simp only [Act.put, p1', p2', p3', i64_w, i32_w]; rfl); refine pure_ (i := 17) (N := some 20) (v := ?_) (a' := ?_) (B' 18 262143) rfl rfl (any_of HT_.out (by kernel_rfl)) (fun _ _ _ h => h) (Or.inl ⟨by rfl, ?_⟩) ?_ ?_; rotate_left; (intro w'; go_simp; with_reducible rfl); rotate_left; (simp only [Act.put, p1', p2', p3', i64_w, i32_w]; rfl); refine done_ (done_of HT_.out (by kernel_rfl)) ?_; have p171 : 0 ≤ (x17_2 : Int) := of_decide_eq_true (by first | (with_reducible assumption) | assumption); have q171 : x17_2 < (l0.length : Int) := of_decide_eq_true (by first | (with_reducible assumption) | assumption); obtain ⟨ad171, A171_0, c171_0, e171, hx171_0, hl171_0, hi171_0⟩ := at_L4 HR0.out x17_2 p171 q171; obtain rfl : ad166 = ad171 := (by injection e171); replace hx171_0 := (HB.out.cell (World.block_lt_of_cell? w _ hx171_0)).trans hx171_0; have HR171_0 := A' hi171_0; have HC171_0 := A' hl171_0; clear hi171_0 hl171_0; replace p171 := eq_true p171; replace q171 := eq_true q171; obtain ⟨Ao72, co72, eo72⟩ := Kd.R_slice HO170.out; subst eo72; (try go_wp2_with (first | (go_at_call 11; (with_reducible refine (incunableref03_Same.calls kj56 _ _ t167 _ _ (rd_L4 l0 x17_2) true _ ?side1 ?side2 ?side3 ?side4 A67.out).mono ?_); (case side1 => repeat (first | exact (Kd.R_reads' HO170.out).2.2 | (with_reducible refine Kd.C_alloc ?_ _) | (with_reducible refine Kd.C_drewN ?_ _) | (with_reducible refine Kd.C_drew ?_))); (case side2 => exact (Kd.R_reads' HO170.out).2.1); (case side3 => repeat (first | exact (Kd.C_below HR166_0.out HB.out) | (with_reducible refine Kd.C_alloc ?_ _) | (with_reducible refine Kd.C_drewN ?_ _) | (with_reducible refine Kd.C_drew ?_))); (case side4 => exact HC166_0.out); rintro e w' ⟨rfl, ⟨nd, rfl⟩⟩))); go_roundg kj56; (case measure => have := HK1.out; have := HK2.out; have := HJ49.out; have := HJ56.out; omega); (case rel => exact ⟨(wrap64 (t159 + t158)), (wrap64 (x17_2 + 1)), (by first | rfl | (simp; done) | (simp [*]; done)), (by first | rfl | (simp; done) | (simp [*]; done)), H', ⟨by have := HK1.out; have := HK2.out; have := HJ49.out; have := HJ56.out; omega⟩, ⟨by (with_reducible repeat (first | apply Kd.R_alloc | apply Kd.R_drewN | apply Kd.R_drew)); exact HO_6.out⟩, ⟨by repeat (first | (with_reducible first | exact HB.out | apply below_alloc | apply pw_below_drewN | apply below_drew1) | exact HB.out)⟩⟩)); (· replace c68 := Bool.eq_false_iff.mpr c68; subst c68; (have H1 : (some false) = some r := by rw [if_neg (show ¬ (false = true) by decide)] at H; exact H); clear H; have H := H1; clear H1; obtain rfl := Option.some.inj H; (try go_wp2); have n0_ := A' (Kd.R_drew HO_6.out); have n1_ := A' (below_drew1 HB.out); clear HO_6; clear HB; have HO_6 := n0_; have HB := n1_; clear n0_ n1_; have q74 : ((wrap64 (t159 + t158)) : Int) ≤ ((y146.length : Int) : Int) := of_decide_eq_true (by first | (with_reducible assumption) | assumption); obtain ⟨i074, hi074, _, hsz74, _⟩ := info_parts info5; have hroom74 : y146.length ≤ co51 := (Kd.R_reads' HO_6.out).2.1; have hC74 : Kd.C (Kd.int .u8) _ Ao51 y146.length y146 := (Kd.R_reads' HO_6.out).2.2; have ql74 : (t159 : Int) ≤ ((wrap64 (t159 + t158)) : Int) := of_decide_eq_true (by first | (with_reducible assumption) | assumption); have q074 : (0 : Int) ≤ (t159 : Int) := of_decide_eq_true (by first | (with_reducible assumption) | assumption); have hcut74 := cut_mid (P := Try.prog) 24 5 .i64 .i64 Try.underlying24 hi074 1 hsz74 Ao51 y146.length co51 t159 (wrap64 (t159 + t158)) q074 ql74 q74 hroom74; have hr74 := Kd.C_mid (lo := (t159 : Int).toNat) (hi := ((wrap64 (t159 + t158)) : Int).toNat) (c := co51) hC74 (by omega) (by omega) hroom74; obtain ⟨A74, hA74⟩ : ∃ A1, A1 = (if co51 = (t159 : Int).toNat then Ao51 else (Ao51 : Option Addr).map (·.add ((t159 : Int).toNat * 1))) := ⟨_, rfl⟩; obtain ⟨c74, hc74⟩ : ∃ c1, c1 = co51 - (t159 : Int).toNat := ⟨_, rfl⟩; (have hy74 : y162.length = ((wrap64 (t159 + t158)) : Int).toNat - (t159 : Int).toNat := (by rw [Ny162.out, List.length_drop, List.length_take] <;> omega)); rw [show ((y146).take ((wrap64 (t159 + t158)) : Int).toNat).drop (t159 : Int).toNat = y162 from Ny162.out.symm] at hr74; replace hr74 : Kd.C (Kd.int .u8) _ A74 y162.length y162 := (by rw [hA74]; exact hr74); rw [← hy74, ← hA74, ← hc74] at hcut74; have HR165 := A' hr74; have HC165 := A' (show y162.length ≤ c74 from by rw [hy74, hc74]; exact Nat.sub_le_sub_right (Nat.le_trans (by omega) hroom74) _); clear hr74 hC74 hroom74 hi074 hsz74 hc74; have KY74 := A' hy74; have KA74 := A' hA74; clear hy74 hA74; have KL74 := A' (show ((wrap64 (t159 + t158)) : Int).toNat ≤ y146.length from by omega); have KM74 := A' (show (t159 : Int).toNat ≤ ((wrap64 (t159 + t158)) : Int).toNat from by omega); replace q74 := eq_true q74; have p166 : 0 ≤ (x17_2 : Int) := of_decide_eq_true (by first | (with_reducible assumption) | assumption); have q166 : x17_2 < (l0.length : Int) := of_decide_eq_true (by first | (with_reducible assumption) | assumption); obtain ⟨ad166, A166_0, c166_0, e166, hx166_0, hl166_0, hi166_0⟩ := at_L4 HR0.out x17_2 p166 q166; have hw166_0 := hx166_0; cases e166; replace hx166_0 := (HB.out.cell (World.block_lt_of_cell? w _ hx166_0)).trans hx166_0; have HR166_0 := A' hi166_0; have HC166_0 := A' hl166_0; clear hi166_0 hl166_0; replace p166 := eq_true p166; replace q166 := eq_true q166; refine start_ (n := 18) (S := fun w' => w'.cell? (ad166.add (x17_2).toNat) = some (.slice A166_0 (rd_L4 l0 x17_2).length c166_0)) (ds := []) #[false, false, false, false, false, false, false, false, false, false, false, false, false, false, false, false, false, false] (by kernel_rfl) rfl rfl (((HB.out.cell (World.block_lt_of_cell? w _ hw166_0)).trans hw166_0)) (fun hHeld => ?_); refine with_tabW incunabletop_TopCodes.tab36 incunabletop_TopCodes.bits36 (fun HT_ HW_ => ?_); generalize wc.drew = w73 at HO_6 HB HR165 HR166_0 hx166_0 hHeld ⊢; refine pure_ (i := 0) (N := some 158) (v := ?_) (a' := ?_) (B' 18 1) rfl rfl (any_of HT_.out (by kernel_rfl)) (fun _ _ _ h => h) (Or.inl ⟨by rfl, ?_⟩) ?_ ?_; rotate_left; (intro w'; go_simp; with_reducible rfl); rotate_left; (simp only [Act.put, p1', p2', p3', i64_w, i32_w]; rfl); refine pure_ (i := 1) (N := some 159) (v := ?_) (a' := ?_) (B' 18 3) rfl rfl (any_of HT_.out (by kernel_rfl)) (fun _ _ _ h => h) (Or.inl ⟨by rfl, ?_⟩) ?_ ?_; rotate_left; (intro w'; go_simp; with_reducible rfl); rotate_left; (simp only [Act.put, p1', p2', p3', i64_w, i32_w]; rfl); refine pure_ (i := 2) (N := some 160) (v := ?_) (a' := ?_) (B' 18 7) rfl rfl (any_of HT_.out (by kernel_rfl)) (fun _ _ _ h => h) (Or.inl ⟨by rfl, ?_⟩) ?_ ?_; rotate_left; (intro w'; go_simp; with_reducible rfl); rotate_left; (simp only [Act.put, p1', p2', p3', i64_w, i32_w]; rfl); refine pure_ (i := 3) (N := some 161) (v := ?_) (a' := ?_) (B' 18 15) rfl rfl (any_of HT_.out (by kernel_rfl)) (fun _ _ _ h => h) (Or.inl ⟨by rfl, ?_⟩) ?_ ?_; rotate_left; (intro w'; go_simp; with_reducible rfl); rotate_left; (simp only [Act.put, p1', p2', p3', i64_w, i32_w]; rfl); refine pure_ (i := 4) (N := some 162) (v := ?_) (a' := ?_) (B' 18 31) rfl rfl (any_of HT_.out (by kernel_rfl)) (fun _ _ _ h => h) (Or.inl ⟨by rfl, ?_⟩) ?_ ?_; rotate_left; (intro w'; go_simp; with_reducible rfl); rotate_left; (simp only [Act.put, p1', p2', p3', i64_w, i32_w]; rfl); refine pure_ (i := 5) (N := some 163) (v := ?_) (a' := ?_) (B' 18 63) rfl rfl (any_of HT_.out (by kernel_rfl)) (fun _ _ _ h => h) (Or.inl ⟨by rfl, ?_⟩) ?_ ?_; rotate_left; (intro w'; go_simp; with_reducible rfl); rotate_left; (simp only [Act.put, p1', p2', p3', i64_w, i32_w]; rfl); refine pure_ (i := 6) (N := some 164) (v := ?_) (a' := ?_) (B' 18 127) rfl rfl (any_of HT_.out (by kernel_rfl)) (fun _ _ _ h => h) (Or.inl ⟨by rfl, ?_⟩) ?_ ?_; rotate_left; (intro w'; go_simp; with_reducible rfl); rotate_left; (simp only [Act.put, p1', p2', p3', i64_w, i32_w]; rfl); refine pure_ (i := 7) (N := some 165) (v := ?_) (a' := ?_) (B' 18 255) rfl rfl (any_of HT_.out (by kernel_rfl)) (fun _ _ _ h => h) (Or.inl ⟨by rfl, ?_⟩) ?_ ?_; rotate_left; (intro w'; go_simp; with_reducible rfl); rotate_left; (simp only [Act.put, p1', p2', p3', i64_w, i32_w]; rfl); refine pure_ (i := 8) (N := some 166) (v := ?_) (a' := ?_) (B' 18 511) rfl rfl (any_of HT_.out (by kernel_rfl)) (fun _ _ _ h => h) (Or.inl ⟨by rfl, ?_⟩) ?_ ?_; rotate_left; (intro w'; go_simp; with_reducible rfl); rotate_left; (simp only [Act.put, p1', p2', p3', i64_w, i32_w]; rfl); refine pure_ (i := 9) (N := some 167) (v := ?_) (a' := ?_) (B' 18 1023) rfl rfl (any_of HT_.out (by kernel_rfl)) (fun _ _ _ h => h) (Or.inl ⟨by rfl, ?_⟩) ?_ ?_; rotate_left; (intro w'; go_simp; with_reducible rfl); rotate_left; (simp only [Act.put, p1', p2', p3', i64_w, i32_w]; rfl); refine take_ (i := 10) (N := some 168) (v := ?_) (a' := ?_) (B' 18 2047) rfl rfl (take_ofW HT_.out HW_.out (by kernel_rfl)) (fun _ _ _ h => h) (Or.inl ⟨by rfl, ?_⟩) hHeld ?_ ?_; rotate_left; (intro w' s0; go_simp; with_reducible rfl); rotate_left; (simp only [Act.put, p1', p2', p3', i64_w, i32_w]; rfl); refine pure_ (i := 11) (N := some 169) (v := ?_) (a' := ?_) (B' 18 4095) rfl rfl (any_of HT_.out (by kernel_rfl)) (fun _ _ _ h => h) (Or.inl ⟨by rfl, ?_⟩) ?_ ?_; rotate_left; (intro w'; go_simp; with_reducible rfl); rotate_left; (simp only [Act.put, p1', p2', p3', i64_w, i32_w]; rfl); refine one_ (i := 12) (N := some 170) (B' 18 8191) rfl rfl (one_of HT_.out (by kernel_rfl)) (by decide) (fun K hK => ?_); refine goes_ Try.func10 (by kernel_rfl) rfl #[.int .i64 x21_56, .slice A74 y162.length c74, .int .i64 ((rd_L4 l0 x17_2).length : Int)] (by rfl) rfl rfl (by (try simp only [List.map_toArray, List.map_cons, List.map_nil]); first | done | rfl | (simp only [List.length_drop, List.length_take]; rfl)) ?_; (with_reducible refine (number_Decode.calls x21_56 _ _ y162 ((rd_L4 l0 x17_2).length : Int) t167 t168 _ ?side1 ?side2 A65.out).mono ?_); (case side1 => repeat (first | exact (by repeat (first | (with_reducible exact HR165.out) | (with_reducible refine Kd.C_alloc ?_ _) | (with_reducible refine Kd.C_drewN ?_ _) | (with_reducible refine Kd.C_drew ?_) | exact HR165.out)) | (with_reducible refine Kd.C_alloc ?_ _) | (with_reducible refine Kd.C_drewN ?_ _) | (with_reducible refine Kd.C_drew ?_))); (case side2 => exact HC165.out); rintro e w75 ⟨v169, rfl, ho0, hb⟩; refine ⟨_, rfl, ?_⟩; have n0_ := A' (Kd.R_below (by (with_reducible repeat (first | apply Kd.R_alloc | apply Kd.R_drewN | apply Kd.R_drew)); exact HO_6.out) hb); have n1_ := A' (Kd.R_lower ho0 (below_size (by repeat (first | (with_reducible first | exact HB.out | apply below_alloc | apply pw_below_drewN | apply below_drew1) | exact HB.out)))); have n2_ := A' (Kd.C_below (by repeat (first | (with_reducible exact HR165.out) | (with_reducible refine Kd.C_alloc ?_ _) | (with_reducible refine Kd.C_drewN ?_ _) | (with_reducible refine Kd.C_drew ?_) | exact HR165.out)) hb); have n3_ := A' (below_step (by repeat (first | (with_reducible first | exact HB.out | apply below_alloc | apply pw_below_drewN | apply below_drew1) | exact HB.out)) hb); clear HO_6; clear HR165; clear HB; have HO_6 := n0_; have HO170 := n1_; have HR165 := n2_; have HB := n3_; clear n0_ n1_ n2_ n3_; (try clear hb); (try clear hb2); (try clear hk); (try clear hi); (try clear ho0); refine hK.out _ _ (((HB.out.cell (World.block_lt_of_cell? w _ hw166_0)).trans hw166_0)) (fun hHeld => ?_); clear hK K; refine norm_ (a' := ?_) ?_ ?_; rotate_left; (show Act.put _ (some 170) _ = _; simp only [Act.put, p1', p2', p3', i64_w, i32_w]; rfl); refine pure_ (i := 13) (N := some 157) (v := ?_) (a' := ?_) (B' 18 16383) rfl rfl (any_of HT_.out (by kernel_rfl)) (fun _ _ _ h => h) (Or.inl ⟨by rfl, ?_⟩) ?_ ?_; rotate_left; (intro w'; go_simp; with_reducible rfl); rotate_left; (simp only [Act.put, p1', p2', p3', i64_w, i32_w]; rfl); refine pure_ (i := 14) (N := some 171) (v := ?_) (a' := ?_) (B' 18 32767) rfl rfl (any_of HT_.out (by kernel_rfl)) (fun _ _ _ h => h) (Or.inl ⟨by rfl, ?_⟩) ?_ ?_; rotate_left; (intro w'; go_simp; with_reducible rfl); rotate_left; (simp only [Act.put, p1', p2', p3', i64_w, i32_w]; rfl); refine pure_ (i := 15) (N := some 172) (v := ?_) (a' := ?_) (B' 18 65535) rfl rfl (any_of HT_.out (by kernel_rfl)) (fun _ _ _ h => h) (Or.inl ⟨by rfl, ?_⟩) ?_ ?_; rotate_left; (intro w'; go_simp; with_reducible rfl); rotate_left; (simp only [Act.put, p1', p2', p3', i64_w, i32_w]; rfl); refine pure_ (i := 16) (N := some 22) (v := ?_) (a' := ?_) (B' 18 131071) rfl rfl (any_of HT_.out (by kernel_rfl)) (fun _ _ _ h => h) (Or.inl ⟨by rfl, ?_⟩) ?_ ?_; rotate_left; (intro w'; go_simp; with_reducible rfl); rotate_left; (simp only [Act.put, p1', p2', p3', i64_w, i32_w]; rfl); refine pure_ (i := 17) (N := some 20) (v := ?_) (a' := ?_) (B' 18 262143) rfl rfl (any_of HT_.out (by kernel_rfl)) (fun _ _ _ h => h) (Or.inl ⟨by rfl, ?_⟩) ?_ ?_; rotate_left; (intro w'; go_simp; with_reducible rfl); rotate_left; (simp only [Act.put, p1', p2', p3', i64_w, i32_w]; rfl); refine done_ (done_of HT_.out (by kernel_rfl)) ?_; have p171 : 0 ≤ (x17_2 : Int) := of_decide_eq_true (by first | (with_reducible assumption) | assumption); have q171 : x17_2 < (l0.length : Int) := of_decide_eq_true (by first | (with_reducible assumption) | assumption); obtain ⟨ad171, A171_0, c171_0, e171, hx171_0, hl171_0, hi171_0⟩ := at_L4 HR0.out x17_2 p171 q171; obtain rfl : ad166 = ad171 := (by injection e171); replace hx171_0 := (HB.out.cell (World.block_lt_of_cell? w _ hx171_0)).trans hx171_0; have HR171_0 := A' hi171_0; have HC171_0 := A' hl171_0; clear hi171_0 hl171_0; replace p171 := eq_true p171; replace q171 := eq_true q171; obtain ⟨Ao76, co76, eo76⟩ := Kd.R_slice HO170.out; subst eo76; (try go_wp2_with (first | (go_at_call 11; (with_reducible refine (incunableref03_Same.calls kj56 _ _ t167 _ _ (rd_L4 l0 x17_2) false _ ?side1 ?side2 ?side3 ?side4 A67.out).mono ?_); (case side1 => repeat (first | exact (Kd.R_reads' HO170.out).2.2 | (with_reducible refine Kd.C_alloc ?_ _) | (with_reducible refine Kd.C_drewN ?_ _) | (with_reducible refine Kd.C_drew ?_))); (case side2 => exact (Kd.R_reads' HO170.out).2.1); (case side3 => repeat (first | exact (Kd.C_below HR166_0.out HB.out) | (with_reducible refine Kd.C_alloc ?_ _) | (with_reducible refine Kd.C_drewN ?_ _) | (with_reducible refine Kd.C_drew ?_))); (case side4 => exact HC166_0.out); rintro e w' ⟨rfl, ⟨nd, rfl⟩⟩))); go_ret; (exact ⟨by first | rfl | (simp [errW_none, errW_some] <;> rfl) | (simp [*, errW_none, errW_some] <;> rfl), by repeat (first | (with_reducible first | exact HB.out | apply below_alloc | apply pw_below_drewN | apply below_drew1) | exact HB.out)⟩))); (· rw [if_neg c66] at H; have c66b0 : (t168 == 0) = false := beq_eq_false_iff_ne.mpr c66; have c66b1 : (t168 != 0) = true := bne_iff_ne.mpr c66; obtain rfl := Option.some.inj H; (try go_wp2); have n0_ := A' (Kd.R_drew HO_6.out); have n1_ := A' (below_drew1 HB.out); clear HO_6; clear HB; have HO_6 := n0_; have HB := n1_; clear n0_ n1_; have q78 : ((wrap64 (t159 + t158)) : Int) ≤ ((y146.length : Int) : Int) := of_decide_eq_true (by first | (with_reducible assumption) | assumption); obtain ⟨i078, hi078, _, hsz78, _⟩ := info_parts info5; have hroom78 : y146.length ≤ co51 := (Kd.R_reads' HO_6.out).2.1; have hC78 : Kd.C (Kd.int .u8) _ Ao51 y146.length y146 := (Kd.R_reads' HO_6.out).2.2; have ql78 : (t159 : Int) ≤ ((wrap64 (t159 + t158)) : Int) := of_decide_eq_true (by first | (with_reducible assumption) | assumption); have q078 : (0 : Int) ≤ (t159 : Int) := of_decide_eq_true (by first | (with_reducible assumption) | assumption); have hcut78 := cut_mid (P := Try.prog) 24 5 .i64 .i64 Try.underlying24 hi078 1 hsz78 Ao51 y146.length co51 t159 (wrap64 (t159 + t158)) q078 ql78 q78 hroom78; have hr78 := Kd.C_mid (lo := (t159 : Int).toNat) (hi := ((wrap64 (t159 + t158)) : Int).toNat) (c := co51) hC78 (by omega) (by omega) hroom78; obtain ⟨A78, hA78⟩ : ∃ A1, A1 = (if co51 = (t159 : Int).toNat then Ao51 else (Ao51 : Option Addr).map (·.add ((t159 : Int).toNat * 1))) := ⟨_, rfl⟩; obtain ⟨c78, hc78⟩ : ∃ c1, c1 = co51 - (t159 : Int).toNat := ⟨_, rfl⟩; (have hy78 : y162.length = ((wrap64 (t159 + t158)) : Int).toNat - (t159 : Int).toNat := (by rw [Ny162.out, List.length_drop, List.length_take] <;> omega)); rw [show ((y146).take ((wrap64 (t159 + t158)) : Int).toNat).drop (t159 : Int).toNat = y162 from Ny162.out.symm] at hr78; replace hr78 : Kd.C (Kd.int .u8) _ A78 y162.length y162 := (by rw [hA78]; exact hr78); rw [← hy78, ← hA78, ← hc78] at hcut78; have HR165 := A' hr78; have HC165 := A' (show y162.length ≤ c78 from by rw [hy78, hc78]; exact Nat.sub_le_sub_right (Nat.le_trans (by omega) hroom78) _); clear hr78 hC78 hroom78 hi078 hsz78 hc78; have KY78 := A' hy78; have KA78 := A' hA78; clear hy78 hA78; have KL78 := A' (show ((wrap64 (t159 + t158)) : Int).toNat ≤ y146.length from by omega); have KM78 := A' (show (t159 : Int).toNat ≤ ((wrap64 (t159 + t158)) : Int).toNat from by omega); replace q78 := eq_true q78; have p166 : 0 ≤ (x17_2 : Int) := of_decide_eq_true (by first | (with_reducible assumption) | assumption); have q166 : x17_2 < (l0.length : Int) := of_decide_eq_true (by first | (with_reducible assumption) | assumption); obtain ⟨ad166, A166_0, c166_0, e166, hx166_0, hl166_0, hi166_0⟩ := at_L4 HR0.out x17_2 p166 q166; have hw166_0 := hx166_0; cases e166; replace hx166_0 := (HB.out.cell (World.block_lt_of_cell? w _ hx166_0)).trans hx166_0; have HR166_0 := A' hi166_0; have HC166_0 := A' hl166_0; clear hi166_0 hl166_0; replace p166 := eq_true p166; replace q166 := eq_true q166; refine start_ (n := 18) (S := fun w' => w'.cell? (ad166.add (x17_2).toNat) = some (.slice A166_0 (rd_L4 l0 x17_2).length c166_0)) (ds := []) #[false, false, false, false, false, false, false, false, false, false, false, false, false, false, false, false, false, false] (by kernel_rfl) rfl rfl (((HB.out.cell (World.block_lt_of_cell? w _ hw166_0)).trans hw166_0)) (fun hHeld => ?_); refine with_tabW incunabletop_TopCodes.tab36 incunabletop_TopCodes.bits36 (fun HT_ HW_ => ?_); generalize wc.drew = w77 at HO_6 HB HR165 HR166_0 hx166_0 hHeld ⊢; refine pure_ (i := 0) (N := some 158) (v := ?_) (a' := ?_) (B' 18 1) rfl rfl (any_of HT_.out (by kernel_rfl)) (fun _ _ _ h => h) (Or.inl ⟨by rfl, ?_⟩) ?_ ?_; rotate_left; (intro w'; go_simp; with_reducible rfl); rotate_left; (simp only [Act.put, p1', p2', p3', i64_w, i32_w]; rfl); refine pure_ (i := 1) (N := some 159) (v := ?_) (a' := ?_) (B' 18 3) rfl rfl (any_of HT_.out (by kernel_rfl)) (fun _ _ _ h => h) (Or.inl ⟨by rfl, ?_⟩) ?_ ?_; rotate_left; (intro w'; go_simp; with_reducible rfl); rotate_left; (simp only [Act.put, p1', p2', p3', i64_w, i32_w]; rfl); refine pure_ (i := 2) (N := some 160) (v := ?_) (a' := ?_) (B' 18 7) rfl rfl (any_of HT_.out (by kernel_rfl)) (fun _ _ _ h => h) (Or.inl ⟨by rfl, ?_⟩) ?_ ?_; rotate_left; (intro w'; go_simp; with_reducible rfl); rotate_left; (simp only [Act.put, p1', p2', p3', i64_w, i32_w]; rfl); refine pure_ (i := 3) (N := some 161) (v := ?_) (a' := ?_) (B' 18 15) rfl rfl (any_of HT_.out (by kernel_rfl)) (fun _ _ _ h => h) (Or.inl ⟨by rfl, ?_⟩) ?_ ?_; rotate_left; (intro w'; go_simp; with_reducible rfl); rotate_left; (simp only [Act.put, p1', p2', p3', i64_w, i32_w]; rfl); refine pure_ (i := 4) (N := some 162) (v := ?_) (a' := ?_) (B' 18 31) rfl rfl (any_of HT_.out (by kernel_rfl)) (fun _ _ _ h => h) (Or.inl ⟨by rfl, ?_⟩) ?_ ?_; rotate_left; (intro w'; go_simp; with_reducible rfl); rotate_left; (simp only [Act.put, p1', p2', p3', i64_w, i32_w]; rfl); refine pure_ (i := 5) (N := some 163) (v := ?_) (a' := ?_) (B' 18 63) rfl rfl (any_of HT_.out (by kernel_rfl)) (fun _ _ _ h => h) (Or.inl ⟨by rfl, ?_⟩) ?_ ?_; rotate_left; (intro w'; go_simp; with_reducible rfl); rotate_left; (simp only [Act.put, p1', p2', p3', i64_w, i32_w]; rfl); refine pure_ (i := 6) (N := some 164) (v := ?_) (a' := ?_) (B' 18 127) rfl rfl (any_of HT_.out (by kernel_rfl)) (fun _ _ _ h => h) (Or.inl ⟨by rfl, ?_⟩) ?_ ?_; rotate_left; (intro w'; go_simp; with_reducible rfl); rotate_left; (simp only [Act.put, p1', p2', p3', i64_w, i32_w]; rfl); refine pure_ (i := 7) (N := some 165) (v := ?_) (a' := ?_) (B' 18 255) rfl rfl (any_of HT_.out (by kernel_rfl)) (fun _ _ _ h => h) (Or.inl ⟨by rfl, ?_⟩) ?_ ?_; rotate_left; (intro w'; go_simp; with_reducible rfl); rotate_left; (simp only [Act.put, p1', p2', p3', i64_w, i32_w]; rfl); refine pure_ (i := 8) (N := some 166) (v := ?_) (a' := ?_) (B' 18 511) rfl rfl (any_of HT_.out (by kernel_rfl)) (fun _ _ _ h => h) (Or.inl ⟨by rfl, ?_⟩) ?_ ?_; rotate_left; (intro w'; go_simp; with_reducible rfl); rotate_left; (simp only [Act.put, p1', p2', p3', i64_w, i32_w]; rfl); refine pure_ (i := 9) (N := some 167) (v := ?_) (a' := ?_) (B' 18 1023) rfl rfl (any_of HT_.out (by kernel_rfl)) (fun _ _ _ h => h) (Or.inl ⟨by rfl, ?_⟩) ?_ ?_; rotate_left; (intro w'; go_simp; with_reducible rfl); rotate_left; (simp only [Act.put, p1', p2', p3', i64_w, i32_w]; rfl); refine take_ (i := 10) (N := some 168) (v := ?_) (a' := ?_) (B' 18 2047) rfl rfl (take_ofW HT_.out HW_.out (by kernel_rfl)) (fun _ _ _ h => h) (Or.inl ⟨by rfl, ?_⟩) hHeld ?_ ?_; rotate_left; (intro w' s0; go_simp; with_reducible rfl); rotate_left; (simp only [Act.put, p1', p2', p3', i64_w, i32_w]; rfl); refine pure_ (i := 11) (N := some 169) (v := ?_) (a' := ?_) (B' 18 4095) rfl rfl (any_of HT_.out (by kernel_rfl)) (fun _ _ _ h => h) (Or.inl ⟨by rfl, ?_⟩) ?_ ?_; rotate_left; (intro w'; go_simp; with_reducible rfl); rotate_left; (simp only [Act.put, p1', p2', p3', i64_w, i32_w]; rfl); refine one_ (i := 12) (N := some 170) (B' 18 8191) rfl rfl (one_of HT_.out (by kernel_rfl)) (by decide) (fun K hK => ?_); refine goes_ Try.func10 (by kernel_rfl) rfl #[.int .i64 x21_56, .slice A78 y162.length c78, .int .i64 ((rd_L4 l0 x17_2).length : Int)] (by rfl) rfl rfl (by (try simp only [List.map_toArray, List.map_cons, List.map_nil]); first | done | rfl | (simp only [List.length_drop, List.length_take]; rfl)) ?_; (with_reducible refine (number_Decode.calls x21_56 _ _ y162 ((rd_L4 l0 x17_2).length : Int) t167 t168 _ ?side1 ?side2 A65.out).mono ?_); (case side1 => repeat (first | exact (by repeat (first | (with_reducible exact HR165.out) | (with_reducible refine Kd.C_alloc ?_ _) | (with_reducible refine Kd.C_drewN ?_ _) | (with_reducible refine Kd.C_drew ?_) | exact HR165.out)) | (with_reducible refine Kd.C_alloc ?_ _) | (with_reducible refine Kd.C_drewN ?_ _) | (with_reducible refine Kd.C_drew ?_))); (case side2 => exact HC165.out); rintro e w79 ⟨v169, rfl, ho0, hb⟩; refine ⟨_, rfl, ?_⟩; have n0_ := A' (Kd.R_below (by (with_reducible repeat (first | apply Kd.R_alloc | apply Kd.R_drewN | apply Kd.R_drew)); exact HO_6.out) hb); have n1_ := A' (Kd.R_lower ho0 (below_size (by repeat (first | (with_reducible first | exact HB.out | apply below_alloc | apply pw_below_drewN | apply below_drew1) | exact HB.out)))); have n2_ := A' (Kd.C_below (by repeat (first | (with_reducible exact HR165.out) | (with_reducible refine Kd.C_alloc ?_ _) | (with_reducible refine Kd.C_drewN ?_ _) | (with_reducible refine Kd.C_drew ?_) | exact HR165.out)) hb); have n3_ := A' (below_step (by repeat (first | (with_reducible first | exact HB.out | apply below_alloc | apply pw_below_drewN | apply below_drew1) | exact HB.out)) hb); clear HO_6; clear HR165; clear HB; have HO_6 := n0_; have HO170 := n1_; have HR165 := n2_; have HB := n3_; clear n0_ n1_ n2_ n3_; (try clear hb); (try clear hb2); (try clear hk); (try clear hi); (try clear ho0); refine hK.out _ _ (((HB.out.cell (World.block_lt_of_cell? w _ hw166_0)).trans hw166_0)) (fun hHeld => ?_); clear hK K; refine norm_ (a' := ?_) ?_ ?_; rotate_left; (show Act.put _ (some 170) _ = _; simp only [Act.put, p1', p2', p3', i64_w, i32_w]; rfl); refine pure_ (i := 13) (N := some 157) (v := ?_) (a' := ?_) (B' 18 16383) rfl rfl (any_of HT_.out (by kernel_rfl)) (fun _ _ _ h => h) (Or.inl ⟨by rfl, ?_⟩) ?_ ?_; rotate_left; (intro w'; go_simp; with_reducible rfl); rotate_left; (simp only [Act.put, p1', p2', p3', i64_w, i32_w]; rfl); refine pure_ (i := 14) (N := some 171) (v := ?_) (a' := ?_) (B' 18 32767) rfl rfl (any_of HT_.out (by kernel_rfl)) (fun _ _ _ h => h) (Or.inl ⟨by rfl, ?_⟩) ?_ ?_; rotate_left; (intro w'; go_simp; with_reducible rfl); rotate_left; (simp only [Act.put, p1', p2', p3', i64_w, i32_w]; rfl); refine pure_ (i := 15) (N := some 172) (v := ?_) (a' := ?_) (B' 18 65535) rfl rfl (any_of HT_.out (by kernel_rfl)) (fun _ _ _ h => h) (Or.inl ⟨by rfl, ?_⟩) ?_ ?_; rotate_left; (intro w'; go_simp; with_reducible rfl); rotate_left; (simp only [Act.put, p1', p2', p3', i64_w, i32_w]; rfl); refine pure_ (i := 16) (N := some 22) (v := ?_) (a' := ?_) (B' 18 131071) rfl rfl (any_of HT_.out (by kernel_rfl)) (fun _ _ _ h => h) (Or.inl ⟨by rfl, ?_⟩) ?_ ?_; rotate_left; (intro w'; go_simp; with_reducible rfl); rotate_left; (simp only [Act.put, p1', p2', p3', i64_w, i32_w]; rfl); refine pure_ (i := 17) (N := some 20) (v := ?_) (a' := ?_) (B' 18 262143) rfl rfl (any_of HT_.out (by kernel_rfl)) (fun _ _ _ h => h) (Or.inl ⟨by rfl, ?_⟩) ?_ ?_; rotate_left; (intro w'; go_simp; with_reducible rfl); rotate_left; (simp only [Act.put, p1', p2', p3', i64_w, i32_w]; rfl); refine done_ (done_of HT_.out (by kernel_rfl)) ?_; (try go_wp2); go_ret; (exact ⟨by first | rfl | (simp [errW_none, errW_some] <;> rfl) | (simp [*, errW_none, errW_some] <;> rfl), by repeat (first | (with_reducible first | exact HB.out | apply below_alloc | apply pw_below_drewN | apply below_drew1) | exact HB.out)⟩))); (· rw [if_neg c64] at H; exact absurd H (by simp))); (· rw [if_neg c63] at H; exact absurd H (by simp))); (· rw [if_neg c62] at H; exact absurd H (by simp))); (· rw [if_neg c61] at H; exact absurd H (by simp)))
                   (· rw [if_neg c60] at H; exact absurd H (by simp))
           (· rw [if_neg c48] at H; have c48b0 : decide (x17_2 < (l0.length : Int)) = false := decide_eq_false c48; clear c48; replace H := Option.bind_eq_some_iff.mp H; obtain ⟨⟨t149, t150, t151⟩, A800, H⟩ := H; replace H : (if t151 = 0 then (if t150 = (y146.length : Int) then (if 0 ≤ x16_2 then (if x16_2 ≤ (y146.length : Int) then ((bits_Sum.f k2 (y146.take (x16_2 : Int).toNat)).bind fun t156 => (if t149 = t156 then ((incunablelaw03_Sane.f).bind fun t157 => (some t157)) else (some false))) else (none)) else (none)) else (some false)) else (some false)) = some r := H; have A80 := A' A800; clear A800; by_cases c81 : t151 = 0; (· rw [if_pos c81] at H; have c81b0 : (t151 == 0) = true := beq_iff_eq.mpr c81; have c81b1 : (t151 != 0) = false := bne_eq_false_iff_eq.mpr c81; clear c81; by_cases c82 : t150 = (y146.length : Int); (· rw [if_pos c82] at H; have c82b0 : (t150 == (y146.length : Int)) = true := beq_iff_eq.mpr c82; have c82b1 : (t150 != (y146.length : Int)) = false := bne_eq_false_iff_eq.mpr c82; clear c82; by_cases c83 : 0 ≤ x16_2; (· rw [if_pos c83] at H; have c83b0 := eq_true c83; have c83b1 : decide (0 ≤ x16_2) = true := decide_eq_true c83; clear c83; by_cases c84 : x16_2 ≤ (y146.length : Int); (· rw [if_pos c84] at H; have c84b0 := eq_true c84; have c84b1 : decide (x16_2 ≤ (y146.length : Int)) = true := decide_eq_true c84; clear c84; obtain ⟨y152, hy152⟩ : ∃ y_ : List Int, y_ = (y146.take (x16_2 : Int).toNat) := ⟨_, rfl⟩; (replace H : ((bits_Sum.f k2 y152).bind fun t156 => (if t149 = t156 then ((incunablelaw03_Sane.f).bind fun t157 => (some t157)) else (some false))) = some r := by first | (rw [hy152]; with_reducible exact H) | (have H2_ := (Option.bind_some _ _).symm.trans H; rw [hy152]; with_reducible exact H2_) | (have H2_ := (Option.bind_some _ _).symm.trans H; with_reducible exact H2_) | with_reducible exact H | (rw [hy152]; exact H) | exact H); have Ny152 := A' hy152; clear hy152; replace H := Option.bind_eq_some_iff.mp H; obtain ⟨t156, A850, H⟩ := H; replace H : (if t149 = t156 then ((incunablelaw03_Sane.f).bind fun t157 => (some t157)) else (some false)) = some r := H; have A85 := A' A850; clear A850; by_cases c86 : t149 = t156; (· rw [if_pos c86] at H; have c86b0 : (t149 == t156) = true := beq_iff_eq.mpr c86; have c86b1 : (t149 != t156) = false := bne_eq_false_iff_eq.mpr c86; clear c86; replace H := Option.bind_eq_some_iff.mp H; obtain ⟨t157, A870, H⟩ := H; replace H : (some t157) = some r := H; have A87 := A' A870; clear A870; obtain rfl := Option.some.inj H; obtain ⟨Ao88, co88, eo88⟩ := Kd.R_slice HO_6.out; subst eo88; go_wp2_with (first | ((with_reducible refine gate_callee (f := 9) rfl ?_); refine goesL_ (some 190) rfl rfl Try.func9 (by kernel_rfl) rfl #[.slice Ao88 y146.length co88, .int .i64 x16_2] rfl (by (try simp only [List.map_toArray, List.map_cons, List.map_nil]); first | done | rfl | (simp only [List.length_drop, List.length_take]; rfl)) ?_; (with_reducible refine (bits_GetSize.calls k2 _ _ y146 x16_2 t149 t150 t151 _ ?side1 ?side2 A80.out).mono ?_); (case side1 => repeat (first | exact (Kd.R_reads' HO_6.out).2.2 | (with_reducible refine Kd.C_alloc ?_ _) | (with_reducible refine Kd.C_drewN ?_ _) | (with_reducible refine Kd.C_drew ?_))); (case side2 => exact (Kd.R_reads' HO_6.out).2.1); rintro e w' ⟨rfl, ⟨nd, rfl⟩⟩; refine ⟨_, rfl, ?_⟩; have q89 : (x16_2 : Int) ≤ ((y146.length : Int) : Int) := of_decide_eq_true (by first | (with_reducible assumption) | assumption); obtain ⟨i089, hi089, _, hsz89, _⟩ := info_parts info5; have hroom89 : y146.length ≤ co88 := (Kd.R_reads' HO_6.out).2.1; have hC89 : Kd.C (Kd.int .u8) _ Ao88 y146.length y146 := (Kd.R_reads' HO_6.out).2.2; have hcut89 := cut_to (P := Try.prog) 24 5 .i64 Try.underlying24 hi089 Ao88 y146.length co88 x16_2 (of_decide_eq_true (by first | (with_reducible assumption) | assumption)) q89 hroom89; have hr89 := Kd.C_take (m := (x16_2 : Int).toNat) hC89 (by omega); have hy89 : y152.length = (x16_2 : Int).toNat := (by rw [Ny152.out, List.length_take]; omega); rw [← Ny152.out] at hr89; rw [← hy89] at hcut89; have HR155 := A' hr89; have HC155 := A' (show y152.length ≤ co88 from by omega); clear hr89 hC89 hroom89 hi089 hsz89; have KY89 := A' hy89; clear hy89; have KL89 := A' (show (x16_2 : Int).toNat ≤ y146.length from by omega); replace q89 := eq_true q89) | (go_at_call 8; (with_reducible refine (bits_Sum.calls k2 _ _ y152 t156 _ ?side1 ?side2 A85.out).mono ?_); (case side1 => repeat (first | exact (by repeat (first | (with_reducible exact HR155.out) | (with_reducible refine Kd.C_alloc ?_ _) | (with_reducible refine Kd.C_drewN ?_ _) | (with_reducible refine Kd.C_drew ?_) | exact HR155.out)) | (with_reducible refine Kd.C_alloc ?_ _) | (with_reducible refine Kd.C_drewN ?_ _) | (with_reducible refine Kd.C_drew ?_))); (case side2 => exact HC155.out); rintro e w' ⟨rfl, ⟨nd, rfl⟩⟩) | (go_at_call 5; (with_reducible refine (incunablelaw03_Sane.calls  t157 _ A87.out).mono ?_); rintro e w90 ⟨rfl, hb⟩; have n0_ := A' (Kd.R_below (by (with_reducible repeat (first | apply Kd.R_alloc | apply Kd.R_drewN | apply Kd.R_drew)); exact HO_6.out) hb); have n1_ := A' (Kd.C_below (by repeat (first | (with_reducible exact HR155.out) | (with_reducible refine Kd.C_alloc ?_ _) | (with_reducible refine Kd.C_drewN ?_ _) | (with_reducible refine Kd.C_drew ?_) | exact HR155.out)) hb); have n2_ := A' (below_step (by repeat (first | (with_reducible first | exact HB.out | apply below_alloc | apply pw_below_drewN | apply below_drew1) | exact HB.out)) hb); clear HO_6; clear HR155; clear HB; have HO_6 := n0_; have HR155 := n1_; have HB := n2_; clear n0_ n1_ n2_; (try clear hb); (try clear hb2); (try clear hk); (try clear hi))); go_ret; (exact ⟨by first | rfl | (simp [errW_none, errW_some] <;> rfl) | (simp [*, errW_none, errW_some] <;> rfl), by repeat (first | (with_reducible first | exact HB.out | apply below_alloc | apply pw_below_drewN | apply below_drew1) | exact HB.out)⟩)); (· rw [if_neg c86] at H; have c86b0 : (t149 == t156) = false := beq_eq_false_iff_ne.mpr c86; have c86b1 : (t149 != t156) = true := bne_iff_ne.mpr c86; obtain rfl := Option.some.inj H; obtain ⟨Ao91, co91, eo91⟩ := Kd.R_slice HO_6.out; subst eo91; go_wp2_with (first | ((with_reducible refine gate_callee (f := 9) rfl ?_); refine goesL_ (some 190) rfl rfl Try.func9 (by kernel_rfl) rfl #[.slice Ao91 y146.length co91, .int .i64 x16_2] rfl (by (try simp only [List.map_toArray, List.map_cons, List.map_nil]); first | done | rfl | (simp only [List.length_drop, List.length_take]; rfl)) ?_; (with_reducible refine (bits_GetSize.calls k2 _ _ y146 x16_2 t149 t150 t151 _ ?side1 ?side2 A80.out).mono ?_); (case side1 => repeat (first | exact (Kd.R_reads' HO_6.out).2.2 | (with_reducible refine Kd.C_alloc ?_ _) | (with_reducible refine Kd.C_drewN ?_ _) | (with_reducible refine Kd.C_drew ?_))); (case side2 => exact (Kd.R_reads' HO_6.out).2.1); rintro e w' ⟨rfl, ⟨nd, rfl⟩⟩; refine ⟨_, rfl, ?_⟩; have q92 : (x16_2 : Int) ≤ ((y146.length : Int) : Int) := of_decide_eq_true (by first | (with_reducible assumption) | assumption); obtain ⟨i092, hi092, _, hsz92, _⟩ := info_parts info5; have hroom92 : y146.length ≤ co91 := (Kd.R_reads' HO_6.out).2.1; have hC92 : Kd.C (Kd.int .u8) _ Ao91 y146.length y146 := (Kd.R_reads' HO_6.out).2.2; have hcut92 := cut_to (P := Try.prog) 24 5 .i64 Try.underlying24 hi092 Ao91 y146.length co91 x16_2 (of_decide_eq_true (by first | (with_reducible assumption) | assumption)) q92 hroom92; have hr92 := Kd.C_take (m := (x16_2 : Int).toNat) hC92 (by omega); have hy92 : y152.length = (x16_2 : Int).toNat := (by rw [Ny152.out, List.length_take]; omega); rw [← Ny152.out] at hr92; rw [← hy92] at hcut92; have HR155 := A' hr92; have HC155 := A' (show y152.length ≤ co91 from by omega); clear hr92 hC92 hroom92 hi092 hsz92; have KY92 := A' hy92; clear hy92; have KL92 := A' (show (x16_2 : Int).toNat ≤ y146.length from by omega); replace q92 := eq_true q92) | (go_at_call 8; (with_reducible refine (bits_Sum.calls k2 _ _ y152 t156 _ ?side1 ?side2 A85.out).mono ?_); (case side1 => repeat (first | exact (by repeat (first | (with_reducible exact HR155.out) | (with_reducible refine Kd.C_alloc ?_ _) | (with_reducible refine Kd.C_drewN ?_ _) | (with_reducible refine Kd.C_drew ?_) | exact HR155.out)) | (with_reducible refine Kd.C_alloc ?_ _) | (with_reducible refine Kd.C_drewN ?_ _) | (with_reducible refine Kd.C_drew ?_))); (case side2 => exact HC155.out); rintro e w' ⟨rfl, ⟨nd, rfl⟩⟩)); go_ret; (exact ⟨by first | rfl | (simp [errW_none, errW_some] <;> rfl) | (simp [*, errW_none, errW_some] <;> rfl), by repeat (first | (with_reducible first | exact HB.out | apply below_alloc | apply pw_below_drewN | apply below_drew1) | exact HB.out)⟩))); (· rw [if_neg c84] at H; exact absurd H (by simp))); (· rw [if_neg c83] at H; exact absurd H (by simp))); (· rw [if_neg c82] at H; have c82b0 : (t150 == (y146.length : Int)) = false := beq_eq_false_iff_ne.mpr c82; have c82b1 : (t150 != (y146.length : Int)) = true := bne_iff_ne.mpr c82; obtain rfl := Option.some.inj H; obtain ⟨Ao93, co93, eo93⟩ := Kd.R_slice HO_6.out; subst eo93; go_wp2_with (first | ((with_reducible refine gate_callee (f := 9) rfl ?_); refine goesL_ (some 190) rfl rfl Try.func9 (by kernel_rfl) rfl #[.slice Ao93 y146.length co93, .int .i64 x16_2] rfl (by (try simp only [List.map_toArray, List.map_cons, List.map_nil]); first | done | rfl | (simp only [List.length_drop, List.length_take]; rfl)) ?_; (with_reducible refine (bits_GetSize.calls k2 _ _ y146 x16_2 t149 t150 t151 _ ?side1 ?side2 A80.out).mono ?_); (case side1 => repeat (first | exact (Kd.R_reads' HO_6.out).2.2 | (with_reducible refine Kd.C_alloc ?_ _) | (with_reducible refine Kd.C_drewN ?_ _) | (with_reducible refine Kd.C_drew ?_))); (case side2 => exact (Kd.R_reads' HO_6.out).2.1); rintro e w' ⟨rfl, ⟨nd, rfl⟩⟩; refine ⟨_, rfl, ?_⟩)); go_ret; (exact ⟨by first | rfl | (simp [errW_none, errW_some] <;> rfl) | (simp [*, errW_none, errW_some] <;> rfl), by repeat (first | (with_reducible first | exact HB.out | apply below_alloc | apply pw_below_drewN | apply below_drew1) | exact HB.out)⟩))); (· rw [if_neg c81] at H; have c81b0 : (t151 == 0) = false := beq_eq_false_iff_ne.mpr c81; have c81b1 : (t151 != 0) = true := bne_iff_ne.mpr c81; obtain rfl := Option.some.inj H; obtain ⟨Ao94, co94, eo94⟩ := Kd.R_slice HO_6.out; subst eo94; go_wp2_with (first | ((with_reducible refine gate_callee (f := 9) rfl ?_); refine goesL_ (some 190) rfl rfl Try.func9 (by kernel_rfl) rfl #[.slice Ao94 y146.length co94, .int .i64 x16_2] rfl (by (try simp only [List.map_toArray, List.map_cons, List.map_nil]); first | done | rfl | (simp only [List.length_drop, List.length_take]; rfl)) ?_; (with_reducible refine (bits_GetSize.calls k2 _ _ y146 x16_2 t149 t150 t151 _ ?side1 ?side2 A80.out).mono ?_); (case side1 => repeat (first | exact (Kd.R_reads' HO_6.out).2.2 | (with_reducible refine Kd.C_alloc ?_ _) | (with_reducible refine Kd.C_drewN ?_ _) | (with_reducible refine Kd.C_drew ?_))); (case side2 => exact (Kd.R_reads' HO_6.out).2.1); rintro e w' ⟨rfl, ⟨nd, rfl⟩⟩; refine ⟨_, rfl, ?_⟩)); go_ret; (exact ⟨by first | rfl | (simp [errW_none, errW_some] <;> rfl) | (simp [*, errW_none, errW_some] <;> rfl), by repeat (first | (with_reducible first | exact HB.out | apply below_alloc | apply pw_below_drewN | apply below_drew1) | exact HB.out)⟩)))
       (· rw [if_neg c43] at H; exact absurd H (by simp))
     (· rw [if_neg c42] at H; have c42b0 : (t143 == 0) = false := beq_eq_false_iff_ne.mpr c42; have c42b1 : (t143 != 0) = true := bne_iff_ne.mpr c42; obtain rfl := Option.some.inj H; obtain ⟨Ao95, co95, eo95⟩ := Kd.R_slice HO_6.out; subst eo95; go_wp2_with (first | ((with_reducible refine gate_callee (f := 8) rfl ?_); refine goesL_ (some 100) rfl rfl Try.func8 (by kernel_rfl) rfl #[.slice Ao95 x6_1.length co95] rfl (by (try simp only [List.map_toArray, List.map_cons, List.map_nil]); first | done | rfl | (simp only [List.length_drop, List.length_take]; rfl)) ?_; (with_reducible refine (bits_Sum.calls k1 _ _ x6_1 t141 _ ?side1 ?side2 A40.out).mono ?_); (case side1 => repeat (first | exact (Kd.R_reads' HO_6.out).2.2 | (with_reducible refine Kd.C_alloc ?_ _) | (with_reducible refine Kd.C_drewN ?_ _) | (with_reducible refine Kd.C_drew ?_))); (case side2 => exact (Kd.R_reads' HO_6.out).2.1); rintro e w' ⟨rfl, ⟨nd, rfl⟩⟩; refine ⟨_, rfl, ?_⟩) | ((with_reducible refine gate_callee (f := 7) rfl ?_); refine goesL_ (some 101) rfl rfl Try.func7 (by kernel_rfl) rfl #[.int .i64 t141] rfl (by (try simp only [List.map_toArray, List.map_cons, List.map_nil]); first | done | rfl | (simp only [List.length_drop, List.length_take]; rfl)) ?_; (with_reducible refine (bits_Size.calls k1 t141 t142 t143 _ A41.out).mono ?_); rintro e w96 ⟨v144, rfl, ho0, hb⟩; refine ⟨_, rfl, ?_⟩; have n0_ := A' (Kd.R_elder' (by (with_reducible repeat (first | apply Kd.R_alloc | apply Kd.R_drewN | apply Kd.R_drew)); exact HO_6.out) (Kd.R_base ho0) hb); have n1_ := A' (Kd.R_lower (Kd.R_new' ho0 (Kd.R_lt (by (with_reducible repeat (first | apply Kd.R_alloc | apply Kd.R_drewN | apply Kd.R_drew)); exact HO_6.out))) (below_size (by repeat (first | (with_reducible first | exact HB.out | apply below_alloc | apply pw_below_drewN | apply below_drew1) | exact HB.out)))); have n2_ := A' (below_step (by repeat (first | (with_reducible first | exact HB.out | apply below_alloc | apply pw_below_drewN | apply below_drew1) | exact HB.out)) hb); clear HO_6; clear HB; have HO_6 := n0_; have HO145 := n1_; have HB := n2_; clear n0_ n1_ n2_; (try clear hb); (try clear hb2); (try clear hk); (try clear hi); (try clear ho0))); go_ret; (exact ⟨by first | rfl | (simp [errW_none, errW_some] <;> rfl) | (simp [*, errW_none, errW_some] <;> rfl), by repeat (first | (with_reducible first | exact HB.out | apply below_alloc | apply pw_below_drewN | apply below_drew1) | exact HB.out)⟩))
end Go.Proofs.Ytmndieohblpgaaa.U
namespace Go.Proofs.Ytmndieohblpgaaa.Opn
open Go Go.RowKit YtmndieohblpgaaaW PrintWords PrintLast PrintMore Go.ChangeShapes Go.WideShapes
/-- The cells that the form reads at type t (with fuel N at the most) tell an element of the kind d, of which Wf holds. -/
structure OpensTo (P : Program) (N : Nat) {α : Type} (t : TypeId) (d : Kd α) (Wf : α → Prop) : Prop where
 sz : P.cellsOf t = d.sz
 op : ∀ {H : Type} {enc : TypeId × Value → H} {w : World} {fuel : Nat} {cs : List Value} {x : DataW H × List MemPlace}, fuel ≤ N → DataW.trod enc P w 0 (fun _ => true) true fuel t cs = some x → (∀ n ∈ x.1.weights P t, n ≤ reachBytes) → ∃ a : α, d.K w a cs ∧ Wf a
section
variable {P : Program} {N : Nat} {α β : Type} {t e : TypeId} {d : Kd α} {d' : Kd β} {Wf Wf2 : α → Prop} {Wf' : β → Prop}
theorem o_int {k : IntKind} (ht : P.underlying t = some (.int k)) (hc : P.cellsOf t = 1) : OpensTo P N t (Kd.int k) (fun n => (Lit.int k n).wf = true) := ⟨hc, fun _ hx _ => by
 obtain ⟨n, rfl, rfl, hw⟩ := DataW.trod_int ht hx
 exact ⟨n, rfl, hw⟩⟩
theorem o_bool (ht : P.underlying t = some .bool) (hc : P.cellsOf t = 1) : OpensTo P N t Kd.bool (fun _ => True) := ⟨hc, fun _ hx _ => by
 obtain ⟨n, rfl, rfl⟩ := DataW.trod_bool ht hx
 exact ⟨n, rfl, trivial⟩⟩
theorem o_iso {f : β → α} (g : α → β) (hg : ∀ a, f (g a) = a) (h : OpensTo P N t d Wf) : OpensTo P N t (Kd.iso d f) (fun x => Wf (f x)) := ⟨h.sz, fun hf hx hw => by
 obtain ⟨a, hk, hwf⟩ := h.op hf hx hw
 refine ⟨g a, ?_, ?_⟩
 · show d.K _ (f (g a)) _
   rw [hg]
   exact hk
 · rw [hg]
   exact hwf⟩
theorem pick_list {Q : Nat → α → Prop} : ∀ n : Nat, (∀ i, i < n → ∃ p, Q i p) → ∃ xs : List α, xs.length = n ∧ ∀ i p, xs[i]? = some p → Q i p
 | 0, _ => ⟨[], rfl, fun i p h => by simp at h⟩
 | n + 1, h => by
   obtain ⟨xs, hl, hq⟩ := pick_list n (fun i hi => h i (by omega))
   obtain ⟨p, hp⟩ := h n (by omega)
   refine ⟨xs ++ [p], by simp [hl], fun i q hi => ?_⟩
   rcases Nat.lt_or_ge i n with c | c
   · rw [List.getElem?_append_left (by omega)] at hi
     exact hq i q hi
   · rw [List.getElem?_append_right (by omega)] at hi
     obtain rfl : i = n := by
      have := (List.getElem?_eq_some_iff.1 hi).1
      simp at this
      omega
     simp [hl] at hi
     subst hi
     exact hp
theorem add_add' (a : Addr) (i j : Nat) : (a.add i).add j = a.add (i + j) := by
 unfold Addr.add
 by_cases h1 : i = 0 <;> by_cases h2 : j = 0 <;> simp [h1, h2, Nat.add_assoc]
theorem weights_all {H : Type} {e : TypeId} : ∀ {l : List (DataW H)} {y : DataW H}, y ∈ l → ∀ n ∈ y.weights P e, n ∈ DataW.weightsAll P e l
 | x :: l, y, hy, n, hn => by
   unfold DataW.weightsAll
   rcases List.mem_cons.1 hy with rfl | hy
   · exact List.mem_append.2 (.inl hn)
   · exact List.mem_append.2 (.inr (weights_all hy n hn))
theorem o_slice (hu : P.underlying t = some (.slice e)) (hc : P.cellsOf t = 1) (he : OpensTo P N e d Wf) {B : Nat} (hB : P.bytesOf e = B) :
 OpensTo P (N + 1) t (Kd.slice e d) (fun l => l.length * B ≤ 140737488351232 ∧ ∀ x ∈ l, Wf x) := ⟨hc, fun {H enc w fuel cs x} hf hx hw => by
 rcases DataW.trod_slice hu hx with ⟨rfl, rfl⟩ | ⟨a, len, cap, elems, rest, n, hfn, rfl, rfl, _, hl, hm, hlen, hel, _, _⟩
 · exact ⟨[], ⟨none, 0, rfl, Nat.le_refl _, Kd.C_nil d w⟩, by simp, fun x hx => by simp at hx⟩
 · have hq : ∀ i, i < len → ∃ p : α, (∃ cs', w.cells? 0 (a.add (i * P.cellsOf e)) (P.cellsOf e) = some cs' ∧ d.K w p cs') ∧ Wf p := by
     intro i hi
     have h1 := hel i hi
     obtain ⟨y, hy⟩ : ∃ y, elems[i]? = some y := ⟨_, List.getElem?_eq_getElem (by omega)⟩
     rw [hy, Option.bind_eq_some_iff] at h1
     obtain ⟨cs', hcs, h2⟩ := h1
     obtain ⟨p, hk, hwf⟩ := he.op (by omega) h2 (fun m hm' => hw m (by
      unfold DataW.weights
      rw [hu]
      refine List.mem_cons.2 (.inr (List.mem_append.2 (.inl (weights_all (y := y.1) ?_ m hm'))))
      exact List.mem_map.2 ⟨y, List.mem_of_getElem? hy, rfl⟩))
     exact ⟨p, ⟨cs', hcs, hk⟩, hwf⟩
   obtain ⟨xs, hxl, hxs⟩ := pick_list len hq
   have hcap : cap ≤ 9223372036854775807 := by simpa [maxLen] using hm
   refine ⟨xs, ⟨some a, cap, by rw [hxl], by omega, rfl, by omega, fun _ => ⟨a, rfl, fun j p hj => ?_⟩⟩, ?_, fun x hx => ?_⟩
   · obtain ⟨⟨cs', hcs, hk⟩, _⟩ := hxs j p hj
     obtain ⟨_, hl2, hcell⟩ := World.cells?_some hcs
     refine ⟨cs', d.K_len hk, hk, fun i u hi => ?_⟩
     have h3 := hcell i (by rw [← hl2]; exact (List.getElem?_eq_some_iff.1 hi).1)
     rw [add_add', he.sz, hi] at h3
     exact h3
   · have h4 := hw ((elems.length + rest.length) * P.bytesOf e) (by
       unfold DataW.weights
       rw [hu]
       simp)
     have h5 : len * B ≤ (elems.length + rest.length) * B := Nat.mul_le_mul_right _ (by omega)
     rw [hB] at h4
     rw [hxl]
     exact Nat.le_trans h5 h4
   · obtain ⟨i, hi⟩ := List.getElem?_of_mem hx
     exact (hxs i x hi).2⟩
/-- The same for a struct's fields from offset o on. -/
structure OpensF (P : Program) (N : Nat) {α : Type} (fs : List Field) (o : Nat) (d : Kd α) (Wf : α → Prop) : Prop where
 op : ∀ {H : Type} {enc : TypeId × Value → H} {w : World} {fuel : Nat} {cs : List Value} {xs : List (DataW H × List MemPlace)}, fuel ≤ N → cs.length = o + d.sz → xs.length = fs.length →
  (∀ (i : Nat) (f : Field), fs[i]? = some f → DataW.trod enc P w 0 (fun _ => true) true fuel f.type ((cs.drop f.offset).take (P.cellsOf f.type)) = xs[i]?) →
  (∀ n ∈ DataW.weightsEach P (fs.map (·.type)) (xs.map (·.1)), n ≤ reachBytes) → ∃ a : α, d.K w a (cs.drop o) ∧ Wf a
theorem f_one {f : Field} {o : Nat} (ho : f.offset = o) (h : OpensTo P N f.type d Wf) : OpensF P N [f] o d Wf := ⟨by
 intro H enc w fuel cs xs hf hl hxl hx hw
 match xs, hxl with
 | [x], _ =>
   have h1 := hx 0 f rfl
   rw [ho, h.sz, List.take_of_length_le (by rw [List.length_drop]; omega)] at h1
   exact h.op hf h1 (fun n hn => hw n (by simp [DataW.weightsEach, hn]))⟩
theorem f_cons {f : Field} {fs : List Field} {o : Nat} (ho : f.offset = o) (h : OpensTo P N f.type d Wf) (hs : OpensF P N fs (o + d.sz) d' Wf') : OpensF P N (f :: fs) o (Kd.pair d d') (fun x => Wf x.1 ∧ Wf' x.2) := ⟨by
 intro H enc w fuel cs xs hf hl hxl hx hw
 match xs, hxl with
 | x :: xs, hxl =>
   have hl' : cs.length = o + (d.sz + d'.sz) := hl
   have h1 := hx 0 f rfl
   rw [ho, h.sz] at h1
   obtain ⟨a, hk, hwf⟩ := h.op hf h1 (fun n hn => hw n (by simp [DataW.weightsEach, hn]))
   obtain ⟨b, hk', hwf'⟩ := hs.op (xs := xs) hf (by rw [hl']; omega) (by simpa using hxl) (fun i g hg => by simpa using hx (i + 1) g (by simpa using hg)) (fun n hn => hw n (by
    simp only [List.map_cons, DataW.weightsEach]
    exact List.mem_append.2 (.inr hn)))
   refine ⟨(a, b), ⟨_, _, ?_, hk, hk'⟩, hwf, hwf'⟩
   rw [← List.drop_drop, List.take_append_drop]⟩
theorem o_struct {fs : Array Field} (hu : P.underlying t = some (.struct fs)) (hc : P.cellsOf t = d.sz) (h : OpensF P N fs.toList 0 d Wf) : OpensTo P (N + 1) t d Wf := ⟨hc, fun {H enc w fuel cs x} hf hx hw => by
 obtain ⟨xs, n, hfn, rfl, hl, hxl, hel⟩ := DataW.trod_struct hu hx
 have := h.op (xs := xs) (cs := cs) (w := w) (enc := enc) (fuel := n) (by omega) (by rw [hl, hc, Nat.zero_add]) (by simpa using hxl) (fun i f hf' => hel i f (by simpa using hf')) (fun m hm => hw m (by
  unfold DataW.weights
  rw [hu]
  exact hm))
 simpa using this⟩
/-- A row's argument that is read whole: at whatever fuel. -/
theorem open_arg {H : Type} {enc : TypeId × Value → H} {W : World} {v : Value} {x : DataW H} {p : List MemPlace} {ts : List TypeId} {ds : List (DataW H)} {j : Nat} (ho : ∀ n, OpensTo P (n + N) t d Wf)
 (h : DataW.Trod enc P W 0 (fun _ => true) true t v x p) (hsz : (DataW.weightsEach P ts ds).all (· ≤ reachBytes) = true) (ht : ts[j]? = some t) (hd : ds[j]? = some x) : ∃ a : α, d.K W a v.cells.toList ∧ Wf a := by
 obtain ⟨fuel, hf⟩ := h
 refine (ho fuel).op (by omega) hf (fun n hn => ?_)
 have := List.all_eq_true.1 hsz n (DataW.weights_mem_each ht hd n hn)
 simpa using this
end
end Go.Proofs.Ytmndieohblpgaaa.Opn
namespace Go.Proofs.Ytmndieohblpgaaa.Bsz
open Go Go.RowKit YtmndieohblpgaaaW PrintWords PrintLast PrintMore U Aid HandAid
def sumFrom (s : Int) : List Int → Int
 | [] => s
 | c :: cs => sumFrom ((s * 31 + c) % 65521) cs
theorem bits_Sum_loop (l : List Int) (hl : Bytes l) (hn : l.length ≤ 140737488351232) : ∀ (d i : Nat) (s : Int), i + d = l.length → 0 ≤ s → s < 65521 → Ev (fun k => bits_Sum.l0 k s l (l.length : Int) (i : Int)) (sumFrom s (l.drop i))
 | 0, i, s, hd, h0, h1 => by
   refine ev_succ ?_
   simp only [bits_Sum.l0]
   refine ev_neg (by omega) ?_
   rw [List.drop_of_length_le (by omega)]
   exact Ev.now _
 | d + 1, i, s, hd, h0, h1 => by
   refine ev_succ ?_
   simp only [bits_Sum.l0]
   refine ev_pos (by omega) (ev_pos (by omega) (ev_pos (by omega) ?_))
   have hb := bytes_rd hl (i := i) (by omega)
   simp (disch := omega) only [wrap_id, tmod_id]
   rw [drop_rd (by omega)]
   exact bits_Sum_loop l hl hn d (i + 1) _ (by omega) (by omega) (by omega)
theorem bits_Sum_ev (l : List Int) (hl : Bytes l) (hn : l.length ≤ 140737488351232) : Ev (fun k => bits_Sum.f k l) (sumFrom 1 l) :=
 bits_Sum_loop l hl hn l.length 0 1 (by omega) (by omega) (by omega)
def sizeBytes (n : Int) : List Int :=
 if n < 128 then [n] else if n < 16384 then [n / 128 + 128, n % 128] else
 if n < 2097152 then [n / 16384 + 128, n / 128 % 128 + 128, n % 128] else
 if n < 268435456 then [n / 2097152 + 128, n / 16384 % 128 + 128, n / 128 % 128 + 128, n % 128] else
 [n / 268435456 + 128, n / 2097152 % 128 + 128, n / 16384 % 128 + 128, n / 128 % 128 + 128, n % 128]
theorem bits_Size_l0_end (n : Int) (acc : List Int) (h : n ≤ 0) : Ev (fun k => bits_Size.l0 k n acc) (acc, 0) := by
 refine ev_succ ?_
 simp only [bits_Size.l0]
 exact ev_neg (by omega) (Ev.now _)
theorem bits_Size_l0_go (n : Int) (acc : List Int) {r} (h : 0 < n) (h2 : n ≤ 2147483647) (ha : acc.length < 100) (hr : Ev (fun k => bits_Size.l0 k (n / 128) ((n % 128 + 128) :: acc)) r) : Ev (fun k => bits_Size.l0 k n acc) r := by
 refine ev_succ ?_
 simp only [bits_Size.l0]
 refine ev_pos (by omega) (ev_some (ev_pos (by simp; omega) ?_))
 simp (disch := omega) only [wrap_id, tmod_id, tdiv_id]
 rw [show (n % 128 % 256 + 128) % 256 = n % 128 + 128 by omega]
 exact hr
theorem bits_Size_ev (n : Int) (h : 0 ≤ n) (h2 : n ≤ 2147483647) : Ev (fun k => bits_Size.f k n) (sizeBytes n, 0) := by
 unfold bits_Size.f
 refine ev_neg (by omega) ?_
 rw [show decide (n > 2147483647) = false by simp; omega]
 refine ev_succ ?_
 simp only [bits_Size.j0]
 refine ev_neg (by simp) ?_
 simp (disch := omega) only [wrap_id, tmod_id, tdiv_id]
 rw [show n % 128 % 256 = n % 128 by omega]
 unfold sizeBytes
 by_cases c1 : n < 128
 · rw [if_pos c1]
   refine ev_eq (bits_Size_l0_end _ _ (by omega)) ?_
   rw [show n % 128 = n by omega]
 rw [if_neg c1]
 refine bits_Size_l0_go _ _ (by omega) (by omega) (by simp) ?_
 by_cases c2 : n < 16384
 · rw [if_pos c2]
   refine ev_eq (bits_Size_l0_end _ _ (by omega)) ?_
   rw [show n / 128 % 128 = n / 128 by omega]
 rw [if_neg c2]
 refine bits_Size_l0_go _ _ (by omega) (by omega) (by simp) ?_
 rw [show n / 128 / 128 = n / 16384 by omega]
 by_cases c3 : n < 2097152
 · rw [if_pos c3]
   refine ev_eq (bits_Size_l0_end _ _ (by omega)) ?_
   rw [show n / 16384 % 128 = n / 16384 by omega]
 rw [if_neg c3]
 refine bits_Size_l0_go _ _ (by omega) (by omega) (by simp) ?_
 rw [show n / 16384 / 128 = n / 2097152 by omega]
 by_cases c4 : n < 268435456
 · rw [if_pos c4]
   refine ev_eq (bits_Size_l0_end _ _ (by omega)) ?_
   rw [show n / 2097152 % 128 = n / 2097152 by omega]
 rw [if_neg c4]
 refine bits_Size_l0_go _ _ (by omega) (by omega) (by simp) ?_
 rw [show n / 2097152 / 128 = n / 268435456 by omega]
 refine ev_eq (bits_Size_l0_end _ _ (by omega)) ?_
 rw [show n / 268435456 % 128 = n / 268435456 by omega]
/-- What GetSize's loop tells, from the byte i on. -/
def getFrom (l : List Int) (at' : Int) : Nat → Int → Int → Int × Int × Int
 | 0, _, _ => (0, 0, 3)
 | d + 1, n, i =>
   if at' + i ≥ (l.length : Int) then (0, 0, 6) else
   if rd l (at' + i) < 128 then
    (if n * 128 + rd l (at' + i) % 128 > 2147483647 then (0, 0, 3) else if i > 0 ∧ rd l at' = 128 then (0, 0, 3) else (n * 128 + rd l (at' + i) % 128, at' + i + 1, 0))
   else getFrom l at' d (n * 128 + rd l (at' + i) % 128) (i + 1)
theorem bits_GetSize_loop (l : List Int) (hl : Bytes l) (hn : l.length ≤ 140737488351232) (at' : Int) (h0 : 0 ≤ at') (h1 : at' ≤ l.length) : ∀ (d : Nat) (n i : Int), i + d = 5 → 0 ≤ i → 0 ≤ n → n < 128 ^ i.toNat →
 Ev (fun k => bits_GetSize.l0 k l at' n i) (getFrom l at' d n i)
 | 0, n, i, hd, hi, hn0, hn1 => by
   refine ev_succ ?_
   simp only [bits_GetSize.l0]
   exact ev_neg (by omega) (Ev.now _)
 | d + 1, n, i, hd, hi, hn0, hn1 => by
   have hp : (128 : Int) ^ i.toNat ≤ 128 ^ 4 := by
    have : i.toNat ≤ 4 := by omega
    exact_mod_cast Nat.pow_le_pow_right (by omega) this
   have hp5 : (128 : Int) ^ 4 = 268435456 := by decide
   refine ev_succ ?_
   simp only [bits_GetSize.l0, getFrom]
   refine ev_pos (by omega) ?_
   simp (disch := omega) only [wrap_id, tmod_id]
   by_cases c1 : at' + i ≥ l.length
   · rw [if_pos c1]; exact ev_pos c1 (Ev.now _)
   rw [if_neg c1]
   refine ev_neg c1 (ev_pos (by omega) (ev_pos (by omega) ?_))
   have hb := bytes_rdI hl (i := at' + i) (by omega) (by omega)
   simp (disch := omega) only [wrap_id, tmod_id]
   by_cases c2 : rd l (at' + i) < 128
   · rw [if_pos c2]
     refine ev_pos c2 ?_
     by_cases c3 : n * 128 + rd l (at' + i) % 128 > 2147483647
     · exact ev_eq (ev_pos c3 (Ev.now _)) (by rw [if_pos c3])
     refine ev_neg c3 ?_
     by_cases c4 : i > 0
     · refine ev_pos c4 (ev_pos (by omega) (ev_pos (by omega) ?_))
       by_cases c5 : rd l at' = 128
       · exact ev_eq (ev_pos c5 (Ev.now _)) (by rw [if_neg c3, if_pos ⟨c4, c5⟩])
       · exact ev_eq (ev_neg c5 (Ev.now _)) (by rw [if_neg c3, if_neg (fun h => c5 h.2)])
     · exact ev_eq (ev_neg c4 (Ev.now _)) (by rw [if_neg c3, if_neg (fun h => c4 h.1)])
   · rw [if_neg c2]
     refine ev_neg c2 ?_
     refine bits_GetSize_loop l hl hn at' h0 h1 d _ _ (by omega) (by omega) (by omega) ?_
     rw [show (i + 1).toNat = i.toNat + 1 by omega, Int.pow_succ]
     omega
theorem bits_GetSize_ev (l : List Int) (hl : Bytes l) (hn : l.length ≤ 140737488351232) (at' : Int) : Ev (fun k => bits_GetSize.f k l at') (if at' < 0 ∨ at' > l.length then (0, 0, 2) else getFrom l at' 5 0 0) := by
 unfold bits_GetSize.f
 by_cases c : at' < 0
 · rw [if_pos (.inl c)]
   refine ev_pos c (ev_succ ?_)
   simp only [bits_GetSize.j0]
   exact ev_pos (by simp) (Ev.now _)
 · refine ev_neg c (ev_succ ?_)
   by_cases c' : at' > l.length
   · rw [if_pos (.inr c')]
     simp only [bits_GetSize.j0]
     exact ev_pos (by simpa using c') (Ev.now _)
   · rw [if_neg (by simp [c, c'])]
     simp only [bits_GetSize.j0]
     exact ev_neg (by simpa using c') (bits_GetSize_loop l hl hn at' (by omega) (by omega) 5 0 0 (by omega) (by omega) (by omega) (by simp))
theorem rd_mid (a b c : List Int) (i : Nat) (h : i < b.length) : rd (a ++ b ++ c) ((a.length : Int) + (i : Int)) = b[i] := by
 unfold rd
 rw [show ((a.length : Int) + (i : Int)).toNat = a.length + i by omega]
 rw [List.getD_eq_getElem?_getD, List.getElem?_append_left (by simp; omega), List.getElem?_append_right (by omega), Nat.add_sub_cancel_left, List.getElem?_eq_getElem h]; rfl
theorem getFrom_size (n : Int) (h : 0 ≤ n) (h2 : n ≤ 2147483647) (a c : List Int) : getFrom (a ++ sizeBytes n ++ c) (a.length : Int) 5 0 0 = (n, (a.length : Int) + ((sizeBytes n).length : Int), 0) := by
 unfold sizeBytes
 by_cases c1 : n < 128
 · rw [if_pos c1]
   have r0 := rd_mid a [n] c 0 (by simp)
   simp only [Int.natCast_zero, List.getElem_cons_zero] at r0
   simp only [getFrom, r0]
   rw [if_neg (by simp; omega), if_pos c1, if_neg (by omega), if_neg (by omega)]
   simp; omega
 rw [if_neg c1]
 by_cases c2 : n < 16384
 · rw [if_pos c2]
   have r0 : rd (a ++ [n / 128 + 128, n % 128] ++ c) ((a.length : Int) + 0) = n / 128 + 128 := rd_mid a [n / 128 + 128, n % 128] c 0 (by simp)
   have r1 : rd (a ++ [n / 128 + 128, n % 128] ++ c) ((a.length : Int) + 1) = n % 128 := rd_mid a [n / 128 + 128, n % 128] c 1 (by simp)
   have r0' := r0; rw [Int.add_zero] at r0'
   simp only [getFrom, r0, r0', Int.zero_add, r1]
   rw [if_neg (by simp; omega), if_neg (by omega), if_neg (by simp; omega), if_pos (by omega), if_neg (by omega), if_neg (by omega)]
   simp; omega
 rw [if_neg c2]
 by_cases c3 : n < 2097152
 · rw [if_pos c3]
   have r0 : rd (a ++ [n / 16384 + 128, n / 128 % 128 + 128, n % 128] ++ c) ((a.length : Int) + 0) = n / 16384 + 128 := rd_mid a [n / 16384 + 128, n / 128 % 128 + 128, n % 128] c 0 (by simp)
   have r1 : rd (a ++ [n / 16384 + 128, n / 128 % 128 + 128, n % 128] ++ c) ((a.length : Int) + 1) = n / 128 % 128 + 128 := rd_mid a [n / 16384 + 128, n / 128 % 128 + 128, n % 128] c 1 (by simp)
   have r2 : rd (a ++ [n / 16384 + 128, n / 128 % 128 + 128, n % 128] ++ c) ((a.length : Int) + (1 + 1)) = n % 128 := rd_mid a [n / 16384 + 128, n / 128 % 128 + 128, n % 128] c 2 (by simp)
   have r0' := r0; rw [Int.add_zero] at r0'
   simp only [getFrom, r0, r0', Int.zero_add, r1, r2]
   rw [if_neg (by simp; omega), if_neg (by omega), if_neg (by simp; omega), if_neg (by omega), if_neg (by simp; omega), if_pos (by omega), if_neg (by omega), if_neg (by omega)]
   simp; omega
 rw [if_neg c3]
 by_cases c4 : n < 268435456
 · rw [if_pos c4]
   have r0 : rd (a ++ [n / 2097152 + 128, n / 16384 % 128 + 128, n / 128 % 128 + 128, n % 128] ++ c) ((a.length : Int) + 0) = n / 2097152 + 128 := rd_mid a [n / 2097152 + 128, n / 16384 % 128 + 128, n / 128 % 128 + 128, n % 128] c 0 (by simp)
   have r1 : rd (a ++ [n / 2097152 + 128, n / 16384 % 128 + 128, n / 128 % 128 + 128, n % 128] ++ c) ((a.length : Int) + 1) = n / 16384 % 128 + 128 := rd_mid a [n / 2097152 + 128, n / 16384 % 128 + 128, n / 128 % 128 + 128, n % 128] c 1 (by simp)
   have r2 : rd (a ++ [n / 2097152 + 128, n / 16384 % 128 + 128, n / 128 % 128 + 128, n % 128] ++ c) ((a.length : Int) + (1 + 1)) = n / 128 % 128 + 128 := rd_mid a [n / 2097152 + 128, n / 16384 % 128 + 128, n / 128 % 128 + 128, n % 128] c 2 (by simp)
   have r3 : rd (a ++ [n / 2097152 + 128, n / 16384 % 128 + 128, n / 128 % 128 + 128, n % 128] ++ c) ((a.length : Int) + (1 + 1 + 1)) = n % 128 := rd_mid a [n / 2097152 + 128, n / 16384 % 128 + 128, n / 128 % 128 + 128, n % 128] c 3 (by simp)
   have r0' := r0; rw [Int.add_zero] at r0'
   simp only [getFrom, r0, r0', Int.zero_add, r1, r2, r3]
   rw [if_neg (by simp; omega), if_neg (by omega), if_neg (by simp; omega), if_neg (by omega), if_neg (by simp; omega), if_neg (by omega), if_neg (by simp; omega), if_pos (by omega), if_neg (by omega), if_neg (by omega)]
   simp; omega
 rw [if_neg c4]
 have r0 : rd (a ++ [n / 268435456 + 128, n / 2097152 % 128 + 128, n / 16384 % 128 + 128, n / 128 % 128 + 128, n % 128] ++ c) ((a.length : Int) + 0) = n / 268435456 + 128 := rd_mid a [n / 268435456 + 128, n / 2097152 % 128 + 128, n / 16384 % 128 + 128, n / 128 % 128 + 128, n % 128] c 0 (by simp)
 have r1 : rd (a ++ [n / 268435456 + 128, n / 2097152 % 128 + 128, n / 16384 % 128 + 128, n / 128 % 128 + 128, n % 128] ++ c) ((a.length : Int) + 1) = n / 2097152 % 128 + 128 := rd_mid a [n / 268435456 + 128, n / 2097152 % 128 + 128, n / 16384 % 128 + 128, n / 128 % 128 + 128, n % 128] c 1 (by simp)
 have r2 : rd (a ++ [n / 268435456 + 128, n / 2097152 % 128 + 128, n / 16384 % 128 + 128, n / 128 % 128 + 128, n % 128] ++ c) ((a.length : Int) + (1 + 1)) = n / 16384 % 128 + 128 := rd_mid a [n / 268435456 + 128, n / 2097152 % 128 + 128, n / 16384 % 128 + 128, n / 128 % 128 + 128, n % 128] c 2 (by simp)
 have r3 : rd (a ++ [n / 268435456 + 128, n / 2097152 % 128 + 128, n / 16384 % 128 + 128, n / 128 % 128 + 128, n % 128] ++ c) ((a.length : Int) + (1 + 1 + 1)) = n / 128 % 128 + 128 := rd_mid a [n / 268435456 + 128, n / 2097152 % 128 + 128, n / 16384 % 128 + 128, n / 128 % 128 + 128, n % 128] c 3 (by simp)
 have r4 : rd (a ++ [n / 268435456 + 128, n / 2097152 % 128 + 128, n / 16384 % 128 + 128, n / 128 % 128 + 128, n % 128] ++ c) ((a.length : Int) + (1 + 1 + 1 + 1)) = n % 128 := rd_mid a [n / 268435456 + 128, n / 2097152 % 128 + 128, n / 16384 % 128 + 128, n / 128 % 128 + 128, n % 128] c 4 (by simp)
 have r0' := r0; rw [Int.add_zero] at r0'
 simp only [getFrom, r0, r0', Int.zero_add, r1, r2, r3, r4]
 rw [if_neg (by simp; omega), if_neg (by omega), if_neg (by simp; omega), if_neg (by omega), if_neg (by simp; omega), if_neg (by omega), if_neg (by simp; omega), if_neg (by omega), if_neg (by simp; omega), if_pos (by omega), if_neg (by omega), if_neg (by omega)]
 simp; omega
theorem sizeBytes_bytes (n : Int) (h : 0 ≤ n) (h2 : n ≤ 2147483647) : Bytes (sizeBytes n) := by
 unfold sizeBytes Bytes
 by_cases c1 : n < 128
 · rw [if_pos c1]; intro x hx; simp at hx; omega
 rw [if_neg c1]
 by_cases c2 : n < 16384
 · rw [if_pos c2]; intro x hx; simp at hx; omega
 rw [if_neg c2]
 by_cases c3 : n < 2097152
 · rw [if_pos c3]; intro x hx; simp at hx; omega
 rw [if_neg c3]
 by_cases c4 : n < 268435456
 · rw [if_pos c4]; intro x hx; simp at hx; omega
 rw [if_neg c4]
 intro x hx; simp at hx; omega
theorem sizeBytes_len5 (n : Int) : (sizeBytes n).length ≤ 5 := by
 unfold sizeBytes
 (repeat' split) <;> simp
theorem sumFrom_range : ∀ (l : List Int) (s : Int), 0 ≤ s → s < 65521 → 0 ≤ sumFrom s l ∧ sumFrom s l < 65521
 | [], s, h0, h1 => ⟨h0, h1⟩
 | c :: cs, s, h0, h1 => sumFrom_range cs _ (by omega) (by omega)
end Go.Proofs.Ytmndieohblpgaaa.Bsz
namespace Go.Proofs.Ytmndieohblpgaaa.Bkp
open Go Go.RowKit YtmndieohblpgaaaW PrintWords PrintLast PrintMore U Aid Pse DecNew HandAid Cod1 Cod2 Cod3 Ytmndieohblpgaaa.Mod Enc Mods EncAt Put End Snc Dec Get U
theorem byteOf_getD (l : List Int) (i : Nat) : Dec.byteOf l i = l.getD i 0 := by
 unfold Dec.byteOf
 split
 · simp [rd]
 · rename_i h
   rw [List.getD_eq_getElem?_getD, List.getElem?_eq_none (by omega)]
   rfl
/-- Four bytes of a code, as a number. -/
def win (code : List Int) (n : Nat) : Int := Dec.byteOf code n * 16777216 + Dec.byteOf code (n + 1) * 65536 + Dec.byteOf code (n + 2) * 256 + Dec.byteOf code (n + 3)
theorem win_succ {code : List Int} (h : Bytes code) (n : Nat) : win code (n + 1) = win code n % 16777216 * 256 + Dec.byteOf code (n + 4) := by
 have h0 := byteOf_range h n
 have h1 := byteOf_range h (n + 1)
 have h2 := byteOf_range h (n + 2)
 have h3 := byteOf_range h (n + 3)
 have h4 := byteOf_range h (n + 4)
 unfold win
 rw [show n + 1 + 1 = n + 2 by omega, show n + 1 + 2 = n + 3 by omega, show n + 1 + 3 = n + 4 by omega]
 omega
theorem win_top {code : List Int} (h : Bytes code) (n : Nat) : win code n / 16777216 = Dec.byteOf code n ∧ 0 ≤ win code n := by
 have h0 := byteOf_range h n
 have h1 := byteOf_range h (n + 1)
 have h2 := byteOf_range h (n + 2)
 have h3 := byteOf_range h (n + 3)
 unfold win
 omega
theorem shV_win {code : List Int} (h : Bytes code) : ∀ (k n : Nat), shV code k (win code n) (n + 4) = win code (n + k)
 | 0, n => rfl
 | k + 1, n => by
   show shV code k (win code n % 16777216 * 256 + Dec.byteOf code (n + 4)) (n + 4 + 1) = _
   rw [← win_succ h, show n + 4 + 1 = n + 1 + 4 by omega, shV_win h k (n + 1), show n + 1 + k = n + (k + 1) by omega]
theorem win_zero {code : List Int} (h : Bytes code) : shV code 4 0 0 = win code 0 := by
 have h0 := byteOf_range h 0
 have h1 := byteOf_range h 1
 have h2 := byteOf_range h 2
 have h3 := byteOf_range h 3
 unfold win
 simp only [shV, Nat.zero_add, Nat.reduceAdd]
 omega
/-- The bytes m stand in the code from n on. -/
def AtL (code : List Int) : Nat → List Int → Prop
 | _, [] => True
 | n, x :: m => Dec.byteOf code n = x ∧ AtL code (n + 1) m
theorem atL_of (m t : List Int) : ∀ (P : List Int), AtL (P ++ m ++ t) P.length m := by
 induction m with
 | nil => intro P; trivial
 | cons x m ih =>
   intro P
   refine ⟨?_, ?_⟩
   · rw [byteOf_getD]
     simp
   · have h := ih (P ++ [x])
     simpa using h
/-- What stands in the interval behind the lost bytes stands in the interval ahead of them. -/
theorem norm_win {code : List Int} (hb : Bytes code) : ∀ (d : Nat) (l h : Int) (n : Nat), 0 ≤ l → l ≤ h → h ≤ 4294967295 → AtL code n (normE d l h).1 → (normE d l h).2.1 ≤ win code (n + (normE d l h).1.length) ∧ win code (n + (normE d l h).1.length) ≤ (normE d l h).2.2 → l ≤ win code n ∧ win code n ≤ h
 | 0, l, h, n, _, _, _, _, hw => hw
 | d + 1, l, h, n, h0, h1, h2, ha, hw => by
   unfold normE at ha hw
   by_cases c : l / 16777216 = h / 16777216
   · rw [if_pos c] at ha hw
     have h3 := norm_win hb d (l % 16777216 * 256) (h % 16777216 * 256 + 255) (n + 1) (by omega) (by omega) (by omega) ha.2 (by
      rw [show n + 1 + (normE d (l % 16777216 * 256) (h % 16777216 * 256 + 255)).1.length = n + ((normE d (l % 16777216 * 256) (h % 16777216 * 256 + 255)).1.length + 1) by omega]
      exact hw)
     have h4 := win_succ hb n
     have h5 := win_top hb n
     have h6 := byteOf_range hb (n + 4)
     have h7 : Dec.byteOf code n = l / 16777216 := ha.1
     omega
   · rw [if_neg c] at ha hw
     exact hw
/-- The end tells a number of the interval, with zeros behind it. -/
theorem end_win (P : List Int) (low high : Int) (z : Nat) (h0 : 0 ≤ low) (h1 : low ≤ high) (h2 : high ≤ 4294967295) : low ≤ win (P ++ endOf low high ++ List.replicate z 0) P.length ∧ win (P ++ endOf low high ++ List.replicate z 0) P.length ≤ high := by
 have key : ∀ i, i < 4 → Dec.byteOf (P ++ endOf low high ++ List.replicate z 0) (P.length + i) = (endOf low high).getD i 0 := by
  intro i _
  rw [byteOf_getD, List.append_assoc, List.getD_eq_getElem?_getD, List.getElem?_append_right (by omega), Nat.add_sub_cancel_left, List.getD_eq_getElem?_getD]
  by_cases c : i < (endOf low high).length
  · rw [List.getElem?_append_left c]
  · rw [List.getElem?_append_right (by omega), List.getElem?_eq_none (l := endOf low high) (by omega), List.getElem?_replicate]
    split <;> rfl
 have k0 := key 0 (by omega)
 have k1 := key 1 (by omega)
 have k2 := key 2 (by omega)
 have k3 := key 3 (by omega)
 rw [Nat.add_zero] at k0
 unfold win
 rw [k0, k1, k2, k3]
 unfold endOf endN hiBytes
 (repeat' split) <;> simp only [List.take, List.getD_cons_zero, List.getD_cons_succ, List.getD_nil] <;> omega
/-- Encoder and decoder stand at the same place. -/
structure Sync (code : List Int) (s : ES) (d : DS) : Prop where
 k : d.kind = s.kind
 st : d.st = s.st
 l : d.low = s.low
 h : d.high = s.high
 c : d.code = code
 a : d.a = s.out.length + 4
 v : d.value = win code s.out.length
 e : d.ended = false
theorem putI_good {s : ES} {i bit : Int} (h : s.err i bit = 0) : s.good i bit = true ∧ s.putI i bit = s.put i.toNat bit ∧ 0 ≤ i ∧ i < s.st.length ∧ (bit = 0 ∨ bit = 1) := by
 unfold ES.err at h
 by_cases c : s.good i bit = true
 · have c2 := c
   simp only [ES.good, Bool.and_eq_true, Bool.or_eq_true, decide_eq_true_eq] at c2
   exact ⟨c, if_pos c, c2.1.1, c2.1.2, c2.2⟩
 · rw [if_neg c] at h
   exact absurd h (by decide)
theorem putsE_pre : ∀ (l : List S46) (s : ES), ∃ m, (putsE s l).1.out = s.out ++ m
 | [], s => ⟨[], by simp [putsE]⟩
 | x :: l, s => by
   unfold putsE
   split
   · obtain ⟨m, hm⟩ := putsE_pre l (s.putI x.f0 x.f1)
     rename_i h
     have hg := putI_good h
     rw [hg.2.1] at hm ⊢
     exact ⟨(s.norm x.f0.toNat x.f1).1 ++ m, by rw [hm, ← List.append_assoc]; rfl⟩
   · exact ⟨[], by simp⟩
/-- The code's number stands in the interval of every state on the way. -/
theorem win_in {code : List Int} (hb : Bytes code) : ∀ (l : List S46) (s : ES), s.ok → (putsE s l).2 = 0 → (∃ t, code = (putsE s l).1.out ++ t) → ((putsE s l).1.low ≤ win code (putsE s l).1.out.length ∧ win code (putsE s l).1.out.length ≤ (putsE s l).1.high) → s.low ≤ win code s.out.length ∧ win code s.out.length ≤ s.high
 | [], s, _, _, _, hw => hw
 | x :: l, s, hok, he, hp, hw => by
   unfold putsE at he hp hw
   by_cases c : s.err x.f0 x.f1 = 0
   · rw [if_pos c] at he hp hw
     have hg := putI_good c
     have h1 := win_in hb l (s.putI x.f0 x.f1) (ES.putI_ok hok _ _) he hp hw
     obtain ⟨t, ht⟩ := hp
     obtain ⟨m, hm⟩ := putsE_pre l (s.putI x.f0 x.f1)
     rw [hg.2.1] at h1 hm ht
     have hi : x.f0.toNat < s.st.length := by omega
     have hc := ES.cut_ hok hi (bit := x.f1)
     have hmid := ES.mid_ hok hi
     have hat : AtL code s.out.length (s.norm x.f0.toNat x.f1).1 := by
      rw [ht, hm]
      have h2 := atL_of (s.norm x.f0.toNat x.f1).1 (m ++ t) s.out
      rw [← List.append_assoc] at h2
      exact h2
     have h3 := norm_win hb 4 _ _ s.out.length hc.1 hc.2.1 hc.2.2 hat (by
      have h4 : (s.put x.f0.toNat x.f1).out.length = s.out.length + (s.norm x.f0.toNat x.f1).1.length := List.length_append
      rw [h4] at h1
      exact h1)
     have hl := hok.l
     unfold cutL cutH at h3
     split at h3 <;> omega
   · rw [if_neg c] at he
     exact absurd he c
theorem back_step {code : List Int} (hb : Bytes code) {s : ES} {d : DS} (hs : Sync code s d) (hok : s.ok) {x : S46} (he : s.err x.f0 x.f1 = 0) (hp : ∃ t, code = (s.putI x.f0 x.f1).out ++ t) (hw : (s.putI x.f0 x.f1).low ≤ win code (s.putI x.f0 x.f1).out.length ∧ win code (s.putI x.f0 x.f1).out.length ≤ (s.putI x.f0 x.f1).high) : ∃ d', d.getI x.f0 = (d', x.f1, 0) ∧ Sync code (s.putI x.f0 x.f1) d' := by
 have hg := putI_good he
 rw [hg.2.1] at hw hp ⊢
 obtain ⟨j, hj⟩ : ∃ j : Nat, x.f0 = (j : Int) := ⟨x.f0.toNat, by omega⟩
 rw [hj, Int.toNat_natCast] at hw hp ⊢
 have hi : j < s.st.length := by omega
 have hc := ES.cut_ hok hi (bit := x.f1)
 have hmid := ES.mid_ hok hi
 obtain ⟨t, ht⟩ := hp
 have h4 : (s.put j x.f1).out.length = s.out.length + (s.norm j x.f1).1.length := List.length_append
 have hat : AtL code s.out.length (s.norm j x.f1).1 := by
  rw [ht]
  exact atL_of (s.norm j x.f1).1 t s.out
 have h3 := norm_win hb 4 _ _ s.out.length hc.1 hc.2.1 hc.2.2 hat (by
  rw [h4] at hw
  exact hw)
 have hm : d.mid j = s.mid j := by
  unfold DS.mid ES.mid
  rw [hs.l, hs.h, hs.k, hs.st]
 have hbit : d.bit j = x.f1 := by
  unfold DS.bit
  rw [hs.v, hm]
  unfold cutL cutH at h3
  rcases hg.2.2.2.2 with hx | hx
  · rw [hx] at h3 ⊢
    rw [if_neg (by decide), if_neg (by decide)] at h3
    rw [if_neg (by omega)]
  · rw [hx] at h3 ⊢
    rw [if_pos rfl, if_pos rfl] at h3
    rw [if_pos (by omega)]
 have hn : d.norm j = s.norm j x.f1 := by
  unfold DS.norm ES.norm
  rw [hs.l, hs.h, hm, hbit]
 have hlen : s.out.length + (s.norm j x.f1).1.length ≤ code.length := by
  rw [ht, List.length_append, h4]
  omega
 refine ⟨d.next j, ?_, ?_⟩
 · unfold DS.getI
   rw [if_pos (by rw [hs.st]; omega), hs.e, if_neg (by decide), Int.toNat_natCast, hn, if_neg (by rw [hs.a, hs.c]; omega), hbit]
 · have e1 : d.next j = ⟨d.kind, d.st.set j (after d.kind (rd d.st j) (d.bit j)), (d.norm j).2.1, (d.norm j).2.2, d.code, d.a + (d.norm j).1.length, shV d.code (d.norm j).1.length d.value d.a, false⟩ := rfl
   rw [e1, hn, hbit, hs.k, hs.st, hs.c, hs.a, hs.v, shV_win hb]
   exact ⟨rfl, rfl, rfl, rfl, rfl, by rw [h4]; show s.out.length + 4 + _ = _; omega, by rw [h4], rfl⟩
/-- A decoder tells these events, one behind the other. -/
def Fol : DS → List S46 → DS → Prop
 | d, [], d' => d = d'
 | d, x :: l, d' => ∃ e, d.getI x.f0 = (e, x.f1, 0) ∧ Fol e l d'
theorem Fol.app : ∀ {l m : List S46} {d e : DS}, Fol d (l ++ m) e ↔ ∃ c, Fol d l c ∧ Fol c m e
 | [], m, d, e => ⟨fun h => ⟨d, rfl, h⟩, fun ⟨c, h, h2⟩ => by cases h; exact h2⟩
 | x :: l, m, d, e => by
   constructor
   · rintro ⟨d1, h1, h2⟩
     obtain ⟨c, h3, h4⟩ := Fol.app.1 h2
     exact ⟨c, ⟨d1, h1, h3⟩, h4⟩
   · rintro ⟨c, ⟨d1, h1, h3⟩, h4⟩
     exact ⟨d1, h1, Fol.app.2 ⟨c, h3, h4⟩⟩
theorem fol_of {code : List Int} (hb : Bytes code) : ∀ (l : List S46) (s : ES) (d : DS), s.ok → Sync code s d → (putsE s l).2 = 0 → (∃ t, code = (putsE s l).1.out ++ t) → ((putsE s l).1.low ≤ win code (putsE s l).1.out.length ∧ win code (putsE s l).1.out.length ≤ (putsE s l).1.high) → ∃ d', Fol d l d' ∧ Sync code (putsE s l).1 d'
 | [], s, d, _, hs, _, _, _ => ⟨d, rfl, hs⟩
 | x :: l, s, d, hok, hs, he, hp, hw => by
   unfold putsE at he hp hw ⊢
   by_cases c : s.err x.f0 x.f1 = 0
   · rw [if_pos c] at he hp hw ⊢
     have hok2 := ES.putI_ok hok x.f0 x.f1
     have h1 := win_in hb l (s.putI x.f0 x.f1) hok2 he hp hw
     have hp2 : ∃ t, code = (s.putI x.f0 x.f1).out ++ t := by
      obtain ⟨t, ht⟩ := hp
      obtain ⟨m, hm⟩ := putsE_pre l (s.putI x.f0 x.f1)
      exact ⟨m ++ t, by rw [ht, hm, List.append_assoc]⟩
     obtain ⟨d1, hg, hs1⟩ := back_step hb hs hok c hp2 h1
     obtain ⟨d2, hr, hs2⟩ := fol_of hb l (s.putI x.f0 x.f1) d1 hok2 hs1 he hp hw
     exact ⟨d2, ⟨d1, hg, hr⟩, hs2⟩
   · rw [if_neg c] at he
     exact absurd he c
/-- What is encoded is told again. -/
theorem back_fol {kind : Int} {st : List Int} {l : List S46} (hm : okModel kind st) (he : (putsE (newES kind st) l).2 = 0) {code : List Int} (hb : Bytes code) (hc : code = (putsE (newES kind st) l).1.end_) : ∃ d', Fol (newDS kind st code) l d' ∧ Sync code (putsE (newES kind st) l).1 d' := by
 have hokN := putsE_ok l _ (newES_ok hm)
 have hw := end_win (putsE (newES kind st) l).1.out (putsE (newES kind st) l).1.low (putsE (newES kind st) l).1.high 0 hokN.l hokN.lh hokN.h
 rw [List.replicate_zero, List.append_nil] at hw
 have hc2 : code = (putsE (newES kind st) l).1.out ++ endOf (putsE (newES kind st) l).1.low (putsE (newES kind st) l).1.high := hc
 rw [← hc2] at hw
 exact fol_of hb l (newES kind st) (newDS kind st code) (newES_ok hm) ⟨rfl, rfl, rfl, rfl, rfl, rfl, win_zero hb, rfl⟩ he ⟨_, hc2⟩ hw
end Go.Proofs.Ytmndieohblpgaaa.Bkp
namespace Go.Proofs.Ytmndieohblpgaaa.Nfo
open Go Go.RowKit YtmndieohblpgaaaW PrintWords PrintLast PrintMore U Aid HandAid Cod1 Cod2 Cod3 Ytmndieohblpgaaa.Mod Enc Mods EncAt Put End Snc Num Evs RefEvs Pse Dec Get DecNew Bkp Ngt
theorem fol_len (base : Int) (c : Nat) (hc : c ≤ 20) (rest : List S46) (e : DS) : ∀ (f c0 : Nat) (d : DS), f + c0 = 20 → c0 ≤ c → Fol d ((List.range' c0 (c - c0)).map (fun i : Nat => (⟨base + 1 + i, 1⟩ : S46)) ++ (evMid base c ++ rest)) e → ∃ d2, Fol d2 rest e ∧ lenD base f c0 d = digD base c c 0 d2 1
 | 0, c0, d, h, hle, hf => by
   obtain rfl : c = c0 := by omega
   rw [Nat.sub_self] at hf
   unfold evMid at hf
   rw [if_neg (by omega)] at hf
   exact ⟨d, hf, rfl⟩
 | f + 1, c0, d, h, hle, hf => by
   unfold lenD
   by_cases hlt : c0 < c
   · rw [show c - c0 = (c - (c0 + 1)) + 1 by omega, List.range'_succ, List.map_cons, List.cons_append] at hf
     obtain ⟨d1, hg, hf⟩ := hf
     simp only at hg
     rw [hg]
     simp only [if_true]
     rw [if_neg (by decide)]
     exact fol_len base c hc rest e f (c0 + 1) d1 (by omega) (by omega) hf
   · obtain rfl : c = c0 := by omega
     rw [Nat.sub_self] at hf
     unfold evMid at hf
     rw [if_pos (by omega)] at hf
     obtain ⟨d1, hg, hf⟩ := hf
     simp only at hg
     rw [hg]
     simp only [if_true]
     exact ⟨d1, hf, rfl⟩
theorem ctx_eq (c i : Nat) : evCtx c i = ctxOf c i := by
 unfold evCtx ctxOf
 by_cases h : i = 0
 · rw [if_pos h, if_pos h]
 · rw [if_neg h, if_neg h]
   split <;> omega
theorem half (v : Int) (k : Nat) : 2 * (v / 2 ^ (k + 1)) + v / 2 ^ k % 2 = v / 2 ^ k := by
 have h1 : v / 2 ^ (k + 1) = v / 2 ^ k / 2 := (div_half v k).symm
 rw [h1]
 omega
theorem fol_dig (base n : Int) (c : Nat) (rest : List S46) (e : DS) : ∀ (r i : Nat) (d : DS) (v : Int), r + i = c → v = numV n / 2 ^ r → Fol d ((List.range' i r).map (fun i : Nat => (⟨base + evCtx c i, numV n / 2 ^ (c - 1 - i) % 2⟩ : S46)) ++ rest) e → ∃ d2, Fol d2 rest e ∧ digD base c r i d v = signD base d2 (numV n)
 | 0, i, d, v, h, hv, hf => by
   rw [Int.pow_zero, Int.ediv_one] at hv
   subst hv
   exact ⟨d, hf, rfl⟩
 | r + 1, i, d, v, h, hv, hf => by
   rw [List.range'_succ, List.map_cons, List.cons_append] at hf
   obtain ⟨d1, hg, hf⟩ := hf
   simp only at hg
   unfold digD
   rw [← ctx_eq, hg]
   simp only [if_true]
   exact fol_dig base n c rest e r (i + 1) d1 _ (by omega) (by rw [hv, show c - 1 - i = r by omega]; exact half _ _) hf
/-- The number whose events a decoder tells is the number that is told. -/
theorem numD_fol (base : Int) (nn : Bool) (n : Int) (hok : okNum nn n = true) (d e : DS) (hf : Fol d (evAll base nn n) e) : numD base d = (e, (nn, n), 0) := by
 unfold evAll at hf
 by_cases hn : nn = true
 · subst hn
   rw [if_pos rfl] at hf
   obtain ⟨d1, hg, hf⟩ := hf
   obtain rfl : d1 = e := hf
   simp only at hg
   have h0 : n = 0 := by simpa [okNum] using hok
   unfold numD
   rw [hg, h0]
   rfl
 · have hn2 : nn = false := by simpa using hn
   subst hn2
   rw [if_neg (by decide)] at hf
   have hr : -1048576 ≤ n ∧ n ≤ 1048576 := by simpa [okNum] using hok
   obtain ⟨hc1, hc2, hc3, -⟩ := numC_spec hr.1 hr.2
   have hv := numV_range hr.1 hr.2
   unfold evList at hf
   generalize numC n = c at hf hc1 hc2 hc3
   unfold evHead at hf
   rw [List.append_assoc, List.append_assoc, List.cons_append] at hf
   obtain ⟨d1, hg, hf⟩ := hf
   simp only at hg
   rw [List.range_eq_range'] at hf
   obtain ⟨d2, hf2, e1⟩ := fol_len base c hc3 _ e 20 0 d1 (by omega) (Nat.zero_le _) (by rw [Nat.sub_zero]; exact hf)
   unfold evDig at hf2
   rw [List.range_eq_range'] at hf2
   have h1 : (1 : Int) = numV n / 2 ^ c := by
    have hp : (0 : Int) < 2 ^ c := Int.pow_pos (by decide)
    rw [Int.pow_succ] at hc2
    have a1 : 1 ≤ numV n / 2 ^ c := (Int.le_ediv_iff_mul_le hp).2 (by omega)
    have a2 : numV n / 2 ^ c < 2 := (Int.ediv_lt_iff_lt_mul hp).2 (by omega)
    omega
   obtain ⟨d3, hf3, e2⟩ := fol_dig base n c _ e c 0 d2 1 (by omega) h1 hf2
   unfold numD
   rw [hg]
   simp only [if_true]
   rw [if_neg (by decide), e1, e2]
   unfold signD
   rw [if_neg (by omega)]
   have hA := numA_eq n
   unfold evSign at hf3
   by_cases h0 : n = 0
   · rw [if_pos h0] at hf3
     obtain rfl : d3 = e := hf3
     rw [if_pos (by unfold numV; rw [hA, h0]; rfl), h0]
   · rw [if_neg h0] at hf3
     obtain ⟨d4, hg4, hf4⟩ := hf3
     obtain rfl : d4 = e := hf4
     simp only at hg4
     have hV : numV n = numA n + 1 := rfl
     rw [if_neg (by rw [hV, hA]; split <;> omega), hg4]
     simp only [if_true]
     rw [show (numV n - 1) * (1 - 2 * (if n < 0 then 1 else 0)) = n by rw [hV, hA]; split <;> omega]
end Go.Proofs.Ytmndieohblpgaaa.Nfo
namespace Go.Proofs.Ytmndieohblpgaaa.Ned
open Go Go.RowKit YtmndieohblpgaaaW PrintWords PrintLast PrintMore U Aid HandAid Cod1 Cod2 Cod3 Ytmndieohblpgaaa.Mod Enc Mods EncAt Put End Snc Num Evs RefEvs Pse Npu Nen Dec Get DecNew Bkp Ngt Nfo Ndc
theorem same_n0 (l : List S28) (hn : l.length ≤ 1000000) : ∀ (r i : Nat), i + r = l.length → Ev (fun k => incunableref03_Same.l0 k l l i) true
 | 0, i, h => by
   refine ev_succ ?_
   unfold incunableref03_Same.l0
   exact ev_neg (by omega) (Ev.now _)
 | r + 1, i, h => by
   refine ev_succ ?_
   unfold incunableref03_Same.l0
   refine ev_pos (by omega) (ev_pos (by omega) (ev_pos (by omega) (ev_neg (by simp) ?_)))
   rw [show wrap64 ((i : Int) + 1) = ((i + 1 : Nat) : Int) by rw [wrap_id] <;> omega]
   exact same_n0 l hn r (i + 1) (by omega)
theorem same_n (l : List S28) (hn : l.length ≤ 1000000) : Ev (fun k => incunableref03_Same.f k l l) true := by
 unfold incunableref03_Same.f
 exact ev_pos rfl (same_n0 l hn l.length 0 (by omega))
theorem same_calls (l : List S28) (hn : l.length ≤ 1000000) (A : Option Addr) (c : Nat) (A2 : Option Addr) (c2 : Nat) (w : World) (h1 : Kd.C k28 w A l.length l) (h2 : l.length ≤ c) (h3 : Kd.C k28 w A2 l.length l) (h4 : l.length ≤ c2) :
 Calls Try.prog 11 #[.slice A l.length c, .slice A2 l.length c2] w fun e w' => e = .returned (.bool true) ∧ Below w.heap.size w w' := by
 obtain ⟨K, hK⟩ := same_n l hn
 refine (incunableref03_Same.calls K A c l A2 c2 l true w h1 h2 h3 h4 (hK K (Nat.le_refl _))).mono ?_
 rintro e W ⟨he, hd⟩
 exact ⟨he, hd.below⟩
/-- The numbers whose events a decoder tells are the numbers that are told. -/
theorem decN_fol : ∀ (l : List S28) (d e : DS) (acc : List S28), okL l = true → Fol d (evsL l) e → decN l.length d acc = (acc ++ l, 0)
 | [], d, e, acc, _, _ => by
   show (acc, 0) = _
   rw [List.append_nil]
 | x :: l, d, e, acc, hok, hf => by
   unfold okL at hok
   rw [List.all_cons, Bool.and_eq_true] at hok
   unfold evsL at hf
   rw [List.flatMap_cons] at hf
   obtain ⟨c, h1, h2⟩ := Fol.app.1 hf
   have h3 := numD_fol 0 x.f0 x.f1 hok.1 d c h1
   rw [List.length_cons]
   unfold decN
   rw [h3]
   simp only [if_true]
   rw [decN_fol l c e _ hok.2 h2, List.append_assoc]
   rfl
theorem norm_bytes : ∀ (d : Nat) (l h : Int), 0 ≤ l → l ≤ h → h ≤ 4294967295 → Bytes (normE d l h).1
 | 0, _, _, _, _, _ => fun x hx => absurd hx List.not_mem_nil
 | d + 1, l, h, h0, h1, h2 => by
   unfold normE
   split
   · intro x hx
     rcases List.mem_cons.1 hx with rfl | hx
     · omega
     · exact norm_bytes d _ _ (by omega) (by omega) (by omega) x hx
   · exact fun x hx => absurd hx List.not_mem_nil
theorem putsE_bytes : ∀ (l : List S46) (s : ES), s.ok → Bytes s.out → Bytes (putsE s l).1.out
 | [], s, _, h => h
 | x :: l, s, hok, h => by
   unfold putsE
   split
   · refine putsE_bytes l _ (ES.putI_ok hok _ _) ?_
     unfold ES.putI
     split
     · rename_i hg
       simp only [ES.good, Bool.and_eq_true, Bool.or_eq_true, decide_eq_true_eq] at hg
       have hc := ES.cut_ hok (i := x.f0.toNat) (by omega) (bit := x.f1)
       intro y hy
       rcases List.mem_append.1 hy with hy | hy
       · exact h y hy
       · exact norm_bytes 4 _ _ hc.1 hc.2.1 hc.2.2 y hy
     · exact h
   · exact h
theorem endOf_bytes (low high : Int) (h0 : 0 ≤ high) (h1 : high ≤ 4294967295) : Bytes (endOf low high) := by
 intro x hx
 have hx := List.mem_of_mem_take hx
 simp only [hiBytes, List.mem_cons, List.not_mem_nil, or_false] at hx
 rcases hx with rfl | rfl | rfl | rfl <;> omega
theorem endOf_len (low high : Int) : (endOf low high).length ≤ 4 := Nat.le_trans (List.length_take_le' _ _) (Nat.le_refl _)
/-- A code of events is of bytes, and not long. -/
theorem code_bytes (s : ES) (l : List S46) (hok : s.ok) (hb : Bytes s.out) : Bytes (putsE s l).1.end_ ∧ (putsE s l).1.end_.length ≤ s.out.length + 4 * l.length + 4 := by
 have h := putsE_ok l s hok
 have e : (putsE s l).1.end_ = (putsE s l).1.out ++ endOf (putsE s l).1.low (putsE s l).1.high := rfl
 rw [e]
 constructor
 · intro y hy
   rcases List.mem_append.1 hy with hy | hy
   · exact putsE_bytes l s hok hb y hy
   · exact endOf_bytes _ _ (by have := h.l; have := h.lh; omega) h.h y hy
 · rw [List.length_append]
   have := putsE_out l s
   have := endOf_len (putsE s l).1.low (putsE s l).1.high
   omega
theorem encN_dec {kind : Int} {l : List S28} {code : List Int} {er : Int} (h : encN kind l = (code, er)) : (er = 0 ∧ decNs kind code l.length = (l, 0) ∧ Bytes code ∧ code.length ≤ 4800004) ∨ (er = 2 ∧ code = []) := by
 unfold encN at h
 by_cases c : (kind = 0 ∨ kind = 1) ∧ l.length ≤ 20000 ∧ okL l = true
 · rw [if_pos c] at h
   simp only [Prod.mk.injEq] at h
   obtain ⟨rfl, rfl⟩ := h
   have hmok : okModel kind (List.replicate 48 0) := by have := new_ok kind 48 (by rw [newM_ok c.1]); rw [newM_ok c.1] at this; exact this
   have hg := evsL_good 48 (Nat.le_refl _) l c.2.2
   have he : (putsE (newES kind (List.replicate 48 0)) (evsL l)).2 = 0 := putsE_good _ _ hg
   obtain ⟨hb, hlen⟩ := code_bytes (newES kind (List.replicate 48 0)) (evsL l) (newES_ok hmok) (fun x hx => absurd hx List.not_mem_nil)
   obtain ⟨d', hf, -⟩ := back_fol hmok he hb rfl
   refine .inl ⟨rfl, ?_, hb, ?_⟩
   · unfold decNs
     rw [if_pos ⟨c.1, by omega, by omega⟩, Int.toNat_natCast]
     have := decN_fol l _ _ [] c.2.2 hf
     rw [List.nil_append] at this
     exact this
   · have h2 := evsL_len l c.2.2
     have h3 : (newES kind (List.replicate 48 0)).out.length = 0 := rfl
     omega
 · rw [if_neg c] at h
   simp only [Prod.mk.injEq] at h
   exact .inr ⟨h.2.symm, h.1.symm⟩
end Go.Proofs.Ytmndieohblpgaaa.Ned
namespace Go.Proofs.Ytmndieohblpgaaa.Tcd
open Go Go.RowKit YtmndieohblpgaaaW PrintWords PrintLast PrintMore U Aid HandAid Bsz Evs Nen Ndc Ned
/-- A list's kind. -/
def kd (K : List Int) (i : Nat) : Int := if (i : Int) < (K.length : Int) then Int.tmod (wrap64 ((Int.tmod (rd K (i : Int)) 2) + 2)) 2 else 0
theorem tm2 (x : Int) : -2 < Int.tmod x 2 ∧ Int.tmod x 2 < 2 := by
 cases x with
 | ofNat m =>
   have h : Int.tmod (Int.ofNat m) 2 = ((m % 2 : Nat) : Int) := rfl
   rw [h]; omega
 | negSucc m =>
   have h : Int.tmod (Int.negSucc m) 2 = -(((m + 1) % 2 : Nat) : Int) := rfl
   rw [h]; omega
theorem kd_01 (K : List Int) (i : Nat) : kd K i = 0 ∨ kd K i = 1 := by
 unfold kd
 split
 · have h := tm2 (rd K (i : Int))
   rw [wrap_id (by omega) (by omega), tmod_id (by omega)]
   omega
 · exact .inl rfl
def codeOf (L : List (List S28)) (K : List Int) (i : Nat) : List Int := (encN (kd K i) (rd_L4 L (i : Int))).1
def part (L : List (List S28)) (K : List Int) (i : Nat) : List Int := sizeBytes ((codeOf L K i).length : Int) ++ codeOf L K i
/-- The parts of the first lists. -/
def blob (L : List (List S28)) (K : List Int) : Nat → List Int
 | 0 => []
 | i + 1 => blob L K i ++ part L K i
def cnt (L : List (List S28)) : Nat → Nat
 | 0 => 0
 | i + 1 => cnt L i + 1 + (rd_L4 L (i : Int)).length
/-- The first lists are of valid numbers. -/
def okU (L : List (List S28)) (i : Nat) : Prop := ∀ j, j < i → okL (rd_L4 L (j : Int)) = true
theorem cnt_ge (L : List (List S28)) : ∀ (i j : Nat), j < i → (rd_L4 L (j : Int)).length ≤ cnt L i ∧ i ≤ cnt L i
 | 0, j, h => absurd h (Nat.not_lt_zero _)
 | i + 1, j, h => by
   unfold cnt
   by_cases e : j = i
   · subst e
     refine ⟨by omega, ?_⟩
     cases j with
     | zero => omega
     | succ m => have := (cnt_ge L (m + 1) m (Nat.lt_succ_self _)).2; omega
   · have := cnt_ge L i j (by omega); omega
theorem code_fact {L : List (List S28)} {K : List Int} {i : Nat} (hok : okL (rd_L4 L (i : Int)) = true) (hlen : (rd_L4 L (i : Int)).length ≤ 300) :
 encN (kd K i) (rd_L4 L (i : Int)) = (codeOf L K i, 0) ∧ decNs (kd K i) (codeOf L K i) ((rd_L4 L (i : Int)).length : Int) = (rd_L4 L (i : Int), 0) ∧ Bytes (codeOf L K i) ∧ (codeOf L K i).length ≤ 4800004 := by
 obtain ⟨p, hp⟩ : ∃ p, encN (kd K i) (rd_L4 L (i : Int)) = p := ⟨_, rfl⟩
 obtain ⟨code, er⟩ := p
 have hc : codeOf L K i = code := by unfold codeOf; rw [hp]
 have her : er = 0 := by
  have h2 := hp
  unfold encN at h2
  rw [if_pos ⟨kd_01 K i, by omega, hok⟩] at h2
  exact (congrArg Prod.snd h2).symm
 subst her
 rw [hc]
 rcases encN_dec hp with ⟨_, h1, h2, h3⟩ | ⟨h1, _⟩
 · exact ⟨hp, h1, h2, h3⟩
 · exact absurd h1 (by decide)
theorem part_fact {L : List (List S28)} {K : List Int} {i : Nat} (hok : okL (rd_L4 L (i : Int)) = true) (hlen : (rd_L4 L (i : Int)).length ≤ 300) : Bytes (part L K i) ∧ (part L K i).length ≤ 4800009 := by
 obtain ⟨_, _, h2, h3⟩ := code_fact (K := K) hok hlen
 refine ⟨fun x hx => ?_, ?_⟩
 · rcases List.mem_append.1 hx with h | h
   · exact sizeBytes_bytes _ (by omega) (by omega) x h
   · exact h2 x h
 · unfold part
   rw [List.length_append]
   have := sizeBytes_len5 ((codeOf L K i).length : Int)
   omega
theorem blob_fact {L : List (List S28)} {K : List Int} : ∀ (i : Nat), okU L i → cnt L i ≤ 300 → Bytes (blob L K i) ∧ (blob L K i).length ≤ 4800009 * i
 | 0, _, _ => ⟨fun x hx => absurd hx List.not_mem_nil, Nat.le_refl _⟩
 | i + 1, hu, hc => by
   have hlen : (rd_L4 L (i : Int)).length ≤ 300 := by have := (cnt_ge L (i + 1) i (Nat.lt_succ_self _)).1; omega
   obtain ⟨a1, a2⟩ := blob_fact (K := K) i (fun j hj => hu j (by omega)) (by unfold cnt at hc; omega)
   obtain ⟨b1, b2⟩ := part_fact (K := K) (hu i (Nat.lt_succ_self _)) hlen
   refine ⟨fun x hx => ?_, ?_⟩
   · rcases List.mem_append.1 hx with h | h
     · exact a1 x h
     · exact b1 x h
   · unfold blob
     rw [List.length_append]
     omega
theorem blob_pre (L : List (List S28)) (K : List Int) : ∀ (N i : Nat), i ≤ N → ∃ r, blob L K N = blob L K i ++ r
 | 0, i, h => ⟨[], by obtain rfl : i = 0 := by omega
                      rfl⟩
 | N + 1, i, h => by
   by_cases e : i = N + 1
   · subst e; exact ⟨[], by simp⟩
   · obtain ⟨r, hr⟩ := blob_pre L K N i (by omega)
     exact ⟨r ++ part L K N, by rw [blob, hr, List.append_assoc]⟩
theorem get_at {f c : List Int} {n : Int} (h0 : 0 ≤ n) (h1 : n ≤ 2147483647) (hb : Bytes (f ++ sizeBytes n ++ c)) (hl : (f ++ sizeBytes n ++ c).length ≤ 140737488351232) (at' : Int) (ha : at' = (f.length : Int)) :
 Ev (fun k => bits_GetSize.f k (f ++ sizeBytes n ++ c) at') (n, at' + ((sizeBytes n).length : Int), 0) := by
 subst ha
 have h := bits_GetSize_ev (f ++ sizeBytes n ++ c) hb hl (f.length : Int)
 rw [if_neg (by simp; omega), getFrom_size n h0 h1] at h
 exact h
/-- The second loop. -/
theorem back_ev (L : List (List S28)) (K : List Int) (hL : okU L L.length) (hc : cnt L L.length ≤ 300) (B : List Int) (hB : B = blob L K L.length ++ sizeBytes (sumFrom 1 (blob L K L.length))) : ∀ (d i : Nat), i + d = L.length →
 Ev (fun k => incunabletop_TopCodes.l2 k L K B ((blob L K i).length : Int) (i : Int)) true := by
 obtain ⟨f1, f2⟩ := blob_fact (K := K) L.length hL hc
 have hLn : L.length ≤ 300 := by
  by_cases e : L.length = 0
  · omega
  · have := (cnt_ge L L.length (L.length - 1) (by omega)).2; omega
 obtain ⟨s0, s1⟩ := sumFrom_range (blob L K L.length) 1 (by decide) (by decide)
 have hsl := sizeBytes_len5 (sumFrom 1 (blob L K L.length))
 have hbB : Bytes B := by
  subst hB
  intro x hx
  rcases List.mem_append.1 hx with h | h
  · exact f1 x h
  · exact sizeBytes_bytes _ s0 (by omega) x h
 have hlB : B.length ≤ 140737488351232 := by subst hB; rw [List.length_append]; omega
 intro d
 induction d with
 | zero =>
   intro i hi
   obtain rfl : i = L.length := by omega
   refine ev_succ ?_
   simp only [incunabletop_TopCodes.l2]
   refine ev_neg (by omega) ?_
   have hg := get_at (f := blob L K L.length) (c := []) (n := sumFrom 1 (blob L K L.length)) s0 (by omega) (by rw [List.append_nil, ← hB]; exact hbB) (by rw [List.append_nil, ← hB]; exact hlB) _ rfl
   rw [List.append_nil, ← hB] at hg
   refine ev_bind hg ?_
   have e1 : ((blob L K L.length).length : Int) + ((sizeBytes (sumFrom 1 (blob L K L.length))).length : Int) = (B.length : Int) := by rw [hB, List.length_append]; omega
   have e2 : B.take (((blob L K L.length).length : Int)).toNat = blob L K L.length := by rw [hB, Int.toNat_natCast]; exact List.take_left
   refine ev_pos rfl (ev_pos e1 (ev_pos (by omega) (ev_pos (by omega) ?_)))
   rw [e2]
   exact ev_bind (bits_Sum_ev _ f1 (by omega)) (ev_pos rfl (ev_pure rfl (Ev.now _)))
 | succ d ih =>
   intro i hi
   obtain ⟨r, hr⟩ := blob_pre L K L.length (i + 1) (by omega)
   have hok := hL i (by omega)
   have hlen : (rd_L4 L (i : Int)).length ≤ 300 := by have := (cnt_ge L L.length i (by omega)).1; omega
   obtain ⟨c1, c2, c3, c4⟩ := code_fact (K := K) hok hlen
   obtain ⟨C, hC⟩ : ∃ C, codeOf L K i = C := ⟨_, rfl⟩
   rw [hC] at c1 c2 c3 c4
   have hsz := sizeBytes_len5 (C.length : Int)
   have hB2 : B = blob L K i ++ sizeBytes (C.length : Int) ++ (C ++ (r ++ sizeBytes (sumFrom 1 (blob L K L.length)))) := by
    rw [hB]
    generalize sizeBytes (sumFrom 1 (blob L K L.length)) = T
    rw [hr, blob, part, hC]
    simp only [List.append_assoc]
   have hnext : ((blob L K (i + 1)).length : Int) = ((blob L K i).length : Int) + ((sizeBytes (C.length : Int)).length : Int) + (C.length : Int) := by
    rw [blob, part, hC]; simp only [List.length_append]; omega
   have hin : ((blob L K (i + 1)).length : Int) ≤ (B.length : Int) := by
    rw [hB]
    generalize sizeBytes (sumFrom 1 (blob L K L.length)) = T
    rw [hr]; simp only [List.length_append]; omega
   refine ev_succ ?_
   simp only [incunabletop_TopCodes.l2]
   refine ev_pos (by omega) ?_
   have hg := get_at (f := blob L K i) (c := C ++ (r ++ sizeBytes (sumFrom 1 (blob L K L.length)))) (n := (C.length : Int)) (by omega) (by omega) (by rw [← hB2]; exact hbB) (by rw [← hB2]; exact hlB) _ rfl
   rw [← hB2] at hg
   refine ev_bind hg ?_
   refine ev_pos rfl (ev_neg (by simp only; omega) (ev_neg (by simp only; omega) (ev_neg (by simp only; omega) ?_)))
   simp only
   rw [wrap_id (by omega) (by omega), show decide ((C.length : Int) > (B.length : Int) - (((blob L K i).length : Int) + ((sizeBytes (C.length : Int)).length : Int))) = false from decide_eq_false (by omega)]
   refine ev_succ ?_
   simp only [incunabletop_TopCodes.j4]
   refine ev_neg (by decide) ?_
   have last : Ev (fun k => incunabletop_TopCodes.j5 k L K B (i : Int) (C.length : Int) (((blob L K i).length : Int) + ((sizeBytes (C.length : Int)).length : Int)) (kd K i)) true := by
    refine ev_succ ?_
    simp only [incunabletop_TopCodes.j5]
    rw [wrap_id (n := (((blob L K i).length : Int) + ((sizeBytes (C.length : Int)).length : Int)) + (C.length : Int)) (by omega) (by omega), wrap_id (n := (i : Int) + 1) (by omega) (by omega)]
    refine ev_pos (by omega) (ev_pos (by omega) (ev_pos (by omega) (ev_pos (by omega) (ev_pos (by omega) ?_))))
    have hcut : (B.take ((((blob L K i).length : Int) + ((sizeBytes (C.length : Int)).length : Int)) + (C.length : Int)).toNat).drop ((((blob L K i).length : Int) + ((sizeBytes (C.length : Int)).length : Int))).toNat = C := by
     rw [hB2]
     rw [show ((((blob L K i).length : Int) + ((sizeBytes (C.length : Int)).length : Int)) + (C.length : Int)).toNat = (blob L K i ++ sizeBytes (C.length : Int) ++ C).length by simp only [List.length_append]; omega]
     rw [show ((((blob L K i).length : Int) + ((sizeBytes (C.length : Int)).length : Int))).toNat = (blob L K i ++ sizeBytes (C.length : Int)).length by simp only [List.length_append]; omega]
     rw [← List.append_assoc (blob L K i ++ sizeBytes (C.length : Int)), List.take_left, List.drop_left]
    rw [hcut]
    refine ev_pure (show number_Decode.f (kd K i) C ((rd_L4 L (i : Int)).length : Int) = some (rd_L4 L (i : Int), 0) by
     unfold number_Decode.f
     rw [if_pos ⟨List.all_eq_true.2 (fun x hx => decide_eq_true (c3 x hx)), by omega⟩, c2]) ?_
    refine ev_pos rfl (ev_bind (same_n (rd_L4 L (i : Int)) (by omega)) (ev_pos rfl ?_))
    have h2 := ih (i + 1) (by omega)
    rw [hnext, show (((i + 1 : Nat) : Int)) = (i : Int) + 1 by omega] at h2
    exact h2
   by_cases ck : (i : Int) < (K.length : Int)
   · refine ev_pos ck (ev_pos (by omega) ?_)
     have e : kd K i = Int.tmod (wrap64 ((Int.tmod (rd K (i : Int)) 2) + 2)) 2 := by unfold kd; rw [if_pos ck]
     rw [e] at last
     exact last
   · refine ev_neg ck ?_
     have e : kd K i = 0 := by unfold kd; rw [if_neg ck]
     rw [e] at last
     exact last
theorem okL_take_succ {l : List S28} {j : Nat} (h : j < l.length) : okL (l.take (j + 1)) = (okL (l.take j) && okNum (rd_T28 l (j : Int)).f0 (rd_T28 l (j : Int)).f1) := by
 have e : l[j] = rd_T28 l (j : Int) := by simp [rd_T28, List.getD_eq_getElem?_getD, List.getElem?_eq_getElem h]
 unfold okL
 rw [List.take_succ_eq_append_getElem h, List.all_append, e]
 simp
/-- The first loop. -/
theorem top_ev (L : List (List S28)) (K : List Int) (hlen : ∀ i : Nat, (rd_L4 L (i : Int)).length ≤ 140737488351232) (hLl : L.length ≤ 140737488351232) : ∀ (d i : Nat), i + d = L.length → okU L i → cnt L i ≤ 300 →
 Ev (fun k => incunabletop_TopCodes.l0 k L K (cnt L i : Int) (blob L K i) (i : Int)) true := by
 intro d
 induction d with
 | zero =>
   intro i hi hu hc
   obtain rfl : i = L.length := by omega
   obtain ⟨f1, f2⟩ := blob_fact (K := K) L.length hu hc
   have hLn : L.length ≤ 300 := by
    by_cases e : L.length = 0
    · omega
    · have := (cnt_ge L L.length (L.length - 1) (by omega)).2; omega
   obtain ⟨s0, s1⟩ := sumFrom_range (blob L K L.length) 1 (by decide) (by decide)
   have hsl := sizeBytes_len5 (sumFrom 1 (blob L K L.length))
   refine ev_succ ?_
   simp only [incunabletop_TopCodes.l0]
   refine ev_neg (by omega) (ev_bind (bits_Sum_ev _ f1 (by omega)) (ev_bind (bits_Size_ev _ s0 (by omega)) (ev_pos rfl (ev_pos (by simp only; omega) ?_))))
   exact back_ev L K hu hc _ rfl L.length 0 (by omega)
 | succ d ih =>
   intro i hi hu hc
   obtain ⟨f1, f2⟩ := blob_fact (K := K) i hu hc
   have hin : i ≤ 300 := by
    by_cases e : i = 0
    · omega
    · have := (cnt_ge L i (i - 1) (by omega)).2; omega
   have hl := hlen i
   refine ev_succ ?_
   simp only [incunabletop_TopCodes.l0]
   refine ev_pos (by omega) (ev_pos (by omega) ?_)
   rw [wrap_id (n := (cnt L i : Int) + 1) (by omega) (by omega), wrap_id (by omega) (by omega), show (cnt L i : Int) + 1 + ((rd_L4 L (i : Int)).length : Int) = (cnt L (i + 1) : Int) by rw [cnt]; omega]
   have inner : ∀ (e j : Nat), j + e = (rd_L4 L (i : Int)).length → okL ((rd_L4 L (i : Int)).take j) = true → Ev (fun k => incunabletop_TopCodes.l1 k L K (cnt L (i + 1) : Int) (blob L K i) (i : Int) (j : Int)) true := by
    intro e
    induction e with
    | zero =>
      intro j hj hok
      rw [show j = (rd_L4 L (i : Int)).length by omega, List.take_length] at hok
      refine ev_succ ?_
      simp only [incunabletop_TopCodes.l1]
      refine ev_pos (by omega) (ev_pos (by omega) (ev_neg (by omega) ?_))
      by_cases h300 : (cnt L (i + 1) : Int) > 300
      · exact ev_pos h300 (ev_pure rfl (Ev.now _))
      refine ev_neg h300 ?_
      have hu2 : okU L (i + 1) := fun j hj => by
       by_cases ej : j = i
       · subst ej; exact hok
       · exact hu j (by omega)
      have hl3 : (rd_L4 L (i : Int)).length ≤ 300 := by rw [cnt] at h300; omega
      obtain ⟨c1, c2, c3, c4⟩ := code_fact (K := K) hok hl3
      have hsz := sizeBytes_len5 ((codeOf L K i).length : Int)
      have last : Ev (fun k => incunabletop_TopCodes.j2 k L K (cnt L (i + 1) : Int) (blob L K i) (i : Int) (kd K i)) true := by
       refine ev_succ ?_
       simp only [incunabletop_TopCodes.j2]
       refine ev_pos (by omega) (ev_pos (by omega) (ev_pure (congrArg some c1) (ev_bind (bits_Size_ev _ (by simp only; omega) (by simp only; omega)) (ev_pos rfl (ev_pos rfl (ev_pos (by simp only; omega) (ev_pure rfl (ev_pos (by simp only [List.length_append]; omega) ?_))))))))
       have h2 := ih (i + 1) (by omega) hu2 (by omega)
       rw [wrap_id (n := (i : Int) + 1) (by omega) (by omega)]
       simp only
       have e2 : blob L K (i + 1) = blob L K i ++ sizeBytes ((codeOf L K i).length : Int) ++ codeOf L K i := by rw [blob, part, List.append_assoc]
       rw [← e2]
       exact h2
      by_cases ck : (i : Int) < (K.length : Int)
      · refine ev_pos ck ?_
        have e : kd K i = Int.tmod (wrap64 ((Int.tmod (rd K (i : Int)) 2) + 2)) 2 := by unfold kd; rw [if_pos ck]
        rw [e] at last
        exact last
      · refine ev_neg ck ?_
        have e : kd K i = 0 := by unfold kd; rw [if_neg ck]
        rw [e] at last
        exact last
    | succ e ihe =>
      intro j hj hok
      refine ev_succ ?_
      simp only [incunabletop_TopCodes.l1]
      refine ev_pos (by omega) (ev_pos (by omega) (ev_pos (by omega) (ev_pos (by omega) (ev_pure (ref_valid_eq _ _) ?_))))
      by_cases hv : okNum (rd_T28 (rd_L4 L (i : Int)) (j : Int)).f0 (rd_T28 (rd_L4 L (i : Int)) (j : Int)).f1 = true
      · refine ev_pos hv ?_
        rw [wrap_id (n := (j : Int) + 1) (by omega) (by omega)]
        have h2 := ihe (j + 1) (by omega) (by rw [okL_take_succ (by omega), hok, hv]; rfl)
        rw [show (((j + 1 : Nat) : Int)) = (j : Int) + 1 by omega] at h2
        exact h2
      · exact ev_neg hv (ev_pure rfl (Ev.now _))
   exact inner (rd_L4 L (i : Int)).length 0 (by omega) (by rw [List.take_zero]; unfold okL; exact List.all_nil)
theorem codes_ev (L : List (List S28)) (K : List Int) (hlen : ∀ i : Nat, (rd_L4 L (i : Int)).length ≤ 140737488351232) (hLl : L.length ≤ 140737488351232) : Ev (fun k => incunabletop_TopCodes.f k L K) true := by
 unfold incunabletop_TopCodes.f
 exact top_ev L K hlen hLl L.length 0 (by omega) (fun j hj => absurd hj (Nat.not_lt_zero _)) (Nat.zero_le _)
end Go.Proofs.Ytmndieohblpgaaa.Tcd
