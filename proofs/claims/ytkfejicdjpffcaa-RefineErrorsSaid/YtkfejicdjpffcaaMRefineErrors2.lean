import Derived.Test.YtkfejicdjpffcaaMRefineErrors1
import Derived.Test.YtkfejicdjpffcaaMRefineErrors0
import Derived.RowKit
import Derived.Laws.BitsLemmas
import Derived.Test.YtkfejicdjpffcaaProg
import Derived.Below
import Derived.Deep.Draws
import Derived.Deep.AppendLies
import Derived.Maps.AppendAt
import Derived.OwnWalk
import Derived.Laws.BytesArg
import Derived.Laws.MakeOwn
import Derived.Laws.OwnMore
import Derived.Deep.OwnRows
import Derived.Tactics
import Derived.Lib.ConvBytes
import Derived.Laws.Slices
import Derived.WalkKit
import Derived.KernelRfl
import Derived.RowKit3
import Derived.Deep.LoopGhost
import Derived.Deep.QuietTactic
import Derived.BigQuiet
import Derived.WideLaws
import Derived.Deep.DeepCutAuto
import Derived.Deep.CutBlock
import Derived.Deep.RegionHeld3
import Derived.Laws.Rows
import Derived.Lib.AppendStr
import Derived.ArgAppend
import Derived.Laws.IdiomCopy
import Derived.OrdersHeld
import Derived.SizedLaws
import Derived.ChangeSlices
import Derived.ChangeArms
import Derived.Laws.CopyOwn
import Derived.Deep.MidRow
set_option linter.unusedVariables false
set_option linter.unusedSimpArgs false
namespace Go.Proofs.Ytkfejicdjpffcaa.U
open Go.RowKit YtkfejicdjpffcaaW PrintWords PrintLast PrintMore
attribute [local go_sem] max2_int min2_int max_two min_two max_three min_three max_four min_four
def incunableref08_Row.l0 : Nat → Int → Int → Int → Int → Int → Bool → Int → Int → Int → List Int → Int → Int → List Int → Option (Bool)
 | 0, _, _, _, _, _, _, _, _, _, _, _, _, _ => none
 | k + 1, x3, x9, x276000, x276001, x276002, x276003, x276004, x277000, x277001, x277002, x278000, x278001, x278002 => if x9 < x277000 then ((incunableref08_Alike.f k x276000 x276001 x276002 x276003 x276004 x278000 x278001 x278002 x9 x3).bind fun bt278 => (if bt278.2 = true then ((incunableref06_Pix.f x277000 x277001 x277002 x9 x3).bind fun t280 => (if t280 = bt278.1 then (incunableref08_Row.l0 k x3 (wrap64 (x9 + 1)) x276000 x276001 x276002 x276003 x276004 x277000 x277001 x277002 x278000 x278001 x278002) else (some false))) else (incunableref08_Row.l0 k x3 (wrap64 (x9 + 1)) x276000 x276001 x276002 x276003 x276004 x277000 x277001 x277002 x278000 x278001 x278002))) else (some true)
def incunableref08_Row.f (k : Nat) (a0_0 : Int) (a0_1 : Int) (a0_2 : Int) (a0_3 : Bool) (a0_4 : Int) (a1_0 : Int) (a1_1 : Int) (l1_2 : List Int) (a2_0 : Int) (a2_1 : Int) (l2_2 : List Int) (a3 : Int) : Option (Bool) := incunableref08_Row.l0 k a3 0 a0_0 a0_1 a0_2 a0_3 a0_4 a1_0 a1_1 l1_2 a2_0 a2_1 l2_2
theorem incunableref08_Row.mono_l : ∀ k, (∀ y0 y1 y2 y3 y4 y5 y6 y7 y8 y9 y10 y11 y12, LeO (incunableref08_Row.l0 k y0 y1 y2 y3 y4 y5 y6 y7 y8 y9 y10 y11 y12) (incunableref08_Row.l0 (k + 1) y0 y1 y2 y3 y4 y5 y6 y7 y8 y9 y10 y11 y12))
 | 0 => fun _ _ _ _ _ _ _ _ _ _ _ _ _ r h => by simp [incunableref08_Row.l0] at h
 | k + 1 => by
   have ih0 := incunableref08_Row.mono_l k
   · intro y0 y1 y2 y3 y4 y5 y6 y7 y8 y9 y10 y11 y12
     unfold incunableref08_Row.l0
     repeat' first
     | (with_reducible exact ih0 _ _ _ _ _ _ _ _ _ _ _ _ _)
     | (with_reducible exact incunableref08_Alike.mono _ _ _ _ _ _ _ _ _ _ _)
     | (with_reducible exact LeO.refl _)
     | (with_reducible exact LeO.none _)
     | (with_reducible refine LeO.ite ?_ ?_)
     | (with_reducible refine LeO.bind ?_ (fun _ => ?_))
     | exact ih0 _ _ _ _ _ _ _ _ _ _ _ _ _
     | exact incunableref08_Alike.mono _ _ _ _ _ _ _ _ _ _ _
     | exact LeO.none _
     | refine LeO.ite ?_ ?_
     | refine LeO.bind ?_ (fun _ => ?_)
theorem incunableref08_Row.mono : ∀ a0 a1 a2 a3 a4 a5 a6 a7 a8 a9 a10 a11 k, LeO (incunableref08_Row.f k a0 a1 a2 a3 a4 a5 a6 a7 a8 a9 a10 a11) (incunableref08_Row.f (k + 1) a0 a1 a2 a3 a4 a5 a6 a7 a8 a9 a10 a11) := by
 intro a0 a1 a2 a3 a4 a5 a6 a7 a8 a9 a10 a11 k; have ih0 := incunableref08_Row.mono_l k; unfold incunableref08_Row.f
 repeat' first
  | (with_reducible exact ih0 _ _ _ _ _ _ _ _ _ _ _ _ _)
  | (with_reducible exact incunableref08_Alike.mono _ _ _ _ _ _ _ _ _ _ _)
  | (with_reducible exact LeO.refl _)
  | (with_reducible exact LeO.none _)
  | (with_reducible refine LeO.ite ?_ ?_)
  | (with_reducible refine LeO.bind ?_ (fun _ => ?_))
  | exact ih0 _ _ _ _ _ _ _ _ _ _ _ _ _
  | exact incunableref08_Alike.mono _ _ _ _ _ _ _ _ _ _ _
  | exact LeO.none _
  | refine LeO.ite ?_ ?_
  | refine LeO.bind ?_ (fun _ => ?_)
set_option maxHeartbeats 8000000 in
set_option maxRecDepth 100000 in
theorem incunableref08_Row.calls (k : Nat) (a0_0 : Int) (a0_1 : Int) (a0_2 : Int) (a0_3 : Bool) (a0_4 : Int) (a1_0 : Int) (a1_1 : Int) (A1_2 : Option Addr) (c1_2 : Nat) (l1_2 : List Int) (a2_0 : Int) (a2_1 : Int) (A2_2 : Option Addr) (c2_2 : Nat) (l2_2 : List Int) (a3 : Int) (r : Bool) (w : World) (hr1_2 : Kd.C (Kd.int .u8) w A1_2 l1_2.length l1_2) (hc1_2 : l1_2.length ≤ c1_2) (hr2_2 : Kd.C (Kd.int .u8) w A2_2 l2_2.length l2_2) (hc2_2 : l2_2.length ≤ c2_2) (h : incunableref08_Row.f k a0_0 a0_1 a0_2 a0_3 a0_4 a1_0 a1_1 l1_2 a2_0 a2_1 l2_2 a3 = some r) :
 Calls Try.prog 69 #[.agg #[.int .i64 a0_0, .int .i64 a0_1, .int .i64 a0_2, .bool a0_3, .int .i64 a0_4], .agg #[.int .i64 a1_0, .int .i64 a1_1, .slice A1_2 l1_2.length c1_2], .agg #[.int .i64 a2_0, .int .i64 a2_1, .slice A2_2 l2_2.length c2_2], .int .i64 a3] w fun e w' => e = .returned (.bool r) ∧ Below w.heap.size w w' := by
 have hu23 := Try.underlying23; have hu31 := Try.underlying31; have HR1_2 := Za hr1_2; have HC1_2 := Za hc1_2; clear hr1_2 hc1_2; have HR2_2 := Za hr2_2; have HC2_2 := Za hc2_2; clear hr2_2 hc2_2; have HB := Za (Below.refl w.heap.size w); have H : (incunableref08_Row.l0 k a3 0 a0_0 a0_1 a0_2 a0_3 a0_4 a1_0 a1_1 l1_2 a2_0 a2_1 l2_2) = some r := h; clear h; have H' := Za H; clear H; go_enter Try.func69, Try.ntmps69
 go_wp2_with (first | ((with_reducible refine gate_dst (N := 4) rfl ?_); refine box_event ?hg (N := 4) ?hd (cs := #[.int .i64 a0_0, .int .i64 a0_1, .int .i64 a0_2, .bool a0_3, .int .i64 a0_4]) (t := 23) ?hr ?_; (case hd => rfl); (case hg => rfl); (case hr => first | (go_simp; done) | (go_simp; rfl)); intro gb275 hg w5 hbox hb; have n0_ := Za (below_step (by repeat (first | (with_reducible first | exact HB.out | apply b1' | apply b2' | apply b3') | exact HB.out)) hb); have n1_ := Za (hbox); have n2_ := Za ((by rw [hg]; exact (below_size (by repeat (first | (with_reducible first | exact HB.out | apply b1' | apply b2' | apply b3') | exact HB.out))) : w.heap.size ≤ gb275)); have n3_ := Za ((by rw [hg]; exact (below_size (by repeat (first | (with_reducible first | exact HB.out | apply b1' | apply b2' | apply b3') | exact HB.out))) : w.heap.size ≤ gb275)); clear HB; have HB := n0_; have BK275 := n1_; have GW275 := n2_; have GE275 := n3_; clear n0_ n1_ n2_ n3_; clear hb hbox hg) | ((with_reducible refine gate_dst (N := 5) rfl ?_); refine box_event ?hg (N := 5) ?hd (cs := #[.int .i64 a1_0, .int .i64 a1_1, .slice A1_2 l1_2.length c1_2]) (t := 31) ?hr ?_; (case hd => rfl); (case hg => rfl); (case hr => first | (go_simp; done) | (go_simp; rfl)); intro gb276 hg w6 hbox hb; have n0_ := Za (Zd (g := gb275) (o := .cells #[.int .i64 a0_0, .int .i64 a0_1, .int .i64 a0_2, .bool a0_3, .int .i64 a0_4] 23 (0, 0)) (by (with_reducible repeat (first | refine k1' ?_ _ | refine k2' ?_ | refine k3' ?_ _)); exact BK275.out) hb); have n1_ := Za (below_step (by repeat (first | (with_reducible first | exact HB.out | apply b1' | apply b2' | apply b3' | refine below_set ?_ GE275.out) | exact HB.out)) hb); have n2_ := Za (hbox); have n3_ := Za ((by rw [hg]; exact (below_size (by repeat (first | (with_reducible first | exact HB.out | apply b1' | apply b2' | apply b3' | refine below_set ?_ GE275.out) | exact HB.out))) : w.heap.size ≤ gb276)); have n4_ := Za ((by rw [hg]; exact (below_size (by repeat (first | (with_reducible first | exact HB.out | apply b1' | apply b2' | apply b3' | refine below_set ?_ GE275.out) | exact HB.out))) : w.heap.size ≤ gb276)); have n5_ := Za ((by rw [hg]; exact Nat.ne_of_lt (blk_lt (g := gb275) (o := .cells #[.int .i64 a0_0, .int .i64 a0_1, .int .i64 a0_2, .bool a0_3, .int .i64 a0_4] 23 (0, 0)) (by (with_reducible repeat (first | refine k1' ?_ _ | refine k2' ?_ | refine k3' ?_ _)); exact BK275.out)) : gb275 ≠ gb276)); have n6_ := Za ((by rw [hg]; exact Nat.ne_of_gt (blk_lt (g := gb275) (o := .cells #[.int .i64 a0_0, .int .i64 a0_1, .int .i64 a0_2, .bool a0_3, .int .i64 a0_4] 23 (0, 0)) (by (with_reducible repeat (first | refine k1' ?_ _ | refine k2' ?_ | refine k3' ?_ _)); exact BK275.out)) : gb276 ≠ gb275)); clear BK275; clear HB; have BK275 := n0_; have HB := n1_; have BK276 := n2_; have GW276 := n3_; have GE276 := n4_; have NB275_276 := n5_; have NB276_275 := n6_; clear n0_ n1_ n2_ n3_ n4_ n5_ n6_; clear hb hbox hg) | ((with_reducible refine gate_dst (N := 6) rfl ?_); refine box_event ?hg (N := 6) ?hd (cs := #[.int .i64 a2_0, .int .i64 a2_1, .slice A2_2 l2_2.length c2_2]) (t := 31) ?hr ?_; (case hd => rfl); (case hg => rfl); (case hr => first | (go_simp; done) | (go_simp; rfl)); intro gb277 hg w7 hbox hb; have n0_ := Za (Zd (g := gb275) (o := .cells #[.int .i64 a0_0, .int .i64 a0_1, .int .i64 a0_2, .bool a0_3, .int .i64 a0_4] 23 (0, 0)) (by (with_reducible repeat (first | refine k1' ?_ _ | refine k2' ?_ | refine k3' ?_ _)); exact BK275.out) hb); have n1_ := Za (Zd (g := gb276) (o := .cells #[.int .i64 a1_0, .int .i64 a1_1, .slice A1_2 l1_2.length c1_2] 31 (0, 0)) (by (with_reducible repeat (first | refine k1' ?_ _ | refine k2' ?_ | refine k3' ?_ _)); exact BK276.out) hb); have n2_ := Za (below_step (by repeat (first | (with_reducible first | exact HB.out | apply b1' | apply b2' | apply b3' | refine below_set ?_ GE275.out | refine below_set ?_ GE276.out) | exact HB.out)) hb); have n3_ := Za (hbox); have n4_ := Za ((by rw [hg]; exact (below_size (by repeat (first | (with_reducible first | exact HB.out | apply b1' | apply b2' | apply b3' | refine below_set ?_ GE275.out | refine below_set ?_ GE276.out) | exact HB.out))) : w.heap.size ≤ gb277)); have n5_ := Za ((by rw [hg]; exact (below_size (by repeat (first | (with_reducible first | exact HB.out | apply b1' | apply b2' | apply b3' | refine below_set ?_ GE275.out | refine below_set ?_ GE276.out) | exact HB.out))) : w.heap.size ≤ gb277)); have n6_ := Za ((by rw [hg]; exact Nat.ne_of_lt (blk_lt (g := gb275) (o := .cells #[.int .i64 a0_0, .int .i64 a0_1, .int .i64 a0_2, .bool a0_3, .int .i64 a0_4] 23 (0, 0)) (by (with_reducible repeat (first | refine k1' ?_ _ | refine k2' ?_ | refine k3' ?_ _)); exact BK275.out)) : gb275 ≠ gb277)); have n7_ := Za ((by rw [hg]; exact Nat.ne_of_gt (blk_lt (g := gb275) (o := .cells #[.int .i64 a0_0, .int .i64 a0_1, .int .i64 a0_2, .bool a0_3, .int .i64 a0_4] 23 (0, 0)) (by (with_reducible repeat (first | refine k1' ?_ _ | refine k2' ?_ | refine k3' ?_ _)); exact BK275.out)) : gb277 ≠ gb275)); have n8_ := Za ((by rw [hg]; exact Nat.ne_of_lt (blk_lt (g := gb276) (o := .cells #[.int .i64 a1_0, .int .i64 a1_1, .slice A1_2 l1_2.length c1_2] 31 (0, 0)) (by (with_reducible repeat (first | refine k1' ?_ _ | refine k2' ?_ | refine k3' ?_ _)); exact BK276.out)) : gb276 ≠ gb277)); have n9_ := Za ((by rw [hg]; exact Nat.ne_of_gt (blk_lt (g := gb276) (o := .cells #[.int .i64 a1_0, .int .i64 a1_1, .slice A1_2 l1_2.length c1_2] 31 (0, 0)) (by (with_reducible repeat (first | refine k1' ?_ _ | refine k2' ?_ | refine k3' ?_ _)); exact BK276.out)) : gb277 ≠ gb276)); clear BK275; clear BK276; clear HB; have BK275 := n0_; have BK276 := n1_; have HB := n2_; have BK277 := n3_; have GW277 := n4_; have GE277 := n5_; have NB275_277 := n6_; have NB277_275 := n7_; have NB276_277 := n8_; have NB277_276 := n9_; clear n0_ n1_ n2_ n3_ n4_ n5_ n6_ n7_ n8_ n9_; clear hb hbox hg))
 go_loopg [9] k (fun kq v9 w' => ∃ (x9_1 : Int), v9 = .int .i64 x9_1 ∧ Aside0 (incunableref08_Row.l0 kq a3 x9_1 a0_0 a0_1 a0_2 a0_3 a0_4 a1_0 a1_1 l1_2 a2_0 a2_1 l2_2 = some r) ∧ Aside0 (kq ≤ k) ∧ Aside0 (w'.heap[gb275]? = some (.cells #[.int .i64 a0_0, .int .i64 a0_1, .int .i64 a0_2, .bool a0_3, .int .i64 a0_4] 23 (0, 0))) ∧ Aside0 (w'.heap[gb276]? = some (.cells #[.int .i64 a1_0, .int .i64 a1_1, (.slice A1_2 l1_2.length c1_2)] 31 (0, 0))) ∧ Aside0 (w'.heap[gb277]? = some (.cells #[.int .i64 a2_0, .int .i64 a2_1, (.slice A2_2 l2_2.length c2_2)] 31 (0, 0))) ∧ Aside0 (Below w.heap.size w w')); (case atStart => exact ⟨(0), (by first | rfl | (simp; done) | (simp [*]; done)), H', ⟨Nat.le_refl _⟩, ⟨by (with_reducible repeat (first | refine k1' ?_ _ | refine k2' ?_ | refine k3' ?_ _)); exact BK275.out⟩, ⟨by (with_reducible repeat (first | refine k1' ?_ _ | refine k2' ?_ | refine k3' ?_ _)); exact BK276.out⟩, ⟨by (with_reducible repeat (first | refine k1' ?_ _ | refine k2' ?_ | refine k3' ?_ _)); exact BK277.out⟩, ⟨by repeat (first | (with_reducible first | exact HB.out | apply b1' | apply b2' | apply b3' | refine below_set ?_ GE275.out | refine below_set ?_ GE276.out | refine below_set ?_ GE277.out) | exact HB.out)⟩⟩)
 case round =>
  clear H'; (try clear c1); (try clear c2); (try clear p2); (try clear c6); obtain ⟨x9_1, rfl, HA, HK1, BK275, BK276, BK277, HB⟩ := hrel
  cases gk with
  | zero => exact absurd HA.out (by simp [incunableref08_Row.l0])
  | succ k1 =>
   have H := HA.out; clear HA; simp only [incunableref08_Row.l0] at H; by_cases c8 : x9_1 < a1_0
   (· rw [if_pos c8] at H; have c8b0 : decide (x9_1 < a1_0) = true := decide_eq_true c8; clear c8; replace H := Option.bind_eq_some_iff.mp H; obtain ⟨⟨t278, t279⟩, A90, H⟩ := H; replace H : (if t279 = true then ((incunableref06_Pix.f a1_0 a1_1 l1_2 x9_1 a3).bind fun t280 => (if t280 = t278 then (incunableref08_Row.l0 k1 a3 (wrap64 (x9_1 + 1)) a0_0 a0_1 a0_2 a0_3 a0_4 a1_0 a1_1 l1_2 a2_0 a2_1 l2_2) else (some false))) else (incunableref08_Row.l0 k1 a3 (wrap64 (x9_1 + 1)) a0_0 a0_1 a0_2 a0_3 a0_4 a1_0 a1_1 l1_2 a2_0 a2_1 l2_2)) = some r := H; have A9 := Za A90; clear A90; by_cases c10 : t279 = true; (· subst c10; (have H1 : ((incunableref06_Pix.f a1_0 a1_1 l1_2 x9_1 a3).bind fun t280 => (if t280 = t278 then (incunableref08_Row.l0 k1 a3 (wrap64 (x9_1 + 1)) a0_0 a0_1 a0_2 a0_3 a0_4 a1_0 a1_1 l1_2 a2_0 a2_1 l2_2) else (some false))) = some r := by rw [if_pos rfl] at H; exact H); clear H; have H := H1; clear H1; replace H := Option.bind_eq_some_iff.mp H; obtain ⟨t280, A110, H⟩ := H; replace H : (if t280 = t278 then (incunableref08_Row.l0 k1 a3 (wrap64 (x9_1 + 1)) a0_0 a0_1 a0_2 a0_3 a0_4 a1_0 a1_1 l1_2 a2_0 a2_1 l2_2) else (some false)) = some r := H; have A11 := Za A110; clear A110; by_cases c12 : t280 = t278; (· rw [if_pos c12] at H; have c12b0 : (t280 == t278) = true := beq_iff_eq.mpr c12; have c12b1 : (t280 != t278) = false := bne_eq_false_iff_eq.mpr c12; clear c12; have H' := Za H; clear H; have hnb13 := NB276_275.out; have hnc13 := NB275_276.out; have hnb14 := NB276_277.out; have hnc14 := NB277_276.out; have hcz15_0 : wr.cell? ⟨gb276, 0, none⟩ = some (.int .i64 a1_0) := (Zc BK276.out 0).trans rfl; have hcz15_1 : wr.cell? ⟨gb276, 1, none⟩ = some (.int .i64 a1_1) := (Zc BK276.out 1).trans rfl; have hcz15_2 : wr.cell? ⟨gb276, 2, none⟩ = some (.slice A1_2 l1_2.length c1_2) := (Zc BK276.out 2).trans rfl; have hfz15_0 := Zf BK276.out 0; have hfz15_1 := Zf BK276.out 1; have hfz15_2 := Zf BK276.out 2; have hnb16 := NB275_277.out; have hnc16 := NB277_275.out; have hcz17_0 : wr.cell? ⟨gb275, 0, none⟩ = some (.int .i64 a0_0) := (Zc BK275.out 0).trans rfl; have hcz17_1 : wr.cell? ⟨gb275, 1, none⟩ = some (.int .i64 a0_1) := (Zc BK275.out 1).trans rfl; have hcz17_2 : wr.cell? ⟨gb275, 2, none⟩ = some (.int .i64 a0_2) := (Zc BK275.out 2).trans rfl; have hcz17_3 : wr.cell? ⟨gb275, 3, none⟩ = some (.bool a0_3) := (Zc BK275.out 3).trans rfl; have hcz17_4 : wr.cell? ⟨gb275, 4, none⟩ = some (.int .i64 a0_4) := (Zc BK275.out 4).trans rfl; have hfz17_0 := Zf BK275.out 0; have hfz17_1 := Zf BK275.out 1; have hfz17_2 := Zf BK275.out 2; have hfz17_3 := Zf BK275.out 3; have hfz17_4 := Zf BK275.out 4; have hcz18_0 : wr.cell? ⟨gb277, 0, none⟩ = some (.int .i64 a2_0) := (Zc BK277.out 0).trans rfl; have hcz18_1 : wr.cell? ⟨gb277, 1, none⟩ = some (.int .i64 a2_1) := (Zc BK277.out 1).trans rfl; have hcz18_2 : wr.cell? ⟨gb277, 2, none⟩ = some (.slice A2_2 l2_2.length c2_2) := (Zc BK277.out 2).trans rfl; have hfz18_0 := Zf BK277.out 0; have hfz18_1 := Zf BK277.out 1; have hfz18_2 := Zf BK277.out 2; go_wp2_with (first | ((with_reducible refine gate_callee (f := 41) rfl ?_); refine goesL_ (some 23) rfl rfl Try.func41 (by kernel_rfl) rfl #[.agg #[.int .i64 a0_0, .int .i64 a0_1, .int .i64 a0_2, .bool a0_3, .int .i64 a0_4], .agg #[.int .i64 a2_0, .int .i64 a2_1, .slice A2_2 l2_2.length c2_2], .int .i64 x9_1, .int .i64 a3] rfl (by (try simp only [List.map_toArray, List.map_cons, List.map_nil]); first | done | rfl | (simp only [List.length_drop, List.length_take]; rfl)) ?_; (with_reducible refine (incunableref08_Alike.calls k1 a0_0 a0_1 a0_2 a0_3 a0_4 a2_0 a2_1 _ _ l2_2 x9_1 a3 t278 true _ ?side1 ?side2 A9.out).mono ?_); (case side1 => repeat (first | exact (Kd.C_below HR2_2.out HB.out) | (with_reducible refine Kd.C_alloc ?_ _) | (with_reducible refine Kd.C_drewN ?_ _) | (with_reducible refine Kd.C_drew ?_))); (case side2 => exact HC2_2.out); rintro e w19 ⟨rfl, hb⟩; refine ⟨_, rfl, ?_⟩; have n0_ := Za (Zd (g := gb275) (o := .cells #[.int .i64 a0_0, .int .i64 a0_1, .int .i64 a0_2, .bool a0_3, .int .i64 a0_4] 23 (0, 0)) (by (with_reducible repeat (first | refine k1' ?_ _ | refine k2' ?_ | refine k3' ?_ _)); exact BK275.out) hb); have n1_ := Za (Zd (g := gb276) (o := .cells #[.int .i64 a1_0, .int .i64 a1_1, .slice A1_2 l1_2.length c1_2] 31 (0, 0)) (by (with_reducible repeat (first | refine k1' ?_ _ | refine k2' ?_ | refine k3' ?_ _)); exact BK276.out) hb); have n2_ := Za (Zd (g := gb277) (o := .cells #[.int .i64 a2_0, .int .i64 a2_1, .slice A2_2 l2_2.length c2_2] 31 (0, 0)) (by (with_reducible repeat (first | refine k1' ?_ _ | refine k2' ?_ | refine k3' ?_ _)); exact BK277.out) hb); have n3_ := Za (below_step (by repeat (first | (with_reducible first | exact HB.out | apply b1' | apply b2' | apply b3' | refine below_set ?_ GE275.out | refine below_set ?_ GE276.out | refine below_set ?_ GE277.out) | exact HB.out)) hb); clear BK275; clear BK276; clear BK277; clear HB; have BK275 := n0_; have BK276 := n1_; have BK277 := n2_; have HB := n3_; clear n0_ n1_ n2_ n3_; (try clear hb); (try clear hb2); (try clear hk); (try clear hi); have hcz20_0 : w19.cell? ⟨gb276, 0, none⟩ = some (.int .i64 a1_0) := (Zc BK276.out 0).trans rfl; have hcz20_1 : w19.cell? ⟨gb276, 1, none⟩ = some (.int .i64 a1_1) := (Zc BK276.out 1).trans rfl; have hcz20_2 : w19.cell? ⟨gb276, 2, none⟩ = some (.slice A1_2 l1_2.length c1_2) := (Zc BK276.out 2).trans rfl; have hfz20_0 := Zf BK276.out 0; have hfz20_1 := Zf BK276.out 1; have hfz20_2 := Zf BK276.out 2) | (go_at_call 42; (with_reducible refine (incunableref06_Pix.calls a1_0 a1_1 _ _ l1_2 x9_1 a3 t280 _ ?side1 ?side2 A11.out).mono ?_); (case side1 => repeat (first | exact (Kd.C_below HR1_2.out HB.out) | (with_reducible refine Kd.C_alloc ?_ _) | (with_reducible refine Kd.C_drewN ?_ _) | (with_reducible refine Kd.C_drew ?_))); (case side2 => exact HC1_2.out); rintro e w21 ⟨rfl, hb⟩; have n0_ := Za (Zd (g := gb275) (o := .cells #[.int .i64 a0_0, .int .i64 a0_1, .int .i64 a0_2, .bool a0_3, .int .i64 a0_4] 23 (0, 0)) (by (with_reducible repeat (first | refine k1' ?_ _ | refine k2' ?_ | refine k3' ?_ _)); exact BK275.out) hb); have n1_ := Za (Zd (g := gb276) (o := .cells #[.int .i64 a1_0, .int .i64 a1_1, .slice A1_2 l1_2.length c1_2] 31 (0, 0)) (by (with_reducible repeat (first | refine k1' ?_ _ | refine k2' ?_ | refine k3' ?_ _)); exact BK276.out) hb); have n2_ := Za (Zd (g := gb277) (o := .cells #[.int .i64 a2_0, .int .i64 a2_1, .slice A2_2 l2_2.length c2_2] 31 (0, 0)) (by (with_reducible repeat (first | refine k1' ?_ _ | refine k2' ?_ | refine k3' ?_ _)); exact BK277.out) hb); have n3_ := Za (below_step (by repeat (first | (with_reducible first | exact HB.out | apply b1' | apply b2' | apply b3' | refine below_set ?_ GE275.out | refine below_set ?_ GE276.out | refine below_set ?_ GE277.out) | exact HB.out)) hb); clear BK275; clear BK276; clear BK277; clear HB; have BK275 := n0_; have BK276 := n1_; have BK277 := n2_; have HB := n3_; clear n0_ n1_ n2_ n3_; (try clear hb); (try clear hb2); (try clear hk); (try clear hi))); go_roundg k1; (case measure => have := HK1.out; omega); (case rel => exact ⟨(wrap64 (x9_1 + 1)), (by first | rfl | (simp; done) | (simp [*]; done)), H', ⟨by have := HK1.out; omega⟩, ⟨by (with_reducible repeat (first | refine k1' ?_ _ | refine k2' ?_ | refine k3' ?_ _)); exact BK275.out⟩, ⟨by (with_reducible repeat (first | refine k1' ?_ _ | refine k2' ?_ | refine k3' ?_ _)); exact BK276.out⟩, ⟨by (with_reducible repeat (first | refine k1' ?_ _ | refine k2' ?_ | refine k3' ?_ _)); exact BK277.out⟩, ⟨by repeat (first | (with_reducible first | exact HB.out | apply b1' | apply b2' | apply b3' | refine below_set ?_ GE275.out | refine below_set ?_ GE276.out | refine below_set ?_ GE277.out) | exact HB.out)⟩⟩)); (· rw [if_neg c12] at H; have c12b0 : (t280 == t278) = false := beq_eq_false_iff_ne.mpr c12; have c12b1 : (t280 != t278) = true := bne_iff_ne.mpr c12; obtain rfl := Option.some.inj H; have hnb22 := NB276_275.out; have hnc22 := NB275_276.out; have hnb23 := NB276_277.out; have hnc23 := NB277_276.out; have hcz24_0 : wr.cell? ⟨gb276, 0, none⟩ = some (.int .i64 a1_0) := (Zc BK276.out 0).trans rfl; have hcz24_1 : wr.cell? ⟨gb276, 1, none⟩ = some (.int .i64 a1_1) := (Zc BK276.out 1).trans rfl; have hcz24_2 : wr.cell? ⟨gb276, 2, none⟩ = some (.slice A1_2 l1_2.length c1_2) := (Zc BK276.out 2).trans rfl; have hfz24_0 := Zf BK276.out 0; have hfz24_1 := Zf BK276.out 1; have hfz24_2 := Zf BK276.out 2; have hnb25 := NB275_277.out; have hnc25 := NB277_275.out; have hcz26_0 : wr.cell? ⟨gb275, 0, none⟩ = some (.int .i64 a0_0) := (Zc BK275.out 0).trans rfl; have hcz26_1 : wr.cell? ⟨gb275, 1, none⟩ = some (.int .i64 a0_1) := (Zc BK275.out 1).trans rfl; have hcz26_2 : wr.cell? ⟨gb275, 2, none⟩ = some (.int .i64 a0_2) := (Zc BK275.out 2).trans rfl; have hcz26_3 : wr.cell? ⟨gb275, 3, none⟩ = some (.bool a0_3) := (Zc BK275.out 3).trans rfl; have hcz26_4 : wr.cell? ⟨gb275, 4, none⟩ = some (.int .i64 a0_4) := (Zc BK275.out 4).trans rfl; have hfz26_0 := Zf BK275.out 0; have hfz26_1 := Zf BK275.out 1; have hfz26_2 := Zf BK275.out 2; have hfz26_3 := Zf BK275.out 3; have hfz26_4 := Zf BK275.out 4; have hcz27_0 : wr.cell? ⟨gb277, 0, none⟩ = some (.int .i64 a2_0) := (Zc BK277.out 0).trans rfl; have hcz27_1 : wr.cell? ⟨gb277, 1, none⟩ = some (.int .i64 a2_1) := (Zc BK277.out 1).trans rfl; have hcz27_2 : wr.cell? ⟨gb277, 2, none⟩ = some (.slice A2_2 l2_2.length c2_2) := (Zc BK277.out 2).trans rfl; have hfz27_0 := Zf BK277.out 0; have hfz27_1 := Zf BK277.out 1; have hfz27_2 := Zf BK277.out 2; go_wp2_with (first | ((with_reducible refine gate_callee (f := 41) rfl ?_); refine goesL_ (some 23) rfl rfl Try.func41 (by kernel_rfl) rfl #[.agg #[.int .i64 a0_0, .int .i64 a0_1, .int .i64 a0_2, .bool a0_3, .int .i64 a0_4], .agg #[.int .i64 a2_0, .int .i64 a2_1, .slice A2_2 l2_2.length c2_2], .int .i64 x9_1, .int .i64 a3] rfl (by (try simp only [List.map_toArray, List.map_cons, List.map_nil]); first | done | rfl | (simp only [List.length_drop, List.length_take]; rfl)) ?_; (with_reducible refine (incunableref08_Alike.calls k1 a0_0 a0_1 a0_2 a0_3 a0_4 a2_0 a2_1 _ _ l2_2 x9_1 a3 t278 true _ ?side1 ?side2 A9.out).mono ?_); (case side1 => repeat (first | exact (Kd.C_below HR2_2.out HB.out) | (with_reducible refine Kd.C_alloc ?_ _) | (with_reducible refine Kd.C_drewN ?_ _) | (with_reducible refine Kd.C_drew ?_))); (case side2 => exact HC2_2.out); rintro e w28 ⟨rfl, hb⟩; refine ⟨_, rfl, ?_⟩; have n0_ := Za (Zd (g := gb275) (o := .cells #[.int .i64 a0_0, .int .i64 a0_1, .int .i64 a0_2, .bool a0_3, .int .i64 a0_4] 23 (0, 0)) (by (with_reducible repeat (first | refine k1' ?_ _ | refine k2' ?_ | refine k3' ?_ _)); exact BK275.out) hb); have n1_ := Za (Zd (g := gb276) (o := .cells #[.int .i64 a1_0, .int .i64 a1_1, .slice A1_2 l1_2.length c1_2] 31 (0, 0)) (by (with_reducible repeat (first | refine k1' ?_ _ | refine k2' ?_ | refine k3' ?_ _)); exact BK276.out) hb); have n2_ := Za (Zd (g := gb277) (o := .cells #[.int .i64 a2_0, .int .i64 a2_1, .slice A2_2 l2_2.length c2_2] 31 (0, 0)) (by (with_reducible repeat (first | refine k1' ?_ _ | refine k2' ?_ | refine k3' ?_ _)); exact BK277.out) hb); have n3_ := Za (below_step (by repeat (first | (with_reducible first | exact HB.out | apply b1' | apply b2' | apply b3' | refine below_set ?_ GE275.out | refine below_set ?_ GE276.out | refine below_set ?_ GE277.out) | exact HB.out)) hb); clear BK275; clear BK276; clear BK277; clear HB; have BK275 := n0_; have BK276 := n1_; have BK277 := n2_; have HB := n3_; clear n0_ n1_ n2_ n3_; (try clear hb); (try clear hb2); (try clear hk); (try clear hi); have hcz29_0 : w28.cell? ⟨gb276, 0, none⟩ = some (.int .i64 a1_0) := (Zc BK276.out 0).trans rfl; have hcz29_1 : w28.cell? ⟨gb276, 1, none⟩ = some (.int .i64 a1_1) := (Zc BK276.out 1).trans rfl; have hcz29_2 : w28.cell? ⟨gb276, 2, none⟩ = some (.slice A1_2 l1_2.length c1_2) := (Zc BK276.out 2).trans rfl; have hfz29_0 := Zf BK276.out 0; have hfz29_1 := Zf BK276.out 1; have hfz29_2 := Zf BK276.out 2) | (go_at_call 42; (with_reducible refine (incunableref06_Pix.calls a1_0 a1_1 _ _ l1_2 x9_1 a3 t280 _ ?side1 ?side2 A11.out).mono ?_); (case side1 => repeat (first | exact (Kd.C_below HR1_2.out HB.out) | (with_reducible refine Kd.C_alloc ?_ _) | (with_reducible refine Kd.C_drewN ?_ _) | (with_reducible refine Kd.C_drew ?_))); (case side2 => exact HC1_2.out); rintro e w30 ⟨rfl, hb⟩; have n0_ := Za (Zd (g := gb275) (o := .cells #[.int .i64 a0_0, .int .i64 a0_1, .int .i64 a0_2, .bool a0_3, .int .i64 a0_4] 23 (0, 0)) (by (with_reducible repeat (first | refine k1' ?_ _ | refine k2' ?_ | refine k3' ?_ _)); exact BK275.out) hb); have n1_ := Za (Zd (g := gb276) (o := .cells #[.int .i64 a1_0, .int .i64 a1_1, .slice A1_2 l1_2.length c1_2] 31 (0, 0)) (by (with_reducible repeat (first | refine k1' ?_ _ | refine k2' ?_ | refine k3' ?_ _)); exact BK276.out) hb); have n2_ := Za (Zd (g := gb277) (o := .cells #[.int .i64 a2_0, .int .i64 a2_1, .slice A2_2 l2_2.length c2_2] 31 (0, 0)) (by (with_reducible repeat (first | refine k1' ?_ _ | refine k2' ?_ | refine k3' ?_ _)); exact BK277.out) hb); have n3_ := Za (below_step (by repeat (first | (with_reducible first | exact HB.out | apply b1' | apply b2' | apply b3' | refine below_set ?_ GE275.out | refine below_set ?_ GE276.out | refine below_set ?_ GE277.out) | exact HB.out)) hb); clear BK275; clear BK276; clear BK277; clear HB; have BK275 := n0_; have BK276 := n1_; have BK277 := n2_; have HB := n3_; clear n0_ n1_ n2_ n3_; (try clear hb); (try clear hb2); (try clear hk); (try clear hi))); go_ret; (exact ⟨by first | rfl | (simp [errW_none, errW_some] <;> rfl) | (simp [*, errW_none, errW_some] <;> rfl), by repeat (first | (with_reducible first | exact HB.out | apply b1' | apply b2' | apply b3' | refine below_set ?_ GE275.out | refine below_set ?_ GE276.out | refine below_set ?_ GE277.out) | exact HB.out)⟩))); (· replace c10 := Bool.eq_false_iff.mpr c10; subst c10; (have H1 : (incunableref08_Row.l0 k1 a3 (wrap64 (x9_1 + 1)) a0_0 a0_1 a0_2 a0_3 a0_4 a1_0 a1_1 l1_2 a2_0 a2_1 l2_2) = some r := by rw [if_neg (show ¬ (false = true) by decide)] at H; exact H); clear H; have H := H1; clear H1; have H' := Za H; clear H; have hnb31 := NB276_275.out; have hnc31 := NB275_276.out; have hnb32 := NB276_277.out; have hnc32 := NB277_276.out; have hcz33_0 : wr.cell? ⟨gb276, 0, none⟩ = some (.int .i64 a1_0) := (Zc BK276.out 0).trans rfl; have hcz33_1 : wr.cell? ⟨gb276, 1, none⟩ = some (.int .i64 a1_1) := (Zc BK276.out 1).trans rfl; have hcz33_2 : wr.cell? ⟨gb276, 2, none⟩ = some (.slice A1_2 l1_2.length c1_2) := (Zc BK276.out 2).trans rfl; have hfz33_0 := Zf BK276.out 0; have hfz33_1 := Zf BK276.out 1; have hfz33_2 := Zf BK276.out 2; have hnb34 := NB275_277.out; have hnc34 := NB277_275.out; have hcz35_0 : wr.cell? ⟨gb275, 0, none⟩ = some (.int .i64 a0_0) := (Zc BK275.out 0).trans rfl; have hcz35_1 : wr.cell? ⟨gb275, 1, none⟩ = some (.int .i64 a0_1) := (Zc BK275.out 1).trans rfl; have hcz35_2 : wr.cell? ⟨gb275, 2, none⟩ = some (.int .i64 a0_2) := (Zc BK275.out 2).trans rfl; have hcz35_3 : wr.cell? ⟨gb275, 3, none⟩ = some (.bool a0_3) := (Zc BK275.out 3).trans rfl; have hcz35_4 : wr.cell? ⟨gb275, 4, none⟩ = some (.int .i64 a0_4) := (Zc BK275.out 4).trans rfl; have hfz35_0 := Zf BK275.out 0; have hfz35_1 := Zf BK275.out 1; have hfz35_2 := Zf BK275.out 2; have hfz35_3 := Zf BK275.out 3; have hfz35_4 := Zf BK275.out 4; have hcz36_0 : wr.cell? ⟨gb277, 0, none⟩ = some (.int .i64 a2_0) := (Zc BK277.out 0).trans rfl; have hcz36_1 : wr.cell? ⟨gb277, 1, none⟩ = some (.int .i64 a2_1) := (Zc BK277.out 1).trans rfl; have hcz36_2 : wr.cell? ⟨gb277, 2, none⟩ = some (.slice A2_2 l2_2.length c2_2) := (Zc BK277.out 2).trans rfl; have hfz36_0 := Zf BK277.out 0; have hfz36_1 := Zf BK277.out 1; have hfz36_2 := Zf BK277.out 2; go_wp2_with (first | ((with_reducible refine gate_callee (f := 41) rfl ?_); refine goesL_ (some 23) rfl rfl Try.func41 (by kernel_rfl) rfl #[.agg #[.int .i64 a0_0, .int .i64 a0_1, .int .i64 a0_2, .bool a0_3, .int .i64 a0_4], .agg #[.int .i64 a2_0, .int .i64 a2_1, .slice A2_2 l2_2.length c2_2], .int .i64 x9_1, .int .i64 a3] rfl (by (try simp only [List.map_toArray, List.map_cons, List.map_nil]); first | done | rfl | (simp only [List.length_drop, List.length_take]; rfl)) ?_; (with_reducible refine (incunableref08_Alike.calls k1 a0_0 a0_1 a0_2 a0_3 a0_4 a2_0 a2_1 _ _ l2_2 x9_1 a3 t278 false _ ?side1 ?side2 A9.out).mono ?_); (case side1 => repeat (first | exact (Kd.C_below HR2_2.out HB.out) | (with_reducible refine Kd.C_alloc ?_ _) | (with_reducible refine Kd.C_drewN ?_ _) | (with_reducible refine Kd.C_drew ?_))); (case side2 => exact HC2_2.out); rintro e w37 ⟨rfl, hb⟩; refine ⟨_, rfl, ?_⟩; have n0_ := Za (Zd (g := gb275) (o := .cells #[.int .i64 a0_0, .int .i64 a0_1, .int .i64 a0_2, .bool a0_3, .int .i64 a0_4] 23 (0, 0)) (by (with_reducible repeat (first | refine k1' ?_ _ | refine k2' ?_ | refine k3' ?_ _)); exact BK275.out) hb); have n1_ := Za (Zd (g := gb276) (o := .cells #[.int .i64 a1_0, .int .i64 a1_1, .slice A1_2 l1_2.length c1_2] 31 (0, 0)) (by (with_reducible repeat (first | refine k1' ?_ _ | refine k2' ?_ | refine k3' ?_ _)); exact BK276.out) hb); have n2_ := Za (Zd (g := gb277) (o := .cells #[.int .i64 a2_0, .int .i64 a2_1, .slice A2_2 l2_2.length c2_2] 31 (0, 0)) (by (with_reducible repeat (first | refine k1' ?_ _ | refine k2' ?_ | refine k3' ?_ _)); exact BK277.out) hb); have n3_ := Za (below_step (by repeat (first | (with_reducible first | exact HB.out | apply b1' | apply b2' | apply b3' | refine below_set ?_ GE275.out | refine below_set ?_ GE276.out | refine below_set ?_ GE277.out) | exact HB.out)) hb); clear BK275; clear BK276; clear BK277; clear HB; have BK275 := n0_; have BK276 := n1_; have BK277 := n2_; have HB := n3_; clear n0_ n1_ n2_ n3_; (try clear hb); (try clear hb2); (try clear hk); (try clear hi))); go_roundg k1; (case measure => have := HK1.out; omega); (case rel => exact ⟨(wrap64 (x9_1 + 1)), (by first | rfl | (simp; done) | (simp [*]; done)), H', ⟨by have := HK1.out; omega⟩, ⟨by (with_reducible repeat (first | refine k1' ?_ _ | refine k2' ?_ | refine k3' ?_ _)); exact BK275.out⟩, ⟨by (with_reducible repeat (first | refine k1' ?_ _ | refine k2' ?_ | refine k3' ?_ _)); exact BK276.out⟩, ⟨by (with_reducible repeat (first | refine k1' ?_ _ | refine k2' ?_ | refine k3' ?_ _)); exact BK277.out⟩, ⟨by repeat (first | (with_reducible first | exact HB.out | apply b1' | apply b2' | apply b3' | refine below_set ?_ GE275.out | refine below_set ?_ GE276.out | refine below_set ?_ GE277.out) | exact HB.out)⟩⟩)))
   (· rw [if_neg c8] at H; have c8b0 : decide (x9_1 < a1_0) = false := decide_eq_false c8; clear c8; obtain rfl := Option.some.inj H; have hnb38 := NB276_275.out; have hnc38 := NB275_276.out; have hnb39 := NB276_277.out; have hnc39 := NB277_276.out; have hcz40_0 : wr.cell? ⟨gb276, 0, none⟩ = some (.int .i64 a1_0) := (Zc BK276.out 0).trans rfl; have hcz40_1 : wr.cell? ⟨gb276, 1, none⟩ = some (.int .i64 a1_1) := (Zc BK276.out 1).trans rfl; have hcz40_2 : wr.cell? ⟨gb276, 2, none⟩ = some (.slice A1_2 l1_2.length c1_2) := (Zc BK276.out 2).trans rfl; have hfz40_0 := Zf BK276.out 0; have hfz40_1 := Zf BK276.out 1; have hfz40_2 := Zf BK276.out 2; go_wp2; go_ret; (exact ⟨by first | rfl | (simp [errW_none, errW_some] <;> rfl) | (simp [*, errW_none, errW_some] <;> rfl), by repeat (first | (with_reducible first | exact HB.out | apply b1' | apply b2' | apply b3' | refine below_set ?_ GE275.out | refine below_set ?_ GE276.out | refine below_set ?_ GE277.out) | exact HB.out)⟩))
def refine_Valid.f (a0_0 : Int) (a0_1 : Int) (a0_2 : Int) (a0_3 : Bool) (a0_4 : Int) : Option (Bool) := if a0_0 = 0 then (if a0_4 = 0 then (if (mn a0_1 a0_2) ≥ (-200) then (some (decide ((mx (mx (mx a0_1 (wrap64 (-a0_1))) a0_2) (wrap64 (-a0_2))) ≤ 200))) else (some false)) else (if a0_4 = 1 then (if (mn a0_1 a0_2) ≥ (-200) then (some (decide ((mx (mx (mx a0_1 (wrap64 (-a0_1))) a0_2) (wrap64 (-a0_2))) ≤ 200))) else (some false)) else (some false))) else (if a0_0 = 1 then (if a0_4 = 0 then (if (mn a0_1 a0_2) ≥ (-200) then (some (decide ((mx (mx (mx a0_1 (wrap64 (-a0_1))) a0_2) (wrap64 (-a0_2))) ≤ 200))) else (some false)) else (if a0_4 = 1 then (if (mn a0_1 a0_2) ≥ (-200) then (some (decide ((mx (mx (mx a0_1 (wrap64 (-a0_1))) a0_2) (wrap64 (-a0_2))) ≤ 200))) else (some false)) else (some false))) else (some false))
set_option maxHeartbeats 8000000 in
set_option maxRecDepth 100000 in
theorem refine_Valid.calls (a0_0 : Int) (a0_1 : Int) (a0_2 : Int) (a0_3 : Bool) (a0_4 : Int) (r : Bool) (w : World) (h : refine_Valid.f a0_0 a0_1 a0_2 a0_3 a0_4 = some r) :
 Calls Try.prog 13 #[.agg #[.int .i64 a0_0, .int .i64 a0_1, .int .i64 a0_2, .bool a0_3, .int .i64 a0_4]] w fun e w' => e = .returned (.bool r) ∧ Below w.heap.size w w' := by
 have hu23 := Try.underlying23; have HB := Za (Below.refl w.heap.size w); have H : (if a0_0 = 0 then (if a0_4 = 0 then (if (mn a0_1 a0_2) ≥ (-200) then (some (decide ((mx (mx (mx a0_1 (wrap64 (-a0_1))) a0_2) (wrap64 (-a0_2))) ≤ 200))) else (some false)) else (if a0_4 = 1 then (if (mn a0_1 a0_2) ≥ (-200) then (some (decide ((mx (mx (mx a0_1 (wrap64 (-a0_1))) a0_2) (wrap64 (-a0_2))) ≤ 200))) else (some false)) else (some false))) else (if a0_0 = 1 then (if a0_4 = 0 then (if (mn a0_1 a0_2) ≥ (-200) then (some (decide ((mx (mx (mx a0_1 (wrap64 (-a0_1))) a0_2) (wrap64 (-a0_2))) ≤ 200))) else (some false)) else (if a0_4 = 1 then (if (mn a0_1 a0_2) ≥ (-200) then (some (decide ((mx (mx (mx a0_1 (wrap64 (-a0_1))) a0_2) (wrap64 (-a0_2))) ≤ 200))) else (some false)) else (some false))) else (some false))) = some r := h; clear h; obtain ⟨ji2, hji2⟩ : ∃ j_ : Int, (mx a0_1 (wrap64 (-a0_1))) = j_ := ⟨_, rfl⟩
 (replace H : (if a0_0 = 0 then (if a0_4 = 0 then (if (mn a0_1 a0_2) ≥ (-200) then (some (decide ((mx (mx (ji2) a0_2) (wrap64 (-a0_2))) ≤ 200))) else (some false)) else (if a0_4 = 1 then (if (mn a0_1 a0_2) ≥ (-200) then (some (decide ((mx (mx (ji2) a0_2) (wrap64 (-a0_2))) ≤ 200))) else (some false)) else (some false))) else (if a0_0 = 1 then (if a0_4 = 0 then (if (mn a0_1 a0_2) ≥ (-200) then (some (decide ((mx (mx (ji2) a0_2) (wrap64 (-a0_2))) ≤ 200))) else (some false)) else (if a0_4 = 1 then (if (mn a0_1 a0_2) ≥ (-200) then (some (decide ((mx (mx (ji2) a0_2) (wrap64 (-a0_2))) ≤ 200))) else (some false)) else (some false))) else (some false))) = some r := by first | (rw [hji2] at H; exact H) | (simp only [hji2] at H ⊢; exact H)); have hji2_ : (if a0_1 < (wrap64 (-a0_1)) then (wrap64 (-a0_1)) else a0_1) = ji2 := hji2; obtain ⟨ji3, hji3⟩ : ∃ j_ : Int, (mx (ji2) a0_2) = j_ := ⟨_, rfl⟩
 (replace H : (if a0_0 = 0 then (if a0_4 = 0 then (if (mn a0_1 a0_2) ≥ (-200) then (some (decide ((mx (ji3) (wrap64 (-a0_2))) ≤ 200))) else (some false)) else (if a0_4 = 1 then (if (mn a0_1 a0_2) ≥ (-200) then (some (decide ((mx (ji3) (wrap64 (-a0_2))) ≤ 200))) else (some false)) else (some false))) else (if a0_0 = 1 then (if a0_4 = 0 then (if (mn a0_1 a0_2) ≥ (-200) then (some (decide ((mx (ji3) (wrap64 (-a0_2))) ≤ 200))) else (some false)) else (if a0_4 = 1 then (if (mn a0_1 a0_2) ≥ (-200) then (some (decide ((mx (ji3) (wrap64 (-a0_2))) ≤ 200))) else (some false)) else (some false))) else (some false))) = some r := by first | (rw [hji3] at H; exact H) | (simp only [hji3] at H ⊢; exact H)); have hji3_ : (if (ji2) < a0_2 then a0_2 else (ji2)) = ji3 := hji3; obtain ⟨ji4, hji4⟩ : ∃ j_ : Int, (mx (ji3) (wrap64 (-a0_2))) = j_ := ⟨_, rfl⟩; (replace H : (if a0_0 = 0 then (if a0_4 = 0 then (if (mn a0_1 a0_2) ≥ (-200) then (some (decide ((ji4) ≤ 200))) else (some false)) else (if a0_4 = 1 then (if (mn a0_1 a0_2) ≥ (-200) then (some (decide ((ji4) ≤ 200))) else (some false)) else (some false))) else (if a0_0 = 1 then (if a0_4 = 0 then (if (mn a0_1 a0_2) ≥ (-200) then (some (decide ((ji4) ≤ 200))) else (some false)) else (if a0_4 = 1 then (if (mn a0_1 a0_2) ≥ (-200) then (some (decide ((ji4) ≤ 200))) else (some false)) else (some false))) else (some false))) = some r := by first | (rw [hji4] at H; exact H) | (simp only [hji4] at H ⊢; exact H))
 have hji4_ : (if (ji3) < (wrap64 (-a0_2)) then (wrap64 (-a0_2)) else (ji3)) = ji4 := hji4; by_cases c5 : a0_0 = 0
 (· rw [if_pos c5] at H; have c5b0 : (a0_0 == 0) = true := beq_iff_eq.mpr c5; have c5b1 : (a0_0 != 0) = false := bne_eq_false_iff_eq.mpr c5; clear c5; by_cases c6 : a0_4 = 0; (· rw [if_pos c6] at H; have c6b0 : (a0_4 == 0) = true := beq_iff_eq.mpr c6; have c6b1 : (a0_4 != 0) = false := bne_eq_false_iff_eq.mpr c6; clear c6; obtain ⟨ji7, hji7⟩ : ∃ j_ : Int, (mn a0_1 a0_2) = j_ := ⟨_, rfl⟩; (replace H : (if (ji7) ≥ (-200) then (some (decide ((ji4) ≤ 200))) else (some false)) = some r := by first | (rw [hji7] at H; exact H) | (simp only [hji7] at H ⊢; exact H)); have hji7_ : (if a0_2 < a0_1 then a0_2 else a0_1) = ji7 := hji7; by_cases c8 : (ji7) ≥ (-200); (· rw [if_pos c8] at H; have c8b0 : decide ((-200) ≤ (ji7)) = true := decide_eq_true c8; clear c8; obtain rfl := Option.some.inj H; go_enter Try.func13, Try.ntmps13; go_wp2_with (first | ((with_reducible refine gate_dst (N := 1) rfl ?_); (try (refine gate_guard (by rfl) ?_; dsimp only)); refine box_event ?hg (N := 1) ?hd (cs := #[.int .i64 a0_0, .int .i64 a0_1, .int .i64 a0_2, .bool a0_3, .int .i64 a0_4]) (t := 23) ?hr ?_; (case hd => rfl); (case hg => rfl); (case hr => first | (go_simp; done) | (go_simp; rfl)); intro gb113 hg w9 hbox hb; have n0_ := Za (below_step (by repeat (first | (with_reducible first | exact HB.out | apply b1' | apply b2' | apply b3') | exact HB.out)) hb); have n1_ := Za (hbox); have n2_ := Za ((by rw [hg]; exact (below_size (by repeat (first | (with_reducible first | exact HB.out | apply b1' | apply b2' | apply b3') | exact HB.out))) : w.heap.size ≤ gb113)); have n3_ := Za ((by rw [hg]; exact (below_size (by repeat (first | (with_reducible first | exact HB.out | apply b1' | apply b2' | apply b3') | exact HB.out))) : w.heap.size ≤ gb113)); clear HB; have HB := n0_; have BK113 := n1_; have GW113 := n2_; have GE113 := n3_; clear n0_ n1_ n2_ n3_; clear hb hbox hg; have hcz10_0 : w9.cell? ⟨gb113, 0, none⟩ = some (.int .i64 a0_0) := (Zc BK113.out 0).trans rfl; have hcz10_1 : w9.cell? ⟨gb113, 1, none⟩ = some (.int .i64 a0_1) := (Zc BK113.out 1).trans rfl; have hcz10_2 : w9.cell? ⟨gb113, 2, none⟩ = some (.int .i64 a0_2) := (Zc BK113.out 2).trans rfl; have hcz10_3 : w9.cell? ⟨gb113, 3, none⟩ = some (.bool a0_3) := (Zc BK113.out 3).trans rfl; have hcz10_4 : w9.cell? ⟨gb113, 4, none⟩ = some (.int .i64 a0_4) := (Zc BK113.out 4).trans rfl; have hfz10_0 := Zf BK113.out 0; have hfz10_1 := Zf BK113.out 1; have hfz10_2 := Zf BK113.out 2; have hfz10_3 := Zf BK113.out 3; have hfz10_4 := Zf BK113.out 4)); go_ret; (exact ⟨by first | rfl | (simp [errW_none, errW_some] <;> rfl) | (simp only [← hji2, ← hji3, ← hji4, ← hji7]; first | rfl | (simp [errW_none, errW_some] <;> rfl)) | (simp [*, errW_none, errW_some] <;> rfl), by repeat (first | (with_reducible first | exact HB.out | apply b1' | apply b2' | apply b3' | refine below_set ?_ GE113.out) | exact HB.out)⟩)); (· rw [if_neg c8] at H; have c8b0 : decide ((-200) ≤ (ji7)) = false := decide_eq_false c8; clear c8; obtain rfl := Option.some.inj H; go_enter Try.func13, Try.ntmps13; go_wp2_with (first | ((with_reducible refine gate_dst (N := 1) rfl ?_); (try (refine gate_guard (by rfl) ?_; dsimp only)); refine box_event ?hg (N := 1) ?hd (cs := #[.int .i64 a0_0, .int .i64 a0_1, .int .i64 a0_2, .bool a0_3, .int .i64 a0_4]) (t := 23) ?hr ?_; (case hd => rfl); (case hg => rfl); (case hr => first | (go_simp; done) | (go_simp; rfl)); intro gb113 hg w11 hbox hb; have n0_ := Za (below_step (by repeat (first | (with_reducible first | exact HB.out | apply b1' | apply b2' | apply b3') | exact HB.out)) hb); have n1_ := Za (hbox); have n2_ := Za ((by rw [hg]; exact (below_size (by repeat (first | (with_reducible first | exact HB.out | apply b1' | apply b2' | apply b3') | exact HB.out))) : w.heap.size ≤ gb113)); have n3_ := Za ((by rw [hg]; exact (below_size (by repeat (first | (with_reducible first | exact HB.out | apply b1' | apply b2' | apply b3') | exact HB.out))) : w.heap.size ≤ gb113)); clear HB; have HB := n0_; have BK113 := n1_; have GW113 := n2_; have GE113 := n3_; clear n0_ n1_ n2_ n3_; clear hb hbox hg; have hcz12_0 : w11.cell? ⟨gb113, 0, none⟩ = some (.int .i64 a0_0) := (Zc BK113.out 0).trans rfl; have hcz12_1 : w11.cell? ⟨gb113, 1, none⟩ = some (.int .i64 a0_1) := (Zc BK113.out 1).trans rfl; have hcz12_2 : w11.cell? ⟨gb113, 2, none⟩ = some (.int .i64 a0_2) := (Zc BK113.out 2).trans rfl; have hcz12_3 : w11.cell? ⟨gb113, 3, none⟩ = some (.bool a0_3) := (Zc BK113.out 3).trans rfl; have hcz12_4 : w11.cell? ⟨gb113, 4, none⟩ = some (.int .i64 a0_4) := (Zc BK113.out 4).trans rfl; have hfz12_0 := Zf BK113.out 0; have hfz12_1 := Zf BK113.out 1; have hfz12_2 := Zf BK113.out 2; have hfz12_3 := Zf BK113.out 3; have hfz12_4 := Zf BK113.out 4)); go_ret; (exact ⟨by first | rfl | (simp [errW_none, errW_some] <;> rfl) | (simp only [← hji2, ← hji3, ← hji4, ← hji7]; first | rfl | (simp [errW_none, errW_some] <;> rfl)) | (simp [*, errW_none, errW_some] <;> rfl), by repeat (first | (with_reducible first | exact HB.out | apply b1' | apply b2' | apply b3' | refine below_set ?_ GE113.out) | exact HB.out)⟩))); (· rw [if_neg c6] at H; have c6b0 : (a0_4 == 0) = false := beq_eq_false_iff_ne.mpr c6; have c6b1 : (a0_4 != 0) = true := bne_iff_ne.mpr c6; by_cases c13 : a0_4 = 1; (· rw [if_pos c13] at H; have c13b0 : (a0_4 == 1) = true := beq_iff_eq.mpr c13; have c13b1 : (a0_4 != 1) = false := bne_eq_false_iff_eq.mpr c13; clear c13; obtain ⟨ji14, hji14⟩ : ∃ j_ : Int, (mn a0_1 a0_2) = j_ := ⟨_, rfl⟩; (replace H : (if (ji14) ≥ (-200) then (some (decide ((ji4) ≤ 200))) else (some false)) = some r := by first | (rw [hji14] at H; exact H) | (simp only [hji14] at H ⊢; exact H)); have hji14_ : (if a0_2 < a0_1 then a0_2 else a0_1) = ji14 := hji14; by_cases c15 : (ji14) ≥ (-200); (· rw [if_pos c15] at H; have c15b0 : decide ((-200) ≤ (ji14)) = true := decide_eq_true c15; clear c15; obtain rfl := Option.some.inj H; go_enter Try.func13, Try.ntmps13; go_wp2_with (first | ((with_reducible refine gate_dst (N := 1) rfl ?_); (try (refine gate_guard (by rfl) ?_; dsimp only)); refine box_event ?hg (N := 1) ?hd (cs := #[.int .i64 a0_0, .int .i64 a0_1, .int .i64 a0_2, .bool a0_3, .int .i64 a0_4]) (t := 23) ?hr ?_; (case hd => rfl); (case hg => rfl); (case hr => first | (go_simp; done) | (go_simp; rfl)); intro gb113 hg w16 hbox hb; have n0_ := Za (below_step (by repeat (first | (with_reducible first | exact HB.out | apply b1' | apply b2' | apply b3') | exact HB.out)) hb); have n1_ := Za (hbox); have n2_ := Za ((by rw [hg]; exact (below_size (by repeat (first | (with_reducible first | exact HB.out | apply b1' | apply b2' | apply b3') | exact HB.out))) : w.heap.size ≤ gb113)); have n3_ := Za ((by rw [hg]; exact (below_size (by repeat (first | (with_reducible first | exact HB.out | apply b1' | apply b2' | apply b3') | exact HB.out))) : w.heap.size ≤ gb113)); clear HB; have HB := n0_; have BK113 := n1_; have GW113 := n2_; have GE113 := n3_; clear n0_ n1_ n2_ n3_; clear hb hbox hg; have hcz17_0 : w16.cell? ⟨gb113, 0, none⟩ = some (.int .i64 a0_0) := (Zc BK113.out 0).trans rfl; have hcz17_1 : w16.cell? ⟨gb113, 1, none⟩ = some (.int .i64 a0_1) := (Zc BK113.out 1).trans rfl; have hcz17_2 : w16.cell? ⟨gb113, 2, none⟩ = some (.int .i64 a0_2) := (Zc BK113.out 2).trans rfl; have hcz17_3 : w16.cell? ⟨gb113, 3, none⟩ = some (.bool a0_3) := (Zc BK113.out 3).trans rfl; have hcz17_4 : w16.cell? ⟨gb113, 4, none⟩ = some (.int .i64 a0_4) := (Zc BK113.out 4).trans rfl; have hfz17_0 := Zf BK113.out 0; have hfz17_1 := Zf BK113.out 1; have hfz17_2 := Zf BK113.out 2; have hfz17_3 := Zf BK113.out 3; have hfz17_4 := Zf BK113.out 4)); go_ret; (exact ⟨by first | rfl | (simp [errW_none, errW_some] <;> rfl) | (simp only [← hji2, ← hji3, ← hji4, ← hji14]; first | rfl | (simp [errW_none, errW_some] <;> rfl)) | (simp [*, errW_none, errW_some] <;> rfl), by repeat (first | (with_reducible first | exact HB.out | apply b1' | apply b2' | apply b3' | refine below_set ?_ GE113.out) | exact HB.out)⟩)); (· rw [if_neg c15] at H; have c15b0 : decide ((-200) ≤ (ji14)) = false := decide_eq_false c15; clear c15; obtain rfl := Option.some.inj H; go_enter Try.func13, Try.ntmps13; go_wp2_with (first | ((with_reducible refine gate_dst (N := 1) rfl ?_); (try (refine gate_guard (by rfl) ?_; dsimp only)); refine box_event ?hg (N := 1) ?hd (cs := #[.int .i64 a0_0, .int .i64 a0_1, .int .i64 a0_2, .bool a0_3, .int .i64 a0_4]) (t := 23) ?hr ?_; (case hd => rfl); (case hg => rfl); (case hr => first | (go_simp; done) | (go_simp; rfl)); intro gb113 hg w18 hbox hb; have n0_ := Za (below_step (by repeat (first | (with_reducible first | exact HB.out | apply b1' | apply b2' | apply b3') | exact HB.out)) hb); have n1_ := Za (hbox); have n2_ := Za ((by rw [hg]; exact (below_size (by repeat (first | (with_reducible first | exact HB.out | apply b1' | apply b2' | apply b3') | exact HB.out))) : w.heap.size ≤ gb113)); have n3_ := Za ((by rw [hg]; exact (below_size (by repeat (first | (with_reducible first | exact HB.out | apply b1' | apply b2' | apply b3') | exact HB.out))) : w.heap.size ≤ gb113)); clear HB; have HB := n0_; have BK113 := n1_; have GW113 := n2_; have GE113 := n3_; clear n0_ n1_ n2_ n3_; clear hb hbox hg; have hcz19_0 : w18.cell? ⟨gb113, 0, none⟩ = some (.int .i64 a0_0) := (Zc BK113.out 0).trans rfl; have hcz19_1 : w18.cell? ⟨gb113, 1, none⟩ = some (.int .i64 a0_1) := (Zc BK113.out 1).trans rfl; have hcz19_2 : w18.cell? ⟨gb113, 2, none⟩ = some (.int .i64 a0_2) := (Zc BK113.out 2).trans rfl; have hcz19_3 : w18.cell? ⟨gb113, 3, none⟩ = some (.bool a0_3) := (Zc BK113.out 3).trans rfl; have hcz19_4 : w18.cell? ⟨gb113, 4, none⟩ = some (.int .i64 a0_4) := (Zc BK113.out 4).trans rfl; have hfz19_0 := Zf BK113.out 0; have hfz19_1 := Zf BK113.out 1; have hfz19_2 := Zf BK113.out 2; have hfz19_3 := Zf BK113.out 3; have hfz19_4 := Zf BK113.out 4)); go_ret; (exact ⟨by first | rfl | (simp [errW_none, errW_some] <;> rfl) | (simp only [← hji2, ← hji3, ← hji4, ← hji14]; first | rfl | (simp [errW_none, errW_some] <;> rfl)) | (simp [*, errW_none, errW_some] <;> rfl), by repeat (first | (with_reducible first | exact HB.out | apply b1' | apply b2' | apply b3' | refine below_set ?_ GE113.out) | exact HB.out)⟩))); (· rw [if_neg c13] at H; have c13b0 : (a0_4 == 1) = false := beq_eq_false_iff_ne.mpr c13; have c13b1 : (a0_4 != 1) = true := bne_iff_ne.mpr c13; obtain rfl := Option.some.inj H; go_enter Try.func13, Try.ntmps13; go_wp2_with (first | ((with_reducible refine gate_dst (N := 1) rfl ?_); (try (refine gate_guard (by rfl) ?_; dsimp only)); refine box_event ?hg (N := 1) ?hd (cs := #[.int .i64 a0_0, .int .i64 a0_1, .int .i64 a0_2, .bool a0_3, .int .i64 a0_4]) (t := 23) ?hr ?_; (case hd => rfl); (case hg => rfl); (case hr => first | (go_simp; done) | (go_simp; rfl)); intro gb113 hg w20 hbox hb; have n0_ := Za (below_step (by repeat (first | (with_reducible first | exact HB.out | apply b1' | apply b2' | apply b3') | exact HB.out)) hb); have n1_ := Za (hbox); have n2_ := Za ((by rw [hg]; exact (below_size (by repeat (first | (with_reducible first | exact HB.out | apply b1' | apply b2' | apply b3') | exact HB.out))) : w.heap.size ≤ gb113)); have n3_ := Za ((by rw [hg]; exact (below_size (by repeat (first | (with_reducible first | exact HB.out | apply b1' | apply b2' | apply b3') | exact HB.out))) : w.heap.size ≤ gb113)); clear HB; have HB := n0_; have BK113 := n1_; have GW113 := n2_; have GE113 := n3_; clear n0_ n1_ n2_ n3_; clear hb hbox hg; have hcz21_0 : w20.cell? ⟨gb113, 0, none⟩ = some (.int .i64 a0_0) := (Zc BK113.out 0).trans rfl; have hcz21_1 : w20.cell? ⟨gb113, 1, none⟩ = some (.int .i64 a0_1) := (Zc BK113.out 1).trans rfl; have hcz21_2 : w20.cell? ⟨gb113, 2, none⟩ = some (.int .i64 a0_2) := (Zc BK113.out 2).trans rfl; have hcz21_3 : w20.cell? ⟨gb113, 3, none⟩ = some (.bool a0_3) := (Zc BK113.out 3).trans rfl; have hcz21_4 : w20.cell? ⟨gb113, 4, none⟩ = some (.int .i64 a0_4) := (Zc BK113.out 4).trans rfl; have hfz21_0 := Zf BK113.out 0; have hfz21_1 := Zf BK113.out 1; have hfz21_2 := Zf BK113.out 2; have hfz21_3 := Zf BK113.out 3; have hfz21_4 := Zf BK113.out 4)); go_ret; (exact ⟨by first | rfl | (simp [errW_none, errW_some] <;> rfl) | (simp only [← hji2, ← hji3, ← hji4]; first | rfl | (simp [errW_none, errW_some] <;> rfl)) | (simp [*, errW_none, errW_some] <;> rfl), by repeat (first | (with_reducible first | exact HB.out | apply b1' | apply b2' | apply b3' | refine below_set ?_ GE113.out) | exact HB.out)⟩))))
 (· rw [if_neg c5] at H; have c5b0 : (a0_0 == 0) = false := beq_eq_false_iff_ne.mpr c5; have c5b1 : (a0_0 != 0) = true := bne_iff_ne.mpr c5; by_cases c22 : a0_0 = 1; (· rw [if_pos c22] at H; have c22b0 : (a0_0 == 1) = true := beq_iff_eq.mpr c22; have c22b1 : (a0_0 != 1) = false := bne_eq_false_iff_eq.mpr c22; clear c22; by_cases c23 : a0_4 = 0; (· rw [if_pos c23] at H; have c23b0 : (a0_4 == 0) = true := beq_iff_eq.mpr c23; have c23b1 : (a0_4 != 0) = false := bne_eq_false_iff_eq.mpr c23; clear c23; obtain ⟨ji24, hji24⟩ : ∃ j_ : Int, (mn a0_1 a0_2) = j_ := ⟨_, rfl⟩; (replace H : (if (ji24) ≥ (-200) then (some (decide ((ji4) ≤ 200))) else (some false)) = some r := by first | (rw [hji24] at H; exact H) | (simp only [hji24] at H ⊢; exact H)); have hji24_ : (if a0_2 < a0_1 then a0_2 else a0_1) = ji24 := hji24; by_cases c25 : (ji24) ≥ (-200); (· rw [if_pos c25] at H; have c25b0 : decide ((-200) ≤ (ji24)) = true := decide_eq_true c25; clear c25; obtain rfl := Option.some.inj H; go_enter Try.func13, Try.ntmps13; go_wp2_with (first | ((with_reducible refine gate_dst (N := 1) rfl ?_); (try (refine gate_guard (by rfl) ?_; dsimp only)); refine box_event ?hg (N := 1) ?hd (cs := #[.int .i64 a0_0, .int .i64 a0_1, .int .i64 a0_2, .bool a0_3, .int .i64 a0_4]) (t := 23) ?hr ?_; (case hd => rfl); (case hg => rfl); (case hr => first | (go_simp; done) | (go_simp; rfl)); intro gb113 hg w26 hbox hb; have n0_ := Za (below_step (by repeat (first | (with_reducible first | exact HB.out | apply b1' | apply b2' | apply b3') | exact HB.out)) hb); have n1_ := Za (hbox); have n2_ := Za ((by rw [hg]; exact (below_size (by repeat (first | (with_reducible first | exact HB.out | apply b1' | apply b2' | apply b3') | exact HB.out))) : w.heap.size ≤ gb113)); have n3_ := Za ((by rw [hg]; exact (below_size (by repeat (first | (with_reducible first | exact HB.out | apply b1' | apply b2' | apply b3') | exact HB.out))) : w.heap.size ≤ gb113)); clear HB; have HB := n0_; have BK113 := n1_; have GW113 := n2_; have GE113 := n3_; clear n0_ n1_ n2_ n3_; clear hb hbox hg; have hcz27_0 : w26.cell? ⟨gb113, 0, none⟩ = some (.int .i64 a0_0) := (Zc BK113.out 0).trans rfl; have hcz27_1 : w26.cell? ⟨gb113, 1, none⟩ = some (.int .i64 a0_1) := (Zc BK113.out 1).trans rfl; have hcz27_2 : w26.cell? ⟨gb113, 2, none⟩ = some (.int .i64 a0_2) := (Zc BK113.out 2).trans rfl; have hcz27_3 : w26.cell? ⟨gb113, 3, none⟩ = some (.bool a0_3) := (Zc BK113.out 3).trans rfl; have hcz27_4 : w26.cell? ⟨gb113, 4, none⟩ = some (.int .i64 a0_4) := (Zc BK113.out 4).trans rfl; have hfz27_0 := Zf BK113.out 0; have hfz27_1 := Zf BK113.out 1; have hfz27_2 := Zf BK113.out 2; have hfz27_3 := Zf BK113.out 3; have hfz27_4 := Zf BK113.out 4)); go_ret; (exact ⟨by first | rfl | (simp [errW_none, errW_some] <;> rfl) | (simp only [← hji2, ← hji3, ← hji4, ← hji24]; first | rfl | (simp [errW_none, errW_some] <;> rfl)) | (simp [*, errW_none, errW_some] <;> rfl), by repeat (first | (with_reducible first | exact HB.out | apply b1' | apply b2' | apply b3' | refine below_set ?_ GE113.out) | exact HB.out)⟩)); (· rw [if_neg c25] at H; have c25b0 : decide ((-200) ≤ (ji24)) = false := decide_eq_false c25; clear c25; obtain rfl := Option.some.inj H; go_enter Try.func13, Try.ntmps13; go_wp2_with (first | ((with_reducible refine gate_dst (N := 1) rfl ?_); (try (refine gate_guard (by rfl) ?_; dsimp only)); refine box_event ?hg (N := 1) ?hd (cs := #[.int .i64 a0_0, .int .i64 a0_1, .int .i64 a0_2, .bool a0_3, .int .i64 a0_4]) (t := 23) ?hr ?_; (case hd => rfl); (case hg => rfl); (case hr => first | (go_simp; done) | (go_simp; rfl)); intro gb113 hg w28 hbox hb; have n0_ := Za (below_step (by repeat (first | (with_reducible first | exact HB.out | apply b1' | apply b2' | apply b3') | exact HB.out)) hb); have n1_ := Za (hbox); have n2_ := Za ((by rw [hg]; exact (below_size (by repeat (first | (with_reducible first | exact HB.out | apply b1' | apply b2' | apply b3') | exact HB.out))) : w.heap.size ≤ gb113)); have n3_ := Za ((by rw [hg]; exact (below_size (by repeat (first | (with_reducible first | exact HB.out | apply b1' | apply b2' | apply b3') | exact HB.out))) : w.heap.size ≤ gb113)); clear HB; have HB := n0_; have BK113 := n1_; have GW113 := n2_; have GE113 := n3_; clear n0_ n1_ n2_ n3_; clear hb hbox hg; have hcz29_0 : w28.cell? ⟨gb113, 0, none⟩ = some (.int .i64 a0_0) := (Zc BK113.out 0).trans rfl; have hcz29_1 : w28.cell? ⟨gb113, 1, none⟩ = some (.int .i64 a0_1) := (Zc BK113.out 1).trans rfl; have hcz29_2 : w28.cell? ⟨gb113, 2, none⟩ = some (.int .i64 a0_2) := (Zc BK113.out 2).trans rfl; have hcz29_3 : w28.cell? ⟨gb113, 3, none⟩ = some (.bool a0_3) := (Zc BK113.out 3).trans rfl; have hcz29_4 : w28.cell? ⟨gb113, 4, none⟩ = some (.int .i64 a0_4) := (Zc BK113.out 4).trans rfl; have hfz29_0 := Zf BK113.out 0; have hfz29_1 := Zf BK113.out 1; have hfz29_2 := Zf BK113.out 2; have hfz29_3 := Zf BK113.out 3; have hfz29_4 := Zf BK113.out 4)); go_ret; (exact ⟨by first | rfl | (simp [errW_none, errW_some] <;> rfl) | (simp only [← hji2, ← hji3, ← hji4, ← hji24]; first | rfl | (simp [errW_none, errW_some] <;> rfl)) | (simp [*, errW_none, errW_some] <;> rfl), by repeat (first | (with_reducible first | exact HB.out | apply b1' | apply b2' | apply b3' | refine below_set ?_ GE113.out) | exact HB.out)⟩))); (· rw [if_neg c23] at H; have c23b0 : (a0_4 == 0) = false := beq_eq_false_iff_ne.mpr c23; have c23b1 : (a0_4 != 0) = true := bne_iff_ne.mpr c23; by_cases c30 : a0_4 = 1; (· rw [if_pos c30] at H; have c30b0 : (a0_4 == 1) = true := beq_iff_eq.mpr c30; have c30b1 : (a0_4 != 1) = false := bne_eq_false_iff_eq.mpr c30; clear c30; obtain ⟨ji31, hji31⟩ : ∃ j_ : Int, (mn a0_1 a0_2) = j_ := ⟨_, rfl⟩; (replace H : (if (ji31) ≥ (-200) then (some (decide ((ji4) ≤ 200))) else (some false)) = some r := by first | (rw [hji31] at H; exact H) | (simp only [hji31] at H ⊢; exact H)); have hji31_ : (if a0_2 < a0_1 then a0_2 else a0_1) = ji31 := hji31; by_cases c32 : (ji31) ≥ (-200); (· rw [if_pos c32] at H; have c32b0 : decide ((-200) ≤ (ji31)) = true := decide_eq_true c32; clear c32; obtain rfl := Option.some.inj H; go_enter Try.func13, Try.ntmps13; go_wp2_with (first | ((with_reducible refine gate_dst (N := 1) rfl ?_); (try (refine gate_guard (by rfl) ?_; dsimp only)); refine box_event ?hg (N := 1) ?hd (cs := #[.int .i64 a0_0, .int .i64 a0_1, .int .i64 a0_2, .bool a0_3, .int .i64 a0_4]) (t := 23) ?hr ?_; (case hd => rfl); (case hg => rfl); (case hr => first | (go_simp; done) | (go_simp; rfl)); intro gb113 hg w33 hbox hb; have n0_ := Za (below_step (by repeat (first | (with_reducible first | exact HB.out | apply b1' | apply b2' | apply b3') | exact HB.out)) hb); have n1_ := Za (hbox); have n2_ := Za ((by rw [hg]; exact (below_size (by repeat (first | (with_reducible first | exact HB.out | apply b1' | apply b2' | apply b3') | exact HB.out))) : w.heap.size ≤ gb113)); have n3_ := Za ((by rw [hg]; exact (below_size (by repeat (first | (with_reducible first | exact HB.out | apply b1' | apply b2' | apply b3') | exact HB.out))) : w.heap.size ≤ gb113)); clear HB; have HB := n0_; have BK113 := n1_; have GW113 := n2_; have GE113 := n3_; clear n0_ n1_ n2_ n3_; clear hb hbox hg; have hcz34_0 : w33.cell? ⟨gb113, 0, none⟩ = some (.int .i64 a0_0) := (Zc BK113.out 0).trans rfl; have hcz34_1 : w33.cell? ⟨gb113, 1, none⟩ = some (.int .i64 a0_1) := (Zc BK113.out 1).trans rfl; have hcz34_2 : w33.cell? ⟨gb113, 2, none⟩ = some (.int .i64 a0_2) := (Zc BK113.out 2).trans rfl; have hcz34_3 : w33.cell? ⟨gb113, 3, none⟩ = some (.bool a0_3) := (Zc BK113.out 3).trans rfl; have hcz34_4 : w33.cell? ⟨gb113, 4, none⟩ = some (.int .i64 a0_4) := (Zc BK113.out 4).trans rfl; have hfz34_0 := Zf BK113.out 0; have hfz34_1 := Zf BK113.out 1; have hfz34_2 := Zf BK113.out 2; have hfz34_3 := Zf BK113.out 3; have hfz34_4 := Zf BK113.out 4)); go_ret; (exact ⟨by first | rfl | (simp [errW_none, errW_some] <;> rfl) | (simp only [← hji2, ← hji3, ← hji4, ← hji31]; first | rfl | (simp [errW_none, errW_some] <;> rfl)) | (simp [*, errW_none, errW_some] <;> rfl), by repeat (first | (with_reducible first | exact HB.out | apply b1' | apply b2' | apply b3' | refine below_set ?_ GE113.out) | exact HB.out)⟩)); (· rw [if_neg c32] at H; have c32b0 : decide ((-200) ≤ (ji31)) = false := decide_eq_false c32; clear c32; obtain rfl := Option.some.inj H; go_enter Try.func13, Try.ntmps13; go_wp2_with (first | ((with_reducible refine gate_dst (N := 1) rfl ?_); (try (refine gate_guard (by rfl) ?_; dsimp only)); refine box_event ?hg (N := 1) ?hd (cs := #[.int .i64 a0_0, .int .i64 a0_1, .int .i64 a0_2, .bool a0_3, .int .i64 a0_4]) (t := 23) ?hr ?_; (case hd => rfl); (case hg => rfl); (case hr => first | (go_simp; done) | (go_simp; rfl)); intro gb113 hg w35 hbox hb; have n0_ := Za (below_step (by repeat (first | (with_reducible first | exact HB.out | apply b1' | apply b2' | apply b3') | exact HB.out)) hb); have n1_ := Za (hbox); have n2_ := Za ((by rw [hg]; exact (below_size (by repeat (first | (with_reducible first | exact HB.out | apply b1' | apply b2' | apply b3') | exact HB.out))) : w.heap.size ≤ gb113)); have n3_ := Za ((by rw [hg]; exact (below_size (by repeat (first | (with_reducible first | exact HB.out | apply b1' | apply b2' | apply b3') | exact HB.out))) : w.heap.size ≤ gb113)); clear HB; have HB := n0_; have BK113 := n1_; have GW113 := n2_; have GE113 := n3_; clear n0_ n1_ n2_ n3_; clear hb hbox hg; have hcz36_0 : w35.cell? ⟨gb113, 0, none⟩ = some (.int .i64 a0_0) := (Zc BK113.out 0).trans rfl; have hcz36_1 : w35.cell? ⟨gb113, 1, none⟩ = some (.int .i64 a0_1) := (Zc BK113.out 1).trans rfl; have hcz36_2 : w35.cell? ⟨gb113, 2, none⟩ = some (.int .i64 a0_2) := (Zc BK113.out 2).trans rfl; have hcz36_3 : w35.cell? ⟨gb113, 3, none⟩ = some (.bool a0_3) := (Zc BK113.out 3).trans rfl; have hcz36_4 : w35.cell? ⟨gb113, 4, none⟩ = some (.int .i64 a0_4) := (Zc BK113.out 4).trans rfl; have hfz36_0 := Zf BK113.out 0; have hfz36_1 := Zf BK113.out 1; have hfz36_2 := Zf BK113.out 2; have hfz36_3 := Zf BK113.out 3; have hfz36_4 := Zf BK113.out 4)); go_ret; (exact ⟨by first | rfl | (simp [errW_none, errW_some] <;> rfl) | (simp only [← hji2, ← hji3, ← hji4, ← hji31]; first | rfl | (simp [errW_none, errW_some] <;> rfl)) | (simp [*, errW_none, errW_some] <;> rfl), by repeat (first | (with_reducible first | exact HB.out | apply b1' | apply b2' | apply b3' | refine below_set ?_ GE113.out) | exact HB.out)⟩))); (· rw [if_neg c30] at H; have c30b0 : (a0_4 == 1) = false := beq_eq_false_iff_ne.mpr c30; have c30b1 : (a0_4 != 1) = true := bne_iff_ne.mpr c30; obtain rfl := Option.some.inj H; go_enter Try.func13, Try.ntmps13; go_wp2_with (first | ((with_reducible refine gate_dst (N := 1) rfl ?_); (try (refine gate_guard (by rfl) ?_; dsimp only)); refine box_event ?hg (N := 1) ?hd (cs := #[.int .i64 a0_0, .int .i64 a0_1, .int .i64 a0_2, .bool a0_3, .int .i64 a0_4]) (t := 23) ?hr ?_; (case hd => rfl); (case hg => rfl); (case hr => first | (go_simp; done) | (go_simp; rfl)); intro gb113 hg w37 hbox hb; have n0_ := Za (below_step (by repeat (first | (with_reducible first | exact HB.out | apply b1' | apply b2' | apply b3') | exact HB.out)) hb); have n1_ := Za (hbox); have n2_ := Za ((by rw [hg]; exact (below_size (by repeat (first | (with_reducible first | exact HB.out | apply b1' | apply b2' | apply b3') | exact HB.out))) : w.heap.size ≤ gb113)); have n3_ := Za ((by rw [hg]; exact (below_size (by repeat (first | (with_reducible first | exact HB.out | apply b1' | apply b2' | apply b3') | exact HB.out))) : w.heap.size ≤ gb113)); clear HB; have HB := n0_; have BK113 := n1_; have GW113 := n2_; have GE113 := n3_; clear n0_ n1_ n2_ n3_; clear hb hbox hg; have hcz38_0 : w37.cell? ⟨gb113, 0, none⟩ = some (.int .i64 a0_0) := (Zc BK113.out 0).trans rfl; have hcz38_1 : w37.cell? ⟨gb113, 1, none⟩ = some (.int .i64 a0_1) := (Zc BK113.out 1).trans rfl; have hcz38_2 : w37.cell? ⟨gb113, 2, none⟩ = some (.int .i64 a0_2) := (Zc BK113.out 2).trans rfl; have hcz38_3 : w37.cell? ⟨gb113, 3, none⟩ = some (.bool a0_3) := (Zc BK113.out 3).trans rfl; have hcz38_4 : w37.cell? ⟨gb113, 4, none⟩ = some (.int .i64 a0_4) := (Zc BK113.out 4).trans rfl; have hfz38_0 := Zf BK113.out 0; have hfz38_1 := Zf BK113.out 1; have hfz38_2 := Zf BK113.out 2; have hfz38_3 := Zf BK113.out 3; have hfz38_4 := Zf BK113.out 4)); go_ret; (exact ⟨by first | rfl | (simp [errW_none, errW_some] <;> rfl) | (simp only [← hji2, ← hji3, ← hji4]; first | rfl | (simp [errW_none, errW_some] <;> rfl)) | (simp [*, errW_none, errW_some] <;> rfl), by repeat (first | (with_reducible first | exact HB.out | apply b1' | apply b2' | apply b3' | refine below_set ?_ GE113.out) | exact HB.out)⟩)))); (· rw [if_neg c22] at H; have c22b0 : (a0_0 == 1) = false := beq_eq_false_iff_ne.mpr c22; have c22b1 : (a0_0 != 1) = true := bne_iff_ne.mpr c22; obtain rfl := Option.some.inj H; go_enter Try.func13, Try.ntmps13; go_wp2_with (first | ((with_reducible refine gate_dst (N := 1) rfl ?_); (try (refine gate_guard (by rfl) ?_; dsimp only)); refine box_event ?hg (N := 1) ?hd (cs := #[.int .i64 a0_0, .int .i64 a0_1, .int .i64 a0_2, .bool a0_3, .int .i64 a0_4]) (t := 23) ?hr ?_; (case hd => rfl); (case hg => rfl); (case hr => first | (go_simp; done) | (go_simp; rfl)); intro gb113 hg w39 hbox hb; have n0_ := Za (below_step (by repeat (first | (with_reducible first | exact HB.out | apply b1' | apply b2' | apply b3') | exact HB.out)) hb); have n1_ := Za (hbox); have n2_ := Za ((by rw [hg]; exact (below_size (by repeat (first | (with_reducible first | exact HB.out | apply b1' | apply b2' | apply b3') | exact HB.out))) : w.heap.size ≤ gb113)); have n3_ := Za ((by rw [hg]; exact (below_size (by repeat (first | (with_reducible first | exact HB.out | apply b1' | apply b2' | apply b3') | exact HB.out))) : w.heap.size ≤ gb113)); clear HB; have HB := n0_; have BK113 := n1_; have GW113 := n2_; have GE113 := n3_; clear n0_ n1_ n2_ n3_; clear hb hbox hg; have hcz40_0 : w39.cell? ⟨gb113, 0, none⟩ = some (.int .i64 a0_0) := (Zc BK113.out 0).trans rfl; have hcz40_1 : w39.cell? ⟨gb113, 1, none⟩ = some (.int .i64 a0_1) := (Zc BK113.out 1).trans rfl; have hcz40_2 : w39.cell? ⟨gb113, 2, none⟩ = some (.int .i64 a0_2) := (Zc BK113.out 2).trans rfl; have hcz40_3 : w39.cell? ⟨gb113, 3, none⟩ = some (.bool a0_3) := (Zc BK113.out 3).trans rfl; have hcz40_4 : w39.cell? ⟨gb113, 4, none⟩ = some (.int .i64 a0_4) := (Zc BK113.out 4).trans rfl; have hfz40_0 := Zf BK113.out 0; have hfz40_1 := Zf BK113.out 1; have hfz40_2 := Zf BK113.out 2; have hfz40_3 := Zf BK113.out 3; have hfz40_4 := Zf BK113.out 4)); go_ret; (exact ⟨by first | rfl | (simp [errW_none, errW_some] <;> rfl) | (simp only [← hji2, ← hji3, ← hji4]; first | rfl | (simp [errW_none, errW_some] <;> rfl)) | (simp [*, errW_none, errW_some] <;> rfl), by repeat (first | (with_reducible first | exact HB.out | apply b1' | apply b2' | apply b3' | refine below_set ?_ GE113.out) | exact HB.out)⟩)))
def incunableref08_Valid.f (a0_0 : Int) (a0_1 : Int) (a0_2 : Int) (a0_3 : Bool) (a0_4 : Int) : Option (Bool) := if a0_1 ≥ (-200) then (if a0_1 ≤ 200 then (if a0_2 ≥ (-200) then (if a0_2 ≤ 200 then (if a0_0 ≥ 0 then (if a0_0 ≤ 1 then (if a0_4 ≥ 0 then (some (decide (a0_4 ≤ 1))) else (some false)) else (some false)) else (some false)) else (some false)) else (some false)) else (some false)) else (some false)
def bitmap_fits.f (a0 : Int) (a1 : Int) : Option (Bool) := if a0 ≥ 0 then (if a1 ≥ 0 then (if a0 ≤ 200 then (if a1 ≤ 200 then (some (decide ((wrap64 (a0 * a1)) ≤ 8192))) else (some false)) else (some false)) else (some false)) else (some false)
set_option maxHeartbeats 8000000 in
set_option maxRecDepth 100000 in
theorem bitmap_fits.calls (a0 : Int) (a1 : Int) (r : Bool) (w : World) (h : bitmap_fits.f a0 a1 = some r) :
 Calls Try.prog 88 #[.int .i64 a0, .int .i64 a1] w fun e w' => e = .returned (.bool r) ∧ Drawn0 w w' := by
 have H : (if a0 ≥ 0 then (if a1 ≥ 0 then (if a0 ≤ 200 then (if a1 ≤ 200 then (some (decide ((wrap64 (a0 * a1)) ≤ 8192))) else (some false)) else (some false)) else (some false)) else (some false)) = some r := h; clear h; by_cases c3 : a0 ≥ 0
 (· rw [if_pos c3] at H; have c3b0 : decide (0 ≤ a0) = true := decide_eq_true c3; clear c3; by_cases c4 : a1 ≥ 0; (· rw [if_pos c4] at H; have c4b0 : decide (0 ≤ a1) = true := decide_eq_true c4; clear c4; by_cases c5 : a0 ≤ 200; (· rw [if_pos c5] at H; have c5b0 : decide (a0 ≤ 200) = true := decide_eq_true c5; clear c5; by_cases c6 : a1 ≤ 200; (· rw [if_pos c6] at H; have c6b0 : decide (a1 ≤ 200) = true := decide_eq_true c6; clear c6; obtain rfl := Option.some.inj H; go_enter Try.func88, Try.ntmps88; go_wp2; go_ret; exact ⟨by first | rfl | (simp; done) | (simp [*]; done), by repeat (first | exact Drawn0.refl _ | apply Drawn0.step)⟩); (· rw [if_neg c6] at H; have c6b0 : decide (a1 ≤ 200) = false := decide_eq_false c6; clear c6; obtain rfl := Option.some.inj H; go_enter Try.func88, Try.ntmps88; go_wp2; go_ret; exact ⟨by first | rfl | (simp; done) | (simp [*]; done), by repeat (first | exact Drawn0.refl _ | apply Drawn0.step)⟩)); (· rw [if_neg c5] at H; have c5b0 : decide (a0 ≤ 200) = false := decide_eq_false c5; clear c5; obtain rfl := Option.some.inj H; go_enter Try.func88, Try.ntmps88; go_wp2; go_ret; exact ⟨by first | rfl | (simp; done) | (simp [*]; done), by repeat (first | exact Drawn0.refl _ | apply Drawn0.step)⟩)); (· rw [if_neg c4] at H; have c4b0 : decide (0 ≤ a1) = false := decide_eq_false c4; clear c4; obtain rfl := Option.some.inj H; go_enter Try.func88, Try.ntmps88; go_wp2; go_ret; exact ⟨by first | rfl | (simp; done) | (simp [*]; done), by repeat (first | exact Drawn0.refl _ | apply Drawn0.step)⟩))
 (· rw [if_neg c3] at H; have c3b0 : decide (0 ≤ a0) = false := decide_eq_false c3; clear c3; obtain rfl := Option.some.inj H; go_enter Try.func88, Try.ntmps88; go_wp2; go_ret; exact ⟨by first | rfl | (simp; done) | (simp [*]; done), by repeat (first | exact Drawn0.refl _ | apply Drawn0.step)⟩)
mutual
def bitmap_Valid.j0 : Nat → Bool → Int → Int → List Int → Option (Bool)
 | 0, _, _, _, _ => none
 | k + 1, x21, x127000, x127001, x127002 => if x21 = true then (some false) else (bitmap_Valid.l0 k x127002 (x127002.length : Int) 0)
def bitmap_Valid.l0 : Nat → List Int → Int → Int → Option (Bool)
 | 0, _, _, _ => none
 | k + 1, x23, x24, x25 => if x25 < x24 then (if 0 ≤ x25 then (if x25 < (x23.length : Int) then (if (rd x23 x25) > 1 then (some false) else (bitmap_Valid.l0 k x23 x24 (wrap64 (x25 + 1)))) else (none)) else (none)) else (some true)
end
def bitmap_Valid.f (k : Nat) (a0_0 : Int) (a0_1 : Int) (l0_2 : List Int) : Option (Bool) := (bitmap_fits.f a0_0 a0_1).bind fun t127 => (if t127 = true then (bitmap_Valid.j0 k ((l0_2.length : Int) != (wrap64 (a0_0 * a0_1))) a0_0 a0_1 l0_2) else (bitmap_Valid.j0 k true a0_0 a0_1 l0_2))
theorem bitmap_Valid.mono_l : ∀ k, (∀ y0 y1 y2 y3, LeO (bitmap_Valid.j0 k y0 y1 y2 y3) (bitmap_Valid.j0 (k + 1) y0 y1 y2 y3)) ∧ (∀ y0 y1 y2, LeO (bitmap_Valid.l0 k y0 y1 y2) (bitmap_Valid.l0 (k + 1) y0 y1 y2))
 | 0 => ⟨fun _ _ _ _ r h => by simp [bitmap_Valid.j0] at h, fun _ _ _ r h => by simp [bitmap_Valid.l0] at h⟩
 | k + 1 => by
   obtain ⟨ih0, ih1⟩ := bitmap_Valid.mono_l k
   refine ⟨?_, ?_⟩
   · intro y0 y1 y2 y3
     unfold bitmap_Valid.j0
     repeat' first
     | (with_reducible exact ih0 _ _ _ _)
     | (with_reducible exact ih1 _ _ _)
     | (with_reducible exact LeO.refl _)
     | (with_reducible exact LeO.none _)
     | (with_reducible refine LeO.ite ?_ ?_)
     | (with_reducible refine LeO.bind ?_ (fun _ => ?_))
     | exact ih0 _ _ _ _
     | exact ih1 _ _ _
     | exact LeO.none _
     | refine LeO.ite ?_ ?_
     | refine LeO.bind ?_ (fun _ => ?_)
   · intro y0 y1 y2
     unfold bitmap_Valid.l0
     repeat' first
     | (with_reducible exact ih0 _ _ _ _)
     | (with_reducible exact ih1 _ _ _)
     | (with_reducible exact LeO.refl _)
     | (with_reducible exact LeO.none _)
     | (with_reducible refine LeO.ite ?_ ?_)
     | (with_reducible refine LeO.bind ?_ (fun _ => ?_))
     | exact ih0 _ _ _ _
     | exact ih1 _ _ _
     | exact LeO.none _
     | refine LeO.ite ?_ ?_
     | refine LeO.bind ?_ (fun _ => ?_)
theorem bitmap_Valid.mono : ∀ a0 a1 a2 k, LeO (bitmap_Valid.f k a0 a1 a2) (bitmap_Valid.f (k + 1) a0 a1 a2) := by
 intro a0 a1 a2 k; obtain ⟨ih0, ih1⟩ := bitmap_Valid.mono_l k; unfold bitmap_Valid.f
 repeat' first
  | (with_reducible exact ih0 _ _ _ _)
  | (with_reducible exact ih1 _ _ _)
  | (with_reducible exact LeO.refl _)
  | (with_reducible exact LeO.none _)
  | (with_reducible refine LeO.ite ?_ ?_)
  | (with_reducible refine LeO.bind ?_ (fun _ => ?_))
  | exact ih0 _ _ _ _
  | exact ih1 _ _ _
  | exact LeO.none _
  | refine LeO.ite ?_ ?_
  | refine LeO.bind ?_ (fun _ => ?_)
set_option maxHeartbeats 8000000 in
set_option maxRecDepth 100000 in
theorem bitmap_Valid.calls (k : Nat) (a0_0 : Int) (a0_1 : Int) (A0_2 : Option Addr) (c0_2 : Nat) (l0_2 : List Int) (r : Bool) (w : World) (hr0_2 : Kd.C (Kd.int .u8) w A0_2 l0_2.length l0_2) (hc0_2 : l0_2.length ≤ c0_2) (h : bitmap_Valid.f k a0_0 a0_1 l0_2 = some r) :
 Calls Try.prog 56 #[.agg #[.int .i64 a0_0, .int .i64 a0_1, .slice A0_2 l0_2.length c0_2]] w fun e w' => e = .returned (.bool r) ∧ Below w.heap.size w w' := by
 have hu31 := Try.underlying31; have HR0_2 := Za hr0_2; have HC0_2 := Za hc0_2; clear hr0_2 hc0_2; have HB := Za (Below.refl w.heap.size w); have H : ((bitmap_fits.f a0_0 a0_1).bind fun t127 => (if t127 = true then (bitmap_Valid.j0 k ((l0_2.length : Int) != (wrap64 (a0_0 * a0_1))) a0_0 a0_1 l0_2) else (bitmap_Valid.j0 k true a0_0 a0_1 l0_2))) = some r := h; clear h; have HC2 := Za H; clear H; go_enter Try.func56, Try.ntmps56; go_upto_region 1 with (first | ((with_reducible refine gate_dst (N := 1) rfl ?_); (try (refine gate_guard (by rfl) ?_; dsimp only)); refine box_event ?hg (N := 1) ?hd (cs := #[.int .i64 a0_0, .int .i64 a0_1, .slice A0_2 l0_2.length c0_2]) (t := 31) ?hr ?_; (case hd => rfl); (case hg => rfl); (case hr => first | (go_simp; done) | (go_simp; rfl)); intro gb126 hg w3 hbox hb; have n0_ := Za (below_step (by repeat (first | (with_reducible first | exact HB.out | apply b1' | apply b2' | apply b3') | exact HB.out)) hb); have n1_ := Za (hbox); have n2_ := Za ((by rw [hg]; exact (below_size (by repeat (first | (with_reducible first | exact HB.out | apply b1' | apply b2' | apply b3') | exact HB.out))) : w.heap.size ≤ gb126)); have n3_ := Za ((by rw [hg]; exact (below_size (by repeat (first | (with_reducible first | exact HB.out | apply b1' | apply b2' | apply b3') | exact HB.out))) : w.heap.size ≤ gb126)); clear HB; have HB := n0_; have BK126 := n1_; have GW126 := n2_; have GE126 := n3_; clear n0_ n1_ n2_ n3_; clear hb hbox hg))
 (try simp only [Act.put, List.setIfInBounds_toArray, List.set_cons_zero, List.set_cons_succ]); go_cut [21] (fun v21 wc => ∃ (kq : Nat) (x21_1 : Bool), v21 = .bool x21_1 ∧ Aside0 (bitmap_Valid.j0 kq x21_1 a0_0 a0_1 l0_2 = some r) ∧ Aside0 (kq ≤ k) ∧ Aside0 (wc.heap[gb126]? = some (.cells #[.int .i64 a0_0, .int .i64 a0_1, (.slice A0_2 l0_2.length c0_2)] 31 (0, 0))) ∧ Aside0 (Below w.heap.size w wc))
 (case first => have H := HC2.out; clear HC2; replace H := Option.bind_eq_some_iff.mp H; obtain ⟨t127, A40, H⟩ := H; replace H : (if t127 = true then (bitmap_Valid.j0 k ((l0_2.length : Int) != (wrap64 (a0_0 * a0_1))) a0_0 a0_1 l0_2) else (bitmap_Valid.j0 k true a0_0 a0_1 l0_2)) = some r := H; have A4 := Za A40; clear A40; by_cases c5 : t127 = true; (· subst c5; (have H1 : (bitmap_Valid.j0 k ((l0_2.length : Int) != (wrap64 (a0_0 * a0_1))) a0_0 a0_1 l0_2) = some r := by rw [if_pos rfl] at H; exact H); clear H; have H := H1; clear H1; have H' := Za H; clear H; have hcz6_0 : w3.cell? ⟨gb126, 0, none⟩ = some (.int .i64 a0_0) := (Zc BK126.out 0).trans rfl; have hcz6_1 : w3.cell? ⟨gb126, 1, none⟩ = some (.int .i64 a0_1) := (Zc BK126.out 1).trans rfl; have hcz6_2 : w3.cell? ⟨gb126, 2, none⟩ = some (.slice A0_2 l0_2.length c0_2) := (Zc BK126.out 2).trans rfl; have hfz6_0 := Zf BK126.out 0; have hfz6_1 := Zf BK126.out 1; have hfz6_2 := Zf BK126.out 2; go_wp2_with (first | ((with_reducible refine gate_callee (f := 88) rfl ?_); refine goesL_ (some 9) rfl rfl Try.func88 (by kernel_rfl) rfl #[.int .i64 a0_0, .int .i64 a0_1] rfl (by (try simp only [List.map_toArray, List.map_cons, List.map_nil]); first | done | rfl | (simp only [List.length_drop, List.length_take]; rfl)) ?_; (with_reducible refine (bitmap_fits.calls a0_0 a0_1 true _ A4.out).mono ?_); rintro e w' ⟨rfl, ⟨nd, rfl⟩⟩; refine ⟨_, rfl, ?_⟩)); go_meet; (case rel => exact ⟨_, (((l0_2.length : Int) != (wrap64 (a0_0 * a0_1)))), (by first | rfl | (simp; done) | (simp [*]; done)), H', ⟨by first | omega | exact Nat.le_refl _⟩, ⟨by (with_reducible repeat (first | refine k1' ?_ _ | refine k2' ?_ | refine k3' ?_ _)); exact BK126.out⟩, ⟨by repeat (first | (with_reducible first | exact HB.out | apply b1' | apply b2' | apply b3' | refine below_set ?_ GE126.out) | exact HB.out)⟩⟩)); (· replace c5 := Bool.eq_false_iff.mpr c5; subst c5; (have H1 : (bitmap_Valid.j0 k true a0_0 a0_1 l0_2) = some r := by rw [if_neg (show ¬ (false = true) by decide)] at H; exact H); clear H; have H := H1; clear H1; have H' := Za H; clear H; have hcz7_0 : w3.cell? ⟨gb126, 0, none⟩ = some (.int .i64 a0_0) := (Zc BK126.out 0).trans rfl; have hcz7_1 : w3.cell? ⟨gb126, 1, none⟩ = some (.int .i64 a0_1) := (Zc BK126.out 1).trans rfl; have hcz7_2 : w3.cell? ⟨gb126, 2, none⟩ = some (.slice A0_2 l0_2.length c0_2) := (Zc BK126.out 2).trans rfl; have hfz7_0 := Zf BK126.out 0; have hfz7_1 := Zf BK126.out 1; have hfz7_2 := Zf BK126.out 2; go_wp2_with (first | ((with_reducible refine gate_callee (f := 88) rfl ?_); refine goesL_ (some 9) rfl rfl Try.func88 (by kernel_rfl) rfl #[.int .i64 a0_0, .int .i64 a0_1] rfl (by (try simp only [List.map_toArray, List.map_cons, List.map_nil]); first | done | rfl | (simp only [List.length_drop, List.length_take]; rfl)) ?_; (with_reducible refine (bitmap_fits.calls a0_0 a0_1 false _ A4.out).mono ?_); rintro e w' ⟨rfl, ⟨nd, rfl⟩⟩; refine ⟨_, rfl, ?_⟩)); go_meet; (case rel => exact ⟨_, (true), (by first | rfl | (simp; done) | (simp [*]; done)), H', ⟨by first | omega | exact Nat.le_refl _⟩, ⟨by (with_reducible repeat (first | refine k1' ?_ _ | refine k2' ?_ | refine k3' ?_ _)); exact BK126.out⟩, ⟨by repeat (first | (with_reducible first | exact HB.out | apply b1' | apply b2' | apply b3' | refine below_set ?_ GE126.out) | exact HB.out)⟩⟩)))
 case rest =>
  clear HC2; (try clear p2); (try clear c5); (try clear p6); (try clear hcz6_0); (try clear hcz6_1); (try clear hcz6_2); (try clear hcz7_0); (try clear hcz7_1); (try clear hcz7_2); (try clear hfz6_0); (try clear hfz6_1); (try clear hfz6_2); (try clear hfz7_0); (try clear hfz7_1); (try clear hfz7_2); obtain ⟨kq, x21_1, rfl, HA, HJ1, BK126, HB⟩ := hcut
  cases kq with
  | zero => exact absurd HA.out (by simp [bitmap_Valid.j0])
  | succ kj1 =>
   have H := HA.out; clear HA; simp only [bitmap_Valid.j0] at H; by_cases c8 : x21_1 = true; (· subst c8; (have H1 : (some false) = some r := by rw [if_pos rfl] at H; exact H); clear H; have H := H1; clear H1; obtain rfl := Option.some.inj H; go_wp2; go_ret; (exact ⟨by first | rfl | (simp [errW_none, errW_some] <;> rfl) | (simp [*, errW_none, errW_some] <;> rfl), by repeat (first | (with_reducible first | exact HB.out | apply b1' | apply b2' | apply b3' | refine below_set ?_ GE126.out) | exact HB.out)⟩))
   · replace c8 := Bool.eq_false_iff.mpr c8
     subst c8; (have H1 : (bitmap_Valid.l0 kj1 l0_2 (l0_2.length : Int) 0) = some r := by rw [if_neg (show ¬ (false = true) by decide)] at H; exact H); clear H; have H := H1; clear H1; have H' := Za H; clear H; have hcz9_0 : wc.cell? ⟨gb126, 0, none⟩ = some (.int .i64 a0_0) := (Zc BK126.out 0).trans rfl; have hcz9_1 : wc.cell? ⟨gb126, 1, none⟩ = some (.int .i64 a0_1) := (Zc BK126.out 1).trans rfl; have hcz9_2 : wc.cell? ⟨gb126, 2, none⟩ = some (.slice A0_2 l0_2.length c0_2) := (Zc BK126.out 2).trans rfl; have hfz9_0 := Zf BK126.out 0; have hfz9_1 := Zf BK126.out 1; have hfz9_2 := Zf BK126.out 2; go_wp2; go_loopg [25] kj1 (fun kq v25 w' => ∃ (x25_2 : Int), v25 = .int .i64 x25_2 ∧ Aside0 (bitmap_Valid.l0 kq l0_2 (l0_2.length : Int) x25_2 = some r) ∧ Aside0 (kq ≤ kj1) ∧ Aside0 (w'.heap[gb126]? = some (.cells #[.int .i64 a0_0, .int .i64 a0_1, (.slice A0_2 l0_2.length c0_2)] 31 (0, 0))) ∧ Aside0 (Below w.heap.size w w')); (case atStart => exact ⟨(0), (by first | rfl | (simp; done) | (simp [*]; done)), H', ⟨Nat.le_refl _⟩, ⟨by (with_reducible repeat (first | refine k1' ?_ _ | refine k2' ?_ | refine k3' ?_ _)); exact BK126.out⟩, ⟨by repeat (first | (with_reducible first | exact HB.out | apply b1' | apply b2' | apply b3' | refine below_set ?_ GE126.out) | exact HB.out)⟩⟩)
     case round =>
      clear H'; (try clear p2); (try clear c5); (try clear p6); (try clear c8); (try clear hcz6_0); (try clear hcz6_1); (try clear hcz6_2); (try clear hcz7_0); (try clear hcz7_1); (try clear hcz7_2); (try clear hcz9_0); (try clear hcz9_1); (try clear hcz9_2); (try clear hfz6_0); (try clear hfz6_1); (try clear hfz6_2); (try clear hfz7_0); (try clear hfz7_1); (try clear hfz7_2); (try clear hfz9_0); (try clear hfz9_1); (try clear hfz9_2); (try clear p2); (try clear p6); obtain ⟨x25_2, rfl, HA, HK2, BK126, HB⟩ := hrel
      cases gk with
      | zero => exact absurd HA.out (by simp [bitmap_Valid.l0])
      | succ k2 =>
       have H := HA.out; clear HA; simp only [bitmap_Valid.l0] at H; by_cases c10 : x25_2 < (l0_2.length : Int)
       (· rw [if_pos c10] at H; have c10b0 : decide (x25_2 < (l0_2.length : Int)) = true := decide_eq_true c10; clear c10; by_cases c11 : 0 ≤ x25_2; (· rw [if_pos c11] at H; have c11b0 : decide (0 ≤ x25_2) = true := decide_eq_true c11; clear c11; by_cases c12 : x25_2 < (l0_2.length : Int); (· rw [if_pos c12] at H; have c12b0 : decide (x25_2 < (l0_2.length : Int)) = true := decide_eq_true c12; clear c12; by_cases c13 : (rd l0_2 x25_2) > 1; (· rw [if_pos c13] at H; have c13b0 : decide (1 < (rd l0_2 x25_2)) = true := decide_eq_true c13; clear c13; obtain rfl := Option.some.inj H; have p128 : 0 ≤ (x25_2 : Int) := of_decide_eq_true (by first | (with_reducible assumption) | assumption); have q128 : x25_2 < (l0_2.length : Int) := of_decide_eq_true (by first | (with_reducible assumption) | assumption); obtain ⟨ad128, e128, hx128_0⟩ := Kd.at_int HR0_2.out x25_2 p128 q128; cases e128; replace hx128_0 := (HB.out.cell (World.block_lt_of_cell? w _ hx128_0)).trans hx128_0; replace p128 := eq_true p128; replace q128 := eq_true q128; go_wp2; go_ret; (exact ⟨by first | rfl | (simp [errW_none, errW_some] <;> rfl) | (simp [*, errW_none, errW_some] <;> rfl), by repeat (first | (with_reducible first | exact HB.out | apply b1' | apply b2' | apply b3' | refine below_set ?_ GE126.out) | exact HB.out)⟩)); (· rw [if_neg c13] at H; have c13b0 : decide (1 < (rd l0_2 x25_2)) = false := decide_eq_false c13; clear c13; have H' := Za H; clear H; have p128 : 0 ≤ (x25_2 : Int) := of_decide_eq_true (by first | (with_reducible assumption) | assumption); have q128 : x25_2 < (l0_2.length : Int) := of_decide_eq_true (by first | (with_reducible assumption) | assumption); obtain ⟨ad128, e128, hx128_0⟩ := Kd.at_int HR0_2.out x25_2 p128 q128; cases e128; replace hx128_0 := (HB.out.cell (World.block_lt_of_cell? w _ hx128_0)).trans hx128_0; replace p128 := eq_true p128; replace q128 := eq_true q128; go_wp2; go_roundg k2; (case measure => have := HJ1.out; have := HK2.out; omega); (case rel => exact ⟨(wrap64 (x25_2 + 1)), (by first | rfl | (simp; done) | (simp [*]; done)), H', ⟨by have := HJ1.out; have := HK2.out; omega⟩, ⟨by (with_reducible repeat (first | refine k1' ?_ _ | refine k2' ?_ | refine k3' ?_ _)); exact BK126.out⟩, ⟨by repeat (first | (with_reducible first | exact HB.out | apply b1' | apply b2' | apply b3' | refine below_set ?_ GE126.out) | exact HB.out)⟩⟩))); (· rw [if_neg c12] at H; exact absurd H (by simp))); (· rw [if_neg c11] at H; exact absurd H (by simp)))
       (· rw [if_neg c10] at H; have c10b0 : decide (x25_2 < (l0_2.length : Int)) = false := decide_eq_false c10; clear c10; obtain rfl := Option.some.inj H; go_wp2; go_ret; (exact ⟨by first | rfl | (simp [errW_none, errW_some] <;> rfl) | (simp [*, errW_none, errW_some] <;> rfl), by repeat (first | (with_reducible first | exact HB.out | apply b1' | apply b2' | apply b3' | refine below_set ?_ GE126.out) | exact HB.out)⟩))
def incunableref06_IsSize.f (a0 : Int) (a1 : Int) : Option (Bool) := if a0 ≥ 0 then (if a0 ≤ 200 then (if a1 ≥ 0 then (if a1 ≤ 200 then (some (decide ((wrap64 (a0 * a1)) ≤ 8192))) else (some false)) else (some false)) else (some false)) else (some false)
set_option maxHeartbeats 8000000 in
set_option maxRecDepth 100000 in
theorem incunableref06_IsSize.calls (a0 : Int) (a1 : Int) (r : Bool) (w : World) (h : incunableref06_IsSize.f a0 a1 = some r) :
 Calls Try.prog 49 #[.int .i64 a0, .int .i64 a1] w fun e w' => e = .returned (.bool r) ∧ Drawn0 w w' := by
 have H : (if a0 ≥ 0 then (if a0 ≤ 200 then (if a1 ≥ 0 then (if a1 ≤ 200 then (some (decide ((wrap64 (a0 * a1)) ≤ 8192))) else (some false)) else (some false)) else (some false)) else (some false)) = some r := h; clear h; by_cases c3 : a0 ≥ 0
 (· rw [if_pos c3] at H; have c3b0 : decide (0 ≤ a0) = true := decide_eq_true c3; clear c3; by_cases c4 : a0 ≤ 200; (· rw [if_pos c4] at H; have c4b0 : decide (a0 ≤ 200) = true := decide_eq_true c4; clear c4; by_cases c5 : a1 ≥ 0; (· rw [if_pos c5] at H; have c5b0 : decide (0 ≤ a1) = true := decide_eq_true c5; clear c5; by_cases c6 : a1 ≤ 200; (· rw [if_pos c6] at H; have c6b0 : decide (a1 ≤ 200) = true := decide_eq_true c6; clear c6; obtain rfl := Option.some.inj H; go_enter Try.func49, Try.ntmps49; go_wp2; go_ret; exact ⟨by first | rfl | (simp; done) | (simp [*]; done), by repeat (first | exact Drawn0.refl _ | apply Drawn0.step)⟩); (· rw [if_neg c6] at H; have c6b0 : decide (a1 ≤ 200) = false := decide_eq_false c6; clear c6; obtain rfl := Option.some.inj H; go_enter Try.func49, Try.ntmps49; go_wp2; go_ret; exact ⟨by first | rfl | (simp; done) | (simp [*]; done), by repeat (first | exact Drawn0.refl _ | apply Drawn0.step)⟩)); (· rw [if_neg c5] at H; have c5b0 : decide (0 ≤ a1) = false := decide_eq_false c5; clear c5; obtain rfl := Option.some.inj H; go_enter Try.func49, Try.ntmps49; go_wp2; go_ret; exact ⟨by first | rfl | (simp; done) | (simp [*]; done), by repeat (first | exact Drawn0.refl _ | apply Drawn0.step)⟩)); (· rw [if_neg c4] at H; have c4b0 : decide (a0 ≤ 200) = false := decide_eq_false c4; clear c4; obtain rfl := Option.some.inj H; go_enter Try.func49, Try.ntmps49; go_wp2; go_ret; exact ⟨by first | rfl | (simp; done) | (simp [*]; done), by repeat (first | exact Drawn0.refl _ | apply Drawn0.step)⟩))
 (· rw [if_neg c3] at H; have c3b0 : decide (0 ≤ a0) = false := decide_eq_false c3; clear c3; obtain rfl := Option.some.inj H; go_enter Try.func49, Try.ntmps49; go_wp2; go_ret; exact ⟨by first | rfl | (simp; done) | (simp [*]; done), by repeat (first | exact Drawn0.refl _ | apply Drawn0.step)⟩)
def incunableref06_IsRow.l0 : Nat → List Int → Int → Int → Option (Bool)
 | 0, _, _, _ => none
 | k + 1, x5, x6, x7 => if x7 < x6 then (if 0 ≤ x7 then (if x7 < (x5.length : Int) then (if (rd x5 x7) > 1 then (some false) else (incunableref06_IsRow.l0 k x5 x6 (wrap64 (x7 + 1)))) else (none)) else (none)) else (some true)
def incunableref06_IsRow.f (k : Nat) (l0 : List Int) : Option (Bool) := incunableref06_IsRow.l0 k l0 (l0.length : Int) 0
theorem incunableref06_IsRow.mono_l : ∀ k, (∀ y0 y1 y2, LeO (incunableref06_IsRow.l0 k y0 y1 y2) (incunableref06_IsRow.l0 (k + 1) y0 y1 y2))
 | 0 => fun _ _ _ r h => by simp [incunableref06_IsRow.l0] at h
 | k + 1 => by
   have ih0 := incunableref06_IsRow.mono_l k
   · intro y0 y1 y2
     unfold incunableref06_IsRow.l0
     repeat' first
     | (with_reducible exact ih0 _ _ _)
     | (with_reducible exact LeO.refl _)
     | (with_reducible exact LeO.none _)
     | (with_reducible refine LeO.ite ?_ ?_)
     | (with_reducible refine LeO.bind ?_ (fun _ => ?_))
     | exact ih0 _ _ _
     | exact LeO.none _
     | refine LeO.ite ?_ ?_
     | refine LeO.bind ?_ (fun _ => ?_)
theorem incunableref06_IsRow.mono : ∀ a0 k, LeO (incunableref06_IsRow.f k a0) (incunableref06_IsRow.f (k + 1) a0) := by
 intro a0 k; have ih0 := incunableref06_IsRow.mono_l k; unfold incunableref06_IsRow.f
 repeat' first
  | (with_reducible exact ih0 _ _ _)
  | (with_reducible exact LeO.refl _)
  | (with_reducible exact LeO.none _)
  | (with_reducible refine LeO.ite ?_ ?_)
  | (with_reducible refine LeO.bind ?_ (fun _ => ?_))
  | exact ih0 _ _ _
  | exact LeO.none _
  | refine LeO.ite ?_ ?_
  | refine LeO.bind ?_ (fun _ => ?_)
set_option maxHeartbeats 8000000 in
set_option maxRecDepth 100000 in
theorem incunableref06_IsRow.calls (k : Nat) (A0 : Option Addr) (c0 : Nat) (l0 : List Int) (r : Bool) (w : World) (hr0 : Kd.C (Kd.int .u8) w A0 l0.length l0) (hc0 : l0.length ≤ c0) (h : incunableref06_IsRow.f k l0 = some r) :
 Calls Try.prog 50 #[.slice A0 l0.length c0] w fun e w' => e = .returned (.bool r) ∧ Drawn0 w w' := by
 have HR0 := Za hr0; have HC0 := Za hc0; clear hr0 hc0; have H : (incunableref06_IsRow.l0 k l0 (l0.length : Int) 0) = some r := h; clear h; have H' := Za H; clear H; go_enter Try.func50, Try.ntmps50; go_wp2; go_loopg [7] k (fun kq v7 w' => ∃ (x7_1 : Int), v7 = .int .i64 x7_1 ∧ Aside0 (incunableref06_IsRow.l0 kq l0 (l0.length : Int) x7_1 = some r) ∧ Aside0 (kq ≤ k) ∧ Drawn0 w w'); (case atStart => exact ⟨(0), (by first | rfl | (simp; done) | (simp [*]; done)), H', ⟨Nat.le_refl _⟩, by repeat (first | exact Drawn0.refl _ | apply Drawn0.step)⟩)
 case round =>
  clear H'; obtain ⟨x7_1, rfl, HA, HK1, ⟨m1, rfl⟩⟩ := hrel
  cases gk with
  | zero => exact absurd HA.out (by simp [incunableref06_IsRow.l0])
  | succ k1 =>
   have H := HA.out; clear HA; simp only [incunableref06_IsRow.l0] at H; by_cases c2 : x7_1 < (l0.length : Int)
   (· rw [if_pos c2] at H; have c2b0 : decide (x7_1 < (l0.length : Int)) = true := decide_eq_true c2; clear c2; by_cases c3 : 0 ≤ x7_1; (· rw [if_pos c3] at H; have c3b0 : decide (0 ≤ x7_1) = true := decide_eq_true c3; clear c3; by_cases c4 : x7_1 < (l0.length : Int); (· rw [if_pos c4] at H; have c4b0 : decide (x7_1 < (l0.length : Int)) = true := decide_eq_true c4; clear c4; by_cases c5 : (rd l0 x7_1) > 1; (· rw [if_pos c5] at H; have c5b0 : decide (1 < (rd l0 x7_1)) = true := decide_eq_true c5; clear c5; obtain rfl := Option.some.inj H; have p216 : 0 ≤ (x7_1 : Int) := of_decide_eq_true (by first | (with_reducible assumption) | assumption); have q216 : x7_1 < (l0.length : Int) := of_decide_eq_true (by first | (with_reducible assumption) | assumption); obtain ⟨ad216, e216, hx216_0⟩ := Kd.at_int HR0.out x7_1 p216 q216; cases e216; replace p216 := eq_true p216; replace q216 := eq_true q216; go_wp2; go_ret; exact ⟨by first | rfl | (simp; done) | (simp [*]; done), by repeat (first | exact Drawn0.refl _ | apply Drawn0.step)⟩); (· rw [if_neg c5] at H; have c5b0 : decide (1 < (rd l0 x7_1)) = false := decide_eq_false c5; clear c5; have H' := Za H; clear H; have p216 : 0 ≤ (x7_1 : Int) := of_decide_eq_true (by first | (with_reducible assumption) | assumption); have q216 : x7_1 < (l0.length : Int) := of_decide_eq_true (by first | (with_reducible assumption) | assumption); obtain ⟨ad216, e216, hx216_0⟩ := Kd.at_int HR0.out x7_1 p216 q216; cases e216; replace p216 := eq_true p216; replace q216 := eq_true q216; go_wp2; go_roundg k1; (case measure => have := HK1.out; omega); (case rel => exact ⟨(wrap64 (x7_1 + 1)), (by first | rfl | (simp; done) | (simp [*]; done)), H', ⟨by have := HK1.out; omega⟩, by repeat (first | exact Drawn0.refl _ | apply Drawn0.step)⟩))); (· rw [if_neg c4] at H; exact absurd H (by simp))); (· rw [if_neg c3] at H; exact absurd H (by simp)))
   (· rw [if_neg c2] at H; have c2b0 : decide (x7_1 < (l0.length : Int)) = false := decide_eq_false c2; clear c2; obtain rfl := Option.some.inj H; go_wp2; go_ret; exact ⟨by first | rfl | (simp; done) | (simp [*]; done), by repeat (first | exact Drawn0.refl _ | apply Drawn0.step)⟩)
def incunableref06_IsBitmap.f (k : Nat) (a0_0 : Int) (a0_1 : Int) (l0_2 : List Int) : Option (Bool) := (incunableref06_IsSize.f a0_0 a0_1).bind fun t218 => (if t218 = true then (if (l0_2.length : Int) = (wrap64 (a0_0 * a0_1)) then ((incunableref06_IsRow.f k l0_2).bind fun t219 => (some t219)) else (some false)) else (some false))
theorem incunableref06_IsBitmap.mono : ∀ a0 a1 a2 k, LeO (incunableref06_IsBitmap.f k a0 a1 a2) (incunableref06_IsBitmap.f (k + 1) a0 a1 a2) := by
 intro a0 a1 a2 k; unfold incunableref06_IsBitmap.f
 repeat' first
  | (with_reducible exact incunableref06_IsRow.mono _ _)
  | (with_reducible exact LeO.refl _)
  | (with_reducible exact LeO.none _)
  | (with_reducible refine LeO.ite ?_ ?_)
  | (with_reducible refine LeO.bind ?_ (fun _ => ?_))
  | exact incunableref06_IsRow.mono _ _
  | exact LeO.none _
  | refine LeO.ite ?_ ?_
  | refine LeO.bind ?_ (fun _ => ?_)
set_option maxHeartbeats 8000000 in
set_option maxRecDepth 100000 in
theorem incunableref06_IsBitmap.calls (k : Nat) (a0_0 : Int) (a0_1 : Int) (A0_2 : Option Addr) (c0_2 : Nat) (l0_2 : List Int) (r : Bool) (w : World) (hr0_2 : Kd.C (Kd.int .u8) w A0_2 l0_2.length l0_2) (hc0_2 : l0_2.length ≤ c0_2) (h : incunableref06_IsBitmap.f k a0_0 a0_1 l0_2 = some r) :
 Calls Try.prog 22 #[.agg #[.int .i64 a0_0, .int .i64 a0_1, .slice A0_2 l0_2.length c0_2]] w fun e w' => e = .returned (.bool r) ∧ Below w.heap.size w w' := by
 have hu31 := Try.underlying31; have HR0_2 := Za hr0_2; have HC0_2 := Za hc0_2; clear hr0_2 hc0_2; have HB := Za (Below.refl w.heap.size w); have H : ((incunableref06_IsSize.f a0_0 a0_1).bind fun t218 => (if t218 = true then (if (l0_2.length : Int) = (wrap64 (a0_0 * a0_1)) then ((incunableref06_IsRow.f k l0_2).bind fun t219 => (some t219)) else (some false)) else (some false))) = some r := h; clear h; replace H := Option.bind_eq_some_iff.mp H; obtain ⟨t218, A20, H⟩ := H; replace H : (if t218 = true then (if (l0_2.length : Int) = (wrap64 (a0_0 * a0_1)) then ((incunableref06_IsRow.f k l0_2).bind fun t219 => (some t219)) else (some false)) else (some false)) = some r := H; have A2 := Za A20; clear A20; by_cases c3 : t218 = true
 (· subst c3; (have H1 : (if (l0_2.length : Int) = (wrap64 (a0_0 * a0_1)) then ((incunableref06_IsRow.f k l0_2).bind fun t219 => (some t219)) else (some false)) = some r := by rw [if_pos rfl] at H; exact H); clear H; have H := H1; clear H1; by_cases c4 : (l0_2.length : Int) = (wrap64 (a0_0 * a0_1)); (· rw [if_pos c4] at H; have c4b0 : ((l0_2.length : Int) == (wrap64 (a0_0 * a0_1))) = true := beq_iff_eq.mpr c4; have c4b1 : ((l0_2.length : Int) != (wrap64 (a0_0 * a0_1))) = false := bne_eq_false_iff_eq.mpr c4; clear c4; replace H := Option.bind_eq_some_iff.mp H; obtain ⟨t219, A50, H⟩ := H; replace H : (some t219) = some r := H; have A5 := Za A50; clear A50; obtain rfl := Option.some.inj H; go_enter Try.func22, Try.ntmps22; go_wp2_with (first | ((with_reducible refine gate_dst (N := 1) rfl ?_); (try (refine gate_guard (by rfl) ?_; dsimp only)); refine box_event ?hg (N := 1) ?hd (cs := #[.int .i64 a0_0, .int .i64 a0_1, .slice A0_2 l0_2.length c0_2]) (t := 31) ?hr ?_; (case hd => rfl); (case hg => rfl); (case hr => first | (go_simp; done) | (go_simp; rfl)); intro gb217 hg w6 hbox hb; have n0_ := Za (below_step (by repeat (first | (with_reducible first | exact HB.out | apply b1' | apply b2' | apply b3') | exact HB.out)) hb); have n1_ := Za (hbox); have n2_ := Za ((by rw [hg]; exact (below_size (by repeat (first | (with_reducible first | exact HB.out | apply b1' | apply b2' | apply b3') | exact HB.out))) : w.heap.size ≤ gb217)); have n3_ := Za ((by rw [hg]; exact (below_size (by repeat (first | (with_reducible first | exact HB.out | apply b1' | apply b2' | apply b3') | exact HB.out))) : w.heap.size ≤ gb217)); clear HB; have HB := n0_; have BK217 := n1_; have GW217 := n2_; have GE217 := n3_; clear n0_ n1_ n2_ n3_; clear hb hbox hg; have hcz7_0 : w6.cell? ⟨gb217, 0, none⟩ = some (.int .i64 a0_0) := (Zc BK217.out 0).trans rfl; have hcz7_1 : w6.cell? ⟨gb217, 1, none⟩ = some (.int .i64 a0_1) := (Zc BK217.out 1).trans rfl; have hcz7_2 : w6.cell? ⟨gb217, 2, none⟩ = some (.slice A0_2 l0_2.length c0_2) := (Zc BK217.out 2).trans rfl; have hfz7_0 := Zf BK217.out 0; have hfz7_1 := Zf BK217.out 1; have hfz7_2 := Zf BK217.out 2) | ((with_reducible refine gate_callee (f := 49) rfl ?_); refine goesL_ (some 7) rfl rfl Try.func49 (by kernel_rfl) rfl #[.int .i64 a0_0, .int .i64 a0_1] rfl (by (try simp only [List.map_toArray, List.map_cons, List.map_nil]); first | done | rfl | (simp only [List.length_drop, List.length_take]; rfl)) ?_; (with_reducible refine (incunableref06_IsSize.calls a0_0 a0_1 true _ A2.out).mono ?_); rintro e w' ⟨rfl, ⟨nd, rfl⟩⟩; refine ⟨_, rfl, ?_⟩) | (go_at_call 50; (with_reducible refine (incunableref06_IsRow.calls k _ _ l0_2 t219 _ ?side1 ?side2 A5.out).mono ?_); (case side1 => repeat (first | exact (Kd.C_below HR0_2.out (by repeat (first | (with_reducible first | exact HB.out | apply b1' | apply b2' | apply b3' | refine below_set ?_ GE217.out) | exact HB.out))) | (with_reducible refine Kd.C_alloc ?_ _) | (with_reducible refine Kd.C_drewN ?_ _) | (with_reducible refine Kd.C_drew ?_))); (case side2 => exact HC0_2.out); rintro e w' ⟨rfl, ⟨nd, rfl⟩⟩)); go_ret; (exact ⟨by first | rfl | (simp [errW_none, errW_some] <;> rfl) | (simp [*, errW_none, errW_some] <;> rfl), by repeat (first | (with_reducible first | exact HB.out | apply b1' | apply b2' | apply b3' | refine below_set ?_ GE217.out) | exact HB.out)⟩)); (· rw [if_neg c4] at H; have c4b0 : ((l0_2.length : Int) == (wrap64 (a0_0 * a0_1))) = false := beq_eq_false_iff_ne.mpr c4; have c4b1 : ((l0_2.length : Int) != (wrap64 (a0_0 * a0_1))) = true := bne_iff_ne.mpr c4; obtain rfl := Option.some.inj H; go_enter Try.func22, Try.ntmps22; go_wp2_with (first | ((with_reducible refine gate_dst (N := 1) rfl ?_); (try (refine gate_guard (by rfl) ?_; dsimp only)); refine box_event ?hg (N := 1) ?hd (cs := #[.int .i64 a0_0, .int .i64 a0_1, .slice A0_2 l0_2.length c0_2]) (t := 31) ?hr ?_; (case hd => rfl); (case hg => rfl); (case hr => first | (go_simp; done) | (go_simp; rfl)); intro gb217 hg w8 hbox hb; have n0_ := Za (below_step (by repeat (first | (with_reducible first | exact HB.out | apply b1' | apply b2' | apply b3') | exact HB.out)) hb); have n1_ := Za (hbox); have n2_ := Za ((by rw [hg]; exact (below_size (by repeat (first | (with_reducible first | exact HB.out | apply b1' | apply b2' | apply b3') | exact HB.out))) : w.heap.size ≤ gb217)); have n3_ := Za ((by rw [hg]; exact (below_size (by repeat (first | (with_reducible first | exact HB.out | apply b1' | apply b2' | apply b3') | exact HB.out))) : w.heap.size ≤ gb217)); clear HB; have HB := n0_; have BK217 := n1_; have GW217 := n2_; have GE217 := n3_; clear n0_ n1_ n2_ n3_; clear hb hbox hg; have hcz9_0 : w8.cell? ⟨gb217, 0, none⟩ = some (.int .i64 a0_0) := (Zc BK217.out 0).trans rfl; have hcz9_1 : w8.cell? ⟨gb217, 1, none⟩ = some (.int .i64 a0_1) := (Zc BK217.out 1).trans rfl; have hcz9_2 : w8.cell? ⟨gb217, 2, none⟩ = some (.slice A0_2 l0_2.length c0_2) := (Zc BK217.out 2).trans rfl; have hfz9_0 := Zf BK217.out 0; have hfz9_1 := Zf BK217.out 1; have hfz9_2 := Zf BK217.out 2) | ((with_reducible refine gate_callee (f := 49) rfl ?_); refine goesL_ (some 7) rfl rfl Try.func49 (by kernel_rfl) rfl #[.int .i64 a0_0, .int .i64 a0_1] rfl (by (try simp only [List.map_toArray, List.map_cons, List.map_nil]); first | done | rfl | (simp only [List.length_drop, List.length_take]; rfl)) ?_; (with_reducible refine (incunableref06_IsSize.calls a0_0 a0_1 true _ A2.out).mono ?_); rintro e w' ⟨rfl, ⟨nd, rfl⟩⟩; refine ⟨_, rfl, ?_⟩)); go_ret; (exact ⟨by first | rfl | (simp [errW_none, errW_some] <;> rfl) | (simp [*, errW_none, errW_some] <;> rfl), by repeat (first | (with_reducible first | exact HB.out | apply b1' | apply b2' | apply b3' | refine below_set ?_ GE217.out) | exact HB.out)⟩)))
 (· replace c3 := Bool.eq_false_iff.mpr c3; subst c3; (have H1 : (some false) = some r := by rw [if_neg (show ¬ (false = true) by decide)] at H; exact H); clear H; have H := H1; clear H1; obtain rfl := Option.some.inj H; go_enter Try.func22, Try.ntmps22; go_wp2_with (first | ((with_reducible refine gate_dst (N := 1) rfl ?_); (try (refine gate_guard (by rfl) ?_; dsimp only)); refine box_event ?hg (N := 1) ?hd (cs := #[.int .i64 a0_0, .int .i64 a0_1, .slice A0_2 l0_2.length c0_2]) (t := 31) ?hr ?_; (case hd => rfl); (case hg => rfl); (case hr => first | (go_simp; done) | (go_simp; rfl)); intro gb217 hg w10 hbox hb; have n0_ := Za (below_step (by repeat (first | (with_reducible first | exact HB.out | apply b1' | apply b2' | apply b3') | exact HB.out)) hb); have n1_ := Za (hbox); have n2_ := Za ((by rw [hg]; exact (below_size (by repeat (first | (with_reducible first | exact HB.out | apply b1' | apply b2' | apply b3') | exact HB.out))) : w.heap.size ≤ gb217)); have n3_ := Za ((by rw [hg]; exact (below_size (by repeat (first | (with_reducible first | exact HB.out | apply b1' | apply b2' | apply b3') | exact HB.out))) : w.heap.size ≤ gb217)); clear HB; have HB := n0_; have BK217 := n1_; have GW217 := n2_; have GE217 := n3_; clear n0_ n1_ n2_ n3_; clear hb hbox hg; have hcz11_0 : w10.cell? ⟨gb217, 0, none⟩ = some (.int .i64 a0_0) := (Zc BK217.out 0).trans rfl; have hcz11_1 : w10.cell? ⟨gb217, 1, none⟩ = some (.int .i64 a0_1) := (Zc BK217.out 1).trans rfl; have hcz11_2 : w10.cell? ⟨gb217, 2, none⟩ = some (.slice A0_2 l0_2.length c0_2) := (Zc BK217.out 2).trans rfl; have hfz11_0 := Zf BK217.out 0; have hfz11_1 := Zf BK217.out 1; have hfz11_2 := Zf BK217.out 2) | ((with_reducible refine gate_callee (f := 49) rfl ?_); refine goesL_ (some 7) rfl rfl Try.func49 (by kernel_rfl) rfl #[.int .i64 a0_0, .int .i64 a0_1] rfl (by (try simp only [List.map_toArray, List.map_cons, List.map_nil]); first | done | rfl | (simp only [List.length_drop, List.length_take]; rfl)) ?_; (with_reducible refine (incunableref06_IsSize.calls a0_0 a0_1 false _ A2.out).mono ?_); rintro e w' ⟨rfl, ⟨nd, rfl⟩⟩; refine ⟨_, rfl, ?_⟩)); go_ret; (exact ⟨by first | rfl | (simp [errW_none, errW_some] <;> rfl) | (simp [*, errW_none, errW_some] <;> rfl), by repeat (first | (with_reducible first | exact HB.out | apply b1' | apply b2' | apply b3' | refine below_set ?_ GE217.out) | exact HB.out)⟩))
def bitmap_blank.f (a0 : Int) (a1 : Int) : Option (Int × Int × List Int × Int) := (bitmap_fits.f a0 a1).bind fun t179 => (if t179 = true then (if 0 ≤ (wrap64 (a0 * a1)) then (if (wrap64 (a0 * a1) : Int).toNat ≤ 281474976710656 then (some (a0, a1, (List.replicate (wrap64 (a0 * a1) : Int).toNat 0), 0)) else (none)) else (none)) else (some (0, 0, ([] : List Int), 4)))
set_option maxHeartbeats 8000000 in
set_option maxRecDepth 100000 in
theorem bitmap_blank.calls (a0 : Int) (a1 : Int) (r1 : Int) (r2 : Int) (r3 : List Int) (r4 : Int) (w : World) (h : bitmap_blank.f a0 a1 = some (r1, r2, r3, r4)) :
 Calls Try.prog 94 #[.int .i64 a0, .int .i64 a1] w fun e w' => ∃ v2_ : Value, e = .returned (.tuple #[.agg #[.int .i64 r1, .int .i64 r2, v2_], .int .i64 r4]) ∧ Kd.R (Kd.int .u8) 5 w' w.heap.size (fun _ => True) v2_ r3 ∧ Below w.heap.size w w' := by
 have hu31 := Try.underlying31; have HB := Za (Below.refl w.heap.size w); have H : ((bitmap_fits.f a0 a1).bind fun t179 => (if t179 = true then (if 0 ≤ (wrap64 (a0 * a1)) then (if (wrap64 (a0 * a1) : Int).toNat ≤ 281474976710656 then (some (a0, a1, (List.replicate (wrap64 (a0 * a1) : Int).toNat 0), 0)) else (none)) else (none)) else (some (0, 0, ([] : List Int), 4)))) = some (r1, r2, r3, r4) := h; clear h; replace H := Option.bind_eq_some_iff.mp H; obtain ⟨t179, A30, H⟩ := H; replace H : (if t179 = true then (if 0 ≤ (wrap64 (a0 * a1)) then (if (wrap64 (a0 * a1) : Int).toNat ≤ 281474976710656 then (some (a0, a1, (List.replicate (wrap64 (a0 * a1) : Int).toNat 0), 0)) else (none)) else (none)) else (some (0, 0, ([] : List Int), 4))) = some (r1, r2, r3, r4) := H; have A3 := Za A30; clear A30; by_cases c4 : t179 = true
 (· subst c4; (have H1 : (if 0 ≤ (wrap64 (a0 * a1)) then (if (wrap64 (a0 * a1) : Int).toNat ≤ 281474976710656 then (some (a0, a1, (List.replicate (wrap64 (a0 * a1) : Int).toNat 0), 0)) else (none)) else (none)) = some (r1, r2, r3, r4) := by rw [if_pos rfl] at H; exact H); clear H; have H := H1; clear H1; obtain ⟨ji5, hji5⟩ : ∃ j_ : Int, (wrap64 (a0 * a1)) = j_ := ⟨_, rfl⟩; (replace H : (if 0 ≤ (ji5) then (if (ji5 : Int).toNat ≤ 281474976710656 then (some (a0, a1, (List.replicate (ji5 : Int).toNat 0), 0)) else (none)) else (none)) = some (r1, r2, r3, r4) := by first | (rw [hji5] at H; exact H) | (simp only [hji5] at H ⊢; exact H)); (try rw [hji5] at A3); have hji5w : (IntKind.i64.wrap (a0 * a1)) = ji5 := (w1' _).trans hji5; by_cases c6 : 0 ≤ (ji5); (· rw [if_pos c6] at H; have c6b0 := eq_true c6; have c6b1 : decide (0 ≤ (ji5)) = true := decide_eq_true c6; clear c6; by_cases c7 : (ji5 : Int).toNat ≤ 281474976710656; (· rw [if_pos c7] at H; have c7b0 := eq_true c7; have c7b1 : decide ((ji5 : Int).toNat ≤ 281474976710656) = true := decide_eq_true c7; clear c7; obtain ⟨y180, hy180⟩ : ∃ y_ : List Int, y_ = (List.replicate (ji5 : Int).toNat 0) := ⟨_, rfl⟩; (replace H : (some (a0, a1, y180, 0)) = some (r1, r2, r3, r4) := by first | (rw [hy180]; with_reducible exact H) | (have H2_ := (Option.bind_some _ _).symm.trans H; rw [hy180]; with_reducible exact H2_) | (have H2_ := (Option.bind_some _ _).symm.trans H; with_reducible exact H2_) | with_reducible exact H | (rw [hy180]; exact H) | exact H); have Ny180 := Za hy180; clear hy180; simp only [Option.some.injEq, Prod.mk.injEq] at H; obtain ⟨rfl, rfl, rfl, rfl⟩ := H; go_enter Try.func94, Try.ntmps94; go_wp2_with (first | ((with_reducible refine gate_dst (N := 4) rfl ?_); refine box_event ?hg (N := 4) ?hd (cs := #[.int .i64 0, .int .i64 0, .slice none 0 0]) (t := 31) ?hr ?_; (case hd => rfl); (case hg => rfl); (case hr => first | (go_simp; done) | (go_simp; rfl)); intro gb178 hg w8 hbox hb; have n0_ := Za (below_step (by repeat (first | (with_reducible first | exact HB.out | apply b1' | apply b2' | apply b3') | exact HB.out)) hb); have n1_ := Za (hbox); have n2_ := Za ((by rw [hg]; exact (below_size (by repeat (first | (with_reducible first | exact HB.out | apply b1' | apply b2' | apply b3') | exact HB.out))) : w.heap.size ≤ gb178)); have n3_ := Za ((by rw [hg]; exact (below_size (by repeat (first | (with_reducible first | exact HB.out | apply b1' | apply b2' | apply b3') | exact HB.out))) : w.heap.size ≤ gb178)); clear HB; have HB := n0_; have BK178 := n1_; have GW178 := n2_; have GE178 := n3_; clear n0_ n1_ n2_ n3_; clear hb hbox hg) | ((with_reducible refine gate_callee (f := 88) rfl ?_); refine goesL_ (some 8) rfl rfl Try.func88 (by kernel_rfl) rfl #[.int .i64 a0, .int .i64 a1] rfl (by (try simp only [List.map_toArray, List.map_cons, List.map_nil]); first | done | rfl | (simp only [List.length_drop, List.length_take]; rfl)) ?_; (with_reducible refine (bitmap_fits.calls a0 a1 true _ A3.out).mono ?_); rintro e w' ⟨rfl, ⟨nd, rfl⟩⟩; refine ⟨_, rfl, ?_⟩; (try (rw [drewN_self w8]; generalize hq_ : World.drewN w8 _ = w8; have n0_ : Aside0 (w8.heap[gb178]? = some (.cells #[.int .i64 0, .int .i64 0, .slice none 0 0] 31 (0, 0))) := ⟨by rw [← hq_]; exact (by (with_reducible repeat (first | refine k1' ?_ _ | refine k2' ?_ | refine k3' ?_ _)); exact BK178.out)⟩; have n1_ : Aside0 (Below w.heap.size w w8) := ⟨by rw [← hq_]; exact (by repeat (first | (with_reducible first | exact HB.out | apply b1' | apply b2' | apply b3' | refine below_set ?_ GE178.out) | exact HB.out))⟩; clear BK178 HB hq_; have BK178 := n0_; have HB := n1_; clear n0_ n1_))) | ((with_reducible refine gate_dst (N := 16) rfl ?_); refine Kd.R_make (Kd.int .u8) _ 5 rfl (N := 16) rfl 29 _ _ rfl ji5 rfl rfl Try.underlying29 (.int .u8 0) 1 info5 rfl (by decide) (by omega) 0 (ok := fun _ => True) (okp := fun _ => True) rfl (fun _ hk => hk) trivial (of_decide_eq_true (by first | (with_reducible assumption) | assumption)) (Nat.le_trans (Nat.mul_le_mul_right _ (of_decide_eq_true (by first | (with_reducible assumption) | assumption) : ji5.toNat ≤ 281474976710656)) (by omega)) (Below.refl _ _) (Nat.le_refl _) ?_; intro v181 w9 ho10 hb hg_ hnew_; clear hg_ hnew_; (first | rw [← Ny180.out] at ho10 | (simp only [Int.reduceToNat] at ho10; rw [← Ny180.out] at ho10)); have n0_ := Za (Kd.R_lower ho10 (below_size (by repeat (first | (with_reducible first | exact HB.out | apply b1' | apply b2' | apply b3' | refine below_set ?_ GE178.out) | exact HB.out)))); have n1_ := Za (Zd (g := gb178) (o := .cells #[.int .i64 0, .int .i64 0, .slice none 0 0] 31 (0, 0)) (by (with_reducible repeat (first | refine k1' ?_ _ | refine k2' ?_ | refine k3' ?_ _)); exact BK178.out) hb); have n2_ := Za (below_step (by repeat (first | (with_reducible first | exact HB.out | apply b1' | apply b2' | apply b3' | refine below_set ?_ GE178.out) | exact HB.out)) hb); clear BK178; clear HB; have HO182 := n0_; have BK178 := n1_; have HB := n2_; clear n0_ n1_ n2_; clear hb ho10; obtain ⟨Ao11, co11, eo11⟩ := Kd.R_slice HO182.out; subst eo11; have hcz12_0 : w9.cell? ⟨gb178, 0, none⟩ = some (.int .i64 0) := (Zc BK178.out 0).trans rfl; have hcz12_1 : w9.cell? ⟨gb178, 1, none⟩ = some (.int .i64 0) := (Zc BK178.out 1).trans rfl; have hcz12_2 : w9.cell? ⟨gb178, 2, none⟩ = some (.slice none 0 0) := (Zc BK178.out 2).trans rfl; have hfz12_0 := Zf BK178.out 0; have hfz12_1 := Zf BK178.out 1; have hfz12_2 := Zf BK178.out 2)); refine bodyPost_ret (results_ct rfl _ _ gb178 31 #[.int .i64 a0, .int .i64 a1, .slice Ao11 y180.length co11] (0, 0) _ rfl (by (with_reducible repeat (first | refine k1' ?_ _ | refine k2' ?_ | refine k3' ?_ _)); refine blk_put (cs := #[.int .i64 a0, .int .i64 a1, .slice none 0 0]) ?_ 2 _ rfl; (with_reducible repeat (first | refine k1' ?_ _ | refine k2' ?_ | refine k3' ?_ _)); refine blk_put (cs := #[.int .i64 a0, .int .i64 0, .slice none 0 0]) ?_ 1 _ rfl; (with_reducible repeat (first | refine k1' ?_ _ | refine k2' ?_ | refine k3' ?_ _)); refine blk_put (cs := #[.int .i64 0, .int .i64 0, .slice none 0 0]) ?_ 0 _ rfl; (with_reducible repeat (first | refine k1' ?_ _ | refine k2' ?_ | refine k3' ?_ _)); exact BK178.out) Try.underlying31 rfl (by kernel_rfl)) rfl ?_; (exact ⟨_, by first | rfl | (simp [errW_none, errW_some] <;> rfl) | (simp only [← hji5]; first | rfl | (simp [errW_none, errW_some] <;> rfl)) | (simp [*, errW_none, errW_some] <;> rfl), by (with_reducible repeat (first | apply Kd.R_alloc | apply Kd.R_drewN | apply Kd.R_drew)); exact Kd.R_mono (Kd.R_far (p := ⟨gb178, 2, none⟩) (Kd.R_far (p := ⟨gb178, 1, none⟩) (Kd.R_far (p := ⟨gb178, 0, none⟩) (Kd.R_types HO182.out BK178.out (by decide)) (fun _ hk => hk.2) (.int .i64 a0)) (fun _ hk => hk.2) (.int .i64 a1)) (fun _ hk => hk.2) (.slice Ao11 y180.length co11)) (fun _ hk => trivial), by repeat (first | (with_reducible first | exact HB.out | apply b1' | apply b2' | apply b3' | refine below_set ?_ GE178.out) | exact HB.out)⟩)); (· rw [if_neg c7] at H; exact absurd H (by simp))); (· rw [if_neg c6] at H; exact absurd H (by simp)))
 (· replace c4 := Bool.eq_false_iff.mpr c4; subst c4; (have H1 : (some (0, 0, ([] : List Int), 4)) = some (r1, r2, r3, r4) := by rw [if_neg (show ¬ (false = true) by decide)] at H; exact H); clear H; have H := H1; clear H1; simp only [Option.some.injEq, Prod.mk.injEq] at H; obtain ⟨rfl, rfl, rfl, rfl⟩ := H; go_enter Try.func94, Try.ntmps94; go_wp2_with (first | ((with_reducible refine gate_dst (N := 4) rfl ?_); refine box_event ?hg (N := 4) ?hd (cs := #[.int .i64 0, .int .i64 0, .slice none 0 0]) (t := 31) ?hr ?_; (case hd => rfl); (case hg => rfl); (case hr => first | (go_simp; done) | (go_simp; rfl)); intro gb178 hg w13 hbox hb; have n0_ := Za (below_step (by repeat (first | (with_reducible first | exact HB.out | apply b1' | apply b2' | apply b3') | exact HB.out)) hb); have n1_ := Za (hbox); have n2_ := Za ((by rw [hg]; exact (below_size (by repeat (first | (with_reducible first | exact HB.out | apply b1' | apply b2' | apply b3') | exact HB.out))) : w.heap.size ≤ gb178)); have n3_ := Za ((by rw [hg]; exact (below_size (by repeat (first | (with_reducible first | exact HB.out | apply b1' | apply b2' | apply b3') | exact HB.out))) : w.heap.size ≤ gb178)); clear HB; have HB := n0_; have BK178 := n1_; have GW178 := n2_; have GE178 := n3_; clear n0_ n1_ n2_ n3_; clear hb hbox hg) | ((with_reducible refine gate_callee (f := 88) rfl ?_); refine goesL_ (some 8) rfl rfl Try.func88 (by kernel_rfl) rfl #[.int .i64 a0, .int .i64 a1] rfl (by (try simp only [List.map_toArray, List.map_cons, List.map_nil]); first | done | rfl | (simp only [List.length_drop, List.length_take]; rfl)) ?_; (with_reducible refine (bitmap_fits.calls a0 a1 false _ A3.out).mono ?_); rintro e w' ⟨rfl, ⟨nd, rfl⟩⟩; refine ⟨_, rfl, ?_⟩; (try (rw [drewN_self w13]; generalize hq_ : World.drewN w13 _ = w13; have n0_ : Aside0 (w13.heap[gb178]? = some (.cells #[.int .i64 0, .int .i64 0, .slice none 0 0] 31 (0, 0))) := ⟨by rw [← hq_]; exact (by (with_reducible repeat (first | refine k1' ?_ _ | refine k2' ?_ | refine k3' ?_ _)); exact BK178.out)⟩; have n1_ : Aside0 (Below w.heap.size w w13) := ⟨by rw [← hq_]; exact (by repeat (first | (with_reducible first | exact HB.out | apply b1' | apply b2' | apply b3' | refine below_set ?_ GE178.out) | exact HB.out))⟩; clear BK178 HB hq_; have BK178 := n0_; have HB := n1_; clear n0_ n1_)); have hcz14_0 : w13.cell? ⟨gb178, 0, none⟩ = some (.int .i64 0) := (Zc BK178.out 0).trans rfl; have hcz14_1 : w13.cell? ⟨gb178, 1, none⟩ = some (.int .i64 0) := (Zc BK178.out 1).trans rfl; have hcz14_2 : w13.cell? ⟨gb178, 2, none⟩ = some (.slice none 0 0) := (Zc BK178.out 2).trans rfl; have hfz14_0 := Zf BK178.out 0; have hfz14_1 := Zf BK178.out 1; have hfz14_2 := Zf BK178.out 2)); refine bodyPost_ret (results_ct rfl _ _ gb178 31 #[.int .i64 0, .int .i64 0, .slice none 0 0] (0, 0) _ rfl (by (with_reducible repeat (first | refine k1' ?_ _ | refine k2' ?_ | refine k3' ?_ _)); refine blk_put (cs := #[.int .i64 0, .int .i64 0, .slice none 0 0]) ?_ 2 _ rfl; (with_reducible repeat (first | refine k1' ?_ _ | refine k2' ?_ | refine k3' ?_ _)); refine blk_put (cs := #[.int .i64 0, .int .i64 0, .slice none 0 0]) ?_ 1 _ rfl; (with_reducible repeat (first | refine k1' ?_ _ | refine k2' ?_ | refine k3' ?_ _)); refine blk_put (cs := #[.int .i64 0, .int .i64 0, .slice none 0 0]) ?_ 0 _ rfl; (with_reducible repeat (first | refine k1' ?_ _ | refine k2' ?_ | refine k3' ?_ _)); exact BK178.out) Try.underlying31 rfl (by kernel_rfl)) rfl ?_; (exact ⟨_, by first | rfl | (simp [errW_none, errW_some] <;> rfl) | (simp [*, errW_none, errW_some] <;> rfl), by first | exact Kd.R_nil _ _ _ _ _ | exact Kd.N_nil _ _ _ _ _ | exact Kd.V_nil _ _ _ _ _ | exact Kd.Q_nil _ _ _ _ _ | exact Kd.S_nil _ _ _ _ _, by repeat (first | (with_reducible first | exact HB.out | apply b1' | apply b2' | apply b3' | refine below_set ?_ GE178.out) | exact HB.out)⟩))
mutual
def bitmap_New.j0 : Nat → Int → Int → Int → Bool → Option (Int × Int × List Int × Int)
 | 0, _, _, _, _ => none
 | k + 1, x0, x1, x2, x24 => if x24 = true then (some (0, 0, ([] : List Int), 2)) else ((bitmap_blank.f x0 x1).bind fun bt184 => (bitmap_New.l0 k x2 bt184.2.2.2 (bt184.2.2.1.length : Int) 0 bt184.1 bt184.2.1 bt184.2.2.1))
def bitmap_New.l0 : Nat → Int → Int → Int → Int → Int → Int → List Int → Option (Int × Int × List Int × Int)
 | 0, _, _, _, _, _, _, _ => none
 | k + 1, x2, x9, x34, x35, x191000, x191001, x191002 => if x35 < x34 then (if 0 ≤ x35 then (if x35 < (x191002.length : Int) then (bitmap_New.l0 k x2 x9 x34 (wrap64 (x35 + 1)) x191000 x191001 (x191002.set (x35 : Int).toNat ((x2) % 256))) else (none)) else (none)) else (some (x191000, x191001, x191002, x9))
end
def bitmap_New.f (k : Nat) (a0 : Int) (a1 : Int) (a2 : Int) : Option (Int × Int × List Int × Int) := if a0 < 0 then (bitmap_New.j0 k a0 a1 a2 true) else (if a1 < 0 then (bitmap_New.j0 k a0 a1 a2 true) else (if a2 = 0 then (bitmap_New.j0 k a0 a1 a2 false) else (bitmap_New.j0 k a0 a1 a2 (a2 != 1))))
theorem bitmap_New.mono_l : ∀ k, (∀ y0 y1 y2 y3, LeO (bitmap_New.j0 k y0 y1 y2 y3) (bitmap_New.j0 (k + 1) y0 y1 y2 y3)) ∧ (∀ y0 y1 y2 y3 y4 y5 y6, LeO (bitmap_New.l0 k y0 y1 y2 y3 y4 y5 y6) (bitmap_New.l0 (k + 1) y0 y1 y2 y3 y4 y5 y6))
 | 0 => ⟨fun _ _ _ _ r h => by simp [bitmap_New.j0] at h, fun _ _ _ _ _ _ _ r h => by simp [bitmap_New.l0] at h⟩
 | k + 1 => by
   obtain ⟨ih0, ih1⟩ := bitmap_New.mono_l k
   refine ⟨?_, ?_⟩
   · intro y0 y1 y2 y3
     unfold bitmap_New.j0
     repeat' first
     | (with_reducible exact ih0 _ _ _ _)
     | (with_reducible exact ih1 _ _ _ _ _ _ _)
     | (with_reducible exact LeO.refl _)
     | (with_reducible exact LeO.none _)
     | (with_reducible refine LeO.ite ?_ ?_)
     | (with_reducible refine LeO.bind ?_ (fun _ => ?_))
     | exact ih0 _ _ _ _
     | exact ih1 _ _ _ _ _ _ _
     | exact LeO.none _
     | refine LeO.ite ?_ ?_
     | refine LeO.bind ?_ (fun _ => ?_)
   · intro y0 y1 y2 y3 y4 y5 y6
     unfold bitmap_New.l0
     repeat' first
     | (with_reducible exact ih0 _ _ _ _)
     | (with_reducible exact ih1 _ _ _ _ _ _ _)
     | (with_reducible exact LeO.refl _)
     | (with_reducible exact LeO.none _)
     | (with_reducible refine LeO.ite ?_ ?_)
     | (with_reducible refine LeO.bind ?_ (fun _ => ?_))
     | exact ih0 _ _ _ _
     | exact ih1 _ _ _ _ _ _ _
     | exact LeO.none _
     | refine LeO.ite ?_ ?_
     | refine LeO.bind ?_ (fun _ => ?_)
theorem bitmap_New.mono : ∀ a0 a1 a2 k, LeO (bitmap_New.f k a0 a1 a2) (bitmap_New.f (k + 1) a0 a1 a2) := by
 intro a0 a1 a2 k; obtain ⟨ih0, ih1⟩ := bitmap_New.mono_l k; unfold bitmap_New.f
 repeat' first
  | (with_reducible exact ih0 _ _ _ _)
  | (with_reducible exact ih1 _ _ _ _ _ _ _)
  | (with_reducible exact LeO.refl _)
  | (with_reducible exact LeO.none _)
  | (with_reducible refine LeO.ite ?_ ?_)
  | (with_reducible refine LeO.bind ?_ (fun _ => ?_))
  | exact ih0 _ _ _ _
  | exact ih1 _ _ _ _ _ _ _
  | exact LeO.none _
  | refine LeO.ite ?_ ?_
  | refine LeO.bind ?_ (fun _ => ?_)
set_option maxHeartbeats 8000000 in
set_option maxRecDepth 100000 in
theorem bitmap_New.calls (k : Nat) (a0 : Int) (a1 : Int) (a2 : Int) (r1 : Int) (r2 : Int) (r3 : List Int) (r4 : Int) (w : World) (h : bitmap_New.f k a0 a1 a2 = some (r1, r2, r3, r4)) :
 Calls Try.prog 80 #[.int .i64 a0, .int .i64 a1, .int .i64 a2] w fun e w' => ∃ v2_ : Value, e = .returned (.tuple #[.agg #[.int .i64 r1, .int .i64 r2, v2_], .int .i64 r4]) ∧ Kd.R (Kd.int .u8) 5 w' w.heap.size (fun _ => True) v2_ r3 ∧ Below w.heap.size w w' := by
 have hu31 := Try.underlying31; have HB := Za (Below.refl w.heap.size w); have H : (if a0 < 0 then (bitmap_New.j0 k a0 a1 a2 true) else (if a1 < 0 then (bitmap_New.j0 k a0 a1 a2 true) else (if a2 = 0 then (bitmap_New.j0 k a0 a1 a2 false) else (bitmap_New.j0 k a0 a1 a2 (a2 != 1))))) = some (r1, r2, r3, r4) := h; clear h; have HC4 := Za H; clear H; go_enter Try.func80, Try.ntmps80; go_upto_region 1 with (first | ((with_reducible refine gate_dst (N := 6) rfl ?_); refine box_event ?hg (N := 6) ?hd (cs := #[.int .i64 0, .int .i64 0, .slice none 0 0]) (t := 31) ?hr ?_; (case hd => rfl); (case hg => rfl); (case hr => first | (go_simp; done) | (go_simp; rfl)); intro gb183 hg w5 hbox hb; have n0_ := Za (below_step (by repeat (first | (with_reducible first | exact HB.out | apply b1' | apply b2' | apply b3') | exact HB.out)) hb); have n1_ := Za (hbox); have n2_ := Za ((by rw [hg]; exact (below_size (by repeat (first | (with_reducible first | exact HB.out | apply b1' | apply b2' | apply b3') | exact HB.out))) : w.heap.size ≤ gb183)); have n3_ := Za ((by rw [hg]; exact (below_size (by repeat (first | (with_reducible first | exact HB.out | apply b1' | apply b2' | apply b3') | exact HB.out))) : w.heap.size ≤ gb183)); clear HB; have HB := n0_; have BK183 := n1_; have GW183 := n2_; have GE183 := n3_; clear n0_ n1_ n2_ n3_; clear hb hbox hg)); (try simp only [Act.put, List.setIfInBounds_toArray, List.set_cons_zero, List.set_cons_succ])
 go_cut [24] (fun v24 wc => ∃ (kq : Nat) (x24_3 : Bool), v24 = .bool x24_3 ∧ Aside0 (bitmap_New.j0 kq a0 a1 a2 x24_3 = some (r1, r2, r3, r4)) ∧ Aside0 (kq ≤ k) ∧ Aside0 (wc.heap[gb183]? = some (.cells #[.int .i64 0, .int .i64 0, (.slice none 0 0)] 31 (0, 0))) ∧ Aside0 (Below w.heap.size w wc))
 (case first => have H := HC4.out; clear HC4; by_cases c6 : a0 < 0; (· rw [if_pos c6] at H; have c6b0 : decide (a0 < 0) = true := decide_eq_true c6; clear c6; (first | rw [c6b0] | (simp only [w1', w2']; rw [c6b0]) | skip); have H' := Za H; clear H; go_wp2; go_meet; (case rel => exact ⟨_, (true), (by first | rfl | (simp; done) | (simp [*]; done)), H', ⟨by first | omega | exact Nat.le_refl _⟩, ⟨by (with_reducible repeat (first | refine k1' ?_ _ | refine k2' ?_ | refine k3' ?_ _)); exact BK183.out⟩, ⟨by repeat (first | (with_reducible first | exact HB.out | apply b1' | apply b2' | apply b3' | refine below_set ?_ GE183.out) | exact HB.out)⟩⟩)); (· rw [if_neg c6] at H; have c6b0 : decide (a0 < 0) = false := decide_eq_false c6; clear c6; (first | rw [c6b0] | (simp only [w1', w2']; rw [c6b0]) | skip); by_cases c7 : a1 < 0; (· rw [if_pos c7] at H; have c7b0 : decide (a1 < 0) = true := decide_eq_true c7; clear c7; have H' := Za H; clear H; go_wp2; go_meet; (case rel => exact ⟨_, (true), (by first | rfl | (simp; done) | (simp [*]; done)), H', ⟨by first | omega | exact Nat.le_refl _⟩, ⟨by (with_reducible repeat (first | refine k1' ?_ _ | refine k2' ?_ | refine k3' ?_ _)); exact BK183.out⟩, ⟨by repeat (first | (with_reducible first | exact HB.out | apply b1' | apply b2' | apply b3' | refine below_set ?_ GE183.out) | exact HB.out)⟩⟩)); (· rw [if_neg c7] at H; have c7b0 : decide (a1 < 0) = false := decide_eq_false c7; clear c7; by_cases c8 : a2 = 0; (· rw [if_pos c8] at H; have c8b0 : (a2 == 0) = true := beq_iff_eq.mpr c8; have c8b1 : (a2 != 0) = false := bne_eq_false_iff_eq.mpr c8; clear c8; have H' := Za H; clear H; go_wp2; go_meet; (case rel => exact ⟨_, (false), (by first | rfl | (simp; done) | (simp [*]; done)), H', ⟨by first | omega | exact Nat.le_refl _⟩, ⟨by (with_reducible repeat (first | refine k1' ?_ _ | refine k2' ?_ | refine k3' ?_ _)); exact BK183.out⟩, ⟨by repeat (first | (with_reducible first | exact HB.out | apply b1' | apply b2' | apply b3' | refine below_set ?_ GE183.out) | exact HB.out)⟩⟩)); (· rw [if_neg c8] at H; have c8b0 : (a2 == 0) = false := beq_eq_false_iff_ne.mpr c8; have c8b1 : (a2 != 0) = true := bne_iff_ne.mpr c8; have H' := Za H; clear H; go_wp2; go_meet; (case rel => exact ⟨_, ((a2 != 1)), (by first | rfl | (simp; done) | (simp [*]; done)), H', ⟨by first | omega | exact Nat.le_refl _⟩, ⟨by (with_reducible repeat (first | refine k1' ?_ _ | refine k2' ?_ | refine k3' ?_ _)); exact BK183.out⟩, ⟨by repeat (first | (with_reducible first | exact HB.out | apply b1' | apply b2' | apply b3' | refine below_set ?_ GE183.out) | exact HB.out)⟩⟩)))))
 case rest =>
  clear HC4; (try clear p2); (try clear c6); (try clear c6b0); (try clear c7); (try clear c7b0); (try clear c8); (try clear c8b0); (try clear c8b1); obtain ⟨kq, x24_3, rfl, HA, HJ3, BK183, HB⟩ := hcut
  cases kq with
  | zero => exact absurd HA.out (by simp [bitmap_New.j0])
  | succ kj3 =>
   have H := HA.out; clear HA; simp only [bitmap_New.j0] at H; by_cases c9 : x24_3 = true
   (· subst c9; (have H1 : (some (0, 0, ([] : List Int), 2)) = some (r1, r2, r3, r4) := by rw [if_pos rfl] at H; exact H); clear H; have H := H1; clear H1; simp only [Option.some.injEq, Prod.mk.injEq] at H; obtain ⟨rfl, rfl, rfl, rfl⟩ := H; have hcz10_0 : wc.cell? ⟨gb183, 0, none⟩ = some (.int .i64 0) := (Zc BK183.out 0).trans rfl; have hcz10_1 : wc.cell? ⟨gb183, 1, none⟩ = some (.int .i64 0) := (Zc BK183.out 1).trans rfl; have hcz10_2 : wc.cell? ⟨gb183, 2, none⟩ = some (.slice none 0 0) := (Zc BK183.out 2).trans rfl; have hfz10_0 := Zf BK183.out 0; have hfz10_1 := Zf BK183.out 1; have hfz10_2 := Zf BK183.out 2; go_wp2; refine bodyPost_ret (results_ct rfl _ _ gb183 31 #[.int .i64 0, .int .i64 0, .slice none 0 0] (0, 0) _ rfl (by (with_reducible repeat (first | refine k1' ?_ _ | refine k2' ?_ | refine k3' ?_ _)); refine blk_put (cs := #[.int .i64 0, .int .i64 0, .slice none 0 0]) ?_ 2 _ rfl; (with_reducible repeat (first | refine k1' ?_ _ | refine k2' ?_ | refine k3' ?_ _)); refine blk_put (cs := #[.int .i64 0, .int .i64 0, .slice none 0 0]) ?_ 1 _ rfl; (with_reducible repeat (first | refine k1' ?_ _ | refine k2' ?_ | refine k3' ?_ _)); refine blk_put (cs := #[.int .i64 0, .int .i64 0, .slice none 0 0]) ?_ 0 _ rfl; (with_reducible repeat (first | refine k1' ?_ _ | refine k2' ?_ | refine k3' ?_ _)); exact BK183.out) Try.underlying31 rfl (by kernel_rfl)) rfl ?_; (exact ⟨_, by first | rfl | (simp [errW_none, errW_some] <;> rfl) | (simp [*, errW_none, errW_some] <;> rfl), by first | exact Kd.R_nil _ _ _ _ _ | exact Kd.N_nil _ _ _ _ _ | exact Kd.V_nil _ _ _ _ _ | exact Kd.Q_nil _ _ _ _ _ | exact Kd.S_nil _ _ _ _ _, by repeat (first | (with_reducible first | exact HB.out | apply b1' | apply b2' | apply b3' | refine below_set ?_ GE183.out) | exact HB.out)⟩))
   · replace c9 := Bool.eq_false_iff.mpr c9
     subst c9; (have H1 : ((bitmap_blank.f a0 a1).bind fun bt184 => (bitmap_New.l0 kj3 a2 bt184.2.2.2 (bt184.2.2.1.length : Int) 0 bt184.1 bt184.2.1 bt184.2.2.1)) = some (r1, r2, r3, r4) := by rw [if_neg (show ¬ (false = true) by decide)] at H; exact H); clear H; have H := H1; clear H1; replace H := Option.bind_eq_some_iff.mp H; obtain ⟨⟨t184, t185, t186, t189⟩, A110, H⟩ := H; replace H : (bitmap_New.l0 kj3 a2 t189 (t186.length : Int) 0 t184 t185 t186) = some (r1, r2, r3, r4) := H; have A11 := Za A110; clear A110; have H' := Za H; clear H
     go_wp2_with (first | ((with_reducible refine gate_callee (f := 94) rfl ?_); refine goesL_ (some 29) rfl rfl Try.func94 (by kernel_rfl) rfl #[.int .i64 a0, .int .i64 a1] rfl (by (try simp only [List.map_toArray, List.map_cons, List.map_nil]); first | done | rfl | (simp only [List.length_drop, List.length_take]; rfl)) ?_; (with_reducible refine (bitmap_blank.calls a0 a1 t184 t185 t186 t189 _ A11.out).mono ?_); rintro e w12 ⟨v187, rfl, ho0, hb⟩; refine ⟨_, rfl, ?_⟩; have n0_ := Za (Kd.R_lower ho0 (below_size (by repeat (first | (with_reducible first | exact HB.out | apply b1' | apply b2' | apply b3' | refine below_set ?_ GE183.out) | exact HB.out)))); have n1_ := Za (Zd (g := gb183) (o := .cells #[.int .i64 0, .int .i64 0, .slice none 0 0] 31 (0, 0)) (by (with_reducible repeat (first | refine k1' ?_ _ | refine k2' ?_ | refine k3' ?_ _)); exact BK183.out) hb); have n2_ := Za (below_step (by repeat (first | (with_reducible first | exact HB.out | apply b1' | apply b2' | apply b3' | refine below_set ?_ GE183.out) | exact HB.out)) hb); clear BK183; clear HB; have HO188 := n0_; have BK183 := n1_; have HB := n2_; clear n0_ n1_ n2_; (try clear hb); (try clear hb2); (try clear hk); (try clear hi); (try clear ho0)) | ((with_reducible refine gate_dst (N := 8) rfl ?_); refine box_event ?hg (N := 8) ?hd (cs := #[.int .i64 0, .int .i64 0, .slice none 0 0]) (t := 31) ?hr ?_; (case hd => rfl); (case hg => rfl); (case hr => first | (go_simp; done) | (go_simp; rfl)); intro gb190 hg w13 hbox hb; have n0_ := Za (Kd.R_below (by (with_reducible repeat (first | apply Kd.R_alloc | apply Kd.R_drewN | apply Kd.R_drew)); exact HO188.out) hb); have n1_ := Za (Zd (g := gb183) (o := .cells #[.int .i64 0, .int .i64 0, .slice none 0 0] 31 (0, 0)) (by (with_reducible repeat (first | refine k1' ?_ _ | refine k2' ?_ | refine k3' ?_ _)); exact BK183.out) hb); have n2_ := Za (below_step (by repeat (first | (with_reducible first | exact HB.out | apply b1' | apply b2' | apply b3' | refine below_set ?_ GE183.out) | exact HB.out)) hb); have n3_ := Za (hbox); have n4_ := Za ((by rw [hg]; exact (below_size (by repeat (first | (with_reducible first | exact HB.out | apply b1' | apply b2' | apply b3' | refine below_set ?_ GE183.out) | exact HB.out))) : w.heap.size ≤ gb190)); have n5_ := Za ((by rw [hg]; exact (below_size (by repeat (first | (with_reducible first | exact HB.out | apply b1' | apply b2' | apply b3' | refine below_set ?_ GE183.out) | exact HB.out))) : w.heap.size ≤ gb190)); have n6_ := Za ((by rw [hg]; exact Nat.ne_of_lt (blk_lt (g := gb183) (o := .cells #[.int .i64 0, .int .i64 0, .slice none 0 0] 31 (0, 0)) (by (with_reducible repeat (first | refine k1' ?_ _ | refine k2' ?_ | refine k3' ?_ _)); exact BK183.out)) : gb183 ≠ gb190)); have n7_ := Za ((by rw [hg]; exact Nat.ne_of_gt (blk_lt (g := gb183) (o := .cells #[.int .i64 0, .int .i64 0, .slice none 0 0] 31 (0, 0)) (by (with_reducible repeat (first | refine k1' ?_ _ | refine k2' ?_ | refine k3' ?_ _)); exact BK183.out)) : gb190 ≠ gb183)); clear HO188; clear BK183; clear HB; have HO188 := n0_; have BK183 := n1_; have HB := n2_; have BK190 := n3_; have GW190 := n4_; have GE190 := n5_; have NB183_190 := n6_; have NB190_183 := n7_; clear n0_ n1_ n2_ n3_ n4_ n5_ n6_ n7_; clear hb hbox hg; have hnb14 := NB190_183.out; have hnc14 := NB183_190.out; have hcz15_0 : w13.cell? ⟨gb190, 0, none⟩ = some (.int .i64 0) := (Zc BK190.out 0).trans rfl; have hcz15_1 : w13.cell? ⟨gb190, 1, none⟩ = some (.int .i64 0) := (Zc BK190.out 1).trans rfl; have hcz15_2 : w13.cell? ⟨gb190, 2, none⟩ = some (.slice none 0 0) := (Zc BK190.out 2).trans rfl; have hfz15_0 := Zf BK190.out 0; have hfz15_1 := Zf BK190.out 1; have hfz15_2 := Zf BK190.out 2; obtain ⟨Ao16, co16, eo16⟩ := Kd.R_slice HO188.out; subst eo16))
     go_loopg [35] kj3 (fun kq v35 w' => ∃ (x35_2 : Int) (x191002_2 : List Int) (u191002 : Value), v35 = .int .i64 x35_2 ∧ Aside0 (bitmap_New.l0 kq a2 t189 (t186.length : Int) x35_2 t184 t185 x191002_2 = some (r1, r2, r3, r4)) ∧ Aside0 (kq ≤ kj3) ∧ Aside0 (Kd.R (Kd.int .u8) 5 w' w.heap.size (fun _ => True) u191002 x191002_2) ∧ Aside0 (w'.heap[gb183]? = some (.cells #[.int .i64 0, .int .i64 0, (.slice none 0 0)] 31 (0, 0))) ∧ Aside0 (w'.heap[gb190]? = some (.cells #[.int .i64 t184, .int .i64 t185, u191002] 31 (0, 0))) ∧ Aside0 (Below w.heap.size w w'))
     (case atStart => exact ⟨(0), (t186), (.slice Ao16 t186.length co16), (by first | rfl | (simp; done) | (simp [*]; done)), H', ⟨Nat.le_refl _⟩, ⟨by (with_reducible repeat (first | apply Kd.R_alloc | apply Kd.R_drewN | apply Kd.R_drew)); exact Kd.R_mono (Kd.R_far (p := ⟨gb190, 2, none⟩) (Kd.R_far (p := ⟨gb190, 1, none⟩) (Kd.R_far (p := ⟨gb190, 0, none⟩) (Kd.R_types HO188.out BK190.out (by decide)) (fun _ hk => hk.2) (.int .i64 t184)) (fun _ hk => hk.2) (.int .i64 t185)) (fun _ hk => hk.2) (.slice Ao16 t186.length co16)) (fun _ hk => trivial)⟩, ⟨by (with_reducible repeat (first | refine k1' ?_ _ | refine k2' ?_ | refine k3' ?_ _)); refine blk_far ?_ NB183_190.out _; (with_reducible repeat (first | refine k1' ?_ _ | refine k2' ?_ | refine k3' ?_ _)); refine blk_far ?_ NB183_190.out _; (with_reducible repeat (first | refine k1' ?_ _ | refine k2' ?_ | refine k3' ?_ _)); refine blk_far ?_ NB183_190.out _; (with_reducible repeat (first | refine k1' ?_ _ | refine k2' ?_ | refine k3' ?_ _)); exact BK183.out⟩, ⟨by (with_reducible repeat (first | refine k1' ?_ _ | refine k2' ?_ | refine k3' ?_ _)); refine blk_put (cs := #[.int .i64 t184, .int .i64 t185, .slice none 0 0]) ?_ 2 _ rfl; (with_reducible repeat (first | refine k1' ?_ _ | refine k2' ?_ | refine k3' ?_ _)); refine blk_put (cs := #[.int .i64 t184, .int .i64 0, .slice none 0 0]) ?_ 1 _ rfl; (with_reducible repeat (first | refine k1' ?_ _ | refine k2' ?_ | refine k3' ?_ _)); refine blk_put (cs := #[.int .i64 0, .int .i64 0, .slice none 0 0]) ?_ 0 _ rfl; (with_reducible repeat (first | refine k1' ?_ _ | refine k2' ?_ | refine k3' ?_ _)); exact BK190.out⟩, ⟨by repeat (first | (with_reducible first | exact HB.out | apply b1' | apply b2' | apply b3' | refine below_set ?_ GE183.out | refine below_set ?_ GE190.out) | exact HB.out)⟩⟩)
     case round =>
      clear H'; (try clear c1); (try clear p2); (try clear c6); (try clear c6b0); (try clear c7); (try clear c7b0); (try clear c8); (try clear c8b0); (try clear c8b1); (try clear c9); (try clear c14); (try clear hcz10_0); (try clear hcz10_1); (try clear hcz10_2); (try clear hcz15_0); (try clear hcz15_1); (try clear hcz15_2); (try clear hfz10_0); (try clear hfz10_1); (try clear hfz10_2); (try clear hfz15_0); (try clear hfz15_1); (try clear hfz15_2); (try clear p2); obtain ⟨x35_2, x191002_2, u191002, rfl, HA, HK2, HO_191002, BK183, BK190, HB⟩ := hrel
      cases gk with
      | zero => exact absurd HA.out (by simp [bitmap_New.l0])
      | succ k2 =>
       have H := HA.out; clear HA; simp only [bitmap_New.l0] at H; by_cases c17 : x35_2 < (t186.length : Int)
       (· rw [if_pos c17] at H; have c17b0 : decide (x35_2 < (t186.length : Int)) = true := decide_eq_true c17; clear c17; by_cases c18 : 0 ≤ x35_2; (· rw [if_pos c18] at H; have c18b0 : decide (0 ≤ x35_2) = true := decide_eq_true c18; clear c18; by_cases c19 : x35_2 < (x191002_2.length : Int); (· rw [if_pos c19] at H; have c19b0 : decide (x35_2 < (x191002_2.length : Int)) = true := decide_eq_true c19; clear c19; obtain ⟨y191, hy191⟩ : ∃ y_ : List Int, y_ = (x191002_2.set (x35_2 : Int).toNat ((a2) % 256)) := ⟨_, rfl⟩; (replace H : (bitmap_New.l0 k2 a2 t189 (t186.length : Int) (wrap64 (x35_2 + 1)) t184 t185 y191) = some (r1, r2, r3, r4) := by first | (rw [hy191]; with_reducible exact H) | (have H2_ := (Option.bind_some _ _).symm.trans H; rw [hy191]; with_reducible exact H2_) | (have H2_ := (Option.bind_some _ _).symm.trans H; with_reducible exact H2_) | with_reducible exact H | (rw [hy191]; exact H) | exact H); have Ny191 := Za hy191; clear hy191; have H' := Za H; clear H; have hnb21 := NB190_183.out; have hnc21 := NB183_190.out; have hcz22_0 : wr.cell? ⟨gb190, 0, none⟩ = some (.int .i64 t184) := (Zc BK190.out 0).trans rfl; have hcz22_1 : wr.cell? ⟨gb190, 1, none⟩ = some (.int .i64 t185) := (Zc BK190.out 1).trans rfl; have hcz22_2 : wr.cell? ⟨gb190, 2, none⟩ = some (u191002) := (Zc BK190.out 2).trans rfl; have hfz22_0 := Zf BK190.out 0; have hfz22_1 := Zf BK190.out 1; have hfz22_2 := Zf BK190.out 2; have p20 : 0 ≤ (x35_2 : Int) := of_decide_eq_true (by first | (with_reducible assumption) | assumption); have q20 : (x35_2 : Int) < ((x191002_2.length : Int) : Int) := of_decide_eq_true (by first | (with_reducible assumption) | assumption); obtain ⟨go20, co20, eo20, gb20, gl20, cl20, HG20⟩ := Kd.R_form HO_191002.out (by omega); (first | cases eo20 | (injection eo20 with ea_ en_ ec_; (first | subst ea_ | (injection ea_ with ea_; subst ea_)); subst ec_; clear en_)); have GB20 := Za gb20; have GG20 := Za HG20; clear gb20 gl20 HG20; obtain ⟨hx20_0, hf20_0⟩ := Kd.R_celln 0 HO_191002.out (x35_2 : Int) p20 q20; replace p20 := eq_true p20; replace q20 := eq_true q20; have HP23 := Kd.R_putg HO_191002.out (x35_2 : Int) ((a2) % 256); go_wp2_with (first | ((with_reducible refine gate_store (t := 5) (p := 43) rfl ?_); refine store_event (t := 5) (p := 43) (v := ?vo_w24) (w1 := (wr.setCell ⟨go20, (x35_2 : Int).toNat, none⟩ (.int .u8 ((a2) % 256)))) ?hg ?ho ?hn ?hr ?_; (case ho => rfl); (case hg => rfl); (case hn => rfl); (case hr => first | (go_simp; done) | (go_simp; rfl)); intro w24 hw; have hg : wr.grownBy w24 (some go20) := (by rw [hw]; exact HP23.2); have hp_ : Kd.R (Kd.int .u8) 5 w24 w.heap.size (fun _ => True) (.slice (some ⟨go20, 0, none⟩) x191002_2.length co20) y191 := (by rw [hw, Ny191.out]; exact HP23.1); clear HP23; have n0_ := Za (hp_); have n1_ := Za (blk_grown (g := gb183) (o := .cells #[.int .i64 0, .int .i64 0, .slice none 0 0] 31 (0, 0)) (by (with_reducible repeat (first | refine k1' ?_ _ | refine k2' ?_ | refine k3' ?_ _)); exact BK183.out) hg (Kd.R_ne HO_191002.out BK183.out (by decide))); have n2_ := Za (blk_grown (g := gb190) (o := .cells #[.int .i64 t184, .int .i64 t185, .slice (some ⟨go20, 0, none⟩) x191002_2.length co20] 31 (0, 0)) (by (with_reducible repeat (first | refine k1' ?_ _ | refine k2' ?_ | refine k3' ?_ _)); exact BK190.out) hg (Kd.R_ne HO_191002.out BK190.out (by decide))); have n3_ := Za ((by rw [hw]; exact below_set (HB.out) GB20.out : Below w.heap.size w w24)); clear HO_191002; clear BK183; clear BK190; clear HB; have HO_191002 := n0_; have BK183 := n1_; have BK190 := n2_; have HB := n3_; clear n0_ n1_ n2_ n3_; clear hg hw hp_)); go_roundg k2; (case measure => have := HJ3.out; have := HK2.out; omega); (case rel => exact ⟨(wrap64 (x35_2 + 1)), (y191), (.slice (some ⟨go20, 0, none⟩) x191002_2.length co20), (by first | rfl | (simp; done) | (simp [*]; done)), H', ⟨by have := HJ3.out; have := HK2.out; omega⟩, ⟨by (with_reducible repeat (first | apply Kd.R_alloc | apply Kd.R_drewN | apply Kd.R_drew)); exact HO_191002.out⟩, ⟨by (with_reducible repeat (first | refine k1' ?_ _ | refine k2' ?_ | refine k3' ?_ _)); exact BK183.out⟩, ⟨by (with_reducible repeat (first | refine k1' ?_ _ | refine k2' ?_ | refine k3' ?_ _)); exact BK190.out⟩, ⟨by repeat (first | (with_reducible first | exact HB.out | apply b1' | apply b2' | apply b3' | refine below_set ?_ GE183.out | refine below_set ?_ GE190.out) | exact HB.out)⟩⟩)); (· rw [if_neg c19] at H; exact absurd H (by simp))); (· rw [if_neg c18] at H; exact absurd H (by simp)))
       (· rw [if_neg c17] at H; have c17b0 : decide (x35_2 < (t186.length : Int)) = false := decide_eq_false c17; clear c17; simp only [Option.some.injEq, Prod.mk.injEq] at H; obtain ⟨rfl, rfl, rfl, rfl⟩ := H; have hnb25 := NB190_183.out; have hnc25 := NB183_190.out; have hcz26_0 : wr.cell? ⟨gb190, 0, none⟩ = some (.int .i64 t184) := (Zc BK190.out 0).trans rfl; have hcz26_1 : wr.cell? ⟨gb190, 1, none⟩ = some (.int .i64 t185) := (Zc BK190.out 1).trans rfl; have hcz26_2 : wr.cell? ⟨gb190, 2, none⟩ = some (u191002) := (Zc BK190.out 2).trans rfl; have hfz26_0 := Zf BK190.out 0; have hfz26_1 := Zf BK190.out 1; have hfz26_2 := Zf BK190.out 2; have hcz27_0 : wr.cell? ⟨gb183, 0, none⟩ = some (.int .i64 0) := (Zc BK183.out 0).trans rfl; have hcz27_1 : wr.cell? ⟨gb183, 1, none⟩ = some (.int .i64 0) := (Zc BK183.out 1).trans rfl; have hcz27_2 : wr.cell? ⟨gb183, 2, none⟩ = some (.slice none 0 0) := (Zc BK183.out 2).trans rfl; have hfz27_0 := Zf BK183.out 0; have hfz27_1 := Zf BK183.out 1; have hfz27_2 := Zf BK183.out 2; obtain ⟨Ao28, co28, eo28⟩ := Kd.R_slice HO_191002.out; subst eo28; go_wp2; refine bodyPost_ret (results_ct rfl _ _ gb183 31 #[.int .i64 t184, .int .i64 t185, .slice Ao28 x191002_2.length co28] (0, 0) _ rfl (by (with_reducible repeat (first | refine k1' ?_ _ | refine k2' ?_ | refine k3' ?_ _)); refine blk_put (cs := #[.int .i64 t184, .int .i64 t185, .slice none 0 0]) ?_ 2 _ rfl; (with_reducible repeat (first | refine k1' ?_ _ | refine k2' ?_ | refine k3' ?_ _)); refine blk_put (cs := #[.int .i64 t184, .int .i64 0, .slice none 0 0]) ?_ 1 _ rfl; (with_reducible repeat (first | refine k1' ?_ _ | refine k2' ?_ | refine k3' ?_ _)); refine blk_put (cs := #[.int .i64 0, .int .i64 0, .slice none 0 0]) ?_ 0 _ rfl; (with_reducible repeat (first | refine k1' ?_ _ | refine k2' ?_ | refine k3' ?_ _)); exact BK183.out) Try.underlying31 rfl (by kernel_rfl)) rfl ?_; (exact ⟨_, by first | rfl | (simp [errW_none, errW_some] <;> rfl) | (simp [*, errW_none, errW_some] <;> rfl), by (with_reducible repeat (first | apply Kd.R_alloc | apply Kd.R_drewN | apply Kd.R_drew)); exact Kd.R_mono (Kd.R_far (p := ⟨gb183, 2, none⟩) (Kd.R_far (p := ⟨gb183, 1, none⟩) (Kd.R_far (p := ⟨gb183, 0, none⟩) (Kd.R_types HO_191002.out BK183.out (by decide)) (fun _ hk => hk.2) (.int .i64 t184)) (fun _ hk => hk.2) (.int .i64 t185)) (fun _ hk => hk.2) (.slice Ao28 x191002_2.length co28)) (fun _ hk => trivial), by repeat (first | (with_reducible first | exact HB.out | apply b1' | apply b2' | apply b3' | refine below_set ?_ GE183.out | refine below_set ?_ GE190.out) | exact HB.out)⟩))
def refine_fresh.f (a0 : Int) : Option ((List (S127))) := if a0 = 0 then (some (([(⟨(-1), (-1)⟩ : S127), (⟨0, (-1)⟩ : S127), (⟨1, (-1)⟩ : S127), (⟨(-1), 0⟩ : S127)] : List (S127)))) else (some (([(⟨0, (-1)⟩ : S127), (⟨(-1), 0⟩ : S127)] : List (S127))))
set_option maxHeartbeats 8000000 in
set_option maxRecDepth 100000 in
theorem refine_fresh.calls (a0 : Int) (r : List (S127)) (w : World) (h : refine_fresh.f a0 = some r) :
 Calls Try.prog 85 #[.int .i64 a0] w fun e w' => ∃ v0_ : Value, e = .returned (v0_) ∧ Kd.R k127 127 w' w.heap.size (fun _ => True) v0_ r ∧ Below w.heap.size w w' := by
 have hu127 := Try.underlying127; have HB := Za (Below.refl w.heap.size w); have H : (if a0 = 0 then (some (([(⟨(-1), (-1)⟩ : S127), (⟨0, (-1)⟩ : S127), (⟨1, (-1)⟩ : S127), (⟨(-1), 0⟩ : S127)] : List (S127)))) else (some (([(⟨0, (-1)⟩ : S127), (⟨(-1), 0⟩ : S127)] : List (S127))))) = some r := h; clear h; by_cases c2 : a0 = 0
 (· rw [if_pos c2] at H; have c2b0 : (a0 == 0) = true := beq_iff_eq.mpr c2; have c2b1 : (a0 != 0) = false := bne_eq_false_iff_eq.mpr c2; clear c2; obtain ⟨y101, hy101⟩ : ∃ y_ : List (S127), y_ = (([(⟨(-1), (-1)⟩ : S127), (⟨0, (-1)⟩ : S127), (⟨1, (-1)⟩ : S127), (⟨(-1), 0⟩ : S127)] : List (S127))) := ⟨_, rfl⟩; (replace H : (some y101) = some r := by first | (rw [hy101]; with_reducible exact H) | (have H2_ := (Option.bind_some _ _).symm.trans H; rw [hy101]; with_reducible exact H2_) | (have H2_ := (Option.bind_some _ _).symm.trans H; with_reducible exact H2_) | with_reducible exact H | (rw [hy101]; exact H) | exact H); have Ny101 := Za hy101; clear hy101; obtain rfl := Option.some.inj H; go_enter Try.func85, Try.ntmps85; go_wp2_with (first | ((with_reducible refine gate_dst (N := 9) rfl ?_); refine Kd.R_lit k127 _ 127 ?hg (N := 9) ?hd (xs := ([(⟨(-1), (-1)⟩ : S127), (⟨0, (-1)⟩ : S127), (⟨1, (-1)⟩ : S127), (⟨(-1), 0⟩ : S127)] : List (S127))) (inner := [.int .i64 (-1), .int .i64 (-1), .int .i64 0, .int .i64 (-1), .int .i64 1, .int .i64 (-1), .int .i64 (-1), .int .i64 0]) (ok := fun _ => True) (okp := fun _ => True) ?hr ?hp (fun _ hk => hk) trivial (Below.refl _ _) (Nat.le_refl _) (by simp) ?_; (case hd => rfl); (case hg => rfl); (case hr => first | (go_simp; done) | (go_simp; rfl)); (case hp => exact (Reps.c2 (show Kd.M k127 _ _ _ (⟨(-1), (-1)⟩ : S127) [.int .i64 (-1), .int .i64 (-1)] from (k127_mkM _ _ _ (⟨(-1), (-1)⟩ : S127) )) (Reps.c2 (show Kd.M k127 _ _ _ (⟨0, (-1)⟩ : S127) [.int .i64 0, .int .i64 (-1)] from (k127_mkM _ _ _ (⟨0, (-1)⟩ : S127) )) (Reps.c2 (show Kd.M k127 _ _ _ (⟨1, (-1)⟩ : S127) [.int .i64 1, .int .i64 (-1)] from (k127_mkM _ _ _ (⟨1, (-1)⟩ : S127) )) (Reps.c2 (show Kd.M k127 _ _ _ (⟨(-1), 0⟩ : S127) [.int .i64 (-1), .int .i64 0] from (k127_mkM _ _ _ (⟨(-1), 0⟩ : S127) )) (Reps.none _ _)))))); intro v102 w3 ho4 hb hg_ hnew_; clear hg_ hnew_; (first | rw [← Ny101.out] at ho4 | (simp only [Int.reduceToNat] at ho4; rw [← Ny101.out] at ho4)); have n0_ := Za (Kd.R_lower ho4 (below_size (by repeat (first | (with_reducible first | exact HB.out | apply b1' | apply b2' | apply b3') | exact HB.out)))); have n1_ := Za (below_step (by repeat (first | (with_reducible first | exact HB.out | apply b1' | apply b2' | apply b3') | exact HB.out)) hb); clear HB; have HO103 := n0_; have HB := n1_; clear n0_ n1_; clear hb ho4)); go_ret; (exact ⟨_, by first | rfl | (simp [errW_none, errW_some] <;> rfl) | (simp [*, errW_none, errW_some] <;> rfl), by (with_reducible repeat (first | apply Kd.R_alloc | apply Kd.R_drewN | apply Kd.R_drew)); exact HO103.out, by repeat (first | (with_reducible first | exact HB.out | apply b1' | apply b2' | apply b3') | exact HB.out)⟩))
 (· rw [if_neg c2] at H; have c2b0 : (a0 == 0) = false := beq_eq_false_iff_ne.mpr c2; have c2b1 : (a0 != 0) = true := bne_iff_ne.mpr c2; obtain ⟨y104, hy104⟩ : ∃ y_ : List (S127), y_ = (([(⟨0, (-1)⟩ : S127), (⟨(-1), 0⟩ : S127)] : List (S127))) := ⟨_, rfl⟩; (replace H : (some y104) = some r := by first | (rw [hy104]; with_reducible exact H) | (have H2_ := (Option.bind_some _ _).symm.trans H; rw [hy104]; with_reducible exact H2_) | (have H2_ := (Option.bind_some _ _).symm.trans H; with_reducible exact H2_) | with_reducible exact H | (rw [hy104]; exact H) | exact H); have Ny104 := Za hy104; clear hy104; obtain rfl := Option.some.inj H; go_enter Try.func85, Try.ntmps85; go_wp2_with (first | ((with_reducible refine gate_dst (N := 12) rfl ?_); refine Kd.R_lit k127 _ 127 ?hg (N := 12) ?hd (xs := ([(⟨0, (-1)⟩ : S127), (⟨(-1), 0⟩ : S127)] : List (S127))) (inner := [.int .i64 0, .int .i64 (-1), .int .i64 (-1), .int .i64 0]) (ok := fun _ => True) (okp := fun _ => True) ?hr ?hp (fun _ hk => hk) trivial (Below.refl _ _) (Nat.le_refl _) (by simp) ?_; (case hd => rfl); (case hg => rfl); (case hr => first | (go_simp; done) | (go_simp; rfl)); (case hp => exact (Reps.c2 (show Kd.M k127 _ _ _ (⟨0, (-1)⟩ : S127) [.int .i64 0, .int .i64 (-1)] from (k127_mkM _ _ _ (⟨0, (-1)⟩ : S127) )) (Reps.c2 (show Kd.M k127 _ _ _ (⟨(-1), 0⟩ : S127) [.int .i64 (-1), .int .i64 0] from (k127_mkM _ _ _ (⟨(-1), 0⟩ : S127) )) (Reps.none _ _)))); intro v105 w5 ho6 hb hg_ hnew_; clear hg_ hnew_; (first | rw [← Ny104.out] at ho6 | (simp only [Int.reduceToNat] at ho6; rw [← Ny104.out] at ho6)); have n0_ := Za (Kd.R_lower ho6 (below_size (by repeat (first | (with_reducible first | exact HB.out | apply b1' | apply b2' | apply b3') | exact HB.out)))); have n1_ := Za (below_step (by repeat (first | (with_reducible first | exact HB.out | apply b1' | apply b2' | apply b3') | exact HB.out)) hb); clear HB; have HO106 := n0_; have HB := n1_; clear n0_ n1_; clear hb ho6)); go_ret; (exact ⟨_, by first | rfl | (simp [errW_none, errW_some] <;> rfl) | (simp [*, errW_none, errW_some] <;> rfl), by (with_reducible repeat (first | apply Kd.R_alloc | apply Kd.R_drewN | apply Kd.R_drew)); exact HO106.out, by repeat (first | (with_reducible first | exact HB.out | apply b1' | apply b2' | apply b3') | exact HB.out)⟩))
def refine_contexts.f (a0 : Int) : Option (Int) := (refine_fresh.f a0).bind fun t107 => (some (shl .i64 32 (t107.length : Int)))
set_option maxHeartbeats 8000000 in
set_option maxRecDepth 100000 in
theorem refine_contexts.calls (a0 : Int) (r : Int) (w : World) (h : refine_contexts.f a0 = some r) :
 Calls Try.prog 45 #[.int .i64 a0] w fun e w' => e = .returned (.int .i64 r) ∧ Below w.heap.size w w' := by
 have HB := Za (Below.refl w.heap.size w); have H : ((refine_fresh.f a0).bind fun t107 => (some (shl .i64 32 (t107.length : Int)))) = some r := h; clear h; replace H := Option.bind_eq_some_iff.mp H; obtain ⟨t107, A20, H⟩ := H; replace H : (some (shl .i64 32 (t107.length : Int))) = some r := H; have A2 := Za A20; clear A20; obtain ⟨ji3, hji3⟩ : ∃ j_ : Int, (shl .i64 32 (t107.length : Int)) = j_ := ⟨_, rfl⟩; (replace H : (some ji3) = some r := by first | (rw [hji3] at H; exact H) | (simp only [hji3] at H ⊢; exact H)); (try rw [hji3] at A2); have hji3_ : (IntKind.i64.wrap (32 * 2 ^ min (t107.length : Int).toNat 64)) = ji3 := hji3; have hji3z : (t107.length : Int) ≤ 64 → (IntKind.i64.wrap (32 * 2 ^ (t107.length : Int).toNat)) = ji3 := shl_small hji3; have hji3p : (IntKind.i64.wrap (32 * 2 ^ min t107.length 64)) = ji3 := hji3_; have hji3q : (t107.length : Int) ≤ 64 → (IntKind.i64.wrap (32 * 2 ^ t107.length)) = ji3 := hji3z; have hji3y : (wrap64 (32 * 2 ^ min (t107.length : Int).toNat 64)) = ji3 := (w1' _).symm.trans hji3_; have hji3x : (t107.length : Int) ≤ 64 → (wrap64 (32 * 2 ^ (t107.length : Int).toNat)) = ji3 := fun h_ => (w1' _).symm.trans (hji3z h_); obtain rfl := Option.some.inj H; go_enter Try.func45, Try.ntmps45
 go_wp2_with (first | ((with_reducible refine gate_callee (f := 85) rfl ?_); refine goesL_ (some 4) rfl rfl Try.func85 (by kernel_rfl) rfl #[.int .i64 a0] rfl (by (try simp only [List.map_toArray, List.map_cons, List.map_nil]); first | done | rfl | (simp only [List.length_drop, List.length_take]; rfl)) ?_; (with_reducible refine (refine_fresh.calls a0 t107 _ A2.out).mono ?_); rintro e w4 ⟨v108, rfl, ho0, hb⟩; refine ⟨_, rfl, ?_⟩; have n0_ := Za (Kd.R_lower ho0 (below_size (by repeat (first | (with_reducible first | exact HB.out | apply b1' | apply b2' | apply b3') | exact HB.out)))); have n1_ := Za (below_step (by repeat (first | (with_reducible first | exact HB.out | apply b1' | apply b2' | apply b3') | exact HB.out)) hb); clear HB; have HO109 := n0_; have HB := n1_; clear n0_ n1_; (try clear hb); (try clear hb2); (try clear hk); (try clear hi); (try clear ho0); obtain ⟨Ao5, co5, eo5⟩ := Kd.R_slice HO109.out; subst eo5)); go_ret; (exact ⟨by first | rfl | (simp [errW_none, errW_some] <;> rfl) | (simp only [← hji3]; first | rfl | (simp [errW_none, errW_some] <;> rfl)) | (simp [*, errW_none, errW_some] <;> rfl), by repeat (first | (with_reducible first | exact HB.out | apply b1' | apply b2' | apply b3') | exact HB.out)⟩)
def incunableref08_size.f (a0 : Int) : Option (Int) := if a0 = 0 then (some 513) else (some 129)
set_option maxHeartbeats 8000000 in
set_option maxRecDepth 100000 in
theorem incunableref08_size.calls (a0 : Int) (r : Int) (w : World) (h : incunableref08_size.f a0 = some r) :
 Calls Try.prog 46 #[.int .i64 a0] w fun e w' => e = .returned (.int .i64 r) ∧ Drawn0 w w' := by
 have H : (if a0 = 0 then (some 513) else (some 129)) = some r := h; clear h; by_cases c2 : a0 = 0; (· rw [if_pos c2] at H; have c2b0 : (a0 == 0) = true := beq_iff_eq.mpr c2; have c2b1 : (a0 != 0) = false := bne_eq_false_iff_eq.mpr c2; clear c2; obtain rfl := Option.some.inj H; go_enter Try.func46, Try.ntmps46; go_wp2; go_ret; exact ⟨by first | rfl | (simp; done) | (simp [*]; done), by repeat (first | exact Drawn0.refl _ | apply Drawn0.step)⟩); (· rw [if_neg c2] at H; have c2b0 : (a0 == 0) = false := beq_eq_false_iff_ne.mpr c2; have c2b1 : (a0 != 0) = true := bne_iff_ne.mpr c2; obtain rfl := Option.some.inj H; go_enter Try.func46, Try.ntmps46; go_wp2; go_ret; exact ⟨by first | rfl | (simp; done) | (simp [*]; done), by repeat (first | exact Drawn0.refl _ | apply Drawn0.step)⟩)
def refine_fits.f (a0_0 : Int) (l0_1 : List Int) (a1 : Int) (a2_0 : Int) (a2_1 : Int) (a2_2 : Int) (a2_3 : Bool) (a2_4 : Int) : Option (Bool) := if a1 ≥ 0 then ((refine_contexts.f a2_0).bind fun t131 => (some (decide (a1 ≤ (wrap64 ((wrap64 ((l0_1.length : Int) - t131)) - 1)))))) else (some false)
def refine_model.f (a0_0 : Int) (a0_1 : Int) (a0_2 : Int) (a0_3 : Bool) (a0_4 : Int) : Option (Int × List Int) := (refine_contexts.f a0_0).bind fun t163 => ((coder_New.f a0_4 (wrap64 (t163 + 1))).bind fun bt164 => (some (bt164.1, bt164.2.1)))
def refine_model.T1 : Bool × List (List Nat × List Nat) := (true, [([], []), ([0], [0]), ([], []), ([2], [2]), ([3], [3]), ([4], [4]), ([1, 5, 4], [1, 5]), ([6], [6]), ([7], [7]), ([7], [7]), ([], []), ([10, 8, 6, 0, 1, 2, 3, 4, 5, 6, 7, 8, 10], [8, 10]), ([9, 11, 0, 1, 2, 3, 4, 5, 6, 7, 8, 9, 10, 11], [9])])
def refine_model.B1 : List Nat := [0, 1, 0, 4, 12, 28, 63, 127, 255, 255, 0, 1535, 4095]
theorem refine_model.tab1 : rtab .any (opsOf Try.f47 1) = refine_model.T1 := by kernel_rfl
theorem refine_model.bits1 : waitsOk refine_model.T1.2 refine_model.B1 = true := by kernel_rfl
set_option maxHeartbeats 8000000 in
set_option maxRecDepth 100000 in
theorem refine_model.calls (a0_0 : Int) (a0_1 : Int) (a0_2 : Int) (a0_3 : Bool) (a0_4 : Int) (r1 : Int) (r2 : List Int) (w : World) (h : refine_model.f a0_0 a0_1 a0_2 a0_3 a0_4 = some (r1, r2)) :
 Calls Try.prog 47 #[.agg #[.int .i64 a0_0, .int .i64 a0_1, .int .i64 a0_2, .bool a0_3, .int .i64 a0_4]] w fun e w' => ∃ v1_ : Value, e = .returned (.agg #[.int .i64 r1, v1_]) ∧ Kd.R (Kd.int .i64) 3 w' w.heap.size (fun _ => True) v1_ r2 ∧ Below w.heap.size w w' := by
 have hu23 := Try.underlying23; have hu45 := Try.underlying45; have HB := Za (Below.refl w.heap.size w); have H : ((refine_contexts.f a0_0).bind fun t163 => ((coder_New.f a0_4 (wrap64 (t163 + 1))).bind fun bt164 => (some (bt164.1, bt164.2.1)))) = some (r1, r2) := h; clear h; replace H := Option.bind_eq_some_iff.mp H; obtain ⟨t163, A20, H⟩ := H; replace H : ((coder_New.f a0_4 (wrap64 (t163 + 1))).bind fun bt164 => (some (bt164.1, bt164.2.1))) = some (r1, r2) := H; have A2 := Za A20; clear A20; replace H := Option.bind_eq_some_iff.mp H; obtain ⟨⟨t164, t165, t168⟩, A30, H⟩ := H; replace H : (some (t164, t165)) = some (r1, r2) := H; have A3 := Za A30; clear A30; simp only [Option.some.injEq, Prod.mk.injEq] at H; obtain ⟨rfl, rfl⟩ := H; go_enter Try.func47, Try.ntmps47
 (try go_wp2_with (first | ((with_reducible refine gate_dst (N := 1) rfl ?_); refine box_event ?hg (N := 1) ?hd (cs := #[.int .i64 a0_0, .int .i64 a0_1, .int .i64 a0_2, .bool a0_3, .int .i64 a0_4]) (t := 23) ?hr ?_; (case hd => rfl); (case hg => rfl); (case hr => first | (go_simp; done) | (go_simp; rfl)); intro gb161 hg w4 hbox hb; have n0_ := Za (below_step (by repeat (first | (with_reducible first | exact HB.out | apply b1' | apply b2' | apply b3') | exact HB.out)) hb); have n1_ := Za (hbox); have n2_ := Za ((by rw [hg]; exact (below_size (by repeat (first | (with_reducible first | exact HB.out | apply b1' | apply b2' | apply b3') | exact HB.out))) : w.heap.size ≤ gb161)); have n3_ := Za ((by rw [hg]; exact (below_size (by repeat (first | (with_reducible first | exact HB.out | apply b1' | apply b2' | apply b3') | exact HB.out))) : w.heap.size ≤ gb161)); clear HB; have HB := n0_; have BK161 := n1_; have GW161 := n2_; have GE161 := n3_; clear n0_ n1_ n2_ n3_; clear hb hbox hg) | ((with_reducible refine gate_dst (N := 2) rfl ?_); refine box_event ?hg (N := 2) ?hd (cs := #[.int .i64 0, .slice none 0 0]) (t := 45) ?hr ?_; (case hd => rfl); (case hg => rfl); (case hr => first | (go_simp; done) | (go_simp; rfl)); intro gb162 hg w5 hbox hb; have n0_ := Za (Zd (g := gb161) (o := .cells #[.int .i64 a0_0, .int .i64 a0_1, .int .i64 a0_2, .bool a0_3, .int .i64 a0_4] 23 (0, 0)) (by (with_reducible repeat (first | refine k1' ?_ _ | refine k2' ?_ | refine k3' ?_ _)); exact BK161.out) hb); have n1_ := Za (below_step (by repeat (first | (with_reducible first | exact HB.out | apply b1' | apply b2' | apply b3' | refine below_set ?_ GE161.out) | exact HB.out)) hb); have n2_ := Za (hbox); have n3_ := Za ((by rw [hg]; exact (below_size (by repeat (first | (with_reducible first | exact HB.out | apply b1' | apply b2' | apply b3' | refine below_set ?_ GE161.out) | exact HB.out))) : w.heap.size ≤ gb162)); have n4_ := Za ((by rw [hg]; exact (below_size (by repeat (first | (with_reducible first | exact HB.out | apply b1' | apply b2' | apply b3' | refine below_set ?_ GE161.out) | exact HB.out))) : w.heap.size ≤ gb162)); have n5_ := Za ((by rw [hg]; exact Nat.ne_of_lt (blk_lt (g := gb161) (o := .cells #[.int .i64 a0_0, .int .i64 a0_1, .int .i64 a0_2, .bool a0_3, .int .i64 a0_4] 23 (0, 0)) (by (with_reducible repeat (first | refine k1' ?_ _ | refine k2' ?_ | refine k3' ?_ _)); exact BK161.out)) : gb161 ≠ gb162)); have n6_ := Za ((by rw [hg]; exact Nat.ne_of_gt (blk_lt (g := gb161) (o := .cells #[.int .i64 a0_0, .int .i64 a0_1, .int .i64 a0_2, .bool a0_3, .int .i64 a0_4] 23 (0, 0)) (by (with_reducible repeat (first | refine k1' ?_ _ | refine k2' ?_ | refine k3' ?_ _)); exact BK161.out)) : gb162 ≠ gb161)); clear BK161; clear HB; have BK161 := n0_; have HB := n1_; have BK162 := n2_; have GW162 := n3_; have GE162 := n4_; have NB161_162 := n5_; have NB162_161 := n6_; clear n0_ n1_ n2_ n3_ n4_ n5_ n6_; clear hb hbox hg)))
 have n0_ := Za (k2' BK161.out); have n1_ := Za (k2' BK162.out); have n2_ := Za (b3' HB.out); clear BK161; clear BK162; clear HB; have BK161 := n0_; have BK162 := n1_; have HB := n2_; clear n0_ n1_ n2_; refine start_ (n := 13) (S := fun w' => w'.cell? ⟨gb161, 0, none⟩ = some (.int .i64 a0_0) ∧ w'.cell? ⟨gb161, 1, none⟩ = some (.int .i64 a0_1) ∧ w'.cell? ⟨gb161, 2, none⟩ = some (.int .i64 a0_2) ∧ w'.cell? ⟨gb161, 3, none⟩ = some (.bool a0_3) ∧ w'.cell? ⟨gb161, 4, none⟩ = some (.int .i64 a0_4)) (ds := []) (B' 13 0) (by kernel_rfl) rfl rfl ⟨(Zc BK161.out 0).trans rfl, (Zc BK161.out 1).trans rfl, (Zc BK161.out 2).trans rfl, (Zc BK161.out 3).trans rfl, (Zc BK161.out 4).trans rfl⟩ (fun hHeld => ?_); refine with_tabW refine_model.tab1 refine_model.bits1 (fun HT_ HW_ => ?_); generalize w5.drew = w6 at BK161 BK162 HB hHeld ⊢; refine pure_ (i := 0) (N := some 6) (v := ?_) (a' := ?_) (B' 13 1) rfl rfl (any_of HT_.out (by kernel_rfl)) (fun _ _ _ h => h) (Or.inl ⟨by rfl, ?_⟩) ?_ ?_; rotate_left; (intro w'; go_simp; with_reducible rfl); rotate_left; (simp only [Act.put, p1', p2', p3', w1', w2']; rfl); refine pure_ (i := 2) (N := some 8) (v := ?_) (a' := ?_) (B' 13 5) rfl rfl (any_of HT_.out (by kernel_rfl)) (fun _ _ _ h => h) (Or.inl ⟨by rfl, ?_⟩) ?_ ?_; rotate_left; (intro w'; go_simp; with_reducible rfl); rotate_left; (simp only [Act.put, p1', p2', p3', w1', w2']; rfl)
 refine take_ (i := 1) (N := some 7) (v := ?_) (a' := ?_) (B' 13 7) rfl rfl (take_ofW HT_.out HW_.out (by kernel_rfl)) (fun _ _ _ h => h) (Or.inl ⟨by rfl, ?_⟩) hHeld ?_ ?_; rotate_left; (rintro w' ⟨s0, s1, s2, s3, s4⟩; go_simp; with_reducible rfl); rotate_left; (simp only [Act.put, p1', p2', p3', w1', w2']; rfl); refine take_ (i := 3) (N := some 9) (v := ?_) (a' := ?_) (B' 13 15) rfl rfl (take_ofW HT_.out HW_.out (by kernel_rfl)) (fun _ _ _ h => h) (Or.inl ⟨by rfl, ?_⟩) hHeld ?_ ?_; rotate_left; (rintro w' ⟨s0, s1, s2, s3, s4⟩; go_simp; with_reducible rfl); rotate_left; (simp only [Act.put, p1', p2', p3', w1', w2']; rfl)
 refine join_ (σ := Value × Nat) 2 (B' 13 2047) (fun s_ => [(10, .int .i64 t163), (12, .tuple #[.agg #[.int .i64 t164, s_.1], .int .i64 t168]), (3, .pointer (some ⟨s_.2, 0, none⟩)), (11, .int .i64 (wrap64 (t163 + 1))), (5, .tuple #[.agg #[.int .i64 t164, s_.1], .int .i64 t168]), (13, .agg #[.int .i64 t164, s_.1]), (14, .int .i64 t168)]) (fun s_ w' => (w'.cell? ⟨gb161, 0, none⟩ = some (.int .i64 a0_0) ∧ w'.cell? ⟨gb161, 1, none⟩ = some (.int .i64 a0_1) ∧ w'.cell? ⟨gb161, 2, none⟩ = some (.int .i64 a0_2) ∧ w'.cell? ⟨gb161, 3, none⟩ = some (.bool a0_3) ∧ w'.cell? ⟨gb161, 4, none⟩ = some (.int .i64 a0_4)) ∧ (Kd.R (Kd.int .i64) 3 w' w.heap.size (fun _ => True) s_.1 t165) ∧ (w'.heap[gb161]? = some (.cells #[.int .i64 a0_0, .int .i64 a0_1, .int .i64 a0_2, .bool a0_3, .int .i64 a0_4] 23 (0, 0))) ∧ (w'.heap[gb162]? = some (.cells #[.int .i64 0, .slice none 0 0] 45 (0, 0))) ∧ (w'.heap[s_.2]? = some (.cells #[.int .i64 0, .slice none 0 0] 45 (0, 0))) ∧ (w.heap.size ≤ s_.2) ∧ (w.heap.size ≤ s_.2) ∧ (gb161 ≠ s_.2) ∧ (s_.2 ≠ gb161) ∧ (gb162 ≠ s_.2) ∧ (s_.2 ≠ gb162) ∧ (Below w.heap.size w w')) ?_ ?_; rotate_left
 (· intro hCont; refine two_ (i := 4) (j := 10) (Ni := some 10) (Nj := some 3) (B' 13 31) (B' 13 1039) rfl rfl rfl rfl (two_of HT_.out (by kernel_rfl)) (by decide) (by decide) (fun K hK => ?_) (fun K hK => ?_); (· skip; refine goes_ Try.func45 (by kernel_rfl) rfl #[.int .i64 a0_0] (by rfl) rfl rfl (by (try simp only [List.map_toArray, List.map_cons, List.map_nil]); first | done | rfl | (simp only [List.length_drop, List.length_take]; rfl)) ?_; (with_reducible refine (refine_contexts.calls a0_0 t163 _ A2.out).mono ?_); rintro e w7 ⟨rfl, hb⟩; refine ⟨_, rfl, ?_⟩; have n0_ := Za (Zd (g := gb161) (o := .cells #[.int .i64 a0_0, .int .i64 a0_1, .int .i64 a0_2, .bool a0_3, .int .i64 a0_4] 23 (0, 0)) (by (with_reducible repeat (first | refine k1' ?_ _ | refine k2' ?_ | refine k3' ?_ _)); exact BK161.out) hb); have n1_ := Za (Zd (g := gb162) (o := .cells #[.int .i64 0, .slice none 0 0] 45 (0, 0)) (by (with_reducible repeat (first | refine k1' ?_ _ | refine k2' ?_ | refine k3' ?_ _)); exact BK162.out) hb); have n2_ := Za (below_step (by repeat (first | (with_reducible first | exact HB.out | apply b1' | apply b2' | apply b3' | refine below_set ?_ GE161.out | refine below_set ?_ GE162.out) | exact HB.out)) hb); clear BK161; clear BK162; clear HB; have BK161 := n0_; have BK162 := n1_; have HB := n2_; clear n0_ n1_ n2_; (try clear hb); (try clear hb2); (try clear hk); (try clear hi); refine hK.out _ _ ⟨(Zc BK161.out 0).trans rfl, (Zc BK161.out 1).trans rfl, (Zc BK161.out 2).trans rfl, (Zc BK161.out 3).trans rfl, (Zc BK161.out 4).trans rfl⟩ (fun hHeld => ?_); clear hK K; refine n' ?_ ?_ ?_; rotate_left; (show Act.put _ (some 10) _ = _; simp only [Act.put, p1', p2', p3', w1', w2']; rfl); refine pure_ (i := 5) (N := some 11) (v := ?_) (a' := ?_) (B' 13 63) rfl rfl (any_of HT_.out (by kernel_rfl)) (fun _ _ _ h => h) (Or.inl ⟨by rfl, ?_⟩) ?_ ?_; rotate_left; (intro w'; go_simp; with_reducible rfl); rotate_left; (simp only [Act.put, p1', p2', p3', w1', w2']; rfl); refine two_ (i := 6) (j := 10) (Ni := some 12) (Nj := some 3) (B' 13 127) (B' 13 1087) rfl rfl rfl rfl (two_of HT_.out (by kernel_rfl)) (by decide) (by decide) (fun K hK => ?_) (fun K hK => ?_); (· skip; refine goes_ Try.func86 (by kernel_rfl) rfl #[.int .i64 a0_4, .int .i64 (wrap64 (t163 + 1))] (by rfl) rfl rfl (by (try simp only [List.map_toArray, List.map_cons, List.map_nil]); first | done | rfl | (simp only [List.length_drop, List.length_take]; rfl)) ?_; (with_reducible refine (coder_New.calls a0_4 (wrap64 (t163 + 1)) t164 t165 t168 _ A3.out).mono ?_); rintro e w8 ⟨v166, rfl, ho0, hb⟩; refine ⟨_, rfl, ?_⟩; have n0_ := Za (Kd.R_lower ho0 (below_size (by repeat (first | (with_reducible first | exact HB.out | apply b1' | apply b2' | apply b3' | refine below_set ?_ GE161.out | refine below_set ?_ GE162.out) | exact HB.out)))); have n1_ := Za (Zd (g := gb161) (o := .cells #[.int .i64 a0_0, .int .i64 a0_1, .int .i64 a0_2, .bool a0_3, .int .i64 a0_4] 23 (0, 0)) (by (with_reducible repeat (first | refine k1' ?_ _ | refine k2' ?_ | refine k3' ?_ _)); exact BK161.out) hb); have n2_ := Za (Zd (g := gb162) (o := .cells #[.int .i64 0, .slice none 0 0] 45 (0, 0)) (by (with_reducible repeat (first | refine k1' ?_ _ | refine k2' ?_ | refine k3' ?_ _)); exact BK162.out) hb); have n3_ := Za (below_step (by repeat (first | (with_reducible first | exact HB.out | apply b1' | apply b2' | apply b3' | refine below_set ?_ GE161.out | refine below_set ?_ GE162.out) | exact HB.out)) hb); clear BK161; clear BK162; clear HB; have HO167 := n0_; have BK161 := n1_; have BK162 := n2_; have HB := n3_; clear n0_ n1_ n2_ n3_; (try clear hb); (try clear hb2); (try clear hk); (try clear hi); (try clear ho0); refine hK.out _ _ ⟨(Zc BK161.out 0).trans rfl, (Zc BK161.out 1).trans rfl, (Zc BK161.out 2).trans rfl, (Zc BK161.out 3).trans rfl, (Zc BK161.out 4).trans rfl⟩ (fun hHeld => ?_); clear hK K; refine n' ?_ ?_ ?_; rotate_left; (show Act.put _ (some 12) _ = _; simp only [Act.put, p1', p2', p3', w1', w2']; rfl); refine pure_ (i := 7) (N := some 5) (v := ?_) (a' := ?_) (B' 13 255) rfl rfl (any_of HT_.out (by kernel_rfl)) (fun _ _ _ h => h) (Or.inl ⟨by rfl, ?_⟩) ?_ ?_; rotate_left; (intro w'; go_simp; with_reducible rfl); rotate_left; (simp only [Act.put, p1', p2', p3', w1', w2']; rfl); refine pure_ (i := 8) (N := some 13) (v := ?_) (a' := ?_) (B' 13 511) rfl rfl (any_of HT_.out (by kernel_rfl)) (fun _ _ _ h => h) (Or.inl ⟨by rfl, ?_⟩) ?_ ?_; rotate_left; (intro w'; go_simp; with_reducible rfl); rotate_left; (simp only [Act.put, p1', p2', p3', w1', w2']; rfl); refine pure_ (i := 9) (N := some 14) (v := ?_) (a' := ?_) (B' 13 1023) rfl rfl (any_of HT_.out (by kernel_rfl)) (fun _ _ _ h => h) (Or.inl ⟨by rfl, ?_⟩) ?_ ?_; rotate_left; (intro w'; go_simp; with_reducible rfl); rotate_left; (simp only [Act.put, p1', p2', p3', w1', w2']; rfl); refine one_ (i := 10) (N := some 3) (B' 13 2047) rfl rfl (one_of HT_.out (by kernel_rfl)) (by decide) (fun K hK => ?_); refine box_step ?hg (N := 3) ?hd (cs := #[.int .i64 0, .slice none 0 0]) (t := 45) ?hr ?_; (case hd => rfl); (case hg => rfl); (case hr => first | (go_simp; done) | (go_simp; rfl)); intro gb169 hg w9 hbox hb; have n0_ := Za (Kd.R_below (by (with_reducible repeat (first | apply Kd.R_alloc | apply Kd.R_drewN | apply Kd.R_drew)); exact HO167.out) hb); have n1_ := Za (Zd (g := gb161) (o := .cells #[.int .i64 a0_0, .int .i64 a0_1, .int .i64 a0_2, .bool a0_3, .int .i64 a0_4] 23 (0, 0)) (by (with_reducible repeat (first | refine k1' ?_ _ | refine k2' ?_ | refine k3' ?_ _)); exact BK161.out) hb); have n2_ := Za (Zd (g := gb162) (o := .cells #[.int .i64 0, .slice none 0 0] 45 (0, 0)) (by (with_reducible repeat (first | refine k1' ?_ _ | refine k2' ?_ | refine k3' ?_ _)); exact BK162.out) hb); have n3_ := Za (below_step (by repeat (first | (with_reducible first | exact HB.out | apply b1' | apply b2' | apply b3' | refine below_set ?_ GE161.out | refine below_set ?_ GE162.out) | exact HB.out)) hb); have n4_ := Za (hbox); have n5_ := Za ((by rw [hg]; exact (below_size (by repeat (first | (with_reducible first | exact HB.out | apply b1' | apply b2' | apply b3' | refine below_set ?_ GE161.out | refine below_set ?_ GE162.out) | exact HB.out))) : w.heap.size ≤ gb169)); have n6_ := Za ((by rw [hg]; exact (below_size (by repeat (first | (with_reducible first | exact HB.out | apply b1' | apply b2' | apply b3' | refine below_set ?_ GE161.out | refine below_set ?_ GE162.out) | exact HB.out))) : w.heap.size ≤ gb169)); have n7_ := Za ((by rw [hg]; exact Nat.ne_of_lt (blk_lt (g := gb161) (o := .cells #[.int .i64 a0_0, .int .i64 a0_1, .int .i64 a0_2, .bool a0_3, .int .i64 a0_4] 23 (0, 0)) (by (with_reducible repeat (first | refine k1' ?_ _ | refine k2' ?_ | refine k3' ?_ _)); exact BK161.out)) : gb161 ≠ gb169)); have n8_ := Za ((by rw [hg]; exact Nat.ne_of_gt (blk_lt (g := gb161) (o := .cells #[.int .i64 a0_0, .int .i64 a0_1, .int .i64 a0_2, .bool a0_3, .int .i64 a0_4] 23 (0, 0)) (by (with_reducible repeat (first | refine k1' ?_ _ | refine k2' ?_ | refine k3' ?_ _)); exact BK161.out)) : gb169 ≠ gb161)); have n9_ := Za ((by rw [hg]; exact Nat.ne_of_lt (blk_lt (g := gb162) (o := .cells #[.int .i64 0, .slice none 0 0] 45 (0, 0)) (by (with_reducible repeat (first | refine k1' ?_ _ | refine k2' ?_ | refine k3' ?_ _)); exact BK162.out)) : gb162 ≠ gb169)); have n10_ := Za ((by rw [hg]; exact Nat.ne_of_gt (blk_lt (g := gb162) (o := .cells #[.int .i64 0, .slice none 0 0] 45 (0, 0)) (by (with_reducible repeat (first | refine k1' ?_ _ | refine k2' ?_ | refine k3' ?_ _)); exact BK162.out)) : gb169 ≠ gb162)); clear HO167; clear BK161; clear BK162; clear HB; have HO167 := n0_; have BK161 := n1_; have BK162 := n2_; have HB := n3_; have BK169 := n4_; have GW169 := n5_; have GE169 := n6_; have NB161_169 := n7_; have NB169_161 := n8_; have NB162_169 := n9_; have NB169_162 := n10_; clear n0_ n1_ n2_ n3_ n4_ n5_ n6_ n7_ n8_ n9_ n10_; clear hb hbox hg; refine hK.out _ _ ⟨(Zc BK161.out 0).trans rfl, (Zc BK161.out 1).trans rfl, (Zc BK161.out 2).trans rfl, (Zc BK161.out 3).trans rfl, (Zc BK161.out 4).trans rfl⟩ (fun hHeld => ?_); clear hK K; refine n' ?_ ?_ ?_; rotate_left; (show Act.put _ (some 3) _ = _; simp only [Act.put, p1', p2', p3', w1', w2']; rfl); exact norm_ (by simp only [putAll, Act.put, List.setIfInBounds_toArray, List.set_cons_zero, List.set_cons_succ]) (hCont (v166, gb169) _ ⟨hHeld, (by (with_reducible repeat (first | apply Kd.R_alloc | apply Kd.R_drewN | apply Kd.R_drew)); exact HO167.out), (by (with_reducible repeat (first | refine k1' ?_ _ | refine k2' ?_ | refine k3' ?_ _)); exact BK161.out), (by (with_reducible repeat (first | refine k1' ?_ _ | refine k2' ?_ | refine k3' ?_ _)); exact BK162.out), (by (with_reducible repeat (first | refine k1' ?_ _ | refine k2' ?_ | refine k3' ?_ _)); exact BK169.out), GW169.out, GE169.out, NB161_169.out, NB169_161.out, NB162_169.out, NB169_162.out, (by repeat (first | (with_reducible first | exact HB.out | apply b1' | apply b2' | apply b3' | refine below_set ?_ GE161.out | refine below_set ?_ GE162.out | refine below_set ?_ GE169.out) | exact HB.out))⟩)); (· skip; refine box_step ?hg (N := 3) ?hd (cs := #[.int .i64 0, .slice none 0 0]) (t := 45) ?hr ?_; (case hd => rfl); (case hg => rfl); (case hr => first | (go_simp; done) | (go_simp; rfl)); intro gb169 hg w8 hbox hb; have n0_ := Za (Zd (g := gb161) (o := .cells #[.int .i64 a0_0, .int .i64 a0_1, .int .i64 a0_2, .bool a0_3, .int .i64 a0_4] 23 (0, 0)) (by (with_reducible repeat (first | refine k1' ?_ _ | refine k2' ?_ | refine k3' ?_ _)); exact BK161.out) hb); have n1_ := Za (Zd (g := gb162) (o := .cells #[.int .i64 0, .slice none 0 0] 45 (0, 0)) (by (with_reducible repeat (first | refine k1' ?_ _ | refine k2' ?_ | refine k3' ?_ _)); exact BK162.out) hb); have n2_ := Za (below_step (by repeat (first | (with_reducible first | exact HB.out | apply b1' | apply b2' | apply b3' | refine below_set ?_ GE161.out | refine below_set ?_ GE162.out) | exact HB.out)) hb); have n3_ := Za (hbox); have n4_ := Za ((by rw [hg]; exact (below_size (by repeat (first | (with_reducible first | exact HB.out | apply b1' | apply b2' | apply b3' | refine below_set ?_ GE161.out | refine below_set ?_ GE162.out) | exact HB.out))) : w.heap.size ≤ gb169)); have n5_ := Za ((by rw [hg]; exact (below_size (by repeat (first | (with_reducible first | exact HB.out | apply b1' | apply b2' | apply b3' | refine below_set ?_ GE161.out | refine below_set ?_ GE162.out) | exact HB.out))) : w.heap.size ≤ gb169)); have n6_ := Za ((by rw [hg]; exact Nat.ne_of_lt (blk_lt (g := gb161) (o := .cells #[.int .i64 a0_0, .int .i64 a0_1, .int .i64 a0_2, .bool a0_3, .int .i64 a0_4] 23 (0, 0)) (by (with_reducible repeat (first | refine k1' ?_ _ | refine k2' ?_ | refine k3' ?_ _)); exact BK161.out)) : gb161 ≠ gb169)); have n7_ := Za ((by rw [hg]; exact Nat.ne_of_gt (blk_lt (g := gb161) (o := .cells #[.int .i64 a0_0, .int .i64 a0_1, .int .i64 a0_2, .bool a0_3, .int .i64 a0_4] 23 (0, 0)) (by (with_reducible repeat (first | refine k1' ?_ _ | refine k2' ?_ | refine k3' ?_ _)); exact BK161.out)) : gb169 ≠ gb161)); have n8_ := Za ((by rw [hg]; exact Nat.ne_of_lt (blk_lt (g := gb162) (o := .cells #[.int .i64 0, .slice none 0 0] 45 (0, 0)) (by (with_reducible repeat (first | refine k1' ?_ _ | refine k2' ?_ | refine k3' ?_ _)); exact BK162.out)) : gb162 ≠ gb169)); have n9_ := Za ((by rw [hg]; exact Nat.ne_of_gt (blk_lt (g := gb162) (o := .cells #[.int .i64 0, .slice none 0 0] 45 (0, 0)) (by (with_reducible repeat (first | refine k1' ?_ _ | refine k2' ?_ | refine k3' ?_ _)); exact BK162.out)) : gb169 ≠ gb162)); clear BK161; clear BK162; clear HB; have BK161 := n0_; have BK162 := n1_; have HB := n2_; have BK169 := n3_; have GW169 := n4_; have GE169 := n5_; have NB161_169 := n6_; have NB169_161 := n7_; have NB162_169 := n8_; have NB169_162 := n9_; clear n0_ n1_ n2_ n3_ n4_ n5_ n6_ n7_ n8_ n9_; clear hb hbox hg; refine hK.out _ _ ⟨(Zc BK161.out 0).trans rfl, (Zc BK161.out 1).trans rfl, (Zc BK161.out 2).trans rfl, (Zc BK161.out 3).trans rfl, (Zc BK161.out 4).trans rfl⟩ (fun hHeld => ?_); clear hK K; refine n' ?_ ?_ ?_; rotate_left; (show Act.put _ (some 3) _ = _; simp only [Act.put, p1', p2', p3', w1', w2']; rfl); refine one_ (i := 6) (N := some 12) (B' 13 1151) rfl rfl (one_of HT_.out (by kernel_rfl)) (by decide) (fun K hK => ?_); refine goes_ Try.func86 (by kernel_rfl) rfl #[.int .i64 a0_4, .int .i64 (wrap64 (t163 + 1))] (by rfl) rfl rfl (by (try simp only [List.map_toArray, List.map_cons, List.map_nil]); first | done | rfl | (simp only [List.length_drop, List.length_take]; rfl)) ?_; (with_reducible refine (coder_New.calls a0_4 (wrap64 (t163 + 1)) t164 t165 t168 _ A3.out).mono ?_); rintro e w9 ⟨v166, rfl, ho0, hb⟩; refine ⟨_, rfl, ?_⟩; have n0_ := Za (Kd.R_lower ho0 (below_size (by repeat (first | (with_reducible first | exact HB.out | apply b1' | apply b2' | apply b3' | refine below_set ?_ GE161.out | refine below_set ?_ GE162.out | refine below_set ?_ GE169.out) | exact HB.out)))); have n1_ := Za (Zd (g := gb161) (o := .cells #[.int .i64 a0_0, .int .i64 a0_1, .int .i64 a0_2, .bool a0_3, .int .i64 a0_4] 23 (0, 0)) (by (with_reducible repeat (first | refine k1' ?_ _ | refine k2' ?_ | refine k3' ?_ _)); exact BK161.out) hb); have n2_ := Za (Zd (g := gb162) (o := .cells #[.int .i64 0, .slice none 0 0] 45 (0, 0)) (by (with_reducible repeat (first | refine k1' ?_ _ | refine k2' ?_ | refine k3' ?_ _)); exact BK162.out) hb); have n3_ := Za (Zd (g := gb169) (o := .cells #[.int .i64 0, .slice none 0 0] 45 (0, 0)) (by (with_reducible repeat (first | refine k1' ?_ _ | refine k2' ?_ | refine k3' ?_ _)); exact BK169.out) hb); have n4_ := Za (below_step (by repeat (first | (with_reducible first | exact HB.out | apply b1' | apply b2' | apply b3' | refine below_set ?_ GE161.out | refine below_set ?_ GE162.out | refine below_set ?_ GE169.out) | exact HB.out)) hb); clear BK161; clear BK162; clear BK169; clear HB; have HO167 := n0_; have BK161 := n1_; have BK162 := n2_; have BK169 := n3_; have HB := n4_; clear n0_ n1_ n2_ n3_ n4_; (try clear hb); (try clear hb2); (try clear hk); (try clear hi); (try clear ho0); refine hK.out _ _ ⟨(Zc BK161.out 0).trans rfl, (Zc BK161.out 1).trans rfl, (Zc BK161.out 2).trans rfl, (Zc BK161.out 3).trans rfl, (Zc BK161.out 4).trans rfl⟩ (fun hHeld => ?_); clear hK K; refine n' ?_ ?_ ?_; rotate_left; (show Act.put _ (some 12) _ = _; simp only [Act.put, p1', p2', p3', w1', w2']; rfl); refine pure_ (i := 7) (N := some 5) (v := ?_) (a' := ?_) (B' 13 1279) rfl rfl (any_of HT_.out (by kernel_rfl)) (fun _ _ _ h => h) (Or.inl ⟨by rfl, ?_⟩) ?_ ?_; rotate_left; (intro w'; go_simp; with_reducible rfl); rotate_left; (simp only [Act.put, p1', p2', p3', w1', w2']; rfl); refine pure_ (i := 8) (N := some 13) (v := ?_) (a' := ?_) (B' 13 1535) rfl rfl (any_of HT_.out (by kernel_rfl)) (fun _ _ _ h => h) (Or.inl ⟨by rfl, ?_⟩) ?_ ?_; rotate_left; (intro w'; go_simp; with_reducible rfl); rotate_left; (simp only [Act.put, p1', p2', p3', w1', w2']; rfl); refine pure_ (i := 9) (N := some 14) (v := ?_) (a' := ?_) (B' 13 2047) rfl rfl (any_of HT_.out (by kernel_rfl)) (fun _ _ _ h => h) (Or.inl ⟨by rfl, ?_⟩) ?_ ?_; rotate_left; (intro w'; go_simp; with_reducible rfl); rotate_left; (simp only [Act.put, p1', p2', p3', w1', w2']; rfl); exact norm_ (by simp only [putAll, Act.put, List.setIfInBounds_toArray, List.set_cons_zero, List.set_cons_succ]) (hCont (v166, gb169) _ ⟨hHeld, (by (with_reducible repeat (first | apply Kd.R_alloc | apply Kd.R_drewN | apply Kd.R_drew)); exact HO167.out), (by (with_reducible repeat (first | refine k1' ?_ _ | refine k2' ?_ | refine k3' ?_ _)); exact BK161.out), (by (with_reducible repeat (first | refine k1' ?_ _ | refine k2' ?_ | refine k3' ?_ _)); exact BK162.out), (by (with_reducible repeat (first | refine k1' ?_ _ | refine k2' ?_ | refine k3' ?_ _)); exact BK169.out), GW169.out, GE169.out, NB161_169.out, NB169_161.out, NB162_169.out, NB169_162.out, (by repeat (first | (with_reducible first | exact HB.out | apply b1' | apply b2' | apply b3' | refine below_set ?_ GE161.out | refine below_set ?_ GE162.out | refine below_set ?_ GE169.out) | exact HB.out))⟩))); (· skip; refine box_step ?hg (N := 3) ?hd (cs := #[.int .i64 0, .slice none 0 0]) (t := 45) ?hr ?_; (case hd => rfl); (case hg => rfl); (case hr => first | (go_simp; done) | (go_simp; rfl)); intro gb169 hg w7 hbox hb; have n0_ := Za (Zd (g := gb161) (o := .cells #[.int .i64 a0_0, .int .i64 a0_1, .int .i64 a0_2, .bool a0_3, .int .i64 a0_4] 23 (0, 0)) (by (with_reducible repeat (first | refine k1' ?_ _ | refine k2' ?_ | refine k3' ?_ _)); exact BK161.out) hb); have n1_ := Za (Zd (g := gb162) (o := .cells #[.int .i64 0, .slice none 0 0] 45 (0, 0)) (by (with_reducible repeat (first | refine k1' ?_ _ | refine k2' ?_ | refine k3' ?_ _)); exact BK162.out) hb); have n2_ := Za (below_step (by repeat (first | (with_reducible first | exact HB.out | apply b1' | apply b2' | apply b3' | refine below_set ?_ GE161.out | refine below_set ?_ GE162.out) | exact HB.out)) hb); have n3_ := Za (hbox); have n4_ := Za ((by rw [hg]; exact (below_size (by repeat (first | (with_reducible first | exact HB.out | apply b1' | apply b2' | apply b3' | refine below_set ?_ GE161.out | refine below_set ?_ GE162.out) | exact HB.out))) : w.heap.size ≤ gb169)); have n5_ := Za ((by rw [hg]; exact (below_size (by repeat (first | (with_reducible first | exact HB.out | apply b1' | apply b2' | apply b3' | refine below_set ?_ GE161.out | refine below_set ?_ GE162.out) | exact HB.out))) : w.heap.size ≤ gb169)); have n6_ := Za ((by rw [hg]; exact Nat.ne_of_lt (blk_lt (g := gb161) (o := .cells #[.int .i64 a0_0, .int .i64 a0_1, .int .i64 a0_2, .bool a0_3, .int .i64 a0_4] 23 (0, 0)) (by (with_reducible repeat (first | refine k1' ?_ _ | refine k2' ?_ | refine k3' ?_ _)); exact BK161.out)) : gb161 ≠ gb169)); have n7_ := Za ((by rw [hg]; exact Nat.ne_of_gt (blk_lt (g := gb161) (o := .cells #[.int .i64 a0_0, .int .i64 a0_1, .int .i64 a0_2, .bool a0_3, .int .i64 a0_4] 23 (0, 0)) (by (with_reducible repeat (first | refine k1' ?_ _ | refine k2' ?_ | refine k3' ?_ _)); exact BK161.out)) : gb169 ≠ gb161)); have n8_ := Za ((by rw [hg]; exact Nat.ne_of_lt (blk_lt (g := gb162) (o := .cells #[.int .i64 0, .slice none 0 0] 45 (0, 0)) (by (with_reducible repeat (first | refine k1' ?_ _ | refine k2' ?_ | refine k3' ?_ _)); exact BK162.out)) : gb162 ≠ gb169)); have n9_ := Za ((by rw [hg]; exact Nat.ne_of_gt (blk_lt (g := gb162) (o := .cells #[.int .i64 0, .slice none 0 0] 45 (0, 0)) (by (with_reducible repeat (first | refine k1' ?_ _ | refine k2' ?_ | refine k3' ?_ _)); exact BK162.out)) : gb169 ≠ gb162)); clear BK161; clear BK162; clear HB; have BK161 := n0_; have BK162 := n1_; have HB := n2_; have BK169 := n3_; have GW169 := n4_; have GE169 := n5_; have NB161_169 := n6_; have NB169_161 := n7_; have NB162_169 := n8_; have NB169_162 := n9_; clear n0_ n1_ n2_ n3_ n4_ n5_ n6_ n7_ n8_ n9_; clear hb hbox hg; refine hK.out _ _ ⟨(Zc BK161.out 0).trans rfl, (Zc BK161.out 1).trans rfl, (Zc BK161.out 2).trans rfl, (Zc BK161.out 3).trans rfl, (Zc BK161.out 4).trans rfl⟩ (fun hHeld => ?_); clear hK K; refine n' ?_ ?_ ?_; rotate_left; (show Act.put _ (some 3) _ = _; simp only [Act.put, p1', p2', p3', w1', w2']; rfl); refine one_ (i := 4) (N := some 10) (B' 13 1055) rfl rfl (one_of HT_.out (by kernel_rfl)) (by decide) (fun K hK => ?_); refine goes_ Try.func45 (by kernel_rfl) rfl #[.int .i64 a0_0] (by rfl) rfl rfl (by (try simp only [List.map_toArray, List.map_cons, List.map_nil]); first | done | rfl | (simp only [List.length_drop, List.length_take]; rfl)) ?_; (with_reducible refine (refine_contexts.calls a0_0 t163 _ A2.out).mono ?_); rintro e w8 ⟨rfl, hb⟩; refine ⟨_, rfl, ?_⟩; have n0_ := Za (Zd (g := gb161) (o := .cells #[.int .i64 a0_0, .int .i64 a0_1, .int .i64 a0_2, .bool a0_3, .int .i64 a0_4] 23 (0, 0)) (by (with_reducible repeat (first | refine k1' ?_ _ | refine k2' ?_ | refine k3' ?_ _)); exact BK161.out) hb); have n1_ := Za (Zd (g := gb162) (o := .cells #[.int .i64 0, .slice none 0 0] 45 (0, 0)) (by (with_reducible repeat (first | refine k1' ?_ _ | refine k2' ?_ | refine k3' ?_ _)); exact BK162.out) hb); have n2_ := Za (Zd (g := gb169) (o := .cells #[.int .i64 0, .slice none 0 0] 45 (0, 0)) (by (with_reducible repeat (first | refine k1' ?_ _ | refine k2' ?_ | refine k3' ?_ _)); exact BK169.out) hb); have n3_ := Za (below_step (by repeat (first | (with_reducible first | exact HB.out | apply b1' | apply b2' | apply b3' | refine below_set ?_ GE161.out | refine below_set ?_ GE162.out | refine below_set ?_ GE169.out) | exact HB.out)) hb); clear BK161; clear BK162; clear BK169; clear HB; have BK161 := n0_; have BK162 := n1_; have BK169 := n2_; have HB := n3_; clear n0_ n1_ n2_ n3_; (try clear hb); (try clear hb2); (try clear hk); (try clear hi); refine hK.out _ _ ⟨(Zc BK161.out 0).trans rfl, (Zc BK161.out 1).trans rfl, (Zc BK161.out 2).trans rfl, (Zc BK161.out 3).trans rfl, (Zc BK161.out 4).trans rfl⟩ (fun hHeld => ?_); clear hK K; refine n' ?_ ?_ ?_; rotate_left; (show Act.put _ (some 10) _ = _; simp only [Act.put, p1', p2', p3', w1', w2']; rfl); refine pure_ (i := 5) (N := some 11) (v := ?_) (a' := ?_) (B' 13 1087) rfl rfl (any_of HT_.out (by kernel_rfl)) (fun _ _ _ h => h) (Or.inl ⟨by rfl, ?_⟩) ?_ ?_; rotate_left; (intro w'; go_simp; with_reducible rfl); rotate_left; (simp only [Act.put, p1', p2', p3', w1', w2']; rfl); refine one_ (i := 6) (N := some 12) (B' 13 1151) rfl rfl (one_of HT_.out (by kernel_rfl)) (by decide) (fun K hK => ?_); refine goes_ Try.func86 (by kernel_rfl) rfl #[.int .i64 a0_4, .int .i64 (wrap64 (t163 + 1))] (by rfl) rfl rfl (by (try simp only [List.map_toArray, List.map_cons, List.map_nil]); first | done | rfl | (simp only [List.length_drop, List.length_take]; rfl)) ?_; (with_reducible refine (coder_New.calls a0_4 (wrap64 (t163 + 1)) t164 t165 t168 _ A3.out).mono ?_); rintro e w9 ⟨v166, rfl, ho0, hb⟩; refine ⟨_, rfl, ?_⟩; have n0_ := Za (Kd.R_lower ho0 (below_size (by repeat (first | (with_reducible first | exact HB.out | apply b1' | apply b2' | apply b3' | refine below_set ?_ GE161.out | refine below_set ?_ GE162.out | refine below_set ?_ GE169.out) | exact HB.out)))); have n1_ := Za (Zd (g := gb161) (o := .cells #[.int .i64 a0_0, .int .i64 a0_1, .int .i64 a0_2, .bool a0_3, .int .i64 a0_4] 23 (0, 0)) (by (with_reducible repeat (first | refine k1' ?_ _ | refine k2' ?_ | refine k3' ?_ _)); exact BK161.out) hb); have n2_ := Za (Zd (g := gb162) (o := .cells #[.int .i64 0, .slice none 0 0] 45 (0, 0)) (by (with_reducible repeat (first | refine k1' ?_ _ | refine k2' ?_ | refine k3' ?_ _)); exact BK162.out) hb); have n3_ := Za (Zd (g := gb169) (o := .cells #[.int .i64 0, .slice none 0 0] 45 (0, 0)) (by (with_reducible repeat (first | refine k1' ?_ _ | refine k2' ?_ | refine k3' ?_ _)); exact BK169.out) hb); have n4_ := Za (below_step (by repeat (first | (with_reducible first | exact HB.out | apply b1' | apply b2' | apply b3' | refine below_set ?_ GE161.out | refine below_set ?_ GE162.out | refine below_set ?_ GE169.out) | exact HB.out)) hb); clear BK161; clear BK162; clear BK169; clear HB; have HO167 := n0_; have BK161 := n1_; have BK162 := n2_; have BK169 := n3_; have HB := n4_; clear n0_ n1_ n2_ n3_ n4_; (try clear hb); (try clear hb2); (try clear hk); (try clear hi); (try clear ho0); refine hK.out _ _ ⟨(Zc BK161.out 0).trans rfl, (Zc BK161.out 1).trans rfl, (Zc BK161.out 2).trans rfl, (Zc BK161.out 3).trans rfl, (Zc BK161.out 4).trans rfl⟩ (fun hHeld => ?_); clear hK K; refine n' ?_ ?_ ?_; rotate_left; (show Act.put _ (some 12) _ = _; simp only [Act.put, p1', p2', p3', w1', w2']; rfl); refine pure_ (i := 7) (N := some 5) (v := ?_) (a' := ?_) (B' 13 1279) rfl rfl (any_of HT_.out (by kernel_rfl)) (fun _ _ _ h => h) (Or.inl ⟨by rfl, ?_⟩) ?_ ?_; rotate_left; (intro w'; go_simp; with_reducible rfl); rotate_left; (simp only [Act.put, p1', p2', p3', w1', w2']; rfl); refine pure_ (i := 8) (N := some 13) (v := ?_) (a' := ?_) (B' 13 1535) rfl rfl (any_of HT_.out (by kernel_rfl)) (fun _ _ _ h => h) (Or.inl ⟨by rfl, ?_⟩) ?_ ?_; rotate_left; (intro w'; go_simp; with_reducible rfl); rotate_left; (simp only [Act.put, p1', p2', p3', w1', w2']; rfl); refine pure_ (i := 9) (N := some 14) (v := ?_) (a' := ?_) (B' 13 2047) rfl rfl (any_of HT_.out (by kernel_rfl)) (fun _ _ _ h => h) (Or.inl ⟨by rfl, ?_⟩) ?_ ?_; rotate_left; (intro w'; go_simp; with_reducible rfl); rotate_left; (simp only [Act.put, p1', p2', p3', w1', w2']; rfl); exact norm_ (by simp only [putAll, Act.put, List.setIfInBounds_toArray, List.set_cons_zero, List.set_cons_succ]) (hCont (v166, gb169) _ ⟨hHeld, (by (with_reducible repeat (first | apply Kd.R_alloc | apply Kd.R_drewN | apply Kd.R_drew)); exact HO167.out), (by (with_reducible repeat (first | refine k1' ?_ _ | refine k2' ?_ | refine k3' ?_ _)); exact BK161.out), (by (with_reducible repeat (first | refine k1' ?_ _ | refine k2' ?_ | refine k3' ?_ _)); exact BK162.out), (by (with_reducible repeat (first | refine k1' ?_ _ | refine k2' ?_ | refine k3' ?_ _)); exact BK169.out), GW169.out, GE169.out, NB161_169.out, NB169_161.out, NB162_169.out, NB169_162.out, (by repeat (first | (with_reducible first | exact HB.out | apply b1' | apply b2' | apply b3' | refine below_set ?_ GE161.out | refine below_set ?_ GE162.out | refine below_set ?_ GE169.out) | exact HB.out))⟩)))
 rintro ⟨v166, gb169⟩ w10 ⟨hS_, h0_, h1_, h2_, h3_, h4_, h5_, h6_, h7_, h8_, h9_, h10_⟩; have n0_ : Aside0 (Kd.R (Kd.int .i64) 3 w10 w.heap.size (fun _ => True) v166 t165) := ⟨h0_⟩; have n1_ : Aside0 (w10.heap[gb161]? = some (.cells #[.int .i64 a0_0, .int .i64 a0_1, .int .i64 a0_2, .bool a0_3, .int .i64 a0_4] 23 (0, 0))) := ⟨h1_⟩; have n2_ : Aside0 (w10.heap[gb162]? = some (.cells #[.int .i64 0, .slice none 0 0] 45 (0, 0))) := ⟨h2_⟩; have n3_ : Aside0 (w10.heap[gb169]? = some (.cells #[.int .i64 0, .slice none 0 0] 45 (0, 0))) := ⟨h3_⟩; have n4_ : Aside0 (w.heap.size ≤ gb169) := ⟨h4_⟩; have n5_ : Aside0 (w.heap.size ≤ gb169) := ⟨h5_⟩; have n6_ : Aside0 (gb161 ≠ gb169) := ⟨h6_⟩; have n7_ : Aside0 (gb169 ≠ gb161) := ⟨h7_⟩; have n8_ : Aside0 (gb162 ≠ gb169) := ⟨h8_⟩; have n9_ : Aside0 (gb169 ≠ gb162) := ⟨h9_⟩; have n10_ : Aside0 (Below w.heap.size w w10) := ⟨h10_⟩; clear BK161; clear BK162; clear HB; clear h0_ h1_ h2_ h3_ h4_ h5_ h6_ h7_ h8_ h9_ h10_; have HO167 := n0_; have BK161 := n1_; have BK162 := n2_; have BK169 := n3_; have GW169 := n4_; have GE169 := n5_; have NB161_169 := n6_; have NB169_161 := n7_; have NB162_169 := n8_; have NB169_162 := n9_; have HB := n10_; clear n0_ n1_ n2_ n3_ n4_ n5_ n6_ n7_ n8_ n9_ n10_
 have hHeld : w10.cell? ⟨gb161, 0, none⟩ = some (.int .i64 a0_0) ∧ w10.cell? ⟨gb161, 1, none⟩ = some (.int .i64 a0_1) ∧ w10.cell? ⟨gb161, 2, none⟩ = some (.int .i64 a0_2) ∧ w10.cell? ⟨gb161, 3, none⟩ = some (.bool a0_3) ∧ w10.cell? ⟨gb161, 4, none⟩ = some (.int .i64 a0_4) := hS_; obtain ⟨Ao12, co12, eo12⟩ := Kd.R_slice HO167.out; (first | subst eo12 | (injection eo12 with f1_ f2_ f3_; have f4_ := f1_.symm; have f5_ := f3_.symm; clear f1_ f2_ f3_; subst f4_; subst f5_)); refine norm_ (a' := ?_) ?_ ?_; rotate_left; (· simp only [putAll, Act.put, List.setIfInBounds_toArray, List.set_cons_zero, List.set_cons_succ]; rfl); refine one_ (i := 11) (N := none) (B' 13 4095) rfl rfl (one_of HT_.out (by kernel_rfl)) (by decide) (fun K hK => ?_); have hs11 : w10.cell? ⟨gb169, 0, none⟩ = some (.int .i64 0) := (Zc BK169.out 0).trans rfl; have hfs11 := Zf BK169.out 0; have hns11_0 := NB161_169.out; have hns11_1 := NB162_169.out; have hms11_0 := NB169_161.out; have hms11_1 := NB169_162.out; have hs13 : w10.cell? ⟨gb169, 1, none⟩ = some (.slice none 0 0) := (Zc BK169.out 1).trans rfl; have hfs13 := Zf BK169.out 1; have hns13_0 := NB161_169.out; have hns13_1 := NB162_169.out; have hms13_0 := NB169_161.out; have hms13_1 := NB169_162.out; refine skip_ (w1 := ?_) (by rfl) rfl ?_ ?_; rotate_left; (· go_simp; rfl)
 refine hK.out _ _ ⟨((cell_far (p := ⟨gb169, _, none⟩) NB161_169.out _).trans (((cell_far (p := ⟨gb169, _, none⟩) NB161_169.out _).trans (hHeld.1)))), ((cell_far (p := ⟨gb169, _, none⟩) NB161_169.out _).trans (((cell_far (p := ⟨gb169, _, none⟩) NB161_169.out _).trans (hHeld.2.1)))), ((cell_far (p := ⟨gb169, _, none⟩) NB161_169.out _).trans (((cell_far (p := ⟨gb169, _, none⟩) NB161_169.out _).trans (hHeld.2.2.1)))), ((cell_far (p := ⟨gb169, _, none⟩) NB161_169.out _).trans (((cell_far (p := ⟨gb169, _, none⟩) NB161_169.out _).trans (hHeld.2.2.2.1)))), ((cell_far (p := ⟨gb169, _, none⟩) NB161_169.out _).trans (((cell_far (p := ⟨gb169, _, none⟩) NB161_169.out _).trans (hHeld.2.2.2.2))))⟩ (fun hHeld => ?_); clear hK K; refine pure_ (i := 12) (N := some 4) (v := ?_) (a' := ?_) (B' 13 8191) rfl rfl (any_of HT_.out (by kernel_rfl)) (fun _ _ _ h => h) (Or.inl ⟨by rfl, ?_⟩) ?_ ?_; rotate_left; (intro w'; go_simp; with_reducible rfl); rotate_left; (simp only [Act.put, p1', p2', p3', w1', w2']; rfl); refine done_ (done_of HT_.out (by kernel_rfl)) ?_; have hnb14 := NB169_161.out; have hnc14 := NB161_169.out; have hnb15 := NB169_162.out; have hnc15 := NB162_169.out; have hcz16_0 : w10.cell? ⟨gb169, 0, none⟩ = some (.int .i64 0) := (Zc BK169.out 0).trans rfl; have hcz16_1 : w10.cell? ⟨gb169, 1, none⟩ = some (.slice none 0 0) := (Zc BK169.out 1).trans rfl; have hfz16_0 := Zf BK169.out 0; have hfz16_1 := Zf BK169.out 1; have hnb17 := NB162_161.out; have hnc17 := NB161_162.out
 have hcz18_0 : w10.cell? ⟨gb162, 0, none⟩ = some (.int .i64 0) := (Zc BK162.out 0).trans rfl; have hcz18_1 : w10.cell? ⟨gb162, 1, none⟩ = some (.slice none 0 0) := (Zc BK162.out 1).trans rfl; have hfz18_0 := Zf BK162.out 0; have hfz18_1 := Zf BK162.out 1; (try go_wp2); refine bodyPost_ret (results_cell_row rfl _ _ gb162 45 #[.int .i64 t164, .slice Ao12 t165.length co12] (0, 0) _ rfl (by (with_reducible repeat (first | refine k1' ?_ _ | refine k2' ?_ | refine k3' ?_ _)); refine blk_put (cs := #[.int .i64 t164, .slice none 0 0]) ?_ 1 _ rfl; (with_reducible repeat (first | refine k1' ?_ _ | refine k2' ?_ | refine k3' ?_ _)); refine blk_put (cs := #[.int .i64 0, .slice none 0 0]) ?_ 0 _ rfl; (with_reducible repeat (first | refine k1' ?_ _ | refine k2' ?_ | refine k3' ?_ _)); refine blk_far ?_ NB162_169.out _; (with_reducible repeat (first | refine k1' ?_ _ | refine k2' ?_ | refine k3' ?_ _)); refine blk_far ?_ NB162_169.out _; (with_reducible repeat (first | refine k1' ?_ _ | refine k2' ?_ | refine k3' ?_ _)); exact BK162.out) Try.underlying45 rfl (by kernel_rfl)) rfl ?_
 (exact ⟨_, by first | rfl | (simp [errW_none, errW_some] <;> rfl) | (simp [*, errW_none, errW_some] <;> rfl), by (with_reducible repeat (first | apply Kd.R_alloc | apply Kd.R_drewN | apply Kd.R_drew)); exact Kd.R_mono (Kd.R_far (p := ⟨gb162, 1, none⟩) (Kd.R_far (p := ⟨gb162, 0, none⟩) (Kd.R_far (p := ⟨gb169, 1, none⟩) (Kd.R_far (p := ⟨gb169, 0, none⟩) (Kd.R_types (Kd.R_types HO167.out BK169.out (by decide)) BK162.out (by decide)) (fun _ hk => hk.1.2) (.int .i64 t164)) (fun _ hk => hk.1.2) (.slice Ao12 t165.length co12)) (fun _ hk => hk.2) (.int .i64 t164)) (fun _ hk => hk.2) (.slice Ao12 t165.length co12)) (fun _ hk => trivial), by repeat (first | (with_reducible first | exact HB.out | apply b1' | apply b2' | apply b3' | refine below_set ?_ GE161.out | refine below_set ?_ GE162.out | refine below_set ?_ GE169.out) | exact HB.out)⟩)
def incunableref08_fresh.f (a0_0 : Int) (a0_1 : Int) (a0_2 : Int) (a0_3 : Bool) (a0_4 : Int) : Option (Int × List Int) := (incunableref08_size.f a0_0).bind fun t299 => (if 0 ≤ t299 then (if (t299 : Int).toNat ≤ 35184372088832 then (some (a0_4, (List.replicate (t299 : Int).toNat 0))) else (none)) else (none))
def incunableref08_asked.f (a0_0 : Int) (a0_1 : Int) (a0_2 : Int) (a0_3 : Bool) (a0_4 : Int) (a1 : Bool) (a2 : Int) (a3_0 : Int) (l3_1 : List Int) : Option (Int) := (incunableref08_Valid.f a0_0 a0_1 a0_2 a0_3 a0_4).bind fun t273 => (if t273 = true then (if a1 = true then (if a2 < 0 then (some 2) else ((incunableref08_size.f a0_0).bind fun t274 => (if a2 > (wrap64 ((l3_1.length : Int) - t274)) then (some 2) else (some 0)))) else (some 30)) else (some 2))
def refine_Size.f (a0 : Int) : Option (Int × Int) := if a0 = 0 then ((refine_contexts.f a0).bind fun t110 => (some (wrap64 (t110 + 1), 0))) else (if a0 = 1 then ((refine_contexts.f a0).bind fun t111 => (some (wrap64 (t111 + 1), 0))) else (some (0, 2)))
set_option maxHeartbeats 8000000 in
set_option maxRecDepth 100000 in
theorem refine_Size.calls (a0 : Int) (r1 : Int) (r2 : Int) (w : World) (h : refine_Size.f a0 = some (r1, r2)) :
 Calls Try.prog 11 #[.int .i64 a0] w fun e w' => e = .returned (.tuple #[.int .i64 r1, .int .i64 r2]) ∧ Below w.heap.size w w' := by
 have HB := Za (Below.refl w.heap.size w); have H : (if a0 = 0 then ((refine_contexts.f a0).bind fun t110 => (some (wrap64 (t110 + 1), 0))) else (if a0 = 1 then ((refine_contexts.f a0).bind fun t111 => (some (wrap64 (t111 + 1), 0))) else (some (0, 2)))) = some (r1, r2) := h; clear h; by_cases c2 : a0 = 0
 (· rw [if_pos c2] at H; have c2b0 : (a0 == 0) = true := beq_iff_eq.mpr c2; have c2b1 : (a0 != 0) = false := bne_eq_false_iff_eq.mpr c2; clear c2; replace H := Option.bind_eq_some_iff.mp H; obtain ⟨t110, A30, H⟩ := H; replace H : (some (wrap64 (t110 + 1), 0)) = some (r1, r2) := H; have A3 := Za A30; clear A30; simp only [Option.some.injEq, Prod.mk.injEq] at H; obtain ⟨rfl, rfl⟩ := H; go_enter Try.func11, Try.ntmps11; go_wp2_with (first | ((with_reducible refine gate_callee (f := 45) rfl ?_); refine goesL_ (some 11) rfl rfl Try.func45 (by kernel_rfl) rfl #[.int .i64 a0] rfl (by (try simp only [List.map_toArray, List.map_cons, List.map_nil]); first | done | rfl | (simp only [List.length_drop, List.length_take]; rfl)) ?_; (with_reducible refine (refine_contexts.calls a0 t110 _ A3.out).mono ?_); rintro e w4 ⟨rfl, hb⟩; refine ⟨_, rfl, ?_⟩; have n0_ := Za (below_step (by repeat (first | (with_reducible first | exact HB.out | apply b1' | apply b2' | apply b3') | exact HB.out)) hb); clear HB; have HB := n0_; clear n0_; (try clear hb); (try clear hb2); (try clear hk); (try clear hi))); go_ret2; (exact ⟨by first | rfl | (simp [errW_none, errW_some] <;> rfl) | (simp [*, errW_none, errW_some] <;> rfl), by repeat (first | (with_reducible first | exact HB.out | apply b1' | apply b2' | apply b3') | exact HB.out)⟩))
 (· rw [if_neg c2] at H; have c2b0 : (a0 == 0) = false := beq_eq_false_iff_ne.mpr c2; have c2b1 : (a0 != 0) = true := bne_iff_ne.mpr c2; by_cases c5 : a0 = 1; (· rw [if_pos c5] at H; have c5b0 : (a0 == 1) = true := beq_iff_eq.mpr c5; have c5b1 : (a0 != 1) = false := bne_eq_false_iff_eq.mpr c5; clear c5; replace H := Option.bind_eq_some_iff.mp H; obtain ⟨t111, A60, H⟩ := H; replace H : (some (wrap64 (t111 + 1), 0)) = some (r1, r2) := H; have A6 := Za A60; clear A60; simp only [Option.some.injEq, Prod.mk.injEq] at H; obtain ⟨rfl, rfl⟩ := H; go_enter Try.func11, Try.ntmps11; go_wp2_with (first | ((with_reducible refine gate_callee (f := 45) rfl ?_); refine goesL_ (some 11) rfl rfl Try.func45 (by kernel_rfl) rfl #[.int .i64 a0] rfl (by (try simp only [List.map_toArray, List.map_cons, List.map_nil]); first | done | rfl | (simp only [List.length_drop, List.length_take]; rfl)) ?_; (with_reducible refine (refine_contexts.calls a0 t111 _ A6.out).mono ?_); rintro e w7 ⟨rfl, hb⟩; refine ⟨_, rfl, ?_⟩; have n0_ := Za (below_step (by repeat (first | (with_reducible first | exact HB.out | apply b1' | apply b2' | apply b3') | exact HB.out)) hb); clear HB; have HB := n0_; clear n0_; (try clear hb); (try clear hb2); (try clear hk); (try clear hi))); go_ret2; (exact ⟨by first | rfl | (simp [errW_none, errW_some] <;> rfl) | (simp [*, errW_none, errW_some] <;> rfl), by repeat (first | (with_reducible first | exact HB.out | apply b1' | apply b2' | apply b3') | exact HB.out)⟩)); (· rw [if_neg c5] at H; have c5b0 : (a0 == 1) = false := beq_eq_false_iff_ne.mpr c5; have c5b1 : (a0 != 1) = true := bne_iff_ne.mpr c5; simp only [Option.some.injEq, Prod.mk.injEq] at H; obtain ⟨rfl, rfl⟩ := H; go_enter Try.func11, Try.ntmps11; go_wp2; go_ret2; (exact ⟨by first | rfl | (simp [errW_none, errW_some] <;> rfl) | (simp [*, errW_none, errW_some] <;> rfl), by repeat (first | (with_reducible first | exact HB.out | apply b1' | apply b2' | apply b3') | exact HB.out)⟩)))
def incunableref08_Size.f (a0 : Int) : Option (Int × Int) := if a0 < 0 then (some (0, 2)) else (if a0 > 1 then (some (0, 2)) else ((incunableref08_size.f a0).bind fun t112 => (some (t112, 0))))
def refine_beside.f  : Option ((List (S127))) := some (([(⟨0, 0⟩ : S127), (⟨(-1), 0⟩ : S127), (⟨1, 0⟩ : S127), (⟨0, (-1)⟩ : S127), (⟨0, 1⟩ : S127)] : List (S127)))
set_option maxHeartbeats 8000000 in
set_option maxRecDepth 100000 in
theorem refine_beside.calls  (r : List (S127)) (w : World) (h : refine_beside.f  = some r) :
 Calls Try.prog 89 #[] w fun e w' => ∃ v0_ : Value, e = .returned (v0_) ∧ Kd.R k127 127 w' w.heap.size (fun _ => True) v0_ r ∧ Below w.heap.size w w' := by
 have hu127 := Try.underlying127; have HB := Za (Below.refl w.heap.size w); have H : (some (([(⟨0, 0⟩ : S127), (⟨(-1), 0⟩ : S127), (⟨1, 0⟩ : S127), (⟨0, (-1)⟩ : S127), (⟨0, 1⟩ : S127)] : List (S127)))) = some r := h; clear h; obtain ⟨y139, hy139⟩ : ∃ y_ : List (S127), y_ = (([(⟨0, 0⟩ : S127), (⟨(-1), 0⟩ : S127), (⟨1, 0⟩ : S127), (⟨0, (-1)⟩ : S127), (⟨0, 1⟩ : S127)] : List (S127))) := ⟨_, rfl⟩; (replace H : (some y139) = some r := by first | (rw [hy139]; with_reducible exact H) | (have H2_ := (Option.bind_some _ _).symm.trans H; rw [hy139]; with_reducible exact H2_) | (have H2_ := (Option.bind_some _ _).symm.trans H; with_reducible exact H2_) | with_reducible exact H | (rw [hy139]; exact H) | exact H); have Ny139 := Za hy139; clear hy139; obtain rfl := Option.some.inj H; go_enter Try.func89, Try.ntmps89
 go_wp2_with (first | ((with_reducible refine gate_dst (N := 6) rfl ?_); refine Kd.R_lit k127 _ 127 ?hg (N := 6) ?hd (xs := ([(⟨0, 0⟩ : S127), (⟨(-1), 0⟩ : S127), (⟨1, 0⟩ : S127), (⟨0, (-1)⟩ : S127), (⟨0, 1⟩ : S127)] : List (S127))) (inner := [.int .i64 0, .int .i64 0, .int .i64 (-1), .int .i64 0, .int .i64 1, .int .i64 0, .int .i64 0, .int .i64 (-1), .int .i64 0, .int .i64 1]) (ok := fun _ => True) (okp := fun _ => True) ?hr ?hp (fun _ hk => hk) trivial (Below.refl _ _) (Nat.le_refl _) (by simp) ?_; (case hd => rfl); (case hg => rfl); (case hr => first | (go_simp; done) | (go_simp; rfl)); (case hp => exact (Reps.c2 (show Kd.M k127 _ _ _ (⟨0, 0⟩ : S127) [.int .i64 0, .int .i64 0] from (k127_mkM _ _ _ (⟨0, 0⟩ : S127) )) (Reps.c2 (show Kd.M k127 _ _ _ (⟨(-1), 0⟩ : S127) [.int .i64 (-1), .int .i64 0] from (k127_mkM _ _ _ (⟨(-1), 0⟩ : S127) )) (Reps.c2 (show Kd.M k127 _ _ _ (⟨1, 0⟩ : S127) [.int .i64 1, .int .i64 0] from (k127_mkM _ _ _ (⟨1, 0⟩ : S127) )) (Reps.c2 (show Kd.M k127 _ _ _ (⟨0, (-1)⟩ : S127) [.int .i64 0, .int .i64 (-1)] from (k127_mkM _ _ _ (⟨0, (-1)⟩ : S127) )) (Reps.c2 (show Kd.M k127 _ _ _ (⟨0, 1⟩ : S127) [.int .i64 0, .int .i64 1] from (k127_mkM _ _ _ (⟨0, 1⟩ : S127) )) (Reps.none _ _))))))); intro v140 w1 ho2 hb hg_ hnew_; clear hg_ hnew_; (first | rw [← Ny139.out] at ho2 | (simp only [Int.reduceToNat] at ho2; rw [← Ny139.out] at ho2)); have n0_ := Za (Kd.R_lower ho2 (below_size (by repeat (first | (with_reducible first | exact HB.out | apply b1' | apply b2' | apply b3') | exact HB.out)))); have n1_ := Za (below_step (by repeat (first | (with_reducible first | exact HB.out | apply b1' | apply b2' | apply b3') | exact HB.out)) hb); clear HB; have HO141 := n0_; have HB := n1_; clear n0_ n1_; clear hb ho2))
 go_ret; (exact ⟨_, by first | rfl | (simp [errW_none, errW_some] <;> rfl) | (simp [*, errW_none, errW_some] <;> rfl), by (with_reducible repeat (first | apply Kd.R_alloc | apply Kd.R_drewN | apply Kd.R_drew)); exact HO141.out, by repeat (first | (with_reducible first | exact HB.out | apply b1' | apply b2' | apply b3') | exact HB.out)⟩)
def incunableref02_SameBytes.l0 : Nat → List Int → List Int → Int → Int → Option (Bool)
 | 0, _, _, _, _ => none
 | k + 1, x0, x1, x12, x13 => if x13 < x12 then (if 0 ≤ x13 then (if x13 < (x0.length : Int) then (if x13 < (x1.length : Int) then (if (rd x0 x13) = (rd x1 x13) then (incunableref02_SameBytes.l0 k x0 x1 x12 (wrap64 (x13 + 1))) else (some false)) else (none)) else (none)) else (none)) else (some true)
def incunableref02_SameBytes.f (k : Nat) (l0 : List Int) (l1 : List Int) : Option (Bool) := if (l0.length : Int) = (l1.length : Int) then (incunableref02_SameBytes.l0 k l0 l1 (l0.length : Int) 0) else (some false)
theorem incunableref02_SameBytes.mono_l : ∀ k, (∀ y0 y1 y2 y3, LeO (incunableref02_SameBytes.l0 k y0 y1 y2 y3) (incunableref02_SameBytes.l0 (k + 1) y0 y1 y2 y3))
 | 0 => fun _ _ _ _ r h => by simp [incunableref02_SameBytes.l0] at h
 | k + 1 => by
   have ih0 := incunableref02_SameBytes.mono_l k
   · intro y0 y1 y2 y3
     unfold incunableref02_SameBytes.l0
     repeat' first
     | (with_reducible exact ih0 _ _ _ _)
     | (with_reducible exact LeO.refl _)
     | (with_reducible exact LeO.none _)
     | (with_reducible refine LeO.ite ?_ ?_)
     | (with_reducible refine LeO.bind ?_ (fun _ => ?_))
     | exact ih0 _ _ _ _
     | exact LeO.none _
     | refine LeO.ite ?_ ?_
     | refine LeO.bind ?_ (fun _ => ?_)
theorem incunableref02_SameBytes.mono : ∀ a0 a1 k, LeO (incunableref02_SameBytes.f k a0 a1) (incunableref02_SameBytes.f (k + 1) a0 a1) := by
 intro a0 a1 k; have ih0 := incunableref02_SameBytes.mono_l k; unfold incunableref02_SameBytes.f
 repeat' first
  | (with_reducible exact ih0 _ _ _ _)
  | (with_reducible exact LeO.refl _)
  | (with_reducible exact LeO.none _)
  | (with_reducible refine LeO.ite ?_ ?_)
  | (with_reducible refine LeO.bind ?_ (fun _ => ?_))
  | exact ih0 _ _ _ _
  | exact LeO.none _
  | refine LeO.ite ?_ ?_
  | refine LeO.bind ?_ (fun _ => ?_)
set_option maxHeartbeats 8000000 in
set_option maxRecDepth 100000 in
theorem incunableref02_SameBytes.calls (k : Nat) (A0 : Option Addr) (c0 : Nat) (l0 : List Int) (A1 : Option Addr) (c1 : Nat) (l1 : List Int) (r : Bool) (w : World) (hr0 : Kd.C (Kd.int .u8) w A0 l0.length l0) (hc0 : l0.length ≤ c0) (hr1 : Kd.C (Kd.int .u8) w A1 l1.length l1) (hc1 : l1.length ≤ c1) (h : incunableref02_SameBytes.f k l0 l1 = some r) :
 Calls Try.prog 18 #[.slice A0 l0.length c0, .slice A1 l1.length c1] w fun e w' => e = .returned (.bool r) ∧ Drawn0 w w' := by
 have HR0 := Za hr0; have HC0 := Za hc0; clear hr0 hc0; have HR1 := Za hr1; have HC1 := Za hc1; clear hr1 hc1; have H : (if (l0.length : Int) = (l1.length : Int) then (incunableref02_SameBytes.l0 k l0 l1 (l0.length : Int) 0) else (some false)) = some r := h; clear h; by_cases c3 : (l0.length : Int) = (l1.length : Int)
 · rw [if_pos c3] at H
   have c3b0 : ((l0.length : Int) == (l1.length : Int)) = true := beq_iff_eq.mpr c3; have c3b1 : ((l0.length : Int) != (l1.length : Int)) = false := bne_eq_false_iff_eq.mpr c3; (have c3b2 : (l0.length == l1.length) = true := by first | simpa using c3 | (simp at c3 ⊢; omega)); clear c3; have H' := Za H; clear H; go_enter Try.func18, Try.ntmps18; go_wp2; (repeat (go_quiet (fail); try go_wp2)); go_loopg [13] k (fun kq v13 w' => ∃ (x13_1 : Int), v13 = .int .i64 x13_1 ∧ Aside0 (incunableref02_SameBytes.l0 kq l0 l1 (l0.length : Int) x13_1 = some r) ∧ Aside0 (kq ≤ k) ∧ Drawn0 w w'); (case atStart => exact ⟨(0), (by first | rfl | (simp; done) | (simp [*]; done)), H', ⟨Nat.le_refl _⟩, by repeat (first | exact Drawn0.refl _ | apply Drawn0.step)⟩)
   case round =>
    clear H'; (try clear c1); (try clear p2); (try clear c3); (try clear c3b0); (try clear c3b1); (try clear c3b2); obtain ⟨x13_1, rfl, HA, HK1, ⟨m1, rfl⟩⟩ := hrel
    cases gk with
    | zero => exact absurd HA.out (by simp [incunableref02_SameBytes.l0])
    | succ k1 =>
     have H := HA.out; clear HA; simp only [incunableref02_SameBytes.l0] at H; by_cases c4 : x13_1 < (l0.length : Int)
     (· rw [if_pos c4] at H; have c4b0 : decide (x13_1 < (l0.length : Int)) = true := decide_eq_true c4; clear c4; by_cases c5 : 0 ≤ x13_1; (· rw [if_pos c5] at H; have c5b0 : decide (0 ≤ x13_1) = true := decide_eq_true c5; clear c5; by_cases c6 : x13_1 < (l0.length : Int); (· rw [if_pos c6] at H; have c6b0 : decide (x13_1 < (l0.length : Int)) = true := decide_eq_true c6; clear c6; by_cases c7 : x13_1 < (l1.length : Int); (· rw [if_pos c7] at H; have c7b0 : decide (x13_1 < (l1.length : Int)) = true := decide_eq_true c7; clear c7; by_cases c8 : (rd l0 x13_1) = (rd l1 x13_1); (· rw [if_pos c8] at H; have c8b0 : ((rd l0 x13_1) == (rd l1 x13_1)) = true := beq_iff_eq.mpr c8; have c8b1 : ((rd l0 x13_1) != (rd l1 x13_1)) = false := bne_eq_false_iff_eq.mpr c8; clear c8; have H' := Za H; clear H; have p313 : 0 ≤ (x13_1 : Int) := of_decide_eq_true (by first | (with_reducible assumption) | assumption); have q313 : x13_1 < (l0.length : Int) := of_decide_eq_true (by first | (with_reducible assumption) | assumption); obtain ⟨ad313, e313, hx313_0⟩ := Kd.at_int HR0.out x13_1 p313 q313; cases e313; replace p313 := eq_true p313; replace q313 := eq_true q313; have p314 : 0 ≤ (x13_1 : Int) := of_decide_eq_true (by first | (with_reducible assumption) | assumption); have q314 : x13_1 < (l1.length : Int) := of_decide_eq_true (by first | (with_reducible assumption) | assumption); obtain ⟨ad314, e314, hx314_0⟩ := Kd.at_int HR1.out x13_1 p314 q314; cases e314; replace p314 := eq_true p314; replace q314 := eq_true q314; go_wp2; (repeat (go_quiet (fail); try go_wp2)); go_roundg k1; (case measure => have := HK1.out; omega); (case rel => exact ⟨(wrap64 (x13_1 + 1)), (by first | rfl | (simp; done) | (simp [*]; done)), H', ⟨by have := HK1.out; omega⟩, by repeat (first | exact Drawn0.refl _ | apply Drawn0.step)⟩)); (· rw [if_neg c8] at H; have c8b0 : ((rd l0 x13_1) == (rd l1 x13_1)) = false := beq_eq_false_iff_ne.mpr c8; have c8b1 : ((rd l0 x13_1) != (rd l1 x13_1)) = true := bne_iff_ne.mpr c8; obtain rfl := Option.some.inj H; have p313 : 0 ≤ (x13_1 : Int) := of_decide_eq_true (by first | (with_reducible assumption) | assumption); have q313 : x13_1 < (l0.length : Int) := of_decide_eq_true (by first | (with_reducible assumption) | assumption); obtain ⟨ad313, e313, hx313_0⟩ := Kd.at_int HR0.out x13_1 p313 q313; cases e313; replace p313 := eq_true p313; replace q313 := eq_true q313; have p314 : 0 ≤ (x13_1 : Int) := of_decide_eq_true (by first | (with_reducible assumption) | assumption); have q314 : x13_1 < (l1.length : Int) := of_decide_eq_true (by first | (with_reducible assumption) | assumption); obtain ⟨ad314, e314, hx314_0⟩ := Kd.at_int HR1.out x13_1 p314 q314; cases e314; replace p314 := eq_true p314; replace q314 := eq_true q314; go_wp2; (repeat (go_quiet (fail); try go_wp2)); go_ret; exact ⟨by first | rfl | (simp; done) | (simp [*]; done), by repeat (first | exact Drawn0.refl _ | apply Drawn0.step)⟩)); (· rw [if_neg c7] at H; exact absurd H (by simp))); (· rw [if_neg c6] at H; exact absurd H (by simp))); (· rw [if_neg c5] at H; exact absurd H (by simp)))
     (· rw [if_neg c4] at H; have c4b0 : decide (x13_1 < (l0.length : Int)) = false := decide_eq_false c4; clear c4; obtain rfl := Option.some.inj H; go_wp2; (repeat (go_quiet (fail); try go_wp2)); go_ret; exact ⟨by first | rfl | (simp; done) | (simp [*]; done), by repeat (first | exact Drawn0.refl _ | apply Drawn0.step)⟩)
 (· rw [if_neg c3] at H; have c3b0 : ((l0.length : Int) == (l1.length : Int)) = false := beq_eq_false_iff_ne.mpr c3; have c3b1 : ((l0.length : Int) != (l1.length : Int)) = true := bne_iff_ne.mpr c3; (have c3b2 : (l0.length == l1.length) = false := by first | simpa using c3 | (simp at c3 ⊢; omega)); obtain rfl := Option.some.inj H; go_enter Try.func18, Try.ntmps18; go_wp2; (repeat (go_quiet (fail); try go_wp2)); go_ret; exact ⟨by first | rfl | (simp; done) | (simp [*]; done), by repeat (first | exact Drawn0.refl _ | apply Drawn0.step)⟩)
end Go.Proofs.Ytkfejicdjpffcaa.U
namespace Go.Proofs.Ytkfejicdjpffcaa.Aid
open Go Go.RowKit YtkfejicdjpffcaaW PrintWords PrintLast PrintMore
theorem wrap_id {n : Int} (h : -9223372036854775808 ≤ n) (h' : n ≤ 9223372036854775807) : wrap64 n = n := by
 unfold wrap64; omega
theorem wf_u8 {x : Int} (h : (Lit.int .u8 x).wf = true) : 0 ≤ x ∧ x ≤ 255 := by
 have h1 : (decide (IntKind.u8.min ≤ x) && decide (x ≤ IntKind.u8.max)) = true := h
 rw [show IntKind.u8.min = 0 from by decide, show IntKind.u8.max = 255 from by decide] at h1
 simpa using h1
theorem wf_i64 {x : Int} (h : (Lit.int .i64 x).wf = true) : -9223372036854775808 ≤ x ∧ x ≤ 9223372036854775807 := by
 have h1 : (decide (IntKind.i64.min ≤ x) && decide (x ≤ IntKind.i64.max)) = true := h
 rw [show IntKind.i64.min = -9223372036854775808 from by decide, show IntKind.i64.max = 9223372036854775807 from by decide] at h1
 simpa using h1
theorem ev_succ {α : Type} {g : Nat → Option α} {r : α} (h : Ev (fun k => g (k + 1)) r) : Ev g r := Ev.step (fun _ => rfl) h
theorem ev_pos {α : Type} {c : Prop} [Decidable c] {a b : Nat → Option α} {r : α} (hc : c) (h : Ev a r) : Ev (fun k => if c then a k else b k) r :=
 Ev.congr (fun _ => if_pos hc) h
theorem ev_neg {α : Type} {c : Prop} [Decidable c] {a b : Nat → Option α} {r : α} (hc : ¬ c) (h : Ev b r) : Ev (fun k => if c then a k else b k) r :=
 Ev.congr (fun _ => if_neg hc) h
theorem ev_some {α β : Type} {f : Nat → α → Option β} {a : α} {r : β} (h : Ev (fun n => f n a) r) : Ev (fun n => (some a).bind (f n)) r := h
theorem ev_bind {α β : Type} {g : Nat → Option α} {f : Nat → α → Option β} {a : α} {r : β} (h : Ev g a) (k : Ev (fun n => f n a) r) : Ev (fun n => (g n).bind (f n)) r := Ev.bind h k
theorem ev_const {α : Type} {o : Option α} {r : α} (h : o = some r) : Ev (fun _ => o) r := ⟨0, fun _ _ => h⟩
theorem ev_pure {α β : Type} {o : Option α} {f : Nat → α → Option β} {a : α} {r : β} (h : o = some a) (k : Ev (fun n => f n a) r) : Ev (fun n => o.bind (f n)) r := ev_bind (ev_const h) k
theorem ev_eq {α : Type} {g : Nat → Option α} {r r' : α} (h : Ev g r) (e : r = r') : Ev g r' := e ▸ h
/-- A list of bytes. -/
def Bytes (l : List Int) : Prop := ∀ x ∈ l, 0 ≤ x ∧ x ≤ 255
theorem bytes_of {l : List Int} (h : ∀ x ∈ l, (Lit.int .u8 x).wf = true) : Bytes l := fun x hx => wf_u8 (h x hx)
theorem rd_at {l : List Int} {i : Nat} (h : i < l.length) : rd l (i : Int) = l[i] := by
 simp [rd, List.getD_eq_getElem?_getD, List.getElem?_eq_getElem h]
theorem bytes_rd {l : List Int} (h : Bytes l) {i : Nat} (hi : i < l.length) : 0 ≤ rd l (i : Int) ∧ rd l (i : Int) ≤ 255 := by
 rw [rd_at hi]; exact h _ (List.getElem_mem hi)
theorem drop_rd {l : List Int} {i : Nat} (h : i < l.length) : l.drop i = rd l (i : Int) :: l.drop (i + 1) := by
 rw [rd_at h]; exact List.drop_eq_getElem_cons h
theorem rd_mem {l : List Int} {i : Int} (h0 : 0 ≤ i) (h : i < l.length) : rd l i ∈ l := by
 obtain ⟨j, rfl⟩ : ∃ j : Nat, i = (j : Int) := ⟨i.toNat, by omega⟩
 rw [rd_at (by omega)]
 exact List.getElem_mem _
end Go.Proofs.Ytkfejicdjpffcaa.Aid
namespace Go.Proofs.Ytkfejicdjpffcaa.HandAid
open Go Go.RowKit YtkfejicdjpffcaaW PrintWords PrintLast PrintMore Aid
theorem ret_int {k : IntKind} {a b : Int} (h : a = b) : Ending.returned (.int k a) = .returned (.int k b) := by rw [h]
theorem heap_new (w : World) (o : Obj) : (w.alloc o).heap[w.heap.size]? = some o := by simpa using heap_alloc_new w o
theorem cell_new (w : World) (cs : Array Value) (t : TypeId) (i : Nat) : (w.alloc (.cells cs t)).cell? ⟨w.heap.size, i, none⟩ = cs[i]? := Zc (heap_new w (.cells cs t)) i
theorem infoU8 : (Try.prog.info? 5).map (fun i => (i.zero, i.size, i.bytes)) = some (some (.int .u8 0), 1, 1) := by kernel_rfl
theorem below_undrew1 {w w1 : World} (h : Below w.drew.heap.size w.drew w1) : Below w.heap.size w w1 := ⟨h.os, h.tape, h.output, h.size, h.block⟩
theorem wraps_u64 (n : Int) (h₀ : 0 ≤ n) (h₁ : n < 2 ^ 64) : IntKind.u64.wrap n = n := by
 rw [show IntKind.u64.wrap n = n % 18446744073709551616 from by simp [IntKind.wrap, IntKind.bits, IntKind.signed]]
 omega
theorem u64_low32 {x : Int} (h : 0 ≤ x) (h' : x < 2 ^ 64) : Go.bits .and .u64 x 4294967295 = x % 4294967296 := bits_mask .u64 64 (by decide) wraps_u64 32 (by decide) x h h'
theorem u64_or255 {x : Int} (h : 0 ≤ x) (hm : x % 256 = 0) (h' : x < 2 ^ 64) : Go.bits .or .u64 x 255 = x + 255 := bits_join .u64 64 (by decide) wraps_u64 8 x 255 h hm h' (by decide) (by decide) (by decide)
end Go.Proofs.Ytkfejicdjpffcaa.HandAid
namespace Go.Proofs.Ytkfejicdjpffcaa.Opn
open Go Go.RowKit YtkfejicdjpffcaaW PrintWords PrintLast PrintMore Go.ChangeShapes Go.WideShapes
/-- The cells that the form reads at type t (with fuel N at the most) tell an element of the kind d, of which Wf holds. -/
structure OpensTo (P : Program) (N : Nat) {α : Type} (t : TypeId) (d : Kd α) (Wf : α → Prop) : Prop where
 sz : P.cellsOf t = d.sz
 op : ∀ {H : Type} {enc : TypeId × Value → H} {w : World} {fuel : Nat} {cs : List Value} {x : DataW H × List MemPlace}, fuel ≤ N → DataW.trod enc P w 0 (fun _ => true) true fuel t cs = some x → (∀ n ∈ x.1.weights P t, n ≤ reachBytes) → ∃ a : α, d.K w a cs ∧ Wf a
section
variable {P : Program} {N : Nat} {α β : Type} {t e : TypeId} {d : Kd α} {d' : Kd β} {Wf Wf2 : α → Prop} {Wf' : β → Prop}
theorem o_int {k : IntKind} (ht : P.underlying t = some (.int k)) (hc : P.cellsOf t = 1) : OpensTo P N t (Kd.int k) (fun n => (Lit.int k n).wf = true) := ⟨hc, fun _ hx _ => by
 obtain ⟨n, rfl, rfl, hw⟩ := DataW.trod_int ht hx
 exact ⟨n, rfl, hw⟩⟩
theorem o_bool (ht : P.underlying t = some .bool) (hc : P.cellsOf t = 1) : OpensTo P N t Kd.bool (fun _ => True) := ⟨hc, fun _ hx _ => by
 obtain ⟨n, rfl, rfl⟩ := DataW.trod_bool ht hx
 exact ⟨n, rfl, trivial⟩⟩
theorem pick_list {Q : Nat → α → Prop} : ∀ n : Nat, (∀ i, i < n → ∃ p, Q i p) → ∃ xs : List α, xs.length = n ∧ ∀ i p, xs[i]? = some p → Q i p
 | 0, _ => ⟨[], rfl, fun i p h => by simp at h⟩
 | n + 1, h => by
   obtain ⟨xs, hl, hq⟩ := pick_list n (fun i hi => h i (by omega))
   obtain ⟨p, hp⟩ := h n (by omega)
   refine ⟨xs ++ [p], by simp [hl], fun i q hi => ?_⟩
   rcases Nat.lt_or_ge i n with c | c
   · rw [List.getElem?_append_left (by omega)] at hi
     exact hq i q hi
   · rw [List.getElem?_append_right (by omega)] at hi
     obtain rfl : i = n := by
      have := (List.getElem?_eq_some_iff.1 hi).1
      simp at this
      omega
     simp [hl] at hi
     subst hi
     exact hp
theorem add_add' (a : Addr) (i j : Nat) : (a.add i).add j = a.add (i + j) := by
 unfold Addr.add
 by_cases h1 : i = 0 <;> by_cases h2 : j = 0 <;> simp [h1, h2, Nat.add_assoc]
theorem weights_all {H : Type} {e : TypeId} : ∀ {l : List (DataW H)} {y : DataW H}, y ∈ l → ∀ n ∈ y.weights P e, n ∈ DataW.weightsAll P e l
 | x :: l, y, hy, n, hn => by
   unfold DataW.weightsAll
   rcases List.mem_cons.1 hy with rfl | hy
   · exact List.mem_append.2 (.inl hn)
   · exact List.mem_append.2 (.inr (weights_all hy n hn))
theorem o_slice (hu : P.underlying t = some (.slice e)) (hc : P.cellsOf t = 1) (he : OpensTo P N e d Wf) {B : Nat} (hB : P.bytesOf e = B) :
 OpensTo P (N + 1) t (Kd.slice e d) (fun l => l.length * B ≤ 140737488351232 ∧ ∀ x ∈ l, Wf x) := ⟨hc, fun {H enc w fuel cs x} hf hx hw => by
 rcases DataW.trod_slice hu hx with ⟨rfl, rfl⟩ | ⟨a, len, cap, elems, rest, n, hfn, rfl, rfl, _, hl, hm, hlen, hel, _, _⟩
 · exact ⟨[], ⟨none, 0, rfl, Nat.le_refl _, Kd.C_nil d w⟩, by simp, fun x hx => by simp at hx⟩
 · have hq : ∀ i, i < len → ∃ p : α, (∃ cs', w.cells? 0 (a.add (i * P.cellsOf e)) (P.cellsOf e) = some cs' ∧ d.K w p cs') ∧ Wf p := by
     intro i hi
     have h1 := hel i hi
     obtain ⟨y, hy⟩ : ∃ y, elems[i]? = some y := ⟨_, List.getElem?_eq_getElem (by omega)⟩
     rw [hy, Option.bind_eq_some_iff] at h1
     obtain ⟨cs', hcs, h2⟩ := h1
     obtain ⟨p, hk, hwf⟩ := he.op (by omega) h2 (fun m hm' => hw m (by
      unfold DataW.weights
      rw [hu]
      refine List.mem_cons.2 (.inr (List.mem_append.2 (.inl (weights_all (y := y.1) ?_ m hm'))))
      exact List.mem_map.2 ⟨y, List.mem_of_getElem? hy, rfl⟩))
     exact ⟨p, ⟨cs', hcs, hk⟩, hwf⟩
   obtain ⟨xs, hxl, hxs⟩ := pick_list len hq
   have hcap : cap ≤ 9223372036854775807 := by simpa [maxLen] using hm
   refine ⟨xs, ⟨some a, cap, by rw [hxl], by omega, rfl, by omega, fun _ => ⟨a, rfl, fun j p hj => ?_⟩⟩, ?_, fun x hx => ?_⟩
   · obtain ⟨⟨cs', hcs, hk⟩, _⟩ := hxs j p hj
     obtain ⟨_, hl2, hcell⟩ := World.cells?_some hcs
     refine ⟨cs', d.K_len hk, hk, fun i u hi => ?_⟩
     have h3 := hcell i (by rw [← hl2]; exact (List.getElem?_eq_some_iff.1 hi).1)
     rw [add_add', he.sz, hi] at h3
     exact h3
   · have h4 := hw ((elems.length + rest.length) * P.bytesOf e) (by
       unfold DataW.weights
       rw [hu]
       simp)
     have h5 : len * B ≤ (elems.length + rest.length) * B := Nat.mul_le_mul_right _ (by omega)
     rw [hB] at h4
     rw [hxl]
     exact Nat.le_trans h5 h4
   · obtain ⟨i, hi⟩ := List.getElem?_of_mem hx
     exact (hxs i x hi).2⟩
/-- The same for a struct's fields from offset o on. -/
structure OpensF (P : Program) (N : Nat) {α : Type} (fs : List Field) (o : Nat) (d : Kd α) (Wf : α → Prop) : Prop where
 op : ∀ {H : Type} {enc : TypeId × Value → H} {w : World} {fuel : Nat} {cs : List Value} {xs : List (DataW H × List MemPlace)}, fuel ≤ N → cs.length = o + d.sz → xs.length = fs.length →
  (∀ (i : Nat) (f : Field), fs[i]? = some f → DataW.trod enc P w 0 (fun _ => true) true fuel f.type ((cs.drop f.offset).take (P.cellsOf f.type)) = xs[i]?) →
  (∀ n ∈ DataW.weightsEach P (fs.map (·.type)) (xs.map (·.1)), n ≤ reachBytes) → ∃ a : α, d.K w a (cs.drop o) ∧ Wf a
theorem f_one {f : Field} {o : Nat} (ho : f.offset = o) (h : OpensTo P N f.type d Wf) : OpensF P N [f] o d Wf := ⟨by
 intro H enc w fuel cs xs hf hl hxl hx hw
 match xs, hxl with
 | [x], _ =>
   have h1 := hx 0 f rfl
   rw [ho, h.sz, List.take_of_length_le (by rw [List.length_drop]; omega)] at h1
   exact h.op hf h1 (fun n hn => hw n (by simp [DataW.weightsEach, hn]))⟩
theorem f_cons {f : Field} {fs : List Field} {o : Nat} (ho : f.offset = o) (h : OpensTo P N f.type d Wf) (hs : OpensF P N fs (o + d.sz) d' Wf') : OpensF P N (f :: fs) o (Kd.pair d d') (fun x => Wf x.1 ∧ Wf' x.2) := ⟨by
 intro H enc w fuel cs xs hf hl hxl hx hw
 match xs, hxl with
 | x :: xs, hxl =>
   have hl' : cs.length = o + (d.sz + d'.sz) := hl
   have h1 := hx 0 f rfl
   rw [ho, h.sz] at h1
   obtain ⟨a, hk, hwf⟩ := h.op hf h1 (fun n hn => hw n (by simp [DataW.weightsEach, hn]))
   obtain ⟨b, hk', hwf'⟩ := hs.op (xs := xs) hf (by rw [hl']; omega) (by simpa using hxl) (fun i g hg => by simpa using hx (i + 1) g (by simpa using hg)) (fun n hn => hw n (by
    simp only [List.map_cons, DataW.weightsEach]
    exact List.mem_append.2 (.inr hn)))
   refine ⟨(a, b), ⟨_, _, ?_, hk, hk'⟩, hwf, hwf'⟩
   rw [← List.drop_drop, List.take_append_drop]⟩
theorem o_struct {fs : Array Field} (hu : P.underlying t = some (.struct fs)) (hc : P.cellsOf t = d.sz) (h : OpensF P N fs.toList 0 d Wf) : OpensTo P (N + 1) t d Wf := ⟨hc, fun {H enc w fuel cs x} hf hx hw => by
 obtain ⟨xs, n, hfn, rfl, hl, hxl, hel⟩ := DataW.trod_struct hu hx
 have := h.op (xs := xs) (cs := cs) (w := w) (enc := enc) (fuel := n) (by omega) (by rw [hl, hc, Nat.zero_add]) (by simpa using hxl) (fun i f hf' => hel i f (by simpa using hf')) (fun m hm => hw m (by
  unfold DataW.weights
  rw [hu]
  exact hm))
 simpa using this⟩
/-- A row's argument that is read whole: at whatever fuel. -/
theorem open_arg {H : Type} {enc : TypeId × Value → H} {W : World} {v : Value} {x : DataW H} {p : List MemPlace} {ts : List TypeId} {ds : List (DataW H)} {j : Nat} (ho : ∀ n, OpensTo P (n + N) t d Wf)
 (h : DataW.Trod enc P W 0 (fun _ => true) true t v x p) (hsz : (DataW.weightsEach P ts ds).all (· ≤ reachBytes) = true) (ht : ts[j]? = some t) (hd : ds[j]? = some x) : ∃ a : α, d.K W a v.cells.toList ∧ Wf a := by
 obtain ⟨fuel, hf⟩ := h
 refine (ho fuel).op (by omega) hf (fun n hn => ?_)
 have := List.all_eq_true.1 hsz n (DataW.weights_mem_each ht hd n hn)
 simpa using this
end
end Go.Proofs.Ytkfejicdjpffcaa.Opn
namespace Go.Proofs.Ytkfejicdjpffcaa.Cod1
open Go Go.RowKit YtkfejicdjpffcaaW PrintWords PrintLast PrintMore Aid HandAid
/-- q(k) of the chapter. -/
def qv : Nat → Int
 | 0 => 2048
 | k + 1 => qv k - qv k / 8
theorem qv_range : ∀ k, 0 ≤ qv k ∧ qv k ≤ 2048
 | 0 => by simp [qv]
 | k + 1 => by have := qv_range k; unfold qv; omega
/-- The table when k places are written. -/
def qpart (k : Nat) : List Value := (List.range 32).map fun (i : Nat) => .int .i64 (if i < k then qv i else 0)
def qtab : Array Value := (qpart 32).toArray
theorem qpart_step (k : Nat) (h : k < 32) : ((qpart k).toArray.setIfInBounds k (.int .i64 (qv k))) = (qpart (k + 1)).toArray := by
 rw [List.setIfInBounds_toArray]
 congr 1
 apply List.ext_getElem
 · simp [qpart]
 intro j h1 h2
 simp only [qpart, List.length_set, List.length_map, List.length_range] at h1 h2
 rw [List.getElem_set]
 by_cases e : k = j
 · subst e; simp [qpart]
 · rw [if_neg e]
   simp only [qpart, List.getElem_map, List.getElem_range]
   by_cases c : j < k
   · rw [if_pos c, if_pos (by omega)]
   · rw [if_neg c, if_neg (by omega)]
theorem qsize (k : Nat) : (qpart k).toArray.size = 32 := by simp [qpart]
theorem qone (k : Nat) : (qpart k).toArray.all (·.oneCell') = true := by
 rw [Array.all_eq_true_iff_forall_mem]
 intro x hx
 simp only [qpart, List.mem_toArray, List.mem_map] at hx
 obtain ⟨i, _, rfl⟩ := hx
 rfl
theorem infoTab : (Try.prog.info? 87).map (·.size) = some 32 := by kernel_rfl
theorem infoQ (k : Nat) : (Try.prog.info? 87).map (·.size) = some (qpart k).toArray.size := by rw [qsize]; exact infoTab
def z32 : Array Value := #[.int .i64 0, .int .i64 0, .int .i64 0, .int .i64 0, .int .i64 0, .int .i64 0, .int .i64 0, .int .i64 0, .int .i64 0, .int .i64 0, .int .i64 0, .int .i64 0, .int .i64 0, .int .i64 0, .int .i64 0, .int .i64 0, .int .i64 0, .int .i64 0, .int .i64 0, .int .i64 0, .int .i64 0, .int .i64 0, .int .i64 0, .int .i64 0, .int .i64 0, .int .i64 0, .int .i64 0, .int .i64 0, .int .i64 0, .int .i64 0, .int .i64 0, .int .i64 0]
theorem z32_def : z32 = #[.int .i64 0, .int .i64 0, .int .i64 0, .int .i64 0, .int .i64 0, .int .i64 0, .int .i64 0, .int .i64 0, .int .i64 0, .int .i64 0, .int .i64 0, .int .i64 0, .int .i64 0, .int .i64 0, .int .i64 0, .int .i64 0, .int .i64 0, .int .i64 0, .int .i64 0, .int .i64 0, .int .i64 0, .int .i64 0, .int .i64 0, .int .i64 0, .int .i64 0, .int .i64 0, .int .i64 0, .int .i64 0, .int .i64 0, .int .i64 0, .int .i64 0, .int .i64 0] := rfl
theorem z32_q : z32 = (qpart 0).toArray := by rfl
set_option maxRecDepth 100000 in
theorem chances_calls (w : World) : Calls Try.prog 87 #[] w fun e w' => e = .returned (.agg qtab) ∧ Below w.heap.size w w' := by
 go_enter Try.func87, Try.ntmps87
 go_wp2
 rw [← z32_def]
 have hb0 := Za ((b1' (b1' (Below.refl w.heap.size w) (.cells z32 87)) (.cells z32 87)))
 have hb1 : Aside0 (((w.alloc (.cells z32 87)).alloc (.cells z32 87)).heap[w.heap.size + 1]? = some (.cells (qpart 0).toArray 87 (0, 0))) := ⟨by
  have h := heap_new (w.alloc (.cells z32 87)) (.cells z32 87)
  rw [World.size_alloc, z32_q] at h
  rw [z32_q]
  exact h⟩
 have hb2 : Aside0 (((w.alloc (.cells z32 87)).alloc (.cells z32 87)).heap[w.heap.size]? = some (.cells (qpart 0).toArray 87 (0, 0))) := ⟨by
  have h := heap_new w (.cells z32 87)
  rw [z32_q] at h ⊢
  exact ((b1' (Below.refl _ _) _).block _ (blk_lt h)).trans h⟩
 generalize ((w.alloc (.cells z32 87)).alloc (.cells z32 87)) = W2 at hb0 hb1 hb2 ⊢
 go_loopw [2, 3, 4] (fun q _ i wr => ∃ k : Nat, k ≤ 32 ∧ q = .int .i64 (qv k) ∧ i = .int .i64 k ∧ Aside0 (wr.heap[w.heap.size]? = some (.cells (qpart 0).toArray 87 (0, 0))) ∧ Aside0 (wr.heap[w.heap.size + 1]? = some (.cells (qpart k).toArray 87 (0, 0))) ∧ Aside0 (Below w.heap.size w wr)) (fun _ _ i _ => 32 - (intOf i).toNat)
 case atStart => exact ⟨0, by omega, rfl, rfl, hb2, hb1, hb0⟩
 case round =>
  obtain ⟨k, hk, rfl, rfl, h0, h1, hB⟩ := hrel
  have hq := qv_range k
  by_cases hlt : k < 32
  · have hfz := Zf h1.out k
    have hc : wr.cell? ⟨w.heap.size + 1, k, none⟩ = some (.int .i64 0) := (Zc h1.out k).trans (by simp [qpart, hlt])
    go_wp2
    go_roundw
    case rel =>
     refine ⟨k + 1, by omega, rfl, by go_num, ⟨?_⟩, ⟨?_⟩, ⟨?_⟩⟩
     · exact blk_far h0.out (by simp) _
     · rw [← qpart_step k hlt]
       exact blk_set h1.out k _
     · exact hB.out.setCell (by simp) _
    case measure => simp [intOf]; omega
  · obtain rfl : k = 32 := by omega
    go_wp2_with (first
     | (with_reducible refine wpList_load_row rfl _ _ rfl _ rfl _ _ _ _ h1.out Try.underlying87 rfl (infoQ 32) ?_)
     | (with_reducible refine wpList_store_row rfl _ _ _ rfl _ _ rfl rfl _ _ h0.out (infoQ 32) ((qsize 0).trans (qsize 32).symm) (qone 32) ?_))
    have hrow := setRow_heap wr w.heap.size (qpart 0).toArray (qpart 32).toArray 87 (0, 0) h0.out
    exact bodyPost_ret (v := .agg qtab) (results_cell_row rfl _ _ w.heap.size 87 _ _ _ rfl hrow Try.underlying87 rfl (infoQ 32)) rfl ⟨rfl, below_setRow hB.out (Nat.le_refl _) _⟩
/-- How likely a 1 is, of 4096, in a state. -/
def likely (kind s : Int) : Int :=
 if kind = 1 then (if 4095 < (if (2 * (s % 256) + 1) * 4096 / (2 * (s / 256) + 2 * (s % 256) + 2) < 1 then 1 else (2 * (s % 256) + 1) * 4096 / (2 * (s / 256) + 2 * (s % 256) + 2)) then 4095 else (if (2 * (s % 256) + 1) * 4096 / (2 * (s / 256) + 2 * (s % 256) + 2) < 1 then 1 else (2 * (s % 256) + 1) * 4096 / (2 * (s / 256) + 2 * (s % 256) + 2)))
 else if s ≥ 32 then 4096 - qv (s - 32).toNat else qv s.toNat
/-- A state that is one. -/
def okState (kind s : Int) : Prop := (kind = 0 ∧ 0 ≤ s ∧ s < 64) ∨ (kind = 1 ∧ 0 ≤ s ∧ s < 65536)
attribute [local go_sem] max2_int min2_int max_two min_two
theorem qtab_at (k : Nat) (h : k < 32) : qtab[k]? = some (.int .i64 (qv k)) := by simp [qtab, qpart, h]
set_option maxHeartbeats 1000000 in
theorem chance_calls (kind s : Int) (w : World) (hs : okState kind s) : Calls Try.prog 93 #[.agg qtab, .int .i64 kind, .int .i64 s] w fun e w' => e = .returned (.int .i64 (likely kind s)) ∧ Below w.heap.size w w' := by
 rcases hs with ⟨rfl, h0, h1⟩ | ⟨rfl, h0, h1⟩
 · unfold likely
   rw [if_neg (by omega)]
   by_cases c : s ≥ 32
   · rw [if_pos c]
     have hc : (w.alloc (.cells qtab 87)).cell? ⟨w.heap.size, (s - 32).toNat, none⟩ = some (.int .i64 (qv (s - 32).toNat)) := (cell_new _ _ _ _).trans (qtab_at _ (by omega))
     have hr := qv_range (s - 32).toNat
     go_enter Try.func93, Try.ntmps93
     go_wp2
     go_ret
     exact ⟨rfl, b1' (Below.refl _ _) _⟩
   · rw [if_neg c]
     have hc : (w.alloc (.cells qtab 87)).cell? ⟨w.heap.size, s.toNat, none⟩ = some (.int .i64 (qv s.toNat)) := (cell_new _ _ _ _).trans (qtab_at _ (by omega))
     have hr := qv_range s.toNat
     go_enter Try.func93, Try.ntmps93
     go_wp2
     go_ret
     exact ⟨rfl, b1' (Below.refl _ _) _⟩
 · have hd : 0 ≤ s / 256 ∧ s / 256 ≤ 255 := by omega
   have hm : 0 ≤ s % 256 ∧ s % 256 ≤ 255 := by omega
   have hw1 : 0 ≤ (2 * (s % 256) + 1) * 4096 / (2 * (s / 256) + 2 * (s % 256) + 2) := Int.ediv_nonneg (by omega) (by omega)
   go_enter Try.func93, Try.ntmps93
   go_wp2
   all_goals
    go_ret
    refine ⟨ret_int ?_, b1' (Below.refl _ _) _⟩
    unfold likely
    rw [if_pos rfl]
    repeat' split
    all_goals omega
/-- The state behind a bit. -/
def after (kind s bit : Int) : Int :=
 if kind = 1 then
  (if bit = 0 then (if s / 256 = 255 then 256 * (255 / 2 + 1) + s % 256 / 2 else 256 * (s / 256 + 1) + s % 256)
   else (if s % 256 = 255 then 256 * (s / 256 / 2) + (255 / 2 + 1) else 256 * (s / 256) + (s % 256 + 1)))
 else if bit = s / 32 then 32 * (s / 32) + (if 31 < s % 32 + 1 then 31 else s % 32 + 1)
 else if s % 32 = 0 then 32 * bit + 0
 else 32 * (s / 32) + (s % 32 - (1 + s % 32 / 4))
theorem after_ok (kind s bit : Int) (hs : okState kind s) (hb : bit = 0 ∨ bit = 1) : okState kind (after kind s bit) := by
 rcases hs with ⟨rfl, h0, h1⟩ | ⟨rfl, h0, h1⟩
 · left
   refine ⟨rfl, ?_⟩
   unfold after
   rw [if_neg (by omega)]
   repeat' split
   all_goals omega
 · right
   refine ⟨rfl, ?_⟩
   unfold after
   rw [if_pos rfl]
   repeat' split
   all_goals omega
theorem likely_range (kind s : Int) (hs : okState kind s) : 1 ≤ likely kind s ∧ likely kind s ≤ 4095 := by
 rcases hs with ⟨rfl, h0, h1⟩ | ⟨rfl, h0, h1⟩
 · have key : ∀ k : Nat, k < 32 → 1 ≤ qv k ∧ qv k ≤ 2048 := by decide
   unfold likely
   rw [if_neg (by omega)]
   by_cases c : s ≥ 32
   · rw [if_pos c]
     have := key (s - 32).toNat (by omega)
     omega
   · rw [if_neg c]
     have := key s.toNat (by omega)
     omega
 · unfold likely
   rw [if_pos rfl]
   repeat' split
   all_goals omega
set_option maxHeartbeats 1000000 in
theorem next_calls (kind s bit : Int) (w : World) (hs : okState kind s) (hb : bit = 0 ∨ bit = 1) : Calls Try.prog 92 #[.int .i64 kind, .int .i64 s, .int .i64 bit] w fun e w' => e = .returned (.int .i64 (after kind s bit)) ∧ Below w.heap.size w w' := by
 rcases hs with ⟨rfl, h0, h1⟩ | ⟨rfl, h0, h1⟩
 · have hd : 0 ≤ s / 32 ∧ s / 32 ≤ 1 := by omega
   have hm : 0 ≤ s % 32 ∧ s % 32 ≤ 31 := by omega
   rcases hb with rfl | rfl
   all_goals
    go_enter Try.func92, Try.ntmps92
    go_wp2
    all_goals
     go_ret
     refine ⟨ret_int ?_, Below.refl _ _⟩
     simp only [beq_iff_eq, beq_eq_false_iff_ne, ne_eq] at *
     unfold after
     rw [if_neg (by omega)]
     repeat' split
     all_goals omega
 · have hd : 0 ≤ s / 256 ∧ s / 256 ≤ 255 := by omega
   have hm : 0 ≤ s % 256 ∧ s % 256 ≤ 255 := by omega
   rcases hb with rfl | rfl
   all_goals
    go_enter Try.func92, Try.ntmps92
    go_wp2
    all_goals
     go_ret
     refine ⟨ret_int ?_, ?_⟩
     · simp only [beq_iff_eq, beq_eq_false_iff_ne, ne_eq] at *
       unfold after
       rw [if_pos rfl]
       repeat' split
       all_goals omega
     · repeat (first | (refine Below.setCell ?_ (Nat.le_refl _) _) | exact b1' (Below.refl _ _) _)
theorem qtab_lit : qtab = #[.int .i64 2048, .int .i64 1792, .int .i64 1568, .int .i64 1372, .int .i64 1201, .int .i64 1051, .int .i64 920, .int .i64 805, .int .i64 705, .int .i64 617, .int .i64 540, .int .i64 473, .int .i64 414, .int .i64 363, .int .i64 318, .int .i64 279, .int .i64 245, .int .i64 215, .int .i64 189, .int .i64 166, .int .i64 146, .int .i64 128, .int .i64 112, .int .i64 98, .int .i64 86, .int .i64 76, .int .i64 67, .int .i64 59, .int .i64 52, .int .i64 46, .int .i64 41, .int .i64 36] := by rfl
end Go.Proofs.Ytkfejicdjpffcaa.Cod1
namespace Go.Proofs.Ytkfejicdjpffcaa.Cod2
open Go Go.RowKit YtkfejicdjpffcaaW PrintWords PrintLast PrintMore Aid HandAid Cod1
attribute [local go_sem] max2_int min2_int max_two min_two
theorem unlikely_calls (k : Nat) (w : World) (hk : k < 32) : Calls Try.prog 90 #[.int .i64 k] w fun e w' => e = .returned (.int .i64 (qv k)) ∧ w = w' := by
 go_enter Try.func90, Try.ntmps90
 go_wp2
 go_loop [3, 4] (fun q i => ∃ j : Nat, j ≤ k ∧ q = .int .i64 (qv j) ∧ i = .int .i64 j) (fun _ i => k - (intOf i).toNat)
 case atStart => exact ⟨0, by omega, rfl, rfl⟩
 case round =>
  obtain ⟨j, hj, rfl, rfl⟩ := hrel
  have hq := qv_range j
  by_cases hlt : j < k
  · go_wp2
    go_round
    case rel => exact ⟨j + 1, by omega, rfl, by go_num⟩
    case measure => simp [intOf]; omega
  · obtain rfl : k = j := by omega
    go_wp2
    go_ret
    exact ⟨rfl, rfl⟩
theorem unlikelyI (i : Int) (w : World) (h0 : 0 ≤ i) (h1 : i < 32) : Calls Try.prog 90 #[.int .i64 i] w fun e w' => e = .returned (.int .i64 (qv i.toNat)) ∧ w = w' := by
 obtain ⟨k, rfl⟩ : ∃ k : Nat, i = (k : Int) := ⟨i.toNat, by omega⟩
 exact unlikely_calls k w (by omega)
set_option maxHeartbeats 1000000 in
theorem ref_likely (kind s : Int) (w : World) (hs : okState kind s) : Calls Try.prog 63 #[.int .i64 kind, .int .i64 s] w fun e w' => e = .returned (.int .i64 (likely kind s)) ∧ w = w' := by
 rcases hs with ⟨rfl, h0, h1⟩ | ⟨rfl, h0, h1⟩
 · unfold likely
   rw [if_neg (by omega)]
   have hq := qv_range (s % 32).toNat
   by_cases c : s ≥ 32
   · rw [if_pos c, show s - 32 = s % 32 by omega]
     go_enter Try.func63, Try.ntmps63
     go_wp2_with (go_at_call 90; with_reducible refine (unlikelyI (s % 32) _ (by omega) (by omega)).mono ?_; rintro e w' ⟨rfl, rfl⟩)
     go_ret
     exact ⟨rfl, rfl⟩
   · rw [if_neg c, show s.toNat = (s % 32).toNat by omega]
     go_enter Try.func63, Try.ntmps63
     go_wp2_with (go_at_call 90; with_reducible refine (unlikelyI (s % 32) _ (by omega) (by omega)).mono ?_; rintro e w' ⟨rfl, rfl⟩)
     go_ret
     exact ⟨rfl, rfl⟩
 · have hd : 0 ≤ s / 256 ∧ s / 256 ≤ 255 := by omega
   have hm : 0 ≤ s % 256 ∧ s % 256 ≤ 255 := by omega
   have hw1 : 0 ≤ (2 * (s % 256) + 1) * 4096 / (2 * (s / 256) + 2 * (s % 256) + 2) := Int.ediv_nonneg (by omega) (by omega)
   go_enter Try.func63, Try.ntmps63
   go_wp2
   all_goals
    go_ret
    refine ⟨ret_int ?_, rfl⟩
    unfold likely
    rw [if_pos rfl]
    repeat' split
    all_goals omega
set_option maxHeartbeats 1000000 in
theorem ref_after (kind s bit : Int) (w : World) (hs : okState kind s) (hb : bit = 0 ∨ bit = 1) : Calls Try.prog 65 #[.int .i64 kind, .int .i64 s, .int .i64 bit] w fun e w' => e = .returned (.int .i64 (after kind s bit)) ∧ Below w.heap.size w w' := by
 rcases hs with ⟨rfl, h0, h1⟩ | ⟨rfl, h0, h1⟩
 · have hd : 0 ≤ s / 32 ∧ s / 32 ≤ 1 := by omega
   have hm : 0 ≤ s % 32 ∧ s % 32 ≤ 31 := by omega
   rcases hb with rfl | rfl
   all_goals
    go_enter Try.func65, Try.ntmps65
    go_wp2
    all_goals
     go_ret
     refine ⟨ret_int ?_, Below.refl _ _⟩
     simp only [beq_iff_eq, beq_eq_false_iff_ne, ne_eq] at *
     unfold after
     rw [if_neg (by omega)]
     repeat' split
     all_goals omega
 · have hd : 0 ≤ s / 256 ∧ s / 256 ≤ 255 := by omega
   have hm : 0 ≤ s % 256 ∧ s % 256 ≤ 255 := by omega
   rcases hb with rfl | rfl
   all_goals
    go_enter Try.func65, Try.ntmps65
    go_wp2
    all_goals
     go_ret
     refine ⟨ret_int ?_, ?_⟩
     · simp only [beq_iff_eq, beq_eq_false_iff_ne, ne_eq] at *
       unfold after
       rw [if_pos rfl]
       repeat' split
       all_goals omega
     · repeat (first | (refine Below.setCell ?_ (Nat.le_refl _) _) | exact b1' (Below.refl _ _) _)
/-! ### the interval -/
/-- Where a chance cuts the interval. -/
def midOf (low high p : Int) : Int := low + (high - low) / 4096 * p + (high - low) % 4096 * p / 4096
theorem mid_range (low high p : Int) (h : low ≤ high) (h1 : 1 ≤ p) (h2 : p ≤ 4095) : low ≤ midOf low high p ∧ (low < high → midOf low high p < high) ∧ midOf low high p ≤ high := by
 have ha : (high - low) / 4096 * p ≤ (high - low) / 4096 * 4095 := Int.mul_le_mul_of_nonneg_left (by omega) (by omega)
 have hb : (high - low) % 4096 * p ≤ (high - low) % 4096 * 4095 := Int.mul_le_mul_of_nonneg_left (by omega) (by omega)
 have hc : 0 ≤ (high - low) / 4096 * p := Int.mul_nonneg (by omega) (by omega)
 have hd : 0 ≤ (high - low) % 4096 * p := Int.mul_nonneg (by omega) (by omega)
 unfold midOf
 refine ⟨by omega, fun h => by omega, by omega⟩
end Go.Proofs.Ytkfejicdjpffcaa.Cod2
namespace Go.Proofs.Ytkfejicdjpffcaa.Cod3
open Go Go.RowKit YtkfejicdjpffcaaW PrintWords PrintLast PrintMore Aid HandAid Cod1 Cod2
set_option maxRecDepth 100000
/-- A block's interval, at its begin: kind, states' row, table, low, high. -/
structure Iv (w : World) (g : Nat) (kind : Int) (A : Option Addr) (n c : Nat) (low high : Int) : Prop where
 k : w.cell? ⟨g, 0, none⟩ = some (.int .i64 kind)
 s : w.cell? ⟨g, 1, none⟩ = some (.slice A n c)
 q : w.rangeAt g 2 (qpart 32)
 l : w.cell? ⟨g, 34, none⟩ = some (.int .u64 low)
 h : w.cell? ⟨g, 35, none⟩ = some (.int .u64 high)
 f : ∀ i, w.frozen? ⟨g, i, none⟩ = false
theorem Iv.below {w w' : World} {g : Nat} {kind : Int} {A : Option Addr} {n c : Nat} {low high : Int} (h : Iv w g kind A n c low high) (hb : Below w.heap.size w w') : Iv w' g kind A n c low high :=
 have hg := World.block_lt_of_cell? w _ h.k
 ⟨pw_cell_below hb h.k, pw_cell_below hb h.s, fun j v hj => pw_cell_below hb (h.q j v hj), pw_cell_below hb h.l, pw_cell_below hb h.h, fun i => (hb.frozen (p := ⟨g, i, none⟩) hg).trans (h.f i)⟩
theorem qlen : (qpart 32).length = 32 := by simp [qpart]
theorem infoL : (Try.prog.info? 87).map (·.size) = some (qpart 32).length := by rw [qlen]; exact infoTab
set_option maxHeartbeats 2000000 in
theorem mid_calls (w : World) (g : Nat) (kind : Int) (A : Option Addr) (n c : Nat) (low high : Int) (i : Nat) (s : Int) (hI : Iv w g kind A n c low high) (hA : ∃ ad, A = some ad ∧ w.cell? (ad.add i) = some (.int .i64 s)) (hi : i < n) (hn : n ≤ 8192)
 (hs : okState kind s) (h0 : 0 ≤ low) (h1 : low ≤ high) (h2 : high ≤ 4294967295) :
 Calls Try.prog 72 #[.pointer (some ⟨g, 0, none⟩), .int .i64 i] w fun e w' => e = .returned (.int .u64 (midOf low high (likely kind s))) ∧ Below w.heap.size w w' := by
 obtain ⟨ad, rfl, hc⟩ := hA
 obtain ⟨hk, hsl, hq, hl, hh, hf⟩ := hI
 have hu := Try.underlying87
 have hq2 := infoL
 have hg := World.block_lt_of_cell? w _ hk
 have hga := World.block_lt_of_cell? w _ hc
 have hr := likely_range kind s hs
 have hm := mid_range low high _ h1 hr.1 hr.2
 have hi' : (i : Int) < (n : Int) := by omega
 clear hf
 go_enter Try.func72, Try.ntmps72
 go_wp2
 go_region_held3 (fun w' => w'.cell? ⟨g, 0, none⟩ = some (.int .i64 kind) ∧ w'.cell? ⟨g, 1, none⟩ = some (.slice (some ad) n c) ∧ w'.rangeAt g 2 (qpart 32) ∧ w'.cell? ⟨g, 34, none⟩ = some (.int .u64 low) ∧ w'.cell? ⟨g, 35, none⟩ = some (.int .u64 high) ∧ w'.cell? (ad.add i) = some (.int .i64 s))
  (first
    | exact ⟨hk, hsl, hq, hl, hh, hc⟩
    | exact ⟨pw_cell_below hb hk, pw_cell_below hb hsl, fun j v hj => pw_cell_below hb (hq j v hj), pw_cell_below hb hl, pw_cell_below hb hh, pw_cell_below hb hc⟩)
  (first | (go_at_call 93; refine (chance_calls kind s _ hs).mono ?_; rintro e w1 ⟨rfl, hb⟩))
 have hx : 0 ≤ high - low ∧ high - low ≤ 4294967295 := by omega
 have hp1 : 0 ≤ (high - low) / 4096 * likely kind s ∧ (high - low) / 4096 * likely kind s ≤ 4294967295 := by
  have := Int.mul_le_mul_of_nonneg_left (show likely kind s ≤ 4096 by omega) (show 0 ≤ (high - low) / 4096 by omega)
  exact ⟨Int.mul_nonneg (by omega) (by omega), by omega⟩
 have hp2 : 0 ≤ (high - low) % 4096 * likely kind s ∧ (high - low) % 4096 * likely kind s ≤ 16777216 := by
  have := Int.mul_le_mul_of_nonneg_left (show likely kind s ≤ 4096 by omega) (show 0 ≤ (high - low) % 4096 by omega)
  exact ⟨Int.mul_nonneg (by omega) (by omega), by omega⟩
 go_wp2
 go_ret
 exact ⟨rfl, below_undrew1 hb⟩
/-- The world when the interval has taken a bit, ahead of the state. -/
def cutW (w : World) (g : Nat) (bit mid : Int) : World := if bit = 1 then w.setCell ⟨g, 35, none⟩ (.int .u64 mid) else w.setCell ⟨g, 34, none⟩ (.int .u64 (mid + 1))
theorem cell_far {w : World} {a p : Addr} {v x : Value} (h : w.cell? a = some v) (hne : p.block ≠ a.block ∨ p.off ≠ a.off) : (w.setCell p x).cell? a = some v :=
 (World.cell?_setCell_other w p a x (by rintro rfl; rcases hne with h | h <;> exact h rfl)).trans h
set_option maxHeartbeats 2000000 in
theorem take_calls (w : World) (g : Nat) (kind : Int) (n c : Nat) (low high : Int) (i : Nat) (s mid bit : Int) (ad : Addr) (hI : Iv w g kind (some ad) n c low high)
 (hc : w.cell? (ad.add i) = some (.int .i64 s)) (hfA : w.frozen? (ad.add i) = false) (hne : ad.block ≠ g) (hi : i < n) (hn : n ≤ 8192) (hs : okState kind s) (hb : bit = 0 ∨ bit = 1) (hm0 : 0 ≤ mid) (hm1 : mid ≤ 4294967295) :
 Calls Try.prog 71 #[.pointer (some ⟨g, 0, none⟩), .int .i64 i, .int .i64 bit, .int .u64 mid] w fun e w' => e = .returned (.tuple #[]) ∧ ∃ w1, Below w.heap.size (cutW w g bit mid) w1 ∧ w' = w1.setCell (ad.add i) (.int .i64 (after kind s bit)) := by
 obtain ⟨hk, hsl, hq, hl, hh, hf⟩ := hI
 have hi' : (i : Int) < (n : Int) := by omega
 have hne' : (ad.add i).block ≠ g := by rw [add_block]; exact hne
 have hf1 := hf 35
 have hf2 := hf 34
 have hsz : ∀ p v, (w.setCell p v).heap.size = w.heap.size := fun p v => by simp [World.setCell]
 clear hq hf
 rcases hb with rfl | rfl
 · have k1 : (w.setCell ⟨g, 34, none⟩ (.int .u64 (mid + 1))).cell? ⟨g, 0, none⟩ = _ := cell_far hk (.inr (by simp))
   have s1 : (w.setCell ⟨g, 34, none⟩ (.int .u64 (mid + 1))).cell? ⟨g, 1, none⟩ = _ := cell_far hsl (.inr (by simp))
   have c1 : (w.setCell ⟨g, 34, none⟩ (.int .u64 (mid + 1))).cell? (ad.add i) = _ := cell_far hc (.inl (Ne.symm hne'))
   have f1 : (w.setCell ⟨g, 34, none⟩ (.int .u64 (mid + 1))).frozen? (ad.add i) = false := by rw [World.frozen?_setCell]; exact hfA
   have z1 := hsz ⟨g, 34, none⟩ (.int .u64 (mid + 1))
   rw [show cutW w g 0 mid = (w.setCell ⟨g, 34, none⟩ (.int .u64 (mid + 1))) from rfl]
   clear hsz
   go_enter Try.func71, Try.ntmps71
   go_wp2
   generalize hW : (w.setCell ⟨g, 34, none⟩ (.int .u64 (mid + 1))) = W1 at k1 s1 c1 f1 z1 ⊢
   have HW := Za hW
   clear hW
   have hga := World.block_lt_of_cell? W1 _ c1
   clear hk hsl hl hh hc hfA
   refine start_ (n := 23) (S := fun w' => w'.cell? ⟨g, 0, none⟩ = some (.int .i64 kind) ∧ w'.cell? ⟨g, 1, none⟩ = some (.slice (some ad) n c) ∧ w'.cell? (ad.add i) = some (.int .i64 s)) (ds := [22]) (B' 23 0) (by kernel_rfl) rfl rfl ⟨k1, s1, c1⟩ (fun hHeld => ?_)
   refine u' 0 19 (B' 23 1) ?_ rfl rfl ?_ ?_ ?_ ?_; rotate_left; (intro w'; go_simp; with_reducible rfl); rotate_left; (simp only [Act.put, p1', p2', p3', w1', w2']; rfl)
   refine u' 1 20 (B' 23 3) ?_ rfl rfl ?_ ?_ ?_ ?_; rotate_left; (intro w'; go_simp; with_reducible rfl); rotate_left; (simp only [Act.put, p1', p2', p3', w1', w2']; rfl)
   refine u' 2 21 (B' 23 7) ?_ rfl rfl ?_ ?_ ?_ ?_; rotate_left; (intro w'; go_simp; with_reducible rfl); rotate_left; (simp only [Act.put, p1', p2', p3', w1', w2']; rfl)
   refine u' 3 22 (B' 23 15) ?_ rfl rfl ?_ ?_ ?_ ?_; rotate_left; (intro w'; go_simp; with_reducible rfl); rotate_left; (simp only [Act.put, p1', p2', p3', w1', w2']; rfl)
   refine u' 5 24 (B' 23 47) ?_ rfl rfl ?_ ?_ ?_ ?_; rotate_left; (intro w'; go_simp; with_reducible rfl); rotate_left; (simp only [Act.put, p1', p2', p3', w1', w2']; rfl)
   refine u' 6 25 (B' 23 111) ?_ rfl rfl ?_ ?_ ?_ ?_; rotate_left; (intro w'; go_simp; with_reducible rfl); rotate_left; (simp only [Act.put, p1', p2', p3', w1', w2']; rfl)
   refine u' 7 26 (B' 23 239) ?_ rfl rfl ?_ ?_ ?_ ?_; rotate_left; (intro w'; go_simp; with_reducible rfl); rotate_left; (simp only [Act.put, p1', p2', p3', w1', w2']; rfl)
   refine u' 8 27 (B' 23 495) ?_ rfl rfl ?_ ?_ ?_ ?_; rotate_left; (intro w'; go_simp; with_reducible rfl); rotate_left; (simp only [Act.put, p1', p2', p3', w1', w2']; rfl)
   refine u' 9 28 (B' 23 1007) ?_ rfl rfl ?_ ?_ ?_ ?_; rotate_left; (intro w'; go_simp; with_reducible rfl); rotate_left; (simp only [Act.put, p1', p2', p3', w1', w2']; rfl)
   refine u' 11 30 (B' 23 3055) ?_ rfl rfl ?_ ?_ ?_ ?_; rotate_left; (intro w'; go_simp; with_reducible rfl); rotate_left; (simp only [Act.put, p1', p2', p3', w1', w2']; rfl)
   refine u' 12 31 (B' 23 7151) ?_ rfl rfl ?_ ?_ ?_ ?_; rotate_left; (intro w'; go_simp; with_reducible rfl); rotate_left; (simp only [Act.put, p1', p2', p3', w1', w2']; rfl)
   refine u' 13 32 (B' 23 15343) ?_ rfl rfl ?_ ?_ ?_ ?_; rotate_left; (intro w'; go_simp; with_reducible rfl); rotate_left; (simp only [Act.put, p1', p2', p3', w1', w2']; rfl)
   refine u' 14 33 (B' 23 31727) ?_ rfl rfl ?_ ?_ ?_ ?_; rotate_left; (intro w'; go_simp; with_reducible rfl); rotate_left; (simp only [Act.put, p1', p2', p3', w1', w2']; rfl)
   refine u' 16 35 (B' 23 97263) ?_ rfl rfl ?_ ?_ ?_ ?_; rotate_left; (intro w'; go_simp; with_reducible rfl); rotate_left; (simp only [Act.put, p1', p2', p3', w1', w2']; rfl)
   refine u' 19 38 (B' 23 621551) ?_ rfl rfl ?_ ?_ ?_ ?_; rotate_left; (intro w'; go_simp; with_reducible rfl); rotate_left; (simp only [Act.put, p1', p2', p3', w1', w2']; rfl)
   refine t' 4 23 (B' 23 621567) ?_ rfl rfl ?_ hHeld ?_ ?_ ?_; rotate_left; (rintro w' ⟨s0, s1, s2⟩; go_simp; with_reducible rfl); rotate_left; (simp only [Act.put, p1', p2', p3', w1', w2']; rfl)
   refine t' 10 29 (B' 23 622591) ?_ rfl rfl ?_ hHeld ?_ ?_ ?_; rotate_left; (rintro w' ⟨s0, s1, s2⟩; go_simp; with_reducible rfl); rotate_left; (simp only [Act.put, p1', p2', p3', w1', w2']; rfl)
   refine t' 15 34 (B' 23 655359) ?_ rfl rfl ?_ hHeld ?_ ?_ ?_; rotate_left; (rintro w' ⟨s0, s1, s2⟩; go_simp; with_reducible rfl); rotate_left; (simp only [Act.put, p1', p2', p3', w1', w2']; rfl)
   refine u' 17 36 (B' 23 786431) ?_ rfl rfl ?_ ?_ ?_ ?_; rotate_left; (intro w'; go_simp; with_reducible rfl); rotate_left; (simp only [Act.put, p1', p2', p3', w1', w2']; rfl)
   refine t' 18 37 (B' 23 1048575) ?_ rfl rfl ?_ hHeld ?_ ?_ ?_; rotate_left; (rintro w' ⟨s0, s1, s2⟩; go_simp; with_reducible rfl); rotate_left; (simp only [Act.put, p1', p2', p3', w1', w2']; rfl)
   refine one_ (i := 20) (N := some 39) (B' 23 2097151) rfl rfl (by kernel_rfl) (by decide) (fun K hK => ?_)
   refine goes_ Try.func92 (by kernel_rfl) rfl #[.int .i64 kind, .int .i64 s, .int .i64 0] (by rfl) rfl rfl (by simp only [List.map_toArray, List.map_cons, List.map_nil]; rfl) ?_
   with_reducible refine (next_calls kind s 0 _ hs (by omega)).mono ?_
   rintro e w1 ⟨rfl, hb⟩
   refine ⟨_, rfl, ?_⟩
   have k2 := pw_cell_below hb k1
   have s2 := pw_cell_below hb s1
   have c2 := pw_cell_below hb c1
   have f2 := (hb.frozen (p := ad.add i) hga).trans f1
   refine hK.out _ _ ⟨k2, s2, c2⟩ (fun hHeld => ?_)
   clear hK K
   refine n' ?_ ?_ ?_; rotate_left; (show Act.put _ (some 39) _ = _; simp only [Act.put, p1', p2', p3', w1', w2']; rfl)
   refine u' 21 40 (B' 23 4194303) ?_ rfl rfl ?_ ?_ ?_ ?_; rotate_left; (intro w'; go_simp; with_reducible rfl); rotate_left; (simp only [Act.put, p1', p2', p3', w1', w2']; rfl)
   refine last_ (i := 22) (N := none) (B' 23 8388607) rfl rfl (by kernel_rfl) (by decide) (fun K hK => ?_)
   refine skip_ (w1 := ?_) (by rfl) rfl ?_ ?_
   rotate_left
   · go_simp
     rfl
   refine hK.out _ _ ?_
   clear hK K
   refine done_ (by kernel_rfl) ?_
   go_end0
   refine ⟨rfl, w1, ?_, rfl⟩
   rw [← z1, HW.out]
   exact below_undrew1 hb
 · have k1 : (w.setCell ⟨g, 35, none⟩ (.int .u64 mid)).cell? ⟨g, 0, none⟩ = _ := cell_far hk (.inr (by simp))
   have s1 : (w.setCell ⟨g, 35, none⟩ (.int .u64 mid)).cell? ⟨g, 1, none⟩ = _ := cell_far hsl (.inr (by simp))
   have c1 : (w.setCell ⟨g, 35, none⟩ (.int .u64 mid)).cell? (ad.add i) = _ := cell_far hc (.inl (Ne.symm hne'))
   have f1 : (w.setCell ⟨g, 35, none⟩ (.int .u64 mid)).frozen? (ad.add i) = false := by rw [World.frozen?_setCell]; exact hfA
   have z1 := hsz ⟨g, 35, none⟩ (.int .u64 mid)
   rw [show cutW w g 1 mid = (w.setCell ⟨g, 35, none⟩ (.int .u64 mid)) from rfl]
   clear hsz
   go_enter Try.func71, Try.ntmps71
   go_wp2
   generalize hW : (w.setCell ⟨g, 35, none⟩ (.int .u64 mid)) = W1 at k1 s1 c1 f1 z1 ⊢
   have HW := Za hW
   clear hW
   have hga := World.block_lt_of_cell? W1 _ c1
   clear hk hsl hl hh hc hfA
   refine start_ (n := 23) (S := fun w' => w'.cell? ⟨g, 0, none⟩ = some (.int .i64 kind) ∧ w'.cell? ⟨g, 1, none⟩ = some (.slice (some ad) n c) ∧ w'.cell? (ad.add i) = some (.int .i64 s)) (ds := [22]) (B' 23 0) (by kernel_rfl) rfl rfl ⟨k1, s1, c1⟩ (fun hHeld => ?_)
   refine u' 0 19 (B' 23 1) ?_ rfl rfl ?_ ?_ ?_ ?_; rotate_left; (intro w'; go_simp; with_reducible rfl); rotate_left; (simp only [Act.put, p1', p2', p3', w1', w2']; rfl)
   refine u' 1 20 (B' 23 3) ?_ rfl rfl ?_ ?_ ?_ ?_; rotate_left; (intro w'; go_simp; with_reducible rfl); rotate_left; (simp only [Act.put, p1', p2', p3', w1', w2']; rfl)
   refine u' 2 21 (B' 23 7) ?_ rfl rfl ?_ ?_ ?_ ?_; rotate_left; (intro w'; go_simp; with_reducible rfl); rotate_left; (simp only [Act.put, p1', p2', p3', w1', w2']; rfl)
   refine u' 3 22 (B' 23 15) ?_ rfl rfl ?_ ?_ ?_ ?_; rotate_left; (intro w'; go_simp; with_reducible rfl); rotate_left; (simp only [Act.put, p1', p2', p3', w1', w2']; rfl)
   refine u' 5 24 (B' 23 47) ?_ rfl rfl ?_ ?_ ?_ ?_; rotate_left; (intro w'; go_simp; with_reducible rfl); rotate_left; (simp only [Act.put, p1', p2', p3', w1', w2']; rfl)
   refine u' 6 25 (B' 23 111) ?_ rfl rfl ?_ ?_ ?_ ?_; rotate_left; (intro w'; go_simp; with_reducible rfl); rotate_left; (simp only [Act.put, p1', p2', p3', w1', w2']; rfl)
   refine u' 7 26 (B' 23 239) ?_ rfl rfl ?_ ?_ ?_ ?_; rotate_left; (intro w'; go_simp; with_reducible rfl); rotate_left; (simp only [Act.put, p1', p2', p3', w1', w2']; rfl)
   refine u' 8 27 (B' 23 495) ?_ rfl rfl ?_ ?_ ?_ ?_; rotate_left; (intro w'; go_simp; with_reducible rfl); rotate_left; (simp only [Act.put, p1', p2', p3', w1', w2']; rfl)
   refine u' 9 28 (B' 23 1007) ?_ rfl rfl ?_ ?_ ?_ ?_; rotate_left; (intro w'; go_simp; with_reducible rfl); rotate_left; (simp only [Act.put, p1', p2', p3', w1', w2']; rfl)
   refine u' 11 30 (B' 23 3055) ?_ rfl rfl ?_ ?_ ?_ ?_; rotate_left; (intro w'; go_simp; with_reducible rfl); rotate_left; (simp only [Act.put, p1', p2', p3', w1', w2']; rfl)
   refine u' 12 31 (B' 23 7151) ?_ rfl rfl ?_ ?_ ?_ ?_; rotate_left; (intro w'; go_simp; with_reducible rfl); rotate_left; (simp only [Act.put, p1', p2', p3', w1', w2']; rfl)
   refine u' 13 32 (B' 23 15343) ?_ rfl rfl ?_ ?_ ?_ ?_; rotate_left; (intro w'; go_simp; with_reducible rfl); rotate_left; (simp only [Act.put, p1', p2', p3', w1', w2']; rfl)
   refine u' 14 33 (B' 23 31727) ?_ rfl rfl ?_ ?_ ?_ ?_; rotate_left; (intro w'; go_simp; with_reducible rfl); rotate_left; (simp only [Act.put, p1', p2', p3', w1', w2']; rfl)
   refine u' 16 35 (B' 23 97263) ?_ rfl rfl ?_ ?_ ?_ ?_; rotate_left; (intro w'; go_simp; with_reducible rfl); rotate_left; (simp only [Act.put, p1', p2', p3', w1', w2']; rfl)
   refine u' 19 38 (B' 23 621551) ?_ rfl rfl ?_ ?_ ?_ ?_; rotate_left; (intro w'; go_simp; with_reducible rfl); rotate_left; (simp only [Act.put, p1', p2', p3', w1', w2']; rfl)
   refine t' 4 23 (B' 23 621567) ?_ rfl rfl ?_ hHeld ?_ ?_ ?_; rotate_left; (rintro w' ⟨s0, s1, s2⟩; go_simp; with_reducible rfl); rotate_left; (simp only [Act.put, p1', p2', p3', w1', w2']; rfl)
   refine t' 10 29 (B' 23 622591) ?_ rfl rfl ?_ hHeld ?_ ?_ ?_; rotate_left; (rintro w' ⟨s0, s1, s2⟩; go_simp; with_reducible rfl); rotate_left; (simp only [Act.put, p1', p2', p3', w1', w2']; rfl)
   refine t' 15 34 (B' 23 655359) ?_ rfl rfl ?_ hHeld ?_ ?_ ?_; rotate_left; (rintro w' ⟨s0, s1, s2⟩; go_simp; with_reducible rfl); rotate_left; (simp only [Act.put, p1', p2', p3', w1', w2']; rfl)
   refine u' 17 36 (B' 23 786431) ?_ rfl rfl ?_ ?_ ?_ ?_; rotate_left; (intro w'; go_simp; with_reducible rfl); rotate_left; (simp only [Act.put, p1', p2', p3', w1', w2']; rfl)
   refine t' 18 37 (B' 23 1048575) ?_ rfl rfl ?_ hHeld ?_ ?_ ?_; rotate_left; (rintro w' ⟨s0, s1, s2⟩; go_simp; with_reducible rfl); rotate_left; (simp only [Act.put, p1', p2', p3', w1', w2']; rfl)
   refine one_ (i := 20) (N := some 39) (B' 23 2097151) rfl rfl (by kernel_rfl) (by decide) (fun K hK => ?_)
   refine goes_ Try.func92 (by kernel_rfl) rfl #[.int .i64 kind, .int .i64 s, .int .i64 1] (by rfl) rfl rfl (by simp only [List.map_toArray, List.map_cons, List.map_nil]; rfl) ?_
   with_reducible refine (next_calls kind s 1 _ hs (by omega)).mono ?_
   rintro e w1 ⟨rfl, hb⟩
   refine ⟨_, rfl, ?_⟩
   have k2 := pw_cell_below hb k1
   have s2 := pw_cell_below hb s1
   have c2 := pw_cell_below hb c1
   have f2 := (hb.frozen (p := ad.add i) hga).trans f1
   refine hK.out _ _ ⟨k2, s2, c2⟩ (fun hHeld => ?_)
   clear hK K
   refine n' ?_ ?_ ?_; rotate_left; (show Act.put _ (some 39) _ = _; simp only [Act.put, p1', p2', p3', w1', w2']; rfl)
   refine u' 21 40 (B' 23 4194303) ?_ rfl rfl ?_ ?_ ?_ ?_; rotate_left; (intro w'; go_simp; with_reducible rfl); rotate_left; (simp only [Act.put, p1', p2', p3', w1', w2']; rfl)
   refine last_ (i := 22) (N := none) (B' 23 8388607) rfl rfl (by kernel_rfl) (by decide) (fun K hK => ?_)
   refine skip_ (w1 := ?_) (by rfl) rfl ?_ ?_
   rotate_left
   · go_simp
     rfl
   refine hK.out _ _ ?_
   clear hK K
   refine done_ (by kernel_rfl) ?_
   go_end0
   refine ⟨rfl, w1, ?_, rfl⟩
   rw [← z1, HW.out]
   exact below_undrew1 hb
theorem same_calls (w : World) (g : Nat) (low high : Int) (hl : w.cell? ⟨g, 34, none⟩ = some (.int .u64 low)) (hh : w.cell? ⟨g, 35, none⟩ = some (.int .u64 high)) (h0 : 0 ≤ low) (h1 : 0 ≤ high) :
 Calls Try.prog 73 #[.pointer (some ⟨g, 0, none⟩)] w fun e w' => e = .returned (.bool (decide (low / 16777216 = high / 16777216))) ∧ ∃ m, w' = w.drewN m := by
 go_enter Try.func73, Try.ntmps73
 go_wp2
 go_quiet (fail)
 go_wp2
 go_ret
 exact ⟨rfl, _, rfl⟩
theorem lose_calls (w : World) (g : Nat) (low high : Int) (hl : w.cell? ⟨g, 34, none⟩ = some (.int .u64 low)) (hh : w.cell? ⟨g, 35, none⟩ = some (.int .u64 high)) (hf : ∀ i, w.frozen? ⟨g, i, none⟩ = false) (h0 : 0 ≤ low) (h1 : 0 ≤ high) (h2 : low ≤ 4294967295) (h3 : high ≤ 4294967295) :
 Calls Try.prog 74 #[.pointer (some ⟨g, 0, none⟩)] w fun e w' => e = .returned (.int .u8 (low / 16777216)) ∧ w' = (w.setCell ⟨g, 34, none⟩ (.int .u64 (low % 16777216 * 256))).setCell ⟨g, 35, none⟩ (.int .u64 (high % 16777216 * 256 + 255)) := by
 have hf1 := hf 34
 have hf2 := hf 35
 have e1 : Go.bits .and .u64 (low * 256) 4294967295 = low % 16777216 * 256 := (u64_low32 (x := low * 256) (by omega) (by omega)).trans (by omega)
 have e2 : Go.bits .and .u64 (high * 256) 4294967295 = high % 16777216 * 256 := (u64_low32 (x := high * 256) (by omega) (by omega)).trans (by omega)
 have e3 : Go.bits .or .u64 (high % 16777216 * 256) 255 = high % 16777216 * 256 + 255 := u64_or255 (by omega) (by omega) (by omega)
 clear hf
 go_enter Try.func74, Try.ntmps74
 go_wp2
 go_ret
 exact ⟨rfl, rfl⟩
end Go.Proofs.Ytkfejicdjpffcaa.Cod3
namespace Go.Proofs.Ytkfejicdjpffcaa.Mod
open Go Go.RowKit YtkfejicdjpffcaaW PrintWords PrintLast PrintMore Aid HandAid Cod1 Cod2 U
instance (kind s : Int) : Decidable (okState kind s) := by unfold okState; infer_instance
/-- A model that is one. -/
def okModel (kind : Int) (st : List Int) : Prop := (kind = 0 ∨ kind = 1) ∧ st.length ≤ 8192 ∧ ∀ s ∈ st, okState kind s
instance (kind : Int) (st : List Int) : Decidable (okModel kind st) := by unfold okModel; infer_instance
theorem okState_iff (kind s : Int) (hk : kind = 0 ∨ kind = 1) : okState kind s ↔ 0 ≤ s ∧ s < (if kind = 1 then 65536 else 64) := by
 unfold okState
 rcases hk with rfl | rfl <;> simp
def allIn (e : Int) (l : List Int) : Bool := l.all fun s => decide (0 ≤ s) && decide (s < e)
theorem allIn_iff (e : Int) (l : List Int) : allIn e l = true ↔ ∀ s ∈ l, 0 ≤ s ∧ s < e := by simp [allIn]
theorem allIn_from (e : Int) (st : List Int) (i : Nat) (h : i < st.length) : allIn e (st.drop i) = ((decide (0 ≤ rd st i) && decide (rd st i < e)) && allIn e (st.drop (i + 1))) := by
 rw [drop_rd h]
 rfl
theorem valid_loop (st : List Int) (hn : st.length ≤ 8192) (e : Int) : ∀ (d i : Nat), i + d = st.length → Ev (fun k => coder_Valid.l0 k e st (st.length : Int) (i : Int)) (allIn e (st.drop i))
 | 0, i, hd => by
   refine ev_succ ?_
   simp only [coder_Valid.l0]
   refine ev_eq (ev_neg (by omega) (Ev.now _)) ?_
   rw [List.drop_of_length_le (by omega)]
   rfl
 | d + 1, i, hd => by
   refine ev_succ ?_
   simp only [coder_Valid.l0]
   simp (disch := omega) only [wrap_id]
   refine ev_pos (by omega) (ev_pos (by omega) (ev_pos (by omega) ?_))
   rw [allIn_from e st i (by omega)]
   by_cases c : rd st i < 0
   · exact ev_eq (ev_pos c (Ev.now _)) (by rw [decide_eq_false (show ¬ 0 ≤ rd st (i : Int) by omega)]; rfl)
   refine ev_neg c ?_
   by_cases c2 : rd st i ≥ e
   · exact ev_eq (ev_pos c2 (Ev.now _)) (by rw [decide_eq_false (show ¬ rd st (i : Int) < _ by omega), Bool.and_false]; rfl)
   refine ev_neg c2 (ev_eq (valid_loop st hn e d (i + 1) (by omega)) ?_)
   rw [decide_eq_true (show 0 ≤ rd st (i : Int) by omega), decide_eq_true (show rd st (i : Int) < _ by omega)]
   rfl
theorem valid_ev (kind : Int) (st : List Int) : Ev (fun k => coder_Valid.f k kind st) (decide (okModel kind st)) := by
 have hj : ∀ b, (b = false → (kind = 0 ∨ kind = 1) ∧ st.length ≤ 8192) → (b = true → ¬ okModel kind st) → Ev (fun k => coder_Valid.j0 k b kind st) (decide (okModel kind st)) := by
  intro b h1 h2
  refine ev_succ ?_
  simp only [coder_Valid.j0]
  cases b with
  | true => exact ev_eq (ev_pos (by simp) (Ev.now _)) (by simp [h2 rfl])
  | false =>
    obtain ⟨hk, hl⟩ := h1 rfl
    refine ev_neg (by simp) ?_
    have e2 : ∀ e : Int, e = (if kind = 1 then 65536 else 64) → allIn e (st.drop 0) = decide (okModel kind st) := by
     intro e he
     rw [Bool.eq_iff_iff, allIn_iff, decide_eq_true_eq]
     unfold okModel
     constructor
     · exact fun h => ⟨hk, hl, fun s hs => (okState_iff kind s hk).2 (he ▸ h s hs)⟩
     · exact fun h s hs => he ▸ (okState_iff kind s hk).1 (h.2.2 s hs)
    by_cases c : kind = 1
    · refine ev_pos c (ev_succ ?_)
      simp only [coder_Valid.j1]
      exact ev_eq (valid_loop st hl 65536 st.length 0 (by omega)) (e2 _ (by rw [if_pos c]))
    · refine ev_neg c (ev_succ ?_)
      simp only [coder_Valid.j1]
      exact ev_eq (valid_loop st hl 64 st.length 0 (by omega)) (e2 _ (by rw [if_neg c]))
 unfold coder_Valid.f
 by_cases c0 : kind = 0
 · exact ev_pos c0 (hj _ (fun h => ⟨.inl c0, by simp at h; omega⟩) (fun h hm => by have := hm.2.1; simp at h; omega))
 refine ev_neg c0 ?_
 by_cases c1 : kind = 1
 · exact ev_pos c1 (hj _ (fun h => ⟨.inr c1, by simp at h; omega⟩) (fun h hm => by have := hm.2.1; simp at h; omega))
 exact ev_neg c1 (hj _ (fun h => by simp at h) (fun _ hm => by rcases hm.1 with h | h <;> omega))
theorem valid_calls (A : Option Addr) (c : Nat) (kind : Int) (st : List Int) (w : World) (hC : Kd.C (Kd.int .i64) w A st.length st) (hc : st.length ≤ c) :
 Calls Try.prog 51 #[.agg #[.int .i64 kind, .slice A st.length c]] w fun e w' => e = .returned (.bool (decide (okModel kind st))) ∧ Below w.heap.size w w' := by
 obtain ⟨k, h⟩ := Ev.rounds (valid_ev kind st)
 exact coder_Valid.calls k kind A c st _ w hC hc h
theorem ref_valid_loop (st : List Int) (hn : st.length ≤ 8192) (e : Int) : ∀ (d i : Nat), i + d = st.length → Ev (fun k => incunableref02_Valid.l0 k e st (st.length : Int) (i : Int)) (allIn (e + 1) (st.drop i))
 | 0, i, hd => by
   refine ev_succ ?_
   simp only [incunableref02_Valid.l0]
   refine ev_eq (ev_neg (by omega) (Ev.now _)) ?_
   rw [List.drop_of_length_le (by omega)]
   rfl
 | d + 1, i, hd => by
   refine ev_succ ?_
   simp only [incunableref02_Valid.l0]
   simp (disch := omega) only [wrap_id]
   refine ev_pos (by omega) (ev_pos (by omega) (ev_pos (by omega) ?_))
   rw [allIn_from (e + 1) st i (by omega)]
   by_cases c : rd st i < 0
   · exact ev_eq (ev_pos c (Ev.now _)) (by rw [decide_eq_false (show ¬ 0 ≤ rd st (i : Int) by omega)]; rfl)
   refine ev_neg c ?_
   by_cases c2 : rd st i > e
   · exact ev_eq (ev_pos c2 (Ev.now _)) (by rw [decide_eq_false (show ¬ rd st (i : Int) < _ by omega), Bool.and_false]; rfl)
   refine ev_neg c2 (ev_eq (ref_valid_loop st hn e d (i + 1) (by omega)) ?_)
   rw [decide_eq_true (show 0 ≤ rd st (i : Int) by omega), decide_eq_true (show rd st (i : Int) < _ by omega)]
   rfl
theorem ref_valid_ev (kind : Int) (st : List Int) : Ev (fun k => incunableref02_Valid.f k kind st) (decide (okModel kind st)) := by
 have hj1 : ∀ (e : Int) b, e = (if kind = 1 then 65535 else 63) → (b = false → (kind = 0 ∨ kind = 1) ∧ st.length ≤ 8192) → (b = true → ¬ okModel kind st) → Ev (fun k => incunableref02_Valid.j1 k e b kind st) (decide (okModel kind st)) := by
  intro e b he h1 h2
  refine ev_succ ?_
  simp only [incunableref02_Valid.j1]
  cases b with
  | true => exact ev_eq (ev_pos (by simp) (Ev.now _)) (by simp [h2 rfl])
  | false =>
    obtain ⟨hk, hl⟩ := h1 rfl
    refine ev_neg (by simp) (ev_eq (ref_valid_loop st hl e st.length 0 (by omega)) ?_)
    have he' : e + 1 = (if kind = 1 then 65536 else 64) := by rw [he]; split <;> omega
    rw [Bool.eq_iff_iff, allIn_iff, decide_eq_true_eq]
    unfold okModel
    constructor
    · exact fun h => ⟨hk, hl, fun s hs => (okState_iff kind s hk).2 (he' ▸ h s hs)⟩
    · exact fun h s hs => he' ▸ (okState_iff kind s hk).1 (h.2.2 s hs)
 have hj : ∀ e : Int, e = (if kind = 1 then 65535 else 63) → Ev (fun k => incunableref02_Valid.j0 k e kind st) (decide (okModel kind st)) := by
  intro e he
  refine ev_succ ?_
  simp only [incunableref02_Valid.j0]
  by_cases c0 : kind = 0
  · exact ev_pos c0 (hj1 _ _ he (fun h => ⟨.inl c0, by simp at h; omega⟩) (fun h hm => by have := hm.2.1; simp at h; omega))
  refine ev_neg c0 ?_
  by_cases c1 : kind = 1
  · exact ev_pos c1 (hj1 _ _ he (fun h => ⟨.inr c1, by simp at h; omega⟩) (fun h hm => by have := hm.2.1; simp at h; omega))
  exact ev_neg c1 (hj1 _ _ he (fun h => by simp at h) (fun _ hm => by rcases hm.1 with h | h <;> omega))
 unfold incunableref02_Valid.f
 by_cases c1 : kind = 1
 · exact ev_pos c1 (hj _ (by rw [if_pos c1]))
 · exact ev_neg c1 (hj _ (by rw [if_neg c1]))
theorem ref_valid_calls (A : Option Addr) (c : Nat) (kind : Int) (st : List Int) (w : World) (hC : Kd.C (Kd.int .i64) w A st.length st) (hc : st.length ≤ c) :
 Calls Try.prog 53 #[.agg #[.int .i64 kind, .slice A st.length c]] w fun e w' => e = .returned (.bool (decide (okModel kind st))) ∧ Below w.heap.size w w' := by
 obtain ⟨k, h⟩ := Ev.rounds (ref_valid_ev kind st)
 exact incunableref02_Valid.calls k kind A c st _ w hC hc h
theorem clone_calls (A : Option Addr) (c : Nat) (kind : Int) (st : List Int) (w : World) (hC : Kd.C (Kd.int .i64) w A st.length st) (hc : st.length ≤ c) (hl : st.length ≤ 1000000) :
 Calls Try.prog 77 #[.agg #[.int .i64 kind, .slice A st.length c]] w fun e w' => ∃ A' c', e = .returned (.agg #[.int .i64 kind, .slice A' st.length c']) ∧ Kd.R (Kd.int .i64) 3 w' w.heap.size (fun _ => True) (.slice A' st.length c') st ∧ Below w.heap.size w w' := by
 refine (coder_clone.calls kind A c st kind st w hC hc ?_).mono ?_
 · unfold coder_clone.f
   simp only [Option.bind_some, List.nil_append, List.length_nil]
   rw [if_pos (by omega)]
 · rintro e w' ⟨v, rfl, hR, hb⟩
   obtain ⟨A', c', rfl⟩ := Kd.R_slice hR
   exact ⟨A', c', rfl, hR, hb⟩
theorem copy_calls (A : Option Addr) (c : Nat) (kind : Int) (st : List Int) (w : World) (hC : Kd.C (Kd.int .i64) w A st.length st) (hc : st.length ≤ c) (hl : st.length ≤ 1000000) :
 Calls Try.prog 54 #[.agg #[.int .i64 kind, .slice A st.length c]] w fun e w' => ∃ A' c', e = .returned (.agg #[.int .i64 kind, .slice A' st.length c']) ∧ Kd.R (Kd.int .i64) 3 w' w.heap.size (fun _ => True) (.slice A' st.length c') st ∧ Below w.heap.size w w' := by
 refine (incunableref02_Copy.calls kind A c st kind st w hC hc ?_).mono ?_
 · unfold incunableref02_Copy.f
   simp only [Option.bind_some, List.nil_append, List.length_nil]
   rw [if_pos (by omega)]
 · rintro e w' ⟨v, rfl, hR, hb⟩
   obtain ⟨A', c', rfl⟩ := Kd.R_slice hR
   exact ⟨A', c', rfl, hR, hb⟩
/-- New's model: its kind, its states, its error. -/
def newModel (kind n : Int) : Int × List Int × Int := if (kind = 0 ∨ kind = 1) ∧ 0 ≤ n ∧ n ≤ 8192 then (kind, List.replicate n.toNat 0, 0) else (0, [], 2)
theorem new_eq (kind n : Int) : coder_New.f kind n = some (newModel kind n) := by
 unfold coder_New.f newModel
 by_cases c0 : kind = 0
 · rw [if_pos c0]
   by_cases h1 : n < 0
   · rw [if_pos h1, if_neg (by omega)]
   rw [if_neg h1]
   by_cases h2 : n > 8192
   · rw [if_pos h2, if_neg (by omega)]
   rw [if_neg h2, if_pos (by omega), if_pos (by omega), if_pos ⟨.inl c0, by omega, by omega⟩]
 rw [if_neg c0]
 by_cases c1 : kind = 1
 · rw [if_pos c1]
   by_cases h1 : n < 0
   · rw [if_pos h1, if_neg (by omega)]
   rw [if_neg h1]
   by_cases h2 : n > 8192
   · rw [if_pos h2, if_neg (by omega)]
   rw [if_neg h2, if_pos (by omega), if_pos (by omega), if_pos ⟨.inr c1, by omega, by omega⟩]
 rw [if_neg c1, if_neg (by omega)]
theorem new_ok (kind n : Int) (h : (newModel kind n).2.2 = 0) : okModel (newModel kind n).1 (newModel kind n).2.1 := by
 unfold newModel at h ⊢
 by_cases c : (kind = 0 ∨ kind = 1) ∧ 0 ≤ n ∧ n ≤ 8192
 · rw [if_pos c]
   refine ⟨c.1, by simp; omega, fun s hs => ?_⟩
   have h0 := List.eq_of_mem_replicate hs
   subst h0
   unfold okState
   omega
 · rw [if_neg c] at h
   simp at h
end Go.Proofs.Ytkfejicdjpffcaa.Mod
namespace Go.Proofs.Ytkfejicdjpffcaa.NewRef
open Go Go.RowKit YtkfejicdjpffcaaW PrintWords PrintLast PrintMore Aid HandAid Cod1 Cod2 Ytkfejicdjpffcaa.Mod
end Go.Proofs.Ytkfejicdjpffcaa.NewRef
namespace Go.Proofs.Ytkfejicdjpffcaa.Enc
open Go Go.RowKit YtkfejicdjpffcaaW PrintWords PrintLast PrintMore Aid HandAid Cod1 Cod2 Cod3 Ytkfejicdjpffcaa.Mod
def z36 : Array Value := #[.int .i64 0, .slice none 0 0, .int .i64 0, .int .i64 0, .int .i64 0, .int .i64 0, .int .i64 0, .int .i64 0, .int .i64 0, .int .i64 0, .int .i64 0, .int .i64 0, .int .i64 0, .int .i64 0, .int .i64 0, .int .i64 0, .int .i64 0, .int .i64 0, .int .i64 0, .int .i64 0, .int .i64 0, .int .i64 0, .int .i64 0, .int .i64 0, .int .i64 0, .int .i64 0, .int .i64 0, .int .i64 0, .int .i64 0, .int .i64 0, .int .i64 0, .int .i64 0, .int .i64 0, .int .i64 0, .int .u64 0, .int .u64 0]
theorem z36_def : z36 = #[.int .i64 0, .slice none 0 0, .int .i64 0, .int .i64 0, .int .i64 0, .int .i64 0, .int .i64 0, .int .i64 0, .int .i64 0, .int .i64 0, .int .i64 0, .int .i64 0, .int .i64 0, .int .i64 0, .int .i64 0, .int .i64 0, .int .i64 0, .int .i64 0, .int .i64 0, .int .i64 0, .int .i64 0, .int .i64 0, .int .i64 0, .int .i64 0, .int .i64 0, .int .i64 0, .int .i64 0, .int .i64 0, .int .i64 0, .int .i64 0, .int .i64 0, .int .i64 0, .int .i64 0, .int .i64 0, .int .u64 0, .int .u64 0] := rfl
/-- An interval's cells. -/
def iv36 (kind : Int) (v : Value) (low high : Int) : Array Value := #[.int .i64 kind, v, .int .i64 2048, .int .i64 1792, .int .i64 1568, .int .i64 1372, .int .i64 1201, .int .i64 1051, .int .i64 920, .int .i64 805, .int .i64 705, .int .i64 617, .int .i64 540, .int .i64 473, .int .i64 414, .int .i64 363, .int .i64 318, .int .i64 279, .int .i64 245, .int .i64 215, .int .i64 189, .int .i64 166, .int .i64 146, .int .i64 128, .int .i64 112, .int .i64 98, .int .i64 86, .int .i64 76, .int .i64 67, .int .i64 59, .int .i64 52, .int .i64 46, .int .i64 41, .int .i64 36, .int .u64 low, .int .u64 high]
theorem iv36_size (kind : Int) (v : Value) (low high : Int) : (iv36 kind v low high).size = 36 := rfl
theorem info36 (kind : Int) (v : Value) (low high : Int) : (Try.prog.info? 90).map (·.size) = some (iv36 kind v low high).size := by rw [iv36_size]; kernel_rfl
theorem one36 (kind : Int) (A : Option Addr) (n c : Nat) (low high : Int) : (iv36 kind (.slice A n c) low high).all (·.oneCell') = true := by simp [iv36, Value.oneCell']
set_option maxHeartbeats 1000000 in
set_option maxRecDepth 100000 in
theorem begin_calls (A : Option Addr) (c : Nat) (kind : Int) (st : List Int) (w : World) (hC : Kd.C (Kd.int .i64) w A st.length st) (hc : st.length ≤ c) (hl : st.length ≤ 1000000) :
 Calls Try.prog 52 #[.agg #[.int .i64 kind, .slice A st.length c]] w fun e w' => ∃ A' c', e = .returned (.agg (iv36 kind (.slice A' st.length c') 0 4294967295)) ∧ Kd.R (Kd.int .i64) 3 w' w.heap.size (fun _ => True) (.slice A' st.length c') st ∧ Below w.heap.size w w' := by
 have HC := Za hC
 clear hC
 go_enter Try.func52, Try.ntmps52
 go_wp2_with (fail)
 rw [← z36_def]
 have hb0 := Za (b1' (b1' (Below.refl w.heap.size w) (.cells #[.int .i64 kind, .slice A st.length c] 45)) (.cells z36 90))
 have hb1 : Aside0 (((w.alloc (.cells #[.int .i64 kind, .slice A st.length c] 45)).alloc (.cells z36 90)).heap[w.heap.size + 1]? = some (.cells z36 90 (0, 0))) := ⟨by
  have h := heap_new (w.alloc (.cells #[.int .i64 kind, .slice A st.length c] 45)) (.cells z36 90)
  rw [World.size_alloc] at h
  exact h⟩
 generalize ((w.alloc (.cells #[.int .i64 kind, .slice A st.length c] 45)).alloc (.cells z36 90)) = W2 at hb0 hb1 ⊢
 refine (clone_calls A c kind st _ (Kd.C_below HC.out hb0.out) hc hl).mono ?_
 rintro e w1 ⟨A1, c1, rfl, hR, hB⟩
 have HR := Za hR
 have HB := Za hB
 have HB2 := Za (below_then hb0.out hb0.out.size hB)
 have hq1 : Aside0 (w1.heap[w.heap.size + 1]? = some (.cells z36 90 (0, 0))) := ⟨(hB.block _ (blk_lt hb1.out)).trans hb1.out⟩
 have HB2' : Aside0 (w.heap.size ≤ W2.heap.size) := ⟨hb0.out.size⟩
 clear hR hB hb1
 go_wp2_with (first
  | (go_at_call 87; refine (chances_calls _).mono ?_; rintro e w2 ⟨rfl, hB⟩; rw [qtab_lit]; have HB3 := Za (below_then HB2.out HB2.out.size hB); have HR3' := Kd.R_below HR.out hB; have hq2 : Aside0 (w2.heap[w.heap.size + 1]? = some (.cells z36 90 (0, 0))) := ⟨(hB.block _ (blk_lt hq1.out)).trans hq1.out⟩; have HR3 := Za (Kd.R_types HR3' hq2.out (by decide)); clear hB HR3')
  | (with_reducible refine wpList_store_row rfl _ _ _ rfl _ (iv36 kind (.slice A1 st.length c1) 0 4294967295) rfl rfl _ _ hq2.out (info36 _ _ _ _) rfl (one36 _ _ _ _ _ _) ?_))
 have hrow := setRow_heap w2 (w.heap.size + 1) z36 (iv36 kind (.slice A1 st.length c1) 0 4294967295) 90 (0, 0) hq2.out
 have hR4 := Kd.R_lower (Kd.R_step HR3.out (w1 := w2.setRow (w.heap.size + 1) (iv36 kind (.slice A1 st.length c1) 0 4294967295)) fun k hk hlt => setRow_other _ _ _ _ hk.2) HB2'.out
 exact bodyPost_ret (v := .agg (iv36 kind (.slice A1 st.length c1) 0 4294967295)) (results_cell_row rfl _ _ (w.heap.size + 1) 90 _ _ _ rfl hrow Try.underlying90 rfl (info36 _ _ _ _)) rfl ⟨A1, c1, rfl, Kd.R_mono hR4 (fun _ _ => trivial), below_setRow HB3.out (Nat.le_succ _) _⟩
/-- An encoder's cells. -/
def enc38 (kind : Int) (v : Value) (low high : Int) (o : Value) (real : Bool) : Array Value := #[.int .i64 kind, v, .int .i64 2048, .int .i64 1792, .int .i64 1568, .int .i64 1372, .int .i64 1201, .int .i64 1051, .int .i64 920, .int .i64 805, .int .i64 705, .int .i64 617, .int .i64 540, .int .i64 473, .int .i64 414, .int .i64 363, .int .i64 318, .int .i64 279, .int .i64 245, .int .i64 215, .int .i64 189, .int .i64 166, .int .i64 146, .int .i64 128, .int .i64 112, .int .i64 98, .int .i64 86, .int .i64 76, .int .i64 67, .int .i64 59, .int .i64 52, .int .i64 46, .int .i64 41, .int .i64 36, .int .u64 low, .int .u64 high, o, .bool real]
/-- An encoder at block g, its rows within own. -/
structure IsEnc (W : World) (own : Nat → Prop) (base g : Nat) (kind : Int) (st : List Int) (low high : Int) (out : List Int) : Prop where
 ex : ∃ A n c vo, W.heap[g]? = some (.cells (enc38 kind (.slice A n c) low high vo true) 93 (0, 0)) ∧ Kd.R (Kd.int .i64) 3 W base own (.slice A n c) st ∧ Kd.R (Kd.int .u8) 5 W base own vo out
 og : own g
 bg : base ≤ g
 ok : okModel kind st
 l0 : 0 ≤ low
 lh : low / 16777216 ≠ high / 16777216
 le : low ≤ high
 h1 : high ≤ 4294967295
set_option maxHeartbeats 1000000 in
set_option maxRecDepth 100000 in
theorem newenc_calls (A : Option Addr) (c : Nat) (kind : Int) (st : List Int) (w : World) (hC : Kd.C (Kd.int .i64) w A st.length st) (hc : st.length ≤ c) (hm : okModel kind st) :
 Calls Try.prog 23 #[.agg #[.int .i64 kind, .slice A st.length c]] w fun e w' => ∃ g, e = .returned (.tuple #[.pointer (some ⟨g, 0, none⟩), .int .i64 0]) ∧ IsEnc w' (fun k => w.heap.size ≤ k ∧ k < w'.heap.size) w.heap.size g kind st 0 4294967295 [] ∧ Below w.heap.size w w' := by
 have HC := Za hC
 have hv := valid_calls A c kind st
 rw [decide_eq_true hm] at hv
 have HV := Za hv
 have HM := Za hm
 have hl := hm.2.1
 clear hC hv hm
 have hb0 := Za (b1' (Below.refl w.heap.size w) (.cells #[.int .i64 kind, .slice A st.length c] 45))
 have hq0 : Aside0 ((w.alloc (.cells #[.int .i64 kind, .slice A st.length c] 45)).heap[w.heap.size]? = some (.cells #[.int .i64 kind, .slice A st.length c] 45 (0, 0))) := ⟨heap_new _ _⟩
 go_enter Try.func23, Try.ntmps23
 go_wp2_with (first
  | (go_at_call 51; refine (HV.out _ (Kd.C_below HC.out hb0.out) hc).mono ?_; rintro e w1 ⟨rfl, hB⟩; have HB := Za (below_then hb0.out hb0.out.size hB); have hq1 : Aside0 (w1.heap[w.heap.size]? = some (.cells #[.int .i64 kind, .slice A st.length c] 45 (0, 0))) := ⟨(hB.block _ (blk_lt hq0.out)).trans hq0.out⟩; have k0 : w1.cell? ⟨w.heap.size, 0, none⟩ = some (.int .i64 kind) := (Zc hq1.out 0).trans rfl; have k1 : w1.cell? ⟨w.heap.size, 1, none⟩ = some (.slice A st.length c) := (Zc hq1.out 1).trans rfl; clear hB)
  | (go_at_call 52; refine (begin_calls A c kind st _ (Kd.C_below HC.out HB.out) hc (by omega)).mono ?_; rintro e w2 ⟨A2, c2, rfl, hR, hB⟩; have HB2 := Za (below_then HB.out HB.out.size hB); have HR := Za (Kd.R_lower hR HB.out.size); clear hR hB; unfold iv36))
 go_ret2
 refine ⟨w2.heap.size, rfl, ⟨⟨A2, st.length, c2, .slice none 0 0, heap_new w2 (.cells (enc38 kind (.slice A2 st.length c2) 0 4294967295 (.slice none 0 0) true) 93), ?_, Kd.R_nil _ _ _ _ _⟩, ⟨HB2.out.size, by simp⟩, HB2.out.size, HM.out, by omega, by decide, by omega, by omega⟩, b1' HB2.out _⟩
 exact Kd.R_mono (Kd.R_alloc (Kd.R_bound HR.out) _) (fun k hk => ⟨hk.2.1, by have := hk.2.2.1; simp; omega⟩)
theorem enc_none_nil (w : World) : Calls Try.prog 70 #[.pointer none] w fun e w' => e = .returned (.bool true) ∧ w = w' := by
 go_enter Try.func70, Try.ntmps70
 go_wp2
 go_ret
 exact ⟨rfl, rfl⟩
theorem enc_none (w : World) (g : Nat) (real : Bool) (h2 : w.cell? ⟨g, 37, none⟩ = some (.bool real)) : Calls Try.prog 70 #[.pointer (some ⟨g, 0, none⟩)] w fun e w' => e = .returned (.bool (!real)) ∧ w = w' := by
 go_enter Try.func70, Try.ntmps70
 go_wp2
 go_ret
 exact ⟨rfl, rfl⟩
theorem enc_put_nil (w : World) (i b : Int) : Calls Try.prog 28 #[.pointer none, .int .i64 i, .int .i64 b] w fun e w' => e = .returned (.int .i64 7) ∧ w = w' := by
 go_enter Try.func28, Try.ntmps28
 go_wp2_with (go_at_call 70; refine (enc_none_nil _).mono ?_; rintro e w' ⟨rfl, rfl⟩)
 go_ret
 exact ⟨rfl, rfl⟩
theorem enc_put_arg (w : World) (g : Nat) (A : Option Addr) (n c : Nat) (i b : Int) (h1 : w.cell? ⟨g, 1, none⟩ = some (.slice A n c)) (h2 : w.cell? ⟨g, 37, none⟩ = some (.bool true)) (hbad : i < 0 ∨ n ≤ i ∨ (b ≠ 0 ∧ b ≠ 1)) :
 Calls Try.prog 28 #[.pointer (some ⟨g, 0, none⟩), .int .i64 i, .int .i64 b] w fun e w' => e = .returned (.int .i64 2) ∧ w = w' := by
 by_cases c1 : i < 0
 · go_enter Try.func28, Try.ntmps28
   go_wp2_with (go_at_call 70; refine (enc_none _ _ _ h2).mono ?_; rintro e w' ⟨rfl, rfl⟩)
   go_ret
   exact ⟨rfl, rfl⟩
 by_cases c2 : (n : Int) ≤ i
 · go_enter Try.func28, Try.ntmps28
   go_wp2_with (go_at_call 70; refine (enc_none _ _ _ h2).mono ?_; rintro e w' ⟨rfl, rfl⟩)
   go_ret
   exact ⟨rfl, rfl⟩
 have hb0 : b ≠ 0 := by rcases hbad with h | h | h <;> omega
 have hb1 : b ≠ 1 := by rcases hbad with h | h | h <;> omega
 have e0 : (b != 0) = true := by simpa using hb0
 have e1 : (b != 1) = true := by simpa using hb1
 go_enter Try.func28, Try.ntmps28
 go_wp2_with (go_at_call 70; refine (enc_none _ _ _ h2).mono ?_; rintro e w' ⟨rfl, rfl⟩)
 go_ret
 exact ⟨rfl, rfl⟩
/-- The bytes that an interval loses, and what it becomes. -/
def normE : Nat → Int → Int → List Int × Int × Int
 | 0, l, h => ([], l, h)
 | d + 1, l, h => if l / 16777216 = h / 16777216 then (l / 16777216 :: (normE d (l % 16777216 * 256) (h % 16777216 * 256 + 255)).1, (normE d (l % 16777216 * 256) (h % 16777216 * 256 + 255)).2) else ([], l, h)
/-- How many bytes an interval can still lose: it is whole behind four. -/
theorem norm_done : ∀ (d : Nat) (l h : Int), 0 ≤ l → l ≤ h → h ≤ 4294967295 → (h - l + 1) * 256 ^ d ≥ 4294967296 → (normE d l h).2.1 / 16777216 ≠ (normE d l h).2.2 / 16777216 ∧ 0 ≤ (normE d l h).2.1 ∧ (normE d l h).2.1 ≤ (normE d l h).2.2 ∧ (normE d l h).2.2 ≤ 4294967295
 | 0, l, h, h0, h1, h2, hd => by
   simp only [Int.pow_zero, Int.mul_one] at hd
   refine ⟨?_, h0, h1, h2⟩
   show l / 16777216 ≠ h / 16777216
   omega
 | d + 1, l, h, h0, h1, h2, hd => by
   unfold normE
   by_cases c : l / 16777216 = h / 16777216
   · rw [if_pos c]
     refine norm_done d _ _ (by omega) (by omega) (by omega) ?_
     rw [show h % 16777216 * 256 + 255 - l % 16777216 * 256 + 1 = (h - l + 1) * 256 by omega, Int.mul_assoc, Int.mul_comm 256, ← Int.pow_succ]
     exact hd
   · rw [if_neg c]
     exact ⟨c, h0, h1, h2⟩
end Go.Proofs.Ytkfejicdjpffcaa.Enc
namespace Go.Proofs.Ytkfejicdjpffcaa.Mods
open Go Go.RowKit YtkfejicdjpffcaaW PrintWords PrintLast PrintMore Aid HandAid
/-- From w to W nothing has turned but the blocks of S, and what is new. -/
structure Mods (w W : World) (S : Nat → Prop) : Prop where
 os : W.os = w.os
 tape : W.tape = w.tape
 output : W.output = w.output
 size : w.heap.size ≤ W.heap.size
 block : ∀ i, i < w.heap.size → ¬ S i → W.heap[i]? = w.heap[i]?
section
variable {w W W2 : World} {S S2 S' : Nat → Prop}
theorem Mods.refl (w : World) (S : Nat → Prop) : Mods w w S := ⟨rfl, rfl, rfl, Nat.le_refl _, fun _ _ _ => rfl⟩
theorem Mods.kept (h : Mods w W S) : Kept w W S := ⟨h.size, h.block⟩
theorem Mods.of_below (h : Below w.heap.size w W) (S : Nat → Prop) : Mods w W S := ⟨h.os, h.tape, h.output, h.size, fun i hi _ => h.block i hi⟩
theorem Mods.mono (h : Mods w W S) (hs : ∀ k, S k → S' k) : Mods w W S' := ⟨h.os, h.tape, h.output, h.size, fun i hi hn => h.block i hi (fun hk => hn (hs i hk))⟩
theorem Mods.then_ (h : Mods w W S) (k : Mods W W2 S2) (hs : ∀ k, S2 k → S k ∨ w.heap.size ≤ k) : Mods w W2 S :=
 ⟨k.os.trans h.os, k.tape.trans h.tape, k.output.trans h.output, Nat.le_trans h.size k.size, fun i hi hn => (k.block i (Nat.lt_of_lt_of_le hi h.size) (fun h2 => (hs i h2).elim hn (fun h3 => by omega))).trans (h.block i hi hn)⟩
theorem Mods.of_grown {row : Option Nat} (hg : W.grownBy W2 row) (h : Mods w W S) (hr : ∀ k, row = some k → S k ∨ w.heap.size ≤ k) : Mods w W2 S :=
 h.then_ (S2 := fun k => row = some k) ⟨hg.os, hg.tape, hg.output, hg.size, fun i hi hn => hg.block i hi (fun he => hn he.symm)⟩ hr
theorem Mods.below (h : Mods w W S) (hb : Below W.heap.size W W2) : Mods w W2 S := h.then_ (Mods.of_below hb (fun _ => False)) (fun _ hk => hk.elim)
theorem Mods.alloc (h : Mods w W S) (o : Obj) : Mods w (W.alloc o) S := h.below (b1' (Below.refl _ _) o)
theorem Mods.drew (h : Mods w W S) : Mods w W.drew S := h.below (below_drew (Below.refl _ _))
theorem Mods.drewN (h : Mods w W S) (m : Nat) : Mods w (W.drewN m) S := h.below (b2' (Below.refl _ _) m)
theorem Mods.setCell (h : Mods w W S) {p : Addr} (hp : S p.block ∨ w.heap.size ≤ p.block) (u : Value) : Mods w (W.setCell p u) S :=
 h.then_ (S2 := fun k => k = p.block) ⟨rfl, rfl, rfl, by simp [World.setCell], fun i _ hn => Below.heap_setCell W p u i hn⟩ (fun k hk => by rw [hk]; exact hp)
/-- What turns lies from B on. -/
theorem Mods.toBelow {B : Nat} (h : Mods w W S) (hs : ∀ k, S k → B ≤ k) (hB : B ≤ w.heap.size) : Below B w W :=
 ⟨h.os, h.tape, h.output, h.size, fun i hi => h.block i (by omega) (fun hk => by have := hs i hk; omega)⟩
theorem below_mods {B : Nat} {w0 : World} (hb : Below B w0 w) (h : Mods w W S) (hs : ∀ k, S k → B ≤ k) (hB : B ≤ w.heap.size) : Below B w0 W := hb.trans (h.toBelow hs hB)
theorem blk_mods {g : Nat} {o : Obj} (hb : w.heap[g]? = some o) (h : Mods w W S) (hne : ¬ S g) : W.heap[g]? = some o := (h.block g (blk_lt hb) hne).trans hb
end
end Go.Proofs.Ytkfejicdjpffcaa.Mods
