import Derived.Test.YtkfejicdjpffcaaMRefineSame1
import Derived.Test.YtkfejicdjpffcaaMRefineSame2
set_option linter.unusedVariables false
set_option linter.unusedSimpArgs false
namespace Go.Proofs.Ytkfejicdjpffcaa.U
open Go.RowKit Go.Proofs.YtkfejicdjpffcaaW.PrintWords Go.Proofs.YtkfejicdjpffcaaW.PrintLast Go.Proofs.YtkfejicdjpffcaaW.PrintMore
attribute [local go_sem] max2_int min2_int max_two min_two max_three min_three max_four min_four   -- for this text's walks alone
mutual
def bitmap_Valid.j0 : Nat → Bool → Int → Int → List Int → Option (Bool)
  | 0, _, _, _, _ => none
  | k + 1, x21, x127000, x127001, x127002 => if x21 = true then (some false) else (bitmap_Valid.l0 k x127002 (x127002.length : Int) 0)
def bitmap_Valid.l0 : Nat → List Int → Int → Int → Option (Bool)
  | 0, _, _, _ => none
  | k + 1, x23, x24, x25 => if x25 < x24 then (if 0 ≤ x25 then (if x25 < (x23.length : Int) then (if (rd x23 x25) > 1 then (some false) else (bitmap_Valid.l0 k x23 x24 (wrap64 (x25 + 1)))) else (none)) else (none)) else (some true)
end
def bitmap_Valid.f (k : Nat) (a0_0 : Int) (a0_1 : Int) (l0_2 : List Int) : Option (Bool) := (bitmap_fits.f a0_0 a0_1).bind fun t127 => (if t127 = true then (bitmap_Valid.j0 k ((l0_2.length : Int) != (wrap64 (a0_0 * a0_1))) a0_0 a0_1 l0_2) else (bitmap_Valid.j0 k true a0_0 a0_1 l0_2))
theorem bitmap_Valid.mono_l : ∀ k, (∀ y0 y1 y2 y3, LeO (bitmap_Valid.j0 k y0 y1 y2 y3) (bitmap_Valid.j0 (k + 1) y0 y1 y2 y3)) ∧ (∀ y0 y1 y2, LeO (bitmap_Valid.l0 k y0 y1 y2) (bitmap_Valid.l0 (k + 1) y0 y1 y2))
  | 0 => ⟨fun _ _ _ _ r h => by simp [bitmap_Valid.j0] at h, fun _ _ _ r h => by simp [bitmap_Valid.l0] at h⟩
  | k + 1 => by
    obtain ⟨ih0, ih1⟩ := bitmap_Valid.mono_l k
    refine ⟨?_, ?_⟩
    · intro y0 y1 y2 y3
      unfold bitmap_Valid.j0
      repeat' first
      | (with_reducible exact ih0 _ _ _ _)
      | (with_reducible exact ih1 _ _ _)
      | (with_reducible exact LeO.refl _)
      | (with_reducible exact LeO.none _)
      | (with_reducible refine LeO.ite ?_ ?_)
      | (with_reducible refine LeO.bind ?_ (fun _ => ?_))
      | exact ih0 _ _ _ _
      | exact ih1 _ _ _
      | exact LeO.none _
      | refine LeO.ite ?_ ?_
      | refine LeO.bind ?_ (fun _ => ?_)
    · intro y0 y1 y2
      unfold bitmap_Valid.l0
      repeat' first
      | (with_reducible exact ih0 _ _ _ _)
      | (with_reducible exact ih1 _ _ _)
      | (with_reducible exact LeO.refl _)
      | (with_reducible exact LeO.none _)
      | (with_reducible refine LeO.ite ?_ ?_)
      | (with_reducible refine LeO.bind ?_ (fun _ => ?_))
      | exact ih0 _ _ _ _
      | exact ih1 _ _ _
      | exact LeO.none _
      | refine LeO.ite ?_ ?_
      | refine LeO.bind ?_ (fun _ => ?_)
theorem bitmap_Valid.mono : ∀ a0 a1 a2 k, LeO (bitmap_Valid.f k a0 a1 a2) (bitmap_Valid.f (k + 1) a0 a1 a2) := by
 intro a0 a1 a2 k; obtain ⟨ih0, ih1⟩ := bitmap_Valid.mono_l k; unfold bitmap_Valid.f
 repeat' first
  | (with_reducible exact ih0 _ _ _ _)
  | (with_reducible exact ih1 _ _ _)
  | (with_reducible exact LeO.refl _)
  | (with_reducible exact LeO.none _)
  | (with_reducible refine LeO.ite ?_ ?_)
  | (with_reducible refine LeO.bind ?_ (fun _ => ?_))
  | exact ih0 _ _ _ _
  | exact ih1 _ _ _
  | exact LeO.none _
  | refine LeO.ite ?_ ?_
  | refine LeO.bind ?_ (fun _ => ?_)
set_option maxHeartbeats 8000000 in
set_option maxRecDepth 100000 in
theorem bitmap_Valid.calls (k : Nat) (a0_0 : Int) (a0_1 : Int) (A0_2 : Option Addr) (c0_2 : Nat) (l0_2 : List Int) (r : Bool) (w : World) (hr0_2 : Kd.C (Kd.int .u8) w A0_2 l0_2.length l0_2) (hc0_2 : l0_2.length ≤ c0_2) (h : bitmap_Valid.f k a0_0 a0_1 l0_2 = some r) :
    Calls Try.prog 56 #[.agg #[.int .i64 a0_0, .int .i64 a0_1, .slice A0_2 l0_2.length c0_2]] w fun e w' => e = .returned (.bool r) ∧ Below w.heap.size w w' := by
 have hu31 := Try.underlying31; have HR0_2 := Aside0.mk hr0_2; have HC0_2 := Aside0.mk hc0_2; clear hr0_2 hc0_2; have HB := Aside0.mk (Below.refl w.heap.size w); have H : ((bitmap_fits.f a0_0 a0_1).bind fun t127 => (if t127 = true then (bitmap_Valid.j0 k ((l0_2.length : Int) != (wrap64 (a0_0 * a0_1))) a0_0 a0_1 l0_2) else (bitmap_Valid.j0 k true a0_0 a0_1 l0_2))) = some r := h; clear h; have HC2 := Aside0.mk H; clear H; go_enter Try.func56, Try.ntmps56
 go_upto_region 1 with (first | ((with_reducible refine gate_dst (N := 1) rfl ?_); (try (refine gate_guard (by rfl) ?_; dsimp only)); refine box_event ?hg (N := 1) ?hd (cs := #[.int .i64 a0_0, .int .i64 a0_1, .slice A0_2 l0_2.length c0_2]) (t := 31) ?hr ?_; (case hd => rfl); (case hg => rfl); (case hr => first | (go_simp; done) | (go_simp; rfl)); intro gb126 hg w3 hbox hb; have n0_ := Aside0.mk (below_step (by repeat (first | (with_reducible first | exact HB.out | apply below_alloc | apply pw_below_drewN | apply below_drew1) | exact HB.out)) hb); have n1_ := Aside0.mk (hbox); have n2_ := Aside0.mk ((by rw [hg]; exact (below_size (by repeat (first | (with_reducible first | exact HB.out | apply below_alloc | apply pw_below_drewN | apply below_drew1) | exact HB.out))) : w.heap.size ≤ gb126)); have n3_ := Aside0.mk ((by rw [hg]; exact (below_size (by repeat (first | (with_reducible first | exact HB.out | apply below_alloc | apply pw_below_drewN | apply below_drew1) | exact HB.out))) : w.heap.size ≤ gb126)); clear HB; have HB := n0_; have BK126 := n1_; have GW126 := n2_; have GE126 := n3_; clear n0_ n1_ n2_ n3_; clear hb hbox hg)); (try simp only [Act.put, List.setIfInBounds_toArray, List.set_cons_zero, List.set_cons_succ])
 go_cut [21] (fun v21 wc => ∃ (kq : Nat) (x21_1 : Bool), v21 = .bool x21_1 ∧ Aside0 (bitmap_Valid.j0 kq x21_1 a0_0 a0_1 l0_2 = some r) ∧ Aside0 (kq ≤ k) ∧ Aside0 (wc.heap[gb126]? = some (.cells #[.int .i64 a0_0, .int .i64 a0_1, (.slice A0_2 l0_2.length c0_2)] 31 (0, 0))) ∧ Aside0 (Below w.heap.size w wc))
 (case first => have H := HC2.out; clear HC2; replace H := Option.bind_eq_some_iff.mp H; obtain ⟨t127, A40, H⟩ := H; replace H : (if t127 = true then (bitmap_Valid.j0 k ((l0_2.length : Int) != (wrap64 (a0_0 * a0_1))) a0_0 a0_1 l0_2) else (bitmap_Valid.j0 k true a0_0 a0_1 l0_2)) = some r := H; have A4 := Aside0.mk A40; clear A40; by_cases c5 : t127 = true; (· subst c5; (have H1 : (bitmap_Valid.j0 k ((l0_2.length : Int) != (wrap64 (a0_0 * a0_1))) a0_0 a0_1 l0_2) = some r := by rw [if_pos rfl] at H; exact H); clear H; have H := H1; clear H1; have H' := Aside0.mk H; clear H; have hcz6_0 : w3.cell? ⟨gb126, 0, none⟩ = some (.int .i64 a0_0) := (blk_cell BK126.out 0).trans rfl; have hcz6_1 : w3.cell? ⟨gb126, 1, none⟩ = some (.int .i64 a0_1) := (blk_cell BK126.out 1).trans rfl; have hcz6_2 : w3.cell? ⟨gb126, 2, none⟩ = some (.slice A0_2 l0_2.length c0_2) := (blk_cell BK126.out 2).trans rfl; have hfz6_0 := blk_frozen BK126.out 0; have hfz6_1 := blk_frozen BK126.out 1; have hfz6_2 := blk_frozen BK126.out 2; go_wp2_with (first | ((with_reducible refine gate_callee (f := 88) rfl ?_); refine goesL_ (some 9) rfl rfl Try.func88 (by kernel_rfl) rfl #[.int .i64 a0_0, .int .i64 a0_1] rfl (by (try simp only [List.map_toArray, List.map_cons, List.map_nil]); first | done | rfl | (simp only [List.length_drop, List.length_take]; rfl)) ?_; (with_reducible refine (bitmap_fits.calls a0_0 a0_1 true _ A4.out).mono ?_); rintro e w' ⟨rfl, ⟨nd, rfl⟩⟩; refine ⟨_, rfl, ?_⟩)); go_meet; (case rel => exact ⟨_, (((l0_2.length : Int) != (wrap64 (a0_0 * a0_1)))), (by first | rfl | (simp; done) | (simp [*]; done)), H', ⟨by first | omega | exact Nat.le_refl _⟩, ⟨by (with_reducible repeat (first | refine blk_drewN ?_ _ | refine blk_drew ?_ | refine blk_alloc ?_ _)); exact BK126.out⟩, ⟨by repeat (first | (with_reducible first | exact HB.out | apply below_alloc | apply pw_below_drewN | apply below_drew1 | refine below_set ?_ GE126.out) | exact HB.out)⟩⟩)); (· replace c5 := Bool.eq_false_iff.mpr c5; subst c5; (have H1 : (bitmap_Valid.j0 k true a0_0 a0_1 l0_2) = some r := by rw [if_neg (show ¬ (false = true) by decide)] at H; exact H); clear H; have H := H1; clear H1; have H' := Aside0.mk H; clear H; have hcz7_0 : w3.cell? ⟨gb126, 0, none⟩ = some (.int .i64 a0_0) := (blk_cell BK126.out 0).trans rfl; have hcz7_1 : w3.cell? ⟨gb126, 1, none⟩ = some (.int .i64 a0_1) := (blk_cell BK126.out 1).trans rfl; have hcz7_2 : w3.cell? ⟨gb126, 2, none⟩ = some (.slice A0_2 l0_2.length c0_2) := (blk_cell BK126.out 2).trans rfl; have hfz7_0 := blk_frozen BK126.out 0; have hfz7_1 := blk_frozen BK126.out 1; have hfz7_2 := blk_frozen BK126.out 2; go_wp2_with (first | ((with_reducible refine gate_callee (f := 88) rfl ?_); refine goesL_ (some 9) rfl rfl Try.func88 (by kernel_rfl) rfl #[.int .i64 a0_0, .int .i64 a0_1] rfl (by (try simp only [List.map_toArray, List.map_cons, List.map_nil]); first | done | rfl | (simp only [List.length_drop, List.length_take]; rfl)) ?_; (with_reducible refine (bitmap_fits.calls a0_0 a0_1 false _ A4.out).mono ?_); rintro e w' ⟨rfl, ⟨nd, rfl⟩⟩; refine ⟨_, rfl, ?_⟩)); go_meet; (case rel => exact ⟨_, (true), (by first | rfl | (simp; done) | (simp [*]; done)), H', ⟨by first | omega | exact Nat.le_refl _⟩, ⟨by (with_reducible repeat (first | refine blk_drewN ?_ _ | refine blk_drew ?_ | refine blk_alloc ?_ _)); exact BK126.out⟩, ⟨by repeat (first | (with_reducible first | exact HB.out | apply below_alloc | apply pw_below_drewN | apply below_drew1 | refine below_set ?_ GE126.out) | exact HB.out)⟩⟩)))
 case rest =>
  clear HC2; (try clear p2); (try clear c5); (try clear p6); (try clear hcz6_0); (try clear hcz6_1); (try clear hcz6_2); (try clear hcz7_0); (try clear hcz7_1); (try clear hcz7_2); (try clear hfz6_0); (try clear hfz6_1); (try clear hfz6_2); (try clear hfz7_0); (try clear hfz7_1); (try clear hfz7_2); obtain ⟨kq, x21_1, rfl, HA, HJ1, BK126, HB⟩ := hcut
  cases kq with
  | zero => exact absurd HA.out (by simp [bitmap_Valid.j0])
  | succ kj1 =>
   have H := HA.out; clear HA; simp only [bitmap_Valid.j0] at H; by_cases c8 : x21_1 = true; (· subst c8; (have H1 : (some false) = some r := by rw [if_pos rfl] at H; exact H); clear H; have H := H1; clear H1; obtain rfl := Option.some.inj H; go_wp2; go_ret; (exact ⟨by first | rfl | (simp [errW_none, errW_some] <;> rfl) | (simp [*, errW_none, errW_some] <;> rfl), by repeat (first | (with_reducible first | exact HB.out | apply below_alloc | apply pw_below_drewN | apply below_drew1 | refine below_set ?_ GE126.out) | exact HB.out)⟩))
   · replace c8 := Bool.eq_false_iff.mpr c8
     subst c8; (have H1 : (bitmap_Valid.l0 kj1 l0_2 (l0_2.length : Int) 0) = some r := by rw [if_neg (show ¬ (false = true) by decide)] at H; exact H); clear H; have H := H1; clear H1; have H' := Aside0.mk H; clear H; have hcz9_0 : wc.cell? ⟨gb126, 0, none⟩ = some (.int .i64 a0_0) := (blk_cell BK126.out 0).trans rfl; have hcz9_1 : wc.cell? ⟨gb126, 1, none⟩ = some (.int .i64 a0_1) := (blk_cell BK126.out 1).trans rfl; have hcz9_2 : wc.cell? ⟨gb126, 2, none⟩ = some (.slice A0_2 l0_2.length c0_2) := (blk_cell BK126.out 2).trans rfl; have hfz9_0 := blk_frozen BK126.out 0; have hfz9_1 := blk_frozen BK126.out 1; have hfz9_2 := blk_frozen BK126.out 2; go_wp2; go_loopg [25] kj1 (fun kq v25 w' => ∃ (x25_2 : Int), v25 = .int .i64 x25_2 ∧ Aside0 (bitmap_Valid.l0 kq l0_2 (l0_2.length : Int) x25_2 = some r) ∧ Aside0 (kq ≤ kj1) ∧ Aside0 (w'.heap[gb126]? = some (.cells #[.int .i64 a0_0, .int .i64 a0_1, (.slice A0_2 l0_2.length c0_2)] 31 (0, 0))) ∧ Aside0 (Below w.heap.size w w')); (case atStart => exact ⟨(0), (by first | rfl | (simp; done) | (simp [*]; done)), H', ⟨Nat.le_refl _⟩, ⟨by (with_reducible repeat (first | refine blk_drewN ?_ _ | refine blk_drew ?_ | refine blk_alloc ?_ _)); exact BK126.out⟩, ⟨by repeat (first | (with_reducible first | exact HB.out | apply below_alloc | apply pw_below_drewN | apply below_drew1 | refine below_set ?_ GE126.out) | exact HB.out)⟩⟩)
     case round =>
      clear H'; (try clear p2); (try clear c5); (try clear p6); (try clear c8); (try clear hcz6_0); (try clear hcz6_1); (try clear hcz6_2); (try clear hcz7_0); (try clear hcz7_1); (try clear hcz7_2); (try clear hcz9_0); (try clear hcz9_1); (try clear hcz9_2); (try clear hfz6_0); (try clear hfz6_1); (try clear hfz6_2); (try clear hfz7_0); (try clear hfz7_1); (try clear hfz7_2); (try clear hfz9_0); (try clear hfz9_1); (try clear hfz9_2); (try clear p2); (try clear p6); obtain ⟨x25_2, rfl, HA, HK2, BK126, HB⟩ := hrel
      cases gk with
      | zero => exact absurd HA.out (by simp [bitmap_Valid.l0])
      | succ k2 =>
       have H := HA.out; clear HA; simp only [bitmap_Valid.l0] at H; by_cases c10 : x25_2 < (l0_2.length : Int)
       (· rw [if_pos c10] at H; have c10b0 : decide (x25_2 < (l0_2.length : Int)) = true := decide_eq_true c10; clear c10; by_cases c11 : 0 ≤ x25_2; (· rw [if_pos c11] at H; have c11b0 : decide (0 ≤ x25_2) = true := decide_eq_true c11; clear c11; by_cases c12 : x25_2 < (l0_2.length : Int); (· rw [if_pos c12] at H; have c12b0 : decide (x25_2 < (l0_2.length : Int)) = true := decide_eq_true c12; clear c12; by_cases c13 : (rd l0_2 x25_2) > 1; (· rw [if_pos c13] at H; have c13b0 : decide (1 < (rd l0_2 x25_2)) = true := decide_eq_true c13; clear c13; obtain rfl := Option.some.inj H; have p128 : 0 ≤ (x25_2 : Int) := of_decide_eq_true (by first | (with_reducible assumption) | assumption); have q128 : x25_2 < (l0_2.length : Int) := of_decide_eq_true (by first | (with_reducible assumption) | assumption); obtain ⟨ad128, e128, hx128_0⟩ := Kd.at_int HR0_2.out x25_2 p128 q128; cases e128; replace hx128_0 := (HB.out.cell (World.block_lt_of_cell? w _ hx128_0)).trans hx128_0; replace p128 := eq_true p128; replace q128 := eq_true q128; go_wp2; go_ret; (exact ⟨by first | rfl | (simp [errW_none, errW_some] <;> rfl) | (simp [*, errW_none, errW_some] <;> rfl), by repeat (first | (with_reducible first | exact HB.out | apply below_alloc | apply pw_below_drewN | apply below_drew1 | refine below_set ?_ GE126.out) | exact HB.out)⟩)); (· rw [if_neg c13] at H; have c13b0 : decide (1 < (rd l0_2 x25_2)) = false := decide_eq_false c13; clear c13; have H' := Aside0.mk H; clear H; have p128 : 0 ≤ (x25_2 : Int) := of_decide_eq_true (by first | (with_reducible assumption) | assumption); have q128 : x25_2 < (l0_2.length : Int) := of_decide_eq_true (by first | (with_reducible assumption) | assumption); obtain ⟨ad128, e128, hx128_0⟩ := Kd.at_int HR0_2.out x25_2 p128 q128; cases e128; replace hx128_0 := (HB.out.cell (World.block_lt_of_cell? w _ hx128_0)).trans hx128_0; replace p128 := eq_true p128; replace q128 := eq_true q128; go_wp2; go_roundg k2; (case measure => have := HJ1.out; have := HK2.out; omega); (case rel => exact ⟨(wrap64 (x25_2 + 1)), (by first | rfl | (simp; done) | (simp [*]; done)), H', ⟨by have := HJ1.out; have := HK2.out; omega⟩, ⟨by (with_reducible repeat (first | refine blk_drewN ?_ _ | refine blk_drew ?_ | refine blk_alloc ?_ _)); exact BK126.out⟩, ⟨by repeat (first | (with_reducible first | exact HB.out | apply below_alloc | apply pw_below_drewN | apply below_drew1 | refine below_set ?_ GE126.out) | exact HB.out)⟩⟩))); (· rw [if_neg c12] at H; exact absurd H (by simp))); (· rw [if_neg c11] at H; exact absurd H (by simp)))
       (· rw [if_neg c10] at H; have c10b0 : decide (x25_2 < (l0_2.length : Int)) = false := decide_eq_false c10; clear c10; obtain rfl := Option.some.inj H; go_wp2; go_ret; (exact ⟨by first | rfl | (simp [errW_none, errW_some] <;> rfl) | (simp [*, errW_none, errW_some] <;> rfl), by repeat (first | (with_reducible first | exact HB.out | apply below_alloc | apply pw_below_drewN | apply below_drew1 | refine below_set ?_ GE126.out) | exact HB.out)⟩))
end Go.Proofs.Ytkfejicdjpffcaa.U
namespace Go.Proofs.Ytkfejicdjpffcaa.U
open Go.RowKit Go.Proofs.YtkfejicdjpffcaaW.PrintWords Go.Proofs.YtkfejicdjpffcaaW.PrintLast Go.Proofs.YtkfejicdjpffcaaW.PrintMore
attribute [local go_sem] max2_int min2_int max_two min_two max_three min_three max_four min_four   -- for this text's walks alone
def incunableref06_IsSize.f (a0 : Int) (a1 : Int) : Option (Bool) := if a0 ≥ 0 then (if a0 ≤ 200 then (if a1 ≥ 0 then (if a1 ≤ 200 then (some (decide ((wrap64 (a0 * a1)) ≤ 8192))) else (some false)) else (some false)) else (some false)) else (some false)
set_option maxHeartbeats 8000000 in
set_option maxRecDepth 100000 in
theorem incunableref06_IsSize.calls (a0 : Int) (a1 : Int) (r : Bool) (w : World) (h : incunableref06_IsSize.f a0 a1 = some r) :
    Calls Try.prog 49 #[.int .i64 a0, .int .i64 a1] w fun e w' => e = .returned (.bool r) ∧ Drawn0 w w' := by
 have H : (if a0 ≥ 0 then (if a0 ≤ 200 then (if a1 ≥ 0 then (if a1 ≤ 200 then (some (decide ((wrap64 (a0 * a1)) ≤ 8192))) else (some false)) else (some false)) else (some false)) else (some false)) = some r := h; clear h; by_cases c3 : a0 ≥ 0
 (· rw [if_pos c3] at H; have c3b0 : decide (0 ≤ a0) = true := decide_eq_true c3; clear c3; by_cases c4 : a0 ≤ 200; (· rw [if_pos c4] at H; have c4b0 : decide (a0 ≤ 200) = true := decide_eq_true c4; clear c4; by_cases c5 : a1 ≥ 0; (· rw [if_pos c5] at H; have c5b0 : decide (0 ≤ a1) = true := decide_eq_true c5; clear c5; by_cases c6 : a1 ≤ 200; (· rw [if_pos c6] at H; have c6b0 : decide (a1 ≤ 200) = true := decide_eq_true c6; clear c6; obtain rfl := Option.some.inj H; go_enter Try.func49, Try.ntmps49; go_wp2; go_ret; exact ⟨by first | rfl | (simp; done) | (simp [*]; done), by repeat (first | exact Drawn0.refl _ | apply Drawn0.step)⟩); (· rw [if_neg c6] at H; have c6b0 : decide (a1 ≤ 200) = false := decide_eq_false c6; clear c6; obtain rfl := Option.some.inj H; go_enter Try.func49, Try.ntmps49; go_wp2; go_ret; exact ⟨by first | rfl | (simp; done) | (simp [*]; done), by repeat (first | exact Drawn0.refl _ | apply Drawn0.step)⟩)); (· rw [if_neg c5] at H; have c5b0 : decide (0 ≤ a1) = false := decide_eq_false c5; clear c5; obtain rfl := Option.some.inj H; go_enter Try.func49, Try.ntmps49; go_wp2; go_ret; exact ⟨by first | rfl | (simp; done) | (simp [*]; done), by repeat (first | exact Drawn0.refl _ | apply Drawn0.step)⟩)); (· rw [if_neg c4] at H; have c4b0 : decide (a0 ≤ 200) = false := decide_eq_false c4; clear c4; obtain rfl := Option.some.inj H; go_enter Try.func49, Try.ntmps49; go_wp2; go_ret; exact ⟨by first | rfl | (simp; done) | (simp [*]; done), by repeat (first | exact Drawn0.refl _ | apply Drawn0.step)⟩))
 (· rw [if_neg c3] at H; have c3b0 : decide (0 ≤ a0) = false := decide_eq_false c3; clear c3; obtain rfl := Option.some.inj H; go_enter Try.func49, Try.ntmps49; go_wp2; go_ret; exact ⟨by first | rfl | (simp; done) | (simp [*]; done), by repeat (first | exact Drawn0.refl _ | apply Drawn0.step)⟩)
end Go.Proofs.Ytkfejicdjpffcaa.U
namespace Go.Proofs.Ytkfejicdjpffcaa.U
open Go.RowKit Go.Proofs.YtkfejicdjpffcaaW.PrintWords Go.Proofs.YtkfejicdjpffcaaW.PrintLast Go.Proofs.YtkfejicdjpffcaaW.PrintMore
attribute [local go_sem] max2_int min2_int max_two min_two max_three min_three max_four min_four   -- for this text's walks alone
def incunableref06_IsRow.l0 : Nat → List Int → Int → Int → Option (Bool)
  | 0, _, _, _ => none
  | k + 1, x5, x6, x7 => if x7 < x6 then (if 0 ≤ x7 then (if x7 < (x5.length : Int) then (if (rd x5 x7) > 1 then (some false) else (incunableref06_IsRow.l0 k x5 x6 (wrap64 (x7 + 1)))) else (none)) else (none)) else (some true)
def incunableref06_IsRow.f (k : Nat) (l0 : List Int) : Option (Bool) := incunableref06_IsRow.l0 k l0 (l0.length : Int) 0
theorem incunableref06_IsRow.mono_l : ∀ k, (∀ y0 y1 y2, LeO (incunableref06_IsRow.l0 k y0 y1 y2) (incunableref06_IsRow.l0 (k + 1) y0 y1 y2))
  | 0 => fun _ _ _ r h => by simp [incunableref06_IsRow.l0] at h
  | k + 1 => by
    have ih0 := incunableref06_IsRow.mono_l k
    · intro y0 y1 y2
      unfold incunableref06_IsRow.l0
      repeat' first
      | (with_reducible exact ih0 _ _ _)
      | (with_reducible exact LeO.refl _)
      | (with_reducible exact LeO.none _)
      | (with_reducible refine LeO.ite ?_ ?_)
      | (with_reducible refine LeO.bind ?_ (fun _ => ?_))
      | exact ih0 _ _ _
      | exact LeO.none _
      | refine LeO.ite ?_ ?_
      | refine LeO.bind ?_ (fun _ => ?_)
theorem incunableref06_IsRow.mono : ∀ a0 k, LeO (incunableref06_IsRow.f k a0) (incunableref06_IsRow.f (k + 1) a0) := by
 intro a0 k; have ih0 := incunableref06_IsRow.mono_l k; unfold incunableref06_IsRow.f
 repeat' first
  | (with_reducible exact ih0 _ _ _)
  | (with_reducible exact LeO.refl _)
  | (with_reducible exact LeO.none _)
  | (with_reducible refine LeO.ite ?_ ?_)
  | (with_reducible refine LeO.bind ?_ (fun _ => ?_))
  | exact ih0 _ _ _
  | exact LeO.none _
  | refine LeO.ite ?_ ?_
  | refine LeO.bind ?_ (fun _ => ?_)
set_option maxHeartbeats 8000000 in
set_option maxRecDepth 100000 in
theorem incunableref06_IsRow.calls (k : Nat) (A0 : Option Addr) (c0 : Nat) (l0 : List Int) (r : Bool) (w : World) (hr0 : Kd.C (Kd.int .u8) w A0 l0.length l0) (hc0 : l0.length ≤ c0) (h : incunableref06_IsRow.f k l0 = some r) :
    Calls Try.prog 50 #[.slice A0 l0.length c0] w fun e w' => e = .returned (.bool r) ∧ Drawn0 w w' := by
 have HR0 := Aside0.mk hr0; have HC0 := Aside0.mk hc0; clear hr0 hc0; have H : (incunableref06_IsRow.l0 k l0 (l0.length : Int) 0) = some r := h; clear h; have H' := Aside0.mk H; clear H; go_enter Try.func50, Try.ntmps50; go_wp2; go_loopg [7] k (fun kq v7 w' => ∃ (x7_1 : Int), v7 = .int .i64 x7_1 ∧ Aside0 (incunableref06_IsRow.l0 kq l0 (l0.length : Int) x7_1 = some r) ∧ Aside0 (kq ≤ k) ∧ Drawn0 w w'); (case atStart => exact ⟨(0), (by first | rfl | (simp; done) | (simp [*]; done)), H', ⟨Nat.le_refl _⟩, by repeat (first | exact Drawn0.refl _ | apply Drawn0.step)⟩)
 case round =>
  clear H'; obtain ⟨x7_1, rfl, HA, HK1, ⟨m1, rfl⟩⟩ := hrel
  cases gk with
  | zero => exact absurd HA.out (by simp [incunableref06_IsRow.l0])
  | succ k1 =>
   have H := HA.out; clear HA; simp only [incunableref06_IsRow.l0] at H; by_cases c2 : x7_1 < (l0.length : Int)
   (· rw [if_pos c2] at H; have c2b0 : decide (x7_1 < (l0.length : Int)) = true := decide_eq_true c2; clear c2; by_cases c3 : 0 ≤ x7_1; (· rw [if_pos c3] at H; have c3b0 : decide (0 ≤ x7_1) = true := decide_eq_true c3; clear c3; by_cases c4 : x7_1 < (l0.length : Int); (· rw [if_pos c4] at H; have c4b0 : decide (x7_1 < (l0.length : Int)) = true := decide_eq_true c4; clear c4; by_cases c5 : (rd l0 x7_1) > 1; (· rw [if_pos c5] at H; have c5b0 : decide (1 < (rd l0 x7_1)) = true := decide_eq_true c5; clear c5; obtain rfl := Option.some.inj H; have p216 : 0 ≤ (x7_1 : Int) := of_decide_eq_true (by first | (with_reducible assumption) | assumption); have q216 : x7_1 < (l0.length : Int) := of_decide_eq_true (by first | (with_reducible assumption) | assumption); obtain ⟨ad216, e216, hx216_0⟩ := Kd.at_int HR0.out x7_1 p216 q216; cases e216; replace p216 := eq_true p216; replace q216 := eq_true q216; go_wp2; go_ret; exact ⟨by first | rfl | (simp; done) | (simp [*]; done), by repeat (first | exact Drawn0.refl _ | apply Drawn0.step)⟩); (· rw [if_neg c5] at H; have c5b0 : decide (1 < (rd l0 x7_1)) = false := decide_eq_false c5; clear c5; have H' := Aside0.mk H; clear H; have p216 : 0 ≤ (x7_1 : Int) := of_decide_eq_true (by first | (with_reducible assumption) | assumption); have q216 : x7_1 < (l0.length : Int) := of_decide_eq_true (by first | (with_reducible assumption) | assumption); obtain ⟨ad216, e216, hx216_0⟩ := Kd.at_int HR0.out x7_1 p216 q216; cases e216; replace p216 := eq_true p216; replace q216 := eq_true q216; go_wp2; go_roundg k1; (case measure => have := HK1.out; omega); (case rel => exact ⟨(wrap64 (x7_1 + 1)), (by first | rfl | (simp; done) | (simp [*]; done)), H', ⟨by have := HK1.out; omega⟩, by repeat (first | exact Drawn0.refl _ | apply Drawn0.step)⟩))); (· rw [if_neg c4] at H; exact absurd H (by simp))); (· rw [if_neg c3] at H; exact absurd H (by simp)))
   (· rw [if_neg c2] at H; have c2b0 : decide (x7_1 < (l0.length : Int)) = false := decide_eq_false c2; clear c2; obtain rfl := Option.some.inj H; go_wp2; go_ret; exact ⟨by first | rfl | (simp; done) | (simp [*]; done), by repeat (first | exact Drawn0.refl _ | apply Drawn0.step)⟩)
end Go.Proofs.Ytkfejicdjpffcaa.U
namespace Go.Proofs.Ytkfejicdjpffcaa.U
open Go.RowKit Go.Proofs.YtkfejicdjpffcaaW.PrintWords Go.Proofs.YtkfejicdjpffcaaW.PrintLast Go.Proofs.YtkfejicdjpffcaaW.PrintMore
attribute [local go_sem] max2_int min2_int max_two min_two max_three min_three max_four min_four   -- for this text's walks alone
def incunableref06_IsBitmap.f (k : Nat) (a0_0 : Int) (a0_1 : Int) (l0_2 : List Int) : Option (Bool) := (incunableref06_IsSize.f a0_0 a0_1).bind fun t218 => (if t218 = true then (if (l0_2.length : Int) = (wrap64 (a0_0 * a0_1)) then ((incunableref06_IsRow.f k l0_2).bind fun t219 => (some t219)) else (some false)) else (some false))
theorem incunableref06_IsBitmap.mono : ∀ a0 a1 a2 k, LeO (incunableref06_IsBitmap.f k a0 a1 a2) (incunableref06_IsBitmap.f (k + 1) a0 a1 a2) := by
 intro a0 a1 a2 k; unfold incunableref06_IsBitmap.f
 repeat' first
  | (with_reducible exact incunableref06_IsRow.mono _ _)
  | (with_reducible exact LeO.refl _)
  | (with_reducible exact LeO.none _)
  | (with_reducible refine LeO.ite ?_ ?_)
  | (with_reducible refine LeO.bind ?_ (fun _ => ?_))
  | exact incunableref06_IsRow.mono _ _
  | exact LeO.none _
  | refine LeO.ite ?_ ?_
  | refine LeO.bind ?_ (fun _ => ?_)
set_option maxHeartbeats 8000000 in
set_option maxRecDepth 100000 in
theorem incunableref06_IsBitmap.calls (k : Nat) (a0_0 : Int) (a0_1 : Int) (A0_2 : Option Addr) (c0_2 : Nat) (l0_2 : List Int) (r : Bool) (w : World) (hr0_2 : Kd.C (Kd.int .u8) w A0_2 l0_2.length l0_2) (hc0_2 : l0_2.length ≤ c0_2) (h : incunableref06_IsBitmap.f k a0_0 a0_1 l0_2 = some r) :
    Calls Try.prog 22 #[.agg #[.int .i64 a0_0, .int .i64 a0_1, .slice A0_2 l0_2.length c0_2]] w fun e w' => e = .returned (.bool r) ∧ Below w.heap.size w w' := by
 have hu31 := Try.underlying31; have HR0_2 := Aside0.mk hr0_2; have HC0_2 := Aside0.mk hc0_2; clear hr0_2 hc0_2; have HB := Aside0.mk (Below.refl w.heap.size w); have H : ((incunableref06_IsSize.f a0_0 a0_1).bind fun t218 => (if t218 = true then (if (l0_2.length : Int) = (wrap64 (a0_0 * a0_1)) then ((incunableref06_IsRow.f k l0_2).bind fun t219 => (some t219)) else (some false)) else (some false))) = some r := h; clear h; replace H := Option.bind_eq_some_iff.mp H; obtain ⟨t218, A20, H⟩ := H; replace H : (if t218 = true then (if (l0_2.length : Int) = (wrap64 (a0_0 * a0_1)) then ((incunableref06_IsRow.f k l0_2).bind fun t219 => (some t219)) else (some false)) else (some false)) = some r := H; have A2 := Aside0.mk A20; clear A20; by_cases c3 : t218 = true
 (· subst c3; (have H1 : (if (l0_2.length : Int) = (wrap64 (a0_0 * a0_1)) then ((incunableref06_IsRow.f k l0_2).bind fun t219 => (some t219)) else (some false)) = some r := by rw [if_pos rfl] at H; exact H); clear H; have H := H1; clear H1; by_cases c4 : (l0_2.length : Int) = (wrap64 (a0_0 * a0_1)); (· rw [if_pos c4] at H; have c4b0 : ((l0_2.length : Int) == (wrap64 (a0_0 * a0_1))) = true := beq_iff_eq.mpr c4; have c4b1 : ((l0_2.length : Int) != (wrap64 (a0_0 * a0_1))) = false := bne_eq_false_iff_eq.mpr c4; clear c4; replace H := Option.bind_eq_some_iff.mp H; obtain ⟨t219, A50, H⟩ := H; replace H : (some t219) = some r := H; have A5 := Aside0.mk A50; clear A50; obtain rfl := Option.some.inj H; go_enter Try.func22, Try.ntmps22; go_wp2_with (first | ((with_reducible refine gate_dst (N := 1) rfl ?_); (try (refine gate_guard (by rfl) ?_; dsimp only)); refine box_event ?hg (N := 1) ?hd (cs := #[.int .i64 a0_0, .int .i64 a0_1, .slice A0_2 l0_2.length c0_2]) (t := 31) ?hr ?_; (case hd => rfl); (case hg => rfl); (case hr => first | (go_simp; done) | (go_simp; rfl)); intro gb217 hg w6 hbox hb; have n0_ := Aside0.mk (below_step (by repeat (first | (with_reducible first | exact HB.out | apply below_alloc | apply pw_below_drewN | apply below_drew1) | exact HB.out)) hb); have n1_ := Aside0.mk (hbox); have n2_ := Aside0.mk ((by rw [hg]; exact (below_size (by repeat (first | (with_reducible first | exact HB.out | apply below_alloc | apply pw_below_drewN | apply below_drew1) | exact HB.out))) : w.heap.size ≤ gb217)); have n3_ := Aside0.mk ((by rw [hg]; exact (below_size (by repeat (first | (with_reducible first | exact HB.out | apply below_alloc | apply pw_below_drewN | apply below_drew1) | exact HB.out))) : w.heap.size ≤ gb217)); clear HB; have HB := n0_; have BK217 := n1_; have GW217 := n2_; have GE217 := n3_; clear n0_ n1_ n2_ n3_; clear hb hbox hg; have hcz7_0 : w6.cell? ⟨gb217, 0, none⟩ = some (.int .i64 a0_0) := (blk_cell BK217.out 0).trans rfl; have hcz7_1 : w6.cell? ⟨gb217, 1, none⟩ = some (.int .i64 a0_1) := (blk_cell BK217.out 1).trans rfl; have hcz7_2 : w6.cell? ⟨gb217, 2, none⟩ = some (.slice A0_2 l0_2.length c0_2) := (blk_cell BK217.out 2).trans rfl; have hfz7_0 := blk_frozen BK217.out 0; have hfz7_1 := blk_frozen BK217.out 1; have hfz7_2 := blk_frozen BK217.out 2) | ((with_reducible refine gate_callee (f := 49) rfl ?_); refine goesL_ (some 7) rfl rfl Try.func49 (by kernel_rfl) rfl #[.int .i64 a0_0, .int .i64 a0_1] rfl (by (try simp only [List.map_toArray, List.map_cons, List.map_nil]); first | done | rfl | (simp only [List.length_drop, List.length_take]; rfl)) ?_; (with_reducible refine (incunableref06_IsSize.calls a0_0 a0_1 true _ A2.out).mono ?_); rintro e w' ⟨rfl, ⟨nd, rfl⟩⟩; refine ⟨_, rfl, ?_⟩) | (go_at_call 50; (with_reducible refine (incunableref06_IsRow.calls k _ _ l0_2 t219 _ ?side1 ?side2 A5.out).mono ?_); (case side1 => repeat (first | exact (Kd.C_below HR0_2.out (by repeat (first | (with_reducible first | exact HB.out | apply below_alloc | apply pw_below_drewN | apply below_drew1 | refine below_set ?_ GE217.out) | exact HB.out))) | (with_reducible refine Kd.C_alloc ?_ _) | (with_reducible refine Kd.C_drewN ?_ _) | (with_reducible refine Kd.C_drew ?_))); (case side2 => exact HC0_2.out); rintro e w' ⟨rfl, ⟨nd, rfl⟩⟩)); go_ret; (exact ⟨by first | rfl | (simp [errW_none, errW_some] <;> rfl) | (simp [*, errW_none, errW_some] <;> rfl), by repeat (first | (with_reducible first | exact HB.out | apply below_alloc | apply pw_below_drewN | apply below_drew1 | refine below_set ?_ GE217.out) | exact HB.out)⟩)); (· rw [if_neg c4] at H; have c4b0 : ((l0_2.length : Int) == (wrap64 (a0_0 * a0_1))) = false := beq_eq_false_iff_ne.mpr c4; have c4b1 : ((l0_2.length : Int) != (wrap64 (a0_0 * a0_1))) = true := bne_iff_ne.mpr c4; obtain rfl := Option.some.inj H; go_enter Try.func22, Try.ntmps22; go_wp2_with (first | ((with_reducible refine gate_dst (N := 1) rfl ?_); (try (refine gate_guard (by rfl) ?_; dsimp only)); refine box_event ?hg (N := 1) ?hd (cs := #[.int .i64 a0_0, .int .i64 a0_1, .slice A0_2 l0_2.length c0_2]) (t := 31) ?hr ?_; (case hd => rfl); (case hg => rfl); (case hr => first | (go_simp; done) | (go_simp; rfl)); intro gb217 hg w8 hbox hb; have n0_ := Aside0.mk (below_step (by repeat (first | (with_reducible first | exact HB.out | apply below_alloc | apply pw_below_drewN | apply below_drew1) | exact HB.out)) hb); have n1_ := Aside0.mk (hbox); have n2_ := Aside0.mk ((by rw [hg]; exact (below_size (by repeat (first | (with_reducible first | exact HB.out | apply below_alloc | apply pw_below_drewN | apply below_drew1) | exact HB.out))) : w.heap.size ≤ gb217)); have n3_ := Aside0.mk ((by rw [hg]; exact (below_size (by repeat (first | (with_reducible first | exact HB.out | apply below_alloc | apply pw_below_drewN | apply below_drew1) | exact HB.out))) : w.heap.size ≤ gb217)); clear HB; have HB := n0_; have BK217 := n1_; have GW217 := n2_; have GE217 := n3_; clear n0_ n1_ n2_ n3_; clear hb hbox hg; have hcz9_0 : w8.cell? ⟨gb217, 0, none⟩ = some (.int .i64 a0_0) := (blk_cell BK217.out 0).trans rfl; have hcz9_1 : w8.cell? ⟨gb217, 1, none⟩ = some (.int .i64 a0_1) := (blk_cell BK217.out 1).trans rfl; have hcz9_2 : w8.cell? ⟨gb217, 2, none⟩ = some (.slice A0_2 l0_2.length c0_2) := (blk_cell BK217.out 2).trans rfl; have hfz9_0 := blk_frozen BK217.out 0; have hfz9_1 := blk_frozen BK217.out 1; have hfz9_2 := blk_frozen BK217.out 2) | ((with_reducible refine gate_callee (f := 49) rfl ?_); refine goesL_ (some 7) rfl rfl Try.func49 (by kernel_rfl) rfl #[.int .i64 a0_0, .int .i64 a0_1] rfl (by (try simp only [List.map_toArray, List.map_cons, List.map_nil]); first | done | rfl | (simp only [List.length_drop, List.length_take]; rfl)) ?_; (with_reducible refine (incunableref06_IsSize.calls a0_0 a0_1 true _ A2.out).mono ?_); rintro e w' ⟨rfl, ⟨nd, rfl⟩⟩; refine ⟨_, rfl, ?_⟩)); go_ret; (exact ⟨by first | rfl | (simp [errW_none, errW_some] <;> rfl) | (simp [*, errW_none, errW_some] <;> rfl), by repeat (first | (with_reducible first | exact HB.out | apply below_alloc | apply pw_below_drewN | apply below_drew1 | refine below_set ?_ GE217.out) | exact HB.out)⟩)))
 (· replace c3 := Bool.eq_false_iff.mpr c3; subst c3; (have H1 : (some false) = some r := by rw [if_neg (show ¬ (false = true) by decide)] at H; exact H); clear H; have H := H1; clear H1; obtain rfl := Option.some.inj H; go_enter Try.func22, Try.ntmps22; go_wp2_with (first | ((with_reducible refine gate_dst (N := 1) rfl ?_); (try (refine gate_guard (by rfl) ?_; dsimp only)); refine box_event ?hg (N := 1) ?hd (cs := #[.int .i64 a0_0, .int .i64 a0_1, .slice A0_2 l0_2.length c0_2]) (t := 31) ?hr ?_; (case hd => rfl); (case hg => rfl); (case hr => first | (go_simp; done) | (go_simp; rfl)); intro gb217 hg w10 hbox hb; have n0_ := Aside0.mk (below_step (by repeat (first | (with_reducible first | exact HB.out | apply below_alloc | apply pw_below_drewN | apply below_drew1) | exact HB.out)) hb); have n1_ := Aside0.mk (hbox); have n2_ := Aside0.mk ((by rw [hg]; exact (below_size (by repeat (first | (with_reducible first | exact HB.out | apply below_alloc | apply pw_below_drewN | apply below_drew1) | exact HB.out))) : w.heap.size ≤ gb217)); have n3_ := Aside0.mk ((by rw [hg]; exact (below_size (by repeat (first | (with_reducible first | exact HB.out | apply below_alloc | apply pw_below_drewN | apply below_drew1) | exact HB.out))) : w.heap.size ≤ gb217)); clear HB; have HB := n0_; have BK217 := n1_; have GW217 := n2_; have GE217 := n3_; clear n0_ n1_ n2_ n3_; clear hb hbox hg; have hcz11_0 : w10.cell? ⟨gb217, 0, none⟩ = some (.int .i64 a0_0) := (blk_cell BK217.out 0).trans rfl; have hcz11_1 : w10.cell? ⟨gb217, 1, none⟩ = some (.int .i64 a0_1) := (blk_cell BK217.out 1).trans rfl; have hcz11_2 : w10.cell? ⟨gb217, 2, none⟩ = some (.slice A0_2 l0_2.length c0_2) := (blk_cell BK217.out 2).trans rfl; have hfz11_0 := blk_frozen BK217.out 0; have hfz11_1 := blk_frozen BK217.out 1; have hfz11_2 := blk_frozen BK217.out 2) | ((with_reducible refine gate_callee (f := 49) rfl ?_); refine goesL_ (some 7) rfl rfl Try.func49 (by kernel_rfl) rfl #[.int .i64 a0_0, .int .i64 a0_1] rfl (by (try simp only [List.map_toArray, List.map_cons, List.map_nil]); first | done | rfl | (simp only [List.length_drop, List.length_take]; rfl)) ?_; (with_reducible refine (incunableref06_IsSize.calls a0_0 a0_1 false _ A2.out).mono ?_); rintro e w' ⟨rfl, ⟨nd, rfl⟩⟩; refine ⟨_, rfl, ?_⟩)); go_ret; (exact ⟨by first | rfl | (simp [errW_none, errW_some] <;> rfl) | (simp [*, errW_none, errW_some] <;> rfl), by repeat (first | (with_reducible first | exact HB.out | apply below_alloc | apply pw_below_drewN | apply below_drew1 | refine below_set ?_ GE217.out) | exact HB.out)⟩))
end Go.Proofs.Ytkfejicdjpffcaa.U
namespace Go.Proofs.Ytkfejicdjpffcaa.U
open Go.RowKit Go.Proofs.YtkfejicdjpffcaaW.PrintWords Go.Proofs.YtkfejicdjpffcaaW.PrintLast Go.Proofs.YtkfejicdjpffcaaW.PrintMore
attribute [local go_sem] max2_int min2_int max_two min_two max_three min_three max_four min_four   -- for this text's walks alone
def bitmap_blank.f (a0 : Int) (a1 : Int) : Option (Int × Int × List Int × Int) := (bitmap_fits.f a0 a1).bind fun t179 => (if t179 = true then (if 0 ≤ (wrap64 (a0 * a1)) then (if (wrap64 (a0 * a1) : Int).toNat ≤ 281474976710656 then (some (a0, a1, (List.replicate (wrap64 (a0 * a1) : Int).toNat 0), 0)) else (none)) else (none)) else (some (0, 0, ([] : List Int), 4)))
set_option maxHeartbeats 8000000 in
set_option maxRecDepth 100000 in
theorem bitmap_blank.calls (a0 : Int) (a1 : Int) (r1 : Int) (r2 : Int) (r3 : List Int) (r4 : Int) (w : World) (h : bitmap_blank.f a0 a1 = some (r1, r2, r3, r4)) :
    Calls Try.prog 94 #[.int .i64 a0, .int .i64 a1] w fun e w' => ∃ v2_ : Value, e = .returned (.tuple #[.agg #[.int .i64 r1, .int .i64 r2, v2_], .int .i64 r4]) ∧ Kd.R (Kd.int .u8) 5 w' w.heap.size (fun _ => True) v2_ r3 ∧ Below w.heap.size w w' := by
 have hu31 := Try.underlying31; have HB := Aside0.mk (Below.refl w.heap.size w); have H : ((bitmap_fits.f a0 a1).bind fun t179 => (if t179 = true then (if 0 ≤ (wrap64 (a0 * a1)) then (if (wrap64 (a0 * a1) : Int).toNat ≤ 281474976710656 then (some (a0, a1, (List.replicate (wrap64 (a0 * a1) : Int).toNat 0), 0)) else (none)) else (none)) else (some (0, 0, ([] : List Int), 4)))) = some (r1, r2, r3, r4) := h; clear h; replace H := Option.bind_eq_some_iff.mp H; obtain ⟨t179, A30, H⟩ := H; replace H : (if t179 = true then (if 0 ≤ (wrap64 (a0 * a1)) then (if (wrap64 (a0 * a1) : Int).toNat ≤ 281474976710656 then (some (a0, a1, (List.replicate (wrap64 (a0 * a1) : Int).toNat 0), 0)) else (none)) else (none)) else (some (0, 0, ([] : List Int), 4))) = some (r1, r2, r3, r4) := H; have A3 := Aside0.mk A30; clear A30; by_cases c4 : t179 = true
 (· subst c4; (have H1 : (if 0 ≤ (wrap64 (a0 * a1)) then (if (wrap64 (a0 * a1) : Int).toNat ≤ 281474976710656 then (some (a0, a1, (List.replicate (wrap64 (a0 * a1) : Int).toNat 0), 0)) else (none)) else (none)) = some (r1, r2, r3, r4) := by rw [if_pos rfl] at H; exact H); clear H; have H := H1; clear H1; obtain ⟨ji5, hji5⟩ : ∃ j_ : Int, (wrap64 (a0 * a1)) = j_ := ⟨_, rfl⟩; (replace H : (if 0 ≤ (ji5) then (if (ji5 : Int).toNat ≤ 281474976710656 then (some (a0, a1, (List.replicate (ji5 : Int).toNat 0), 0)) else (none)) else (none)) = some (r1, r2, r3, r4) := by first | (rw [hji5] at H; exact H) | (simp only [hji5] at H ⊢; exact H)); (try rw [hji5] at A3); have hji5w : (IntKind.i64.wrap (a0 * a1)) = ji5 := (i64_w _).trans hji5; by_cases c6 : 0 ≤ (ji5); (· rw [if_pos c6] at H; have c6b0 := eq_true c6; have c6b1 : decide (0 ≤ (ji5)) = true := decide_eq_true c6; clear c6; by_cases c7 : (ji5 : Int).toNat ≤ 281474976710656; (· rw [if_pos c7] at H; have c7b0 := eq_true c7; have c7b1 : decide ((ji5 : Int).toNat ≤ 281474976710656) = true := decide_eq_true c7; clear c7; obtain ⟨y180, hy180⟩ : ∃ y_ : List Int, y_ = (List.replicate (ji5 : Int).toNat 0) := ⟨_, rfl⟩; (replace H : (some (a0, a1, y180, 0)) = some (r1, r2, r3, r4) := by first | (rw [hy180]; with_reducible exact H) | (have H2_ := (Option.bind_some _ _).symm.trans H; rw [hy180]; with_reducible exact H2_) | (have H2_ := (Option.bind_some _ _).symm.trans H; with_reducible exact H2_) | with_reducible exact H | (rw [hy180]; exact H) | exact H); have Ny180 := Aside0.mk hy180; clear hy180; simp only [Option.some.injEq, Prod.mk.injEq] at H; obtain ⟨rfl, rfl, rfl, rfl⟩ := H; go_enter Try.func94, Try.ntmps94; go_wp2_with (first | ((with_reducible refine gate_dst (N := 4) rfl ?_); refine box_event ?hg (N := 4) ?hd (cs := #[.int .i64 0, .int .i64 0, .slice none 0 0]) (t := 31) ?hr ?_; (case hd => rfl); (case hg => rfl); (case hr => first | (go_simp; done) | (go_simp; rfl)); intro gb178 hg w8 hbox hb; have n0_ := Aside0.mk (below_step (by repeat (first | (with_reducible first | exact HB.out | apply below_alloc | apply pw_below_drewN | apply below_drew1) | exact HB.out)) hb); have n1_ := Aside0.mk (hbox); have n2_ := Aside0.mk ((by rw [hg]; exact (below_size (by repeat (first | (with_reducible first | exact HB.out | apply below_alloc | apply pw_below_drewN | apply below_drew1) | exact HB.out))) : w.heap.size ≤ gb178)); have n3_ := Aside0.mk ((by rw [hg]; exact (below_size (by repeat (first | (with_reducible first | exact HB.out | apply below_alloc | apply pw_below_drewN | apply below_drew1) | exact HB.out))) : w.heap.size ≤ gb178)); clear HB; have HB := n0_; have BK178 := n1_; have GW178 := n2_; have GE178 := n3_; clear n0_ n1_ n2_ n3_; clear hb hbox hg) | ((with_reducible refine gate_callee (f := 88) rfl ?_); refine goesL_ (some 8) rfl rfl Try.func88 (by kernel_rfl) rfl #[.int .i64 a0, .int .i64 a1] rfl (by (try simp only [List.map_toArray, List.map_cons, List.map_nil]); first | done | rfl | (simp only [List.length_drop, List.length_take]; rfl)) ?_; (with_reducible refine (bitmap_fits.calls a0 a1 true _ A3.out).mono ?_); rintro e w' ⟨rfl, ⟨nd, rfl⟩⟩; refine ⟨_, rfl, ?_⟩; (try (rw [drewN_self w8]; generalize hq_ : World.drewN w8 _ = w8; have n0_ : Aside0 (w8.heap[gb178]? = some (.cells #[.int .i64 0, .int .i64 0, .slice none 0 0] 31 (0, 0))) := ⟨by rw [← hq_]; exact (by (with_reducible repeat (first | refine blk_drewN ?_ _ | refine blk_drew ?_ | refine blk_alloc ?_ _)); exact BK178.out)⟩; have n1_ : Aside0 (Below w.heap.size w w8) := ⟨by rw [← hq_]; exact (by repeat (first | (with_reducible first | exact HB.out | apply below_alloc | apply pw_below_drewN | apply below_drew1 | refine below_set ?_ GE178.out) | exact HB.out))⟩; clear BK178 HB hq_; have BK178 := n0_; have HB := n1_; clear n0_ n1_))) | ((with_reducible refine gate_dst (N := 16) rfl ?_); refine Kd.R_make (Kd.int .u8) _ 5 rfl (N := 16) rfl 29 _ _ rfl ji5 rfl rfl Try.underlying29 (.int .u8 0) 1 info5 rfl (by decide) (by omega) 0 (ok := fun _ => True) (okp := fun _ => True) rfl (fun _ hk => hk) trivial (of_decide_eq_true (by first | (with_reducible assumption) | assumption)) (Nat.le_trans (Nat.mul_le_mul_right _ (of_decide_eq_true (by first | (with_reducible assumption) | assumption) : ji5.toNat ≤ 281474976710656)) (by omega)) (Below.refl _ _) (Nat.le_refl _) ?_; intro v181 w9 ho10 hb hg_ hnew_; clear hg_ hnew_; (first | rw [← Ny180.out] at ho10 | (simp only [Int.reduceToNat] at ho10; rw [← Ny180.out] at ho10)); have n0_ := Aside0.mk (Kd.R_lower ho10 (below_size (by repeat (first | (with_reducible first | exact HB.out | apply below_alloc | apply pw_below_drewN | apply below_drew1 | refine below_set ?_ GE178.out) | exact HB.out)))); have n1_ := Aside0.mk (blk_below (g := gb178) (o := .cells #[.int .i64 0, .int .i64 0, .slice none 0 0] 31 (0, 0)) (by (with_reducible repeat (first | refine blk_drewN ?_ _ | refine blk_drew ?_ | refine blk_alloc ?_ _)); exact BK178.out) hb); have n2_ := Aside0.mk (below_step (by repeat (first | (with_reducible first | exact HB.out | apply below_alloc | apply pw_below_drewN | apply below_drew1 | refine below_set ?_ GE178.out) | exact HB.out)) hb); clear BK178; clear HB; have HO182 := n0_; have BK178 := n1_; have HB := n2_; clear n0_ n1_ n2_; clear hb ho10; obtain ⟨Ao11, co11, eo11⟩ := Kd.R_slice HO182.out; subst eo11; have hcz12_0 : w9.cell? ⟨gb178, 0, none⟩ = some (.int .i64 0) := (blk_cell BK178.out 0).trans rfl; have hcz12_1 : w9.cell? ⟨gb178, 1, none⟩ = some (.int .i64 0) := (blk_cell BK178.out 1).trans rfl; have hcz12_2 : w9.cell? ⟨gb178, 2, none⟩ = some (.slice none 0 0) := (blk_cell BK178.out 2).trans rfl; have hfz12_0 := blk_frozen BK178.out 0; have hfz12_1 := blk_frozen BK178.out 1; have hfz12_2 := blk_frozen BK178.out 2)); refine bodyPost_ret (results_ct rfl _ _ gb178 31 #[.int .i64 a0, .int .i64 a1, .slice Ao11 y180.length co11] (0, 0) _ rfl (by (with_reducible repeat (first | refine blk_drewN ?_ _ | refine blk_drew ?_ | refine blk_alloc ?_ _)); refine blk_put (cs := #[.int .i64 a0, .int .i64 a1, .slice none 0 0]) ?_ 2 _ rfl; (with_reducible repeat (first | refine blk_drewN ?_ _ | refine blk_drew ?_ | refine blk_alloc ?_ _)); refine blk_put (cs := #[.int .i64 a0, .int .i64 0, .slice none 0 0]) ?_ 1 _ rfl; (with_reducible repeat (first | refine blk_drewN ?_ _ | refine blk_drew ?_ | refine blk_alloc ?_ _)); refine blk_put (cs := #[.int .i64 0, .int .i64 0, .slice none 0 0]) ?_ 0 _ rfl; (with_reducible repeat (first | refine blk_drewN ?_ _ | refine blk_drew ?_ | refine blk_alloc ?_ _)); exact BK178.out) Try.underlying31 rfl (by kernel_rfl)) rfl ?_; (exact ⟨_, by first | rfl | (simp [errW_none, errW_some] <;> rfl) | (simp only [← hji5]; first | rfl | (simp [errW_none, errW_some] <;> rfl)) | (simp [*, errW_none, errW_some] <;> rfl), by (with_reducible repeat (first | apply Kd.R_alloc | apply Kd.R_drewN | apply Kd.R_drew)); exact Kd.R_mono (Kd.R_far (p := ⟨gb178, 2, none⟩) (Kd.R_far (p := ⟨gb178, 1, none⟩) (Kd.R_far (p := ⟨gb178, 0, none⟩) (Kd.R_types HO182.out BK178.out (by decide)) (fun _ hk => hk.2) (.int .i64 a0)) (fun _ hk => hk.2) (.int .i64 a1)) (fun _ hk => hk.2) (.slice Ao11 y180.length co11)) (fun _ hk => trivial), by repeat (first | (with_reducible first | exact HB.out | apply below_alloc | apply pw_below_drewN | apply below_drew1 | refine below_set ?_ GE178.out) | exact HB.out)⟩)); (· rw [if_neg c7] at H; exact absurd H (by simp))); (· rw [if_neg c6] at H; exact absurd H (by simp)))
 (· replace c4 := Bool.eq_false_iff.mpr c4; subst c4; (have H1 : (some (0, 0, ([] : List Int), 4)) = some (r1, r2, r3, r4) := by rw [if_neg (show ¬ (false = true) by decide)] at H; exact H); clear H; have H := H1; clear H1; simp only [Option.some.injEq, Prod.mk.injEq] at H; obtain ⟨rfl, rfl, rfl, rfl⟩ := H; go_enter Try.func94, Try.ntmps94; go_wp2_with (first | ((with_reducible refine gate_dst (N := 4) rfl ?_); refine box_event ?hg (N := 4) ?hd (cs := #[.int .i64 0, .int .i64 0, .slice none 0 0]) (t := 31) ?hr ?_; (case hd => rfl); (case hg => rfl); (case hr => first | (go_simp; done) | (go_simp; rfl)); intro gb178 hg w13 hbox hb; have n0_ := Aside0.mk (below_step (by repeat (first | (with_reducible first | exact HB.out | apply below_alloc | apply pw_below_drewN | apply below_drew1) | exact HB.out)) hb); have n1_ := Aside0.mk (hbox); have n2_ := Aside0.mk ((by rw [hg]; exact (below_size (by repeat (first | (with_reducible first | exact HB.out | apply below_alloc | apply pw_below_drewN | apply below_drew1) | exact HB.out))) : w.heap.size ≤ gb178)); have n3_ := Aside0.mk ((by rw [hg]; exact (below_size (by repeat (first | (with_reducible first | exact HB.out | apply below_alloc | apply pw_below_drewN | apply below_drew1) | exact HB.out))) : w.heap.size ≤ gb178)); clear HB; have HB := n0_; have BK178 := n1_; have GW178 := n2_; have GE178 := n3_; clear n0_ n1_ n2_ n3_; clear hb hbox hg) | ((with_reducible refine gate_callee (f := 88) rfl ?_); refine goesL_ (some 8) rfl rfl Try.func88 (by kernel_rfl) rfl #[.int .i64 a0, .int .i64 a1] rfl (by (try simp only [List.map_toArray, List.map_cons, List.map_nil]); first | done | rfl | (simp only [List.length_drop, List.length_take]; rfl)) ?_; (with_reducible refine (bitmap_fits.calls a0 a1 false _ A3.out).mono ?_); rintro e w' ⟨rfl, ⟨nd, rfl⟩⟩; refine ⟨_, rfl, ?_⟩; (try (rw [drewN_self w13]; generalize hq_ : World.drewN w13 _ = w13; have n0_ : Aside0 (w13.heap[gb178]? = some (.cells #[.int .i64 0, .int .i64 0, .slice none 0 0] 31 (0, 0))) := ⟨by rw [← hq_]; exact (by (with_reducible repeat (first | refine blk_drewN ?_ _ | refine blk_drew ?_ | refine blk_alloc ?_ _)); exact BK178.out)⟩; have n1_ : Aside0 (Below w.heap.size w w13) := ⟨by rw [← hq_]; exact (by repeat (first | (with_reducible first | exact HB.out | apply below_alloc | apply pw_below_drewN | apply below_drew1 | refine below_set ?_ GE178.out) | exact HB.out))⟩; clear BK178 HB hq_; have BK178 := n0_; have HB := n1_; clear n0_ n1_)); have hcz14_0 : w13.cell? ⟨gb178, 0, none⟩ = some (.int .i64 0) := (blk_cell BK178.out 0).trans rfl; have hcz14_1 : w13.cell? ⟨gb178, 1, none⟩ = some (.int .i64 0) := (blk_cell BK178.out 1).trans rfl; have hcz14_2 : w13.cell? ⟨gb178, 2, none⟩ = some (.slice none 0 0) := (blk_cell BK178.out 2).trans rfl; have hfz14_0 := blk_frozen BK178.out 0; have hfz14_1 := blk_frozen BK178.out 1; have hfz14_2 := blk_frozen BK178.out 2)); refine bodyPost_ret (results_ct rfl _ _ gb178 31 #[.int .i64 0, .int .i64 0, .slice none 0 0] (0, 0) _ rfl (by (with_reducible repeat (first | refine blk_drewN ?_ _ | refine blk_drew ?_ | refine blk_alloc ?_ _)); refine blk_put (cs := #[.int .i64 0, .int .i64 0, .slice none 0 0]) ?_ 2 _ rfl; (with_reducible repeat (first | refine blk_drewN ?_ _ | refine blk_drew ?_ | refine blk_alloc ?_ _)); refine blk_put (cs := #[.int .i64 0, .int .i64 0, .slice none 0 0]) ?_ 1 _ rfl; (with_reducible repeat (first | refine blk_drewN ?_ _ | refine blk_drew ?_ | refine blk_alloc ?_ _)); refine blk_put (cs := #[.int .i64 0, .int .i64 0, .slice none 0 0]) ?_ 0 _ rfl; (with_reducible repeat (first | refine blk_drewN ?_ _ | refine blk_drew ?_ | refine blk_alloc ?_ _)); exact BK178.out) Try.underlying31 rfl (by kernel_rfl)) rfl ?_; (exact ⟨_, by first | rfl | (simp [errW_none, errW_some] <;> rfl) | (simp [*, errW_none, errW_some] <;> rfl), by first | exact Kd.R_nil _ _ _ _ _ | exact Kd.N_nil _ _ _ _ _ | exact Kd.V_nil _ _ _ _ _ | exact Kd.Q_nil _ _ _ _ _ | exact Kd.S_nil _ _ _ _ _, by repeat (first | (with_reducible first | exact HB.out | apply below_alloc | apply pw_below_drewN | apply below_drew1 | refine below_set ?_ GE178.out) | exact HB.out)⟩))
end Go.Proofs.Ytkfejicdjpffcaa.U
namespace Go.Proofs.Ytkfejicdjpffcaa.U
open Go.RowKit Go.Proofs.YtkfejicdjpffcaaW.PrintWords Go.Proofs.YtkfejicdjpffcaaW.PrintLast Go.Proofs.YtkfejicdjpffcaaW.PrintMore
attribute [local go_sem] max2_int min2_int max_two min_two max_three min_three max_four min_four   -- for this text's walks alone
mutual
def bitmap_New.j0 : Nat → Int → Int → Int → Bool → Option (Int × Int × List Int × Int)
  | 0, _, _, _, _ => none
  | k + 1, x0, x1, x2, x24 => if x24 = true then (some (0, 0, ([] : List Int), 2)) else ((bitmap_blank.f x0 x1).bind fun bt184 => (bitmap_New.l0 k x2 bt184.2.2.2 (bt184.2.2.1.length : Int) 0 bt184.1 bt184.2.1 bt184.2.2.1))
def bitmap_New.l0 : Nat → Int → Int → Int → Int → Int → Int → List Int → Option (Int × Int × List Int × Int)
  | 0, _, _, _, _, _, _, _ => none
  | k + 1, x2, x9, x34, x35, x191000, x191001, x191002 => if x35 < x34 then (if 0 ≤ x35 then (if x35 < (x191002.length : Int) then (bitmap_New.l0 k x2 x9 x34 (wrap64 (x35 + 1)) x191000 x191001 (x191002.set (x35 : Int).toNat ((x2) % 256))) else (none)) else (none)) else (some (x191000, x191001, x191002, x9))
end
def bitmap_New.f (k : Nat) (a0 : Int) (a1 : Int) (a2 : Int) : Option (Int × Int × List Int × Int) := if a0 < 0 then (bitmap_New.j0 k a0 a1 a2 true) else (if a1 < 0 then (bitmap_New.j0 k a0 a1 a2 true) else (if a2 = 0 then (bitmap_New.j0 k a0 a1 a2 false) else (bitmap_New.j0 k a0 a1 a2 (a2 != 1))))
theorem bitmap_New.mono_l : ∀ k, (∀ y0 y1 y2 y3, LeO (bitmap_New.j0 k y0 y1 y2 y3) (bitmap_New.j0 (k + 1) y0 y1 y2 y3)) ∧ (∀ y0 y1 y2 y3 y4 y5 y6, LeO (bitmap_New.l0 k y0 y1 y2 y3 y4 y5 y6) (bitmap_New.l0 (k + 1) y0 y1 y2 y3 y4 y5 y6))
  | 0 => ⟨fun _ _ _ _ r h => by simp [bitmap_New.j0] at h, fun _ _ _ _ _ _ _ r h => by simp [bitmap_New.l0] at h⟩
  | k + 1 => by
    obtain ⟨ih0, ih1⟩ := bitmap_New.mono_l k
    refine ⟨?_, ?_⟩
    · intro y0 y1 y2 y3
      unfold bitmap_New.j0
      repeat' first
      | (with_reducible exact ih0 _ _ _ _)
      | (with_reducible exact ih1 _ _ _ _ _ _ _)
      | (with_reducible exact LeO.refl _)
      | (with_reducible exact LeO.none _)
      | (with_reducible refine LeO.ite ?_ ?_)
      | (with_reducible refine LeO.bind ?_ (fun _ => ?_))
      | exact ih0 _ _ _ _
      | exact ih1 _ _ _ _ _ _ _
      | exact LeO.none _
      | refine LeO.ite ?_ ?_
      | refine LeO.bind ?_ (fun _ => ?_)
    · intro y0 y1 y2 y3 y4 y5 y6
      unfold bitmap_New.l0
      repeat' first
      | (with_reducible exact ih0 _ _ _ _)
      | (with_reducible exact ih1 _ _ _ _ _ _ _)
      | (with_reducible exact LeO.refl _)
      | (with_reducible exact LeO.none _)
      | (with_reducible refine LeO.ite ?_ ?_)
      | (with_reducible refine LeO.bind ?_ (fun _ => ?_))
      | exact ih0 _ _ _ _
      | exact ih1 _ _ _ _ _ _ _
      | exact LeO.none _
      | refine LeO.ite ?_ ?_
      | refine LeO.bind ?_ (fun _ => ?_)
theorem bitmap_New.mono : ∀ a0 a1 a2 k, LeO (bitmap_New.f k a0 a1 a2) (bitmap_New.f (k + 1) a0 a1 a2) := by
 intro a0 a1 a2 k; obtain ⟨ih0, ih1⟩ := bitmap_New.mono_l k; unfold bitmap_New.f
 repeat' first
  | (with_reducible exact ih0 _ _ _ _)
  | (with_reducible exact ih1 _ _ _ _ _ _ _)
  | (with_reducible exact LeO.refl _)
  | (with_reducible exact LeO.none _)
  | (with_reducible refine LeO.ite ?_ ?_)
  | (with_reducible refine LeO.bind ?_ (fun _ => ?_))
  | exact ih0 _ _ _ _
  | exact ih1 _ _ _ _ _ _ _
  | exact LeO.none _
  | refine LeO.ite ?_ ?_
  | refine LeO.bind ?_ (fun _ => ?_)
set_option maxHeartbeats 8000000 in
set_option maxRecDepth 100000 in
theorem bitmap_New.calls (k : Nat) (a0 : Int) (a1 : Int) (a2 : Int) (r1 : Int) (r2 : Int) (r3 : List Int) (r4 : Int) (w : World) (h : bitmap_New.f k a0 a1 a2 = some (r1, r2, r3, r4)) :
    Calls Try.prog 80 #[.int .i64 a0, .int .i64 a1, .int .i64 a2] w fun e w' => ∃ v2_ : Value, e = .returned (.tuple #[.agg #[.int .i64 r1, .int .i64 r2, v2_], .int .i64 r4]) ∧ Kd.R (Kd.int .u8) 5 w' w.heap.size (fun _ => True) v2_ r3 ∧ Below w.heap.size w w' := by
 have hu31 := Try.underlying31; have HB := Aside0.mk (Below.refl w.heap.size w); have H : (if a0 < 0 then (bitmap_New.j0 k a0 a1 a2 true) else (if a1 < 0 then (bitmap_New.j0 k a0 a1 a2 true) else (if a2 = 0 then (bitmap_New.j0 k a0 a1 a2 false) else (bitmap_New.j0 k a0 a1 a2 (a2 != 1))))) = some (r1, r2, r3, r4) := h; clear h; have HC4 := Aside0.mk H; clear H; go_enter Try.func80, Try.ntmps80; go_upto_region 1 with (first | ((with_reducible refine gate_dst (N := 6) rfl ?_); refine box_event ?hg (N := 6) ?hd (cs := #[.int .i64 0, .int .i64 0, .slice none 0 0]) (t := 31) ?hr ?_; (case hd => rfl); (case hg => rfl); (case hr => first | (go_simp; done) | (go_simp; rfl)); intro gb183 hg w5 hbox hb; have n0_ := Aside0.mk (below_step (by repeat (first | (with_reducible first | exact HB.out | apply below_alloc | apply pw_below_drewN | apply below_drew1) | exact HB.out)) hb); have n1_ := Aside0.mk (hbox); have n2_ := Aside0.mk ((by rw [hg]; exact (below_size (by repeat (first | (with_reducible first | exact HB.out | apply below_alloc | apply pw_below_drewN | apply below_drew1) | exact HB.out))) : w.heap.size ≤ gb183)); have n3_ := Aside0.mk ((by rw [hg]; exact (below_size (by repeat (first | (with_reducible first | exact HB.out | apply below_alloc | apply pw_below_drewN | apply below_drew1) | exact HB.out))) : w.heap.size ≤ gb183)); clear HB; have HB := n0_; have BK183 := n1_; have GW183 := n2_; have GE183 := n3_; clear n0_ n1_ n2_ n3_; clear hb hbox hg))
 (try simp only [Act.put, List.setIfInBounds_toArray, List.set_cons_zero, List.set_cons_succ]); go_cut [24] (fun v24 wc => ∃ (kq : Nat) (x24_3 : Bool), v24 = .bool x24_3 ∧ Aside0 (bitmap_New.j0 kq a0 a1 a2 x24_3 = some (r1, r2, r3, r4)) ∧ Aside0 (kq ≤ k) ∧ Aside0 (wc.heap[gb183]? = some (.cells #[.int .i64 0, .int .i64 0, (.slice none 0 0)] 31 (0, 0))) ∧ Aside0 (Below w.heap.size w wc))
 (case first => have H := HC4.out; clear HC4; by_cases c6 : a0 < 0; (· rw [if_pos c6] at H; have c6b0 : decide (a0 < 0) = true := decide_eq_true c6; clear c6; (first | rw [c6b0] | (simp only [i64_w, i32_w]; rw [c6b0]) | skip); have H' := Aside0.mk H; clear H; go_wp2; go_meet; (case rel => exact ⟨_, (true), (by first | rfl | (simp; done) | (simp [*]; done)), H', ⟨by first | omega | exact Nat.le_refl _⟩, ⟨by (with_reducible repeat (first | refine blk_drewN ?_ _ | refine blk_drew ?_ | refine blk_alloc ?_ _)); exact BK183.out⟩, ⟨by repeat (first | (with_reducible first | exact HB.out | apply below_alloc | apply pw_below_drewN | apply below_drew1 | refine below_set ?_ GE183.out) | exact HB.out)⟩⟩)); (· rw [if_neg c6] at H; have c6b0 : decide (a0 < 0) = false := decide_eq_false c6; clear c6; (first | rw [c6b0] | (simp only [i64_w, i32_w]; rw [c6b0]) | skip); by_cases c7 : a1 < 0; (· rw [if_pos c7] at H; have c7b0 : decide (a1 < 0) = true := decide_eq_true c7; clear c7; have H' := Aside0.mk H; clear H; go_wp2; go_meet; (case rel => exact ⟨_, (true), (by first | rfl | (simp; done) | (simp [*]; done)), H', ⟨by first | omega | exact Nat.le_refl _⟩, ⟨by (with_reducible repeat (first | refine blk_drewN ?_ _ | refine blk_drew ?_ | refine blk_alloc ?_ _)); exact BK183.out⟩, ⟨by repeat (first | (with_reducible first | exact HB.out | apply below_alloc | apply pw_below_drewN | apply below_drew1 | refine below_set ?_ GE183.out) | exact HB.out)⟩⟩)); (· rw [if_neg c7] at H; have c7b0 : decide (a1 < 0) = false := decide_eq_false c7; clear c7; by_cases c8 : a2 = 0; (· rw [if_pos c8] at H; have c8b0 : (a2 == 0) = true := beq_iff_eq.mpr c8; have c8b1 : (a2 != 0) = false := bne_eq_false_iff_eq.mpr c8; clear c8; have H' := Aside0.mk H; clear H; go_wp2; go_meet; (case rel => exact ⟨_, (false), (by first | rfl | (simp; done) | (simp [*]; done)), H', ⟨by first | omega | exact Nat.le_refl _⟩, ⟨by (with_reducible repeat (first | refine blk_drewN ?_ _ | refine blk_drew ?_ | refine blk_alloc ?_ _)); exact BK183.out⟩, ⟨by repeat (first | (with_reducible first | exact HB.out | apply below_alloc | apply pw_below_drewN | apply below_drew1 | refine below_set ?_ GE183.out) | exact HB.out)⟩⟩)); (· rw [if_neg c8] at H; have c8b0 : (a2 == 0) = false := beq_eq_false_iff_ne.mpr c8; have c8b1 : (a2 != 0) = true := bne_iff_ne.mpr c8; have H' := Aside0.mk H; clear H; go_wp2; go_meet; (case rel => exact ⟨_, ((a2 != 1)), (by first | rfl | (simp; done) | (simp [*]; done)), H', ⟨by first | omega | exact Nat.le_refl _⟩, ⟨by (with_reducible repeat (first | refine blk_drewN ?_ _ | refine blk_drew ?_ | refine blk_alloc ?_ _)); exact BK183.out⟩, ⟨by repeat (first | (with_reducible first | exact HB.out | apply below_alloc | apply pw_below_drewN | apply below_drew1 | refine below_set ?_ GE183.out) | exact HB.out)⟩⟩)))))
 case rest =>
  clear HC4; (try clear p2); (try clear c6); (try clear c6b0); (try clear c7); (try clear c7b0); (try clear c8); (try clear c8b0); (try clear c8b1); obtain ⟨kq, x24_3, rfl, HA, HJ3, BK183, HB⟩ := hcut
  cases kq with
  | zero => exact absurd HA.out (by simp [bitmap_New.j0])
  | succ kj3 =>
   have H := HA.out; clear HA; simp only [bitmap_New.j0] at H; by_cases c9 : x24_3 = true
   (· subst c9; (have H1 : (some (0, 0, ([] : List Int), 2)) = some (r1, r2, r3, r4) := by rw [if_pos rfl] at H; exact H); clear H; have H := H1; clear H1; simp only [Option.some.injEq, Prod.mk.injEq] at H; obtain ⟨rfl, rfl, rfl, rfl⟩ := H; have hcz10_0 : wc.cell? ⟨gb183, 0, none⟩ = some (.int .i64 0) := (blk_cell BK183.out 0).trans rfl; have hcz10_1 : wc.cell? ⟨gb183, 1, none⟩ = some (.int .i64 0) := (blk_cell BK183.out 1).trans rfl; have hcz10_2 : wc.cell? ⟨gb183, 2, none⟩ = some (.slice none 0 0) := (blk_cell BK183.out 2).trans rfl; have hfz10_0 := blk_frozen BK183.out 0; have hfz10_1 := blk_frozen BK183.out 1; have hfz10_2 := blk_frozen BK183.out 2; go_wp2; refine bodyPost_ret (results_ct rfl _ _ gb183 31 #[.int .i64 0, .int .i64 0, .slice none 0 0] (0, 0) _ rfl (by (with_reducible repeat (first | refine blk_drewN ?_ _ | refine blk_drew ?_ | refine blk_alloc ?_ _)); refine blk_put (cs := #[.int .i64 0, .int .i64 0, .slice none 0 0]) ?_ 2 _ rfl; (with_reducible repeat (first | refine blk_drewN ?_ _ | refine blk_drew ?_ | refine blk_alloc ?_ _)); refine blk_put (cs := #[.int .i64 0, .int .i64 0, .slice none 0 0]) ?_ 1 _ rfl; (with_reducible repeat (first | refine blk_drewN ?_ _ | refine blk_drew ?_ | refine blk_alloc ?_ _)); refine blk_put (cs := #[.int .i64 0, .int .i64 0, .slice none 0 0]) ?_ 0 _ rfl; (with_reducible repeat (first | refine blk_drewN ?_ _ | refine blk_drew ?_ | refine blk_alloc ?_ _)); exact BK183.out) Try.underlying31 rfl (by kernel_rfl)) rfl ?_; (exact ⟨_, by first | rfl | (simp [errW_none, errW_some] <;> rfl) | (simp [*, errW_none, errW_some] <;> rfl), by first | exact Kd.R_nil _ _ _ _ _ | exact Kd.N_nil _ _ _ _ _ | exact Kd.V_nil _ _ _ _ _ | exact Kd.Q_nil _ _ _ _ _ | exact Kd.S_nil _ _ _ _ _, by repeat (first | (with_reducible first | exact HB.out | apply below_alloc | apply pw_below_drewN | apply below_drew1 | refine below_set ?_ GE183.out) | exact HB.out)⟩))
   · replace c9 := Bool.eq_false_iff.mpr c9
     subst c9; (have H1 : ((bitmap_blank.f a0 a1).bind fun bt184 => (bitmap_New.l0 kj3 a2 bt184.2.2.2 (bt184.2.2.1.length : Int) 0 bt184.1 bt184.2.1 bt184.2.2.1)) = some (r1, r2, r3, r4) := by rw [if_neg (show ¬ (false = true) by decide)] at H; exact H); clear H; have H := H1; clear H1; replace H := Option.bind_eq_some_iff.mp H; obtain ⟨⟨t184, t185, t186, t189⟩, A110, H⟩ := H; replace H : (bitmap_New.l0 kj3 a2 t189 (t186.length : Int) 0 t184 t185 t186) = some (r1, r2, r3, r4) := H; have A11 := Aside0.mk A110; clear A110; have H' := Aside0.mk H; clear H
     go_wp2_with (first | ((with_reducible refine gate_callee (f := 94) rfl ?_); refine goesL_ (some 29) rfl rfl Try.func94 (by kernel_rfl) rfl #[.int .i64 a0, .int .i64 a1] rfl (by (try simp only [List.map_toArray, List.map_cons, List.map_nil]); first | done | rfl | (simp only [List.length_drop, List.length_take]; rfl)) ?_; (with_reducible refine (bitmap_blank.calls a0 a1 t184 t185 t186 t189 _ A11.out).mono ?_); rintro e w12 ⟨v187, rfl, ho0, hb⟩; refine ⟨_, rfl, ?_⟩; have n0_ := Aside0.mk (Kd.R_lower ho0 (below_size (by repeat (first | (with_reducible first | exact HB.out | apply below_alloc | apply pw_below_drewN | apply below_drew1 | refine below_set ?_ GE183.out) | exact HB.out)))); have n1_ := Aside0.mk (blk_below (g := gb183) (o := .cells #[.int .i64 0, .int .i64 0, .slice none 0 0] 31 (0, 0)) (by (with_reducible repeat (first | refine blk_drewN ?_ _ | refine blk_drew ?_ | refine blk_alloc ?_ _)); exact BK183.out) hb); have n2_ := Aside0.mk (below_step (by repeat (first | (with_reducible first | exact HB.out | apply below_alloc | apply pw_below_drewN | apply below_drew1 | refine below_set ?_ GE183.out) | exact HB.out)) hb); clear BK183; clear HB; have HO188 := n0_; have BK183 := n1_; have HB := n2_; clear n0_ n1_ n2_; (try clear hb); (try clear hb2); (try clear hk); (try clear hi); (try clear ho0)) | ((with_reducible refine gate_dst (N := 8) rfl ?_); refine box_event ?hg (N := 8) ?hd (cs := #[.int .i64 0, .int .i64 0, .slice none 0 0]) (t := 31) ?hr ?_; (case hd => rfl); (case hg => rfl); (case hr => first | (go_simp; done) | (go_simp; rfl)); intro gb190 hg w13 hbox hb; have n0_ := Aside0.mk (Kd.R_below (by (with_reducible repeat (first | apply Kd.R_alloc | apply Kd.R_drewN | apply Kd.R_drew)); exact HO188.out) hb); have n1_ := Aside0.mk (blk_below (g := gb183) (o := .cells #[.int .i64 0, .int .i64 0, .slice none 0 0] 31 (0, 0)) (by (with_reducible repeat (first | refine blk_drewN ?_ _ | refine blk_drew ?_ | refine blk_alloc ?_ _)); exact BK183.out) hb); have n2_ := Aside0.mk (below_step (by repeat (first | (with_reducible first | exact HB.out | apply below_alloc | apply pw_below_drewN | apply below_drew1 | refine below_set ?_ GE183.out) | exact HB.out)) hb); have n3_ := Aside0.mk (hbox); have n4_ := Aside0.mk ((by rw [hg]; exact (below_size (by repeat (first | (with_reducible first | exact HB.out | apply below_alloc | apply pw_below_drewN | apply below_drew1 | refine below_set ?_ GE183.out) | exact HB.out))) : w.heap.size ≤ gb190)); have n5_ := Aside0.mk ((by rw [hg]; exact (below_size (by repeat (first | (with_reducible first | exact HB.out | apply below_alloc | apply pw_below_drewN | apply below_drew1 | refine below_set ?_ GE183.out) | exact HB.out))) : w.heap.size ≤ gb190)); have n6_ := Aside0.mk ((by rw [hg]; exact Nat.ne_of_lt (blk_lt (g := gb183) (o := .cells #[.int .i64 0, .int .i64 0, .slice none 0 0] 31 (0, 0)) (by (with_reducible repeat (first | refine blk_drewN ?_ _ | refine blk_drew ?_ | refine blk_alloc ?_ _)); exact BK183.out)) : gb183 ≠ gb190)); have n7_ := Aside0.mk ((by rw [hg]; exact Nat.ne_of_gt (blk_lt (g := gb183) (o := .cells #[.int .i64 0, .int .i64 0, .slice none 0 0] 31 (0, 0)) (by (with_reducible repeat (first | refine blk_drewN ?_ _ | refine blk_drew ?_ | refine blk_alloc ?_ _)); exact BK183.out)) : gb190 ≠ gb183)); clear HO188; clear BK183; clear HB; have HO188 := n0_; have BK183 := n1_; have HB := n2_; have BK190 := n3_; have GW190 := n4_; have GE190 := n5_; have NB183_190 := n6_; have NB190_183 := n7_; clear n0_ n1_ n2_ n3_ n4_ n5_ n6_ n7_; clear hb hbox hg; have hnb14 := NB190_183.out; have hnc14 := NB183_190.out; have hcz15_0 : w13.cell? ⟨gb190, 0, none⟩ = some (.int .i64 0) := (blk_cell BK190.out 0).trans rfl; have hcz15_1 : w13.cell? ⟨gb190, 1, none⟩ = some (.int .i64 0) := (blk_cell BK190.out 1).trans rfl; have hcz15_2 : w13.cell? ⟨gb190, 2, none⟩ = some (.slice none 0 0) := (blk_cell BK190.out 2).trans rfl; have hfz15_0 := blk_frozen BK190.out 0; have hfz15_1 := blk_frozen BK190.out 1; have hfz15_2 := blk_frozen BK190.out 2; obtain ⟨Ao16, co16, eo16⟩ := Kd.R_slice HO188.out; subst eo16))
     go_loopg [35] kj3 (fun kq v35 w' => ∃ (x35_2 : Int) (x191002_2 : List Int) (u191002 : Value), v35 = .int .i64 x35_2 ∧ Aside0 (bitmap_New.l0 kq a2 t189 (t186.length : Int) x35_2 t184 t185 x191002_2 = some (r1, r2, r3, r4)) ∧ Aside0 (kq ≤ kj3) ∧ Aside0 (Kd.R (Kd.int .u8) 5 w' w.heap.size (fun _ => True) u191002 x191002_2) ∧ Aside0 (w'.heap[gb183]? = some (.cells #[.int .i64 0, .int .i64 0, (.slice none 0 0)] 31 (0, 0))) ∧ Aside0 (w'.heap[gb190]? = some (.cells #[.int .i64 t184, .int .i64 t185, u191002] 31 (0, 0))) ∧ Aside0 (Below w.heap.size w w'))
     (case atStart => exact ⟨(0), (t186), (.slice Ao16 t186.length co16), (by first | rfl | (simp; done) | (simp [*]; done)), H', ⟨Nat.le_refl _⟩, ⟨by (with_reducible repeat (first | apply Kd.R_alloc | apply Kd.R_drewN | apply Kd.R_drew)); exact Kd.R_mono (Kd.R_far (p := ⟨gb190, 2, none⟩) (Kd.R_far (p := ⟨gb190, 1, none⟩) (Kd.R_far (p := ⟨gb190, 0, none⟩) (Kd.R_types HO188.out BK190.out (by decide)) (fun _ hk => hk.2) (.int .i64 t184)) (fun _ hk => hk.2) (.int .i64 t185)) (fun _ hk => hk.2) (.slice Ao16 t186.length co16)) (fun _ hk => trivial)⟩, ⟨by (with_reducible repeat (first | refine blk_drewN ?_ _ | refine blk_drew ?_ | refine blk_alloc ?_ _)); refine blk_far ?_ NB183_190.out _; (with_reducible repeat (first | refine blk_drewN ?_ _ | refine blk_drew ?_ | refine blk_alloc ?_ _)); refine blk_far ?_ NB183_190.out _; (with_reducible repeat (first | refine blk_drewN ?_ _ | refine blk_drew ?_ | refine blk_alloc ?_ _)); refine blk_far ?_ NB183_190.out _; (with_reducible repeat (first | refine blk_drewN ?_ _ | refine blk_drew ?_ | refine blk_alloc ?_ _)); exact BK183.out⟩, ⟨by (with_reducible repeat (first | refine blk_drewN ?_ _ | refine blk_drew ?_ | refine blk_alloc ?_ _)); refine blk_put (cs := #[.int .i64 t184, .int .i64 t185, .slice none 0 0]) ?_ 2 _ rfl; (with_reducible repeat (first | refine blk_drewN ?_ _ | refine blk_drew ?_ | refine blk_alloc ?_ _)); refine blk_put (cs := #[.int .i64 t184, .int .i64 0, .slice none 0 0]) ?_ 1 _ rfl; (with_reducible repeat (first | refine blk_drewN ?_ _ | refine blk_drew ?_ | refine blk_alloc ?_ _)); refine blk_put (cs := #[.int .i64 0, .int .i64 0, .slice none 0 0]) ?_ 0 _ rfl; (with_reducible repeat (first | refine blk_drewN ?_ _ | refine blk_drew ?_ | refine blk_alloc ?_ _)); exact BK190.out⟩, ⟨by repeat (first | (with_reducible first | exact HB.out | apply below_alloc | apply pw_below_drewN | apply below_drew1 | refine below_set ?_ GE183.out | refine below_set ?_ GE190.out) | exact HB.out)⟩⟩)
     case round =>
      clear H'; (try clear c1); (try clear p2); (try clear c6); (try clear c6b0); (try clear c7); (try clear c7b0); (try clear c8); (try clear c8b0); (try clear c8b1); (try clear c9); (try clear c14); (try clear hcz10_0); (try clear hcz10_1); (try clear hcz10_2); (try clear hcz15_0); (try clear hcz15_1); (try clear hcz15_2); (try clear hfz10_0); (try clear hfz10_1); (try clear hfz10_2); (try clear hfz15_0); (try clear hfz15_1); (try clear hfz15_2); (try clear p2); obtain ⟨x35_2, x191002_2, u191002, rfl, HA, HK2, HO_191002, BK183, BK190, HB⟩ := hrel
      cases gk with
      | zero => exact absurd HA.out (by simp [bitmap_New.l0])
      | succ k2 =>
       have H := HA.out; clear HA; simp only [bitmap_New.l0] at H; by_cases c17 : x35_2 < (t186.length : Int)
       (· rw [if_pos c17] at H; have c17b0 : decide (x35_2 < (t186.length : Int)) = true := decide_eq_true c17; clear c17; by_cases c18 : 0 ≤ x35_2; (· rw [if_pos c18] at H; have c18b0 : decide (0 ≤ x35_2) = true := decide_eq_true c18; clear c18; by_cases c19 : x35_2 < (x191002_2.length : Int); (· rw [if_pos c19] at H; have c19b0 : decide (x35_2 < (x191002_2.length : Int)) = true := decide_eq_true c19; clear c19; obtain ⟨y191, hy191⟩ : ∃ y_ : List Int, y_ = (x191002_2.set (x35_2 : Int).toNat ((a2) % 256)) := ⟨_, rfl⟩; (replace H : (bitmap_New.l0 k2 a2 t189 (t186.length : Int) (wrap64 (x35_2 + 1)) t184 t185 y191) = some (r1, r2, r3, r4) := by first | (rw [hy191]; with_reducible exact H) | (have H2_ := (Option.bind_some _ _).symm.trans H; rw [hy191]; with_reducible exact H2_) | (have H2_ := (Option.bind_some _ _).symm.trans H; with_reducible exact H2_) | with_reducible exact H | (rw [hy191]; exact H) | exact H); have Ny191 := Aside0.mk hy191; clear hy191; have H' := Aside0.mk H; clear H; have hnb21 := NB190_183.out; have hnc21 := NB183_190.out; have hcz22_0 : wr.cell? ⟨gb190, 0, none⟩ = some (.int .i64 t184) := (blk_cell BK190.out 0).trans rfl; have hcz22_1 : wr.cell? ⟨gb190, 1, none⟩ = some (.int .i64 t185) := (blk_cell BK190.out 1).trans rfl; have hcz22_2 : wr.cell? ⟨gb190, 2, none⟩ = some (u191002) := (blk_cell BK190.out 2).trans rfl; have hfz22_0 := blk_frozen BK190.out 0; have hfz22_1 := blk_frozen BK190.out 1; have hfz22_2 := blk_frozen BK190.out 2; have p20 : 0 ≤ (x35_2 : Int) := of_decide_eq_true (by first | (with_reducible assumption) | assumption); have q20 : (x35_2 : Int) < ((x191002_2.length : Int) : Int) := of_decide_eq_true (by first | (with_reducible assumption) | assumption); obtain ⟨go20, co20, eo20, gb20, gl20, cl20, HG20⟩ := Kd.R_form HO_191002.out (by omega); (first | cases eo20 | (injection eo20 with ea_ en_ ec_; (first | subst ea_ | (injection ea_ with ea_; subst ea_)); subst ec_; clear en_)); have GB20 := Aside0.mk gb20; have GG20 := Aside0.mk HG20; clear gb20 gl20 HG20; obtain ⟨hx20_0, hf20_0⟩ := Kd.R_celln 0 HO_191002.out (x35_2 : Int) p20 q20; replace p20 := eq_true p20; replace q20 := eq_true q20; have HP23 := Kd.R_putg HO_191002.out (x35_2 : Int) ((a2) % 256); go_wp2_with (first | ((with_reducible refine gate_store (t := 5) (p := 43) rfl ?_); refine store_event (t := 5) (p := 43) (v := ?vo_w24) (w1 := (wr.setCell ⟨go20, (x35_2 : Int).toNat, none⟩ (.int .u8 ((a2) % 256)))) ?hg ?ho ?hn ?hr ?_; (case ho => rfl); (case hg => rfl); (case hn => rfl); (case hr => first | (go_simp; done) | (go_simp; rfl)); intro w24 hw; have hg : wr.grownBy w24 (some go20) := (by rw [hw]; exact HP23.2); have hp_ : Kd.R (Kd.int .u8) 5 w24 w.heap.size (fun _ => True) (.slice (some ⟨go20, 0, none⟩) x191002_2.length co20) y191 := (by rw [hw, Ny191.out]; exact HP23.1); clear HP23; have n0_ := Aside0.mk (hp_); have n1_ := Aside0.mk (blk_grown (g := gb183) (o := .cells #[.int .i64 0, .int .i64 0, .slice none 0 0] 31 (0, 0)) (by (with_reducible repeat (first | refine blk_drewN ?_ _ | refine blk_drew ?_ | refine blk_alloc ?_ _)); exact BK183.out) hg (Kd.R_ne HO_191002.out BK183.out (by decide))); have n2_ := Aside0.mk (blk_grown (g := gb190) (o := .cells #[.int .i64 t184, .int .i64 t185, .slice (some ⟨go20, 0, none⟩) x191002_2.length co20] 31 (0, 0)) (by (with_reducible repeat (first | refine blk_drewN ?_ _ | refine blk_drew ?_ | refine blk_alloc ?_ _)); exact BK190.out) hg (Kd.R_ne HO_191002.out BK190.out (by decide))); have n3_ := Aside0.mk ((by rw [hw]; exact below_set (HB.out) GB20.out : Below w.heap.size w w24)); clear HO_191002; clear BK183; clear BK190; clear HB; have HO_191002 := n0_; have BK183 := n1_; have BK190 := n2_; have HB := n3_; clear n0_ n1_ n2_ n3_; clear hg hw hp_)); go_roundg k2; (case measure => have := HJ3.out; have := HK2.out; omega); (case rel => exact ⟨(wrap64 (x35_2 + 1)), (y191), (.slice (some ⟨go20, 0, none⟩) x191002_2.length co20), (by first | rfl | (simp; done) | (simp [*]; done)), H', ⟨by have := HJ3.out; have := HK2.out; omega⟩, ⟨by (with_reducible repeat (first | apply Kd.R_alloc | apply Kd.R_drewN | apply Kd.R_drew)); exact HO_191002.out⟩, ⟨by (with_reducible repeat (first | refine blk_drewN ?_ _ | refine blk_drew ?_ | refine blk_alloc ?_ _)); exact BK183.out⟩, ⟨by (with_reducible repeat (first | refine blk_drewN ?_ _ | refine blk_drew ?_ | refine blk_alloc ?_ _)); exact BK190.out⟩, ⟨by repeat (first | (with_reducible first | exact HB.out | apply below_alloc | apply pw_below_drewN | apply below_drew1 | refine below_set ?_ GE183.out | refine below_set ?_ GE190.out) | exact HB.out)⟩⟩)); (· rw [if_neg c19] at H; exact absurd H (by simp))); (· rw [if_neg c18] at H; exact absurd H (by simp)))
       (· rw [if_neg c17] at H; have c17b0 : decide (x35_2 < (t186.length : Int)) = false := decide_eq_false c17; clear c17; simp only [Option.some.injEq, Prod.mk.injEq] at H; obtain ⟨rfl, rfl, rfl, rfl⟩ := H; have hnb25 := NB190_183.out; have hnc25 := NB183_190.out; have hcz26_0 : wr.cell? ⟨gb190, 0, none⟩ = some (.int .i64 t184) := (blk_cell BK190.out 0).trans rfl; have hcz26_1 : wr.cell? ⟨gb190, 1, none⟩ = some (.int .i64 t185) := (blk_cell BK190.out 1).trans rfl; have hcz26_2 : wr.cell? ⟨gb190, 2, none⟩ = some (u191002) := (blk_cell BK190.out 2).trans rfl; have hfz26_0 := blk_frozen BK190.out 0; have hfz26_1 := blk_frozen BK190.out 1; have hfz26_2 := blk_frozen BK190.out 2; have hcz27_0 : wr.cell? ⟨gb183, 0, none⟩ = some (.int .i64 0) := (blk_cell BK183.out 0).trans rfl; have hcz27_1 : wr.cell? ⟨gb183, 1, none⟩ = some (.int .i64 0) := (blk_cell BK183.out 1).trans rfl; have hcz27_2 : wr.cell? ⟨gb183, 2, none⟩ = some (.slice none 0 0) := (blk_cell BK183.out 2).trans rfl; have hfz27_0 := blk_frozen BK183.out 0; have hfz27_1 := blk_frozen BK183.out 1; have hfz27_2 := blk_frozen BK183.out 2; obtain ⟨Ao28, co28, eo28⟩ := Kd.R_slice HO_191002.out; subst eo28; go_wp2; refine bodyPost_ret (results_ct rfl _ _ gb183 31 #[.int .i64 t184, .int .i64 t185, .slice Ao28 x191002_2.length co28] (0, 0) _ rfl (by (with_reducible repeat (first | refine blk_drewN ?_ _ | refine blk_drew ?_ | refine blk_alloc ?_ _)); refine blk_put (cs := #[.int .i64 t184, .int .i64 t185, .slice none 0 0]) ?_ 2 _ rfl; (with_reducible repeat (first | refine blk_drewN ?_ _ | refine blk_drew ?_ | refine blk_alloc ?_ _)); refine blk_put (cs := #[.int .i64 t184, .int .i64 0, .slice none 0 0]) ?_ 1 _ rfl; (with_reducible repeat (first | refine blk_drewN ?_ _ | refine blk_drew ?_ | refine blk_alloc ?_ _)); refine blk_put (cs := #[.int .i64 0, .int .i64 0, .slice none 0 0]) ?_ 0 _ rfl; (with_reducible repeat (first | refine blk_drewN ?_ _ | refine blk_drew ?_ | refine blk_alloc ?_ _)); exact BK183.out) Try.underlying31 rfl (by kernel_rfl)) rfl ?_; (exact ⟨_, by first | rfl | (simp [errW_none, errW_some] <;> rfl) | (simp [*, errW_none, errW_some] <;> rfl), by (with_reducible repeat (first | apply Kd.R_alloc | apply Kd.R_drewN | apply Kd.R_drew)); exact Kd.R_mono (Kd.R_far (p := ⟨gb183, 2, none⟩) (Kd.R_far (p := ⟨gb183, 1, none⟩) (Kd.R_far (p := ⟨gb183, 0, none⟩) (Kd.R_types HO_191002.out BK183.out (by decide)) (fun _ hk => hk.2) (.int .i64 t184)) (fun _ hk => hk.2) (.int .i64 t185)) (fun _ hk => hk.2) (.slice Ao28 x191002_2.length co28)) (fun _ hk => trivial), by repeat (first | (with_reducible first | exact HB.out | apply below_alloc | apply pw_below_drewN | apply below_drew1 | refine below_set ?_ GE183.out | refine below_set ?_ GE190.out) | exact HB.out)⟩))
end Go.Proofs.Ytkfejicdjpffcaa.U
namespace Go.Proofs.Ytkfejicdjpffcaa.U
open Go.RowKit Go.Proofs.YtkfejicdjpffcaaW.PrintWords Go.Proofs.YtkfejicdjpffcaaW.PrintLast Go.Proofs.YtkfejicdjpffcaaW.PrintMore
attribute [local go_sem] max2_int min2_int max_two min_two max_three min_three max_four min_four   -- for this text's walks alone
def refine_fresh.f (a0 : Int) : Option ((List (S127))) := if a0 = 0 then (some (([(⟨(-1), (-1)⟩ : S127), (⟨0, (-1)⟩ : S127), (⟨1, (-1)⟩ : S127), (⟨(-1), 0⟩ : S127)] : List (S127)))) else (some (([(⟨0, (-1)⟩ : S127), (⟨(-1), 0⟩ : S127)] : List (S127))))
set_option maxHeartbeats 8000000 in
set_option maxRecDepth 100000 in
theorem refine_fresh.calls (a0 : Int) (r : List (S127)) (w : World) (h : refine_fresh.f a0 = some r) :
    Calls Try.prog 85 #[.int .i64 a0] w fun e w' => ∃ v0_ : Value, e = .returned (v0_) ∧ Kd.R k127 127 w' w.heap.size (fun _ => True) v0_ r ∧ Below w.heap.size w w' := by
 have hu127 := Try.underlying127; have HB := Aside0.mk (Below.refl w.heap.size w); have H : (if a0 = 0 then (some (([(⟨(-1), (-1)⟩ : S127), (⟨0, (-1)⟩ : S127), (⟨1, (-1)⟩ : S127), (⟨(-1), 0⟩ : S127)] : List (S127)))) else (some (([(⟨0, (-1)⟩ : S127), (⟨(-1), 0⟩ : S127)] : List (S127))))) = some r := h; clear h; by_cases c2 : a0 = 0
 (· rw [if_pos c2] at H; have c2b0 : (a0 == 0) = true := beq_iff_eq.mpr c2; have c2b1 : (a0 != 0) = false := bne_eq_false_iff_eq.mpr c2; clear c2; obtain ⟨y101, hy101⟩ : ∃ y_ : List (S127), y_ = (([(⟨(-1), (-1)⟩ : S127), (⟨0, (-1)⟩ : S127), (⟨1, (-1)⟩ : S127), (⟨(-1), 0⟩ : S127)] : List (S127))) := ⟨_, rfl⟩; (replace H : (some y101) = some r := by first | (rw [hy101]; with_reducible exact H) | (have H2_ := (Option.bind_some _ _).symm.trans H; rw [hy101]; with_reducible exact H2_) | (have H2_ := (Option.bind_some _ _).symm.trans H; with_reducible exact H2_) | with_reducible exact H | (rw [hy101]; exact H) | exact H); have Ny101 := Aside0.mk hy101; clear hy101; obtain rfl := Option.some.inj H; go_enter Try.func85, Try.ntmps85; go_wp2_with (first | ((with_reducible refine gate_dst (N := 9) rfl ?_); refine Kd.R_lit k127 _ 127 ?hg (N := 9) ?hd (xs := ([(⟨(-1), (-1)⟩ : S127), (⟨0, (-1)⟩ : S127), (⟨1, (-1)⟩ : S127), (⟨(-1), 0⟩ : S127)] : List (S127))) (inner := [.int .i64 (-1), .int .i64 (-1), .int .i64 0, .int .i64 (-1), .int .i64 1, .int .i64 (-1), .int .i64 (-1), .int .i64 0]) (ok := fun _ => True) (okp := fun _ => True) ?hr ?hp (fun _ hk => hk) trivial (Below.refl _ _) (Nat.le_refl _) (by simp) ?_; (case hd => rfl); (case hg => rfl); (case hr => first | (go_simp; done) | (go_simp; rfl)); (case hp => exact (Reps.c2 (show Kd.M k127 _ _ _ (⟨(-1), (-1)⟩ : S127) [.int .i64 (-1), .int .i64 (-1)] from (k127_mkM _ _ _ (⟨(-1), (-1)⟩ : S127) )) (Reps.c2 (show Kd.M k127 _ _ _ (⟨0, (-1)⟩ : S127) [.int .i64 0, .int .i64 (-1)] from (k127_mkM _ _ _ (⟨0, (-1)⟩ : S127) )) (Reps.c2 (show Kd.M k127 _ _ _ (⟨1, (-1)⟩ : S127) [.int .i64 1, .int .i64 (-1)] from (k127_mkM _ _ _ (⟨1, (-1)⟩ : S127) )) (Reps.c2 (show Kd.M k127 _ _ _ (⟨(-1), 0⟩ : S127) [.int .i64 (-1), .int .i64 0] from (k127_mkM _ _ _ (⟨(-1), 0⟩ : S127) )) (Reps.none _ _)))))); intro v102 w3 ho4 hb hg_ hnew_; clear hg_ hnew_; (first | rw [← Ny101.out] at ho4 | (simp only [Int.reduceToNat] at ho4; rw [← Ny101.out] at ho4)); have n0_ := Aside0.mk (Kd.R_lower ho4 (below_size (by repeat (first | (with_reducible first | exact HB.out | apply below_alloc | apply pw_below_drewN | apply below_drew1) | exact HB.out)))); have n1_ := Aside0.mk (below_step (by repeat (first | (with_reducible first | exact HB.out | apply below_alloc | apply pw_below_drewN | apply below_drew1) | exact HB.out)) hb); clear HB; have HO103 := n0_; have HB := n1_; clear n0_ n1_; clear hb ho4)); go_ret; (exact ⟨_, by first | rfl | (simp [errW_none, errW_some] <;> rfl) | (simp [*, errW_none, errW_some] <;> rfl), by (with_reducible repeat (first | apply Kd.R_alloc | apply Kd.R_drewN | apply Kd.R_drew)); exact HO103.out, by repeat (first | (with_reducible first | exact HB.out | apply below_alloc | apply pw_below_drewN | apply below_drew1) | exact HB.out)⟩))
 (· rw [if_neg c2] at H; have c2b0 : (a0 == 0) = false := beq_eq_false_iff_ne.mpr c2; have c2b1 : (a0 != 0) = true := bne_iff_ne.mpr c2; obtain ⟨y104, hy104⟩ : ∃ y_ : List (S127), y_ = (([(⟨0, (-1)⟩ : S127), (⟨(-1), 0⟩ : S127)] : List (S127))) := ⟨_, rfl⟩; (replace H : (some y104) = some r := by first | (rw [hy104]; with_reducible exact H) | (have H2_ := (Option.bind_some _ _).symm.trans H; rw [hy104]; with_reducible exact H2_) | (have H2_ := (Option.bind_some _ _).symm.trans H; with_reducible exact H2_) | with_reducible exact H | (rw [hy104]; exact H) | exact H); have Ny104 := Aside0.mk hy104; clear hy104; obtain rfl := Option.some.inj H; go_enter Try.func85, Try.ntmps85; go_wp2_with (first | ((with_reducible refine gate_dst (N := 12) rfl ?_); refine Kd.R_lit k127 _ 127 ?hg (N := 12) ?hd (xs := ([(⟨0, (-1)⟩ : S127), (⟨(-1), 0⟩ : S127)] : List (S127))) (inner := [.int .i64 0, .int .i64 (-1), .int .i64 (-1), .int .i64 0]) (ok := fun _ => True) (okp := fun _ => True) ?hr ?hp (fun _ hk => hk) trivial (Below.refl _ _) (Nat.le_refl _) (by simp) ?_; (case hd => rfl); (case hg => rfl); (case hr => first | (go_simp; done) | (go_simp; rfl)); (case hp => exact (Reps.c2 (show Kd.M k127 _ _ _ (⟨0, (-1)⟩ : S127) [.int .i64 0, .int .i64 (-1)] from (k127_mkM _ _ _ (⟨0, (-1)⟩ : S127) )) (Reps.c2 (show Kd.M k127 _ _ _ (⟨(-1), 0⟩ : S127) [.int .i64 (-1), .int .i64 0] from (k127_mkM _ _ _ (⟨(-1), 0⟩ : S127) )) (Reps.none _ _)))); intro v105 w5 ho6 hb hg_ hnew_; clear hg_ hnew_; (first | rw [← Ny104.out] at ho6 | (simp only [Int.reduceToNat] at ho6; rw [← Ny104.out] at ho6)); have n0_ := Aside0.mk (Kd.R_lower ho6 (below_size (by repeat (first | (with_reducible first | exact HB.out | apply below_alloc | apply pw_below_drewN | apply below_drew1) | exact HB.out)))); have n1_ := Aside0.mk (below_step (by repeat (first | (with_reducible first | exact HB.out | apply below_alloc | apply pw_below_drewN | apply below_drew1) | exact HB.out)) hb); clear HB; have HO106 := n0_; have HB := n1_; clear n0_ n1_; clear hb ho6)); go_ret; (exact ⟨_, by first | rfl | (simp [errW_none, errW_some] <;> rfl) | (simp [*, errW_none, errW_some] <;> rfl), by (with_reducible repeat (first | apply Kd.R_alloc | apply Kd.R_drewN | apply Kd.R_drew)); exact HO106.out, by repeat (first | (with_reducible first | exact HB.out | apply below_alloc | apply pw_below_drewN | apply below_drew1) | exact HB.out)⟩))
end Go.Proofs.Ytkfejicdjpffcaa.U
namespace Go.Proofs.Ytkfejicdjpffcaa.U
open Go.RowKit Go.Proofs.YtkfejicdjpffcaaW.PrintWords Go.Proofs.YtkfejicdjpffcaaW.PrintLast Go.Proofs.YtkfejicdjpffcaaW.PrintMore
attribute [local go_sem] max2_int min2_int max_two min_two max_three min_three max_four min_four   -- for this text's walks alone
def refine_contexts.f (a0 : Int) : Option (Int) := (refine_fresh.f a0).bind fun t107 => (some (shl .i64 32 (t107.length : Int)))
set_option maxHeartbeats 8000000 in
set_option maxRecDepth 100000 in
theorem refine_contexts.calls (a0 : Int) (r : Int) (w : World) (h : refine_contexts.f a0 = some r) :
    Calls Try.prog 45 #[.int .i64 a0] w fun e w' => e = .returned (.int .i64 r) ∧ Below w.heap.size w w' := by
 have HB := Aside0.mk (Below.refl w.heap.size w); have H : ((refine_fresh.f a0).bind fun t107 => (some (shl .i64 32 (t107.length : Int)))) = some r := h; clear h; replace H := Option.bind_eq_some_iff.mp H; obtain ⟨t107, A20, H⟩ := H; replace H : (some (shl .i64 32 (t107.length : Int))) = some r := H; have A2 := Aside0.mk A20; clear A20; obtain ⟨ji3, hji3⟩ : ∃ j_ : Int, (shl .i64 32 (t107.length : Int)) = j_ := ⟨_, rfl⟩; (replace H : (some ji3) = some r := by first | (rw [hji3] at H; exact H) | (simp only [hji3] at H ⊢; exact H)); (try rw [hji3] at A2); have hji3_ : (IntKind.i64.wrap (32 * 2 ^ min (t107.length : Int).toNat 64)) = ji3 := hji3; have hji3z : (t107.length : Int) ≤ 64 → (IntKind.i64.wrap (32 * 2 ^ (t107.length : Int).toNat)) = ji3 := shl_small hji3; have hji3p : (IntKind.i64.wrap (32 * 2 ^ min t107.length 64)) = ji3 := hji3_; have hji3q : (t107.length : Int) ≤ 64 → (IntKind.i64.wrap (32 * 2 ^ t107.length)) = ji3 := hji3z; have hji3y : (wrap64 (32 * 2 ^ min (t107.length : Int).toNat 64)) = ji3 := (i64_w _).symm.trans hji3_; have hji3x : (t107.length : Int) ≤ 64 → (wrap64 (32 * 2 ^ (t107.length : Int).toNat)) = ji3 := fun h_ => (i64_w _).symm.trans (hji3z h_); obtain rfl := Option.some.inj H; go_enter Try.func45, Try.ntmps45
 go_wp2_with (first | ((with_reducible refine gate_callee (f := 85) rfl ?_); refine goesL_ (some 4) rfl rfl Try.func85 (by kernel_rfl) rfl #[.int .i64 a0] rfl (by (try simp only [List.map_toArray, List.map_cons, List.map_nil]); first | done | rfl | (simp only [List.length_drop, List.length_take]; rfl)) ?_; (with_reducible refine (refine_fresh.calls a0 t107 _ A2.out).mono ?_); rintro e w4 ⟨v108, rfl, ho0, hb⟩; refine ⟨_, rfl, ?_⟩; have n0_ := Aside0.mk (Kd.R_lower ho0 (below_size (by repeat (first | (with_reducible first | exact HB.out | apply below_alloc | apply pw_below_drewN | apply below_drew1) | exact HB.out)))); have n1_ := Aside0.mk (below_step (by repeat (first | (with_reducible first | exact HB.out | apply below_alloc | apply pw_below_drewN | apply below_drew1) | exact HB.out)) hb); clear HB; have HO109 := n0_; have HB := n1_; clear n0_ n1_; (try clear hb); (try clear hb2); (try clear hk); (try clear hi); (try clear ho0); obtain ⟨Ao5, co5, eo5⟩ := Kd.R_slice HO109.out; subst eo5)); go_ret; (exact ⟨by first | rfl | (simp [errW_none, errW_some] <;> rfl) | (simp only [← hji3]; first | rfl | (simp [errW_none, errW_some] <;> rfl)) | (simp [*, errW_none, errW_some] <;> rfl), by repeat (first | (with_reducible first | exact HB.out | apply below_alloc | apply pw_below_drewN | apply below_drew1) | exact HB.out)⟩)
end Go.Proofs.Ytkfejicdjpffcaa.U
namespace Go.Proofs.Ytkfejicdjpffcaa.U
open Go.RowKit Go.Proofs.YtkfejicdjpffcaaW.PrintWords Go.Proofs.YtkfejicdjpffcaaW.PrintLast Go.Proofs.YtkfejicdjpffcaaW.PrintMore
attribute [local go_sem] max2_int min2_int max_two min_two max_three min_three max_four min_four   -- for this text's walks alone
def incunableref08_size.f (a0 : Int) : Option (Int) := if a0 = 0 then (some 513) else (some 129)
set_option maxHeartbeats 8000000 in
set_option maxRecDepth 100000 in
theorem incunableref08_size.calls (a0 : Int) (r : Int) (w : World) (h : incunableref08_size.f a0 = some r) :
    Calls Try.prog 46 #[.int .i64 a0] w fun e w' => e = .returned (.int .i64 r) ∧ Drawn0 w w' := by
 have H : (if a0 = 0 then (some 513) else (some 129)) = some r := h; clear h; by_cases c2 : a0 = 0; (· rw [if_pos c2] at H; have c2b0 : (a0 == 0) = true := beq_iff_eq.mpr c2; have c2b1 : (a0 != 0) = false := bne_eq_false_iff_eq.mpr c2; clear c2; obtain rfl := Option.some.inj H; go_enter Try.func46, Try.ntmps46; go_wp2; go_ret; exact ⟨by first | rfl | (simp; done) | (simp [*]; done), by repeat (first | exact Drawn0.refl _ | apply Drawn0.step)⟩); (· rw [if_neg c2] at H; have c2b0 : (a0 == 0) = false := beq_eq_false_iff_ne.mpr c2; have c2b1 : (a0 != 0) = true := bne_iff_ne.mpr c2; obtain rfl := Option.some.inj H; go_enter Try.func46, Try.ntmps46; go_wp2; go_ret; exact ⟨by first | rfl | (simp; done) | (simp [*]; done), by repeat (first | exact Drawn0.refl _ | apply Drawn0.step)⟩)
end Go.Proofs.Ytkfejicdjpffcaa.U
namespace Go.Proofs.Ytkfejicdjpffcaa.U
open Go.RowKit Go.Proofs.YtkfejicdjpffcaaW.PrintWords Go.Proofs.YtkfejicdjpffcaaW.PrintLast Go.Proofs.YtkfejicdjpffcaaW.PrintMore
attribute [local go_sem] max2_int min2_int max_two min_two max_three min_three max_four min_four   -- for this text's walks alone
def refine_fits.f (a0_0 : Int) (l0_1 : List Int) (a1 : Int) (a2_0 : Int) (a2_1 : Int) (a2_2 : Int) (a2_3 : Bool) (a2_4 : Int) : Option (Bool) := if a1 ≥ 0 then ((refine_contexts.f a2_0).bind fun t131 => (some (decide (a1 ≤ (wrap64 ((wrap64 ((l0_1.length : Int) - t131)) - 1)))))) else (some false)
end Go.Proofs.Ytkfejicdjpffcaa.U
namespace Go.Proofs.Ytkfejicdjpffcaa.U
open Go.RowKit Go.Proofs.YtkfejicdjpffcaaW.PrintWords Go.Proofs.YtkfejicdjpffcaaW.PrintLast Go.Proofs.YtkfejicdjpffcaaW.PrintMore
attribute [local go_sem] max2_int min2_int max_two min_two max_three min_three max_four min_four   -- for this text's walks alone
def refine_model.f (a0_0 : Int) (a0_1 : Int) (a0_2 : Int) (a0_3 : Bool) (a0_4 : Int) : Option (Int × List Int) := (refine_contexts.f a0_0).bind fun t163 => ((coder_New.f a0_4 (wrap64 (t163 + 1))).bind fun bt164 => (some (bt164.1, bt164.2.1)))
def refine_model.T1 : Bool × List (List Nat × List Nat) := (true, [([], []), ([0], [0]), ([], []), ([2], [2]), ([3], [3]), ([4], [4]), ([1, 5, 4], [1, 5]), ([6], [6]), ([7], [7]), ([7], [7]), ([], []), ([10, 8, 6, 0, 1, 2, 3, 4, 5, 6, 7, 8, 10], [8, 10]), ([9, 11, 0, 1, 2, 3, 4, 5, 6, 7, 8, 9, 10, 11], [9])])
def refine_model.B1 : List Nat := [0, 1, 0, 4, 12, 28, 63, 127, 255, 255, 0, 1535, 4095]
theorem refine_model.tab1 : rtab .any (opsOf Try.f47 1) = refine_model.T1 := by kernel_rfl
theorem refine_model.bits1 : waitsOk refine_model.T1.2 refine_model.B1 = true := by kernel_rfl
set_option maxHeartbeats 8000000 in
set_option maxRecDepth 100000 in
theorem refine_model.calls (a0_0 : Int) (a0_1 : Int) (a0_2 : Int) (a0_3 : Bool) (a0_4 : Int) (r1 : Int) (r2 : List Int) (w : World) (h : refine_model.f a0_0 a0_1 a0_2 a0_3 a0_4 = some (r1, r2)) :
    Calls Try.prog 47 #[.agg #[.int .i64 a0_0, .int .i64 a0_1, .int .i64 a0_2, .bool a0_3, .int .i64 a0_4]] w fun e w' => ∃ v1_ : Value, e = .returned (.agg #[.int .i64 r1, v1_]) ∧ Kd.R (Kd.int .i64) 3 w' w.heap.size (fun _ => True) v1_ r2 ∧ Below w.heap.size w w' := by
 have hu23 := Try.underlying23; have hu45 := Try.underlying45; have HB := Aside0.mk (Below.refl w.heap.size w); have H : ((refine_contexts.f a0_0).bind fun t163 => ((coder_New.f a0_4 (wrap64 (t163 + 1))).bind fun bt164 => (some (bt164.1, bt164.2.1)))) = some (r1, r2) := h; clear h; replace H := Option.bind_eq_some_iff.mp H; obtain ⟨t163, A20, H⟩ := H; replace H : ((coder_New.f a0_4 (wrap64 (t163 + 1))).bind fun bt164 => (some (bt164.1, bt164.2.1))) = some (r1, r2) := H; have A2 := Aside0.mk A20; clear A20; replace H := Option.bind_eq_some_iff.mp H; obtain ⟨⟨t164, t165, t168⟩, A30, H⟩ := H; replace H : (some (t164, t165)) = some (r1, r2) := H; have A3 := Aside0.mk A30; clear A30; simp only [Option.some.injEq, Prod.mk.injEq] at H; obtain ⟨rfl, rfl⟩ := H; go_enter Try.func47, Try.ntmps47
 (try go_wp2_with (first | ((with_reducible refine gate_dst (N := 1) rfl ?_); refine box_event ?hg (N := 1) ?hd (cs := #[.int .i64 a0_0, .int .i64 a0_1, .int .i64 a0_2, .bool a0_3, .int .i64 a0_4]) (t := 23) ?hr ?_; (case hd => rfl); (case hg => rfl); (case hr => first | (go_simp; done) | (go_simp; rfl)); intro gb161 hg w4 hbox hb; have n0_ := Aside0.mk (below_step (by repeat (first | (with_reducible first | exact HB.out | apply below_alloc | apply pw_below_drewN | apply below_drew1) | exact HB.out)) hb); have n1_ := Aside0.mk (hbox); have n2_ := Aside0.mk ((by rw [hg]; exact (below_size (by repeat (first | (with_reducible first | exact HB.out | apply below_alloc | apply pw_below_drewN | apply below_drew1) | exact HB.out))) : w.heap.size ≤ gb161)); have n3_ := Aside0.mk ((by rw [hg]; exact (below_size (by repeat (first | (with_reducible first | exact HB.out | apply below_alloc | apply pw_below_drewN | apply below_drew1) | exact HB.out))) : w.heap.size ≤ gb161)); clear HB; have HB := n0_; have BK161 := n1_; have GW161 := n2_; have GE161 := n3_; clear n0_ n1_ n2_ n3_; clear hb hbox hg) | ((with_reducible refine gate_dst (N := 2) rfl ?_); refine box_event ?hg (N := 2) ?hd (cs := #[.int .i64 0, .slice none 0 0]) (t := 45) ?hr ?_; (case hd => rfl); (case hg => rfl); (case hr => first | (go_simp; done) | (go_simp; rfl)); intro gb162 hg w5 hbox hb; have n0_ := Aside0.mk (blk_below (g := gb161) (o := .cells #[.int .i64 a0_0, .int .i64 a0_1, .int .i64 a0_2, .bool a0_3, .int .i64 a0_4] 23 (0, 0)) (by (with_reducible repeat (first | refine blk_drewN ?_ _ | refine blk_drew ?_ | refine blk_alloc ?_ _)); exact BK161.out) hb); have n1_ := Aside0.mk (below_step (by repeat (first | (with_reducible first | exact HB.out | apply below_alloc | apply pw_below_drewN | apply below_drew1 | refine below_set ?_ GE161.out) | exact HB.out)) hb); have n2_ := Aside0.mk (hbox); have n3_ := Aside0.mk ((by rw [hg]; exact (below_size (by repeat (first | (with_reducible first | exact HB.out | apply below_alloc | apply pw_below_drewN | apply below_drew1 | refine below_set ?_ GE161.out) | exact HB.out))) : w.heap.size ≤ gb162)); have n4_ := Aside0.mk ((by rw [hg]; exact (below_size (by repeat (first | (with_reducible first | exact HB.out | apply below_alloc | apply pw_below_drewN | apply below_drew1 | refine below_set ?_ GE161.out) | exact HB.out))) : w.heap.size ≤ gb162)); have n5_ := Aside0.mk ((by rw [hg]; exact Nat.ne_of_lt (blk_lt (g := gb161) (o := .cells #[.int .i64 a0_0, .int .i64 a0_1, .int .i64 a0_2, .bool a0_3, .int .i64 a0_4] 23 (0, 0)) (by (with_reducible repeat (first | refine blk_drewN ?_ _ | refine blk_drew ?_ | refine blk_alloc ?_ _)); exact BK161.out)) : gb161 ≠ gb162)); have n6_ := Aside0.mk ((by rw [hg]; exact Nat.ne_of_gt (blk_lt (g := gb161) (o := .cells #[.int .i64 a0_0, .int .i64 a0_1, .int .i64 a0_2, .bool a0_3, .int .i64 a0_4] 23 (0, 0)) (by (with_reducible repeat (first | refine blk_drewN ?_ _ | refine blk_drew ?_ | refine blk_alloc ?_ _)); exact BK161.out)) : gb162 ≠ gb161)); clear BK161; clear HB; have BK161 := n0_; have HB := n1_; have BK162 := n2_; have GW162 := n3_; have GE162 := n4_; have NB161_162 := n5_; have NB162_161 := n6_; clear n0_ n1_ n2_ n3_ n4_ n5_ n6_; clear hb hbox hg)))
 have n0_ := Aside0.mk (blk_drew BK161.out); have n1_ := Aside0.mk (blk_drew BK162.out); have n2_ := Aside0.mk (below_drew1 HB.out); clear BK161; clear BK162; clear HB; have BK161 := n0_; have BK162 := n1_; have HB := n2_; clear n0_ n1_ n2_; refine start_ (n := 13) (S := fun w' => w'.cell? ⟨gb161, 0, none⟩ = some (.int .i64 a0_0) ∧ w'.cell? ⟨gb161, 1, none⟩ = some (.int .i64 a0_1) ∧ w'.cell? ⟨gb161, 2, none⟩ = some (.int .i64 a0_2) ∧ w'.cell? ⟨gb161, 3, none⟩ = some (.bool a0_3) ∧ w'.cell? ⟨gb161, 4, none⟩ = some (.int .i64 a0_4)) (ds := []) #[false, false, false, false, false, false, false, false, false, false, false, false, false] (by kernel_rfl) rfl rfl ⟨(blk_cell BK161.out 0).trans rfl, (blk_cell BK161.out 1).trans rfl, (blk_cell BK161.out 2).trans rfl, (blk_cell BK161.out 3).trans rfl, (blk_cell BK161.out 4).trans rfl⟩ (fun hHeld => ?_); refine with_tabW refine_model.tab1 refine_model.bits1 (fun HT_ HW_ => ?_); generalize w5.drew = w6 at BK161 BK162 HB hHeld ⊢; refine pure_ (i := 0) (N := some 6) (v := ?_) (a' := ?_) #[true, false, false, false, false, false, false, false, false, false, false, false, false] rfl rfl (any_of HT_.out (by kernel_rfl)) (fun _ _ _ h => h) (Or.inl ⟨by rfl, ?_⟩) ?_ ?_; rotate_left; (· intro w'; go_simp; (with_reducible rfl)); rotate_left; (· simp only [Act.put, List.setIfInBounds_toArray, List.set_cons_zero, List.set_cons_succ, i64_w, i32_w]; rfl)
 refine pure_ (i := 2) (N := some 8) (v := ?_) (a' := ?_) #[true, false, true, false, false, false, false, false, false, false, false, false, false] rfl rfl (any_of HT_.out (by kernel_rfl)) (fun _ _ _ h => h) (Or.inl ⟨by rfl, ?_⟩) ?_ ?_; rotate_left; (· intro w'; go_simp; (with_reducible rfl)); rotate_left; (· simp only [Act.put, List.setIfInBounds_toArray, List.set_cons_zero, List.set_cons_succ, i64_w, i32_w]; rfl); refine take_ (i := 1) (N := some 7) (v := ?_) (a' := ?_) #[true, true, true, false, false, false, false, false, false, false, false, false, false] rfl rfl (take_ofW HT_.out HW_.out (by kernel_rfl)) (fun _ _ _ h => h) (Or.inl ⟨by rfl, ?_⟩) hHeld ?_ ?_; rotate_left; (· rintro w' ⟨s0, s1, s2, s3, s4⟩; go_simp; (with_reducible rfl)); rotate_left; (· simp only [Act.put, List.setIfInBounds_toArray, List.set_cons_zero, List.set_cons_succ, i64_w, i32_w]; rfl); refine take_ (i := 3) (N := some 9) (v := ?_) (a' := ?_) #[true, true, true, true, false, false, false, false, false, false, false, false, false] rfl rfl (take_ofW HT_.out HW_.out (by kernel_rfl)) (fun _ _ _ h => h) (Or.inl ⟨by rfl, ?_⟩) hHeld ?_ ?_; rotate_left; (· rintro w' ⟨s0, s1, s2, s3, s4⟩; go_simp; (with_reducible rfl)); rotate_left; (· simp only [Act.put, List.setIfInBounds_toArray, List.set_cons_zero, List.set_cons_succ, i64_w, i32_w]; rfl)
 refine join_ (σ := Value × Nat) 2 #[true, true, true, true, true, true, true, true, true, true, true, false, false] (fun s_ => [(10, .int .i64 t163), (12, .tuple #[.agg #[.int .i64 t164, s_.1], .int .i64 t168]), (3, .pointer (some ⟨s_.2, 0, none⟩)), (11, .int .i64 (wrap64 (t163 + 1))), (5, .tuple #[.agg #[.int .i64 t164, s_.1], .int .i64 t168]), (13, .agg #[.int .i64 t164, s_.1]), (14, .int .i64 t168)]) (fun s_ w' => (w'.cell? ⟨gb161, 0, none⟩ = some (.int .i64 a0_0) ∧ w'.cell? ⟨gb161, 1, none⟩ = some (.int .i64 a0_1) ∧ w'.cell? ⟨gb161, 2, none⟩ = some (.int .i64 a0_2) ∧ w'.cell? ⟨gb161, 3, none⟩ = some (.bool a0_3) ∧ w'.cell? ⟨gb161, 4, none⟩ = some (.int .i64 a0_4)) ∧ (Kd.R (Kd.int .i64) 3 w' w.heap.size (fun _ => True) s_.1 t165) ∧ (w'.heap[gb161]? = some (.cells #[.int .i64 a0_0, .int .i64 a0_1, .int .i64 a0_2, .bool a0_3, .int .i64 a0_4] 23 (0, 0))) ∧ (w'.heap[gb162]? = some (.cells #[.int .i64 0, .slice none 0 0] 45 (0, 0))) ∧ (w'.heap[s_.2]? = some (.cells #[.int .i64 0, .slice none 0 0] 45 (0, 0))) ∧ (w.heap.size ≤ s_.2) ∧ (w.heap.size ≤ s_.2) ∧ (gb161 ≠ s_.2) ∧ (s_.2 ≠ gb161) ∧ (gb162 ≠ s_.2) ∧ (s_.2 ≠ gb162) ∧ (Below w.heap.size w w')) ?_ ?_; rotate_left
 (· intro hCont; refine two_ (i := 4) (j := 10) (Ni := some 10) (Nj := some 3) #[true, true, true, true, true, false, false, false, false, false, false, false, false] #[true, true, true, true, false, false, false, false, false, false, true, false, false] rfl rfl rfl rfl (two_of HT_.out (by kernel_rfl)) (by decide) (by decide) (fun K hK => ?_) (fun K hK => ?_); (· skip; refine goes_ Try.func45 (by kernel_rfl) rfl #[.int .i64 a0_0] (by rfl) rfl rfl (by (try simp only [List.map_toArray, List.map_cons, List.map_nil]); first | done | rfl | (simp only [List.length_drop, List.length_take]; rfl)) ?_; (with_reducible refine (refine_contexts.calls a0_0 t163 _ A2.out).mono ?_); rintro e w7 ⟨rfl, hb⟩; refine ⟨_, rfl, ?_⟩; have n0_ := Aside0.mk (blk_below (g := gb161) (o := .cells #[.int .i64 a0_0, .int .i64 a0_1, .int .i64 a0_2, .bool a0_3, .int .i64 a0_4] 23 (0, 0)) (by (with_reducible repeat (first | refine blk_drewN ?_ _ | refine blk_drew ?_ | refine blk_alloc ?_ _)); exact BK161.out) hb); have n1_ := Aside0.mk (blk_below (g := gb162) (o := .cells #[.int .i64 0, .slice none 0 0] 45 (0, 0)) (by (with_reducible repeat (first | refine blk_drewN ?_ _ | refine blk_drew ?_ | refine blk_alloc ?_ _)); exact BK162.out) hb); have n2_ := Aside0.mk (below_step (by repeat (first | (with_reducible first | exact HB.out | apply below_alloc | apply pw_below_drewN | apply below_drew1 | refine below_set ?_ GE161.out | refine below_set ?_ GE162.out) | exact HB.out)) hb); clear BK161; clear BK162; clear HB; have BK161 := n0_; have BK162 := n1_; have HB := n2_; clear n0_ n1_ n2_; (try clear hb); (try clear hb2); (try clear hk); (try clear hi); refine hK.out _ _ ⟨(blk_cell BK161.out 0).trans rfl, (blk_cell BK161.out 1).trans rfl, (blk_cell BK161.out 2).trans rfl, (blk_cell BK161.out 3).trans rfl, (blk_cell BK161.out 4).trans rfl⟩ (fun hHeld => ?_); clear hK K; refine norm_ (a' := ?_) ?_ ?_; rotate_left; (· show Act.put _ (some 10) _ = _; simp only [Act.put, List.setIfInBounds_toArray, List.set_cons_zero, List.set_cons_succ, i64_w, i32_w]; rfl); refine pure_ (i := 5) (N := some 11) (v := ?_) (a' := ?_) #[true, true, true, true, true, true, false, false, false, false, false, false, false] rfl rfl (any_of HT_.out (by kernel_rfl)) (fun _ _ _ h => h) (Or.inl ⟨by rfl, ?_⟩) ?_ ?_; rotate_left; (· intro w'; go_simp; (with_reducible rfl)); rotate_left; (· simp only [Act.put, List.setIfInBounds_toArray, List.set_cons_zero, List.set_cons_succ, i64_w, i32_w]; rfl); refine two_ (i := 6) (j := 10) (Ni := some 12) (Nj := some 3) #[true, true, true, true, true, true, true, false, false, false, false, false, false] #[true, true, true, true, true, true, false, false, false, false, true, false, false] rfl rfl rfl rfl (two_of HT_.out (by kernel_rfl)) (by decide) (by decide) (fun K hK => ?_) (fun K hK => ?_); (· skip; refine goes_ Try.func86 (by kernel_rfl) rfl #[.int .i64 a0_4, .int .i64 (wrap64 (t163 + 1))] (by rfl) rfl rfl (by (try simp only [List.map_toArray, List.map_cons, List.map_nil]); first | done | rfl | (simp only [List.length_drop, List.length_take]; rfl)) ?_; (with_reducible refine (coder_New.calls a0_4 (wrap64 (t163 + 1)) t164 t165 t168 _ A3.out).mono ?_); rintro e w8 ⟨v166, rfl, ho0, hb⟩; refine ⟨_, rfl, ?_⟩; have n0_ := Aside0.mk (Kd.R_lower ho0 (below_size (by repeat (first | (with_reducible first | exact HB.out | apply below_alloc | apply pw_below_drewN | apply below_drew1 | refine below_set ?_ GE161.out | refine below_set ?_ GE162.out) | exact HB.out)))); have n1_ := Aside0.mk (blk_below (g := gb161) (o := .cells #[.int .i64 a0_0, .int .i64 a0_1, .int .i64 a0_2, .bool a0_3, .int .i64 a0_4] 23 (0, 0)) (by (with_reducible repeat (first | refine blk_drewN ?_ _ | refine blk_drew ?_ | refine blk_alloc ?_ _)); exact BK161.out) hb); have n2_ := Aside0.mk (blk_below (g := gb162) (o := .cells #[.int .i64 0, .slice none 0 0] 45 (0, 0)) (by (with_reducible repeat (first | refine blk_drewN ?_ _ | refine blk_drew ?_ | refine blk_alloc ?_ _)); exact BK162.out) hb); have n3_ := Aside0.mk (below_step (by repeat (first | (with_reducible first | exact HB.out | apply below_alloc | apply pw_below_drewN | apply below_drew1 | refine below_set ?_ GE161.out | refine below_set ?_ GE162.out) | exact HB.out)) hb); clear BK161; clear BK162; clear HB; have HO167 := n0_; have BK161 := n1_; have BK162 := n2_; have HB := n3_; clear n0_ n1_ n2_ n3_; (try clear hb); (try clear hb2); (try clear hk); (try clear hi); (try clear ho0); refine hK.out _ _ ⟨(blk_cell BK161.out 0).trans rfl, (blk_cell BK161.out 1).trans rfl, (blk_cell BK161.out 2).trans rfl, (blk_cell BK161.out 3).trans rfl, (blk_cell BK161.out 4).trans rfl⟩ (fun hHeld => ?_); clear hK K; refine norm_ (a' := ?_) ?_ ?_; rotate_left; (· show Act.put _ (some 12) _ = _; simp only [Act.put, List.setIfInBounds_toArray, List.set_cons_zero, List.set_cons_succ, i64_w, i32_w]; rfl); refine pure_ (i := 7) (N := some 5) (v := ?_) (a' := ?_) #[true, true, true, true, true, true, true, true, false, false, false, false, false] rfl rfl (any_of HT_.out (by kernel_rfl)) (fun _ _ _ h => h) (Or.inl ⟨by rfl, ?_⟩) ?_ ?_; rotate_left; (· intro w'; go_simp; (with_reducible rfl)); rotate_left; (· simp only [Act.put, List.setIfInBounds_toArray, List.set_cons_zero, List.set_cons_succ, i64_w, i32_w]; rfl); refine pure_ (i := 8) (N := some 13) (v := ?_) (a' := ?_) #[true, true, true, true, true, true, true, true, true, false, false, false, false] rfl rfl (any_of HT_.out (by kernel_rfl)) (fun _ _ _ h => h) (Or.inl ⟨by rfl, ?_⟩) ?_ ?_; rotate_left; (· intro w'; go_simp; (with_reducible rfl)); rotate_left; (· simp only [Act.put, List.setIfInBounds_toArray, List.set_cons_zero, List.set_cons_succ, i64_w, i32_w]; rfl); refine pure_ (i := 9) (N := some 14) (v := ?_) (a' := ?_) #[true, true, true, true, true, true, true, true, true, true, false, false, false] rfl rfl (any_of HT_.out (by kernel_rfl)) (fun _ _ _ h => h) (Or.inl ⟨by rfl, ?_⟩) ?_ ?_; rotate_left; (· intro w'; go_simp; (with_reducible rfl)); rotate_left; (· simp only [Act.put, List.setIfInBounds_toArray, List.set_cons_zero, List.set_cons_succ, i64_w, i32_w]; rfl); refine one_ (i := 10) (N := some 3) #[true, true, true, true, true, true, true, true, true, true, true, false, false] rfl rfl (one_of HT_.out (by kernel_rfl)) (by decide) (fun K hK => ?_); refine box_step ?hg (N := 3) ?hd (cs := #[.int .i64 0, .slice none 0 0]) (t := 45) ?hr ?_; (case hd => rfl); (case hg => rfl); (case hr => first | (go_simp; done) | (go_simp; rfl)); intro gb169 hg w9 hbox hb; have n0_ := Aside0.mk (Kd.R_below (by (with_reducible repeat (first | apply Kd.R_alloc | apply Kd.R_drewN | apply Kd.R_drew)); exact HO167.out) hb); have n1_ := Aside0.mk (blk_below (g := gb161) (o := .cells #[.int .i64 a0_0, .int .i64 a0_1, .int .i64 a0_2, .bool a0_3, .int .i64 a0_4] 23 (0, 0)) (by (with_reducible repeat (first | refine blk_drewN ?_ _ | refine blk_drew ?_ | refine blk_alloc ?_ _)); exact BK161.out) hb); have n2_ := Aside0.mk (blk_below (g := gb162) (o := .cells #[.int .i64 0, .slice none 0 0] 45 (0, 0)) (by (with_reducible repeat (first | refine blk_drewN ?_ _ | refine blk_drew ?_ | refine blk_alloc ?_ _)); exact BK162.out) hb); have n3_ := Aside0.mk (below_step (by repeat (first | (with_reducible first | exact HB.out | apply below_alloc | apply pw_below_drewN | apply below_drew1 | refine below_set ?_ GE161.out | refine below_set ?_ GE162.out) | exact HB.out)) hb); have n4_ := Aside0.mk (hbox); have n5_ := Aside0.mk ((by rw [hg]; exact (below_size (by repeat (first | (with_reducible first | exact HB.out | apply below_alloc | apply pw_below_drewN | apply below_drew1 | refine below_set ?_ GE161.out | refine below_set ?_ GE162.out) | exact HB.out))) : w.heap.size ≤ gb169)); have n6_ := Aside0.mk ((by rw [hg]; exact (below_size (by repeat (first | (with_reducible first | exact HB.out | apply below_alloc | apply pw_below_drewN | apply below_drew1 | refine below_set ?_ GE161.out | refine below_set ?_ GE162.out) | exact HB.out))) : w.heap.size ≤ gb169)); have n7_ := Aside0.mk ((by rw [hg]; exact Nat.ne_of_lt (blk_lt (g := gb161) (o := .cells #[.int .i64 a0_0, .int .i64 a0_1, .int .i64 a0_2, .bool a0_3, .int .i64 a0_4] 23 (0, 0)) (by (with_reducible repeat (first | refine blk_drewN ?_ _ | refine blk_drew ?_ | refine blk_alloc ?_ _)); exact BK161.out)) : gb161 ≠ gb169)); have n8_ := Aside0.mk ((by rw [hg]; exact Nat.ne_of_gt (blk_lt (g := gb161) (o := .cells #[.int .i64 a0_0, .int .i64 a0_1, .int .i64 a0_2, .bool a0_3, .int .i64 a0_4] 23 (0, 0)) (by (with_reducible repeat (first | refine blk_drewN ?_ _ | refine blk_drew ?_ | refine blk_alloc ?_ _)); exact BK161.out)) : gb169 ≠ gb161)); have n9_ := Aside0.mk ((by rw [hg]; exact Nat.ne_of_lt (blk_lt (g := gb162) (o := .cells #[.int .i64 0, .slice none 0 0] 45 (0, 0)) (by (with_reducible repeat (first | refine blk_drewN ?_ _ | refine blk_drew ?_ | refine blk_alloc ?_ _)); exact BK162.out)) : gb162 ≠ gb169)); have n10_ := Aside0.mk ((by rw [hg]; exact Nat.ne_of_gt (blk_lt (g := gb162) (o := .cells #[.int .i64 0, .slice none 0 0] 45 (0, 0)) (by (with_reducible repeat (first | refine blk_drewN ?_ _ | refine blk_drew ?_ | refine blk_alloc ?_ _)); exact BK162.out)) : gb169 ≠ gb162)); clear HO167; clear BK161; clear BK162; clear HB; have HO167 := n0_; have BK161 := n1_; have BK162 := n2_; have HB := n3_; have BK169 := n4_; have GW169 := n5_; have GE169 := n6_; have NB161_169 := n7_; have NB169_161 := n8_; have NB162_169 := n9_; have NB169_162 := n10_; clear n0_ n1_ n2_ n3_ n4_ n5_ n6_ n7_ n8_ n9_ n10_; clear hb hbox hg; refine hK.out _ _ ⟨(blk_cell BK161.out 0).trans rfl, (blk_cell BK161.out 1).trans rfl, (blk_cell BK161.out 2).trans rfl, (blk_cell BK161.out 3).trans rfl, (blk_cell BK161.out 4).trans rfl⟩ (fun hHeld => ?_); clear hK K; refine norm_ (a' := ?_) ?_ ?_; rotate_left; (· show Act.put _ (some 3) _ = _; simp only [Act.put, List.setIfInBounds_toArray, List.set_cons_zero, List.set_cons_succ, i64_w, i32_w]; rfl); exact norm_ (by simp only [putAll, Act.put, List.setIfInBounds_toArray, List.set_cons_zero, List.set_cons_succ]) (hCont (v166, gb169) _ ⟨hHeld, (by (with_reducible repeat (first | apply Kd.R_alloc | apply Kd.R_drewN | apply Kd.R_drew)); exact HO167.out), (by (with_reducible repeat (first | refine blk_drewN ?_ _ | refine blk_drew ?_ | refine blk_alloc ?_ _)); exact BK161.out), (by (with_reducible repeat (first | refine blk_drewN ?_ _ | refine blk_drew ?_ | refine blk_alloc ?_ _)); exact BK162.out), (by (with_reducible repeat (first | refine blk_drewN ?_ _ | refine blk_drew ?_ | refine blk_alloc ?_ _)); exact BK169.out), GW169.out, GE169.out, NB161_169.out, NB169_161.out, NB162_169.out, NB169_162.out, (by repeat (first | (with_reducible first | exact HB.out | apply below_alloc | apply pw_below_drewN | apply below_drew1 | refine below_set ?_ GE161.out | refine below_set ?_ GE162.out | refine below_set ?_ GE169.out) | exact HB.out))⟩)); (· skip; refine box_step ?hg (N := 3) ?hd (cs := #[.int .i64 0, .slice none 0 0]) (t := 45) ?hr ?_; (case hd => rfl); (case hg => rfl); (case hr => first | (go_simp; done) | (go_simp; rfl)); intro gb169 hg w8 hbox hb; have n0_ := Aside0.mk (blk_below (g := gb161) (o := .cells #[.int .i64 a0_0, .int .i64 a0_1, .int .i64 a0_2, .bool a0_3, .int .i64 a0_4] 23 (0, 0)) (by (with_reducible repeat (first | refine blk_drewN ?_ _ | refine blk_drew ?_ | refine blk_alloc ?_ _)); exact BK161.out) hb); have n1_ := Aside0.mk (blk_below (g := gb162) (o := .cells #[.int .i64 0, .slice none 0 0] 45 (0, 0)) (by (with_reducible repeat (first | refine blk_drewN ?_ _ | refine blk_drew ?_ | refine blk_alloc ?_ _)); exact BK162.out) hb); have n2_ := Aside0.mk (below_step (by repeat (first | (with_reducible first | exact HB.out | apply below_alloc | apply pw_below_drewN | apply below_drew1 | refine below_set ?_ GE161.out | refine below_set ?_ GE162.out) | exact HB.out)) hb); have n3_ := Aside0.mk (hbox); have n4_ := Aside0.mk ((by rw [hg]; exact (below_size (by repeat (first | (with_reducible first | exact HB.out | apply below_alloc | apply pw_below_drewN | apply below_drew1 | refine below_set ?_ GE161.out | refine below_set ?_ GE162.out) | exact HB.out))) : w.heap.size ≤ gb169)); have n5_ := Aside0.mk ((by rw [hg]; exact (below_size (by repeat (first | (with_reducible first | exact HB.out | apply below_alloc | apply pw_below_drewN | apply below_drew1 | refine below_set ?_ GE161.out | refine below_set ?_ GE162.out) | exact HB.out))) : w.heap.size ≤ gb169)); have n6_ := Aside0.mk ((by rw [hg]; exact Nat.ne_of_lt (blk_lt (g := gb161) (o := .cells #[.int .i64 a0_0, .int .i64 a0_1, .int .i64 a0_2, .bool a0_3, .int .i64 a0_4] 23 (0, 0)) (by (with_reducible repeat (first | refine blk_drewN ?_ _ | refine blk_drew ?_ | refine blk_alloc ?_ _)); exact BK161.out)) : gb161 ≠ gb169)); have n7_ := Aside0.mk ((by rw [hg]; exact Nat.ne_of_gt (blk_lt (g := gb161) (o := .cells #[.int .i64 a0_0, .int .i64 a0_1, .int .i64 a0_2, .bool a0_3, .int .i64 a0_4] 23 (0, 0)) (by (with_reducible repeat (first | refine blk_drewN ?_ _ | refine blk_drew ?_ | refine blk_alloc ?_ _)); exact BK161.out)) : gb169 ≠ gb161)); have n8_ := Aside0.mk ((by rw [hg]; exact Nat.ne_of_lt (blk_lt (g := gb162) (o := .cells #[.int .i64 0, .slice none 0 0] 45 (0, 0)) (by (with_reducible repeat (first | refine blk_drewN ?_ _ | refine blk_drew ?_ | refine blk_alloc ?_ _)); exact BK162.out)) : gb162 ≠ gb169)); have n9_ := Aside0.mk ((by rw [hg]; exact Nat.ne_of_gt (blk_lt (g := gb162) (o := .cells #[.int .i64 0, .slice none 0 0] 45 (0, 0)) (by (with_reducible repeat (first | refine blk_drewN ?_ _ | refine blk_drew ?_ | refine blk_alloc ?_ _)); exact BK162.out)) : gb169 ≠ gb162)); clear BK161; clear BK162; clear HB; have BK161 := n0_; have BK162 := n1_; have HB := n2_; have BK169 := n3_; have GW169 := n4_; have GE169 := n5_; have NB161_169 := n6_; have NB169_161 := n7_; have NB162_169 := n8_; have NB169_162 := n9_; clear n0_ n1_ n2_ n3_ n4_ n5_ n6_ n7_ n8_ n9_; clear hb hbox hg; refine hK.out _ _ ⟨(blk_cell BK161.out 0).trans rfl, (blk_cell BK161.out 1).trans rfl, (blk_cell BK161.out 2).trans rfl, (blk_cell BK161.out 3).trans rfl, (blk_cell BK161.out 4).trans rfl⟩ (fun hHeld => ?_); clear hK K; refine norm_ (a' := ?_) ?_ ?_; rotate_left; (· show Act.put _ (some 3) _ = _; simp only [Act.put, List.setIfInBounds_toArray, List.set_cons_zero, List.set_cons_succ, i64_w, i32_w]; rfl); refine one_ (i := 6) (N := some 12) #[true, true, true, true, true, true, true, false, false, false, true, false, false] rfl rfl (one_of HT_.out (by kernel_rfl)) (by decide) (fun K hK => ?_); refine goes_ Try.func86 (by kernel_rfl) rfl #[.int .i64 a0_4, .int .i64 (wrap64 (t163 + 1))] (by rfl) rfl rfl (by (try simp only [List.map_toArray, List.map_cons, List.map_nil]); first | done | rfl | (simp only [List.length_drop, List.length_take]; rfl)) ?_; (with_reducible refine (coder_New.calls a0_4 (wrap64 (t163 + 1)) t164 t165 t168 _ A3.out).mono ?_); rintro e w9 ⟨v166, rfl, ho0, hb⟩; refine ⟨_, rfl, ?_⟩; have n0_ := Aside0.mk (Kd.R_lower ho0 (below_size (by repeat (first | (with_reducible first | exact HB.out | apply below_alloc | apply pw_below_drewN | apply below_drew1 | refine below_set ?_ GE161.out | refine below_set ?_ GE162.out | refine below_set ?_ GE169.out) | exact HB.out)))); have n1_ := Aside0.mk (blk_below (g := gb161) (o := .cells #[.int .i64 a0_0, .int .i64 a0_1, .int .i64 a0_2, .bool a0_3, .int .i64 a0_4] 23 (0, 0)) (by (with_reducible repeat (first | refine blk_drewN ?_ _ | refine blk_drew ?_ | refine blk_alloc ?_ _)); exact BK161.out) hb); have n2_ := Aside0.mk (blk_below (g := gb162) (o := .cells #[.int .i64 0, .slice none 0 0] 45 (0, 0)) (by (with_reducible repeat (first | refine blk_drewN ?_ _ | refine blk_drew ?_ | refine blk_alloc ?_ _)); exact BK162.out) hb); have n3_ := Aside0.mk (blk_below (g := gb169) (o := .cells #[.int .i64 0, .slice none 0 0] 45 (0, 0)) (by (with_reducible repeat (first | refine blk_drewN ?_ _ | refine blk_drew ?_ | refine blk_alloc ?_ _)); exact BK169.out) hb); have n4_ := Aside0.mk (below_step (by repeat (first | (with_reducible first | exact HB.out | apply below_alloc | apply pw_below_drewN | apply below_drew1 | refine below_set ?_ GE161.out | refine below_set ?_ GE162.out | refine below_set ?_ GE169.out) | exact HB.out)) hb); clear BK161; clear BK162; clear BK169; clear HB; have HO167 := n0_; have BK161 := n1_; have BK162 := n2_; have BK169 := n3_; have HB := n4_; clear n0_ n1_ n2_ n3_ n4_; (try clear hb); (try clear hb2); (try clear hk); (try clear hi); (try clear ho0); refine hK.out _ _ ⟨(blk_cell BK161.out 0).trans rfl, (blk_cell BK161.out 1).trans rfl, (blk_cell BK161.out 2).trans rfl, (blk_cell BK161.out 3).trans rfl, (blk_cell BK161.out 4).trans rfl⟩ (fun hHeld => ?_); clear hK K; refine norm_ (a' := ?_) ?_ ?_; rotate_left; (· show Act.put _ (some 12) _ = _; simp only [Act.put, List.setIfInBounds_toArray, List.set_cons_zero, List.set_cons_succ, i64_w, i32_w]; rfl); refine pure_ (i := 7) (N := some 5) (v := ?_) (a' := ?_) #[true, true, true, true, true, true, true, true, false, false, true, false, false] rfl rfl (any_of HT_.out (by kernel_rfl)) (fun _ _ _ h => h) (Or.inl ⟨by rfl, ?_⟩) ?_ ?_; rotate_left; (· intro w'; go_simp; (with_reducible rfl)); rotate_left; (· simp only [Act.put, List.setIfInBounds_toArray, List.set_cons_zero, List.set_cons_succ, i64_w, i32_w]; rfl); refine pure_ (i := 8) (N := some 13) (v := ?_) (a' := ?_) #[true, true, true, true, true, true, true, true, true, false, true, false, false] rfl rfl (any_of HT_.out (by kernel_rfl)) (fun _ _ _ h => h) (Or.inl ⟨by rfl, ?_⟩) ?_ ?_; rotate_left; (· intro w'; go_simp; (with_reducible rfl)); rotate_left; (· simp only [Act.put, List.setIfInBounds_toArray, List.set_cons_zero, List.set_cons_succ, i64_w, i32_w]; rfl); refine pure_ (i := 9) (N := some 14) (v := ?_) (a' := ?_) #[true, true, true, true, true, true, true, true, true, true, true, false, false] rfl rfl (any_of HT_.out (by kernel_rfl)) (fun _ _ _ h => h) (Or.inl ⟨by rfl, ?_⟩) ?_ ?_; rotate_left; (· intro w'; go_simp; (with_reducible rfl)); rotate_left; (· simp only [Act.put, List.setIfInBounds_toArray, List.set_cons_zero, List.set_cons_succ, i64_w, i32_w]; rfl); exact norm_ (by simp only [putAll, Act.put, List.setIfInBounds_toArray, List.set_cons_zero, List.set_cons_succ]) (hCont (v166, gb169) _ ⟨hHeld, (by (with_reducible repeat (first | apply Kd.R_alloc | apply Kd.R_drewN | apply Kd.R_drew)); exact HO167.out), (by (with_reducible repeat (first | refine blk_drewN ?_ _ | refine blk_drew ?_ | refine blk_alloc ?_ _)); exact BK161.out), (by (with_reducible repeat (first | refine blk_drewN ?_ _ | refine blk_drew ?_ | refine blk_alloc ?_ _)); exact BK162.out), (by (with_reducible repeat (first | refine blk_drewN ?_ _ | refine blk_drew ?_ | refine blk_alloc ?_ _)); exact BK169.out), GW169.out, GE169.out, NB161_169.out, NB169_161.out, NB162_169.out, NB169_162.out, (by repeat (first | (with_reducible first | exact HB.out | apply below_alloc | apply pw_below_drewN | apply below_drew1 | refine below_set ?_ GE161.out | refine below_set ?_ GE162.out | refine below_set ?_ GE169.out) | exact HB.out))⟩))); (· skip; refine box_step ?hg (N := 3) ?hd (cs := #[.int .i64 0, .slice none 0 0]) (t := 45) ?hr ?_; (case hd => rfl); (case hg => rfl); (case hr => first | (go_simp; done) | (go_simp; rfl)); intro gb169 hg w7 hbox hb; have n0_ := Aside0.mk (blk_below (g := gb161) (o := .cells #[.int .i64 a0_0, .int .i64 a0_1, .int .i64 a0_2, .bool a0_3, .int .i64 a0_4] 23 (0, 0)) (by (with_reducible repeat (first | refine blk_drewN ?_ _ | refine blk_drew ?_ | refine blk_alloc ?_ _)); exact BK161.out) hb); have n1_ := Aside0.mk (blk_below (g := gb162) (o := .cells #[.int .i64 0, .slice none 0 0] 45 (0, 0)) (by (with_reducible repeat (first | refine blk_drewN ?_ _ | refine blk_drew ?_ | refine blk_alloc ?_ _)); exact BK162.out) hb); have n2_ := Aside0.mk (below_step (by repeat (first | (with_reducible first | exact HB.out | apply below_alloc | apply pw_below_drewN | apply below_drew1 | refine below_set ?_ GE161.out | refine below_set ?_ GE162.out) | exact HB.out)) hb); have n3_ := Aside0.mk (hbox); have n4_ := Aside0.mk ((by rw [hg]; exact (below_size (by repeat (first | (with_reducible first | exact HB.out | apply below_alloc | apply pw_below_drewN | apply below_drew1 | refine below_set ?_ GE161.out | refine below_set ?_ GE162.out) | exact HB.out))) : w.heap.size ≤ gb169)); have n5_ := Aside0.mk ((by rw [hg]; exact (below_size (by repeat (first | (with_reducible first | exact HB.out | apply below_alloc | apply pw_below_drewN | apply below_drew1 | refine below_set ?_ GE161.out | refine below_set ?_ GE162.out) | exact HB.out))) : w.heap.size ≤ gb169)); have n6_ := Aside0.mk ((by rw [hg]; exact Nat.ne_of_lt (blk_lt (g := gb161) (o := .cells #[.int .i64 a0_0, .int .i64 a0_1, .int .i64 a0_2, .bool a0_3, .int .i64 a0_4] 23 (0, 0)) (by (with_reducible repeat (first | refine blk_drewN ?_ _ | refine blk_drew ?_ | refine blk_alloc ?_ _)); exact BK161.out)) : gb161 ≠ gb169)); have n7_ := Aside0.mk ((by rw [hg]; exact Nat.ne_of_gt (blk_lt (g := gb161) (o := .cells #[.int .i64 a0_0, .int .i64 a0_1, .int .i64 a0_2, .bool a0_3, .int .i64 a0_4] 23 (0, 0)) (by (with_reducible repeat (first | refine blk_drewN ?_ _ | refine blk_drew ?_ | refine blk_alloc ?_ _)); exact BK161.out)) : gb169 ≠ gb161)); have n8_ := Aside0.mk ((by rw [hg]; exact Nat.ne_of_lt (blk_lt (g := gb162) (o := .cells #[.int .i64 0, .slice none 0 0] 45 (0, 0)) (by (with_reducible repeat (first | refine blk_drewN ?_ _ | refine blk_drew ?_ | refine blk_alloc ?_ _)); exact BK162.out)) : gb162 ≠ gb169)); have n9_ := Aside0.mk ((by rw [hg]; exact Nat.ne_of_gt (blk_lt (g := gb162) (o := .cells #[.int .i64 0, .slice none 0 0] 45 (0, 0)) (by (with_reducible repeat (first | refine blk_drewN ?_ _ | refine blk_drew ?_ | refine blk_alloc ?_ _)); exact BK162.out)) : gb169 ≠ gb162)); clear BK161; clear BK162; clear HB; have BK161 := n0_; have BK162 := n1_; have HB := n2_; have BK169 := n3_; have GW169 := n4_; have GE169 := n5_; have NB161_169 := n6_; have NB169_161 := n7_; have NB162_169 := n8_; have NB169_162 := n9_; clear n0_ n1_ n2_ n3_ n4_ n5_ n6_ n7_ n8_ n9_; clear hb hbox hg; refine hK.out _ _ ⟨(blk_cell BK161.out 0).trans rfl, (blk_cell BK161.out 1).trans rfl, (blk_cell BK161.out 2).trans rfl, (blk_cell BK161.out 3).trans rfl, (blk_cell BK161.out 4).trans rfl⟩ (fun hHeld => ?_); clear hK K; refine norm_ (a' := ?_) ?_ ?_; rotate_left; (· show Act.put _ (some 3) _ = _; simp only [Act.put, List.setIfInBounds_toArray, List.set_cons_zero, List.set_cons_succ, i64_w, i32_w]; rfl); refine one_ (i := 4) (N := some 10) #[true, true, true, true, true, false, false, false, false, false, true, false, false] rfl rfl (one_of HT_.out (by kernel_rfl)) (by decide) (fun K hK => ?_); refine goes_ Try.func45 (by kernel_rfl) rfl #[.int .i64 a0_0] (by rfl) rfl rfl (by (try simp only [List.map_toArray, List.map_cons, List.map_nil]); first | done | rfl | (simp only [List.length_drop, List.length_take]; rfl)) ?_; (with_reducible refine (refine_contexts.calls a0_0 t163 _ A2.out).mono ?_); rintro e w8 ⟨rfl, hb⟩; refine ⟨_, rfl, ?_⟩; have n0_ := Aside0.mk (blk_below (g := gb161) (o := .cells #[.int .i64 a0_0, .int .i64 a0_1, .int .i64 a0_2, .bool a0_3, .int .i64 a0_4] 23 (0, 0)) (by (with_reducible repeat (first | refine blk_drewN ?_ _ | refine blk_drew ?_ | refine blk_alloc ?_ _)); exact BK161.out) hb); have n1_ := Aside0.mk (blk_below (g := gb162) (o := .cells #[.int .i64 0, .slice none 0 0] 45 (0, 0)) (by (with_reducible repeat (first | refine blk_drewN ?_ _ | refine blk_drew ?_ | refine blk_alloc ?_ _)); exact BK162.out) hb); have n2_ := Aside0.mk (blk_below (g := gb169) (o := .cells #[.int .i64 0, .slice none 0 0] 45 (0, 0)) (by (with_reducible repeat (first | refine blk_drewN ?_ _ | refine blk_drew ?_ | refine blk_alloc ?_ _)); exact BK169.out) hb); have n3_ := Aside0.mk (below_step (by repeat (first | (with_reducible first | exact HB.out | apply below_alloc | apply pw_below_drewN | apply below_drew1 | refine below_set ?_ GE161.out | refine below_set ?_ GE162.out | refine below_set ?_ GE169.out) | exact HB.out)) hb); clear BK161; clear BK162; clear BK169; clear HB; have BK161 := n0_; have BK162 := n1_; have BK169 := n2_; have HB := n3_; clear n0_ n1_ n2_ n3_; (try clear hb); (try clear hb2); (try clear hk); (try clear hi); refine hK.out _ _ ⟨(blk_cell BK161.out 0).trans rfl, (blk_cell BK161.out 1).trans rfl, (blk_cell BK161.out 2).trans rfl, (blk_cell BK161.out 3).trans rfl, (blk_cell BK161.out 4).trans rfl⟩ (fun hHeld => ?_); clear hK K; refine norm_ (a' := ?_) ?_ ?_; rotate_left; (· show Act.put _ (some 10) _ = _; simp only [Act.put, List.setIfInBounds_toArray, List.set_cons_zero, List.set_cons_succ, i64_w, i32_w]; rfl); refine pure_ (i := 5) (N := some 11) (v := ?_) (a' := ?_) #[true, true, true, true, true, true, false, false, false, false, true, false, false] rfl rfl (any_of HT_.out (by kernel_rfl)) (fun _ _ _ h => h) (Or.inl ⟨by rfl, ?_⟩) ?_ ?_; rotate_left; (· intro w'; go_simp; (with_reducible rfl)); rotate_left; (· simp only [Act.put, List.setIfInBounds_toArray, List.set_cons_zero, List.set_cons_succ, i64_w, i32_w]; rfl); refine one_ (i := 6) (N := some 12) #[true, true, true, true, true, true, true, false, false, false, true, false, false] rfl rfl (one_of HT_.out (by kernel_rfl)) (by decide) (fun K hK => ?_); refine goes_ Try.func86 (by kernel_rfl) rfl #[.int .i64 a0_4, .int .i64 (wrap64 (t163 + 1))] (by rfl) rfl rfl (by (try simp only [List.map_toArray, List.map_cons, List.map_nil]); first | done | rfl | (simp only [List.length_drop, List.length_take]; rfl)) ?_; (with_reducible refine (coder_New.calls a0_4 (wrap64 (t163 + 1)) t164 t165 t168 _ A3.out).mono ?_); rintro e w9 ⟨v166, rfl, ho0, hb⟩; refine ⟨_, rfl, ?_⟩; have n0_ := Aside0.mk (Kd.R_lower ho0 (below_size (by repeat (first | (with_reducible first | exact HB.out | apply below_alloc | apply pw_below_drewN | apply below_drew1 | refine below_set ?_ GE161.out | refine below_set ?_ GE162.out | refine below_set ?_ GE169.out) | exact HB.out)))); have n1_ := Aside0.mk (blk_below (g := gb161) (o := .cells #[.int .i64 a0_0, .int .i64 a0_1, .int .i64 a0_2, .bool a0_3, .int .i64 a0_4] 23 (0, 0)) (by (with_reducible repeat (first | refine blk_drewN ?_ _ | refine blk_drew ?_ | refine blk_alloc ?_ _)); exact BK161.out) hb); have n2_ := Aside0.mk (blk_below (g := gb162) (o := .cells #[.int .i64 0, .slice none 0 0] 45 (0, 0)) (by (with_reducible repeat (first | refine blk_drewN ?_ _ | refine blk_drew ?_ | refine blk_alloc ?_ _)); exact BK162.out) hb); have n3_ := Aside0.mk (blk_below (g := gb169) (o := .cells #[.int .i64 0, .slice none 0 0] 45 (0, 0)) (by (with_reducible repeat (first | refine blk_drewN ?_ _ | refine blk_drew ?_ | refine blk_alloc ?_ _)); exact BK169.out) hb); have n4_ := Aside0.mk (below_step (by repeat (first | (with_reducible first | exact HB.out | apply below_alloc | apply pw_below_drewN | apply below_drew1 | refine below_set ?_ GE161.out | refine below_set ?_ GE162.out | refine below_set ?_ GE169.out) | exact HB.out)) hb); clear BK161; clear BK162; clear BK169; clear HB; have HO167 := n0_; have BK161 := n1_; have BK162 := n2_; have BK169 := n3_; have HB := n4_; clear n0_ n1_ n2_ n3_ n4_; (try clear hb); (try clear hb2); (try clear hk); (try clear hi); (try clear ho0); refine hK.out _ _ ⟨(blk_cell BK161.out 0).trans rfl, (blk_cell BK161.out 1).trans rfl, (blk_cell BK161.out 2).trans rfl, (blk_cell BK161.out 3).trans rfl, (blk_cell BK161.out 4).trans rfl⟩ (fun hHeld => ?_); clear hK K; refine norm_ (a' := ?_) ?_ ?_; rotate_left; (· show Act.put _ (some 12) _ = _; simp only [Act.put, List.setIfInBounds_toArray, List.set_cons_zero, List.set_cons_succ, i64_w, i32_w]; rfl); refine pure_ (i := 7) (N := some 5) (v := ?_) (a' := ?_) #[true, true, true, true, true, true, true, true, false, false, true, false, false] rfl rfl (any_of HT_.out (by kernel_rfl)) (fun _ _ _ h => h) (Or.inl ⟨by rfl, ?_⟩) ?_ ?_; rotate_left; (· intro w'; go_simp; (with_reducible rfl)); rotate_left; (· simp only [Act.put, List.setIfInBounds_toArray, List.set_cons_zero, List.set_cons_succ, i64_w, i32_w]; rfl); refine pure_ (i := 8) (N := some 13) (v := ?_) (a' := ?_) #[true, true, true, true, true, true, true, true, true, false, true, false, false] rfl rfl (any_of HT_.out (by kernel_rfl)) (fun _ _ _ h => h) (Or.inl ⟨by rfl, ?_⟩) ?_ ?_; rotate_left; (· intro w'; go_simp; (with_reducible rfl)); rotate_left; (· simp only [Act.put, List.setIfInBounds_toArray, List.set_cons_zero, List.set_cons_succ, i64_w, i32_w]; rfl); refine pure_ (i := 9) (N := some 14) (v := ?_) (a' := ?_) #[true, true, true, true, true, true, true, true, true, true, true, false, false] rfl rfl (any_of HT_.out (by kernel_rfl)) (fun _ _ _ h => h) (Or.inl ⟨by rfl, ?_⟩) ?_ ?_; rotate_left; (· intro w'; go_simp; (with_reducible rfl)); rotate_left; (· simp only [Act.put, List.setIfInBounds_toArray, List.set_cons_zero, List.set_cons_succ, i64_w, i32_w]; rfl); exact norm_ (by simp only [putAll, Act.put, List.setIfInBounds_toArray, List.set_cons_zero, List.set_cons_succ]) (hCont (v166, gb169) _ ⟨hHeld, (by (with_reducible repeat (first | apply Kd.R_alloc | apply Kd.R_drewN | apply Kd.R_drew)); exact HO167.out), (by (with_reducible repeat (first | refine blk_drewN ?_ _ | refine blk_drew ?_ | refine blk_alloc ?_ _)); exact BK161.out), (by (with_reducible repeat (first | refine blk_drewN ?_ _ | refine blk_drew ?_ | refine blk_alloc ?_ _)); exact BK162.out), (by (with_reducible repeat (first | refine blk_drewN ?_ _ | refine blk_drew ?_ | refine blk_alloc ?_ _)); exact BK169.out), GW169.out, GE169.out, NB161_169.out, NB169_161.out, NB162_169.out, NB169_162.out, (by repeat (first | (with_reducible first | exact HB.out | apply below_alloc | apply pw_below_drewN | apply below_drew1 | refine below_set ?_ GE161.out | refine below_set ?_ GE162.out | refine below_set ?_ GE169.out) | exact HB.out))⟩)))
 rintro ⟨v166, gb169⟩ w10 ⟨hS_, h0_, h1_, h2_, h3_, h4_, h5_, h6_, h7_, h8_, h9_, h10_⟩; have n0_ : Aside0 (Kd.R (Kd.int .i64) 3 w10 w.heap.size (fun _ => True) v166 t165) := ⟨h0_⟩; have n1_ : Aside0 (w10.heap[gb161]? = some (.cells #[.int .i64 a0_0, .int .i64 a0_1, .int .i64 a0_2, .bool a0_3, .int .i64 a0_4] 23 (0, 0))) := ⟨h1_⟩; have n2_ : Aside0 (w10.heap[gb162]? = some (.cells #[.int .i64 0, .slice none 0 0] 45 (0, 0))) := ⟨h2_⟩; have n3_ : Aside0 (w10.heap[gb169]? = some (.cells #[.int .i64 0, .slice none 0 0] 45 (0, 0))) := ⟨h3_⟩; have n4_ : Aside0 (w.heap.size ≤ gb169) := ⟨h4_⟩; have n5_ : Aside0 (w.heap.size ≤ gb169) := ⟨h5_⟩; have n6_ : Aside0 (gb161 ≠ gb169) := ⟨h6_⟩; have n7_ : Aside0 (gb169 ≠ gb161) := ⟨h7_⟩; have n8_ : Aside0 (gb162 ≠ gb169) := ⟨h8_⟩; have n9_ : Aside0 (gb169 ≠ gb162) := ⟨h9_⟩; have n10_ : Aside0 (Below w.heap.size w w10) := ⟨h10_⟩; clear BK161; clear BK162; clear HB; clear h0_ h1_ h2_ h3_ h4_ h5_ h6_ h7_ h8_ h9_ h10_; have HO167 := n0_; have BK161 := n1_; have BK162 := n2_; have BK169 := n3_; have GW169 := n4_; have GE169 := n5_; have NB161_169 := n6_; have NB169_161 := n7_; have NB162_169 := n8_; have NB169_162 := n9_; have HB := n10_; clear n0_ n1_ n2_ n3_ n4_ n5_ n6_ n7_ n8_ n9_ n10_
 have hHeld : w10.cell? ⟨gb161, 0, none⟩ = some (.int .i64 a0_0) ∧ w10.cell? ⟨gb161, 1, none⟩ = some (.int .i64 a0_1) ∧ w10.cell? ⟨gb161, 2, none⟩ = some (.int .i64 a0_2) ∧ w10.cell? ⟨gb161, 3, none⟩ = some (.bool a0_3) ∧ w10.cell? ⟨gb161, 4, none⟩ = some (.int .i64 a0_4) := hS_; obtain ⟨Ao12, co12, eo12⟩ := Kd.R_slice HO167.out; (first | subst eo12 | (injection eo12 with f1_ f2_ f3_; have f4_ := f1_.symm; have f5_ := f3_.symm; clear f1_ f2_ f3_; subst f4_; subst f5_)); refine norm_ (a' := ?_) ?_ ?_; rotate_left; (· simp only [putAll, Act.put, List.setIfInBounds_toArray, List.set_cons_zero, List.set_cons_succ]; rfl); refine one_ (i := 11) (N := none) #[true, true, true, true, true, true, true, true, true, true, true, true, false] rfl rfl (one_of HT_.out (by kernel_rfl)) (by decide) (fun K hK => ?_); have hs11 : w10.cell? ⟨gb169, 0, none⟩ = some (.int .i64 0) := (blk_cell BK169.out 0).trans rfl; have hfs11 := blk_frozen BK169.out 0; have hns11_0 := NB161_169.out; have hns11_1 := NB162_169.out; have hms11_0 := NB169_161.out; have hms11_1 := NB169_162.out; have hs13 : w10.cell? ⟨gb169, 1, none⟩ = some (.slice none 0 0) := (blk_cell BK169.out 1).trans rfl; have hfs13 := blk_frozen BK169.out 1; have hns13_0 := NB161_169.out; have hns13_1 := NB162_169.out; have hms13_0 := NB169_161.out; have hms13_1 := NB169_162.out; refine skip_ (w1 := ?_) (by rfl) rfl ?_ ?_; rotate_left; (· go_simp; rfl)
 refine hK.out _ _ ⟨((cell_far (p := ⟨gb169, _, none⟩) NB161_169.out _).trans (((cell_far (p := ⟨gb169, _, none⟩) NB161_169.out _).trans (hHeld.1)))), ((cell_far (p := ⟨gb169, _, none⟩) NB161_169.out _).trans (((cell_far (p := ⟨gb169, _, none⟩) NB161_169.out _).trans (hHeld.2.1)))), ((cell_far (p := ⟨gb169, _, none⟩) NB161_169.out _).trans (((cell_far (p := ⟨gb169, _, none⟩) NB161_169.out _).trans (hHeld.2.2.1)))), ((cell_far (p := ⟨gb169, _, none⟩) NB161_169.out _).trans (((cell_far (p := ⟨gb169, _, none⟩) NB161_169.out _).trans (hHeld.2.2.2.1)))), ((cell_far (p := ⟨gb169, _, none⟩) NB161_169.out _).trans (((cell_far (p := ⟨gb169, _, none⟩) NB161_169.out _).trans (hHeld.2.2.2.2))))⟩ (fun hHeld => ?_); clear hK K; refine pure_ (i := 12) (N := some 4) (v := ?_) (a' := ?_) #[true, true, true, true, true, true, true, true, true, true, true, true, true] rfl rfl (any_of HT_.out (by kernel_rfl)) (fun _ _ _ h => h) (Or.inl ⟨by rfl, ?_⟩) ?_ ?_; rotate_left; (· intro w'; go_simp; (with_reducible rfl)); rotate_left; (· simp only [Act.put, List.setIfInBounds_toArray, List.set_cons_zero, List.set_cons_succ, i64_w, i32_w]; rfl); refine done_ (done_of HT_.out (by kernel_rfl)) ?_; have hnb14 := NB169_161.out; have hnc14 := NB161_169.out; have hnb15 := NB169_162.out; have hnc15 := NB162_169.out; have hcz16_0 : w10.cell? ⟨gb169, 0, none⟩ = some (.int .i64 0) := (blk_cell BK169.out 0).trans rfl; have hcz16_1 : w10.cell? ⟨gb169, 1, none⟩ = some (.slice none 0 0) := (blk_cell BK169.out 1).trans rfl
 have hfz16_0 := blk_frozen BK169.out 0; have hfz16_1 := blk_frozen BK169.out 1; have hnb17 := NB162_161.out; have hnc17 := NB161_162.out; have hcz18_0 : w10.cell? ⟨gb162, 0, none⟩ = some (.int .i64 0) := (blk_cell BK162.out 0).trans rfl; have hcz18_1 : w10.cell? ⟨gb162, 1, none⟩ = some (.slice none 0 0) := (blk_cell BK162.out 1).trans rfl; have hfz18_0 := blk_frozen BK162.out 0; have hfz18_1 := blk_frozen BK162.out 1; (try go_wp2); refine bodyPost_ret (results_cell_row rfl _ _ gb162 45 #[.int .i64 t164, .slice Ao12 t165.length co12] (0, 0) _ rfl (by (with_reducible repeat (first | refine blk_drewN ?_ _ | refine blk_drew ?_ | refine blk_alloc ?_ _)); refine blk_put (cs := #[.int .i64 t164, .slice none 0 0]) ?_ 1 _ rfl; (with_reducible repeat (first | refine blk_drewN ?_ _ | refine blk_drew ?_ | refine blk_alloc ?_ _)); refine blk_put (cs := #[.int .i64 0, .slice none 0 0]) ?_ 0 _ rfl; (with_reducible repeat (first | refine blk_drewN ?_ _ | refine blk_drew ?_ | refine blk_alloc ?_ _)); refine blk_far ?_ NB162_169.out _; (with_reducible repeat (first | refine blk_drewN ?_ _ | refine blk_drew ?_ | refine blk_alloc ?_ _)); refine blk_far ?_ NB162_169.out _; (with_reducible repeat (first | refine blk_drewN ?_ _ | refine blk_drew ?_ | refine blk_alloc ?_ _)); exact BK162.out) Try.underlying45 rfl (by kernel_rfl)) rfl ?_
 (exact ⟨_, by first | rfl | (simp [errW_none, errW_some] <;> rfl) | (simp [*, errW_none, errW_some] <;> rfl), by (with_reducible repeat (first | apply Kd.R_alloc | apply Kd.R_drewN | apply Kd.R_drew)); exact Kd.R_mono (Kd.R_far (p := ⟨gb162, 1, none⟩) (Kd.R_far (p := ⟨gb162, 0, none⟩) (Kd.R_far (p := ⟨gb169, 1, none⟩) (Kd.R_far (p := ⟨gb169, 0, none⟩) (Kd.R_types (Kd.R_types HO167.out BK169.out (by decide)) BK162.out (by decide)) (fun _ hk => hk.1.2) (.int .i64 t164)) (fun _ hk => hk.1.2) (.slice Ao12 t165.length co12)) (fun _ hk => hk.2) (.int .i64 t164)) (fun _ hk => hk.2) (.slice Ao12 t165.length co12)) (fun _ hk => trivial), by repeat (first | (with_reducible first | exact HB.out | apply below_alloc | apply pw_below_drewN | apply below_drew1 | refine below_set ?_ GE161.out | refine below_set ?_ GE162.out | refine below_set ?_ GE169.out) | exact HB.out)⟩)
end Go.Proofs.Ytkfejicdjpffcaa.U
namespace Go.Proofs.Ytkfejicdjpffcaa.U
open Go.RowKit Go.Proofs.YtkfejicdjpffcaaW.PrintWords Go.Proofs.YtkfejicdjpffcaaW.PrintLast Go.Proofs.YtkfejicdjpffcaaW.PrintMore
attribute [local go_sem] max2_int min2_int max_two min_two max_three min_three max_four min_four   -- for this text's walks alone
def incunableref08_fresh.f (a0_0 : Int) (a0_1 : Int) (a0_2 : Int) (a0_3 : Bool) (a0_4 : Int) : Option (Int × List Int) := (incunableref08_size.f a0_0).bind fun t299 => (if 0 ≤ t299 then (if (t299 : Int).toNat ≤ 35184372088832 then (some (a0_4, (List.replicate (t299 : Int).toNat 0))) else (none)) else (none))
end Go.Proofs.Ytkfejicdjpffcaa.U
namespace Go.Proofs.Ytkfejicdjpffcaa.U
open Go.RowKit Go.Proofs.YtkfejicdjpffcaaW.PrintWords Go.Proofs.YtkfejicdjpffcaaW.PrintLast Go.Proofs.YtkfejicdjpffcaaW.PrintMore
attribute [local go_sem] max2_int min2_int max_two min_two max_three min_three max_four min_four   -- for this text's walks alone
def incunableref08_asked.f (a0_0 : Int) (a0_1 : Int) (a0_2 : Int) (a0_3 : Bool) (a0_4 : Int) (a1 : Bool) (a2 : Int) (a3_0 : Int) (l3_1 : List Int) : Option (Int) := (incunableref08_Valid.f a0_0 a0_1 a0_2 a0_3 a0_4).bind fun t273 => (if t273 = true then (if a1 = true then (if a2 < 0 then (some 2) else ((incunableref08_size.f a0_0).bind fun t274 => (if a2 > (wrap64 ((l3_1.length : Int) - t274)) then (some 2) else (some 0)))) else (some 30)) else (some 2))
end Go.Proofs.Ytkfejicdjpffcaa.U
namespace Go.Proofs.Ytkfejicdjpffcaa.U
open Go.RowKit Go.Proofs.YtkfejicdjpffcaaW.PrintWords Go.Proofs.YtkfejicdjpffcaaW.PrintLast Go.Proofs.YtkfejicdjpffcaaW.PrintMore
attribute [local go_sem] max2_int min2_int max_two min_two max_three min_three max_four min_four   -- for this text's walks alone
def refine_Size.f (a0 : Int) : Option (Int × Int) := if a0 = 0 then ((refine_contexts.f a0).bind fun t110 => (some (wrap64 (t110 + 1), 0))) else (if a0 = 1 then ((refine_contexts.f a0).bind fun t111 => (some (wrap64 (t111 + 1), 0))) else (some (0, 2)))
set_option maxHeartbeats 8000000 in
set_option maxRecDepth 100000 in
theorem refine_Size.calls (a0 : Int) (r1 : Int) (r2 : Int) (w : World) (h : refine_Size.f a0 = some (r1, r2)) :
    Calls Try.prog 11 #[.int .i64 a0] w fun e w' => e = .returned (.tuple #[.int .i64 r1, .int .i64 r2]) ∧ Below w.heap.size w w' := by
 have HB := Aside0.mk (Below.refl w.heap.size w); have H : (if a0 = 0 then ((refine_contexts.f a0).bind fun t110 => (some (wrap64 (t110 + 1), 0))) else (if a0 = 1 then ((refine_contexts.f a0).bind fun t111 => (some (wrap64 (t111 + 1), 0))) else (some (0, 2)))) = some (r1, r2) := h; clear h; by_cases c2 : a0 = 0
 (· rw [if_pos c2] at H; have c2b0 : (a0 == 0) = true := beq_iff_eq.mpr c2; have c2b1 : (a0 != 0) = false := bne_eq_false_iff_eq.mpr c2; clear c2; replace H := Option.bind_eq_some_iff.mp H; obtain ⟨t110, A30, H⟩ := H; replace H : (some (wrap64 (t110 + 1), 0)) = some (r1, r2) := H; have A3 := Aside0.mk A30; clear A30; simp only [Option.some.injEq, Prod.mk.injEq] at H; obtain ⟨rfl, rfl⟩ := H; go_enter Try.func11, Try.ntmps11; go_wp2_with (first | ((with_reducible refine gate_callee (f := 45) rfl ?_); refine goesL_ (some 11) rfl rfl Try.func45 (by kernel_rfl) rfl #[.int .i64 a0] rfl (by (try simp only [List.map_toArray, List.map_cons, List.map_nil]); first | done | rfl | (simp only [List.length_drop, List.length_take]; rfl)) ?_; (with_reducible refine (refine_contexts.calls a0 t110 _ A3.out).mono ?_); rintro e w4 ⟨rfl, hb⟩; refine ⟨_, rfl, ?_⟩; have n0_ := Aside0.mk (below_step (by repeat (first | (with_reducible first | exact HB.out | apply below_alloc | apply pw_below_drewN | apply below_drew1) | exact HB.out)) hb); clear HB; have HB := n0_; clear n0_; (try clear hb); (try clear hb2); (try clear hk); (try clear hi))); go_ret2; (exact ⟨by first | rfl | (simp [errW_none, errW_some] <;> rfl) | (simp [*, errW_none, errW_some] <;> rfl), by repeat (first | (with_reducible first | exact HB.out | apply below_alloc | apply pw_below_drewN | apply below_drew1) | exact HB.out)⟩))
 (· rw [if_neg c2] at H; have c2b0 : (a0 == 0) = false := beq_eq_false_iff_ne.mpr c2; have c2b1 : (a0 != 0) = true := bne_iff_ne.mpr c2; by_cases c5 : a0 = 1; (· rw [if_pos c5] at H; have c5b0 : (a0 == 1) = true := beq_iff_eq.mpr c5; have c5b1 : (a0 != 1) = false := bne_eq_false_iff_eq.mpr c5; clear c5; replace H := Option.bind_eq_some_iff.mp H; obtain ⟨t111, A60, H⟩ := H; replace H : (some (wrap64 (t111 + 1), 0)) = some (r1, r2) := H; have A6 := Aside0.mk A60; clear A60; simp only [Option.some.injEq, Prod.mk.injEq] at H; obtain ⟨rfl, rfl⟩ := H; go_enter Try.func11, Try.ntmps11; go_wp2_with (first | ((with_reducible refine gate_callee (f := 45) rfl ?_); refine goesL_ (some 11) rfl rfl Try.func45 (by kernel_rfl) rfl #[.int .i64 a0] rfl (by (try simp only [List.map_toArray, List.map_cons, List.map_nil]); first | done | rfl | (simp only [List.length_drop, List.length_take]; rfl)) ?_; (with_reducible refine (refine_contexts.calls a0 t111 _ A6.out).mono ?_); rintro e w7 ⟨rfl, hb⟩; refine ⟨_, rfl, ?_⟩; have n0_ := Aside0.mk (below_step (by repeat (first | (with_reducible first | exact HB.out | apply below_alloc | apply pw_below_drewN | apply below_drew1) | exact HB.out)) hb); clear HB; have HB := n0_; clear n0_; (try clear hb); (try clear hb2); (try clear hk); (try clear hi))); go_ret2; (exact ⟨by first | rfl | (simp [errW_none, errW_some] <;> rfl) | (simp [*, errW_none, errW_some] <;> rfl), by repeat (first | (with_reducible first | exact HB.out | apply below_alloc | apply pw_below_drewN | apply below_drew1) | exact HB.out)⟩)); (· rw [if_neg c5] at H; have c5b0 : (a0 == 1) = false := beq_eq_false_iff_ne.mpr c5; have c5b1 : (a0 != 1) = true := bne_iff_ne.mpr c5; simp only [Option.some.injEq, Prod.mk.injEq] at H; obtain ⟨rfl, rfl⟩ := H; go_enter Try.func11, Try.ntmps11; go_wp2; go_ret2; (exact ⟨by first | rfl | (simp [errW_none, errW_some] <;> rfl) | (simp [*, errW_none, errW_some] <;> rfl), by repeat (first | (with_reducible first | exact HB.out | apply below_alloc | apply pw_below_drewN | apply below_drew1) | exact HB.out)⟩)))
end Go.Proofs.Ytkfejicdjpffcaa.U
namespace Go.Proofs.Ytkfejicdjpffcaa.U
open Go.RowKit Go.Proofs.YtkfejicdjpffcaaW.PrintWords Go.Proofs.YtkfejicdjpffcaaW.PrintLast Go.Proofs.YtkfejicdjpffcaaW.PrintMore
attribute [local go_sem] max2_int min2_int max_two min_two max_three min_three max_four min_four   -- for this text's walks alone
def incunableref08_Size.f (a0 : Int) : Option (Int × Int) := if a0 < 0 then (some (0, 2)) else (if a0 > 1 then (some (0, 2)) else ((incunableref08_size.f a0).bind fun t112 => (some (t112, 0))))
set_option maxHeartbeats 8000000 in
set_option maxRecDepth 100000 in
theorem incunableref08_Size.calls (a0 : Int) (r1 : Int) (r2 : Int) (w : World) (h : incunableref08_Size.f a0 = some (r1, r2)) :
    Calls Try.prog 12 #[.int .i64 a0] w fun e w' => e = .returned (.tuple #[.int .i64 r1, .int .i64 r2]) ∧ Drawn0 w w' := by
 have H : (if a0 < 0 then (some (0, 2)) else (if a0 > 1 then (some (0, 2)) else ((incunableref08_size.f a0).bind fun t112 => (some (t112, 0))))) = some (r1, r2) := h; clear h; by_cases c2 : a0 < 0; (· rw [if_pos c2] at H; have c2b0 : decide (a0 < 0) = true := decide_eq_true c2; clear c2; simp only [Option.some.injEq, Prod.mk.injEq] at H; obtain ⟨rfl, rfl⟩ := H; go_enter Try.func12, Try.ntmps12; go_wp2; go_ret2; exact ⟨by first | rfl | (simp; done) | (simp [*]; done), by repeat (first | exact Drawn0.refl _ | apply Drawn0.step)⟩)
 (· rw [if_neg c2] at H; have c2b0 : decide (a0 < 0) = false := decide_eq_false c2; clear c2; by_cases c3 : a0 > 1; (· rw [if_pos c3] at H; have c3b0 : decide (1 < a0) = true := decide_eq_true c3; clear c3; simp only [Option.some.injEq, Prod.mk.injEq] at H; obtain ⟨rfl, rfl⟩ := H; go_enter Try.func12, Try.ntmps12; go_wp2; go_ret2; exact ⟨by first | rfl | (simp; done) | (simp [*]; done), by repeat (first | exact Drawn0.refl _ | apply Drawn0.step)⟩); (· rw [if_neg c3] at H; have c3b0 : decide (1 < a0) = false := decide_eq_false c3; clear c3; replace H := Option.bind_eq_some_iff.mp H; obtain ⟨t112, A40, H⟩ := H; replace H : (some (t112, 0)) = some (r1, r2) := H; have A4 := Aside0.mk A40; clear A40; simp only [Option.some.injEq, Prod.mk.injEq] at H; obtain ⟨rfl, rfl⟩ := H; go_enter Try.func12, Try.ntmps12; go_wp2_with (first | ((with_reducible refine gate_callee (f := 46) rfl ?_); refine goesL_ (some 11) rfl rfl Try.func46 (by kernel_rfl) rfl #[.int .i64 a0] rfl (by (try simp only [List.map_toArray, List.map_cons, List.map_nil]); first | done | rfl | (simp only [List.length_drop, List.length_take]; rfl)) ?_; (with_reducible refine (incunableref08_size.calls a0 t112 _ A4.out).mono ?_); rintro e w' ⟨rfl, ⟨nd, rfl⟩⟩; refine ⟨_, rfl, ?_⟩)); go_ret2; exact ⟨by first | rfl | (simp; done) | (simp [*]; done), by repeat (first | exact Drawn0.refl _ | apply Drawn0.step)⟩))
end Go.Proofs.Ytkfejicdjpffcaa.U
namespace Go.Proofs.Ytkfejicdjpffcaa.Rva
open Go Go.RowKit Go.Proofs.YtkfejicdjpffcaaW.PrintWords Go.Proofs.YtkfejicdjpffcaaW.PrintLast Go.Proofs.YtkfejicdjpffcaaW.PrintMore Go.Proofs.Ytkfejicdjpffcaa.U Go.Proofs.Ytkfejicdjpffcaa.Aid Go.Proofs.Ytkfejicdjpffcaa.HandAid Go.Proofs.Ytkfejicdjpffcaa.Cod1 Go.Proofs.Ytkfejicdjpffcaa.Cod2 Go.Proofs.Ytkfejicdjpffcaa.Cod3 Go.Proofs.Ytkfejicdjpffcaa.Mod Go.Proofs.Ytkfejicdjpffcaa.Rpx
/-- Options that are such. -/
def okO (t dx dy kd : Int) : Bool := decide ((t = 0 ∨ t = 1) ∧ (kd = 0 ∨ kd = 1) ∧ -200 ≤ dx ∧ dx ≤ 200 ∧ -200 ≤ dy ∧ dy ≤ 200)
theorem okO_iff {t dx dy kd : Int} : okO t dx dy kd = true ↔ ((t = 0 ∨ t = 1) ∧ (kd = 0 ∨ kd = 1) ∧ -200 ≤ dx ∧ dx ≤ 200 ∧ -200 ≤ dy ∧ dy ≤ 200) := by unfold okO; exact decide_eq_true_iff
theorem valid_eq (t dx dy : Int) (ty : Bool) (kd : Int) (hx : -9223372036854775808 ≤ dx ∧ dx ≤ 9223372036854775807) (hy : -9223372036854775808 ≤ dy ∧ dy ≤ 9223372036854775807) : refine_Valid.f t dx dy ty kd = some (okO t dx dy kd) := by
  have key : (if mn dx dy ≥ (-200) then (some (decide ((mx (mx (mx dx (wrap64 (-dx))) dy) (wrap64 (-dy))) ≤ 200))) else some false) = some (decide (-200 ≤ dx ∧ dx ≤ 200 ∧ -200 ≤ dy ∧ dy ≤ 200)) := by
    by_cases c : mn dx dy ≥ (-200)
    · rw [if_pos c]
      have hc : -200 ≤ dx ∧ -200 ≤ dy := by unfold mn at c; split at c <;> omega
      rw [wrap_id (n := -dx) (by omega) (by omega), wrap_id (n := -dy) (by omega) (by omega)]
      congr 1
      rw [decide_eq_decide]
      unfold mx
      (repeat' split) <;> omega
    · rw [if_neg c]
      have hc : ¬ (-200 ≤ dx ∧ -200 ≤ dy) := by unfold mn at c; split at c <;> omega
      congr 1
      exact (decide_eq_false (by omega)).symm
  unfold refine_Valid.f okO
  by_cases h0 : t = 0
  · rw [if_pos h0]
    by_cases k0 : kd = 0
    · rw [if_pos k0, key]; congr 1; rw [decide_eq_decide]; omega
    · rw [if_neg k0]
      by_cases k1 : kd = 1
      · rw [if_pos k1, key]; congr 1; rw [decide_eq_decide]; omega
      · rw [if_neg k1]; congr 1; exact (decide_eq_false (by omega)).symm
  · rw [if_neg h0]
    by_cases h1 : t = 1
    · rw [if_pos h1]
      by_cases k0 : kd = 0
      · rw [if_pos k0, key]; congr 1; rw [decide_eq_decide]; omega
      · rw [if_neg k0]
        by_cases k1 : kd = 1
        · rw [if_pos k1, key]; congr 1; rw [decide_eq_decide]; omega
        · rw [if_neg k1]; congr 1; exact (decide_eq_false (by omega)).symm
    · rw [if_neg h1]; congr 1; exact (decide_eq_false (by omega)).symm
/-- Sides that a bitmap may have. -/
def okS (w h : Int) : Bool := decide (0 ≤ w ∧ w ≤ 200 ∧ 0 ≤ h ∧ h ≤ 200 ∧ w * h ≤ 8192)
theorem okS_iff {w h : Int} : okS w h = true ↔ (0 ≤ w ∧ w ≤ 200 ∧ 0 ≤ h ∧ h ≤ 200 ∧ w * h ≤ 8192) := by unfold okS; exact decide_eq_true_iff
theorem area {w h : Int} (h0 : 0 ≤ w) (h1 : w ≤ 200) (h2 : 0 ≤ h) (h3 : h ≤ 200) : 0 ≤ w * h ∧ w * h ≤ 40000 := by
  have a1 : w * h ≤ 200 * h := Int.mul_le_mul_of_nonneg_right h1 h2
  have a2 : 0 ≤ w * h := Int.mul_nonneg h0 h2
  omega
theorem fits2_eq (w h : Int) : bitmap_fits.f w h = some (okS w h) := by
  unfold bitmap_fits.f okS
  by_cases c0 : w ≥ 0
  · by_cases c1 : h ≥ 0
    · by_cases c2 : w ≤ 200
      · by_cases c3 : h ≤ 200
        · have := area c0 c2 c1 c3
          rw [if_pos c0, if_pos c1, if_pos c2, if_pos c3, wrap_id (n := w * h) (by omega) (by omega)]
          congr 1; rw [decide_eq_decide]; omega
        · rw [if_pos c0, if_pos c1, if_pos c2, if_neg c3]; congr 1; exact (decide_eq_false (by omega)).symm
      · rw [if_pos c0, if_pos c1, if_neg c2]; congr 1; exact (decide_eq_false (by omega)).symm
    · rw [if_pos c0, if_neg c1]; congr 1; exact (decide_eq_false (by omega)).symm
  · rw [if_neg c0]; congr 1; exact (decide_eq_false (by omega)).symm
theorem issize_eq (w h : Int) : incunableref06_IsSize.f w h = some (okS w h) := by
  unfold incunableref06_IsSize.f okS
  by_cases c0 : w ≥ 0
  · by_cases c2 : w ≤ 200
    · by_cases c1 : h ≥ 0
      · by_cases c3 : h ≤ 200
        · have := area c0 c2 c1 c3
          rw [if_pos c0, if_pos c2, if_pos c1, if_pos c3, wrap_id (n := w * h) (by omega) (by omega)]
          congr 1; rw [decide_eq_decide]; omega
        · rw [if_pos c0, if_pos c2, if_pos c1, if_neg c3]; congr 1; exact (decide_eq_false (by omega)).symm
      · rw [if_pos c0, if_pos c2, if_neg c1]; congr 1; exact (decide_eq_false (by omega)).symm
    · rw [if_pos c0, if_neg c2]; congr 1; exact (decide_eq_false (by omega)).symm
  · rw [if_neg c0]; congr 1; exact (decide_eq_false (by omega)).symm
/-- Pixels that are such. -/
def okP (P : List Int) : Bool := P.all (fun v => decide (v ≤ 1))
/-- A bitmap that is one. -/
def okB (W H : Int) (P : List Int) : Bool := okS W H && decide ((P.length : Int) = W * H) && okP P
theorem okB_bm {W H : Int} {P : List Int} (hb : Bytes P) (h : okB W H P = true) : Bm W H P ∧ W * H ≤ 8192 := by
  unfold okB at h
  rw [Bool.and_eq_true, Bool.and_eq_true, okS_iff, decide_eq_true_iff] at h
  obtain ⟨⟨hs, hl⟩, hp⟩ := h
  refine ⟨⟨by omega, by omega, hl, fun v hv => ?_⟩, by omega⟩
  unfold okP at hp
  have h1 := List.all_eq_true.1 hp v hv
  have h2 := hb v hv
  have h3 := of_decide_eq_true h1
  omega
theorem okP_cons (v : Int) (l : List Int) : okP (v :: l) = (decide (v ≤ 1) && okP l) := rfl
theorem isrow_ev (P : List Int) (hn : P.length ≤ 9223372036854775807) : ∀ (d i : Nat), i + d = P.length → Ev (fun k => incunableref06_IsRow.l0 k P (P.length : Int) (i : Int)) (okP (P.drop i))
  | 0, i, h => by
    refine ev_succ ?_
    simp only [incunableref06_IsRow.l0]
    rw [List.drop_of_length_le (by omega)]
    exact ev_neg (by omega) (Ev.now _)
  | d + 1, i, h => by
    have e := drop_rd (l := P) (i := i) (by omega)
    rw [e, okP_cons]
    refine ev_succ ?_
    simp only [incunableref06_IsRow.l0]
    refine ev_pos (by omega) (ev_pos (by omega) (ev_pos (by omega) ?_))
    by_cases c : rd P (i : Int) > 1
    · rw [decide_eq_false (by omega), Bool.false_and]
      exact ev_pos c (Ev.now _)
    · rw [decide_eq_true (by omega), Bool.true_and]
      refine ev_neg c ?_
      have := isrow_ev P hn d (i + 1) (by omega)
      rw [show ((i + 1 : Nat) : Int) = (i : Int) + 1 by omega] at this
      rw [wrap_id (n := (i : Int) + 1) (by omega) (by omega)]
      exact this
theorem brow_ev (P : List Int) (hn : P.length ≤ 9223372036854775807) : ∀ (d i : Nat), i + d = P.length → Ev (fun k => bitmap_Valid.l0 k P (P.length : Int) (i : Int)) (okP (P.drop i))
  | 0, i, h => by
    refine ev_succ ?_
    simp only [bitmap_Valid.l0]
    rw [List.drop_of_length_le (by omega)]
    exact ev_neg (by omega) (Ev.now _)
  | d + 1, i, h => by
    have e := drop_rd (l := P) (i := i) (by omega)
    rw [e, okP_cons]
    refine ev_succ ?_
    simp only [bitmap_Valid.l0]
    refine ev_pos (by omega) (ev_pos (by omega) (ev_pos (by omega) ?_))
    by_cases c : rd P (i : Int) > 1
    · rw [decide_eq_false (by omega), Bool.false_and]
      exact ev_pos c (Ev.now _)
    · rw [decide_eq_true (by omega), Bool.true_and]
      refine ev_neg c ?_
      have := brow_ev P hn d (i + 1) (by omega)
      rw [show ((i + 1 : Nat) : Int) = (i : Int) + 1 by omega] at this
      rw [wrap_id (n := (i : Int) + 1) (by omega) (by omega)]
      exact this
theorem bvalid_ev (W H : Int) (P : List Int) (hn : P.length ≤ 9223372036854775807) : Ev (fun k => bitmap_Valid.f k W H P) (okB W H P) := by
  unfold bitmap_Valid.f okB
  rw [fits2_eq]
  refine ev_some ?_
  by_cases c : okS W H = true
  · rw [c, Bool.true_and]
    have hs := okS_iff.1 c
    have := area hs.1 hs.2.1 hs.2.2.1 hs.2.2.2.1
    rw [wrap_id (n := W * H) (by omega) (by omega)]
    refine ev_pos rfl (ev_succ ?_)
    simp only [bitmap_Valid.j0]
    by_cases c2 : (P.length : Int) = W * H
    · rw [decide_eq_true c2, Bool.true_and]
      refine ev_neg (by simp [c2]) ?_
      exact brow_ev P hn P.length 0 (by omega)
    · rw [decide_eq_false c2, Bool.false_and]
      exact ev_pos (by simp [c2]) (Ev.now _)
  · have c' : okS W H = false := by simpa using c
    rw [c', Bool.false_and, Bool.false_and]
    refine ev_neg (by decide) (ev_succ ?_)
    simp only [bitmap_Valid.j0]
    exact ev_pos (by trivial) (Ev.now _)
theorem isbitmap_ev (W H : Int) (P : List Int) (hn : P.length ≤ 9223372036854775807) : Ev (fun k => incunableref06_IsBitmap.f k W H P) (okB W H P) := by
  unfold incunableref06_IsBitmap.f okB
  rw [issize_eq]
  refine ev_some ?_
  by_cases c : okS W H = true
  · rw [c, Bool.true_and]
    have hs := okS_iff.1 c
    have := area hs.1 hs.2.1 hs.2.2.1 hs.2.2.2.1
    rw [wrap_id (n := W * H) (by omega) (by omega)]
    refine ev_pos rfl ?_
    by_cases c2 : (P.length : Int) = W * H
    · rw [decide_eq_true c2, Bool.true_and]
      refine ev_pos c2 (ev_bind (isrow_ev P hn P.length 0 (by omega)) (Ev.now _))
    · rw [decide_eq_false c2, Bool.false_and]
      exact ev_neg c2 (Ev.now _)
  · have c' : okS W H = false := by simpa using c
    rw [c', Bool.false_and, Bool.false_and]
    exact ev_neg (by decide) (Ev.now _)
theorem new_loop (n : Nat) (hn : n ≤ 40000) (W H : Int) : ∀ (d i : Nat), i + d = n → Ev (fun k => bitmap_New.l0 k 0 0 (n : Int) (i : Int) W H (List.replicate n 0)) (W, H, List.replicate n 0, 0)
  | 0, i, h => by
    refine ev_succ ?_
    simp only [bitmap_New.l0]
    exact ev_neg (by omega) (Ev.now _)
  | d + 1, i, h => by
    refine ev_succ ?_
    simp only [bitmap_New.l0, List.length_replicate]
    refine ev_pos (by omega) (ev_pos (by omega) (ev_pos (by omega) ?_))
    have e : (List.replicate n (0 : Int)).set ((i : Int).toNat) (0 % 256) = List.replicate n 0 := by
      apply List.ext_getElem
      · simp
      · intro j h1 h2
        rw [List.getElem_set]
        split <;> simp
    rw [e, wrap_id (n := (i : Int) + 1) (by omega) (by omega)]
    have := new_loop n hn W H d (i + 1) (by omega)
    rw [show ((i + 1 : Nat) : Int) = (i : Int) + 1 by omega] at this
    exact this
theorem bnew_ev (w h : Int) : ∃ r : Int × Int × List Int × Int, Ev (fun k => bitmap_New.f k w h 0) r ∧ r.2.2.2 = if okS w h = true then 0 else if w < 0 ∨ h < 0 then 2 else 4 := by
  by_cases c0 : w < 0
  · refine ⟨(0, 0, [], 2), ?_, ?_⟩
    · unfold bitmap_New.f
      refine ev_pos c0 (ev_succ ?_)
      simp only [bitmap_New.j0]
      exact ev_pos (by trivial) (Ev.now _)
    · rw [if_neg (by rw [okS_iff]; omega), if_pos (.inl c0)]
  by_cases c1 : h < 0
  · refine ⟨(0, 0, [], 2), ?_, ?_⟩
    · unfold bitmap_New.f
      refine ev_neg c0 (ev_pos c1 (ev_succ ?_))
      simp only [bitmap_New.j0]
      exact ev_pos (by trivial) (Ev.now _)
    · rw [if_neg (by rw [okS_iff]; omega), if_pos (.inr c1)]
  by_cases c : okS w h = true
  · have hs := okS_iff.1 c
    have ha := area hs.1 hs.2.1 hs.2.2.1 hs.2.2.2.1
    refine ⟨(w, h, List.replicate (w * h).toNat 0, 0), ?_, by rw [if_pos c]⟩
    unfold bitmap_New.f
    refine ev_neg c0 (ev_neg c1 (ev_pos rfl (ev_succ ?_)))
    simp only [bitmap_New.j0]
    refine ev_neg (by decide) ?_
    have hbl : bitmap_blank.f w h = some (w, h, List.replicate (w * h).toNat 0, 0) := by
      unfold bitmap_blank.f
      rw [fits2_eq, c, wrap_id (n := w * h) (by omega) (by omega)]
      simp only [Option.bind_some, if_true]
      rw [if_pos (by omega), if_pos (by omega)]
    refine ev_pure hbl ?_
    have := new_loop (w * h).toNat (by omega) w h (w * h).toNat 0 (by omega)
    simpa using this
  · refine ⟨(0, 0, [], 4), ?_, by rw [if_neg c, if_neg (by omega)]⟩
    have c' : okS w h = false := by simpa using c
    unfold bitmap_New.f
    refine ev_neg c0 (ev_neg c1 (ev_pos rfl (ev_succ ?_)))
    simp only [bitmap_New.j0]
    refine ev_neg (by decide) ?_
    have hbl : bitmap_blank.f w h = some (0, 0, [], 4) := by
      unfold bitmap_blank.f
      rw [fits2_eq, c']
      rfl
    refine ev_pure hbl (ev_succ ?_)
    simp only [bitmap_New.l0]
    exact ev_neg (by simp) (Ev.now _)
/-- How many contexts there are, without the last one. -/
def ctxs (t : Int) : Int := if t = 0 then 512 else 128
theorem contexts_eq (t : Int) : refine_contexts.f t = some (ctxs t) := by
  unfold refine_contexts.f refine_fresh.f ctxs
  split <;> rfl
theorem size_eq (t : Int) : incunableref08_size.f t = some (ctxs t + 1) := by
  unfold incunableref08_size.f ctxs
  split <;> rfl
theorem ctxs_range (t : Int) : 128 ≤ ctxs t ∧ ctxs t ≤ 512 := by unfold ctxs; split <;> decide
/-- Whether n states have the contexts from a base on. -/
def okF (n : Nat) (base t : Int) : Bool := decide (0 ≤ base ∧ base + ctxs t + 1 ≤ n)
theorem okF_iff {n : Nat} {base t : Int} : okF n base t = true ↔ (0 ≤ base ∧ base + ctxs t + 1 ≤ n) := by unfold okF; exact decide_eq_true_iff
theorem model_eq (t dx dy : Int) (ty : Bool) (kd : Int) (h : okO t dx dy kd = true) : refine_model.f t dx dy ty kd = some (kd, List.replicate (ctxs t + 1).toNat 0) := by
  have hr := ctxs_range t
  have hk := (okO_iff.1 h).2.1
  unfold refine_model.f
  rw [contexts_eq]
  simp only [Option.bind_some]
  rw [wrap_id (n := ctxs t + 1) (by omega) (by omega), new_eq]
  unfold newModel
  rw [if_pos ⟨hk, by omega, by omega⟩]
  rfl
theorem same_loop (W H : Int) (P : List Int) (W2 H2 : Int) (P2 : List Int) (hl : P.length = P2.length) (he : P = P2) (hn : P.length ≤ 9223372036854775807) : ∀ (d i : Nat), i + d = P.length → Ev (fun k => incunableref06_SameBitmap.l0 k (P.length : Int) (i : Int) W H P W2 H2 P2) true
  | 0, i, h => by
    refine ev_succ ?_
    simp only [incunableref06_SameBitmap.l0]
    exact ev_neg (by omega) (Ev.now _)
  | d + 1, i, h => by
    refine ev_succ ?_
    simp only [incunableref06_SameBitmap.l0]
    refine ev_pos (by omega) (ev_pos (by omega) (ev_pos (by omega) (ev_pos (by omega) (ev_pos (by rw [he]) ?_))))
    rw [wrap_id (n := (i : Int) + 1) (by omega) (by omega)]
    have := same_loop W H P W2 H2 P2 hl he hn d (i + 1) (by omega)
    rw [show ((i + 1 : Nat) : Int) = (i : Int) + 1 by omega] at this
    exact this
theorem same_ev (W H : Int) (P : List Int) (hn : P.length ≤ 9223372036854775807) : Ev (fun k => incunableref06_SameBitmap.f k W H P W H P) true := by
  unfold incunableref06_SameBitmap.f
  refine ev_pos rfl (ev_pos rfl (ev_succ ?_))
  simp only [incunableref06_SameBitmap.j0]
  refine ev_neg (by simp) ?_
  exact same_loop W H P W H P rfl rfl hn P.length 0 (by omega)
theorem psize_eq (t : Int) : refine_Size.f t = some (if t = 0 ∨ t = 1 then (ctxs t + 1, 0) else (0, 2)) := by
  have hr := ctxs_range t
  unfold refine_Size.f
  rw [contexts_eq]
  simp only [Option.bind_some]
  rw [wrap_id (n := ctxs t + 1) (by omega) (by omega)]
  by_cases h0 : t = 0
  · rw [if_pos h0, if_pos (.inl h0)]
  · by_cases h1 : t = 1
    · rw [if_neg h0, if_pos h1, if_pos (.inr h1)]
    · rw [if_neg (by omega : ¬ (t = 0 ∨ t = 1))]
      simp [h0, h1]
theorem rsize_eq (t : Int) : incunableref08_Size.f t = some (if t = 0 ∨ t = 1 then (ctxs t + 1, 0) else (0, 2)) := by
  unfold incunableref08_Size.f
  by_cases h0 : t < 0
  · rw [if_pos h0, if_neg (by omega)]
  · rw [if_neg h0]
    by_cases h1 : t > 1
    · rw [if_pos h1, if_neg (by omega)]
    · rw [if_neg h1, if_pos (by omega), size_eq]
      rfl
end Go.Proofs.Ytkfejicdjpffcaa.Rva
namespace Go.Proofs.Ytkfejicdjpffcaa.Rfl
open Go Go.RowKit Go.Proofs.YtkfejicdjpffcaaW.PrintWords Go.Proofs.YtkfejicdjpffcaaW.PrintLast Go.Proofs.YtkfejicdjpffcaaW.PrintMore Go.Proofs.Ytkfejicdjpffcaa.U Go.Proofs.Ytkfejicdjpffcaa.Aid Go.Proofs.Ytkfejicdjpffcaa.HandAid Go.Proofs.Ytkfejicdjpffcaa.Mods Go.Proofs.Ytkfejicdjpffcaa.Rpx
/-- A region's cells. -/
def regc (t dx dy : Int) (ty : Bool) (kd W H : Int) (vb : Value) (RW RH : Int) (vr : Value) : Array Value := #[.int .i64 t, .int .i64 dx, .int .i64 dy, .bool ty, .int .i64 kd, .int .i64 W, .int .i64 H, vb, .int .i64 RW, .int .i64 RH, vr]
set_option maxHeartbeats 2000000 in
set_option maxRecDepth 100000 in
theorem flat_calls (w : World) (g : Nat) (t dx dy : Int) (ty : Bool) (kd W H : Int) (vb : Value) (RW RH : Int) (AR : Option Addr) (cR : Nat) (RP : List Int) (x y : Int) (hZ : w.heap[g]? = some (.cells (regc t dx dy ty kd W H vb RW RH (.slice AR RP.length cR)) 109 (0, 0))) (hC : Kd.C (Kd.int .u8) w AR RP.length RP) (hcR : RP.length ≤ cR) (b : Bm RW RH RP) (hx : -100000 ≤ x ∧ x ≤ 100000) (hy : -100000 ≤ y ∧ y ≤ 100000) (hdx : -100000 ≤ dx ∧ dx ≤ 100000) (hdy : -100000 ≤ dy ∧ dy ≤ 100000) :
    Calls Try.prog 60 #[.pointer (some ⟨g, 0, none⟩), .int .i64 x, .int .i64 y] w fun e w' => e = .returned (.tuple #[.int .u8 (flatP RW RH RP (x - dx) (y - dy)).1, .bool (flatP RW RH RP (x - dx) (y - dy)).2]) ∧ Below w.heap.size w w' := by
  have HZ := Aside0.mk hZ
  have HCR := Aside0.mk hC
  have hbm := Aside0.mk b
  have HG := Aside0.mk (show ∀ (W : World), Below w.heap.size w W → ∀ (a b2 a' b' : Int), a' = a → b' = b2 → Calls Try.prog 62 #[.agg #[.int .i64 RW, .int .i64 RH, .slice AR RP.length cR], .int .i64 a', .int .i64 b'] W fun e W' => e = .returned (.int .u8 (px RW RH RP a b2)) ∧ Below W.heap.size W W' from fun W hb a b2 a' b' ea eb => by subst ea eb; exact refine_grid_at.calls RW RH AR cR RP _ _ _ _ (Kd.C_below hC hb) hcR (grid_eq b _ _))
  have hu1 := Try.underlying109
  have hu2 := Try.underlying107
  have hu3 := Try.underlying23
  clear hZ hC b
  obtain ⟨⟨Rc, Rb⟩, hR⟩ : ∃ r, flatP RW RH RP (x - dx) (y - dy) = r := ⟨_, rfl⟩
  rw [hR]
  unfold flatP at hR
  go_enter Try.func60, Try.ntmps60
  go_wp2_with (fail)
  have HB0 := Aside0.mk (below_drew (Below.refl w.heap.size w))
  refine start_ (n := 20) (S := fun w' => w'.cell? ⟨g, 8, none⟩ = some (.int .i64 RW) ∧ w'.cell? ⟨g, 9, none⟩ = some (.int .i64 RH) ∧ w'.cell? ⟨g, 10, none⟩ = some (.slice AR RP.length cR) ∧ w'.cell? ⟨g, 1, none⟩ = some (.int .i64 dx) ∧ w'.cell? ⟨g, 2, none⟩ = some (.int .i64 dy)) (ds := []) #[N',N',N',N',N',N',N',N',N',N',N',N',N',N',N',N',N',N',N',N'] (by kernel_rfl) rfl rfl ⟨(blk_cell (blk_below HZ.out HB0.out) 8).trans rfl, (blk_cell (blk_below HZ.out HB0.out) 9).trans rfl, (blk_cell (blk_below HZ.out HB0.out) 10).trans rfl, (blk_cell (blk_below HZ.out HB0.out) 1).trans rfl, (blk_cell (blk_below HZ.out HB0.out) 2).trans rfl⟩ (fun hHeld => ?_)
  refine pure_ (i := 0) (N := some 10) (v := ?_) (a' := ?_) #[Y',N',N',N',N',N',N',N',N',N',N',N',N',N',N',N',N',N',N',N'] rfl rfl (by kernel_rfl) (fun _ _ _ h => h) (Or.inl ⟨by rfl, ?_⟩) ?_ ?_; rotate_left; (intro w'; go_simp; with_reducible rfl); rotate_left; (simp only [Act.put, p1', p2', p3', i64_w, i32_w]; rfl)
  refine pure_ (i := 1) (N := some 11) (v := ?_) (a' := ?_) #[Y',Y',N',N',N',N',N',N',N',N',N',N',N',N',N',N',N',N',N',N'] rfl rfl (by kernel_rfl) (fun _ _ _ h => h) (Or.inl ⟨by rfl, ?_⟩) ?_ ?_; rotate_left; (intro w'; go_simp; with_reducible rfl); rotate_left; (simp only [Act.put, p1', p2', p3', i64_w, i32_w]; rfl)
  refine pure_ (i := 2) (N := some 12) (v := ?_) (a' := ?_) #[Y',Y',Y',N',N',N',N',N',N',N',N',N',N',N',N',N',N',N',N',N'] rfl rfl (by kernel_rfl) (fun _ _ _ h => h) (Or.inl ⟨by rfl, ?_⟩) ?_ ?_; rotate_left; (intro w'; go_simp; with_reducible rfl); rotate_left; (simp only [Act.put, p1', p2', p3', i64_w, i32_w]; rfl)
  refine pure_ (i := 4) (N := some 14) (v := ?_) (a' := ?_) #[Y',Y',Y',N',Y',N',N',N',N',N',N',N',N',N',N',N',N',N',N',N'] rfl rfl (by kernel_rfl) (fun _ _ _ h => h) (Or.inl ⟨by rfl, ?_⟩) ?_ ?_; rotate_left; (intro w'; go_simp; with_reducible rfl); rotate_left; (simp only [Act.put, p1', p2', p3', i64_w, i32_w]; rfl)
  refine pure_ (i := 5) (N := some 15) (v := ?_) (a' := ?_) #[Y',Y',Y',N',Y',Y',N',N',N',N',N',N',N',N',N',N',N',N',N',N'] rfl rfl (by kernel_rfl) (fun _ _ _ h => h) (Or.inl ⟨by rfl, ?_⟩) ?_ ?_; rotate_left; (intro w'; go_simp; with_reducible rfl); rotate_left; (simp only [Act.put, p1', p2', p3', i64_w, i32_w]; rfl)
  refine pure_ (i := 6) (N := some 16) (v := ?_) (a' := ?_) #[Y',Y',Y',N',Y',Y',Y',N',N',N',N',N',N',N',N',N',N',N',N',N'] rfl rfl (by kernel_rfl) (fun _ _ _ h => h) (Or.inl ⟨by rfl, ?_⟩) ?_ ?_; rotate_left; (intro w'; go_simp; with_reducible rfl); rotate_left; (simp only [Act.put, p1', p2', p3', i64_w, i32_w]; rfl)
  refine pure_ (i := 7) (N := some 17) (v := ?_) (a' := ?_) #[Y',Y',Y',N',Y',Y',Y',Y',N',N',N',N',N',N',N',N',N',N',N',N'] rfl rfl (by kernel_rfl) (fun _ _ _ h => h) (Or.inl ⟨by rfl, ?_⟩) ?_ ?_; rotate_left; (intro w'; go_simp; with_reducible rfl); rotate_left; (simp only [Act.put, p1', p2', p3', i64_w, i32_w]; rfl)
  refine pure_ (i := 8) (N := some 18) (v := ?_) (a' := ?_) #[Y',Y',Y',N',Y',Y',Y',Y',Y',N',N',N',N',N',N',N',N',N',N',N'] rfl rfl (by kernel_rfl) (fun _ _ _ h => h) (Or.inl ⟨by rfl, ?_⟩) ?_ ?_; rotate_left; (intro w'; go_simp; with_reducible rfl); rotate_left; (simp only [Act.put, p1', p2', p3', i64_w, i32_w]; rfl)
  refine pure_ (i := 11) (N := some 21) (v := ?_) (a' := ?_) #[Y',Y',Y',N',Y',Y',Y',Y',Y',N',N',Y',N',N',N',N',N',N',N',N'] rfl rfl (by kernel_rfl) (fun _ _ _ h => h) (Or.inl ⟨by rfl, ?_⟩) ?_ ?_; rotate_left; (intro w'; go_simp; with_reducible rfl); rotate_left; (simp only [Act.put, p1', p2', p3', i64_w, i32_w]; rfl)
  refine pure_ (i := 12) (N := some 22) (v := ?_) (a' := ?_) #[Y',Y',Y',N',Y',Y',Y',Y',Y',N',N',Y',Y',N',N',N',N',N',N',N'] rfl rfl (by kernel_rfl) (fun _ _ _ h => h) (Or.inl ⟨by rfl, ?_⟩) ?_ ?_; rotate_left; (intro w'; go_simp; with_reducible rfl); rotate_left; (simp only [Act.put, p1', p2', p3', i64_w, i32_w]; rfl)
  refine pure_ (i := 13) (N := some 23) (v := ?_) (a' := ?_) #[Y',Y',Y',N',Y',Y',Y',Y',Y',N',N',Y',Y',Y',N',N',N',N',N',N'] rfl rfl (by kernel_rfl) (fun _ _ _ h => h) (Or.inl ⟨by rfl, ?_⟩) ?_ ?_; rotate_left; (intro w'; go_simp; with_reducible rfl); rotate_left; (simp only [Act.put, p1', p2', p3', i64_w, i32_w]; rfl)
  refine pure_ (i := 14) (N := some 24) (v := ?_) (a' := ?_) #[Y',Y',Y',N',Y',Y',Y',Y',Y',N',N',Y',Y',Y',Y',N',N',N',N',N'] rfl rfl (by kernel_rfl) (fun _ _ _ h => h) (Or.inl ⟨by rfl, ?_⟩) ?_ ?_; rotate_left; (intro w'; go_simp; with_reducible rfl); rotate_left; (simp only [Act.put, p1', p2', p3', i64_w, i32_w]; rfl)
  refine pure_ (i := 15) (N := some 25) (v := ?_) (a' := ?_) #[Y',Y',Y',N',Y',Y',Y',Y',Y',N',N',Y',Y',Y',Y',Y',N',N',N',N'] rfl rfl (by kernel_rfl) (fun _ _ _ h => h) (Or.inl ⟨by rfl, ?_⟩) ?_ ?_; rotate_left; (intro w'; go_simp; with_reducible rfl); rotate_left; (simp only [Act.put, p1', p2', p3', i64_w, i32_w]; rfl)
  refine take_ (i := 3) (N := some 13) (v := ?_) (a' := ?_) #[Y',Y',Y',Y',Y',Y',Y',Y',Y',N',N',Y',Y',Y',Y',Y',N',N',N',N'] rfl rfl (by kernel_rfl) (fun _ _ _ h => h) (Or.inl ⟨by rfl, ?_⟩) hHeld ?_ ?_; rotate_left; (rintro w' ⟨s0, s1, s2, s3, s4⟩; go_simp; with_reducible rfl); rotate_left; (simp only [Act.put, p1', p2', p3', i64_w, i32_w]; rfl)
  refine take_ (i := 9) (N := some 19) (v := ?_) (a' := ?_) #[Y',Y',Y',Y',Y',Y',Y',Y',Y',Y',N',Y',Y',Y',Y',Y',N',N',N',N'] rfl rfl (by kernel_rfl) (fun _ _ _ h => h) (Or.inl ⟨by rfl, ?_⟩) hHeld ?_ ?_; rotate_left; (rintro w' ⟨s0, s1, s2, s3, s4⟩; go_simp; with_reducible rfl); rotate_left; (simp only [Act.put, p1', p2', p3', i64_w, i32_w]; rfl)
  refine pure_ (i := 10) (N := some 20) (v := ?_) (a' := ?_) #[Y',Y',Y',Y',Y',Y',Y',Y',Y',Y',Y',Y',Y',Y',Y',Y',N',N',N',N'] rfl rfl (by kernel_rfl) (fun _ _ _ h => h) (Or.inl ⟨by rfl, ?_⟩) ?_ ?_; rotate_left; (intro w'; go_simp; with_reducible rfl); rotate_left; (simp only [Act.put, p1', p2', p3', i64_w, i32_w]; rfl)
  refine take_ (i := 16) (N := some 26) (v := ?_) (a' := ?_) #[Y',Y',Y',Y',Y',Y',Y',Y',Y',Y',Y',Y',Y',Y',Y',Y',Y',N',N',N'] rfl rfl (by kernel_rfl) (fun _ _ _ h => h) (Or.inl ⟨by rfl, ?_⟩) hHeld ?_ ?_; rotate_left; (rintro w' ⟨s0, s1, s2, s3, s4⟩; go_simp; with_reducible rfl); rotate_left; (simp only [Act.put, p1', p2', p3', i64_w, i32_w]; rfl)
  refine pure_ (i := 17) (N := some 27) (v := ?_) (a' := ?_) #[Y',Y',Y',Y',Y',Y',Y',Y',Y',Y',Y',Y',Y',Y',Y',Y',Y',Y',N',N'] rfl rfl (by kernel_rfl) (fun _ _ _ h => h) (Or.inl ⟨by rfl, ?_⟩) ?_ ?_; rotate_left; (intro w'; go_simp; with_reducible rfl); rotate_left; (simp only [Act.put, p1', p2', p3', i64_w, i32_w]; rfl)
  refine one_ (i := 18) (N := some 28) #[Y',Y',Y',Y',Y',Y',Y',Y',Y',Y',Y',Y',Y',Y',Y',Y',Y',Y',Y',N'] rfl rfl (by kernel_rfl) (by decide) (fun K hK => ?_)
  refine goes_ Try.func62 (by kernel_rfl) rfl #[.agg #[.int .i64 RW, .int .i64 RH, .slice AR RP.length cR], .int .i64 (wrap64 (x - dx)), .int .i64 (wrap64 (y - dy))] (by rfl) rfl rfl (by simp only [List.map_toArray, List.map_cons, List.map_nil]; rfl) ?_
  with_reducible refine (HG.out _ HB0.out _ _ _ _ (by rw [wrap_id] <;> omega) (by rw [wrap_id] <;> omega)).mono ?_
  rintro e W1 ⟨rfl, hb⟩
  refine ⟨_, rfl, ?_⟩
  have HB1 := Aside0.mk (below_then HB0.out HB0.out.size hb)
  clear hb
  refine hK.out _ _ ⟨(blk_cell (blk_below HZ.out HB1.out) 8).trans rfl, (blk_cell (blk_below HZ.out HB1.out) 9).trans rfl, (blk_cell (blk_below HZ.out HB1.out) 10).trans rfl, (blk_cell (blk_below HZ.out HB1.out) 1).trans rfl, (blk_cell (blk_below HZ.out HB1.out) 2).trans rfl⟩ (fun hHeld => ?_)
  clear hK K
  refine norm_ (a' := ?_) ?_ ?_; rotate_left; (show Act.put _ (some 28) _ = _; simp only [Act.put, p1', p2', p3', i64_w, i32_w]; rfl)
  refine pure_ (i := 19) (N := some 8) (v := ?_) (a' := ?_) #[Y',Y',Y',Y',Y',Y',Y',Y',Y',Y',Y',Y',Y',Y',Y',Y',Y',Y',Y',Y'] rfl rfl (by kernel_rfl) (fun _ _ _ h => h) (Or.inl ⟨by rfl, ?_⟩) ?_ ?_; rotate_left; (intro w'; go_simp; with_reducible rfl); rotate_left; (simp only [Act.put, p1', p2', p3', i64_w, i32_w]; rfl)
  refine done_ (by kernel_rfl) ?_
  obtain ⟨c, hc⟩ : ∃ c, px RW RH RP (x - dx) (y - dy) = c := ⟨_, rfl⟩
  rw [hc] at hR ⊢
  go_wp2_with (fail)
  go_loopw [29] (fun i wr => ∃ k : Nat, k ≤ 9 ∧ i = .int .i64 k ∧ flatF RW RH RP (x - dx) (y - dy) c (9 - k) k = (Rc, Rb) ∧ Aside0 (Below w.heap.size w wr)) (fun i _ => 9 - (intOf i).toNat)
  case atStart => exact ⟨0, by omega, rfl, hR, HB1⟩
  case round =>
    obtain ⟨k, hk, rfl, hF, HB2⟩ := hrel
    by_cases hlt : k < 9
    · have hltk : (k : Int) < 9 := by omega
      go_wp2_with (fail)
      have HB3 := Aside0.mk (below_drew1 HB2.out)
      refine start_ (n := 29) (S := fun w' => w'.cell? ⟨g, 8, none⟩ = some (.int .i64 RW) ∧ w'.cell? ⟨g, 9, none⟩ = some (.int .i64 RH) ∧ w'.cell? ⟨g, 10, none⟩ = some (.slice AR RP.length cR) ∧ w'.cell? ⟨g, 1, none⟩ = some (.int .i64 dx) ∧ w'.cell? ⟨g, 2, none⟩ = some (.int .i64 dy)) (ds := []) #[N',N',N',N',N',N',N',N',N',N',N',N',N',N',N',N',N',N',N',N',N',N',N',N',N',N',N',N',N'] (by kernel_rfl) rfl rfl ⟨(blk_cell (blk_below HZ.out HB3.out) 8).trans rfl, (blk_cell (blk_below HZ.out HB3.out) 9).trans rfl, (blk_cell (blk_below HZ.out HB3.out) 10).trans rfl, (blk_cell (blk_below HZ.out HB3.out) 1).trans rfl, (blk_cell (blk_below HZ.out HB3.out) 2).trans rfl⟩ (fun hHeld => ?_)
      refine pure_ (i := 0) (N := some 32) (v := ?_) (a' := ?_) #[Y',N',N',N',N',N',N',N',N',N',N',N',N',N',N',N',N',N',N',N',N',N',N',N',N',N',N',N',N'] rfl rfl (by kernel_rfl) (fun _ _ _ h => h) (Or.inl ⟨by rfl, ?_⟩) ?_ ?_; rotate_left; (intro w'; go_simp; with_reducible rfl); rotate_left; (simp only [Act.put, p1', p2', p3', i64_w, i32_w]; rfl)
      refine pure_ (i := 1) (N := some 33) (v := ?_) (a' := ?_) #[Y',Y',N',N',N',N',N',N',N',N',N',N',N',N',N',N',N',N',N',N',N',N',N',N',N',N',N',N',N'] rfl rfl (by kernel_rfl) (fun _ _ _ h => h) (Or.inl ⟨by rfl, ?_⟩) ?_ ?_; rotate_left; (intro w'; go_simp; with_reducible rfl); rotate_left; (simp only [Act.put, p1', p2', p3', i64_w, i32_w]; rfl)
      refine pure_ (i := 2) (N := some 34) (v := ?_) (a' := ?_) #[Y',Y',Y',N',N',N',N',N',N',N',N',N',N',N',N',N',N',N',N',N',N',N',N',N',N',N',N',N',N'] rfl rfl (by kernel_rfl) (fun _ _ _ h => h) (Or.inl ⟨by rfl, ?_⟩) ?_ ?_; rotate_left; (intro w'; go_simp; with_reducible rfl); rotate_left; (simp only [Act.put, p1', p2', p3', i64_w, i32_w]; rfl)
      refine pure_ (i := 4) (N := some 36) (v := ?_) (a' := ?_) #[Y',Y',Y',N',Y',N',N',N',N',N',N',N',N',N',N',N',N',N',N',N',N',N',N',N',N',N',N',N',N'] rfl rfl (by kernel_rfl) (fun _ _ _ h => h) (Or.inl ⟨by rfl, ?_⟩) ?_ ?_; rotate_left; (intro w'; go_simp; with_reducible rfl); rotate_left; (simp only [Act.put, p1', p2', p3', i64_w, i32_w]; rfl)
      refine pure_ (i := 5) (N := some 37) (v := ?_) (a' := ?_) #[Y',Y',Y',N',Y',Y',N',N',N',N',N',N',N',N',N',N',N',N',N',N',N',N',N',N',N',N',N',N',N'] rfl rfl (by kernel_rfl) (fun _ _ _ h => h) (Or.inl ⟨by rfl, ?_⟩) ?_ ?_; rotate_left; (intro w'; go_simp; with_reducible rfl); rotate_left; (simp only [Act.put, p1', p2', p3', i64_w, i32_w]; rfl)
      refine pure_ (i := 6) (N := some 38) (v := ?_) (a' := ?_) #[Y',Y',Y',N',Y',Y',Y',N',N',N',N',N',N',N',N',N',N',N',N',N',N',N',N',N',N',N',N',N',N'] rfl rfl (by kernel_rfl) (fun _ _ _ h => h) (Or.inl ⟨by rfl, ?_⟩) ?_ ?_; rotate_left; (intro w'; go_simp; with_reducible rfl); rotate_left; (simp only [Act.put, p1', p2', p3', i64_w, i32_w]; rfl)
      refine pure_ (i := 7) (N := some 39) (v := ?_) (a' := ?_) #[Y',Y',Y',N',Y',Y',Y',Y',N',N',N',N',N',N',N',N',N',N',N',N',N',N',N',N',N',N',N',N',N'] rfl rfl (by kernel_rfl) (fun _ _ _ h => h) (Or.inl ⟨by rfl, ?_⟩) ?_ ?_; rotate_left; (intro w'; go_simp; with_reducible rfl); rotate_left; (simp only [Act.put, p1', p2', p3', i64_w, i32_w]; rfl)
      refine pure_ (i := 8) (N := some 40) (v := ?_) (a' := ?_) #[Y',Y',Y',N',Y',Y',Y',Y',Y',N',N',N',N',N',N',N',N',N',N',N',N',N',N',N',N',N',N',N',N'] rfl rfl (by kernel_rfl) (fun _ _ _ h => h) (Or.inl ⟨by rfl, ?_⟩) ?_ ?_; rotate_left; (intro w'; go_simp; with_reducible rfl); rotate_left; (simp only [Act.put, p1', p2', p3', i64_w, i32_w]; rfl)
      refine pure_ (i := 11) (N := some 43) (v := ?_) (a' := ?_) #[Y',Y',Y',N',Y',Y',Y',Y',Y',N',N',Y',N',N',N',N',N',N',N',N',N',N',N',N',N',N',N',N',N'] rfl rfl (by kernel_rfl) (fun _ _ _ h => h) (Or.inl ⟨by rfl, ?_⟩) ?_ ?_; rotate_left; (intro w'; go_simp; with_reducible rfl); rotate_left; (simp only [Act.put, p1', p2', p3', i64_w, i32_w]; rfl)
      refine pure_ (i := 12) (N := some 44) (v := ?_) (a' := ?_) #[Y',Y',Y',N',Y',Y',Y',Y',Y',N',N',Y',Y',N',N',N',N',N',N',N',N',N',N',N',N',N',N',N',N'] rfl rfl (by kernel_rfl) (fun _ _ _ h => h) (Or.inl ⟨by rfl, ?_⟩) ?_ ?_; rotate_left; (intro w'; go_simp; with_reducible rfl); rotate_left; (simp only [Act.put, p1', p2', p3', i64_w, i32_w]; rfl)
      refine pure_ (i := 15) (N := some 47) (v := ?_) (a' := ?_) #[Y',Y',Y',N',Y',Y',Y',Y',Y',N',N',Y',Y',N',N',Y',N',N',N',N',N',N',N',N',N',N',N',N',N'] rfl rfl (by kernel_rfl) (fun _ _ _ h => h) (Or.inl ⟨by rfl, ?_⟩) ?_ ?_; rotate_left; (intro w'; go_simp; with_reducible rfl); rotate_left; (simp only [Act.put, p1', p2', p3', i64_w, i32_w]; rfl)
      refine pure_ (i := 16) (N := some 48) (v := ?_) (a' := ?_) #[Y',Y',Y',N',Y',Y',Y',Y',Y',N',N',Y',Y',N',N',Y',Y',N',N',N',N',N',N',N',N',N',N',N',N'] rfl rfl (by kernel_rfl) (fun _ _ _ h => h) (Or.inl ⟨by rfl, ?_⟩) ?_ ?_; rotate_left; (intro w'; go_simp; with_reducible rfl); rotate_left; (simp only [Act.put, p1', p2', p3', i64_w, i32_w]; rfl)
      refine pure_ (i := 17) (N := some 49) (v := ?_) (a' := ?_) #[Y',Y',Y',N',Y',Y',Y',Y',Y',N',N',Y',Y',N',N',Y',Y',Y',N',N',N',N',N',N',N',N',N',N',N'] rfl rfl (by kernel_rfl) (fun _ _ _ h => h) (Or.inl ⟨by rfl, ?_⟩) ?_ ?_; rotate_left; (intro w'; go_simp; with_reducible rfl); rotate_left; (simp only [Act.put, p1', p2', p3', i64_w, i32_w]; rfl)
      refine pure_ (i := 18) (N := some 50) (v := ?_) (a' := ?_) #[Y',Y',Y',N',Y',Y',Y',Y',Y',N',N',Y',Y',N',N',Y',Y',Y',Y',N',N',N',N',N',N',N',N',N',N'] rfl rfl (by kernel_rfl) (fun _ _ _ h => h) (Or.inl ⟨by rfl, ?_⟩) ?_ ?_; rotate_left; (intro w'; go_simp; with_reducible rfl); rotate_left; (simp only [Act.put, p1', p2', p3', i64_w, i32_w]; rfl)
      refine pure_ (i := 19) (N := some 51) (v := ?_) (a' := ?_) #[Y',Y',Y',N',Y',Y',Y',Y',Y',N',N',Y',Y',N',N',Y',Y',Y',Y',Y',N',N',N',N',N',N',N',N',N'] rfl rfl (by kernel_rfl) (fun _ _ _ h => h) (Or.inl ⟨by rfl, ?_⟩) ?_ ?_; rotate_left; (intro w'; go_simp; with_reducible rfl); rotate_left; (simp only [Act.put, p1', p2', p3', i64_w, i32_w]; rfl)
      refine pure_ (i := 22) (N := some 54) (v := ?_) (a' := ?_) #[Y',Y',Y',N',Y',Y',Y',Y',Y',N',N',Y',Y',N',N',Y',Y',Y',Y',Y',N',N',Y',N',N',N',N',N',N'] rfl rfl (by kernel_rfl) (fun _ _ _ h => h) (Or.inl ⟨by rfl, ?_⟩) ?_ ?_; rotate_left; (intro w'; go_simp; with_reducible rfl); rotate_left; (simp only [Act.put, p1', p2', p3', i64_w, i32_w]; rfl)
      refine pure_ (i := 23) (N := some 55) (v := ?_) (a' := ?_) #[Y',Y',Y',N',Y',Y',Y',Y',Y',N',N',Y',Y',N',N',Y',Y',Y',Y',Y',N',N',Y',Y',N',N',N',N',N'] rfl rfl (by kernel_rfl) (fun _ _ _ h => h) (Or.inl ⟨by rfl, ?_⟩) ?_ ?_; rotate_left; (intro w'; go_simp; with_reducible rfl); rotate_left; (simp only [Act.put, p1', p2', p3', i64_w, i32_w]; rfl)
      refine pure_ (i := 27) (N := some 59) (v := ?_) (a' := ?_) #[Y',Y',Y',N',Y',Y',Y',Y',Y',N',N',Y',Y',N',N',Y',Y',Y',Y',Y',N',N',Y',Y',N',N',N',Y',N'] rfl rfl (by kernel_rfl) (fun _ _ _ h => h) (Or.inl ⟨by rfl, ?_⟩) ?_ ?_; rotate_left; (intro w'; go_simp; with_reducible rfl); rotate_left; (simp only [Act.put, p1', p2', p3', i64_w, i32_w]; rfl)
      refine take_ (i := 3) (N := some 35) (v := ?_) (a' := ?_) #[Y',Y',Y',Y',Y',Y',Y',Y',Y',N',N',Y',Y',N',N',Y',Y',Y',Y',Y',N',N',Y',Y',N',N',N',Y',N'] rfl rfl (by kernel_rfl) (fun _ _ _ h => h) (Or.inl ⟨by rfl, ?_⟩) hHeld ?_ ?_; rotate_left; (rintro w' ⟨s0, s1, s2, s3, s4⟩; go_simp; with_reducible rfl); rotate_left; (simp only [Act.put, p1', p2', p3', i64_w, i32_w]; rfl)
      refine take_ (i := 9) (N := some 41) (v := ?_) (a' := ?_) #[Y',Y',Y',Y',Y',Y',Y',Y',Y',Y',N',Y',Y',N',N',Y',Y',Y',Y',Y',N',N',Y',Y',N',N',N',Y',N'] rfl rfl (by kernel_rfl) (fun _ _ _ h => h) (Or.inl ⟨by rfl, ?_⟩) hHeld ?_ ?_; rotate_left; (rintro w' ⟨s0, s1, s2, s3, s4⟩; go_simp; with_reducible rfl); rotate_left; (simp only [Act.put, p1', p2', p3', i64_w, i32_w]; rfl)
      refine pure_ (i := 10) (N := some 42) (v := ?_) (a' := ?_) #[Y',Y',Y',Y',Y',Y',Y',Y',Y',Y',Y',Y',Y',N',N',Y',Y',Y',Y',Y',N',N',Y',Y',N',N',N',Y',N'] rfl rfl (by kernel_rfl) (fun _ _ _ h => h) (Or.inl ⟨by rfl, ?_⟩) ?_ ?_; rotate_left; (intro w'; go_simp; with_reducible rfl); rotate_left; (simp only [Act.put, p1', p2', p3', i64_w, i32_w]; rfl)
      refine pure_ (i := 13) (N := some 45) (v := ?_) (a' := ?_) #[Y',Y',Y',Y',Y',Y',Y',Y',Y',Y',Y',Y',Y',Y',N',Y',Y',Y',Y',Y',N',N',Y',Y',N',N',N',Y',N'] rfl rfl (by kernel_rfl) (fun _ _ _ h => h) (Or.inl ⟨by rfl, ?_⟩) ?_ ?_; rotate_left; (intro w'; go_simp; with_reducible rfl); rotate_left; (simp only [Act.put, p1', p2', p3', i64_w, i32_w]; rfl)
      refine pure_ (i := 14) (N := some 46) (v := ?_) (a' := ?_) #[Y',Y',Y',Y',Y',Y',Y',Y',Y',Y',Y',Y',Y',Y',Y',Y',Y',Y',Y',Y',N',N',Y',Y',N',N',N',Y',N'] rfl rfl (by kernel_rfl) (fun _ _ _ h => h) (Or.inl ⟨by rfl, ?_⟩) ?_ ?_; rotate_left; (intro w'; go_simp; with_reducible rfl); rotate_left; (simp only [Act.put, p1', p2', p3', i64_w, i32_w]; rfl)
      refine take_ (i := 20) (N := some 52) (v := ?_) (a' := ?_) #[Y',Y',Y',Y',Y',Y',Y',Y',Y',Y',Y',Y',Y',Y',Y',Y',Y',Y',Y',Y',Y',N',Y',Y',N',N',N',Y',N'] rfl rfl (by kernel_rfl) (fun _ _ _ h => h) (Or.inl ⟨by rfl, ?_⟩) hHeld ?_ ?_; rotate_left; (rintro w' ⟨s0, s1, s2, s3, s4⟩; go_simp; with_reducible rfl); rotate_left; (simp only [Act.put, p1', p2', p3', i64_w, i32_w]; rfl)
      refine pure_ (i := 21) (N := some 53) (v := ?_) (a' := ?_) #[Y',Y',Y',Y',Y',Y',Y',Y',Y',Y',Y',Y',Y',Y',Y',Y',Y',Y',Y',Y',Y',Y',Y',Y',N',N',N',Y',N'] rfl rfl (by kernel_rfl) (fun _ _ _ h => h) (Or.inl ⟨by rfl, ?_⟩) ?_ ?_; rotate_left; (intro w'; go_simp; with_reducible rfl); rotate_left; (simp only [Act.put, p1', p2', p3', i64_w, i32_w]; rfl)
      refine pure_ (i := 24) (N := some 56) (v := ?_) (a' := ?_) #[Y',Y',Y',Y',Y',Y',Y',Y',Y',Y',Y',Y',Y',Y',Y',Y',Y',Y',Y',Y',Y',Y',Y',Y',Y',N',N',Y',N'] rfl rfl (by kernel_rfl) (fun _ _ _ h => h) (Or.inl ⟨by rfl, ?_⟩) ?_ ?_; rotate_left; (intro w'; go_simp; with_reducible rfl); rotate_left; (simp only [Act.put, p1', p2', p3', i64_w, i32_w]; rfl)
      refine pure_ (i := 25) (N := some 57) (v := ?_) (a' := ?_) #[Y',Y',Y',Y',Y',Y',Y',Y',Y',Y',Y',Y',Y',Y',Y',Y',Y',Y',Y',Y',Y',Y',Y',Y',Y',Y',N',Y',N'] rfl rfl (by kernel_rfl) (fun _ _ _ h => h) (Or.inl ⟨by rfl, ?_⟩) ?_ ?_; rotate_left; (intro w'; go_simp; with_reducible rfl); rotate_left; (simp only [Act.put, p1', p2', p3', i64_w, i32_w]; rfl)
      refine one_ (i := 26) (N := some 58) #[Y',Y',Y',Y',Y',Y',Y',Y',Y',Y',Y',Y',Y',Y',Y',Y',Y',Y',Y',Y',Y',Y',Y',Y',Y',Y',Y',Y',N'] rfl rfl (by kernel_rfl) (by decide) (fun K hK => ?_)
      refine goes_ Try.func62 (by kernel_rfl) rfl #[.agg #[.int .i64 RW, .int .i64 RH, .slice AR RP.length cR], .int .i64 (wrap64 (wrap64 (wrap64 (x - dx) + Int.tmod (k : Int) 3) - 1)), .int .i64 (wrap64 (wrap64 (wrap64 (y - dy) + wrap64 (Int.tdiv (k : Int) 3)) - 1))] (by rfl) rfl rfl (by simp only [List.map_toArray, List.map_cons, List.map_nil]; rfl) ?_
      with_reducible refine (HG.out _ HB3.out (x - dx + (k : Int) % 3 - 1) (y - dy + (k : Int) / 3 - 1) _ _ (by rw [Int.tmod_eq_emod_of_nonneg (by omega)]; simp (disch := omega) only [wrap_id]) (by rw [Int.tdiv_eq_ediv_of_nonneg (by omega)]; simp (disch := omega) only [wrap_id])).mono ?_
      rintro e W4 ⟨rfl, hb⟩
      refine ⟨_, rfl, ?_⟩
      have HB4 := Aside0.mk (below_then HB3.out HB3.out.size hb)
      clear hb
      refine hK.out _ _ ⟨(blk_cell (blk_below HZ.out HB4.out) 8).trans rfl, (blk_cell (blk_below HZ.out HB4.out) 9).trans rfl, (blk_cell (blk_below HZ.out HB4.out) 10).trans rfl, (blk_cell (blk_below HZ.out HB4.out) 1).trans rfl, (blk_cell (blk_below HZ.out HB4.out) 2).trans rfl⟩ (fun hHeld => ?_)
      clear hK K
      refine norm_ (a' := ?_) ?_ ?_; rotate_left; (show Act.put _ (some 58) _ = _; simp only [Act.put, p1', p2', p3', i64_w, i32_w]; rfl)
      refine pure_ (i := 28) (N := some 60) (v := ?_) (a' := ?_) #[Y',Y',Y',Y',Y',Y',Y',Y',Y',Y',Y',Y',Y',Y',Y',Y',Y',Y',Y',Y',Y',Y',Y',Y',Y',Y',Y',Y',Y'] rfl rfl (by kernel_rfl) (fun _ _ _ h => h) (Or.inl ⟨by rfl, ?_⟩) ?_ ?_; rotate_left; (intro w'; go_simp; with_reducible rfl); rotate_left; (simp only [Act.put, p1', p2', p3', i64_w, i32_w]; rfl)
      refine done_ (by kernel_rfl) ?_
      obtain ⟨pv, hpv⟩ : ∃ v, px RW RH RP (x - dx + (k : Int) % 3 - 1) (y - dy + (k : Int) / 3 - 1) = v := ⟨_, rfl⟩
      rw [show 9 - k = (9 - (k + 1)) + 1 by omega] at hF
      unfold flatF at hF
      rw [hpv] at hF ⊢
      clear hpv
      by_cases he : pv = c
      · have e1 : (pv != c) = false := by simp [he]
        rw [if_pos he] at hF
        have HF := Aside0.mk hF
        clear hF he
        go_wp2_with (fail)
        exact ⟨⟨k + 1, by omega, by go_num, HF.out, HB4⟩, by simp [intOf] <;> omega⟩
      · have e1 : (pv != c) = true := bne_iff_ne.mpr he
        rw [if_neg he] at hF
        simp only [Prod.mk.injEq] at hF
        obtain ⟨rfl, rfl⟩ := hF
        clear he
        go_wp2_with (fail)
        go_ret2
        exact ⟨rfl, HB4.out⟩
    · obtain rfl : k = 9 := by omega
      have hF2 : (c, true) = (Rc, Rb) := hF
      simp only [Prod.mk.injEq] at hF2
      obtain ⟨rfl, rfl⟩ := hF2
      clear hF
      go_wp2_with (fail)
      go_ret2
      exact ⟨rfl, HB2.out⟩
end Go.Proofs.Ytkfejicdjpffcaa.Rfl
namespace Go.Proofs.Ytkfejicdjpffcaa.U
open Go.RowKit Go.Proofs.YtkfejicdjpffcaaW.PrintWords Go.Proofs.YtkfejicdjpffcaaW.PrintLast Go.Proofs.YtkfejicdjpffcaaW.PrintMore
attribute [local go_sem] max2_int min2_int max_two min_two max_three min_three max_four min_four   -- for this text's walks alone
def refine_beside.f  : Option ((List (S127))) := some (([(⟨0, 0⟩ : S127), (⟨(-1), 0⟩ : S127), (⟨1, 0⟩ : S127), (⟨0, (-1)⟩ : S127), (⟨0, 1⟩ : S127)] : List (S127)))
set_option maxHeartbeats 8000000 in
set_option maxRecDepth 100000 in
theorem refine_beside.calls  (r : List (S127)) (w : World) (h : refine_beside.f  = some r) :
    Calls Try.prog 89 #[] w fun e w' => ∃ v0_ : Value, e = .returned (v0_) ∧ Kd.R k127 127 w' w.heap.size (fun _ => True) v0_ r ∧ Below w.heap.size w w' := by
 have hu127 := Try.underlying127; have HB := Aside0.mk (Below.refl w.heap.size w); have H : (some (([(⟨0, 0⟩ : S127), (⟨(-1), 0⟩ : S127), (⟨1, 0⟩ : S127), (⟨0, (-1)⟩ : S127), (⟨0, 1⟩ : S127)] : List (S127)))) = some r := h; clear h; obtain ⟨y139, hy139⟩ : ∃ y_ : List (S127), y_ = (([(⟨0, 0⟩ : S127), (⟨(-1), 0⟩ : S127), (⟨1, 0⟩ : S127), (⟨0, (-1)⟩ : S127), (⟨0, 1⟩ : S127)] : List (S127))) := ⟨_, rfl⟩; (replace H : (some y139) = some r := by first | (rw [hy139]; with_reducible exact H) | (have H2_ := (Option.bind_some _ _).symm.trans H; rw [hy139]; with_reducible exact H2_) | (have H2_ := (Option.bind_some _ _).symm.trans H; with_reducible exact H2_) | with_reducible exact H | (rw [hy139]; exact H) | exact H); have Ny139 := Aside0.mk hy139; clear hy139; obtain rfl := Option.some.inj H; go_enter Try.func89, Try.ntmps89
 go_wp2_with (first | ((with_reducible refine gate_dst (N := 6) rfl ?_); refine Kd.R_lit k127 _ 127 ?hg (N := 6) ?hd (xs := ([(⟨0, 0⟩ : S127), (⟨(-1), 0⟩ : S127), (⟨1, 0⟩ : S127), (⟨0, (-1)⟩ : S127), (⟨0, 1⟩ : S127)] : List (S127))) (inner := [.int .i64 0, .int .i64 0, .int .i64 (-1), .int .i64 0, .int .i64 1, .int .i64 0, .int .i64 0, .int .i64 (-1), .int .i64 0, .int .i64 1]) (ok := fun _ => True) (okp := fun _ => True) ?hr ?hp (fun _ hk => hk) trivial (Below.refl _ _) (Nat.le_refl _) (by simp) ?_; (case hd => rfl); (case hg => rfl); (case hr => first | (go_simp; done) | (go_simp; rfl)); (case hp => exact (Reps.c2 (show Kd.M k127 _ _ _ (⟨0, 0⟩ : S127) [.int .i64 0, .int .i64 0] from (k127_mkM _ _ _ (⟨0, 0⟩ : S127) )) (Reps.c2 (show Kd.M k127 _ _ _ (⟨(-1), 0⟩ : S127) [.int .i64 (-1), .int .i64 0] from (k127_mkM _ _ _ (⟨(-1), 0⟩ : S127) )) (Reps.c2 (show Kd.M k127 _ _ _ (⟨1, 0⟩ : S127) [.int .i64 1, .int .i64 0] from (k127_mkM _ _ _ (⟨1, 0⟩ : S127) )) (Reps.c2 (show Kd.M k127 _ _ _ (⟨0, (-1)⟩ : S127) [.int .i64 0, .int .i64 (-1)] from (k127_mkM _ _ _ (⟨0, (-1)⟩ : S127) )) (Reps.c2 (show Kd.M k127 _ _ _ (⟨0, 1⟩ : S127) [.int .i64 0, .int .i64 1] from (k127_mkM _ _ _ (⟨0, 1⟩ : S127) )) (Reps.none _ _))))))); intro v140 w1 ho2 hb hg_ hnew_; clear hg_ hnew_; (first | rw [← Ny139.out] at ho2 | (simp only [Int.reduceToNat] at ho2; rw [← Ny139.out] at ho2)); have n0_ := Aside0.mk (Kd.R_lower ho2 (below_size (by repeat (first | (with_reducible first | exact HB.out | apply below_alloc | apply pw_below_drewN | apply below_drew1) | exact HB.out)))); have n1_ := Aside0.mk (below_step (by repeat (first | (with_reducible first | exact HB.out | apply below_alloc | apply pw_below_drewN | apply below_drew1) | exact HB.out)) hb); clear HB; have HO141 := n0_; have HB := n1_; clear n0_ n1_; clear hb ho2))
 go_ret; (exact ⟨_, by first | rfl | (simp [errW_none, errW_some] <;> rfl) | (simp [*, errW_none, errW_some] <;> rfl), by (with_reducible repeat (first | apply Kd.R_alloc | apply Kd.R_drewN | apply Kd.R_drew)); exact HO141.out, by repeat (first | (with_reducible first | exact HB.out | apply below_alloc | apply pw_below_drewN | apply below_drew1) | exact HB.out)⟩)
end Go.Proofs.Ytkfejicdjpffcaa.U
namespace Go.Proofs.Ytkfejicdjpffcaa.Rcx
open Go Go.RowKit Go.Proofs.YtkfejicdjpffcaaW.PrintWords Go.Proofs.YtkfejicdjpffcaaW.PrintLast Go.Proofs.YtkfejicdjpffcaaW.PrintMore Go.Proofs.Ytkfejicdjpffcaa.U Go.Proofs.Ytkfejicdjpffcaa.Aid Go.Proofs.Ytkfejicdjpffcaa.HandAid Go.Proofs.Ytkfejicdjpffcaa.Mods Go.Proofs.Ytkfejicdjpffcaa.Rpx Go.Proofs.Ytkfejicdjpffcaa.Rfl
set_option maxHeartbeats 2000000 in
set_option maxRecDepth 100000 in
theorem context_calls (w : World) (g : Nat) (t dx dy : Int) (ty : Bool) (kd W H : Int) (AB : Option Addr) (cB : Nat) (P : List Int) (RW RH : Int) (AR : Option Addr) (cR : Nat) (RP : List Int) (x y : Int) (hZ : w.heap[g]? = some (.cells (regc t dx dy ty kd W H (.slice AB P.length cB) RW RH (.slice AR RP.length cR)) 109 (0, 0))) (hB : Kd.C (Kd.int .u8) w AB P.length P) (hcB : P.length ≤ cB) (hC : Kd.C (Kd.int .u8) w AR RP.length RP) (hcR : RP.length ≤ cR) (b : Bm W H P) (br : Bm RW RH RP) (ht : t = 0 ∨ t = 1) (hx : -100000 ≤ x ∧ x ≤ 100000) (hy : -100000 ≤ y ∧ y ≤ 100000) (hdx : -100000 ≤ dx ∧ dx ≤ 100000) (hdy : -100000 ≤ dy ∧ dy ≤ 100000) :
    Calls Try.prog 61 #[.pointer (some ⟨g, 0, none⟩), .int .i64 x, .int .i64 y] w fun e w' => e = .returned (.int .i64 (ctxP t dx dy W H P RW RH RP x y)) ∧ Below w.heap.size w w' := by
  have HZ := Aside0.mk hZ
  have HBM := Aside0.mk b
  have HBR := Aside0.mk br
  have HG1 := Aside0.mk (show ∀ (V : World), Below w.heap.size w V → ∀ (a b2 a' b' : Int), a' = a → b' = b2 → Calls Try.prog 62 #[.agg #[.int .i64 W, .int .i64 H, .slice AB P.length cB], .int .i64 a', .int .i64 b'] V fun e W' => e = .returned (.int .u8 (px W H P a b2)) ∧ Below V.heap.size V W' from fun V hb a b2 a' b' ea eb => by subst ea eb; exact refine_grid_at.calls W H AB cB P _ _ _ _ (Kd.C_below hB hb) hcB (grid_eq b _ _))
  have HG2 := Aside0.mk (show ∀ (V : World), Below w.heap.size w V → ∀ (a b2 a' b' : Int), a' = a → b' = b2 → Calls Try.prog 62 #[.agg #[.int .i64 RW, .int .i64 RH, .slice AR RP.length cR], .int .i64 a', .int .i64 b'] V fun e W' => e = .returned (.int .u8 (px RW RH RP a b2)) ∧ Below V.heap.size V W' from fun V hb a b2 a' b' ea eb => by subst ea eb; exact refine_grid_at.calls RW RH AR cR RP _ _ _ _ (Kd.C_below hC hb) hcR (grid_eq br _ _))
  have hu1 := Try.underlying109
  have hu2 := Try.underlying107
  have hu3 := Try.underlying23
  have hu4 := Try.underlying127
  have hk0 : w.cell? ⟨g, 0, none⟩ = some (.int .i64 t) := (blk_cell hZ 0).trans rfl
  have hfr : refine_fresh.f t = some (news t) := by
    rcases ht with rfl | rfl <;> rfl
  have hnl : (news t).length ≤ 4 := by rw [news_len]; split <;> omega
  have hnear := near_news t
  obtain ⟨R, hR⟩ : ∃ r, ctxP t dx dy W H P RW RH RP x y = r := ⟨_, rfl⟩
  rw [hR]
  unfold ctxP at hR
  generalize news t = L at hfr hnl hnear hR
  have HNEAR1 := Aside0.mk hnear
  have HFR := Aside0.mk hfr
  have HR := Aside0.mk hR
  clear hZ hC hB ht hfr hnear b br hR
  go_enter Try.func61, Try.ntmps61
  go_wp2_with (fail)
  refine (refine_fresh.calls t L _ HFR.out).mono ?_
  rintro e W1 ⟨v, rfl, hRv, hb1⟩
  obtain ⟨A1, c1, rfl⟩ := Kd.R_slice hRv
  obtain ⟨-, hc1, hC1⟩ := Kd.R_reads' hRv
  have HC1 := Aside0.mk hC1
  have HB1 := Aside0.mk hb1
  have HD1 := Aside0.mk (Below.refl W1.heap.size W1)
  clear hRv hC1 hb1 hk0
  have hc := ctxN_range HBM.out x y L 0 (Int.le_refl _)
  obtain ⟨C1, hC1⟩ : ∃ r, ctxN W H P x y L 0 = r := ⟨_, rfl⟩
  rw [hC1] at hc HR
  go_wp2_with (fail)
  go_loopw [7, 19] (fun n i wr => ∃ (k : Nat) (nv : Int), k ≤ L.length ∧ n = .int .i64 nv ∧ i = .int .i64 k ∧ 0 ≤ nv ∧ nv ≤ 1048576 ∧ Aside0 ((nv + 1) * 2 ^ (L.length - k) ≤ 1048576) ∧ Aside0 (ctxN W H P x y (L.drop k) nv = C1) ∧ Aside0 (Below w.heap.size w wr) ∧ Aside0 (Below W1.heap.size W1 wr)) (fun _ i _ => L.length - (intOf i).toNat)
  case atStart => exact ⟨0, 0, Nat.zero_le _, rfl, rfl, Int.le_refl _, by decide, ⟨by rw [Nat.sub_zero]; have h2 : (2 : Nat) ^ L.length ≤ 2 ^ 4 := Nat.pow_le_pow_right (by decide) hnl; have e : ((2 ^ L.length : Nat) : Int) = (2 : Int) ^ L.length := Int.natCast_pow 2 _; omega⟩, ⟨by rw [List.drop_zero]; exact hC1⟩, HB1, HD1⟩
  case round =>
    obtain ⟨k, nv, hk, rfl, rfl, hn0, hn1, HP, HQ, HB2, HD2⟩ := hrel
    by_cases hlt : k < L.length
    · have hltk : (k : Int) < L.length := by omega
      obtain ⟨ad, hA, hx0, hx1⟩ := at_T127 (Kd.C_below HC1.out HD2.out) (k : Int) (by omega) hltk
      subst hA
      simp only [Int.toNat_natCast] at hx0 hx1
      obtain ⟨e1, e2⟩ := drop127 hlt
      obtain ⟨d, hd⟩ : ∃ d, rd_T127 L (k : Int) = d := ⟨_, rfl⟩
      rw [hd] at hx0 hx1 e1 e2
      have hdn := HNEAR1.out d e2
      unfold near at hdn
      have hQ := HQ.out
      rw [e1] at hQ
      simp only [ctxN] at hQ
      have HQ2 := Aside0.mk hQ
      have hv := px_01 HBM.out (x + d.f0) (y + d.f1)
      have HS := Aside0.mk (n_step hn0 (d := L.length - (k + 1)) (by have := HP.out; rwa [show L.length - k = L.length - (k + 1) + 1 by omega] at this) hv)
      have hns := HS.out.1
      have hnt : 2 * nv + px W H P (x + d.f0) (y + d.f1) ≤ 1048576 := by
        have h1 : (1 : Int) ≤ 2 ^ (L.length - (k + 1)) := by have : (0 : Int) < 2 ^ (L.length - (k + 1)) := Int.pow_pos (by decide); omega
        have h2 := HS.out.2.1
        have h3 : (2 * nv + px W H P (x + d.f0) (y + d.f1) + 1) * 1 ≤ (2 * nv + px W H P (x + d.f0) (y + d.f1) + 1) * 2 ^ (L.length - (k + 1)) := Int.mul_le_mul_of_nonneg_left h1 (by omega)
        omega
      obtain ⟨g2, hg2⟩ : ∃ q, wr.heap.size = q := ⟨_, rfl⟩
      obtain ⟨W3, hW3⟩ : ∃ q, wr.alloc (.cells #[.int .i64 d.f0, .int .i64 d.f1] 127) = q := ⟨_, rfl⟩
      have HB3 := Aside0.mk (show Below w.heap.size w W3.drew from hW3 ▸ below_drew (below_alloc HB2.out _))
      have HD3 := Aside0.mk (show Below W1.heap.size W1 W3.drew from hW3 ▸ below_drew (below_alloc HD2.out _))
      have HY := Aside0.mk (show W3.drew.heap[g2]? = some (.cells #[.int .i64 d.f0, .int .i64 d.f1] 127 (0, 0)) from hW3 ▸ hg2 ▸ heap_new wr _)
      clear hd e1 e2 hQ HQ HB2 HD2
      go_wp2_with (fail)
      clear hW3 hg2 hx0 hx1
      refine start_ (n := 18) (S := fun w' => w'.cell? ⟨g, 5, none⟩ = some (.int .i64 W) ∧ w'.cell? ⟨g, 6, none⟩ = some (.int .i64 H) ∧ w'.cell? ⟨g, 7, none⟩ = some (.slice AB P.length cB) ∧ w'.cell? ⟨g2, 0, none⟩ = some (.int .i64 d.f0) ∧ w'.cell? ⟨g2, 1, none⟩ = some (.int .i64 d.f1)) (ds := []) #[N',N',N',N',N',N',N',N',N',N',N',N',N',N',N',N',N',N'] (by kernel_rfl) rfl rfl ⟨(blk_cell (blk_below HZ.out HB3.out) 5).trans rfl, (blk_cell (blk_below HZ.out HB3.out) 6).trans rfl, (blk_cell (blk_below HZ.out HB3.out) 7).trans rfl, (blk_cell (HY.out) 0).trans rfl, (blk_cell (HY.out) 1).trans rfl⟩ (fun hHeld => ?_)
      refine pure_ (i := 0) (N := some 23) (v := ?_) (a' := ?_) #[Y',N',N',N',N',N',N',N',N',N',N',N',N',N',N',N',N',N'] rfl rfl (by kernel_rfl) (fun _ _ _ h => h) (Or.inl ⟨by rfl, ?_⟩) ?_ ?_; rotate_left; (intro w'; go_simp; with_reducible rfl); rotate_left; (simp only [Act.put, p1', p2', p3', i64_w, i32_w]; rfl)
      refine pure_ (i := 1) (N := some 24) (v := ?_) (a' := ?_) #[Y',Y',N',N',N',N',N',N',N',N',N',N',N',N',N',N',N',N'] rfl rfl (by kernel_rfl) (fun _ _ _ h => h) (Or.inl ⟨by rfl, ?_⟩) ?_ ?_; rotate_left; (intro w'; go_simp; with_reducible rfl); rotate_left; (simp only [Act.put, p1', p2', p3', i64_w, i32_w]; rfl)
      refine pure_ (i := 2) (N := some 25) (v := ?_) (a' := ?_) #[Y',Y',Y',N',N',N',N',N',N',N',N',N',N',N',N',N',N',N'] rfl rfl (by kernel_rfl) (fun _ _ _ h => h) (Or.inl ⟨by rfl, ?_⟩) ?_ ?_; rotate_left; (intro w'; go_simp; with_reducible rfl); rotate_left; (simp only [Act.put, p1', p2', p3', i64_w, i32_w]; rfl)
      refine pure_ (i := 3) (N := some 26) (v := ?_) (a' := ?_) #[Y',Y',Y',Y',N',N',N',N',N',N',N',N',N',N',N',N',N',N'] rfl rfl (by kernel_rfl) (fun _ _ _ h => h) (Or.inl ⟨by rfl, ?_⟩) ?_ ?_; rotate_left; (intro w'; go_simp; with_reducible rfl); rotate_left; (simp only [Act.put, p1', p2', p3', i64_w, i32_w]; rfl)
      refine pure_ (i := 4) (N := some 27) (v := ?_) (a' := ?_) #[Y',Y',Y',Y',Y',N',N',N',N',N',N',N',N',N',N',N',N',N'] rfl rfl (by kernel_rfl) (fun _ _ _ h => h) (Or.inl ⟨by rfl, ?_⟩) ?_ ?_; rotate_left; (intro w'; go_simp; with_reducible rfl); rotate_left; (simp only [Act.put, p1', p2', p3', i64_w, i32_w]; rfl)
      refine pure_ (i := 6) (N := some 29) (v := ?_) (a' := ?_) #[Y',Y',Y',Y',Y',N',Y',N',N',N',N',N',N',N',N',N',N',N'] rfl rfl (by kernel_rfl) (fun _ _ _ h => h) (Or.inl ⟨by rfl, ?_⟩) ?_ ?_; rotate_left; (intro w'; go_simp; with_reducible rfl); rotate_left; (simp only [Act.put, p1', p2', p3', i64_w, i32_w]; rfl)
      refine pure_ (i := 7) (N := some 30) (v := ?_) (a' := ?_) #[Y',Y',Y',Y',Y',N',Y',Y',N',N',N',N',N',N',N',N',N',N'] rfl rfl (by kernel_rfl) (fun _ _ _ h => h) (Or.inl ⟨by rfl, ?_⟩) ?_ ?_; rotate_left; (intro w'; go_simp; with_reducible rfl); rotate_left; (simp only [Act.put, p1', p2', p3', i64_w, i32_w]; rfl)
      refine pure_ (i := 10) (N := some 33) (v := ?_) (a' := ?_) #[Y',Y',Y',Y',Y',N',Y',Y',N',N',Y',N',N',N',N',N',N',N'] rfl rfl (by kernel_rfl) (fun _ _ _ h => h) (Or.inl ⟨by rfl, ?_⟩) ?_ ?_; rotate_left; (intro w'; go_simp; with_reducible rfl); rotate_left; (simp only [Act.put, p1', p2', p3', i64_w, i32_w]; rfl)
      refine pure_ (i := 11) (N := some 34) (v := ?_) (a' := ?_) #[Y',Y',Y',Y',Y',N',Y',Y',N',N',Y',Y',N',N',N',N',N',N'] rfl rfl (by kernel_rfl) (fun _ _ _ h => h) (Or.inl ⟨by rfl, ?_⟩) ?_ ?_; rotate_left; (intro w'; go_simp; with_reducible rfl); rotate_left; (simp only [Act.put, p1', p2', p3', i64_w, i32_w]; rfl)
      refine take_ (i := 5) (N := some 28) (v := ?_) (a' := ?_) #[Y',Y',Y',Y',Y',Y',Y',Y',N',N',Y',Y',N',N',N',N',N',N'] rfl rfl (by kernel_rfl) (fun _ _ _ h => h) (Or.inl ⟨by rfl, ?_⟩) hHeld ?_ ?_; rotate_left; (rintro w' ⟨s0, s1, s2, s3, s4⟩; go_simp; with_reducible rfl); rotate_left; (simp only [Act.put, p1', p2', p3', i64_w, i32_w]; rfl)
      refine take_ (i := 8) (N := some 31) (v := ?_) (a' := ?_) #[Y',Y',Y',Y',Y',Y',Y',Y',Y',N',Y',Y',N',N',N',N',N',N'] rfl rfl (by kernel_rfl) (fun _ _ _ h => h) (Or.inl ⟨by rfl, ?_⟩) hHeld ?_ ?_; rotate_left; (rintro w' ⟨s0, s1, s2, s3, s4⟩; go_simp; with_reducible rfl); rotate_left; (simp only [Act.put, p1', p2', p3', i64_w, i32_w]; rfl)
      refine pure_ (i := 9) (N := some 32) (v := ?_) (a' := ?_) #[Y',Y',Y',Y',Y',Y',Y',Y',Y',Y',Y',Y',N',N',N',N',N',N'] rfl rfl (by kernel_rfl) (fun _ _ _ h => h) (Or.inl ⟨by rfl, ?_⟩) ?_ ?_; rotate_left; (intro w'; go_simp; with_reducible rfl); rotate_left; (simp only [Act.put, p1', p2', p3', i64_w, i32_w]; rfl)
      refine take_ (i := 12) (N := some 35) (v := ?_) (a' := ?_) #[Y',Y',Y',Y',Y',Y',Y',Y',Y',Y',Y',Y',Y',N',N',N',N',N'] rfl rfl (by kernel_rfl) (fun _ _ _ h => h) (Or.inl ⟨by rfl, ?_⟩) hHeld ?_ ?_; rotate_left; (rintro w' ⟨s0, s1, s2, s3, s4⟩; go_simp; with_reducible rfl); rotate_left; (simp only [Act.put, p1', p2', p3', i64_w, i32_w]; rfl)
      refine pure_ (i := 13) (N := some 36) (v := ?_) (a' := ?_) #[Y',Y',Y',Y',Y',Y',Y',Y',Y',Y',Y',Y',Y',Y',N',N',N',N'] rfl rfl (by kernel_rfl) (fun _ _ _ h => h) (Or.inl ⟨by rfl, ?_⟩) ?_ ?_; rotate_left; (intro w'; go_simp; with_reducible rfl); rotate_left; (simp only [Act.put, p1', p2', p3', i64_w, i32_w]; rfl)
      refine one_ (i := 14) (N := some 37) #[Y',Y',Y',Y',Y',Y',Y',Y',Y',Y',Y',Y',Y',Y',Y',N',N',N'] rfl rfl (by kernel_rfl) (by decide) (fun K hK => ?_)
      refine goes_ Try.func62 (by kernel_rfl) rfl #[.agg #[.int .i64 W, .int .i64 H, .slice AB P.length cB], .int .i64 (wrap64 (x + d.f0)), .int .i64 (wrap64 (y + d.f1))] (by rfl) rfl rfl (by simp only [List.map_toArray, List.map_cons, List.map_nil]; rfl) ?_
      with_reducible refine (HG1.out _ HB3.out (x + d.f0) (y + d.f1) _ _ (by rw [wrap_id] <;> omega) (by rw [wrap_id] <;> omega)).mono ?_
      rintro e W4 ⟨rfl, hb⟩
      refine ⟨_, rfl, ?_⟩
      have HB4 := Aside0.mk (below_then HB3.out HB3.out.size hb)
      have HD4 := Aside0.mk (below_then HD3.out HD3.out.size hb)
      have HY4 := Aside0.mk (blk_below HY.out hb)
      clear hb
      refine hK.out _ _ ⟨(blk_cell (blk_below HZ.out HB4.out) 5).trans rfl, (blk_cell (blk_below HZ.out HB4.out) 6).trans rfl, (blk_cell (blk_below HZ.out HB4.out) 7).trans rfl, (blk_cell (HY4.out) 0).trans rfl, (blk_cell (HY4.out) 1).trans rfl⟩ (fun hHeld => ?_)
      clear hK K
      refine norm_ (a' := ?_) ?_ ?_; rotate_left; (show Act.put _ (some 37) _ = _; simp only [Act.put, p1', p2', p3', i64_w, i32_w]; rfl)
      refine pure_ (i := 15) (N := some 38) (v := ?_) (a' := ?_) #[Y',Y',Y',Y',Y',Y',Y',Y',Y',Y',Y',Y',Y',Y',Y',Y',N',N'] rfl rfl (by kernel_rfl) (fun _ _ _ h => h) (Or.inl ⟨by rfl, ?_⟩) ?_ ?_; rotate_left; (intro w'; go_simp; with_reducible rfl); rotate_left; (simp only [Act.put, p1', p2', p3', i64_w, i32_w]; rfl)
      refine pure_ (i := 16) (N := some 39) (v := ?_) (a' := ?_) #[Y',Y',Y',Y',Y',Y',Y',Y',Y',Y',Y',Y',Y',Y',Y',Y',Y',N'] rfl rfl (by kernel_rfl) (fun _ _ _ h => h) (Or.inl ⟨by rfl, ?_⟩) ?_ ?_; rotate_left; (intro w'; go_simp; with_reducible rfl); rotate_left; (simp only [Act.put, p1', p2', p3', i64_w, i32_w]; rfl)
      refine pure_ (i := 17) (N := some 7) (v := ?_) (a' := ?_) #[Y',Y',Y',Y',Y',Y',Y',Y',Y',Y',Y',Y',Y',Y',Y',Y',Y',Y'] rfl rfl (by kernel_rfl) (fun _ _ _ h => h) (Or.inl ⟨by rfl, ?_⟩) ?_ ?_; rotate_left; (intro w'; go_simp; with_reducible rfl); rotate_left; (simp only [Act.put, p1', p2', p3', i64_w, i32_w]; rfl)
      refine done_ (by kernel_rfl) ?_
      obtain ⟨pv, hpv⟩ : ∃ q, px W H P (x + d.f0) (y + d.f1) = q := ⟨_, rfl⟩
      rw [hpv] at HQ2 HS hv hns hnt ⊢
      clear hpv
      go_wp2_with (fail)
      go_roundw
      case rel => exact ⟨k + 1, 2 * nv + pv, by omega, by first | rfl | (simp (disch := omega) only [wrap_id]), by go_num, hns, hnt, ⟨HS.out.2.1⟩, HQ2, HB4, HD4⟩
      case measure => simp [intOf]; omega
    · have hQ := HQ.out
      rw [List.drop_of_length_le (by omega)] at hQ
      simp only [ctxN] at hQ
      subst hQ
      clear HQ HP HC1 HD1 HD2
      have hc2 := hc.2
      have hp16 : (2 : Int) ^ L.length ≤ 16 := by
        have h2 : (2 : Nat) ^ L.length ≤ 2 ^ 4 := Nat.pow_le_pow_right (by decide) hnl
        have e : ((2 ^ L.length : Nat) : Int) = (2 : Int) ^ L.length := Int.natCast_pow 2 _
        omega
      have hn16 : nv ≤ 15 := by omega
      have hn00 := hc.1
      clear hc hc2 hp16
      go_wp2_with (fail)
      refine (refine_beside.calls besides _ rfl).mono ?_
      rintro e W2 ⟨v2, rfl, hRv, hb2⟩
      obtain ⟨A2, c2, rfl⟩ := Kd.R_slice hRv
      obtain ⟨-, hc2, hC2⟩ := Kd.R_reads' hRv
      have HC2 := Aside0.mk hC2
      have HBn := Aside0.mk (below_then HB2.out HB2.out.size hb2)
      have HD2 := Aside0.mk (Below.refl W2.heap.size W2)
      clear hRv hC2 hb2 HB2
      have HNEAR2 := Aside0.mk (show ∀ d ∈ besides, near d by unfold besides near; simp)
      obtain ⟨M, hM⟩ : ∃ M, besides = M := ⟨_, rfl⟩
      have hml : M.length = 5 := by rw [← hM]; rfl
      rw [hM] at HR HC2 HNEAR2 ⊢
      clear hM
      have HM := Aside0.mk hml
      have hml5 : M.length ≤ 5 := by omega
      clear hml
      have HR2 := HR
      clear HR
      go_wp2_with (fail)
      go_loopw [7, 43] (fun n i wr => ∃ (k : Nat) (nv : Int), k ≤ M.length ∧ n = .int .i64 nv ∧ i = .int .i64 k ∧ 0 ≤ nv ∧ nv ≤ 1048576 ∧ Aside0 ((nv + 1) * 2 ^ (M.length - k) ≤ 1048576) ∧ Aside0 (ctxN RW RH RP (x - dx) (y - dy) (M.drop k) nv = R) ∧ Aside0 (Below w.heap.size w wr) ∧ Aside0 (Below W2.heap.size W2 wr)) (fun _ i _ => M.length - (intOf i).toNat)
      case atStart => exact ⟨0, nv, Nat.zero_le _, rfl, rfl, hn00, by omega, ⟨by rw [HM.out]; have : (2 : Int) ^ (5 - 0) = 32 := rfl; rw [this]; omega⟩, ⟨HR2.out⟩, HBn, HD2⟩
      case round =>
        obtain ⟨k, nv, hk, rfl, rfl, hn0, hn1, HP, HQ, HB2, HD2⟩ := hrel
        by_cases hlt : k < M.length
        · have hltk : (k : Int) < M.length := by omega
          obtain ⟨ad, hA, hx0, hx1⟩ := at_T127 (Kd.C_below HC2.out HD2.out) (k : Int) (by omega) hltk
          subst hA
          simp only [Int.toNat_natCast] at hx0 hx1
          obtain ⟨e1, e2⟩ := drop127 hlt
          obtain ⟨d, hd⟩ : ∃ d, rd_T127 M (k : Int) = d := ⟨_, rfl⟩
          rw [hd] at hx0 hx1 e1 e2
          have hdn := HNEAR2.out d e2
          unfold near at hdn
          have hQ := HQ.out
          rw [e1] at hQ
          simp only [ctxN] at hQ
          have HQ2 := Aside0.mk hQ
          have hv := px_01 HBR.out (x - dx + d.f0) (y - dy + d.f1)
          have HS := Aside0.mk (n_step hn0 (d := M.length - (k + 1)) (by have := HP.out; rwa [show M.length - k = M.length - (k + 1) + 1 by omega] at this) hv)
          have hns := HS.out.1
          have hnt : 2 * nv + px RW RH RP (x - dx + d.f0) (y - dy + d.f1) ≤ 1048576 := by
            have h1 : (1 : Int) ≤ 2 ^ (M.length - (k + 1)) := by have : (0 : Int) < 2 ^ (M.length - (k + 1)) := Int.pow_pos (by decide); omega
            have h2 := HS.out.2.1
            have h3 : (2 * nv + px RW RH RP (x - dx + d.f0) (y - dy + d.f1) + 1) * 1 ≤ (2 * nv + px RW RH RP (x - dx + d.f0) (y - dy + d.f1) + 1) * 2 ^ (M.length - (k + 1)) := Int.mul_le_mul_of_nonneg_left h1 (by omega)
            omega
          obtain ⟨g2, hg2⟩ : ∃ q, wr.heap.size = q := ⟨_, rfl⟩
          obtain ⟨W3, hW3⟩ : ∃ q, wr.alloc (.cells #[.int .i64 d.f0, .int .i64 d.f1] 127) = q := ⟨_, rfl⟩
          have HB3 := Aside0.mk (show Below w.heap.size w W3.drew from hW3 ▸ below_drew (below_alloc HB2.out _))
          have HD3 := Aside0.mk (show Below W2.heap.size W2 W3.drew from hW3 ▸ below_drew (below_alloc HD2.out _))
          have HY := Aside0.mk (show W3.drew.heap[g2]? = some (.cells #[.int .i64 d.f0, .int .i64 d.f1] 127 (0, 0)) from hW3 ▸ hg2 ▸ heap_new wr _)
          clear hd e1 e2 hQ HQ HB2 HD2
          go_wp2_with (fail)
          clear hW3 hg2 hx0 hx1
          refine start_ (n := 30) (S := fun w' => w'.cell? ⟨g, 8, none⟩ = some (.int .i64 RW) ∧ w'.cell? ⟨g, 9, none⟩ = some (.int .i64 RH) ∧ w'.cell? ⟨g, 10, none⟩ = some (.slice AR RP.length cR) ∧ w'.cell? ⟨g, 1, none⟩ = some (.int .i64 dx) ∧ w'.cell? ⟨g, 2, none⟩ = some (.int .i64 dy) ∧ w'.cell? ⟨g2, 0, none⟩ = some (.int .i64 d.f0) ∧ w'.cell? ⟨g2, 1, none⟩ = some (.int .i64 d.f1)) (ds := []) #[N',N',N',N',N',N',N',N',N',N',N',N',N',N',N',N',N',N',N',N',N',N',N',N',N',N',N',N',N',N'] (by kernel_rfl) rfl rfl ⟨(blk_cell (blk_below HZ.out HB3.out) 8).trans rfl, (blk_cell (blk_below HZ.out HB3.out) 9).trans rfl, (blk_cell (blk_below HZ.out HB3.out) 10).trans rfl, (blk_cell (blk_below HZ.out HB3.out) 1).trans rfl, (blk_cell (blk_below HZ.out HB3.out) 2).trans rfl, (blk_cell (HY.out) 0).trans rfl, (blk_cell (HY.out) 1).trans rfl⟩ (fun hHeld => ?_)
          refine pure_ (i := 0) (N := some 47) (v := ?_) (a' := ?_) #[Y',N',N',N',N',N',N',N',N',N',N',N',N',N',N',N',N',N',N',N',N',N',N',N',N',N',N',N',N',N'] rfl rfl (by kernel_rfl) (fun _ _ _ h => h) (Or.inl ⟨by rfl, ?_⟩) ?_ ?_; rotate_left; (intro w'; go_simp; with_reducible rfl); rotate_left; (simp only [Act.put, p1', p2', p3', i64_w, i32_w]; rfl)
          refine pure_ (i := 1) (N := some 48) (v := ?_) (a' := ?_) #[Y',Y',N',N',N',N',N',N',N',N',N',N',N',N',N',N',N',N',N',N',N',N',N',N',N',N',N',N',N',N'] rfl rfl (by kernel_rfl) (fun _ _ _ h => h) (Or.inl ⟨by rfl, ?_⟩) ?_ ?_; rotate_left; (intro w'; go_simp; with_reducible rfl); rotate_left; (simp only [Act.put, p1', p2', p3', i64_w, i32_w]; rfl)
          refine pure_ (i := 2) (N := some 49) (v := ?_) (a' := ?_) #[Y',Y',Y',N',N',N',N',N',N',N',N',N',N',N',N',N',N',N',N',N',N',N',N',N',N',N',N',N',N',N'] rfl rfl (by kernel_rfl) (fun _ _ _ h => h) (Or.inl ⟨by rfl, ?_⟩) ?_ ?_; rotate_left; (intro w'; go_simp; with_reducible rfl); rotate_left; (simp only [Act.put, p1', p2', p3', i64_w, i32_w]; rfl)
          refine pure_ (i := 3) (N := some 50) (v := ?_) (a' := ?_) #[Y',Y',Y',Y',N',N',N',N',N',N',N',N',N',N',N',N',N',N',N',N',N',N',N',N',N',N',N',N',N',N'] rfl rfl (by kernel_rfl) (fun _ _ _ h => h) (Or.inl ⟨by rfl, ?_⟩) ?_ ?_; rotate_left; (intro w'; go_simp; with_reducible rfl); rotate_left; (simp only [Act.put, p1', p2', p3', i64_w, i32_w]; rfl)
          refine pure_ (i := 4) (N := some 51) (v := ?_) (a' := ?_) #[Y',Y',Y',Y',Y',N',N',N',N',N',N',N',N',N',N',N',N',N',N',N',N',N',N',N',N',N',N',N',N',N'] rfl rfl (by kernel_rfl) (fun _ _ _ h => h) (Or.inl ⟨by rfl, ?_⟩) ?_ ?_; rotate_left; (intro w'; go_simp; with_reducible rfl); rotate_left; (simp only [Act.put, p1', p2', p3', i64_w, i32_w]; rfl)
          refine pure_ (i := 6) (N := some 53) (v := ?_) (a' := ?_) #[Y',Y',Y',Y',Y',N',Y',N',N',N',N',N',N',N',N',N',N',N',N',N',N',N',N',N',N',N',N',N',N',N'] rfl rfl (by kernel_rfl) (fun _ _ _ h => h) (Or.inl ⟨by rfl, ?_⟩) ?_ ?_; rotate_left; (intro w'; go_simp; with_reducible rfl); rotate_left; (simp only [Act.put, p1', p2', p3', i64_w, i32_w]; rfl)
          refine pure_ (i := 7) (N := some 54) (v := ?_) (a' := ?_) #[Y',Y',Y',Y',Y',N',Y',Y',N',N',N',N',N',N',N',N',N',N',N',N',N',N',N',N',N',N',N',N',N',N'] rfl rfl (by kernel_rfl) (fun _ _ _ h => h) (Or.inl ⟨by rfl, ?_⟩) ?_ ?_; rotate_left; (intro w'; go_simp; with_reducible rfl); rotate_left; (simp only [Act.put, p1', p2', p3', i64_w, i32_w]; rfl)
          refine pure_ (i := 8) (N := some 55) (v := ?_) (a' := ?_) #[Y',Y',Y',Y',Y',N',Y',Y',Y',N',N',N',N',N',N',N',N',N',N',N',N',N',N',N',N',N',N',N',N',N'] rfl rfl (by kernel_rfl) (fun _ _ _ h => h) (Or.inl ⟨by rfl, ?_⟩) ?_ ?_; rotate_left; (intro w'; go_simp; with_reducible rfl); rotate_left; (simp only [Act.put, p1', p2', p3', i64_w, i32_w]; rfl)
          refine pure_ (i := 9) (N := some 56) (v := ?_) (a' := ?_) #[Y',Y',Y',Y',Y',N',Y',Y',Y',Y',N',N',N',N',N',N',N',N',N',N',N',N',N',N',N',N',N',N',N',N'] rfl rfl (by kernel_rfl) (fun _ _ _ h => h) (Or.inl ⟨by rfl, ?_⟩) ?_ ?_; rotate_left; (intro w'; go_simp; with_reducible rfl); rotate_left; (simp only [Act.put, p1', p2', p3', i64_w, i32_w]; rfl)
          refine pure_ (i := 10) (N := some 57) (v := ?_) (a' := ?_) #[Y',Y',Y',Y',Y',N',Y',Y',Y',Y',Y',N',N',N',N',N',N',N',N',N',N',N',N',N',N',N',N',N',N',N'] rfl rfl (by kernel_rfl) (fun _ _ _ h => h) (Or.inl ⟨by rfl, ?_⟩) ?_ ?_; rotate_left; (intro w'; go_simp; with_reducible rfl); rotate_left; (simp only [Act.put, p1', p2', p3', i64_w, i32_w]; rfl)
          refine pure_ (i := 13) (N := some 60) (v := ?_) (a' := ?_) #[Y',Y',Y',Y',Y',N',Y',Y',Y',Y',Y',N',N',Y',N',N',N',N',N',N',N',N',N',N',N',N',N',N',N',N'] rfl rfl (by kernel_rfl) (fun _ _ _ h => h) (Or.inl ⟨by rfl, ?_⟩) ?_ ?_; rotate_left; (intro w'; go_simp; with_reducible rfl); rotate_left; (simp only [Act.put, p1', p2', p3', i64_w, i32_w]; rfl)
          refine pure_ (i := 16) (N := some 63) (v := ?_) (a' := ?_) #[Y',Y',Y',Y',Y',N',Y',Y',Y',Y',Y',N',N',Y',N',N',Y',N',N',N',N',N',N',N',N',N',N',N',N',N'] rfl rfl (by kernel_rfl) (fun _ _ _ h => h) (Or.inl ⟨by rfl, ?_⟩) ?_ ?_; rotate_left; (intro w'; go_simp; with_reducible rfl); rotate_left; (simp only [Act.put, p1', p2', p3', i64_w, i32_w]; rfl)
          refine pure_ (i := 17) (N := some 64) (v := ?_) (a' := ?_) #[Y',Y',Y',Y',Y',N',Y',Y',Y',Y',Y',N',N',Y',N',N',Y',Y',N',N',N',N',N',N',N',N',N',N',N',N'] rfl rfl (by kernel_rfl) (fun _ _ _ h => h) (Or.inl ⟨by rfl, ?_⟩) ?_ ?_; rotate_left; (intro w'; go_simp; with_reducible rfl); rotate_left; (simp only [Act.put, p1', p2', p3', i64_w, i32_w]; rfl)
          refine pure_ (i := 18) (N := some 65) (v := ?_) (a' := ?_) #[Y',Y',Y',Y',Y',N',Y',Y',Y',Y',Y',N',N',Y',N',N',Y',Y',Y',N',N',N',N',N',N',N',N',N',N',N'] rfl rfl (by kernel_rfl) (fun _ _ _ h => h) (Or.inl ⟨by rfl, ?_⟩) ?_ ?_; rotate_left; (intro w'; go_simp; with_reducible rfl); rotate_left; (simp only [Act.put, p1', p2', p3', i64_w, i32_w]; rfl)
          refine pure_ (i := 19) (N := some 66) (v := ?_) (a' := ?_) #[Y',Y',Y',Y',Y',N',Y',Y',Y',Y',Y',N',N',Y',N',N',Y',Y',Y',Y',N',N',N',N',N',N',N',N',N',N'] rfl rfl (by kernel_rfl) (fun _ _ _ h => h) (Or.inl ⟨by rfl, ?_⟩) ?_ ?_; rotate_left; (intro w'; go_simp; with_reducible rfl); rotate_left; (simp only [Act.put, p1', p2', p3', i64_w, i32_w]; rfl)
          refine pure_ (i := 20) (N := some 67) (v := ?_) (a' := ?_) #[Y',Y',Y',Y',Y',N',Y',Y',Y',Y',Y',N',N',Y',N',N',Y',Y',Y',Y',Y',N',N',N',N',N',N',N',N',N'] rfl rfl (by kernel_rfl) (fun _ _ _ h => h) (Or.inl ⟨by rfl, ?_⟩) ?_ ?_; rotate_left; (intro w'; go_simp; with_reducible rfl); rotate_left; (simp only [Act.put, p1', p2', p3', i64_w, i32_w]; rfl)
          refine pure_ (i := 23) (N := some 70) (v := ?_) (a' := ?_) #[Y',Y',Y',Y',Y',N',Y',Y',Y',Y',Y',N',N',Y',N',N',Y',Y',Y',Y',Y',N',N',Y',N',N',N',N',N',N'] rfl rfl (by kernel_rfl) (fun _ _ _ h => h) (Or.inl ⟨by rfl, ?_⟩) ?_ ?_; rotate_left; (intro w'; go_simp; with_reducible rfl); rotate_left; (simp only [Act.put, p1', p2', p3', i64_w, i32_w]; rfl)
          refine take_ (i := 5) (N := some 52) (v := ?_) (a' := ?_) #[Y',Y',Y',Y',Y',Y',Y',Y',Y',Y',Y',N',N',Y',N',N',Y',Y',Y',Y',Y',N',N',Y',N',N',N',N',N',N'] rfl rfl (by kernel_rfl) (fun _ _ _ h => h) (Or.inl ⟨by rfl, ?_⟩) hHeld ?_ ?_; rotate_left; (rintro w' ⟨s0, s1, s2, s3, s4, s5, s6⟩; go_simp; with_reducible rfl); rotate_left; (simp only [Act.put, p1', p2', p3', i64_w, i32_w]; rfl)
          refine take_ (i := 11) (N := some 58) (v := ?_) (a' := ?_) #[Y',Y',Y',Y',Y',Y',Y',Y',Y',Y',Y',Y',N',Y',N',N',Y',Y',Y',Y',Y',N',N',Y',N',N',N',N',N',N'] rfl rfl (by kernel_rfl) (fun _ _ _ h => h) (Or.inl ⟨by rfl, ?_⟩) hHeld ?_ ?_; rotate_left; (rintro w' ⟨s0, s1, s2, s3, s4, s5, s6⟩; go_simp; with_reducible rfl); rotate_left; (simp only [Act.put, p1', p2', p3', i64_w, i32_w]; rfl)
          refine pure_ (i := 12) (N := some 59) (v := ?_) (a' := ?_) #[Y',Y',Y',Y',Y',Y',Y',Y',Y',Y',Y',Y',Y',Y',N',N',Y',Y',Y',Y',Y',N',N',Y',N',N',N',N',N',N'] rfl rfl (by kernel_rfl) (fun _ _ _ h => h) (Or.inl ⟨by rfl, ?_⟩) ?_ ?_; rotate_left; (intro w'; go_simp; with_reducible rfl); rotate_left; (simp only [Act.put, p1', p2', p3', i64_w, i32_w]; rfl)
          refine take_ (i := 14) (N := some 61) (v := ?_) (a' := ?_) #[Y',Y',Y',Y',Y',Y',Y',Y',Y',Y',Y',Y',Y',Y',Y',N',Y',Y',Y',Y',Y',N',N',Y',N',N',N',N',N',N'] rfl rfl (by kernel_rfl) (fun _ _ _ h => h) (Or.inl ⟨by rfl, ?_⟩) hHeld ?_ ?_; rotate_left; (rintro w' ⟨s0, s1, s2, s3, s4, s5, s6⟩; go_simp; with_reducible rfl); rotate_left; (simp only [Act.put, p1', p2', p3', i64_w, i32_w]; rfl)
          refine pure_ (i := 15) (N := some 62) (v := ?_) (a' := ?_) #[Y',Y',Y',Y',Y',Y',Y',Y',Y',Y',Y',Y',Y',Y',Y',Y',Y',Y',Y',Y',Y',N',N',Y',N',N',N',N',N',N'] rfl rfl (by kernel_rfl) (fun _ _ _ h => h) (Or.inl ⟨by rfl, ?_⟩) ?_ ?_; rotate_left; (intro w'; go_simp; with_reducible rfl); rotate_left; (simp only [Act.put, p1', p2', p3', i64_w, i32_w]; rfl)
          refine take_ (i := 21) (N := some 68) (v := ?_) (a' := ?_) #[Y',Y',Y',Y',Y',Y',Y',Y',Y',Y',Y',Y',Y',Y',Y',Y',Y',Y',Y',Y',Y',Y',N',Y',N',N',N',N',N',N'] rfl rfl (by kernel_rfl) (fun _ _ _ h => h) (Or.inl ⟨by rfl, ?_⟩) hHeld ?_ ?_; rotate_left; (rintro w' ⟨s0, s1, s2, s3, s4, s5, s6⟩; go_simp; with_reducible rfl); rotate_left; (simp only [Act.put, p1', p2', p3', i64_w, i32_w]; rfl)
          refine pure_ (i := 22) (N := some 69) (v := ?_) (a' := ?_) #[Y',Y',Y',Y',Y',Y',Y',Y',Y',Y',Y',Y',Y',Y',Y',Y',Y',Y',Y',Y',Y',Y',Y',Y',N',N',N',N',N',N'] rfl rfl (by kernel_rfl) (fun _ _ _ h => h) (Or.inl ⟨by rfl, ?_⟩) ?_ ?_; rotate_left; (intro w'; go_simp; with_reducible rfl); rotate_left; (simp only [Act.put, p1', p2', p3', i64_w, i32_w]; rfl)
          refine take_ (i := 24) (N := some 71) (v := ?_) (a' := ?_) #[Y',Y',Y',Y',Y',Y',Y',Y',Y',Y',Y',Y',Y',Y',Y',Y',Y',Y',Y',Y',Y',Y',Y',Y',Y',N',N',N',N',N'] rfl rfl (by kernel_rfl) (fun _ _ _ h => h) (Or.inl ⟨by rfl, ?_⟩) hHeld ?_ ?_; rotate_left; (rintro w' ⟨s0, s1, s2, s3, s4, s5, s6⟩; go_simp; with_reducible rfl); rotate_left; (simp only [Act.put, p1', p2', p3', i64_w, i32_w]; rfl)
          refine pure_ (i := 25) (N := some 72) (v := ?_) (a' := ?_) #[Y',Y',Y',Y',Y',Y',Y',Y',Y',Y',Y',Y',Y',Y',Y',Y',Y',Y',Y',Y',Y',Y',Y',Y',Y',Y',N',N',N',N'] rfl rfl (by kernel_rfl) (fun _ _ _ h => h) (Or.inl ⟨by rfl, ?_⟩) ?_ ?_; rotate_left; (intro w'; go_simp; with_reducible rfl); rotate_left; (simp only [Act.put, p1', p2', p3', i64_w, i32_w]; rfl)
          refine one_ (i := 26) (N := some 73) #[Y',Y',Y',Y',Y',Y',Y',Y',Y',Y',Y',Y',Y',Y',Y',Y',Y',Y',Y',Y',Y',Y',Y',Y',Y',Y',Y',N',N',N'] rfl rfl (by kernel_rfl) (by decide) (fun K hK => ?_)
          refine goes_ Try.func62 (by kernel_rfl) rfl #[.agg #[.int .i64 RW, .int .i64 RH, .slice AR RP.length cR], .int .i64 (wrap64 (wrap64 (x - dx) + d.f0)), .int .i64 (wrap64 (wrap64 (y - dy) + d.f1))] (by rfl) rfl rfl (by simp only [List.map_toArray, List.map_cons, List.map_nil]; rfl) ?_
          with_reducible refine (HG2.out _ HB3.out (x - dx + d.f0) (y - dy + d.f1) _ _ (by simp (disch := omega) only [wrap_id]) (by simp (disch := omega) only [wrap_id])).mono ?_
          rintro e W4 ⟨rfl, hb⟩
          refine ⟨_, rfl, ?_⟩
          have HB4 := Aside0.mk (below_then HB3.out HB3.out.size hb)
          have HD4 := Aside0.mk (below_then HD3.out HD3.out.size hb)
          have HY4 := Aside0.mk (blk_below HY.out hb)
          clear hb
          refine hK.out _ _ ⟨(blk_cell (blk_below HZ.out HB4.out) 8).trans rfl, (blk_cell (blk_below HZ.out HB4.out) 9).trans rfl, (blk_cell (blk_below HZ.out HB4.out) 10).trans rfl, (blk_cell (blk_below HZ.out HB4.out) 1).trans rfl, (blk_cell (blk_below HZ.out HB4.out) 2).trans rfl, (blk_cell (HY4.out) 0).trans rfl, (blk_cell (HY4.out) 1).trans rfl⟩ (fun hHeld => ?_)
          clear hK K
          refine norm_ (a' := ?_) ?_ ?_; rotate_left; (show Act.put _ (some 73) _ = _; simp only [Act.put, p1', p2', p3', i64_w, i32_w]; rfl)
          refine pure_ (i := 27) (N := some 74) (v := ?_) (a' := ?_) #[Y',Y',Y',Y',Y',Y',Y',Y',Y',Y',Y',Y',Y',Y',Y',Y',Y',Y',Y',Y',Y',Y',Y',Y',Y',Y',Y',Y',N',N'] rfl rfl (by kernel_rfl) (fun _ _ _ h => h) (Or.inl ⟨by rfl, ?_⟩) ?_ ?_; rotate_left; (intro w'; go_simp; with_reducible rfl); rotate_left; (simp only [Act.put, p1', p2', p3', i64_w, i32_w]; rfl)
          refine pure_ (i := 28) (N := some 75) (v := ?_) (a' := ?_) #[Y',Y',Y',Y',Y',Y',Y',Y',Y',Y',Y',Y',Y',Y',Y',Y',Y',Y',Y',Y',Y',Y',Y',Y',Y',Y',Y',Y',Y',N'] rfl rfl (by kernel_rfl) (fun _ _ _ h => h) (Or.inl ⟨by rfl, ?_⟩) ?_ ?_; rotate_left; (intro w'; go_simp; with_reducible rfl); rotate_left; (simp only [Act.put, p1', p2', p3', i64_w, i32_w]; rfl)
          refine pure_ (i := 29) (N := some 7) (v := ?_) (a' := ?_) #[Y',Y',Y',Y',Y',Y',Y',Y',Y',Y',Y',Y',Y',Y',Y',Y',Y',Y',Y',Y',Y',Y',Y',Y',Y',Y',Y',Y',Y',Y'] rfl rfl (by kernel_rfl) (fun _ _ _ h => h) (Or.inl ⟨by rfl, ?_⟩) ?_ ?_; rotate_left; (intro w'; go_simp; with_reducible rfl); rotate_left; (simp only [Act.put, p1', p2', p3', i64_w, i32_w]; rfl)
          refine done_ (by kernel_rfl) ?_
          obtain ⟨pv, hpv⟩ : ∃ q, px RW RH RP (x - dx + d.f0) (y - dy + d.f1) = q := ⟨_, rfl⟩
          rw [hpv] at HQ2 HS hv hns hnt ⊢
          clear hpv
          go_wp2_with (fail)
          go_roundw
          case rel => exact ⟨k + 1, 2 * nv + pv, by omega, by first | rfl | (simp (disch := omega) only [wrap_id]), by go_num, hns, hnt, ⟨HS.out.2.1⟩, HQ2, HB4, HD4⟩
          case measure => simp [intOf]; omega
        · have hQ := HQ.out
          rw [List.drop_of_length_le (by omega)] at hQ
          simp only [ctxN] at hQ
          subst hQ
          go_wp2_with (fail)
          go_ret
          exact ⟨rfl, HB2.out⟩
end Go.Proofs.Ytkfejicdjpffcaa.Rcx
namespace Go.Proofs.Ytkfejicdjpffcaa.Rty
open Go Go.RowKit Go.Proofs.YtkfejicdjpffcaaW.PrintWords Go.Proofs.YtkfejicdjpffcaaW.PrintLast Go.Proofs.YtkfejicdjpffcaaW.PrintMore Go.Proofs.Ytkfejicdjpffcaa.U Go.Proofs.Ytkfejicdjpffcaa.Aid Go.Proofs.Ytkfejicdjpffcaa.HandAid Go.Proofs.Ytkfejicdjpffcaa.Mods Go.Proofs.Ytkfejicdjpffcaa.Rpx Go.Proofs.Ytkfejicdjpffcaa.Rfl Go.Proofs.Ytkfejicdjpffcaa.Rcx
/-- A region at g: its cells, its two bitmaps' rows. -/
structure Reg (w : World) (g : Nat) (t dx dy : Int) (ty : Bool) (kd W H : Int) (AB : Option Addr) (cB : Nat) (P : List Int) (RW RH : Int) (AR : Option Addr) (cR : Nat) (RP : List Int) : Prop where
  z : w.heap[g]? = some (.cells (regc t dx dy ty kd W H (.slice AB P.length cB) RW RH (.slice AR RP.length cR)) 109 (0, 0))
  cb : Kd.C (Kd.int .u8) w AB P.length P
  hcb : P.length ≤ cB
  cr : Kd.C (Kd.int .u8) w AR RP.length RP
  hcr : RP.length ≤ cR
  b : Bm W H P
  r : Bm RW RH RP
  t01 : t = 0 ∨ t = 1
  dx_ : -100000 ≤ dx ∧ dx ≤ 100000
  dy_ : -100000 ≤ dy ∧ dy ≤ 100000
section
variable {w w' : World} {g : Nat} {t dx dy : Int} {ty : Bool} {kd W H : Int} {AB : Option Addr} {cB : Nat} {P : List Int} {RW RH : Int} {AR : Option Addr} {cR : Nat} {RP : List Int}
theorem Reg.below (R : Reg w g t dx dy ty kd W H AB cB P RW RH AR cR RP) (hb : Below w.heap.size w w') : Reg w' g t dx dy ty kd W H AB cB P RW RH AR cR RP :=
  ⟨blk_below R.z hb, Kd.C_below R.cb hb, R.hcb, Kd.C_below R.cr hb, R.hcr, R.b, R.r, R.t01, R.dx_, R.dy_⟩
theorem Reg.flat (R : Reg w g t dx dy ty kd W H AB cB P RW RH AR cR RP) (x y : Int) (hx : -100000 ≤ x ∧ x ≤ 100000) (hy : -100000 ≤ y ∧ y ≤ 100000) :
    Calls Try.prog 60 #[.pointer (some ⟨g, 0, none⟩), .int .i64 x, .int .i64 y] w fun e w' => e = .returned (.tuple #[.int .u8 (flatP RW RH RP (x - dx) (y - dy)).1, .bool (flatP RW RH RP (x - dx) (y - dy)).2]) ∧ Below w.heap.size w w' :=
  flat_calls w g t dx dy ty kd W H _ RW RH AR cR RP x y R.z R.cr R.hcr R.r hx hy R.dx_ R.dy_
theorem Reg.context (R : Reg w g t dx dy ty kd W H AB cB P RW RH AR cR RP) (x y : Int) (hx : -100000 ≤ x ∧ x ≤ 100000) (hy : -100000 ≤ y ∧ y ≤ 100000) :
    Calls Try.prog 61 #[.pointer (some ⟨g, 0, none⟩), .int .i64 x, .int .i64 y] w fun e w' => e = .returned (.int .i64 (ctxP t dx dy W H P RW RH RP x y)) ∧ Below w.heap.size w w' :=
  context_calls w g t dx dy ty kd W H AB cB P RW RH AR cR RP x y R.z R.cb R.hcb R.cr R.hcr R.b R.r R.t01 hx hy R.dx_ R.dy_
theorem Reg.at_ (R : Reg w g t dx dy ty kd W H AB cB P RW RH AR cR RP) (x y : Int) :
    Calls Try.prog 62 #[.agg #[.int .i64 W, .int .i64 H, .slice AB P.length cB], .int .i64 x, .int .i64 y] w fun e w' => e = .returned (.int .u8 (px W H P x y)) ∧ Below w.heap.size w w' :=
  refine_grid_at.calls W H AB cB P _ _ _ _ R.cb R.hcb (grid_eq R.b _ _)
end
set_option maxHeartbeats 2000000 in
set_option maxRecDepth 100000 in
theorem typical_calls (w : World) (g : Nat) (t dx dy : Int) (ty : Bool) (kd W H : Int) (AB : Option Addr) (cB : Nat) (P : List Int) (RW RH : Int) (AR : Option Addr) (cR : Nat) (RP : List Int) (y : Int) (hR : Reg w g t dx dy ty kd W H AB cB P RW RH AR cR RP) (hy : -100000 ≤ y ∧ y ≤ 100000) :
    Calls Try.prog 59 #[.pointer (some ⟨g, 0, none⟩), .int .i64 y] w fun e w' => e = .returned (.bool (rowP dx dy W H P RW RH RP y W.toNat 0)) ∧ Below w.heap.size w w' := by
  have HR := Aside0.mk hR
  have hu1 := Try.underlying109
  have hu2 := Try.underlying107
  have hu3 := Try.underlying23
  have hw := hR.b.w
  have hk5 : w.cell? ⟨g, 5, none⟩ = some (.int .i64 W) := (blk_cell hR.z 5).trans rfl
  have HB0 := Aside0.mk (Below.refl w.heap.size w)
  clear hR
  obtain ⟨R, hQ⟩ : ∃ r, rowP dx dy W H P RW RH RP y W.toNat 0 = r := ⟨_, rfl⟩
  rw [hQ]
  go_enter Try.func59, Try.ntmps59
  go_wp2_with (fail)
  go_loopw [13] (fun i wr => ∃ k : Nat, k ≤ W.toNat ∧ i = .int .i64 k ∧ rowP dx dy W H P RW RH RP y (W.toNat - k) k = R ∧ Aside0 (Below w.heap.size w wr)) (fun i _ => W.toNat - (intOf i).toNat)
  case atStart => exact ⟨0, Nat.zero_le _, rfl, hQ, HB0⟩
  clear hk5 HB0 hQ
  case round =>
    obtain ⟨k, hk, rfl, hQ, HB1⟩ := hrel
    by_cases hlt : k < W.toNat
    · have hltk : (k : Int) < W := by omega
      rw [show W.toNat - k = (W.toNat - (k + 1)) + 1 by omega] at hQ
      unfold rowP at hQ
      go_wp2_with (fail)
      refine ((HR.out.below HB1.out).flat (k : Int) y (by omega) hy).mono ?_
      rintro e W2 ⟨rfl, hb⟩
      have HB2 := Aside0.mk (below_then HB1.out HB1.out.size hb)
      clear hb HB1
      obtain ⟨⟨c, is⟩, hF⟩ : ∃ r, flatP RW RH RP ((k : Int) - dx) (y - dy) = r := ⟨_, rfl⟩
      rw [hF] at hQ ⊢
      clear hF
      simp only at hQ ⊢
      cases is
      · rw [if_neg (by decide)] at hQ
        have HQ := Aside0.mk hQ
        clear hQ
        go_wp2_with (fail)
        exact ⟨⟨k + 1, by omega, by go_num, HQ.out, HB2⟩, by simp [intOf]; omega⟩
      · rw [if_pos rfl] at hQ
        have hR2 := HR.out.below HB2.out
        have q5 : W2.cell? ⟨g, 5, none⟩ = some (.int .i64 W) := (blk_cell hR2.z 5).trans rfl
        have q6 : W2.cell? ⟨g, 6, none⟩ = some (.int .i64 H) := (blk_cell hR2.z 6).trans rfl
        have q7 : W2.cell? ⟨g, 7, none⟩ = some (.slice AB P.length cB) := (blk_cell hR2.z 7).trans rfl
        have HR2 := Aside0.mk hR2
        have HQ := Aside0.mk hQ
        clear hR2 hQ
        go_wp2_with (fail)
        refine (HR2.out.at_ (k : Int) y).mono ?_
        rintro e W3 ⟨rfl, hb⟩
        have HB3 := Aside0.mk (below_then HB2.out HB2.out.size hb)
        clear hb
        have hQ := HQ.out
        clear HQ q5 q6 q7
        obtain ⟨pv, hpv⟩ : ∃ q, px W H P (k : Int) y = q := ⟨_, rfl⟩
        rw [hpv] at hQ ⊢
        clear hpv
        by_cases he : pv = c
        · have e1 : (c != pv) = false := by simp [he]
          rw [if_pos he] at hQ
          have HQ := Aside0.mk hQ
          clear hQ he
          go_wp2_with (fail)
          exact ⟨⟨k + 1, by omega, by go_num, HQ.out, HB3⟩, by simp [intOf]; omega⟩
        · have e1 : (c != pv) = true := bne_iff_ne.mpr (fun h => he h.symm)
          rw [if_neg he] at hQ
          subst hQ
          clear he
          go_wp2_with (fail)
          go_ret
          exact ⟨rfl, HB3.out⟩
    · obtain rfl : k = W.toNat := by omega
      rw [Nat.sub_self] at hQ
      have hQ2 : true = R := hQ
      subst hQ2
      go_wp2_with (fail)
      go_ret
      exact ⟨rfl, HB1.out⟩
set_option maxHeartbeats 1000000 in
set_option maxRecDepth 100000 in
theorem newRegion_calls (w : World) (t dx dy : Int) (ty : Bool) (kd W H : Int) (vb : Value) (RW RH : Int) (vr : Value) (AB : Option Addr) (nB cB : Nat) (AR : Option Addr) (nR cR : Nat) (hvb : vb = .slice AB nB cB) (hvr : vr = .slice AR nR cR) :
    Calls Try.prog 58 #[.agg #[.int .i64 t, .int .i64 dx, .int .i64 dy, .bool ty, .int .i64 kd], .int .i64 W, .int .i64 H, vb, .agg #[.int .i64 RW, .int .i64 RH, vr]] w fun e w' => ∃ g, e = .returned (.pointer (some ⟨g, 0, none⟩)) ∧ w.heap.size ≤ g ∧ w'.heap[g]? = some (.cells (regc t dx dy ty kd W H vb RW RH vr) 109 (0, 0)) ∧ Below w.heap.size w w' := by
  subst hvb hvr
  have hu1 := Try.underlying109
  have hu2 := Try.underlying107
  have hu3 := Try.underlying23
  have hu4 := Try.underlying31
  go_enter Try.func58, Try.ntmps58
  go_wp2_with (fail)
  go_ret
  refine ⟨_, rfl, ?_, ?_, below_alloc (below_alloc (below_alloc (Below.refl _ _) _) _) _⟩
  · omega
  · have h := heap_new ((w.alloc (.cells #[.int .i64 t, .int .i64 dx, .int .i64 dy, .bool ty, .int .i64 kd] 23)).alloc (.cells #[.int .i64 RW, .int .i64 RH, .slice AR nR cR] 31)) (.cells (regc t dx dy ty kd W H (.slice AB nB cB) RW RH (.slice AR nR cR)) 109)
    rw [World.size_alloc, World.size_alloc] at h
    exact h
end Go.Proofs.Ytkfejicdjpffcaa.Rty
namespace Go.Proofs.Ytkfejicdjpffcaa.Rev
open Go Go.RowKit Go.Proofs.YtkfejicdjpffcaaW.PrintWords Go.Proofs.YtkfejicdjpffcaaW.PrintLast Go.Proofs.YtkfejicdjpffcaaW.PrintMore Go.Proofs.Ytkfejicdjpffcaa.U Go.Proofs.Ytkfejicdjpffcaa.Aid Go.Proofs.Ytkfejicdjpffcaa.HandAid Go.Proofs.Ytkfejicdjpffcaa.Cod1 Go.Proofs.Ytkfejicdjpffcaa.Cod2 Go.Proofs.Ytkfejicdjpffcaa.Cod3 Go.Proofs.Ytkfejicdjpffcaa.Mod Go.Proofs.Ytkfejicdjpffcaa.Enc Go.Proofs.Ytkfejicdjpffcaa.Mods Go.Proofs.Ytkfejicdjpffcaa.EncAt Go.Proofs.Ytkfejicdjpffcaa.Put Go.Proofs.Ytkfejicdjpffcaa.End Go.Proofs.Ytkfejicdjpffcaa.Snc Go.Proofs.Ytkfejicdjpffcaa.Pse Go.Proofs.Ytkfejicdjpffcaa.Rpx Go.Proofs.Ytkfejicdjpffcaa.Rva
/-- What a region is coded by: options, sides, the reference, the base of its contexts. -/
structure RQ where
  t : Int
  dx : Int
  dy : Int
  ty : Bool
  W : Int
  H : Int
  RW : Int
  RH : Int
  RP : List Int
  base : Int
def RQ.ctx (q : RQ) (P : List Int) (x y : Int) : Int := ctxP q.t q.dx q.dy q.W q.H P q.RW q.RH q.RP x y
def RQ.flat (q : RQ) (x y : Int) : Int × Bool := flatP q.RW q.RH q.RP (x - q.dx) (y - q.dy)
def RQ.typ (q : RQ) (P : List Int) (y : Int) : Bool := q.ty && rowP q.dx q.dy q.W q.H P q.RW q.RH q.RP y q.W.toNat 0
/-- The events of a row, from pixel i on. -/
def evX (q : RQ) (P : List Int) (y : Int) (typ : Bool) : Nat → Nat → List S72
  | 0, _ => []
  | d + 1, i => if typ = true ∧ (q.flat i y).2 = true then evX q P y typ d (i + 1) else ⟨q.base + q.ctx P i y, px q.W q.H P i y⟩ :: evX q P y typ d (i + 1)
def bit1 (b : Bool) : Int := if b = true then 1 else 0
/-- The event ahead of a row. -/
def evH (q : RQ) (P : List Int) (y : Int) : List S72 := if q.ty = true then [⟨q.base + ctxs q.t, bit1 (q.typ P y)⟩] else []
/-- The events of the rows from j on. -/
def evY (q : RQ) (P : List Int) : Nat → Nat → List S72
  | 0, _ => []
  | d + 1, j => evH q P j ++ (evX q P j (q.typ P j) q.W.toNat 0 ++ evY q P d (j + 1))
/-- The events of a region. -/
def evR (q : RQ) (P : List Int) : List S72 := evY q P q.H.toNat 0
theorem evX_len (q : RQ) (P : List Int) (y : Int) (typ : Bool) : ∀ d i, (evX q P y typ d i).length ≤ d
  | 0, i => Nat.le_refl _
  | d + 1, i => by
    unfold evX
    have := evX_len q P y typ d (i + 1)
    split
    · omega
    · rw [List.length_cons]; omega
theorem evH_len (q : RQ) (P : List Int) (y : Int) : (evH q P y).length ≤ 1 := by
  unfold evH
  split <;> simp
theorem evY_len (q : RQ) (P : List Int) : ∀ d j, (evY q P d j).length ≤ d * (q.W.toNat + 1)
  | 0, j => Nat.zero_le _
  | d + 1, j => by
    unfold evY
    have h1 := evY_len q P d (j + 1)
    have h2 := evX_len q P j (q.typ P j) q.W.toNat 0
    have h3 := evH_len q P j
    rw [List.length_append, List.length_append, Nat.succ_mul]
    omega
theorem evR_len (q : RQ) (P : List Int) (hw : q.W ≤ 200) (hh : q.H ≤ 200) : (evR q P).length ≤ 40200 := by
  have h1 := evY_len q P q.H.toNat 0
  have h2 : q.H.toNat * (q.W.toNat + 1) ≤ 200 * 201 := Nat.mul_le_mul (by omega) (by omega)
  unfold evR
  omega
/-- Events are put, one behind the other. -/
def putsI (s : ES) (l : List S72) : ES := l.foldl (fun s x => s.putI x.f0 x.f1) s
theorem putsI_cons (s : ES) (x : S72) (l : List S72) : putsI s (x :: l) = putsI (s.putI x.f0 x.f1) l := rfl
theorem putsI_ok : ∀ (l : List S72) (s : ES), s.ok → (putsI s l).ok
  | [], s, h => h
  | x :: l, s, h => putsI_ok l _ (ES.putI_ok h _ _)
theorem putsI_out : ∀ (l : List S72) (s : ES), (putsI s l).out.length ≤ s.out.length + 4 * l.length
  | [], s => by simp [putsI]
  | x :: l, s => by
    have h1 := putsI_out l (s.putI x.f0 x.f1)
    have h2 := (ES.putI_len s x.f0 x.f1).1
    rw [putsI_cons, List.length_cons]
    omega
theorem putsI_E : ∀ (l : List S72) (s : ES), l.all (goodL s.st.length) = true → putsE s l = (putsI s l, 0)
  | [], s, _ => rfl
  | x :: l, s, h => by
    rw [List.all_cons, Bool.and_eq_true] at h
    unfold putsE
    rw [if_pos (show s.err x.f0 x.f1 = 0 from if_pos h.1), putsI_cons]
    exact putsI_E l _ (by rw [(ES.putI_len s x.f0 x.f1).2.2]; exact h.2)
theorem ctxP_range {W H RW RH : Int} {P RP : List Int} (b : Bm W H P) (br : Bm RW RH RP) (t dx dy x y : Int) (ht : t = 0 ∨ t = 1) : 0 ≤ ctxP t dx dy W H P RW RH RP x y ∧ ctxP t dx dy W H P RW RH RP x y < ctxs t := by
  have h1 := ctxN_range b x y (news t) 0 (Int.le_refl _)
  have h2 := ctxN_range br (x - dx) (y - dy) besides (ctxN W H P x y (news t) 0) h1.1
  have e5 : (2 : Int) ^ besides.length = 32 := rfl
  rw [e5] at h2
  unfold ctxP ctxs
  rcases ht with rfl | rfl
  · have e : (2 : Int) ^ (news 0).length = 16 := rfl
    rw [e] at h1
    rw [if_pos rfl]
    omega
  · have e : (2 : Int) ^ (news 1).length = 4 := rfl
    rw [e] at h1
    rw [if_neg (by decide)]
    omega
theorem goodL_iff {n : Nat} {x : S72} : goodL n x = true ↔ (0 ≤ x.f0 ∧ x.f0 < n ∧ (x.f1 = 0 ∨ x.f1 = 1)) := by
  unfold goodL
  simp only [Bool.and_eq_true, Bool.or_eq_true, decide_eq_true_eq]
  exact and_assoc
theorem evX_good {q : RQ} {P : List Int} {n : Nat} (b : Bm q.W q.H P) (br : Bm q.RW q.RH q.RP) (ht : q.t = 0 ∨ q.t = 1) (hf : okF n q.base q.t = true) (y : Int) (typ : Bool) : ∀ d i, (evX q P y typ d i).all (goodL n) = true
  | 0, i => rfl
  | d + 1, i => by
    unfold evX
    split
    · exact evX_good b br ht hf y typ d (i + 1)
    · rw [List.all_cons, evX_good b br ht hf y typ d (i + 1), Bool.and_true, goodL_iff]
      have h1 := okF_iff.1 hf
      have h2 := ctxP_range b br q.t q.dx q.dy (i : Int) y ht
      have h3 := px_01 b (i : Int) y
      show 0 ≤ q.base + ctxP q.t q.dx q.dy q.W q.H P q.RW q.RH q.RP i y ∧ q.base + ctxP q.t q.dx q.dy q.W q.H P q.RW q.RH q.RP i y < n ∧ (px q.W q.H P i y = 0 ∨ px q.W q.H P i y = 1)
      omega
theorem evY_good {q : RQ} {P : List Int} {n : Nat} (b : Bm q.W q.H P) (br : Bm q.RW q.RH q.RP) (ht : q.t = 0 ∨ q.t = 1) (hf : okF n q.base q.t = true) : ∀ d j, (evY q P d j).all (goodL n) = true
  | 0, j => rfl
  | d + 1, j => by
    unfold evY
    rw [List.all_append, List.all_append, evY_good b br ht hf d (j + 1), evX_good b br ht hf, Bool.and_true, Bool.and_true]
    unfold evH
    split
    · rw [List.all_cons, List.all_nil, Bool.and_true, goodL_iff]
      have h1 := okF_iff.1 hf
      have hr := ctxs_range q.t
      refine ⟨by show 0 ≤ q.base + ctxs q.t; omega, by show q.base + ctxs q.t < n; omega, ?_⟩
      show bit1 _ = 0 ∨ bit1 _ = 1
      unfold bit1
      split
      · exact .inr rfl
      · exact .inl rfl
    · rfl
/-- What Put answers. -/
def putErr (q : RQ) (kd : Int) (P : List Int) (n : Nat) : Int := if okO q.t q.dx q.dy kd = true then (if okB q.W q.H P = true ∧ okB q.RW q.RH q.RP = true then (if okF n q.base q.t = true then 0 else 2) else 30) else 2
def putR (q : RQ) (kd : Int) (P : List Int) (s : ES) : ES × Int := (if putErr q kd P s.st.length = 0 then putsI s (evR q P) else s, putErr q kd P s.st.length)
end Go.Proofs.Ytkfejicdjpffcaa.Rev
namespace Go.Proofs.Ytkfejicdjpffcaa.Hsm
open Go Go.RowKit Go.Proofs.YtkfejicdjpffcaaW.PrintWords Go.Proofs.YtkfejicdjpffcaaW.PrintLast Go.Proofs.YtkfejicdjpffcaaW.PrintMore Go.Proofs.Ytkfejicdjpffcaa.U Go.Proofs.Ytkfejicdjpffcaa.Aid Go.Proofs.Ytkfejicdjpffcaa.HandAid Go.Proofs.Ytkfejicdjpffcaa.Rpx Go.Proofs.Ytkfejicdjpffcaa.Rva
section
attribute [local go_sem] max2_int min2_int max_two min_two max_four
set_option maxHeartbeats 4000000 in
set_option maxRecDepth 100000 in
theorem rvalid_calls (t dx dy : Int) (ty : Bool) (kd : Int) (w : World) : Calls Try.prog 14 #[.agg #[.int .i64 t, .int .i64 dx, .int .i64 dy, .bool ty, .int .i64 kd]] w fun e w' => e = .returned (.bool (okO t dx dy kd)) ∧ Below w.heap.size w w' := by
  have hu3 := Try.underlying23
  have hb := below_alloc (Below.refl w.heap.size w) (.cells #[.int .i64 t, .int .i64 dx, .int .i64 dy, .bool ty, .int .i64 kd] 23)
  obtain ⟨r, hr⟩ : ∃ r, okO t dx dy kd = r := ⟨_, rfl⟩
  rw [hr]
  have HR := Aside0.mk (show r = decide (dx ≥ -200 ∧ dx ≤ 200 ∧ dy ≥ -200 ∧ dy ≤ 200 ∧ t ≥ 0 ∧ t ≤ 1 ∧ kd ≥ 0 ∧ kd ≤ 1) by rw [← hr]; unfold okO; rw [decide_eq_decide]; omega)
  clear hr
  have h : (¬ dx ≥ -200) ∨ (dx ≥ -200 ∧ ¬ dx ≤ 200) ∨ (dx ≥ -200 ∧ dx ≤ 200 ∧ ¬ dy ≥ -200) ∨ (dx ≥ -200 ∧ dx ≤ 200 ∧ dy ≥ -200 ∧ ¬ dy ≤ 200) ∨ (dx ≥ -200 ∧ dx ≤ 200 ∧ dy ≥ -200 ∧ dy ≤ 200 ∧ ¬ t ≥ 0) ∨ (dx ≥ -200 ∧ dx ≤ 200 ∧ dy ≥ -200 ∧ dy ≤ 200 ∧ t ≥ 0 ∧ ¬ t ≤ 1) ∨ (dx ≥ -200 ∧ dx ≤ 200 ∧ dy ≥ -200 ∧ dy ≤ 200 ∧ t ≥ 0 ∧ t ≤ 1 ∧ ¬ kd ≥ 0) ∨ (dx ≥ -200 ∧ dx ≤ 200 ∧ dy ≥ -200 ∧ dy ≤ 200 ∧ t ≥ 0 ∧ t ≤ 1 ∧ kd ≥ 0) := by omega
  rcases h with h1 | ⟨h1, h2⟩ | ⟨h1, h2, h3⟩ | ⟨h1, h2, h3, h4⟩ | ⟨h1, h2, h3, h4, h5⟩ | ⟨h1, h2, h3, h4, h5, h6⟩ | ⟨h1, h2, h3, h4, h5, h6, h7⟩ | ⟨h1, h2, h3, h4, h5, h6, h7⟩
  all_goals
    go_enter Try.func14, Try.ntmps14
    go_wp2_with (fail)
    go_ret
    refine ⟨(congrArg (fun b => Ending.returned (Value.bool b)) ?_ : Ending.returned (Value.bool _) = _), ?_⟩
    · rw [HR.out]
      first | (refine (decide_eq_false ?_).symm; omega) | (rw [decide_eq_decide]; omega)
    · first | exact hb | exact below_drew hb | exact pw_below_drewN hb _
end
set_option maxHeartbeats 4000000 in
set_option maxRecDepth 100000 in
theorem fits_calls (kind : Int) (A : Option Addr) (c : Nat) (st : List Int) (hst : st.length ≤ 8192) (base t dx dy : Int) (ty : Bool) (kd : Int) (r : Bool) (hr : okF st.length base t = r) (w : World) :
    Calls Try.prog 57 #[.agg #[.int .i64 kind, .slice A st.length c], .int .i64 base, .agg #[.int .i64 t, .int .i64 dx, .int .i64 dy, .bool ty, .int .i64 kd]] w fun e w' => e = .returned (.bool r) ∧ Below w.heap.size w w' := by
  have hu3 := Try.underlying23
  have hu5 := Try.underlying45
  have hcx := ctxs_range t
  have HR := Aside0.mk hr
  clear hr
  obtain ⟨b3, hb3⟩ : ∃ x, w.heap.size = x := ⟨_, rfl⟩
  obtain ⟨b5, hb5⟩ : ∃ x, b3 + 1 = x := ⟨_, rfl⟩
  obtain ⟨W1, hW1⟩ : ∃ x, (w.alloc (.cells #[.int .i64 kind, .slice A st.length c] 45)).alloc (.cells #[.int .i64 t, .int .i64 dx, .int .i64 dy, .bool ty, .int .i64 kd] 23) = x := ⟨_, rfl⟩
  have HB1 := Aside0.mk (show Below w.heap.size w W1 from hW1 ▸ below_alloc (below_alloc (Below.refl _ _) _) _)
  have HZ5 := Aside0.mk (show W1.heap[b5]? = some (.cells #[.int .i64 t, .int .i64 dx, .int .i64 dy, .bool ty, .int .i64 kd] 23 (0, 0)) by
    have h := heap_new (w.alloc (.cells #[.int .i64 kind, .slice A st.length c] 45)) (.cells #[.int .i64 t, .int .i64 dx, .int .i64 dy, .bool ty, .int .i64 kd] 23)
    rw [World.size_alloc, hb3, hb5, hW1] at h
    exact h)
  have HZ3 := Aside0.mk (show W1.heap[b3]? = some (.cells #[.int .i64 kind, .slice A st.length c] 45 (0, 0)) by
    have h := heap_new w (.cells #[.int .i64 kind, .slice A st.length c] 45)
    rw [hb3] at h
    rw [← hW1]
    exact blk_alloc h _)
  have HB := Aside0.mk (below_drew (Below.refl W1.heap.size W1))
  by_cases hb0 : base ≥ 0
  · have e0 : decide (base ≥ 0) = true := decide_eq_true hb0
    have e1 : decide (0 ≤ base) = true := decide_eq_true hb0
    go_enter Try.func57, Try.ntmps57
    go_wp2_with (fail)
    first | rw [hW1] | skip
    clear hW1 hb3 hb5
    refine start_ (n := 15) (S := fun w' => w'.cell? ⟨b3, 1, none⟩ = some (.slice A st.length c) ∧ w'.cell? ⟨b5, 0, none⟩ = some (.int .i64 t)) (ds := []) #[N',N',N',N',N',N',N',N',N',N',N',N',N',N',N'] (by kernel_rfl) rfl rfl ⟨(blk_cell (blk_below HZ3.out HB.out) 1).trans rfl, (blk_cell (blk_below HZ5.out HB.out) 0).trans rfl⟩ (fun hHeld => ?_)
    refine pure_ (i := 0) (N := some 7) (v := ?_) (a' := ?_) #[Y',N',N',N',N',N',N',N',N',N',N',N',N',N',N'] rfl rfl (by kernel_rfl) (fun _ _ _ h => h) (Or.inl ⟨by rfl, ?_⟩) ?_ ?_; rotate_left; (intro w'; go_simp; with_reducible rfl); rotate_left; (simp only [Act.put, p1', p2', p3', i64_w, i32_w]; rfl)
    refine pure_ (i := 1) (N := some 8) (v := ?_) (a' := ?_) #[Y',Y',N',N',N',N',N',N',N',N',N',N',N',N',N'] rfl rfl (by kernel_rfl) (fun _ _ _ h => h) (Or.inl ⟨by rfl, ?_⟩) ?_ ?_; rotate_left; (intro w'; go_simp; with_reducible rfl); rotate_left; (simp only [Act.put, p1', p2', p3', i64_w, i32_w]; rfl)
    refine pure_ (i := 2) (N := some 9) (v := ?_) (a' := ?_) #[Y',Y',Y',N',N',N',N',N',N',N',N',N',N',N',N'] rfl rfl (by kernel_rfl) (fun _ _ _ h => h) (Or.inl ⟨by rfl, ?_⟩) ?_ ?_; rotate_left; (intro w'; go_simp; with_reducible rfl); rotate_left; (simp only [Act.put, p1', p2', p3', i64_w, i32_w]; rfl)
    refine pure_ (i := 3) (N := some 10) (v := ?_) (a' := ?_) #[Y',Y',Y',Y',N',N',N',N',N',N',N',N',N',N',N'] rfl rfl (by kernel_rfl) (fun _ _ _ h => h) (Or.inl ⟨by rfl, ?_⟩) ?_ ?_; rotate_left; (intro w'; go_simp; with_reducible rfl); rotate_left; (simp only [Act.put, p1', p2', p3', i64_w, i32_w]; rfl)
    refine pure_ (i := 4) (N := some 11) (v := ?_) (a' := ?_) #[Y',Y',Y',Y',Y',N',N',N',N',N',N',N',N',N',N'] rfl rfl (by kernel_rfl) (fun _ _ _ h => h) (Or.inl ⟨by rfl, ?_⟩) ?_ ?_; rotate_left; (intro w'; go_simp; with_reducible rfl); rotate_left; (simp only [Act.put, p1', p2', p3', i64_w, i32_w]; rfl)
    refine pure_ (i := 7) (N := some 14) (v := ?_) (a' := ?_) #[Y',Y',Y',Y',Y',N',N',Y',N',N',N',N',N',N',N'] rfl rfl (by kernel_rfl) (fun _ _ _ h => h) (Or.inl ⟨by rfl, ?_⟩) ?_ ?_; rotate_left; (intro w'; go_simp; with_reducible rfl); rotate_left; (simp only [Act.put, p1', p2', p3', i64_w, i32_w]; rfl)
    refine take_ (i := 5) (N := some 12) (v := ?_) (a' := ?_) #[Y',Y',Y',Y',Y',Y',N',Y',N',N',N',N',N',N',N'] rfl rfl (by kernel_rfl) (fun _ _ _ h => h) (Or.inl ⟨by rfl, ?_⟩) hHeld ?_ ?_; rotate_left; (rintro w' ⟨s0, s1⟩; go_simp; with_reducible rfl); rotate_left; (simp only [Act.put, p1', p2', p3', i64_w, i32_w]; rfl)
    refine pure_ (i := 6) (N := some 13) (v := ?_) (a' := ?_) #[Y',Y',Y',Y',Y',Y',Y',Y',N',N',N',N',N',N',N'] rfl rfl (by kernel_rfl) (fun _ _ _ h => h) (Or.inl ⟨by rfl, ?_⟩) ?_ ?_; rotate_left; (intro w'; go_simp; with_reducible rfl); rotate_left; (simp only [Act.put, p1', p2', p3', i64_w, i32_w]; rfl)
    refine take_ (i := 8) (N := some 15) (v := ?_) (a' := ?_) #[Y',Y',Y',Y',Y',Y',Y',Y',Y',N',N',N',N',N',N'] rfl rfl (by kernel_rfl) (fun _ _ _ h => h) (Or.inl ⟨by rfl, ?_⟩) hHeld ?_ ?_; rotate_left; (rintro w' ⟨s0, s1⟩; go_simp; with_reducible rfl); rotate_left; (simp only [Act.put, p1', p2', p3', i64_w, i32_w]; rfl)
    refine one_ (i := 9) (N := some 16) #[Y',Y',Y',Y',Y',Y',Y',Y',Y',Y',N',N',N',N',N'] rfl rfl (by kernel_rfl) (by decide) (fun K hK => ?_)
    refine goes_ Try.func45 (by kernel_rfl) rfl #[.int .i64 t] (by rfl) rfl rfl (by simp only [List.map_toArray, List.map_cons, List.map_nil]; rfl) ?_
    with_reducible refine (refine_contexts.calls t (ctxs t) _ (contexts_eq t)).mono ?_
    rintro e X ⟨rfl, hb⟩
    refine ⟨_, rfl, ?_⟩
    have HB2 := Aside0.mk (below_then HB.out HB.out.size hb)
    clear hb
    refine hK.out _ _ ⟨(blk_cell (blk_below HZ3.out HB2.out) 1).trans rfl, (blk_cell (blk_below HZ5.out HB2.out) 0).trans rfl⟩ (fun hHeld => ?_)
    clear hK K
    refine norm_ (a' := ?_) ?_ ?_; rotate_left; (show Act.put _ (some 16) _ = _; simp only [Act.put, p1', p2', p3', i64_w, i32_w]; rfl)
    refine pure_ (i := 10) (N := some 17) (v := ?_) (a' := ?_) #[Y',Y',Y',Y',Y',Y',Y',Y',Y',Y',Y',N',N',N',N'] rfl rfl (by kernel_rfl) (fun _ _ _ h => h) (Or.inl ⟨by rfl, ?_⟩) ?_ ?_; rotate_left; (intro w'; go_simp; with_reducible rfl); rotate_left; (simp only [Act.put, p1', p2', p3', i64_w, i32_w]; rfl)
    refine pure_ (i := 11) (N := some 18) (v := ?_) (a' := ?_) #[Y',Y',Y',Y',Y',Y',Y',Y',Y',Y',Y',Y',N',N',N'] rfl rfl (by kernel_rfl) (fun _ _ _ h => h) (Or.inl ⟨by rfl, ?_⟩) ?_ ?_; rotate_left; (intro w'; go_simp; with_reducible rfl); rotate_left; (simp only [Act.put, p1', p2', p3', i64_w, i32_w]; rfl)
    refine pure_ (i := 12) (N := some 19) (v := ?_) (a' := ?_) #[Y',Y',Y',Y',Y',Y',Y',Y',Y',Y',Y',Y',Y',N',N'] rfl rfl (by kernel_rfl) (fun _ _ _ h => h) (Or.inl ⟨by rfl, ?_⟩) ?_ ?_; rotate_left; (intro w'; go_simp; with_reducible rfl); rotate_left; (simp only [Act.put, p1', p2', p3', i64_w, i32_w]; rfl)
    refine pure_ (i := 13) (N := some 20) (v := ?_) (a' := ?_) #[Y',Y',Y',Y',Y',Y',Y',Y',Y',Y',Y',Y',Y',Y',N'] rfl rfl (by kernel_rfl) (fun _ _ _ h => h) (Or.inl ⟨by rfl, ?_⟩) ?_ ?_; rotate_left; (intro w'; go_simp; with_reducible rfl); rotate_left; (simp only [Act.put, p1', p2', p3', i64_w, i32_w]; rfl)
    refine pure_ (i := 14) (N := some 6) (v := ?_) (a' := ?_) #[Y',Y',Y',Y',Y',Y',Y',Y',Y',Y',Y',Y',Y',Y',Y'] rfl rfl (by kernel_rfl) (fun _ _ _ h => h) (Or.inl ⟨by rfl, ?_⟩) ?_ ?_; rotate_left; (intro w'; go_simp; with_reducible rfl); rotate_left; (simp only [Act.put, p1', p2', p3', i64_w, i32_w]; rfl)
    refine done_ (by kernel_rfl) ?_
    have hR := HR.out
    clear HR
    rw [wrap_id (n := (st.length : Int) - ctxs t) (by omega) (by omega), wrap_id (n := (st.length : Int) - ctxs t - 1) (by omega) (by omega)]
    have HR := Aside0.mk hR
    clear hR
    go_wp2_with (fail)
    go_ret
    refine ⟨(congrArg (fun b => Ending.returned (Value.bool b)) ?_ : Ending.returned (Value.bool _) = _), below_then HB1.out HB1.out.size HB2.out⟩
    rw [← HR.out]
    unfold okF
    rw [decide_eq_decide]
    omega
  · have e1 : r = false := by rw [← HR.out]; unfold okF; exact decide_eq_false (by omega)
    subst e1
    clear HR
    have e0 : decide (base ≥ 0) = false := decide_eq_false hb0
    have e1 : decide (0 ≤ base) = false := decide_eq_false hb0
    go_enter Try.func57, Try.ntmps57
    go_wp2_with (fail)
    first | rw [hW1] | skip
    clear hW1 hb3 hb5
    refine start_ (n := 15) (S := fun w' => w'.cell? ⟨b3, 1, none⟩ = some (.slice A st.length c) ∧ w'.cell? ⟨b5, 0, none⟩ = some (.int .i64 t)) (ds := []) #[N',N',N',N',N',N',N',N',N',N',N',N',N',N',N'] (by kernel_rfl) rfl rfl ⟨(blk_cell (blk_below HZ3.out HB.out) 1).trans rfl, (blk_cell (blk_below HZ5.out HB.out) 0).trans rfl⟩ (fun hHeld => ?_)
    refine pure_ (i := 0) (N := some 7) (v := ?_) (a' := ?_) #[Y',N',N',N',N',N',N',N',N',N',N',N',N',N',N'] rfl rfl (by kernel_rfl) (fun _ _ _ h => h) (Or.inl ⟨by rfl, ?_⟩) ?_ ?_; rotate_left; (intro w'; go_simp; with_reducible rfl); rotate_left; (simp only [Act.put, p1', p2', p3', i64_w, i32_w]; rfl)
    refine pure_ (i := 1) (N := some 8) (v := ?_) (a' := ?_) #[Y',Y',N',N',N',N',N',N',N',N',N',N',N',N',N'] rfl rfl (by kernel_rfl) (fun _ _ _ h => h) (Or.inl ⟨by rfl, ?_⟩) ?_ ?_; rotate_left; (intro w'; go_simp; with_reducible rfl); rotate_left; (simp only [Act.put, p1', p2', p3', i64_w, i32_w]; rfl)
    refine pure_ (i := 2) (N := some 9) (v := ?_) (a' := ?_) #[Y',Y',Y',N',N',N',N',N',N',N',N',N',N',N',N'] rfl rfl (by kernel_rfl) (fun _ _ _ h => h) (Or.inl ⟨by rfl, ?_⟩) ?_ ?_; rotate_left; (intro w'; go_simp; with_reducible rfl); rotate_left; (simp only [Act.put, p1', p2', p3', i64_w, i32_w]; rfl)
    refine pure_ (i := 3) (N := some 10) (v := undef) (a' := ?_) #[Y',Y',Y',Y',N',N',N',N',N',N',N',N',N',N',N'] rfl rfl (by kernel_rfl) (fun _ _ _ h => h) (Or.inr ⟨by rfl, rfl⟩) ?_ ?_
    rotate_left
    · simp only [Act.put, p1', p2', p3', i64_w, i32_w]
      rfl
    refine pure_ (i := 4) (N := some 11) (v := undef) (a' := ?_) #[Y',Y',Y',Y',Y',N',N',N',N',N',N',N',N',N',N'] rfl rfl (by kernel_rfl) (fun _ _ _ h => h) (Or.inr ⟨by rfl, rfl⟩) ?_ ?_
    rotate_left
    · simp only [Act.put, p1', p2', p3', i64_w, i32_w]
      rfl
    refine pure_ (i := 5) (N := some 12) (v := undef) (a' := ?_) #[Y',Y',Y',Y',Y',Y',N',N',N',N',N',N',N',N',N'] rfl rfl (by kernel_rfl) (fun _ _ _ h => h) (Or.inr ⟨by rfl, rfl⟩) ?_ ?_
    rotate_left
    · simp only [Act.put, p1', p2', p3', i64_w, i32_w]
      rfl
    refine pure_ (i := 6) (N := some 13) (v := undef) (a' := ?_) #[Y',Y',Y',Y',Y',Y',Y',N',N',N',N',N',N',N',N'] rfl rfl (by kernel_rfl) (fun _ _ _ h => h) (Or.inr ⟨by rfl, rfl⟩) ?_ ?_
    rotate_left
    · simp only [Act.put, p1', p2', p3', i64_w, i32_w]
      rfl
    refine pure_ (i := 7) (N := some 14) (v := undef) (a' := ?_) #[Y',Y',Y',Y',Y',Y',Y',Y',N',N',N',N',N',N',N'] rfl rfl (by kernel_rfl) (fun _ _ _ h => h) (Or.inr ⟨by rfl, rfl⟩) ?_ ?_
    rotate_left
    · simp only [Act.put, p1', p2', p3', i64_w, i32_w]
      rfl
    refine pure_ (i := 8) (N := some 15) (v := undef) (a' := ?_) #[Y',Y',Y',Y',Y',Y',Y',Y',Y',N',N',N',N',N',N'] rfl rfl (by kernel_rfl) (fun _ _ _ h => h) (Or.inr ⟨by rfl, rfl⟩) ?_ ?_
    rotate_left
    · simp only [Act.put, p1', p2', p3', i64_w, i32_w]
      rfl
    refine pure_ (i := 9) (N := some 16) (v := undef) (a' := ?_) #[Y',Y',Y',Y',Y',Y',Y',Y',Y',Y',N',N',N',N',N'] rfl rfl (by kernel_rfl) (fun _ _ _ h => h) (Or.inr ⟨by rfl, rfl⟩) ?_ ?_
    rotate_left
    · simp only [Act.put, p1', p2', p3', i64_w, i32_w]
      rfl
    refine pure_ (i := 10) (N := some 17) (v := undef) (a' := ?_) #[Y',Y',Y',Y',Y',Y',Y',Y',Y',Y',Y',N',N',N',N'] rfl rfl (by kernel_rfl) (fun _ _ _ h => h) (Or.inr ⟨by rfl, rfl⟩) ?_ ?_
    rotate_left
    · simp only [Act.put, p1', p2', p3', i64_w, i32_w]
      rfl
    refine pure_ (i := 11) (N := some 18) (v := undef) (a' := ?_) #[Y',Y',Y',Y',Y',Y',Y',Y',Y',Y',Y',Y',N',N',N'] rfl rfl (by kernel_rfl) (fun _ _ _ h => h) (Or.inr ⟨by rfl, rfl⟩) ?_ ?_
    rotate_left
    · simp only [Act.put, p1', p2', p3', i64_w, i32_w]
      rfl
    refine pure_ (i := 12) (N := some 19) (v := undef) (a' := ?_) #[Y',Y',Y',Y',Y',Y',Y',Y',Y',Y',Y',Y',Y',N',N'] rfl rfl (by kernel_rfl) (fun _ _ _ h => h) (Or.inr ⟨by rfl, rfl⟩) ?_ ?_
    rotate_left
    · simp only [Act.put, p1', p2', p3', i64_w, i32_w]
      rfl
    refine pure_ (i := 13) (N := some 20) (v := ?_) (a' := ?_) #[Y',Y',Y',Y',Y',Y',Y',Y',Y',Y',Y',Y',Y',Y',N'] rfl rfl (by kernel_rfl) (fun _ _ _ h => h) (Or.inl ⟨by rfl, ?_⟩) ?_ ?_; rotate_left; (intro w'; go_simp; with_reducible rfl); rotate_left; (simp only [Act.put, p1', p2', p3', i64_w, i32_w]; rfl)
    refine pure_ (i := 14) (N := some 6) (v := ?_) (a' := ?_) #[Y',Y',Y',Y',Y',Y',Y',Y',Y',Y',Y',Y',Y',Y',Y'] rfl rfl (by kernel_rfl) (fun _ _ _ h => h) (Or.inl ⟨by rfl, ?_⟩) ?_ ?_; rotate_left; (intro w'; go_simp; with_reducible rfl); rotate_left; (simp only [Act.put, p1', p2', p3', i64_w, i32_w]; rfl)
    refine done_ (by kernel_rfl) ?_
    go_wp2_with (fail)
    go_ret
    exact ⟨rfl, below_then HB1.out HB1.out.size HB.out⟩
end Go.Proofs.Ytkfejicdjpffcaa.Hsm
