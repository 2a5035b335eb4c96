import Derived.Test.YtkfejicdjpffcaaMRefineBack1
import Derived.Test.YtkfejicdjpffcaaMRefineBack2
set_option linter.unusedVariables false
set_option linter.unusedSimpArgs false
namespace Go.Proofs.Ytkfejicdjpffcaa.U
open Go.RowKit Go.Proofs.YtkfejicdjpffcaaW.PrintWords Go.Proofs.YtkfejicdjpffcaaW.PrintLast Go.Proofs.YtkfejicdjpffcaaW.PrintMore
attribute [local go_sem] max2_int min2_int max_two min_two max_three min_three max_four min_four   -- for this text's walks alone
def refine_fits.f (a0_0 : Int) (l0_1 : List Int) (a1 : Int) (a2_0 : Int) (a2_1 : Int) (a2_2 : Int) (a2_3 : Bool) (a2_4 : Int) : Option (Bool) := if a1 ≥ 0 then ((refine_contexts.f a2_0).bind fun t131 => (some (decide (a1 ≤ (wrap64 ((wrap64 ((l0_1.length : Int) - t131)) - 1)))))) else (some false)
def refine_fits.T1 : Bool × List (List Nat × List Nat) := (true, [([], []), ([0], [0]), ([1], [1]), ([2], [2]), ([2], [2]), ([4, 2], [2, 4]), ([5, 2], [2, 5]), ([2], [2]), ([7, 2], [2, 7]), ([8, 2, 2], [2, 8]), ([6, 9, 2], [2, 6, 9]), ([10, 2], [2, 10]), ([3, 11, 2], [2, 3, 11]), ([2, 12], [2, 12]), ([13, 9, 0, 1, 2, 3, 4, 5, 6, 7, 8, 9, 10, 11, 12, 13], [13])])
def refine_fits.B1 : List Nat := [0, 1, 3, 7, 7, 23, 55, 7, 135, 391, 1015, 2039, 4095, 8191, 16383]
theorem refine_fits.tab1 : rtab .any (opsOf Try.f57 1) = refine_fits.T1 := by kernel_rfl
theorem refine_fits.bits1 : waitsOk refine_fits.T1.2 refine_fits.B1 = true := by kernel_rfl
set_option maxHeartbeats 8000000 in
set_option maxRecDepth 100000 in
theorem refine_fits.calls (a0_0 : Int) (A0_1 : Option Addr) (c0_1 : Nat) (l0_1 : List Int) (a1 : Int) (a2_0 : Int) (a2_1 : Int) (a2_2 : Int) (a2_3 : Bool) (a2_4 : Int) (r : Bool) (w : World) (hr0_1 : Kd.C (Kd.int .i64) w A0_1 l0_1.length l0_1) (hc0_1 : l0_1.length ≤ c0_1) (h : refine_fits.f a0_0 l0_1 a1 a2_0 a2_1 a2_2 a2_3 a2_4 = some r) :
    Calls Try.prog 57 #[.agg #[.int .i64 a0_0, .slice A0_1 l0_1.length c0_1], .int .i64 a1, .agg #[.int .i64 a2_0, .int .i64 a2_1, .int .i64 a2_2, .bool a2_3, .int .i64 a2_4]] w fun e w' => e = .returned (.bool r) ∧ Below w.heap.size w w' := by
 have hu45 := Try.underlying45; have hu23 := Try.underlying23; have HR0_1 := Aside0.mk hr0_1; have HC0_1 := Aside0.mk hc0_1; clear hr0_1 hc0_1; have HB := Aside0.mk (Below.refl w.heap.size w); have H : (if a1 ≥ 0 then ((refine_contexts.f a2_0).bind fun t131 => (some (decide (a1 ≤ (wrap64 ((wrap64 ((l0_1.length : Int) - t131)) - 1)))))) else (some false)) = some r := h; clear h; by_cases c4 : a1 ≥ 0
 (· rw [if_pos c4] at H; have c4b0 : decide (0 ≤ a1) = true := decide_eq_true c4; clear c4; replace H := Option.bind_eq_some_iff.mp H; obtain ⟨t131, A50, H⟩ := H; replace H : (some (decide (a1 ≤ (wrap64 ((wrap64 ((l0_1.length : Int) - t131)) - 1))))) = some r := H; have A5 := Aside0.mk A50; clear A50; obtain rfl := Option.some.inj H; go_enter Try.func57, Try.ntmps57; (try go_wp2_with (first | ((with_reducible refine gate_dst (N := 3) rfl ?_); (try (refine gate_guard (by rfl) ?_; dsimp only)); refine box_event ?hg (N := 3) ?hd (cs := #[.int .i64 a0_0, .slice A0_1 l0_1.length c0_1]) (t := 45) ?hr ?_; (case hd => rfl); (case hg => rfl); (case hr => first | (go_simp; done) | (go_simp; rfl)); intro gb129 hg w6 hbox hb; have n0_ := Aside0.mk (below_step (by repeat (first | (with_reducible first | exact HB.out | apply below_alloc | apply pw_below_drewN | apply below_drew1) | exact HB.out)) hb); have n1_ := Aside0.mk (hbox); have n2_ := Aside0.mk ((by rw [hg]; exact (below_size (by repeat (first | (with_reducible first | exact HB.out | apply below_alloc | apply pw_below_drewN | apply below_drew1) | exact HB.out))) : w.heap.size ≤ gb129)); have n3_ := Aside0.mk ((by rw [hg]; exact (below_size (by repeat (first | (with_reducible first | exact HB.out | apply below_alloc | apply pw_below_drewN | apply below_drew1) | exact HB.out))) : w.heap.size ≤ gb129)); clear HB; have HB := n0_; have BK129 := n1_; have GW129 := n2_; have GE129 := n3_; clear n0_ n1_ n2_ n3_; clear hb hbox hg) | ((with_reducible refine gate_dst (N := 5) rfl ?_); (try (refine gate_guard (by rfl) ?_; dsimp only)); refine box_event ?hg (N := 5) ?hd (cs := #[.int .i64 a2_0, .int .i64 a2_1, .int .i64 a2_2, .bool a2_3, .int .i64 a2_4]) (t := 23) ?hr ?_; (case hd => rfl); (case hg => rfl); (case hr => first | (go_simp; done) | (go_simp; rfl)); intro gb130 hg w7 hbox hb; have n0_ := Aside0.mk (blk_below (g := gb129) (o := .cells #[.int .i64 a0_0, .slice A0_1 l0_1.length c0_1] 45 (0, 0)) (by (with_reducible repeat (first | refine blk_drewN ?_ _ | refine blk_drew ?_ | refine blk_alloc ?_ _)); exact BK129.out) hb); have n1_ := Aside0.mk (below_step (by repeat (first | (with_reducible first | exact HB.out | apply below_alloc | apply pw_below_drewN | apply below_drew1 | refine below_set ?_ GE129.out) | exact HB.out)) hb); have n2_ := Aside0.mk (hbox); have n3_ := Aside0.mk ((by rw [hg]; exact (below_size (by repeat (first | (with_reducible first | exact HB.out | apply below_alloc | apply pw_below_drewN | apply below_drew1 | refine below_set ?_ GE129.out) | exact HB.out))) : w.heap.size ≤ gb130)); have n4_ := Aside0.mk ((by rw [hg]; exact (below_size (by repeat (first | (with_reducible first | exact HB.out | apply below_alloc | apply pw_below_drewN | apply below_drew1 | refine below_set ?_ GE129.out) | exact HB.out))) : w.heap.size ≤ gb130)); have n5_ := Aside0.mk ((by rw [hg]; exact Nat.ne_of_lt (blk_lt (g := gb129) (o := .cells #[.int .i64 a0_0, .slice A0_1 l0_1.length c0_1] 45 (0, 0)) (by (with_reducible repeat (first | refine blk_drewN ?_ _ | refine blk_drew ?_ | refine blk_alloc ?_ _)); exact BK129.out)) : gb129 ≠ gb130)); have n6_ := Aside0.mk ((by rw [hg]; exact Nat.ne_of_gt (blk_lt (g := gb129) (o := .cells #[.int .i64 a0_0, .slice A0_1 l0_1.length c0_1] 45 (0, 0)) (by (with_reducible repeat (first | refine blk_drewN ?_ _ | refine blk_drew ?_ | refine blk_alloc ?_ _)); exact BK129.out)) : gb130 ≠ gb129)); clear BK129; clear HB; have BK129 := n0_; have HB := n1_; have BK130 := n2_; have GW130 := n3_; have GE130 := n4_; have NB129_130 := n5_; have NB130_129 := n6_; clear n0_ n1_ n2_ n3_ n4_ n5_ n6_; clear hb hbox hg))); have n0_ := Aside0.mk (blk_drew BK129.out); have n1_ := Aside0.mk (blk_drew BK130.out); have n2_ := Aside0.mk (below_drew1 HB.out); clear BK129; clear BK130; clear HB; have BK129 := n0_; have BK130 := n1_; have HB := n2_; clear n0_ n1_ n2_; refine start_ (n := 15) (S := fun w' => w'.cell? ⟨gb129, 0, none⟩ = some (.int .i64 a0_0) ∧ w'.cell? ⟨gb129, 1, none⟩ = some (.slice A0_1 l0_1.length c0_1) ∧ w'.cell? ⟨gb130, 0, none⟩ = some (.int .i64 a2_0) ∧ w'.cell? ⟨gb130, 1, none⟩ = some (.int .i64 a2_1) ∧ w'.cell? ⟨gb130, 2, none⟩ = some (.int .i64 a2_2) ∧ w'.cell? ⟨gb130, 3, none⟩ = some (.bool a2_3) ∧ w'.cell? ⟨gb130, 4, none⟩ = some (.int .i64 a2_4)) (ds := []) #[false, false, false, false, false, false, false, false, false, false, false, false, false, false, false] (by kernel_rfl) rfl rfl ⟨(blk_cell BK129.out 0).trans rfl, (blk_cell BK129.out 1).trans rfl, (blk_cell BK130.out 0).trans rfl, (blk_cell BK130.out 1).trans rfl, (blk_cell BK130.out 2).trans rfl, (blk_cell BK130.out 3).trans rfl, (blk_cell BK130.out 4).trans rfl⟩ (fun hHeld => ?_); refine with_tabW refine_fits.tab1 refine_fits.bits1 (fun HT_ HW_ => ?_); generalize w7.drew = w8 at BK129 BK130 HB hHeld ⊢; refine pure_ (i := 0) (N := some 7) (v := ?_) (a' := ?_) #[true, false, false, false, false, false, false, false, false, false, false, false, false, false, false] rfl rfl (any_of HT_.out (by kernel_rfl)) (fun _ _ _ h => h) (Or.inl ⟨by rfl, ?_⟩) ?_ ?_; rotate_left; (· intro w'; go_simp; (with_reducible rfl)); rotate_left; (· simp only [Act.put, List.setIfInBounds_toArray, List.set_cons_zero, List.set_cons_succ, i64_w, i32_w]; rfl); refine pure_ (i := 1) (N := some 8) (v := ?_) (a' := ?_) #[true, true, false, false, false, false, false, false, false, false, false, false, false, false, false] rfl rfl (any_of HT_.out (by kernel_rfl)) (fun _ _ _ h => h) (Or.inl ⟨by rfl, ?_⟩) ?_ ?_; rotate_left; (· intro w'; go_simp; (with_reducible rfl)); rotate_left; (· simp only [Act.put, List.setIfInBounds_toArray, List.set_cons_zero, List.set_cons_succ, i64_w, i32_w]; rfl); refine pure_ (i := 2) (N := some 9) (v := ?_) (a' := ?_) #[true, true, true, false, false, false, false, false, false, false, false, false, false, false, false] rfl rfl (any_of HT_.out (by kernel_rfl)) (fun _ _ _ h => h) (Or.inl ⟨by rfl, ?_⟩) ?_ ?_; rotate_left; (· intro w'; go_simp; (with_reducible rfl)); rotate_left; (· simp only [Act.put, List.setIfInBounds_toArray, List.set_cons_zero, List.set_cons_succ, i64_w, i32_w]; rfl); refine pure_ (i := 3) (N := some 10) (v := ?_) (a' := ?_) #[true, true, true, true, false, false, false, false, false, false, false, false, false, false, false] rfl rfl (any_of HT_.out (by kernel_rfl)) (fun _ _ _ h => h) (Or.inl ⟨by rfl, ?_⟩) ?_ ?_; rotate_left; (· intro w'; go_simp; (with_reducible rfl)); rotate_left; (· simp only [Act.put, List.setIfInBounds_toArray, List.set_cons_zero, List.set_cons_succ, i64_w, i32_w]; rfl); refine pure_ (i := 4) (N := some 11) (v := ?_) (a' := ?_) #[true, true, true, true, true, false, false, false, false, false, false, false, false, false, false] rfl rfl (any_of HT_.out (by kernel_rfl)) (fun _ _ _ h => h) (Or.inl ⟨by rfl, ?_⟩) ?_ ?_; rotate_left; (· intro w'; go_simp; (with_reducible rfl)); rotate_left; (· simp only [Act.put, List.setIfInBounds_toArray, List.set_cons_zero, List.set_cons_succ, i64_w, i32_w]; rfl); refine pure_ (i := 7) (N := some 14) (v := ?_) (a' := ?_) #[true, true, true, true, true, false, false, true, false, false, false, false, false, false, false] rfl rfl (any_of HT_.out (by kernel_rfl)) (fun _ _ _ h => h) (Or.inl ⟨by rfl, ?_⟩) ?_ ?_; rotate_left; (· intro w'; go_simp; (with_reducible rfl)); rotate_left; (· simp only [Act.put, List.setIfInBounds_toArray, List.set_cons_zero, List.set_cons_succ, i64_w, i32_w]; rfl); refine take_ (i := 5) (N := some 12) (v := ?_) (a' := ?_) #[true, true, true, true, true, true, false, true, false, false, false, false, false, false, false] rfl rfl (take_ofW HT_.out HW_.out (by kernel_rfl)) (fun _ _ _ h => h) (Or.inl ⟨by rfl, ?_⟩) hHeld ?_ ?_; rotate_left; (· rintro w' ⟨s0, s1, s2, s3, s4, s5, s6⟩; go_simp; (with_reducible rfl)); rotate_left; (· simp only [Act.put, List.setIfInBounds_toArray, List.set_cons_zero, List.set_cons_succ, i64_w, i32_w]; rfl); refine pure_ (i := 6) (N := some 13) (v := ?_) (a' := ?_) #[true, true, true, true, true, true, true, true, false, false, false, false, false, false, false] rfl rfl (any_of HT_.out (by kernel_rfl)) (fun _ _ _ h => h) (Or.inl ⟨by rfl, ?_⟩) ?_ ?_; rotate_left; (· intro w'; go_simp; (with_reducible rfl)); rotate_left; (· simp only [Act.put, List.setIfInBounds_toArray, List.set_cons_zero, List.set_cons_succ, i64_w, i32_w]; rfl); refine take_ (i := 8) (N := some 15) (v := ?_) (a' := ?_) #[true, true, true, true, true, true, true, true, true, false, false, false, false, false, false] rfl rfl (take_ofW HT_.out HW_.out (by kernel_rfl)) (fun _ _ _ h => h) (Or.inl ⟨by rfl, ?_⟩) hHeld ?_ ?_; rotate_left; (· rintro w' ⟨s0, s1, s2, s3, s4, s5, s6⟩; go_simp; (with_reducible rfl)); rotate_left; (· simp only [Act.put, List.setIfInBounds_toArray, List.set_cons_zero, List.set_cons_succ, i64_w, i32_w]; rfl); refine one_ (i := 9) (N := some 16) #[true, true, true, true, true, true, true, true, true, true, false, false, false, false, false] rfl rfl (one_of HT_.out (by kernel_rfl)) (by decide) (fun K hK => ?_); refine goes_ Try.func45 (by kernel_rfl) rfl #[.int .i64 a2_0] (by rfl) rfl rfl (by (try simp only [List.map_toArray, List.map_cons, List.map_nil]); first | done | rfl | (simp only [List.length_drop, List.length_take]; rfl)) ?_; (with_reducible refine (refine_contexts.calls a2_0 t131 _ A5.out).mono ?_); rintro e w9 ⟨rfl, hb⟩; refine ⟨_, rfl, ?_⟩; have n0_ := Aside0.mk (blk_below (g := gb129) (o := .cells #[.int .i64 a0_0, .slice A0_1 l0_1.length c0_1] 45 (0, 0)) (by (with_reducible repeat (first | refine blk_drewN ?_ _ | refine blk_drew ?_ | refine blk_alloc ?_ _)); exact BK129.out) hb); have n1_ := Aside0.mk (blk_below (g := gb130) (o := .cells #[.int .i64 a2_0, .int .i64 a2_1, .int .i64 a2_2, .bool a2_3, .int .i64 a2_4] 23 (0, 0)) (by (with_reducible repeat (first | refine blk_drewN ?_ _ | refine blk_drew ?_ | refine blk_alloc ?_ _)); exact BK130.out) hb); have n2_ := Aside0.mk (below_step (by repeat (first | (with_reducible first | exact HB.out | apply below_alloc | apply pw_below_drewN | apply below_drew1 | refine below_set ?_ GE129.out | refine below_set ?_ GE130.out) | exact HB.out)) hb); clear BK129; clear BK130; clear HB; have BK129 := n0_; have BK130 := n1_; have HB := n2_; clear n0_ n1_ n2_; (try clear hb); (try clear hb2); (try clear hk); (try clear hi); refine hK.out _ _ ⟨(blk_cell BK129.out 0).trans rfl, (blk_cell BK129.out 1).trans rfl, (blk_cell BK130.out 0).trans rfl, (blk_cell BK130.out 1).trans rfl, (blk_cell BK130.out 2).trans rfl, (blk_cell BK130.out 3).trans rfl, (blk_cell BK130.out 4).trans rfl⟩ (fun hHeld => ?_); clear hK K; refine norm_ (a' := ?_) ?_ ?_; rotate_left; (· show Act.put _ (some 16) _ = _; simp only [Act.put, List.setIfInBounds_toArray, List.set_cons_zero, List.set_cons_succ, i64_w, i32_w]; rfl); refine pure_ (i := 10) (N := some 17) (v := ?_) (a' := ?_) #[true, true, true, true, true, true, true, true, true, true, true, false, false, false, false] rfl rfl (any_of HT_.out (by kernel_rfl)) (fun _ _ _ h => h) (Or.inl ⟨by rfl, ?_⟩) ?_ ?_; rotate_left; (· intro w'; go_simp; (with_reducible rfl)); rotate_left; (· simp only [Act.put, List.setIfInBounds_toArray, List.set_cons_zero, List.set_cons_succ, i64_w, i32_w]; rfl); refine pure_ (i := 11) (N := some 18) (v := ?_) (a' := ?_) #[true, true, true, true, true, true, true, true, true, true, true, true, false, false, false] rfl rfl (any_of HT_.out (by kernel_rfl)) (fun _ _ _ h => h) (Or.inl ⟨by rfl, ?_⟩) ?_ ?_; rotate_left; (· intro w'; go_simp; (with_reducible rfl)); rotate_left; (· simp only [Act.put, List.setIfInBounds_toArray, List.set_cons_zero, List.set_cons_succ, i64_w, i32_w]; rfl); refine pure_ (i := 12) (N := some 19) (v := ?_) (a' := ?_) #[true, true, true, true, true, true, true, true, true, true, true, true, true, false, false] rfl rfl (any_of HT_.out (by kernel_rfl)) (fun _ _ _ h => h) (Or.inl ⟨by rfl, ?_⟩) ?_ ?_; rotate_left; (· intro w'; go_simp; (with_reducible rfl)); rotate_left; (· simp only [Act.put, List.setIfInBounds_toArray, List.set_cons_zero, List.set_cons_succ, i64_w, i32_w]; rfl); refine pure_ (i := 13) (N := some 20) (v := ?_) (a' := ?_) #[true, true, true, true, true, true, true, true, true, true, true, true, true, true, false] rfl rfl (any_of HT_.out (by kernel_rfl)) (fun _ _ _ h => h) (Or.inl ⟨by rfl, ?_⟩) ?_ ?_; rotate_left; (· intro w'; go_simp; (with_reducible rfl)); rotate_left; (· simp only [Act.put, List.setIfInBounds_toArray, List.set_cons_zero, List.set_cons_succ, i64_w, i32_w]; rfl); refine pure_ (i := 14) (N := some 6) (v := ?_) (a' := ?_) #[true, true, true, true, true, true, true, true, true, true, true, true, true, true, true] rfl rfl (any_of HT_.out (by kernel_rfl)) (fun _ _ _ h => h) (Or.inl ⟨by rfl, ?_⟩) ?_ ?_; rotate_left; (· intro w'; go_simp; (with_reducible rfl)); rotate_left; (· simp only [Act.put, List.setIfInBounds_toArray, List.set_cons_zero, List.set_cons_succ, i64_w, i32_w]; rfl); refine done_ (done_of HT_.out (by kernel_rfl)) ?_; (try go_wp2); go_ret; (exact ⟨by first | rfl | (simp [errW_none, errW_some] <;> rfl) | (simp [*, errW_none, errW_some] <;> rfl), by repeat (first | (with_reducible first | exact HB.out | apply below_alloc | apply pw_below_drewN | apply below_drew1 | refine below_set ?_ GE129.out | refine below_set ?_ GE130.out) | exact HB.out)⟩))
 (· rw [if_neg c4] at H; have c4b0 : decide (0 ≤ a1) = false := decide_eq_false c4; clear c4; obtain rfl := Option.some.inj H; go_enter Try.func57, Try.ntmps57; (try go_wp2_with (first | ((with_reducible refine gate_dst (N := 3) rfl ?_); (try (refine gate_guard (by rfl) ?_; dsimp only)); refine box_event ?hg (N := 3) ?hd (cs := #[.int .i64 a0_0, .slice A0_1 l0_1.length c0_1]) (t := 45) ?hr ?_; (case hd => rfl); (case hg => rfl); (case hr => first | (go_simp; done) | (go_simp; rfl)); intro gb129 hg w10 hbox hb; have n0_ := Aside0.mk (below_step (by repeat (first | (with_reducible first | exact HB.out | apply below_alloc | apply pw_below_drewN | apply below_drew1) | exact HB.out)) hb); have n1_ := Aside0.mk (hbox); have n2_ := Aside0.mk ((by rw [hg]; exact (below_size (by repeat (first | (with_reducible first | exact HB.out | apply below_alloc | apply pw_below_drewN | apply below_drew1) | exact HB.out))) : w.heap.size ≤ gb129)); have n3_ := Aside0.mk ((by rw [hg]; exact (below_size (by repeat (first | (with_reducible first | exact HB.out | apply below_alloc | apply pw_below_drewN | apply below_drew1) | exact HB.out))) : w.heap.size ≤ gb129)); clear HB; have HB := n0_; have BK129 := n1_; have GW129 := n2_; have GE129 := n3_; clear n0_ n1_ n2_ n3_; clear hb hbox hg) | ((with_reducible refine gate_dst (N := 5) rfl ?_); (try (refine gate_guard (by rfl) ?_; dsimp only)); refine box_event ?hg (N := 5) ?hd (cs := #[.int .i64 a2_0, .int .i64 a2_1, .int .i64 a2_2, .bool a2_3, .int .i64 a2_4]) (t := 23) ?hr ?_; (case hd => rfl); (case hg => rfl); (case hr => first | (go_simp; done) | (go_simp; rfl)); intro gb130 hg w11 hbox hb; have n0_ := Aside0.mk (blk_below (g := gb129) (o := .cells #[.int .i64 a0_0, .slice A0_1 l0_1.length c0_1] 45 (0, 0)) (by (with_reducible repeat (first | refine blk_drewN ?_ _ | refine blk_drew ?_ | refine blk_alloc ?_ _)); exact BK129.out) hb); have n1_ := Aside0.mk (below_step (by repeat (first | (with_reducible first | exact HB.out | apply below_alloc | apply pw_below_drewN | apply below_drew1 | refine below_set ?_ GE129.out) | exact HB.out)) hb); have n2_ := Aside0.mk (hbox); have n3_ := Aside0.mk ((by rw [hg]; exact (below_size (by repeat (first | (with_reducible first | exact HB.out | apply below_alloc | apply pw_below_drewN | apply below_drew1 | refine below_set ?_ GE129.out) | exact HB.out))) : w.heap.size ≤ gb130)); have n4_ := Aside0.mk ((by rw [hg]; exact (below_size (by repeat (first | (with_reducible first | exact HB.out | apply below_alloc | apply pw_below_drewN | apply below_drew1 | refine below_set ?_ GE129.out) | exact HB.out))) : w.heap.size ≤ gb130)); have n5_ := Aside0.mk ((by rw [hg]; exact Nat.ne_of_lt (blk_lt (g := gb129) (o := .cells #[.int .i64 a0_0, .slice A0_1 l0_1.length c0_1] 45 (0, 0)) (by (with_reducible repeat (first | refine blk_drewN ?_ _ | refine blk_drew ?_ | refine blk_alloc ?_ _)); exact BK129.out)) : gb129 ≠ gb130)); have n6_ := Aside0.mk ((by rw [hg]; exact Nat.ne_of_gt (blk_lt (g := gb129) (o := .cells #[.int .i64 a0_0, .slice A0_1 l0_1.length c0_1] 45 (0, 0)) (by (with_reducible repeat (first | refine blk_drewN ?_ _ | refine blk_drew ?_ | refine blk_alloc ?_ _)); exact BK129.out)) : gb130 ≠ gb129)); clear BK129; clear HB; have BK129 := n0_; have HB := n1_; have BK130 := n2_; have GW130 := n3_; have GE130 := n4_; have NB129_130 := n5_; have NB130_129 := n6_; clear n0_ n1_ n2_ n3_ n4_ n5_ n6_; clear hb hbox hg))); have n0_ := Aside0.mk (blk_drew BK129.out); have n1_ := Aside0.mk (blk_drew BK130.out); have n2_ := Aside0.mk (below_drew1 HB.out); clear BK129; clear BK130; clear HB; have BK129 := n0_; have BK130 := n1_; have HB := n2_; clear n0_ n1_ n2_; refine start_ (n := 15) (S := fun w' => True) (ds := []) #[false, false, false, false, false, false, false, false, false, false, false, false, false, false, false] (by kernel_rfl) rfl rfl trivial (fun hHeld => ?_); refine with_tabW refine_fits.tab1 refine_fits.bits1 (fun HT_ HW_ => ?_); generalize w11.drew = w12 at BK129 BK130 HB hHeld ⊢; refine pure_ (i := 0) (N := some 7) (v := ?_) (a' := ?_) #[true, false, false, false, false, false, false, false, false, false, false, false, false, false, false] rfl rfl (any_of HT_.out (by kernel_rfl)) (fun _ _ _ h => h) (Or.inl ⟨by rfl, ?_⟩) ?_ ?_; rotate_left; (· intro w'; go_simp; (with_reducible rfl)); rotate_left; (· simp only [Act.put, List.setIfInBounds_toArray, List.set_cons_zero, List.set_cons_succ, i64_w, i32_w]; rfl); refine pure_ (i := 1) (N := some 8) (v := ?_) (a' := ?_) #[true, true, false, false, false, false, false, false, false, false, false, false, false, false, false] rfl rfl (any_of HT_.out (by kernel_rfl)) (fun _ _ _ h => h) (Or.inl ⟨by rfl, ?_⟩) ?_ ?_; rotate_left; (· intro w'; go_simp; (with_reducible rfl)); rotate_left; (· simp only [Act.put, List.setIfInBounds_toArray, List.set_cons_zero, List.set_cons_succ, i64_w, i32_w]; rfl); refine pure_ (i := 2) (N := some 9) (v := ?_) (a' := ?_) #[true, true, true, false, false, false, false, false, false, false, false, false, false, false, false] rfl rfl (any_of HT_.out (by kernel_rfl)) (fun _ _ _ h => h) (Or.inl ⟨by rfl, ?_⟩) ?_ ?_; rotate_left; (· intro w'; go_simp; (with_reducible rfl)); rotate_left; (· simp only [Act.put, List.setIfInBounds_toArray, List.set_cons_zero, List.set_cons_succ, i64_w, i32_w]; rfl); refine pure_ (i := 3) (N := some 10) (v := undef) (a' := ?_) #[true, true, true, true, false, false, false, false, false, false, false, false, false, false, false] rfl rfl (any_of HT_.out (by kernel_rfl)) (fun _ _ _ h => h) (Or.inr ⟨by rfl, rfl⟩) ?_ ?_; rotate_left; (· simp only [Act.put, List.setIfInBounds_toArray, List.set_cons_zero, List.set_cons_succ, i64_w, i32_w]; rfl); refine pure_ (i := 4) (N := some 11) (v := undef) (a' := ?_) #[true, true, true, true, true, false, false, false, false, false, false, false, false, false, false] rfl rfl (any_of HT_.out (by kernel_rfl)) (fun _ _ _ h => h) (Or.inr ⟨by rfl, rfl⟩) ?_ ?_; rotate_left; (· simp only [Act.put, List.setIfInBounds_toArray, List.set_cons_zero, List.set_cons_succ, i64_w, i32_w]; rfl); refine pure_ (i := 5) (N := some 12) (v := undef) (a' := ?_) #[true, true, true, true, true, true, false, false, false, false, false, false, false, false, false] rfl rfl (any_of HT_.out (by kernel_rfl)) (fun _ _ _ h => h) (Or.inr ⟨by rfl, rfl⟩) ?_ ?_; rotate_left; (· simp only [Act.put, List.setIfInBounds_toArray, List.set_cons_zero, List.set_cons_succ, i64_w, i32_w]; rfl); refine pure_ (i := 6) (N := some 13) (v := undef) (a' := ?_) #[true, true, true, true, true, true, true, false, false, false, false, false, false, false, false] rfl rfl (any_of HT_.out (by kernel_rfl)) (fun _ _ _ h => h) (Or.inr ⟨by rfl, rfl⟩) ?_ ?_; rotate_left; (· simp only [Act.put, List.setIfInBounds_toArray, List.set_cons_zero, List.set_cons_succ, i64_w, i32_w]; rfl); refine pure_ (i := 7) (N := some 14) (v := undef) (a' := ?_) #[true, true, true, true, true, true, true, true, false, false, false, false, false, false, false] rfl rfl (any_of HT_.out (by kernel_rfl)) (fun _ _ _ h => h) (Or.inr ⟨by rfl, rfl⟩) ?_ ?_; rotate_left; (· simp only [Act.put, List.setIfInBounds_toArray, List.set_cons_zero, List.set_cons_succ, i64_w, i32_w]; rfl); refine pure_ (i := 8) (N := some 15) (v := undef) (a' := ?_) #[true, true, true, true, true, true, true, true, true, false, false, false, false, false, false] rfl rfl (any_of HT_.out (by kernel_rfl)) (fun _ _ _ h => h) (Or.inr ⟨by rfl, rfl⟩) ?_ ?_; rotate_left; (· simp only [Act.put, List.setIfInBounds_toArray, List.set_cons_zero, List.set_cons_succ, i64_w, i32_w]; rfl); refine pure_ (i := 9) (N := some 16) (v := undef) (a' := ?_) #[true, true, true, true, true, true, true, true, true, true, false, false, false, false, false] rfl rfl (any_of HT_.out (by kernel_rfl)) (fun _ _ _ h => h) (Or.inr ⟨by rfl, rfl⟩) ?_ ?_; rotate_left; (· simp only [Act.put, List.setIfInBounds_toArray, List.set_cons_zero, List.set_cons_succ, i64_w, i32_w]; rfl); refine pure_ (i := 10) (N := some 17) (v := undef) (a' := ?_) #[true, true, true, true, true, true, true, true, true, true, true, false, false, false, false] rfl rfl (any_of HT_.out (by kernel_rfl)) (fun _ _ _ h => h) (Or.inr ⟨by rfl, rfl⟩) ?_ ?_; rotate_left; (· simp only [Act.put, List.setIfInBounds_toArray, List.set_cons_zero, List.set_cons_succ, i64_w, i32_w]; rfl); refine pure_ (i := 11) (N := some 18) (v := undef) (a' := ?_) #[true, true, true, true, true, true, true, true, true, true, true, true, false, false, false] rfl rfl (any_of HT_.out (by kernel_rfl)) (fun _ _ _ h => h) (Or.inr ⟨by rfl, rfl⟩) ?_ ?_; rotate_left; (· simp only [Act.put, List.setIfInBounds_toArray, List.set_cons_zero, List.set_cons_succ, i64_w, i32_w]; rfl); refine pure_ (i := 12) (N := some 19) (v := undef) (a' := ?_) #[true, true, true, true, true, true, true, true, true, true, true, true, true, false, false] rfl rfl (any_of HT_.out (by kernel_rfl)) (fun _ _ _ h => h) (Or.inr ⟨by rfl, rfl⟩) ?_ ?_; rotate_left; (· simp only [Act.put, List.setIfInBounds_toArray, List.set_cons_zero, List.set_cons_succ, i64_w, i32_w]; rfl); refine pure_ (i := 13) (N := some 20) (v := ?_) (a' := ?_) #[true, true, true, true, true, true, true, true, true, true, true, true, true, true, false] rfl rfl (any_of HT_.out (by kernel_rfl)) (fun _ _ _ h => h) (Or.inl ⟨by rfl, ?_⟩) ?_ ?_; rotate_left; (· intro w'; go_simp; (with_reducible rfl)); rotate_left; (· simp only [Act.put, List.setIfInBounds_toArray, List.set_cons_zero, List.set_cons_succ, i64_w, i32_w]; rfl); refine pure_ (i := 14) (N := some 6) (v := ?_) (a' := ?_) #[true, true, true, true, true, true, true, true, true, true, true, true, true, true, true] rfl rfl (any_of HT_.out (by kernel_rfl)) (fun _ _ _ h => h) (Or.inl ⟨by rfl, ?_⟩) ?_ ?_; rotate_left; (· intro w'; go_simp; (with_reducible rfl)); rotate_left; (· simp only [Act.put, List.setIfInBounds_toArray, List.set_cons_zero, List.set_cons_succ, i64_w, i32_w]; rfl); refine done_ (done_of HT_.out (by kernel_rfl)) ?_; (try go_wp2); go_ret; (exact ⟨by first | rfl | (simp [errW_none, errW_some] <;> rfl) | (simp [*, errW_none, errW_some] <;> rfl), by repeat (first | (with_reducible first | exact HB.out | apply below_alloc | apply pw_below_drewN | apply below_drew1 | refine below_set ?_ GE129.out | refine below_set ?_ GE130.out) | exact HB.out)⟩))
end Go.Proofs.Ytkfejicdjpffcaa.U
namespace Go.Proofs.Ytkfejicdjpffcaa.U
open Go.RowKit Go.Proofs.YtkfejicdjpffcaaW.PrintWords Go.Proofs.YtkfejicdjpffcaaW.PrintLast Go.Proofs.YtkfejicdjpffcaaW.PrintMore
attribute [local go_sem] max2_int min2_int max_two min_two max_three min_three max_four min_four   -- for this text's walks alone
def refine_model.f (a0_0 : Int) (a0_1 : Int) (a0_2 : Int) (a0_3 : Bool) (a0_4 : Int) : Option (Int × List Int) := (refine_contexts.f a0_0).bind fun t163 => ((coder_New.f a0_4 (wrap64 (t163 + 1))).bind fun bt164 => (some (bt164.1, bt164.2.1)))
def refine_model.T1 : Bool × List (List Nat × List Nat) := (true, [([], []), ([0], [0]), ([], []), ([2], [2]), ([3], [3]), ([4], [4]), ([1, 5, 4], [1, 5]), ([6], [6]), ([7], [7]), ([7], [7]), ([], []), ([10, 8, 6, 0, 1, 2, 3, 4, 5, 6, 7, 8, 10], [8, 10]), ([9, 11, 0, 1, 2, 3, 4, 5, 6, 7, 8, 9, 10, 11], [9])])
def refine_model.B1 : List Nat := [0, 1, 0, 4, 12, 28, 63, 127, 255, 255, 0, 1535, 4095]
theorem refine_model.tab1 : rtab .any (opsOf Try.f47 1) = refine_model.T1 := by kernel_rfl
theorem refine_model.bits1 : waitsOk refine_model.T1.2 refine_model.B1 = true := by kernel_rfl
set_option maxHeartbeats 8000000 in
set_option maxRecDepth 100000 in
theorem refine_model.calls (a0_0 : Int) (a0_1 : Int) (a0_2 : Int) (a0_3 : Bool) (a0_4 : Int) (r1 : Int) (r2 : List Int) (w : World) (h : refine_model.f a0_0 a0_1 a0_2 a0_3 a0_4 = some (r1, r2)) :
    Calls Try.prog 47 #[.agg #[.int .i64 a0_0, .int .i64 a0_1, .int .i64 a0_2, .bool a0_3, .int .i64 a0_4]] w fun e w' => ∃ v1_ : Value, e = .returned (.agg #[.int .i64 r1, v1_]) ∧ Kd.R (Kd.int .i64) 3 w' w.heap.size (fun _ => True) v1_ r2 ∧ Below w.heap.size w w' := by
 have hu23 := Try.underlying23; have hu45 := Try.underlying45; have HB := Aside0.mk (Below.refl w.heap.size w); have H : ((refine_contexts.f a0_0).bind fun t163 => ((coder_New.f a0_4 (wrap64 (t163 + 1))).bind fun bt164 => (some (bt164.1, bt164.2.1)))) = some (r1, r2) := h; clear h; replace H := Option.bind_eq_some_iff.mp H; obtain ⟨t163, A20, H⟩ := H; replace H : ((coder_New.f a0_4 (wrap64 (t163 + 1))).bind fun bt164 => (some (bt164.1, bt164.2.1))) = some (r1, r2) := H; have A2 := Aside0.mk A20; clear A20; replace H := Option.bind_eq_some_iff.mp H; obtain ⟨⟨t164, t165, t168⟩, A30, H⟩ := H; replace H : (some (t164, t165)) = some (r1, r2) := H; have A3 := Aside0.mk A30; clear A30; simp only [Option.some.injEq, Prod.mk.injEq] at H; obtain ⟨rfl, rfl⟩ := H; go_enter Try.func47, Try.ntmps47
 (try go_wp2_with (first | ((with_reducible refine gate_dst (N := 1) rfl ?_); refine box_event ?hg (N := 1) ?hd (cs := #[.int .i64 a0_0, .int .i64 a0_1, .int .i64 a0_2, .bool a0_3, .int .i64 a0_4]) (t := 23) ?hr ?_; (case hd => rfl); (case hg => rfl); (case hr => first | (go_simp; done) | (go_simp; rfl)); intro gb161 hg w4 hbox hb; have n0_ := Aside0.mk (below_step (by repeat (first | (with_reducible first | exact HB.out | apply below_alloc | apply pw_below_drewN | apply below_drew1) | exact HB.out)) hb); have n1_ := Aside0.mk (hbox); have n2_ := Aside0.mk ((by rw [hg]; exact (below_size (by repeat (first | (with_reducible first | exact HB.out | apply below_alloc | apply pw_below_drewN | apply below_drew1) | exact HB.out))) : w.heap.size ≤ gb161)); have n3_ := Aside0.mk ((by rw [hg]; exact (below_size (by repeat (first | (with_reducible first | exact HB.out | apply below_alloc | apply pw_below_drewN | apply below_drew1) | exact HB.out))) : w.heap.size ≤ gb161)); clear HB; have HB := n0_; have BK161 := n1_; have GW161 := n2_; have GE161 := n3_; clear n0_ n1_ n2_ n3_; clear hb hbox hg) | ((with_reducible refine gate_dst (N := 2) rfl ?_); refine box_event ?hg (N := 2) ?hd (cs := #[.int .i64 0, .slice none 0 0]) (t := 45) ?hr ?_; (case hd => rfl); (case hg => rfl); (case hr => first | (go_simp; done) | (go_simp; rfl)); intro gb162 hg w5 hbox hb; have n0_ := Aside0.mk (blk_below (g := gb161) (o := .cells #[.int .i64 a0_0, .int .i64 a0_1, .int .i64 a0_2, .bool a0_3, .int .i64 a0_4] 23 (0, 0)) (by (with_reducible repeat (first | refine blk_drewN ?_ _ | refine blk_drew ?_ | refine blk_alloc ?_ _)); exact BK161.out) hb); have n1_ := Aside0.mk (below_step (by repeat (first | (with_reducible first | exact HB.out | apply below_alloc | apply pw_below_drewN | apply below_drew1 | refine below_set ?_ GE161.out) | exact HB.out)) hb); have n2_ := Aside0.mk (hbox); have n3_ := Aside0.mk ((by rw [hg]; exact (below_size (by repeat (first | (with_reducible first | exact HB.out | apply below_alloc | apply pw_below_drewN | apply below_drew1 | refine below_set ?_ GE161.out) | exact HB.out))) : w.heap.size ≤ gb162)); have n4_ := Aside0.mk ((by rw [hg]; exact (below_size (by repeat (first | (with_reducible first | exact HB.out | apply below_alloc | apply pw_below_drewN | apply below_drew1 | refine below_set ?_ GE161.out) | exact HB.out))) : w.heap.size ≤ gb162)); have n5_ := Aside0.mk ((by rw [hg]; exact Nat.ne_of_lt (blk_lt (g := gb161) (o := .cells #[.int .i64 a0_0, .int .i64 a0_1, .int .i64 a0_2, .bool a0_3, .int .i64 a0_4] 23 (0, 0)) (by (with_reducible repeat (first | refine blk_drewN ?_ _ | refine blk_drew ?_ | refine blk_alloc ?_ _)); exact BK161.out)) : gb161 ≠ gb162)); have n6_ := Aside0.mk ((by rw [hg]; exact Nat.ne_of_gt (blk_lt (g := gb161) (o := .cells #[.int .i64 a0_0, .int .i64 a0_1, .int .i64 a0_2, .bool a0_3, .int .i64 a0_4] 23 (0, 0)) (by (with_reducible repeat (first | refine blk_drewN ?_ _ | refine blk_drew ?_ | refine blk_alloc ?_ _)); exact BK161.out)) : gb162 ≠ gb161)); clear BK161; clear HB; have BK161 := n0_; have HB := n1_; have BK162 := n2_; have GW162 := n3_; have GE162 := n4_; have NB161_162 := n5_; have NB162_161 := n6_; clear n0_ n1_ n2_ n3_ n4_ n5_ n6_; clear hb hbox hg)))
 have n0_ := Aside0.mk (blk_drew BK161.out); have n1_ := Aside0.mk (blk_drew BK162.out); have n2_ := Aside0.mk (below_drew1 HB.out); clear BK161; clear BK162; clear HB; have BK161 := n0_; have BK162 := n1_; have HB := n2_; clear n0_ n1_ n2_; refine start_ (n := 13) (S := fun w' => w'.cell? ⟨gb161, 0, none⟩ = some (.int .i64 a0_0) ∧ w'.cell? ⟨gb161, 1, none⟩ = some (.int .i64 a0_1) ∧ w'.cell? ⟨gb161, 2, none⟩ = some (.int .i64 a0_2) ∧ w'.cell? ⟨gb161, 3, none⟩ = some (.bool a0_3) ∧ w'.cell? ⟨gb161, 4, none⟩ = some (.int .i64 a0_4)) (ds := []) #[false, false, false, false, false, false, false, false, false, false, false, false, false] (by kernel_rfl) rfl rfl ⟨(blk_cell BK161.out 0).trans rfl, (blk_cell BK161.out 1).trans rfl, (blk_cell BK161.out 2).trans rfl, (blk_cell BK161.out 3).trans rfl, (blk_cell BK161.out 4).trans rfl⟩ (fun hHeld => ?_); refine with_tabW refine_model.tab1 refine_model.bits1 (fun HT_ HW_ => ?_); generalize w5.drew = w6 at BK161 BK162 HB hHeld ⊢; refine pure_ (i := 0) (N := some 6) (v := ?_) (a' := ?_) #[true, false, false, false, false, false, false, false, false, false, false, false, false] rfl rfl (any_of HT_.out (by kernel_rfl)) (fun _ _ _ h => h) (Or.inl ⟨by rfl, ?_⟩) ?_ ?_; rotate_left; (· intro w'; go_simp; (with_reducible rfl)); rotate_left; (· simp only [Act.put, List.setIfInBounds_toArray, List.set_cons_zero, List.set_cons_succ, i64_w, i32_w]; rfl)
 refine pure_ (i := 2) (N := some 8) (v := ?_) (a' := ?_) #[true, false, true, false, false, false, false, false, false, false, false, false, false] rfl rfl (any_of HT_.out (by kernel_rfl)) (fun _ _ _ h => h) (Or.inl ⟨by rfl, ?_⟩) ?_ ?_; rotate_left; (· intro w'; go_simp; (with_reducible rfl)); rotate_left; (· simp only [Act.put, List.setIfInBounds_toArray, List.set_cons_zero, List.set_cons_succ, i64_w, i32_w]; rfl); refine take_ (i := 1) (N := some 7) (v := ?_) (a' := ?_) #[true, true, true, false, false, false, false, false, false, false, false, false, false] rfl rfl (take_ofW HT_.out HW_.out (by kernel_rfl)) (fun _ _ _ h => h) (Or.inl ⟨by rfl, ?_⟩) hHeld ?_ ?_; rotate_left; (· rintro w' ⟨s0, s1, s2, s3, s4⟩; go_simp; (with_reducible rfl)); rotate_left; (· simp only [Act.put, List.setIfInBounds_toArray, List.set_cons_zero, List.set_cons_succ, i64_w, i32_w]; rfl); refine take_ (i := 3) (N := some 9) (v := ?_) (a' := ?_) #[true, true, true, true, false, false, false, false, false, false, false, false, false] rfl rfl (take_ofW HT_.out HW_.out (by kernel_rfl)) (fun _ _ _ h => h) (Or.inl ⟨by rfl, ?_⟩) hHeld ?_ ?_; rotate_left; (· rintro w' ⟨s0, s1, s2, s3, s4⟩; go_simp; (with_reducible rfl)); rotate_left; (· simp only [Act.put, List.setIfInBounds_toArray, List.set_cons_zero, List.set_cons_succ, i64_w, i32_w]; rfl)
 refine join_ (σ := Value × Nat) 2 #[true, true, true, true, true, true, true, true, true, true, true, false, false] (fun s_ => [(10, .int .i64 t163), (12, .tuple #[.agg #[.int .i64 t164, s_.1], .int .i64 t168]), (3, .pointer (some ⟨s_.2, 0, none⟩)), (11, .int .i64 (wrap64 (t163 + 1))), (5, .tuple #[.agg #[.int .i64 t164, s_.1], .int .i64 t168]), (13, .agg #[.int .i64 t164, s_.1]), (14, .int .i64 t168)]) (fun s_ w' => (w'.cell? ⟨gb161, 0, none⟩ = some (.int .i64 a0_0) ∧ w'.cell? ⟨gb161, 1, none⟩ = some (.int .i64 a0_1) ∧ w'.cell? ⟨gb161, 2, none⟩ = some (.int .i64 a0_2) ∧ w'.cell? ⟨gb161, 3, none⟩ = some (.bool a0_3) ∧ w'.cell? ⟨gb161, 4, none⟩ = some (.int .i64 a0_4)) ∧ (Kd.R (Kd.int .i64) 3 w' w.heap.size (fun _ => True) s_.1 t165) ∧ (w'.heap[gb161]? = some (.cells #[.int .i64 a0_0, .int .i64 a0_1, .int .i64 a0_2, .bool a0_3, .int .i64 a0_4] 23 (0, 0))) ∧ (w'.heap[gb162]? = some (.cells #[.int .i64 0, .slice none 0 0] 45 (0, 0))) ∧ (w'.heap[s_.2]? = some (.cells #[.int .i64 0, .slice none 0 0] 45 (0, 0))) ∧ (w.heap.size ≤ s_.2) ∧ (w.heap.size ≤ s_.2) ∧ (gb161 ≠ s_.2) ∧ (s_.2 ≠ gb161) ∧ (gb162 ≠ s_.2) ∧ (s_.2 ≠ gb162) ∧ (Below w.heap.size w w')) ?_ ?_; rotate_left
 (· intro hCont; refine two_ (i := 4) (j := 10) (Ni := some 10) (Nj := some 3) #[true, true, true, true, true, false, false, false, false, false, false, false, false] #[true, true, true, true, false, false, false, false, false, false, true, false, false] rfl rfl rfl rfl (two_of HT_.out (by kernel_rfl)) (by decide) (by decide) (fun K hK => ?_) (fun K hK => ?_); (· skip; refine goes_ Try.func45 (by kernel_rfl) rfl #[.int .i64 a0_0] (by rfl) rfl rfl (by (try simp only [List.map_toArray, List.map_cons, List.map_nil]); first | done | rfl | (simp only [List.length_drop, List.length_take]; rfl)) ?_; (with_reducible refine (refine_contexts.calls a0_0 t163 _ A2.out).mono ?_); rintro e w7 ⟨rfl, hb⟩; refine ⟨_, rfl, ?_⟩; have n0_ := Aside0.mk (blk_below (g := gb161) (o := .cells #[.int .i64 a0_0, .int .i64 a0_1, .int .i64 a0_2, .bool a0_3, .int .i64 a0_4] 23 (0, 0)) (by (with_reducible repeat (first | refine blk_drewN ?_ _ | refine blk_drew ?_ | refine blk_alloc ?_ _)); exact BK161.out) hb); have n1_ := Aside0.mk (blk_below (g := gb162) (o := .cells #[.int .i64 0, .slice none 0 0] 45 (0, 0)) (by (with_reducible repeat (first | refine blk_drewN ?_ _ | refine blk_drew ?_ | refine blk_alloc ?_ _)); exact BK162.out) hb); have n2_ := Aside0.mk (below_step (by repeat (first | (with_reducible first | exact HB.out | apply below_alloc | apply pw_below_drewN | apply below_drew1 | refine below_set ?_ GE161.out | refine below_set ?_ GE162.out) | exact HB.out)) hb); clear BK161; clear BK162; clear HB; have BK161 := n0_; have BK162 := n1_; have HB := n2_; clear n0_ n1_ n2_; (try clear hb); (try clear hb2); (try clear hk); (try clear hi); refine hK.out _ _ ⟨(blk_cell BK161.out 0).trans rfl, (blk_cell BK161.out 1).trans rfl, (blk_cell BK161.out 2).trans rfl, (blk_cell BK161.out 3).trans rfl, (blk_cell BK161.out 4).trans rfl⟩ (fun hHeld => ?_); clear hK K; refine norm_ (a' := ?_) ?_ ?_; rotate_left; (· show Act.put _ (some 10) _ = _; simp only [Act.put, List.setIfInBounds_toArray, List.set_cons_zero, List.set_cons_succ, i64_w, i32_w]; rfl); refine pure_ (i := 5) (N := some 11) (v := ?_) (a' := ?_) #[true, true, true, true, true, true, false, false, false, false, false, false, false] rfl rfl (any_of HT_.out (by kernel_rfl)) (fun _ _ _ h => h) (Or.inl ⟨by rfl, ?_⟩) ?_ ?_; rotate_left; (· intro w'; go_simp; (with_reducible rfl)); rotate_left; (· simp only [Act.put, List.setIfInBounds_toArray, List.set_cons_zero, List.set_cons_succ, i64_w, i32_w]; rfl); refine two_ (i := 6) (j := 10) (Ni := some 12) (Nj := some 3) #[true, true, true, true, true, true, true, false, false, false, false, false, false] #[true, true, true, true, true, true, false, false, false, false, true, false, false] rfl rfl rfl rfl (two_of HT_.out (by kernel_rfl)) (by decide) (by decide) (fun K hK => ?_) (fun K hK => ?_); (· skip; refine goes_ Try.func86 (by kernel_rfl) rfl #[.int .i64 a0_4, .int .i64 (wrap64 (t163 + 1))] (by rfl) rfl rfl (by (try simp only [List.map_toArray, List.map_cons, List.map_nil]); first | done | rfl | (simp only [List.length_drop, List.length_take]; rfl)) ?_; (with_reducible refine (coder_New.calls a0_4 (wrap64 (t163 + 1)) t164 t165 t168 _ A3.out).mono ?_); rintro e w8 ⟨v166, rfl, ho0, hb⟩; refine ⟨_, rfl, ?_⟩; have n0_ := Aside0.mk (Kd.R_lower ho0 (below_size (by repeat (first | (with_reducible first | exact HB.out | apply below_alloc | apply pw_below_drewN | apply below_drew1 | refine below_set ?_ GE161.out | refine below_set ?_ GE162.out) | exact HB.out)))); have n1_ := Aside0.mk (blk_below (g := gb161) (o := .cells #[.int .i64 a0_0, .int .i64 a0_1, .int .i64 a0_2, .bool a0_3, .int .i64 a0_4] 23 (0, 0)) (by (with_reducible repeat (first | refine blk_drewN ?_ _ | refine blk_drew ?_ | refine blk_alloc ?_ _)); exact BK161.out) hb); have n2_ := Aside0.mk (blk_below (g := gb162) (o := .cells #[.int .i64 0, .slice none 0 0] 45 (0, 0)) (by (with_reducible repeat (first | refine blk_drewN ?_ _ | refine blk_drew ?_ | refine blk_alloc ?_ _)); exact BK162.out) hb); have n3_ := Aside0.mk (below_step (by repeat (first | (with_reducible first | exact HB.out | apply below_alloc | apply pw_below_drewN | apply below_drew1 | refine below_set ?_ GE161.out | refine below_set ?_ GE162.out) | exact HB.out)) hb); clear BK161; clear BK162; clear HB; have HO167 := n0_; have BK161 := n1_; have BK162 := n2_; have HB := n3_; clear n0_ n1_ n2_ n3_; (try clear hb); (try clear hb2); (try clear hk); (try clear hi); (try clear ho0); refine hK.out _ _ ⟨(blk_cell BK161.out 0).trans rfl, (blk_cell BK161.out 1).trans rfl, (blk_cell BK161.out 2).trans rfl, (blk_cell BK161.out 3).trans rfl, (blk_cell BK161.out 4).trans rfl⟩ (fun hHeld => ?_); clear hK K; refine norm_ (a' := ?_) ?_ ?_; rotate_left; (· show Act.put _ (some 12) _ = _; simp only [Act.put, List.setIfInBounds_toArray, List.set_cons_zero, List.set_cons_succ, i64_w, i32_w]; rfl); refine pure_ (i := 7) (N := some 5) (v := ?_) (a' := ?_) #[true, true, true, true, true, true, true, true, false, false, false, false, false] rfl rfl (any_of HT_.out (by kernel_rfl)) (fun _ _ _ h => h) (Or.inl ⟨by rfl, ?_⟩) ?_ ?_; rotate_left; (· intro w'; go_simp; (with_reducible rfl)); rotate_left; (· simp only [Act.put, List.setIfInBounds_toArray, List.set_cons_zero, List.set_cons_succ, i64_w, i32_w]; rfl); refine pure_ (i := 8) (N := some 13) (v := ?_) (a' := ?_) #[true, true, true, true, true, true, true, true, true, false, false, false, false] rfl rfl (any_of HT_.out (by kernel_rfl)) (fun _ _ _ h => h) (Or.inl ⟨by rfl, ?_⟩) ?_ ?_; rotate_left; (· intro w'; go_simp; (with_reducible rfl)); rotate_left; (· simp only [Act.put, List.setIfInBounds_toArray, List.set_cons_zero, List.set_cons_succ, i64_w, i32_w]; rfl); refine pure_ (i := 9) (N := some 14) (v := ?_) (a' := ?_) #[true, true, true, true, true, true, true, true, true, true, false, false, false] rfl rfl (any_of HT_.out (by kernel_rfl)) (fun _ _ _ h => h) (Or.inl ⟨by rfl, ?_⟩) ?_ ?_; rotate_left; (· intro w'; go_simp; (with_reducible rfl)); rotate_left; (· simp only [Act.put, List.setIfInBounds_toArray, List.set_cons_zero, List.set_cons_succ, i64_w, i32_w]; rfl); refine one_ (i := 10) (N := some 3) #[true, true, true, true, true, true, true, true, true, true, true, false, false] rfl rfl (one_of HT_.out (by kernel_rfl)) (by decide) (fun K hK => ?_); refine box_step ?hg (N := 3) ?hd (cs := #[.int .i64 0, .slice none 0 0]) (t := 45) ?hr ?_; (case hd => rfl); (case hg => rfl); (case hr => first | (go_simp; done) | (go_simp; rfl)); intro gb169 hg w9 hbox hb; have n0_ := Aside0.mk (Kd.R_below (by (with_reducible repeat (first | apply Kd.R_alloc | apply Kd.R_drewN | apply Kd.R_drew)); exact HO167.out) hb); have n1_ := Aside0.mk (blk_below (g := gb161) (o := .cells #[.int .i64 a0_0, .int .i64 a0_1, .int .i64 a0_2, .bool a0_3, .int .i64 a0_4] 23 (0, 0)) (by (with_reducible repeat (first | refine blk_drewN ?_ _ | refine blk_drew ?_ | refine blk_alloc ?_ _)); exact BK161.out) hb); have n2_ := Aside0.mk (blk_below (g := gb162) (o := .cells #[.int .i64 0, .slice none 0 0] 45 (0, 0)) (by (with_reducible repeat (first | refine blk_drewN ?_ _ | refine blk_drew ?_ | refine blk_alloc ?_ _)); exact BK162.out) hb); have n3_ := Aside0.mk (below_step (by repeat (first | (with_reducible first | exact HB.out | apply below_alloc | apply pw_below_drewN | apply below_drew1 | refine below_set ?_ GE161.out | refine below_set ?_ GE162.out) | exact HB.out)) hb); have n4_ := Aside0.mk (hbox); have n5_ := Aside0.mk ((by rw [hg]; exact (below_size (by repeat (first | (with_reducible first | exact HB.out | apply below_alloc | apply pw_below_drewN | apply below_drew1 | refine below_set ?_ GE161.out | refine below_set ?_ GE162.out) | exact HB.out))) : w.heap.size ≤ gb169)); have n6_ := Aside0.mk ((by rw [hg]; exact (below_size (by repeat (first | (with_reducible first | exact HB.out | apply below_alloc | apply pw_below_drewN | apply below_drew1 | refine below_set ?_ GE161.out | refine below_set ?_ GE162.out) | exact HB.out))) : w.heap.size ≤ gb169)); have n7_ := Aside0.mk ((by rw [hg]; exact Nat.ne_of_lt (blk_lt (g := gb161) (o := .cells #[.int .i64 a0_0, .int .i64 a0_1, .int .i64 a0_2, .bool a0_3, .int .i64 a0_4] 23 (0, 0)) (by (with_reducible repeat (first | refine blk_drewN ?_ _ | refine blk_drew ?_ | refine blk_alloc ?_ _)); exact BK161.out)) : gb161 ≠ gb169)); have n8_ := Aside0.mk ((by rw [hg]; exact Nat.ne_of_gt (blk_lt (g := gb161) (o := .cells #[.int .i64 a0_0, .int .i64 a0_1, .int .i64 a0_2, .bool a0_3, .int .i64 a0_4] 23 (0, 0)) (by (with_reducible repeat (first | refine blk_drewN ?_ _ | refine blk_drew ?_ | refine blk_alloc ?_ _)); exact BK161.out)) : gb169 ≠ gb161)); have n9_ := Aside0.mk ((by rw [hg]; exact Nat.ne_of_lt (blk_lt (g := gb162) (o := .cells #[.int .i64 0, .slice none 0 0] 45 (0, 0)) (by (with_reducible repeat (first | refine blk_drewN ?_ _ | refine blk_drew ?_ | refine blk_alloc ?_ _)); exact BK162.out)) : gb162 ≠ gb169)); have n10_ := Aside0.mk ((by rw [hg]; exact Nat.ne_of_gt (blk_lt (g := gb162) (o := .cells #[.int .i64 0, .slice none 0 0] 45 (0, 0)) (by (with_reducible repeat (first | refine blk_drewN ?_ _ | refine blk_drew ?_ | refine blk_alloc ?_ _)); exact BK162.out)) : gb169 ≠ gb162)); clear HO167; clear BK161; clear BK162; clear HB; have HO167 := n0_; have BK161 := n1_; have BK162 := n2_; have HB := n3_; have BK169 := n4_; have GW169 := n5_; have GE169 := n6_; have NB161_169 := n7_; have NB169_161 := n8_; have NB162_169 := n9_; have NB169_162 := n10_; clear n0_ n1_ n2_ n3_ n4_ n5_ n6_ n7_ n8_ n9_ n10_; clear hb hbox hg; refine hK.out _ _ ⟨(blk_cell BK161.out 0).trans rfl, (blk_cell BK161.out 1).trans rfl, (blk_cell BK161.out 2).trans rfl, (blk_cell BK161.out 3).trans rfl, (blk_cell BK161.out 4).trans rfl⟩ (fun hHeld => ?_); clear hK K; refine norm_ (a' := ?_) ?_ ?_; rotate_left; (· show Act.put _ (some 3) _ = _; simp only [Act.put, List.setIfInBounds_toArray, List.set_cons_zero, List.set_cons_succ, i64_w, i32_w]; rfl); exact norm_ (by simp only [putAll, Act.put, List.setIfInBounds_toArray, List.set_cons_zero, List.set_cons_succ]) (hCont (v166, gb169) _ ⟨hHeld, (by (with_reducible repeat (first | apply Kd.R_alloc | apply Kd.R_drewN | apply Kd.R_drew)); exact HO167.out), (by (with_reducible repeat (first | refine blk_drewN ?_ _ | refine blk_drew ?_ | refine blk_alloc ?_ _)); exact BK161.out), (by (with_reducible repeat (first | refine blk_drewN ?_ _ | refine blk_drew ?_ | refine blk_alloc ?_ _)); exact BK162.out), (by (with_reducible repeat (first | refine blk_drewN ?_ _ | refine blk_drew ?_ | refine blk_alloc ?_ _)); exact BK169.out), GW169.out, GE169.out, NB161_169.out, NB169_161.out, NB162_169.out, NB169_162.out, (by repeat (first | (with_reducible first | exact HB.out | apply below_alloc | apply pw_below_drewN | apply below_drew1 | refine below_set ?_ GE161.out | refine below_set ?_ GE162.out | refine below_set ?_ GE169.out) | exact HB.out))⟩)); (· skip; refine box_step ?hg (N := 3) ?hd (cs := #[.int .i64 0, .slice none 0 0]) (t := 45) ?hr ?_; (case hd => rfl); (case hg => rfl); (case hr => first | (go_simp; done) | (go_simp; rfl)); intro gb169 hg w8 hbox hb; have n0_ := Aside0.mk (blk_below (g := gb161) (o := .cells #[.int .i64 a0_0, .int .i64 a0_1, .int .i64 a0_2, .bool a0_3, .int .i64 a0_4] 23 (0, 0)) (by (with_reducible repeat (first | refine blk_drewN ?_ _ | refine blk_drew ?_ | refine blk_alloc ?_ _)); exact BK161.out) hb); have n1_ := Aside0.mk (blk_below (g := gb162) (o := .cells #[.int .i64 0, .slice none 0 0] 45 (0, 0)) (by (with_reducible repeat (first | refine blk_drewN ?_ _ | refine blk_drew ?_ | refine blk_alloc ?_ _)); exact BK162.out) hb); have n2_ := Aside0.mk (below_step (by repeat (first | (with_reducible first | exact HB.out | apply below_alloc | apply pw_below_drewN | apply below_drew1 | refine below_set ?_ GE161.out | refine below_set ?_ GE162.out) | exact HB.out)) hb); have n3_ := Aside0.mk (hbox); have n4_ := Aside0.mk ((by rw [hg]; exact (below_size (by repeat (first | (with_reducible first | exact HB.out | apply below_alloc | apply pw_below_drewN | apply below_drew1 | refine below_set ?_ GE161.out | refine below_set ?_ GE162.out) | exact HB.out))) : w.heap.size ≤ gb169)); have n5_ := Aside0.mk ((by rw [hg]; exact (below_size (by repeat (first | (with_reducible first | exact HB.out | apply below_alloc | apply pw_below_drewN | apply below_drew1 | refine below_set ?_ GE161.out | refine below_set ?_ GE162.out) | exact HB.out))) : w.heap.size ≤ gb169)); have n6_ := Aside0.mk ((by rw [hg]; exact Nat.ne_of_lt (blk_lt (g := gb161) (o := .cells #[.int .i64 a0_0, .int .i64 a0_1, .int .i64 a0_2, .bool a0_3, .int .i64 a0_4] 23 (0, 0)) (by (with_reducible repeat (first | refine blk_drewN ?_ _ | refine blk_drew ?_ | refine blk_alloc ?_ _)); exact BK161.out)) : gb161 ≠ gb169)); have n7_ := Aside0.mk ((by rw [hg]; exact Nat.ne_of_gt (blk_lt (g := gb161) (o := .cells #[.int .i64 a0_0, .int .i64 a0_1, .int .i64 a0_2, .bool a0_3, .int .i64 a0_4] 23 (0, 0)) (by (with_reducible repeat (first | refine blk_drewN ?_ _ | refine blk_drew ?_ | refine blk_alloc ?_ _)); exact BK161.out)) : gb169 ≠ gb161)); have n8_ := Aside0.mk ((by rw [hg]; exact Nat.ne_of_lt (blk_lt (g := gb162) (o := .cells #[.int .i64 0, .slice none 0 0] 45 (0, 0)) (by (with_reducible repeat (first | refine blk_drewN ?_ _ | refine blk_drew ?_ | refine blk_alloc ?_ _)); exact BK162.out)) : gb162 ≠ gb169)); have n9_ := Aside0.mk ((by rw [hg]; exact Nat.ne_of_gt (blk_lt (g := gb162) (o := .cells #[.int .i64 0, .slice none 0 0] 45 (0, 0)) (by (with_reducible repeat (first | refine blk_drewN ?_ _ | refine blk_drew ?_ | refine blk_alloc ?_ _)); exact BK162.out)) : gb169 ≠ gb162)); clear BK161; clear BK162; clear HB; have BK161 := n0_; have BK162 := n1_; have HB := n2_; have BK169 := n3_; have GW169 := n4_; have GE169 := n5_; have NB161_169 := n6_; have NB169_161 := n7_; have NB162_169 := n8_; have NB169_162 := n9_; clear n0_ n1_ n2_ n3_ n4_ n5_ n6_ n7_ n8_ n9_; clear hb hbox hg; refine hK.out _ _ ⟨(blk_cell BK161.out 0).trans rfl, (blk_cell BK161.out 1).trans rfl, (blk_cell BK161.out 2).trans rfl, (blk_cell BK161.out 3).trans rfl, (blk_cell BK161.out 4).trans rfl⟩ (fun hHeld => ?_); clear hK K; refine norm_ (a' := ?_) ?_ ?_; rotate_left; (· show Act.put _ (some 3) _ = _; simp only [Act.put, List.setIfInBounds_toArray, List.set_cons_zero, List.set_cons_succ, i64_w, i32_w]; rfl); refine one_ (i := 6) (N := some 12) #[true, true, true, true, true, true, true, false, false, false, true, false, false] rfl rfl (one_of HT_.out (by kernel_rfl)) (by decide) (fun K hK => ?_); refine goes_ Try.func86 (by kernel_rfl) rfl #[.int .i64 a0_4, .int .i64 (wrap64 (t163 + 1))] (by rfl) rfl rfl (by (try simp only [List.map_toArray, List.map_cons, List.map_nil]); first | done | rfl | (simp only [List.length_drop, List.length_take]; rfl)) ?_; (with_reducible refine (coder_New.calls a0_4 (wrap64 (t163 + 1)) t164 t165 t168 _ A3.out).mono ?_); rintro e w9 ⟨v166, rfl, ho0, hb⟩; refine ⟨_, rfl, ?_⟩; have n0_ := Aside0.mk (Kd.R_lower ho0 (below_size (by repeat (first | (with_reducible first | exact HB.out | apply below_alloc | apply pw_below_drewN | apply below_drew1 | refine below_set ?_ GE161.out | refine below_set ?_ GE162.out | refine below_set ?_ GE169.out) | exact HB.out)))); have n1_ := Aside0.mk (blk_below (g := gb161) (o := .cells #[.int .i64 a0_0, .int .i64 a0_1, .int .i64 a0_2, .bool a0_3, .int .i64 a0_4] 23 (0, 0)) (by (with_reducible repeat (first | refine blk_drewN ?_ _ | refine blk_drew ?_ | refine blk_alloc ?_ _)); exact BK161.out) hb); have n2_ := Aside0.mk (blk_below (g := gb162) (o := .cells #[.int .i64 0, .slice none 0 0] 45 (0, 0)) (by (with_reducible repeat (first | refine blk_drewN ?_ _ | refine blk_drew ?_ | refine blk_alloc ?_ _)); exact BK162.out) hb); have n3_ := Aside0.mk (blk_below (g := gb169) (o := .cells #[.int .i64 0, .slice none 0 0] 45 (0, 0)) (by (with_reducible repeat (first | refine blk_drewN ?_ _ | refine blk_drew ?_ | refine blk_alloc ?_ _)); exact BK169.out) hb); have n4_ := Aside0.mk (below_step (by repeat (first | (with_reducible first | exact HB.out | apply below_alloc | apply pw_below_drewN | apply below_drew1 | refine below_set ?_ GE161.out | refine below_set ?_ GE162.out | refine below_set ?_ GE169.out) | exact HB.out)) hb); clear BK161; clear BK162; clear BK169; clear HB; have HO167 := n0_; have BK161 := n1_; have BK162 := n2_; have BK169 := n3_; have HB := n4_; clear n0_ n1_ n2_ n3_ n4_; (try clear hb); (try clear hb2); (try clear hk); (try clear hi); (try clear ho0); refine hK.out _ _ ⟨(blk_cell BK161.out 0).trans rfl, (blk_cell BK161.out 1).trans rfl, (blk_cell BK161.out 2).trans rfl, (blk_cell BK161.out 3).trans rfl, (blk_cell BK161.out 4).trans rfl⟩ (fun hHeld => ?_); clear hK K; refine norm_ (a' := ?_) ?_ ?_; rotate_left; (· show Act.put _ (some 12) _ = _; simp only [Act.put, List.setIfInBounds_toArray, List.set_cons_zero, List.set_cons_succ, i64_w, i32_w]; rfl); refine pure_ (i := 7) (N := some 5) (v := ?_) (a' := ?_) #[true, true, true, true, true, true, true, true, false, false, true, false, false] rfl rfl (any_of HT_.out (by kernel_rfl)) (fun _ _ _ h => h) (Or.inl ⟨by rfl, ?_⟩) ?_ ?_; rotate_left; (· intro w'; go_simp; (with_reducible rfl)); rotate_left; (· simp only [Act.put, List.setIfInBounds_toArray, List.set_cons_zero, List.set_cons_succ, i64_w, i32_w]; rfl); refine pure_ (i := 8) (N := some 13) (v := ?_) (a' := ?_) #[true, true, true, true, true, true, true, true, true, false, true, false, false] rfl rfl (any_of HT_.out (by kernel_rfl)) (fun _ _ _ h => h) (Or.inl ⟨by rfl, ?_⟩) ?_ ?_; rotate_left; (· intro w'; go_simp; (with_reducible rfl)); rotate_left; (· simp only [Act.put, List.setIfInBounds_toArray, List.set_cons_zero, List.set_cons_succ, i64_w, i32_w]; rfl); refine pure_ (i := 9) (N := some 14) (v := ?_) (a' := ?_) #[true, true, true, true, true, true, true, true, true, true, true, false, false] rfl rfl (any_of HT_.out (by kernel_rfl)) (fun _ _ _ h => h) (Or.inl ⟨by rfl, ?_⟩) ?_ ?_; rotate_left; (· intro w'; go_simp; (with_reducible rfl)); rotate_left; (· simp only [Act.put, List.setIfInBounds_toArray, List.set_cons_zero, List.set_cons_succ, i64_w, i32_w]; rfl); exact norm_ (by simp only [putAll, Act.put, List.setIfInBounds_toArray, List.set_cons_zero, List.set_cons_succ]) (hCont (v166, gb169) _ ⟨hHeld, (by (with_reducible repeat (first | apply Kd.R_alloc | apply Kd.R_drewN | apply Kd.R_drew)); exact HO167.out), (by (with_reducible repeat (first | refine blk_drewN ?_ _ | refine blk_drew ?_ | refine blk_alloc ?_ _)); exact BK161.out), (by (with_reducible repeat (first | refine blk_drewN ?_ _ | refine blk_drew ?_ | refine blk_alloc ?_ _)); exact BK162.out), (by (with_reducible repeat (first | refine blk_drewN ?_ _ | refine blk_drew ?_ | refine blk_alloc ?_ _)); exact BK169.out), GW169.out, GE169.out, NB161_169.out, NB169_161.out, NB162_169.out, NB169_162.out, (by repeat (first | (with_reducible first | exact HB.out | apply below_alloc | apply pw_below_drewN | apply below_drew1 | refine below_set ?_ GE161.out | refine below_set ?_ GE162.out | refine below_set ?_ GE169.out) | exact HB.out))⟩))); (· skip; refine box_step ?hg (N := 3) ?hd (cs := #[.int .i64 0, .slice none 0 0]) (t := 45) ?hr ?_; (case hd => rfl); (case hg => rfl); (case hr => first | (go_simp; done) | (go_simp; rfl)); intro gb169 hg w7 hbox hb; have n0_ := Aside0.mk (blk_below (g := gb161) (o := .cells #[.int .i64 a0_0, .int .i64 a0_1, .int .i64 a0_2, .bool a0_3, .int .i64 a0_4] 23 (0, 0)) (by (with_reducible repeat (first | refine blk_drewN ?_ _ | refine blk_drew ?_ | refine blk_alloc ?_ _)); exact BK161.out) hb); have n1_ := Aside0.mk (blk_below (g := gb162) (o := .cells #[.int .i64 0, .slice none 0 0] 45 (0, 0)) (by (with_reducible repeat (first | refine blk_drewN ?_ _ | refine blk_drew ?_ | refine blk_alloc ?_ _)); exact BK162.out) hb); have n2_ := Aside0.mk (below_step (by repeat (first | (with_reducible first | exact HB.out | apply below_alloc | apply pw_below_drewN | apply below_drew1 | refine below_set ?_ GE161.out | refine below_set ?_ GE162.out) | exact HB.out)) hb); have n3_ := Aside0.mk (hbox); have n4_ := Aside0.mk ((by rw [hg]; exact (below_size (by repeat (first | (with_reducible first | exact HB.out | apply below_alloc | apply pw_below_drewN | apply below_drew1 | refine below_set ?_ GE161.out | refine below_set ?_ GE162.out) | exact HB.out))) : w.heap.size ≤ gb169)); have n5_ := Aside0.mk ((by rw [hg]; exact (below_size (by repeat (first | (with_reducible first | exact HB.out | apply below_alloc | apply pw_below_drewN | apply below_drew1 | refine below_set ?_ GE161.out | refine below_set ?_ GE162.out) | exact HB.out))) : w.heap.size ≤ gb169)); have n6_ := Aside0.mk ((by rw [hg]; exact Nat.ne_of_lt (blk_lt (g := gb161) (o := .cells #[.int .i64 a0_0, .int .i64 a0_1, .int .i64 a0_2, .bool a0_3, .int .i64 a0_4] 23 (0, 0)) (by (with_reducible repeat (first | refine blk_drewN ?_ _ | refine blk_drew ?_ | refine blk_alloc ?_ _)); exact BK161.out)) : gb161 ≠ gb169)); have n7_ := Aside0.mk ((by rw [hg]; exact Nat.ne_of_gt (blk_lt (g := gb161) (o := .cells #[.int .i64 a0_0, .int .i64 a0_1, .int .i64 a0_2, .bool a0_3, .int .i64 a0_4] 23 (0, 0)) (by (with_reducible repeat (first | refine blk_drewN ?_ _ | refine blk_drew ?_ | refine blk_alloc ?_ _)); exact BK161.out)) : gb169 ≠ gb161)); have n8_ := Aside0.mk ((by rw [hg]; exact Nat.ne_of_lt (blk_lt (g := gb162) (o := .cells #[.int .i64 0, .slice none 0 0] 45 (0, 0)) (by (with_reducible repeat (first | refine blk_drewN ?_ _ | refine blk_drew ?_ | refine blk_alloc ?_ _)); exact BK162.out)) : gb162 ≠ gb169)); have n9_ := Aside0.mk ((by rw [hg]; exact Nat.ne_of_gt (blk_lt (g := gb162) (o := .cells #[.int .i64 0, .slice none 0 0] 45 (0, 0)) (by (with_reducible repeat (first | refine blk_drewN ?_ _ | refine blk_drew ?_ | refine blk_alloc ?_ _)); exact BK162.out)) : gb169 ≠ gb162)); clear BK161; clear BK162; clear HB; have BK161 := n0_; have BK162 := n1_; have HB := n2_; have BK169 := n3_; have GW169 := n4_; have GE169 := n5_; have NB161_169 := n6_; have NB169_161 := n7_; have NB162_169 := n8_; have NB169_162 := n9_; clear n0_ n1_ n2_ n3_ n4_ n5_ n6_ n7_ n8_ n9_; clear hb hbox hg; refine hK.out _ _ ⟨(blk_cell BK161.out 0).trans rfl, (blk_cell BK161.out 1).trans rfl, (blk_cell BK161.out 2).trans rfl, (blk_cell BK161.out 3).trans rfl, (blk_cell BK161.out 4).trans rfl⟩ (fun hHeld => ?_); clear hK K; refine norm_ (a' := ?_) ?_ ?_; rotate_left; (· show Act.put _ (some 3) _ = _; simp only [Act.put, List.setIfInBounds_toArray, List.set_cons_zero, List.set_cons_succ, i64_w, i32_w]; rfl); refine one_ (i := 4) (N := some 10) #[true, true, true, true, true, false, false, false, false, false, true, false, false] rfl rfl (one_of HT_.out (by kernel_rfl)) (by decide) (fun K hK => ?_); refine goes_ Try.func45 (by kernel_rfl) rfl #[.int .i64 a0_0] (by rfl) rfl rfl (by (try simp only [List.map_toArray, List.map_cons, List.map_nil]); first | done | rfl | (simp only [List.length_drop, List.length_take]; rfl)) ?_; (with_reducible refine (refine_contexts.calls a0_0 t163 _ A2.out).mono ?_); rintro e w8 ⟨rfl, hb⟩; refine ⟨_, rfl, ?_⟩; have n0_ := Aside0.mk (blk_below (g := gb161) (o := .cells #[.int .i64 a0_0, .int .i64 a0_1, .int .i64 a0_2, .bool a0_3, .int .i64 a0_4] 23 (0, 0)) (by (with_reducible repeat (first | refine blk_drewN ?_ _ | refine blk_drew ?_ | refine blk_alloc ?_ _)); exact BK161.out) hb); have n1_ := Aside0.mk (blk_below (g := gb162) (o := .cells #[.int .i64 0, .slice none 0 0] 45 (0, 0)) (by (with_reducible repeat (first | refine blk_drewN ?_ _ | refine blk_drew ?_ | refine blk_alloc ?_ _)); exact BK162.out) hb); have n2_ := Aside0.mk (blk_below (g := gb169) (o := .cells #[.int .i64 0, .slice none 0 0] 45 (0, 0)) (by (with_reducible repeat (first | refine blk_drewN ?_ _ | refine blk_drew ?_ | refine blk_alloc ?_ _)); exact BK169.out) hb); have n3_ := Aside0.mk (below_step (by repeat (first | (with_reducible first | exact HB.out | apply below_alloc | apply pw_below_drewN | apply below_drew1 | refine below_set ?_ GE161.out | refine below_set ?_ GE162.out | refine below_set ?_ GE169.out) | exact HB.out)) hb); clear BK161; clear BK162; clear BK169; clear HB; have BK161 := n0_; have BK162 := n1_; have BK169 := n2_; have HB := n3_; clear n0_ n1_ n2_ n3_; (try clear hb); (try clear hb2); (try clear hk); (try clear hi); refine hK.out _ _ ⟨(blk_cell BK161.out 0).trans rfl, (blk_cell BK161.out 1).trans rfl, (blk_cell BK161.out 2).trans rfl, (blk_cell BK161.out 3).trans rfl, (blk_cell BK161.out 4).trans rfl⟩ (fun hHeld => ?_); clear hK K; refine norm_ (a' := ?_) ?_ ?_; rotate_left; (· show Act.put _ (some 10) _ = _; simp only [Act.put, List.setIfInBounds_toArray, List.set_cons_zero, List.set_cons_succ, i64_w, i32_w]; rfl); refine pure_ (i := 5) (N := some 11) (v := ?_) (a' := ?_) #[true, true, true, true, true, true, false, false, false, false, true, false, false] rfl rfl (any_of HT_.out (by kernel_rfl)) (fun _ _ _ h => h) (Or.inl ⟨by rfl, ?_⟩) ?_ ?_; rotate_left; (· intro w'; go_simp; (with_reducible rfl)); rotate_left; (· simp only [Act.put, List.setIfInBounds_toArray, List.set_cons_zero, List.set_cons_succ, i64_w, i32_w]; rfl); refine one_ (i := 6) (N := some 12) #[true, true, true, true, true, true, true, false, false, false, true, false, false] rfl rfl (one_of HT_.out (by kernel_rfl)) (by decide) (fun K hK => ?_); refine goes_ Try.func86 (by kernel_rfl) rfl #[.int .i64 a0_4, .int .i64 (wrap64 (t163 + 1))] (by rfl) rfl rfl (by (try simp only [List.map_toArray, List.map_cons, List.map_nil]); first | done | rfl | (simp only [List.length_drop, List.length_take]; rfl)) ?_; (with_reducible refine (coder_New.calls a0_4 (wrap64 (t163 + 1)) t164 t165 t168 _ A3.out).mono ?_); rintro e w9 ⟨v166, rfl, ho0, hb⟩; refine ⟨_, rfl, ?_⟩; have n0_ := Aside0.mk (Kd.R_lower ho0 (below_size (by repeat (first | (with_reducible first | exact HB.out | apply below_alloc | apply pw_below_drewN | apply below_drew1 | refine below_set ?_ GE161.out | refine below_set ?_ GE162.out | refine below_set ?_ GE169.out) | exact HB.out)))); have n1_ := Aside0.mk (blk_below (g := gb161) (o := .cells #[.int .i64 a0_0, .int .i64 a0_1, .int .i64 a0_2, .bool a0_3, .int .i64 a0_4] 23 (0, 0)) (by (with_reducible repeat (first | refine blk_drewN ?_ _ | refine blk_drew ?_ | refine blk_alloc ?_ _)); exact BK161.out) hb); have n2_ := Aside0.mk (blk_below (g := gb162) (o := .cells #[.int .i64 0, .slice none 0 0] 45 (0, 0)) (by (with_reducible repeat (first | refine blk_drewN ?_ _ | refine blk_drew ?_ | refine blk_alloc ?_ _)); exact BK162.out) hb); have n3_ := Aside0.mk (blk_below (g := gb169) (o := .cells #[.int .i64 0, .slice none 0 0] 45 (0, 0)) (by (with_reducible repeat (first | refine blk_drewN ?_ _ | refine blk_drew ?_ | refine blk_alloc ?_ _)); exact BK169.out) hb); have n4_ := Aside0.mk (below_step (by repeat (first | (with_reducible first | exact HB.out | apply below_alloc | apply pw_below_drewN | apply below_drew1 | refine below_set ?_ GE161.out | refine below_set ?_ GE162.out | refine below_set ?_ GE169.out) | exact HB.out)) hb); clear BK161; clear BK162; clear BK169; clear HB; have HO167 := n0_; have BK161 := n1_; have BK162 := n2_; have BK169 := n3_; have HB := n4_; clear n0_ n1_ n2_ n3_ n4_; (try clear hb); (try clear hb2); (try clear hk); (try clear hi); (try clear ho0); refine hK.out _ _ ⟨(blk_cell BK161.out 0).trans rfl, (blk_cell BK161.out 1).trans rfl, (blk_cell BK161.out 2).trans rfl, (blk_cell BK161.out 3).trans rfl, (blk_cell BK161.out 4).trans rfl⟩ (fun hHeld => ?_); clear hK K; refine norm_ (a' := ?_) ?_ ?_; rotate_left; (· show Act.put _ (some 12) _ = _; simp only [Act.put, List.setIfInBounds_toArray, List.set_cons_zero, List.set_cons_succ, i64_w, i32_w]; rfl); refine pure_ (i := 7) (N := some 5) (v := ?_) (a' := ?_) #[true, true, true, true, true, true, true, true, false, false, true, false, false] rfl rfl (any_of HT_.out (by kernel_rfl)) (fun _ _ _ h => h) (Or.inl ⟨by rfl, ?_⟩) ?_ ?_; rotate_left; (· intro w'; go_simp; (with_reducible rfl)); rotate_left; (· simp only [Act.put, List.setIfInBounds_toArray, List.set_cons_zero, List.set_cons_succ, i64_w, i32_w]; rfl); refine pure_ (i := 8) (N := some 13) (v := ?_) (a' := ?_) #[true, true, true, true, true, true, true, true, true, false, true, false, false] rfl rfl (any_of HT_.out (by kernel_rfl)) (fun _ _ _ h => h) (Or.inl ⟨by rfl, ?_⟩) ?_ ?_; rotate_left; (· intro w'; go_simp; (with_reducible rfl)); rotate_left; (· simp only [Act.put, List.setIfInBounds_toArray, List.set_cons_zero, List.set_cons_succ, i64_w, i32_w]; rfl); refine pure_ (i := 9) (N := some 14) (v := ?_) (a' := ?_) #[true, true, true, true, true, true, true, true, true, true, true, false, false] rfl rfl (any_of HT_.out (by kernel_rfl)) (fun _ _ _ h => h) (Or.inl ⟨by rfl, ?_⟩) ?_ ?_; rotate_left; (· intro w'; go_simp; (with_reducible rfl)); rotate_left; (· simp only [Act.put, List.setIfInBounds_toArray, List.set_cons_zero, List.set_cons_succ, i64_w, i32_w]; rfl); exact norm_ (by simp only [putAll, Act.put, List.setIfInBounds_toArray, List.set_cons_zero, List.set_cons_succ]) (hCont (v166, gb169) _ ⟨hHeld, (by (with_reducible repeat (first | apply Kd.R_alloc | apply Kd.R_drewN | apply Kd.R_drew)); exact HO167.out), (by (with_reducible repeat (first | refine blk_drewN ?_ _ | refine blk_drew ?_ | refine blk_alloc ?_ _)); exact BK161.out), (by (with_reducible repeat (first | refine blk_drewN ?_ _ | refine blk_drew ?_ | refine blk_alloc ?_ _)); exact BK162.out), (by (with_reducible repeat (first | refine blk_drewN ?_ _ | refine blk_drew ?_ | refine blk_alloc ?_ _)); exact BK169.out), GW169.out, GE169.out, NB161_169.out, NB169_161.out, NB162_169.out, NB169_162.out, (by repeat (first | (with_reducible first | exact HB.out | apply below_alloc | apply pw_below_drewN | apply below_drew1 | refine below_set ?_ GE161.out | refine below_set ?_ GE162.out | refine below_set ?_ GE169.out) | exact HB.out))⟩)))
 rintro ⟨v166, gb169⟩ w10 ⟨hS_, h0_, h1_, h2_, h3_, h4_, h5_, h6_, h7_, h8_, h9_, h10_⟩; have n0_ : Aside0 (Kd.R (Kd.int .i64) 3 w10 w.heap.size (fun _ => True) v166 t165) := ⟨h0_⟩; have n1_ : Aside0 (w10.heap[gb161]? = some (.cells #[.int .i64 a0_0, .int .i64 a0_1, .int .i64 a0_2, .bool a0_3, .int .i64 a0_4] 23 (0, 0))) := ⟨h1_⟩; have n2_ : Aside0 (w10.heap[gb162]? = some (.cells #[.int .i64 0, .slice none 0 0] 45 (0, 0))) := ⟨h2_⟩; have n3_ : Aside0 (w10.heap[gb169]? = some (.cells #[.int .i64 0, .slice none 0 0] 45 (0, 0))) := ⟨h3_⟩; have n4_ : Aside0 (w.heap.size ≤ gb169) := ⟨h4_⟩; have n5_ : Aside0 (w.heap.size ≤ gb169) := ⟨h5_⟩; have n6_ : Aside0 (gb161 ≠ gb169) := ⟨h6_⟩; have n7_ : Aside0 (gb169 ≠ gb161) := ⟨h7_⟩; have n8_ : Aside0 (gb162 ≠ gb169) := ⟨h8_⟩; have n9_ : Aside0 (gb169 ≠ gb162) := ⟨h9_⟩; have n10_ : Aside0 (Below w.heap.size w w10) := ⟨h10_⟩; clear BK161; clear BK162; clear HB; clear h0_ h1_ h2_ h3_ h4_ h5_ h6_ h7_ h8_ h9_ h10_; have HO167 := n0_; have BK161 := n1_; have BK162 := n2_; have BK169 := n3_; have GW169 := n4_; have GE169 := n5_; have NB161_169 := n6_; have NB169_161 := n7_; have NB162_169 := n8_; have NB169_162 := n9_; have HB := n10_; clear n0_ n1_ n2_ n3_ n4_ n5_ n6_ n7_ n8_ n9_ n10_
 have hHeld : w10.cell? ⟨gb161, 0, none⟩ = some (.int .i64 a0_0) ∧ w10.cell? ⟨gb161, 1, none⟩ = some (.int .i64 a0_1) ∧ w10.cell? ⟨gb161, 2, none⟩ = some (.int .i64 a0_2) ∧ w10.cell? ⟨gb161, 3, none⟩ = some (.bool a0_3) ∧ w10.cell? ⟨gb161, 4, none⟩ = some (.int .i64 a0_4) := hS_; obtain ⟨Ao12, co12, eo12⟩ := Kd.R_slice HO167.out; (first | subst eo12 | (injection eo12 with f1_ f2_ f3_; have f4_ := f1_.symm; have f5_ := f3_.symm; clear f1_ f2_ f3_; subst f4_; subst f5_)); refine norm_ (a' := ?_) ?_ ?_; rotate_left; (· simp only [putAll, Act.put, List.setIfInBounds_toArray, List.set_cons_zero, List.set_cons_succ]; rfl); refine one_ (i := 11) (N := none) #[true, true, true, true, true, true, true, true, true, true, true, true, false] rfl rfl (one_of HT_.out (by kernel_rfl)) (by decide) (fun K hK => ?_); have hs11 : w10.cell? ⟨gb169, 0, none⟩ = some (.int .i64 0) := (blk_cell BK169.out 0).trans rfl; have hfs11 := blk_frozen BK169.out 0; have hns11_0 := NB161_169.out; have hns11_1 := NB162_169.out; have hms11_0 := NB169_161.out; have hms11_1 := NB169_162.out; have hs13 : w10.cell? ⟨gb169, 1, none⟩ = some (.slice none 0 0) := (blk_cell BK169.out 1).trans rfl; have hfs13 := blk_frozen BK169.out 1; have hns13_0 := NB161_169.out; have hns13_1 := NB162_169.out; have hms13_0 := NB169_161.out; have hms13_1 := NB169_162.out; refine skip_ (w1 := ?_) (by rfl) rfl ?_ ?_; rotate_left; (· go_simp; rfl)
 refine hK.out _ _ ⟨((cell_far (p := ⟨gb169, _, none⟩) NB161_169.out _).trans (((cell_far (p := ⟨gb169, _, none⟩) NB161_169.out _).trans (hHeld.1)))), ((cell_far (p := ⟨gb169, _, none⟩) NB161_169.out _).trans (((cell_far (p := ⟨gb169, _, none⟩) NB161_169.out _).trans (hHeld.2.1)))), ((cell_far (p := ⟨gb169, _, none⟩) NB161_169.out _).trans (((cell_far (p := ⟨gb169, _, none⟩) NB161_169.out _).trans (hHeld.2.2.1)))), ((cell_far (p := ⟨gb169, _, none⟩) NB161_169.out _).trans (((cell_far (p := ⟨gb169, _, none⟩) NB161_169.out _).trans (hHeld.2.2.2.1)))), ((cell_far (p := ⟨gb169, _, none⟩) NB161_169.out _).trans (((cell_far (p := ⟨gb169, _, none⟩) NB161_169.out _).trans (hHeld.2.2.2.2))))⟩ (fun hHeld => ?_); clear hK K; refine pure_ (i := 12) (N := some 4) (v := ?_) (a' := ?_) #[true, true, true, true, true, true, true, true, true, true, true, true, true] rfl rfl (any_of HT_.out (by kernel_rfl)) (fun _ _ _ h => h) (Or.inl ⟨by rfl, ?_⟩) ?_ ?_; rotate_left; (· intro w'; go_simp; (with_reducible rfl)); rotate_left; (· simp only [Act.put, List.setIfInBounds_toArray, List.set_cons_zero, List.set_cons_succ, i64_w, i32_w]; rfl); refine done_ (done_of HT_.out (by kernel_rfl)) ?_; have hnb14 := NB169_161.out; have hnc14 := NB161_169.out; have hnb15 := NB169_162.out; have hnc15 := NB162_169.out; have hcz16_0 : w10.cell? ⟨gb169, 0, none⟩ = some (.int .i64 0) := (blk_cell BK169.out 0).trans rfl; have hcz16_1 : w10.cell? ⟨gb169, 1, none⟩ = some (.slice none 0 0) := (blk_cell BK169.out 1).trans rfl
 have hfz16_0 := blk_frozen BK169.out 0; have hfz16_1 := blk_frozen BK169.out 1; have hnb17 := NB162_161.out; have hnc17 := NB161_162.out; have hcz18_0 : w10.cell? ⟨gb162, 0, none⟩ = some (.int .i64 0) := (blk_cell BK162.out 0).trans rfl; have hcz18_1 : w10.cell? ⟨gb162, 1, none⟩ = some (.slice none 0 0) := (blk_cell BK162.out 1).trans rfl; have hfz18_0 := blk_frozen BK162.out 0; have hfz18_1 := blk_frozen BK162.out 1; (try go_wp2); refine bodyPost_ret (results_cell_row rfl _ _ gb162 45 #[.int .i64 t164, .slice Ao12 t165.length co12] (0, 0) _ rfl (by (with_reducible repeat (first | refine blk_drewN ?_ _ | refine blk_drew ?_ | refine blk_alloc ?_ _)); refine blk_put (cs := #[.int .i64 t164, .slice none 0 0]) ?_ 1 _ rfl; (with_reducible repeat (first | refine blk_drewN ?_ _ | refine blk_drew ?_ | refine blk_alloc ?_ _)); refine blk_put (cs := #[.int .i64 0, .slice none 0 0]) ?_ 0 _ rfl; (with_reducible repeat (first | refine blk_drewN ?_ _ | refine blk_drew ?_ | refine blk_alloc ?_ _)); refine blk_far ?_ NB162_169.out _; (with_reducible repeat (first | refine blk_drewN ?_ _ | refine blk_drew ?_ | refine blk_alloc ?_ _)); refine blk_far ?_ NB162_169.out _; (with_reducible repeat (first | refine blk_drewN ?_ _ | refine blk_drew ?_ | refine blk_alloc ?_ _)); exact BK162.out) Try.underlying45 rfl (by kernel_rfl)) rfl ?_
 (exact ⟨_, by first | rfl | (simp [errW_none, errW_some] <;> rfl) | (simp [*, errW_none, errW_some] <;> rfl), by (with_reducible repeat (first | apply Kd.R_alloc | apply Kd.R_drewN | apply Kd.R_drew)); exact Kd.R_mono (Kd.R_far (p := ⟨gb162, 1, none⟩) (Kd.R_far (p := ⟨gb162, 0, none⟩) (Kd.R_far (p := ⟨gb169, 1, none⟩) (Kd.R_far (p := ⟨gb169, 0, none⟩) (Kd.R_types (Kd.R_types HO167.out BK169.out (by decide)) BK162.out (by decide)) (fun _ hk => hk.1.2) (.int .i64 t164)) (fun _ hk => hk.1.2) (.slice Ao12 t165.length co12)) (fun _ hk => hk.2) (.int .i64 t164)) (fun _ hk => hk.2) (.slice Ao12 t165.length co12)) (fun _ hk => trivial), by repeat (first | (with_reducible first | exact HB.out | apply below_alloc | apply pw_below_drewN | apply below_drew1 | refine below_set ?_ GE161.out | refine below_set ?_ GE162.out | refine below_set ?_ GE169.out) | exact HB.out)⟩)
end Go.Proofs.Ytkfejicdjpffcaa.U
namespace Go.Proofs.Ytkfejicdjpffcaa.U
open Go.RowKit Go.Proofs.YtkfejicdjpffcaaW.PrintWords Go.Proofs.YtkfejicdjpffcaaW.PrintLast Go.Proofs.YtkfejicdjpffcaaW.PrintMore
attribute [local go_sem] max2_int min2_int max_two min_two max_three min_three max_four min_four   -- for this text's walks alone
def incunableref08_fresh.f (a0_0 : Int) (a0_1 : Int) (a0_2 : Int) (a0_3 : Bool) (a0_4 : Int) : Option (Int × List Int) := (incunableref08_size.f a0_0).bind fun t299 => (if 0 ≤ t299 then (if (t299 : Int).toNat ≤ 35184372088832 then (some (a0_4, (List.replicate (t299 : Int).toNat 0))) else (none)) else (none))
end Go.Proofs.Ytkfejicdjpffcaa.U
namespace Go.Proofs.Ytkfejicdjpffcaa.U
open Go.RowKit Go.Proofs.YtkfejicdjpffcaaW.PrintWords Go.Proofs.YtkfejicdjpffcaaW.PrintLast Go.Proofs.YtkfejicdjpffcaaW.PrintMore
attribute [local go_sem] max2_int min2_int max_two min_two max_three min_three max_four min_four   -- for this text's walks alone
def incunableref08_asked.f (a0_0 : Int) (a0_1 : Int) (a0_2 : Int) (a0_3 : Bool) (a0_4 : Int) (a1 : Bool) (a2 : Int) (a3_0 : Int) (l3_1 : List Int) : Option (Int) := (incunableref08_Valid.f a0_0 a0_1 a0_2 a0_3 a0_4).bind fun t273 => (if t273 = true then (if a1 = true then (if a2 < 0 then (some 2) else ((incunableref08_size.f a0_0).bind fun t274 => (if a2 > (wrap64 ((l3_1.length : Int) - t274)) then (some 2) else (some 0)))) else (some 30)) else (some 2))
end Go.Proofs.Ytkfejicdjpffcaa.U
namespace Go.Proofs.Ytkfejicdjpffcaa.U
open Go.RowKit Go.Proofs.YtkfejicdjpffcaaW.PrintWords Go.Proofs.YtkfejicdjpffcaaW.PrintLast Go.Proofs.YtkfejicdjpffcaaW.PrintMore
attribute [local go_sem] max2_int min2_int max_two min_two max_three min_three max_four min_four   -- for this text's walks alone
def refine_Size.f (a0 : Int) : Option (Int × Int) := if a0 = 0 then ((refine_contexts.f a0).bind fun t110 => (some (wrap64 (t110 + 1), 0))) else (if a0 = 1 then ((refine_contexts.f a0).bind fun t111 => (some (wrap64 (t111 + 1), 0))) else (some (0, 2)))
set_option maxHeartbeats 8000000 in
set_option maxRecDepth 100000 in
theorem refine_Size.calls (a0 : Int) (r1 : Int) (r2 : Int) (w : World) (h : refine_Size.f a0 = some (r1, r2)) :
    Calls Try.prog 11 #[.int .i64 a0] w fun e w' => e = .returned (.tuple #[.int .i64 r1, .int .i64 r2]) ∧ Below w.heap.size w w' := by
 have HB := Aside0.mk (Below.refl w.heap.size w); have H : (if a0 = 0 then ((refine_contexts.f a0).bind fun t110 => (some (wrap64 (t110 + 1), 0))) else (if a0 = 1 then ((refine_contexts.f a0).bind fun t111 => (some (wrap64 (t111 + 1), 0))) else (some (0, 2)))) = some (r1, r2) := h; clear h; by_cases c2 : a0 = 0
 (· rw [if_pos c2] at H; have c2b0 : (a0 == 0) = true := beq_iff_eq.mpr c2; have c2b1 : (a0 != 0) = false := bne_eq_false_iff_eq.mpr c2; clear c2; replace H := Option.bind_eq_some_iff.mp H; obtain ⟨t110, A30, H⟩ := H; replace H : (some (wrap64 (t110 + 1), 0)) = some (r1, r2) := H; have A3 := Aside0.mk A30; clear A30; simp only [Option.some.injEq, Prod.mk.injEq] at H; obtain ⟨rfl, rfl⟩ := H; go_enter Try.func11, Try.ntmps11; go_wp2_with (first | ((with_reducible refine gate_callee (f := 45) rfl ?_); refine goesL_ (some 11) rfl rfl Try.func45 (by kernel_rfl) rfl #[.int .i64 a0] rfl (by (try simp only [List.map_toArray, List.map_cons, List.map_nil]); first | done | rfl | (simp only [List.length_drop, List.length_take]; rfl)) ?_; (with_reducible refine (refine_contexts.calls a0 t110 _ A3.out).mono ?_); rintro e w4 ⟨rfl, hb⟩; refine ⟨_, rfl, ?_⟩; have n0_ := Aside0.mk (below_step (by repeat (first | (with_reducible first | exact HB.out | apply below_alloc | apply pw_below_drewN | apply below_drew1) | exact HB.out)) hb); clear HB; have HB := n0_; clear n0_; (try clear hb); (try clear hb2); (try clear hk); (try clear hi))); go_ret2; (exact ⟨by first | rfl | (simp [errW_none, errW_some] <;> rfl) | (simp [*, errW_none, errW_some] <;> rfl), by repeat (first | (with_reducible first | exact HB.out | apply below_alloc | apply pw_below_drewN | apply below_drew1) | exact HB.out)⟩))
 (· rw [if_neg c2] at H; have c2b0 : (a0 == 0) = false := beq_eq_false_iff_ne.mpr c2; have c2b1 : (a0 != 0) = true := bne_iff_ne.mpr c2; by_cases c5 : a0 = 1; (· rw [if_pos c5] at H; have c5b0 : (a0 == 1) = true := beq_iff_eq.mpr c5; have c5b1 : (a0 != 1) = false := bne_eq_false_iff_eq.mpr c5; clear c5; replace H := Option.bind_eq_some_iff.mp H; obtain ⟨t111, A60, H⟩ := H; replace H : (some (wrap64 (t111 + 1), 0)) = some (r1, r2) := H; have A6 := Aside0.mk A60; clear A60; simp only [Option.some.injEq, Prod.mk.injEq] at H; obtain ⟨rfl, rfl⟩ := H; go_enter Try.func11, Try.ntmps11; go_wp2_with (first | ((with_reducible refine gate_callee (f := 45) rfl ?_); refine goesL_ (some 11) rfl rfl Try.func45 (by kernel_rfl) rfl #[.int .i64 a0] rfl (by (try simp only [List.map_toArray, List.map_cons, List.map_nil]); first | done | rfl | (simp only [List.length_drop, List.length_take]; rfl)) ?_; (with_reducible refine (refine_contexts.calls a0 t111 _ A6.out).mono ?_); rintro e w7 ⟨rfl, hb⟩; refine ⟨_, rfl, ?_⟩; have n0_ := Aside0.mk (below_step (by repeat (first | (with_reducible first | exact HB.out | apply below_alloc | apply pw_below_drewN | apply below_drew1) | exact HB.out)) hb); clear HB; have HB := n0_; clear n0_; (try clear hb); (try clear hb2); (try clear hk); (try clear hi))); go_ret2; (exact ⟨by first | rfl | (simp [errW_none, errW_some] <;> rfl) | (simp [*, errW_none, errW_some] <;> rfl), by repeat (first | (with_reducible first | exact HB.out | apply below_alloc | apply pw_below_drewN | apply below_drew1) | exact HB.out)⟩)); (· rw [if_neg c5] at H; have c5b0 : (a0 == 1) = false := beq_eq_false_iff_ne.mpr c5; have c5b1 : (a0 != 1) = true := bne_iff_ne.mpr c5; simp only [Option.some.injEq, Prod.mk.injEq] at H; obtain ⟨rfl, rfl⟩ := H; go_enter Try.func11, Try.ntmps11; go_wp2; go_ret2; (exact ⟨by first | rfl | (simp [errW_none, errW_some] <;> rfl) | (simp [*, errW_none, errW_some] <;> rfl), by repeat (first | (with_reducible first | exact HB.out | apply below_alloc | apply pw_below_drewN | apply below_drew1) | exact HB.out)⟩)))
end Go.Proofs.Ytkfejicdjpffcaa.U
namespace Go.Proofs.Ytkfejicdjpffcaa.U
open Go.RowKit Go.Proofs.YtkfejicdjpffcaaW.PrintWords Go.Proofs.YtkfejicdjpffcaaW.PrintLast Go.Proofs.YtkfejicdjpffcaaW.PrintMore
attribute [local go_sem] max2_int min2_int max_two min_two max_three min_three max_four min_four   -- for this text's walks alone
def incunableref08_Size.f (a0 : Int) : Option (Int × Int) := if a0 < 0 then (some (0, 2)) else (if a0 > 1 then (some (0, 2)) else ((incunableref08_size.f a0).bind fun t112 => (some (t112, 0))))
end Go.Proofs.Ytkfejicdjpffcaa.U
namespace Go.Proofs.Ytkfejicdjpffcaa.Rva
open Go Go.RowKit Go.Proofs.YtkfejicdjpffcaaW.PrintWords Go.Proofs.YtkfejicdjpffcaaW.PrintLast Go.Proofs.YtkfejicdjpffcaaW.PrintMore Go.Proofs.Ytkfejicdjpffcaa.U Go.Proofs.Ytkfejicdjpffcaa.Aid Go.Proofs.Ytkfejicdjpffcaa.HandAid Go.Proofs.Ytkfejicdjpffcaa.Cod1 Go.Proofs.Ytkfejicdjpffcaa.Cod2 Go.Proofs.Ytkfejicdjpffcaa.Cod3 Go.Proofs.Ytkfejicdjpffcaa.Mod Go.Proofs.Ytkfejicdjpffcaa.Rpx
/-- Options that are such. -/
def okO (t dx dy kd : Int) : Bool := decide ((t = 0 ∨ t = 1) ∧ (kd = 0 ∨ kd = 1) ∧ -200 ≤ dx ∧ dx ≤ 200 ∧ -200 ≤ dy ∧ dy ≤ 200)
theorem okO_iff {t dx dy kd : Int} : okO t dx dy kd = true ↔ ((t = 0 ∨ t = 1) ∧ (kd = 0 ∨ kd = 1) ∧ -200 ≤ dx ∧ dx ≤ 200 ∧ -200 ≤ dy ∧ dy ≤ 200) := by unfold okO; exact decide_eq_true_iff
theorem valid_eq (t dx dy : Int) (ty : Bool) (kd : Int) (hx : -9223372036854775808 ≤ dx ∧ dx ≤ 9223372036854775807) (hy : -9223372036854775808 ≤ dy ∧ dy ≤ 9223372036854775807) : refine_Valid.f t dx dy ty kd = some (okO t dx dy kd) := by
  have key : (if mn dx dy ≥ (-200) then (some (decide ((mx (mx (mx dx (wrap64 (-dx))) dy) (wrap64 (-dy))) ≤ 200))) else some false) = some (decide (-200 ≤ dx ∧ dx ≤ 200 ∧ -200 ≤ dy ∧ dy ≤ 200)) := by
    by_cases c : mn dx dy ≥ (-200)
    · rw [if_pos c]
      have hc : -200 ≤ dx ∧ -200 ≤ dy := by unfold mn at c; split at c <;> omega
      rw [wrap_id (n := -dx) (by omega) (by omega), wrap_id (n := -dy) (by omega) (by omega)]
      congr 1
      rw [decide_eq_decide]
      unfold mx
      (repeat' split) <;> omega
    · rw [if_neg c]
      have hc : ¬ (-200 ≤ dx ∧ -200 ≤ dy) := by unfold mn at c; split at c <;> omega
      congr 1
      exact (decide_eq_false (by omega)).symm
  unfold refine_Valid.f okO
  by_cases h0 : t = 0
  · rw [if_pos h0]
    by_cases k0 : kd = 0
    · rw [if_pos k0, key]; congr 1; rw [decide_eq_decide]; omega
    · rw [if_neg k0]
      by_cases k1 : kd = 1
      · rw [if_pos k1, key]; congr 1; rw [decide_eq_decide]; omega
      · rw [if_neg k1]; congr 1; exact (decide_eq_false (by omega)).symm
  · rw [if_neg h0]
    by_cases h1 : t = 1
    · rw [if_pos h1]
      by_cases k0 : kd = 0
      · rw [if_pos k0, key]; congr 1; rw [decide_eq_decide]; omega
      · rw [if_neg k0]
        by_cases k1 : kd = 1
        · rw [if_pos k1, key]; congr 1; rw [decide_eq_decide]; omega
        · rw [if_neg k1]; congr 1; exact (decide_eq_false (by omega)).symm
    · rw [if_neg h1]; congr 1; exact (decide_eq_false (by omega)).symm
/-- Sides that a bitmap may have. -/
def okS (w h : Int) : Bool := decide (0 ≤ w ∧ w ≤ 200 ∧ 0 ≤ h ∧ h ≤ 200 ∧ w * h ≤ 8192)
theorem okS_iff {w h : Int} : okS w h = true ↔ (0 ≤ w ∧ w ≤ 200 ∧ 0 ≤ h ∧ h ≤ 200 ∧ w * h ≤ 8192) := by unfold okS; exact decide_eq_true_iff
theorem area {w h : Int} (h0 : 0 ≤ w) (h1 : w ≤ 200) (h2 : 0 ≤ h) (h3 : h ≤ 200) : 0 ≤ w * h ∧ w * h ≤ 40000 := by
  have a1 : w * h ≤ 200 * h := Int.mul_le_mul_of_nonneg_right h1 h2
  have a2 : 0 ≤ w * h := Int.mul_nonneg h0 h2
  omega
theorem fits2_eq (w h : Int) : bitmap_fits.f w h = some (okS w h) := by
  unfold bitmap_fits.f okS
  by_cases c0 : w ≥ 0
  · by_cases c1 : h ≥ 0
    · by_cases c2 : w ≤ 200
      · by_cases c3 : h ≤ 200
        · have := area c0 c2 c1 c3
          rw [if_pos c0, if_pos c1, if_pos c2, if_pos c3, wrap_id (n := w * h) (by omega) (by omega)]
          congr 1; rw [decide_eq_decide]; omega
        · rw [if_pos c0, if_pos c1, if_pos c2, if_neg c3]; congr 1; exact (decide_eq_false (by omega)).symm
      · rw [if_pos c0, if_pos c1, if_neg c2]; congr 1; exact (decide_eq_false (by omega)).symm
    · rw [if_pos c0, if_neg c1]; congr 1; exact (decide_eq_false (by omega)).symm
  · rw [if_neg c0]; congr 1; exact (decide_eq_false (by omega)).symm
/-- Pixels that are such. -/
def okP (P : List Int) : Bool := P.all (fun v => decide (v ≤ 1))
/-- A bitmap that is one. -/
def okB (W H : Int) (P : List Int) : Bool := okS W H && decide ((P.length : Int) = W * H) && okP P
theorem okB_bm {W H : Int} {P : List Int} (hb : Bytes P) (h : okB W H P = true) : Bm W H P ∧ W * H ≤ 8192 := by
  unfold okB at h
  rw [Bool.and_eq_true, Bool.and_eq_true, okS_iff, decide_eq_true_iff] at h
  obtain ⟨⟨hs, hl⟩, hp⟩ := h
  refine ⟨⟨by omega, by omega, hl, fun v hv => ?_⟩, by omega⟩
  unfold okP at hp
  have h1 := List.all_eq_true.1 hp v hv
  have h2 := hb v hv
  have h3 := of_decide_eq_true h1
  omega
theorem okP_cons (v : Int) (l : List Int) : okP (v :: l) = (decide (v ≤ 1) && okP l) := rfl
theorem brow_ev (P : List Int) (hn : P.length ≤ 9223372036854775807) : ∀ (d i : Nat), i + d = P.length → Ev (fun k => bitmap_Valid.l0 k P (P.length : Int) (i : Int)) (okP (P.drop i))
  | 0, i, h => by
    refine ev_succ ?_
    simp only [bitmap_Valid.l0]
    rw [List.drop_of_length_le (by omega)]
    exact ev_neg (by omega) (Ev.now _)
  | d + 1, i, h => by
    have e := drop_rd (l := P) (i := i) (by omega)
    rw [e, okP_cons]
    refine ev_succ ?_
    simp only [bitmap_Valid.l0]
    refine ev_pos (by omega) (ev_pos (by omega) (ev_pos (by omega) ?_))
    by_cases c : rd P (i : Int) > 1
    · rw [decide_eq_false (by omega), Bool.false_and]
      exact ev_pos c (Ev.now _)
    · rw [decide_eq_true (by omega), Bool.true_and]
      refine ev_neg c ?_
      have := brow_ev P hn d (i + 1) (by omega)
      rw [show ((i + 1 : Nat) : Int) = (i : Int) + 1 by omega] at this
      rw [wrap_id (n := (i : Int) + 1) (by omega) (by omega)]
      exact this
theorem bvalid_ev (W H : Int) (P : List Int) (hn : P.length ≤ 9223372036854775807) : Ev (fun k => bitmap_Valid.f k W H P) (okB W H P) := by
  unfold bitmap_Valid.f okB
  rw [fits2_eq]
  refine ev_some ?_
  by_cases c : okS W H = true
  · rw [c, Bool.true_and]
    have hs := okS_iff.1 c
    have := area hs.1 hs.2.1 hs.2.2.1 hs.2.2.2.1
    rw [wrap_id (n := W * H) (by omega) (by omega)]
    refine ev_pos rfl (ev_succ ?_)
    simp only [bitmap_Valid.j0]
    by_cases c2 : (P.length : Int) = W * H
    · rw [decide_eq_true c2, Bool.true_and]
      refine ev_neg (by simp [c2]) ?_
      exact brow_ev P hn P.length 0 (by omega)
    · rw [decide_eq_false c2, Bool.false_and]
      exact ev_pos (by simp [c2]) (Ev.now _)
  · have c' : okS W H = false := by simpa using c
    rw [c', Bool.false_and, Bool.false_and]
    refine ev_neg (by decide) (ev_succ ?_)
    simp only [bitmap_Valid.j0]
    exact ev_pos (by trivial) (Ev.now _)
theorem new_loop (n : Nat) (hn : n ≤ 40000) (W H : Int) : ∀ (d i : Nat), i + d = n → Ev (fun k => bitmap_New.l0 k 0 0 (n : Int) (i : Int) W H (List.replicate n 0)) (W, H, List.replicate n 0, 0)
  | 0, i, h => by
    refine ev_succ ?_
    simp only [bitmap_New.l0]
    exact ev_neg (by omega) (Ev.now _)
  | d + 1, i, h => by
    refine ev_succ ?_
    simp only [bitmap_New.l0, List.length_replicate]
    refine ev_pos (by omega) (ev_pos (by omega) (ev_pos (by omega) ?_))
    have e : (List.replicate n (0 : Int)).set ((i : Int).toNat) (0 % 256) = List.replicate n 0 := by
      apply List.ext_getElem
      · simp
      · intro j h1 h2
        rw [List.getElem_set]
        split <;> simp
    rw [e, wrap_id (n := (i : Int) + 1) (by omega) (by omega)]
    have := new_loop n hn W H d (i + 1) (by omega)
    rw [show ((i + 1 : Nat) : Int) = (i : Int) + 1 by omega] at this
    exact this
theorem bnew_ev (w h : Int) : ∃ r : Int × Int × List Int × Int, Ev (fun k => bitmap_New.f k w h 0) r ∧ r.2.2.2 = if okS w h = true then 0 else if w < 0 ∨ h < 0 then 2 else 4 := by
  by_cases c0 : w < 0
  · refine ⟨(0, 0, [], 2), ?_, ?_⟩
    · unfold bitmap_New.f
      refine ev_pos c0 (ev_succ ?_)
      simp only [bitmap_New.j0]
      exact ev_pos (by trivial) (Ev.now _)
    · rw [if_neg (by rw [okS_iff]; omega), if_pos (.inl c0)]
  by_cases c1 : h < 0
  · refine ⟨(0, 0, [], 2), ?_, ?_⟩
    · unfold bitmap_New.f
      refine ev_neg c0 (ev_pos c1 (ev_succ ?_))
      simp only [bitmap_New.j0]
      exact ev_pos (by trivial) (Ev.now _)
    · rw [if_neg (by rw [okS_iff]; omega), if_pos (.inr c1)]
  by_cases c : okS w h = true
  · have hs := okS_iff.1 c
    have ha := area hs.1 hs.2.1 hs.2.2.1 hs.2.2.2.1
    refine ⟨(w, h, List.replicate (w * h).toNat 0, 0), ?_, by rw [if_pos c]⟩
    unfold bitmap_New.f
    refine ev_neg c0 (ev_neg c1 (ev_pos rfl (ev_succ ?_)))
    simp only [bitmap_New.j0]
    refine ev_neg (by decide) ?_
    have hbl : bitmap_blank.f w h = some (w, h, List.replicate (w * h).toNat 0, 0) := by
      unfold bitmap_blank.f
      rw [fits2_eq, c, wrap_id (n := w * h) (by omega) (by omega)]
      simp only [Option.bind_some, if_true]
      rw [if_pos (by omega), if_pos (by omega)]
    refine ev_pure hbl ?_
    have := new_loop (w * h).toNat (by omega) w h (w * h).toNat 0 (by omega)
    simpa using this
  · refine ⟨(0, 0, [], 4), ?_, by rw [if_neg c, if_neg (by omega)]⟩
    have c' : okS w h = false := by simpa using c
    unfold bitmap_New.f
    refine ev_neg c0 (ev_neg c1 (ev_pos rfl (ev_succ ?_)))
    simp only [bitmap_New.j0]
    refine ev_neg (by decide) ?_
    have hbl : bitmap_blank.f w h = some (0, 0, [], 4) := by
      unfold bitmap_blank.f
      rw [fits2_eq, c']
      rfl
    refine ev_pure hbl (ev_succ ?_)
    simp only [bitmap_New.l0]
    exact ev_neg (by simp) (Ev.now _)
/-- How many contexts there are, without the last one. -/
def ctxs (t : Int) : Int := if t = 0 then 512 else 128
theorem contexts_eq (t : Int) : refine_contexts.f t = some (ctxs t) := by
  unfold refine_contexts.f refine_fresh.f ctxs
  split <;> rfl
theorem ctxs_range (t : Int) : 128 ≤ ctxs t ∧ ctxs t ≤ 512 := by unfold ctxs; split <;> decide
/-- Whether n states have the contexts from a base on. -/
def okF (n : Nat) (base t : Int) : Bool := decide (0 ≤ base ∧ base + ctxs t + 1 ≤ n)
theorem okF_iff {n : Nat} {base t : Int} : okF n base t = true ↔ (0 ≤ base ∧ base + ctxs t + 1 ≤ n) := by unfold okF; exact decide_eq_true_iff
theorem fits_eq (kind : Int) (st : List Int) (hn : st.length ≤ 8192) (base t dx dy : Int) (ty : Bool) (kd : Int) : refine_fits.f kind st base t dx dy ty kd = some (okF st.length base t) := by
  have hr := ctxs_range t
  unfold refine_fits.f okF
  by_cases c : base ≥ 0
  · rw [if_pos c, contexts_eq]
    simp only [Option.bind_some]
    rw [wrap_id (n := (st.length : Int) - ctxs t) (by omega) (by omega), wrap_id (n := (st.length : Int) - ctxs t - 1) (by omega) (by omega)]
    congr 1; rw [decide_eq_decide]; omega
  · rw [if_neg c]; congr 1; exact (decide_eq_false (by omega)).symm
theorem model_eq (t dx dy : Int) (ty : Bool) (kd : Int) (h : okO t dx dy kd = true) : refine_model.f t dx dy ty kd = some (kd, List.replicate (ctxs t + 1).toNat 0) := by
  have hr := ctxs_range t
  have hk := (okO_iff.1 h).2.1
  unfold refine_model.f
  rw [contexts_eq]
  simp only [Option.bind_some]
  rw [wrap_id (n := ctxs t + 1) (by omega) (by omega), new_eq]
  unfold newModel
  rw [if_pos ⟨hk, by omega, by omega⟩]
  rfl
theorem same_loop (W H : Int) (P : List Int) (W2 H2 : Int) (P2 : List Int) (hl : P.length = P2.length) (he : P = P2) (hn : P.length ≤ 9223372036854775807) : ∀ (d i : Nat), i + d = P.length → Ev (fun k => incunableref06_SameBitmap.l0 k (P.length : Int) (i : Int) W H P W2 H2 P2) true
  | 0, i, h => by
    refine ev_succ ?_
    simp only [incunableref06_SameBitmap.l0]
    exact ev_neg (by omega) (Ev.now _)
  | d + 1, i, h => by
    refine ev_succ ?_
    simp only [incunableref06_SameBitmap.l0]
    refine ev_pos (by omega) (ev_pos (by omega) (ev_pos (by omega) (ev_pos (by omega) (ev_pos (by rw [he]) ?_))))
    rw [wrap_id (n := (i : Int) + 1) (by omega) (by omega)]
    have := same_loop W H P W2 H2 P2 hl he hn d (i + 1) (by omega)
    rw [show ((i + 1 : Nat) : Int) = (i : Int) + 1 by omega] at this
    exact this
theorem same_ev (W H : Int) (P : List Int) (hn : P.length ≤ 9223372036854775807) : Ev (fun k => incunableref06_SameBitmap.f k W H P W H P) true := by
  unfold incunableref06_SameBitmap.f
  refine ev_pos rfl (ev_pos rfl (ev_succ ?_))
  simp only [incunableref06_SameBitmap.j0]
  refine ev_neg (by simp) ?_
  exact same_loop W H P W H P rfl rfl hn P.length 0 (by omega)
theorem psize_eq (t : Int) : refine_Size.f t = some (if t = 0 ∨ t = 1 then (ctxs t + 1, 0) else (0, 2)) := by
  have hr := ctxs_range t
  unfold refine_Size.f
  rw [contexts_eq]
  simp only [Option.bind_some]
  rw [wrap_id (n := ctxs t + 1) (by omega) (by omega)]
  by_cases h0 : t = 0
  · rw [if_pos h0, if_pos (.inl h0)]
  · by_cases h1 : t = 1
    · rw [if_neg h0, if_pos h1, if_pos (.inr h1)]
    · rw [if_neg (by omega : ¬ (t = 0 ∨ t = 1))]
      simp [h0, h1]
end Go.Proofs.Ytkfejicdjpffcaa.Rva
namespace Go.Proofs.Ytkfejicdjpffcaa.Rfl
open Go Go.RowKit Go.Proofs.YtkfejicdjpffcaaW.PrintWords Go.Proofs.YtkfejicdjpffcaaW.PrintLast Go.Proofs.YtkfejicdjpffcaaW.PrintMore Go.Proofs.Ytkfejicdjpffcaa.U Go.Proofs.Ytkfejicdjpffcaa.Aid Go.Proofs.Ytkfejicdjpffcaa.HandAid Go.Proofs.Ytkfejicdjpffcaa.Mods Go.Proofs.Ytkfejicdjpffcaa.Rpx
/-- A region's cells. -/
def regc (t dx dy : Int) (ty : Bool) (kd W H : Int) (vb : Value) (RW RH : Int) (vr : Value) : Array Value := #[.int .i64 t, .int .i64 dx, .int .i64 dy, .bool ty, .int .i64 kd, .int .i64 W, .int .i64 H, vb, .int .i64 RW, .int .i64 RH, vr]
set_option maxHeartbeats 2000000 in
set_option maxRecDepth 100000 in
theorem flat_calls (w : World) (g : Nat) (t dx dy : Int) (ty : Bool) (kd W H : Int) (vb : Value) (RW RH : Int) (AR : Option Addr) (cR : Nat) (RP : List Int) (x y : Int) (hZ : w.heap[g]? = some (.cells (regc t dx dy ty kd W H vb RW RH (.slice AR RP.length cR)) 109 (0, 0))) (hC : Kd.C (Kd.int .u8) w AR RP.length RP) (hcR : RP.length ≤ cR) (b : Bm RW RH RP) (hx : -100000 ≤ x ∧ x ≤ 100000) (hy : -100000 ≤ y ∧ y ≤ 100000) (hdx : -100000 ≤ dx ∧ dx ≤ 100000) (hdy : -100000 ≤ dy ∧ dy ≤ 100000) :
    Calls Try.prog 60 #[.pointer (some ⟨g, 0, none⟩), .int .i64 x, .int .i64 y] w fun e w' => e = .returned (.tuple #[.int .u8 (flatP RW RH RP (x - dx) (y - dy)).1, .bool (flatP RW RH RP (x - dx) (y - dy)).2]) ∧ Below w.heap.size w w' := by
  have HZ := Aside0.mk hZ
  have HCR := Aside0.mk hC
  have hbm := Aside0.mk b
  have HG := Aside0.mk (show ∀ (W : World), Below w.heap.size w W → ∀ (a b2 a' b' : Int), a' = a → b' = b2 → Calls Try.prog 62 #[.agg #[.int .i64 RW, .int .i64 RH, .slice AR RP.length cR], .int .i64 a', .int .i64 b'] W fun e W' => e = .returned (.int .u8 (px RW RH RP a b2)) ∧ Below W.heap.size W W' from fun W hb a b2 a' b' ea eb => by subst ea eb; exact refine_grid_at.calls RW RH AR cR RP _ _ _ _ (Kd.C_below hC hb) hcR (grid_eq b _ _))
  have hu1 := Try.underlying109
  have hu2 := Try.underlying107
  have hu3 := Try.underlying23
  clear hZ hC b
  obtain ⟨⟨Rc, Rb⟩, hR⟩ : ∃ r, flatP RW RH RP (x - dx) (y - dy) = r := ⟨_, rfl⟩
  rw [hR]
  unfold flatP at hR
  go_enter Try.func60, Try.ntmps60
  go_wp2_with (fail)
  have HB0 := Aside0.mk (below_drew (Below.refl w.heap.size w))
  refine start_ (n := 20) (S := fun w' => w'.cell? ⟨g, 8, none⟩ = some (.int .i64 RW) ∧ w'.cell? ⟨g, 9, none⟩ = some (.int .i64 RH) ∧ w'.cell? ⟨g, 10, none⟩ = some (.slice AR RP.length cR) ∧ w'.cell? ⟨g, 1, none⟩ = some (.int .i64 dx) ∧ w'.cell? ⟨g, 2, none⟩ = some (.int .i64 dy)) (ds := []) #[false, false, false, false, false, false, false, false, false, false, false, false, false, false, false, false, false, false, false, false] (by kernel_rfl) rfl rfl ⟨(blk_cell (blk_below HZ.out HB0.out) 8).trans rfl, (blk_cell (blk_below HZ.out HB0.out) 9).trans rfl, (blk_cell (blk_below HZ.out HB0.out) 10).trans rfl, (blk_cell (blk_below HZ.out HB0.out) 1).trans rfl, (blk_cell (blk_below HZ.out HB0.out) 2).trans rfl⟩ (fun hHeld => ?_)
  refine pure_ (i := 0) (N := some 10) (v := ?_) (a' := ?_) #[true, false, false, false, false, false, false, false, false, false, false, false, false, false, false, false, false, false, false, false] rfl rfl (by kernel_rfl) (fun _ _ _ h => h) (Or.inl ⟨by rfl, ?_⟩) ?_ ?_
  rotate_left
  · intro w'
    go_simp
    with_reducible rfl
  rotate_left
  · simp only [Act.put, List.setIfInBounds_toArray, List.set_cons_zero, List.set_cons_succ, i64_w, i32_w]
    rfl
  refine pure_ (i := 1) (N := some 11) (v := ?_) (a' := ?_) #[true, true, false, false, false, false, false, false, false, false, false, false, false, false, false, false, false, false, false, false] rfl rfl (by kernel_rfl) (fun _ _ _ h => h) (Or.inl ⟨by rfl, ?_⟩) ?_ ?_
  rotate_left
  · intro w'
    go_simp
    with_reducible rfl
  rotate_left
  · simp only [Act.put, List.setIfInBounds_toArray, List.set_cons_zero, List.set_cons_succ, i64_w, i32_w]
    rfl
  refine pure_ (i := 2) (N := some 12) (v := ?_) (a' := ?_) #[true, true, true, false, false, false, false, false, false, false, false, false, false, false, false, false, false, false, false, false] rfl rfl (by kernel_rfl) (fun _ _ _ h => h) (Or.inl ⟨by rfl, ?_⟩) ?_ ?_
  rotate_left
  · intro w'
    go_simp
    with_reducible rfl
  rotate_left
  · simp only [Act.put, List.setIfInBounds_toArray, List.set_cons_zero, List.set_cons_succ, i64_w, i32_w]
    rfl
  refine pure_ (i := 4) (N := some 14) (v := ?_) (a' := ?_) #[true, true, true, false, true, false, false, false, false, false, false, false, false, false, false, false, false, false, false, false] rfl rfl (by kernel_rfl) (fun _ _ _ h => h) (Or.inl ⟨by rfl, ?_⟩) ?_ ?_
  rotate_left
  · intro w'
    go_simp
    with_reducible rfl
  rotate_left
  · simp only [Act.put, List.setIfInBounds_toArray, List.set_cons_zero, List.set_cons_succ, i64_w, i32_w]
    rfl
  refine pure_ (i := 5) (N := some 15) (v := ?_) (a' := ?_) #[true, true, true, false, true, true, false, false, false, false, false, false, false, false, false, false, false, false, false, false] rfl rfl (by kernel_rfl) (fun _ _ _ h => h) (Or.inl ⟨by rfl, ?_⟩) ?_ ?_
  rotate_left
  · intro w'
    go_simp
    with_reducible rfl
  rotate_left
  · simp only [Act.put, List.setIfInBounds_toArray, List.set_cons_zero, List.set_cons_succ, i64_w, i32_w]
    rfl
  refine pure_ (i := 6) (N := some 16) (v := ?_) (a' := ?_) #[true, true, true, false, true, true, true, false, false, false, false, false, false, false, false, false, false, false, false, false] rfl rfl (by kernel_rfl) (fun _ _ _ h => h) (Or.inl ⟨by rfl, ?_⟩) ?_ ?_
  rotate_left
  · intro w'
    go_simp
    with_reducible rfl
  rotate_left
  · simp only [Act.put, List.setIfInBounds_toArray, List.set_cons_zero, List.set_cons_succ, i64_w, i32_w]
    rfl
  refine pure_ (i := 7) (N := some 17) (v := ?_) (a' := ?_) #[true, true, true, false, true, true, true, true, false, false, false, false, false, false, false, false, false, false, false, false] rfl rfl (by kernel_rfl) (fun _ _ _ h => h) (Or.inl ⟨by rfl, ?_⟩) ?_ ?_
  rotate_left
  · intro w'
    go_simp
    with_reducible rfl
  rotate_left
  · simp only [Act.put, List.setIfInBounds_toArray, List.set_cons_zero, List.set_cons_succ, i64_w, i32_w]
    rfl
  refine pure_ (i := 8) (N := some 18) (v := ?_) (a' := ?_) #[true, true, true, false, true, true, true, true, true, false, false, false, false, false, false, false, false, false, false, false] rfl rfl (by kernel_rfl) (fun _ _ _ h => h) (Or.inl ⟨by rfl, ?_⟩) ?_ ?_
  rotate_left
  · intro w'
    go_simp
    with_reducible rfl
  rotate_left
  · simp only [Act.put, List.setIfInBounds_toArray, List.set_cons_zero, List.set_cons_succ, i64_w, i32_w]
    rfl
  refine pure_ (i := 11) (N := some 21) (v := ?_) (a' := ?_) #[true, true, true, false, true, true, true, true, true, false, false, true, false, false, false, false, false, false, false, false] rfl rfl (by kernel_rfl) (fun _ _ _ h => h) (Or.inl ⟨by rfl, ?_⟩) ?_ ?_
  rotate_left
  · intro w'
    go_simp
    with_reducible rfl
  rotate_left
  · simp only [Act.put, List.setIfInBounds_toArray, List.set_cons_zero, List.set_cons_succ, i64_w, i32_w]
    rfl
  refine pure_ (i := 12) (N := some 22) (v := ?_) (a' := ?_) #[true, true, true, false, true, true, true, true, true, false, false, true, true, false, false, false, false, false, false, false] rfl rfl (by kernel_rfl) (fun _ _ _ h => h) (Or.inl ⟨by rfl, ?_⟩) ?_ ?_
  rotate_left
  · intro w'
    go_simp
    with_reducible rfl
  rotate_left
  · simp only [Act.put, List.setIfInBounds_toArray, List.set_cons_zero, List.set_cons_succ, i64_w, i32_w]
    rfl
  refine pure_ (i := 13) (N := some 23) (v := ?_) (a' := ?_) #[true, true, true, false, true, true, true, true, true, false, false, true, true, true, false, false, false, false, false, false] rfl rfl (by kernel_rfl) (fun _ _ _ h => h) (Or.inl ⟨by rfl, ?_⟩) ?_ ?_
  rotate_left
  · intro w'
    go_simp
    with_reducible rfl
  rotate_left
  · simp only [Act.put, List.setIfInBounds_toArray, List.set_cons_zero, List.set_cons_succ, i64_w, i32_w]
    rfl
  refine pure_ (i := 14) (N := some 24) (v := ?_) (a' := ?_) #[true, true, true, false, true, true, true, true, true, false, false, true, true, true, true, false, false, false, false, false] rfl rfl (by kernel_rfl) (fun _ _ _ h => h) (Or.inl ⟨by rfl, ?_⟩) ?_ ?_
  rotate_left
  · intro w'
    go_simp
    with_reducible rfl
  rotate_left
  · simp only [Act.put, List.setIfInBounds_toArray, List.set_cons_zero, List.set_cons_succ, i64_w, i32_w]
    rfl
  refine pure_ (i := 15) (N := some 25) (v := ?_) (a' := ?_) #[true, true, true, false, true, true, true, true, true, false, false, true, true, true, true, true, false, false, false, false] rfl rfl (by kernel_rfl) (fun _ _ _ h => h) (Or.inl ⟨by rfl, ?_⟩) ?_ ?_
  rotate_left
  · intro w'
    go_simp
    with_reducible rfl
  rotate_left
  · simp only [Act.put, List.setIfInBounds_toArray, List.set_cons_zero, List.set_cons_succ, i64_w, i32_w]
    rfl
  refine take_ (i := 3) (N := some 13) (v := ?_) (a' := ?_) #[true, true, true, true, true, true, true, true, true, false, false, true, true, true, true, true, false, false, false, false] rfl rfl (by kernel_rfl) (fun _ _ _ h => h) (Or.inl ⟨by rfl, ?_⟩) hHeld ?_ ?_
  rotate_left
  · rintro w' ⟨s0, s1, s2, s3, s4⟩
    go_simp
    with_reducible rfl
  rotate_left
  · simp only [Act.put, List.setIfInBounds_toArray, List.set_cons_zero, List.set_cons_succ, i64_w, i32_w]
    rfl
  refine take_ (i := 9) (N := some 19) (v := ?_) (a' := ?_) #[true, true, true, true, true, true, true, true, true, true, false, true, true, true, true, true, false, false, false, false] rfl rfl (by kernel_rfl) (fun _ _ _ h => h) (Or.inl ⟨by rfl, ?_⟩) hHeld ?_ ?_
  rotate_left
  · rintro w' ⟨s0, s1, s2, s3, s4⟩
    go_simp
    with_reducible rfl
  rotate_left
  · simp only [Act.put, List.setIfInBounds_toArray, List.set_cons_zero, List.set_cons_succ, i64_w, i32_w]
    rfl
  refine pure_ (i := 10) (N := some 20) (v := ?_) (a' := ?_) #[true, true, true, true, true, true, true, true, true, true, true, true, true, true, true, true, false, false, false, false] rfl rfl (by kernel_rfl) (fun _ _ _ h => h) (Or.inl ⟨by rfl, ?_⟩) ?_ ?_
  rotate_left
  · intro w'
    go_simp
    with_reducible rfl
  rotate_left
  · simp only [Act.put, List.setIfInBounds_toArray, List.set_cons_zero, List.set_cons_succ, i64_w, i32_w]
    rfl
  refine take_ (i := 16) (N := some 26) (v := ?_) (a' := ?_) #[true, true, true, true, true, true, true, true, true, true, true, true, true, true, true, true, true, false, false, false] rfl rfl (by kernel_rfl) (fun _ _ _ h => h) (Or.inl ⟨by rfl, ?_⟩) hHeld ?_ ?_
  rotate_left
  · rintro w' ⟨s0, s1, s2, s3, s4⟩
    go_simp
    with_reducible rfl
  rotate_left
  · simp only [Act.put, List.setIfInBounds_toArray, List.set_cons_zero, List.set_cons_succ, i64_w, i32_w]
    rfl
  refine pure_ (i := 17) (N := some 27) (v := ?_) (a' := ?_) #[true, true, true, true, true, true, true, true, true, true, true, true, true, true, true, true, true, true, false, false] rfl rfl (by kernel_rfl) (fun _ _ _ h => h) (Or.inl ⟨by rfl, ?_⟩) ?_ ?_
  rotate_left
  · intro w'
    go_simp
    with_reducible rfl
  rotate_left
  · simp only [Act.put, List.setIfInBounds_toArray, List.set_cons_zero, List.set_cons_succ, i64_w, i32_w]
    rfl
  refine one_ (i := 18) (N := some 28) #[true, true, true, true, true, true, true, true, true, true, true, true, true, true, true, true, true, true, true, false] rfl rfl (by kernel_rfl) (by decide) (fun K hK => ?_)
  refine goes_ Try.func62 (by kernel_rfl) rfl #[.agg #[.int .i64 RW, .int .i64 RH, .slice AR RP.length cR], .int .i64 (wrap64 (x - dx)), .int .i64 (wrap64 (y - dy))] (by rfl) rfl rfl (by simp only [List.map_toArray, List.map_cons, List.map_nil]; rfl) ?_
  with_reducible refine (HG.out _ HB0.out _ _ _ _ (by rw [wrap_id] <;> omega) (by rw [wrap_id] <;> omega)).mono ?_
  rintro e W1 ⟨rfl, hb⟩
  refine ⟨_, rfl, ?_⟩
  have HB1 := Aside0.mk (below_then HB0.out HB0.out.size hb)
  clear hb
  refine hK.out _ _ ⟨(blk_cell (blk_below HZ.out HB1.out) 8).trans rfl, (blk_cell (blk_below HZ.out HB1.out) 9).trans rfl, (blk_cell (blk_below HZ.out HB1.out) 10).trans rfl, (blk_cell (blk_below HZ.out HB1.out) 1).trans rfl, (blk_cell (blk_below HZ.out HB1.out) 2).trans rfl⟩ (fun hHeld => ?_)
  clear hK K
  refine norm_ (a' := ?_) ?_ ?_
  rotate_left
  · show Act.put _ (some 28) _ = _
    simp only [Act.put, List.setIfInBounds_toArray, List.set_cons_zero, List.set_cons_succ, i64_w, i32_w]
    rfl
  refine pure_ (i := 19) (N := some 8) (v := ?_) (a' := ?_) #[true, true, true, true, true, true, true, true, true, true, true, true, true, true, true, true, true, true, true, true] rfl rfl (by kernel_rfl) (fun _ _ _ h => h) (Or.inl ⟨by rfl, ?_⟩) ?_ ?_
  rotate_left
  · intro w'
    go_simp
    with_reducible rfl
  rotate_left
  · simp only [Act.put, List.setIfInBounds_toArray, List.set_cons_zero, List.set_cons_succ, i64_w, i32_w]
    rfl
  refine done_ (by kernel_rfl) ?_
  obtain ⟨c, hc⟩ : ∃ c, px RW RH RP (x - dx) (y - dy) = c := ⟨_, rfl⟩
  rw [hc] at hR ⊢
  go_wp2_with (fail)
  go_loopw [29] (fun i wr => ∃ k : Nat, k ≤ 9 ∧ i = .int .i64 k ∧ flatF RW RH RP (x - dx) (y - dy) c (9 - k) k = (Rc, Rb) ∧ Aside0 (Below w.heap.size w wr)) (fun i _ => 9 - (intOf i).toNat)
  case atStart => exact ⟨0, by omega, rfl, hR, HB1⟩
  case round =>
    obtain ⟨k, hk, rfl, hF, HB2⟩ := hrel
    by_cases hlt : k < 9
    · have hltk : (k : Int) < 9 := by omega
      go_wp2_with (fail)
      have HB3 := Aside0.mk (below_drew1 HB2.out)
      refine start_ (n := 29) (S := fun w' => w'.cell? ⟨g, 8, none⟩ = some (.int .i64 RW) ∧ w'.cell? ⟨g, 9, none⟩ = some (.int .i64 RH) ∧ w'.cell? ⟨g, 10, none⟩ = some (.slice AR RP.length cR) ∧ w'.cell? ⟨g, 1, none⟩ = some (.int .i64 dx) ∧ w'.cell? ⟨g, 2, none⟩ = some (.int .i64 dy)) (ds := []) #[false, false, false, false, false, false, false, false, false, false, false, false, false, false, false, false, false, false, false, false, false, false, false, false, false, false, false, false, false] (by kernel_rfl) rfl rfl ⟨(blk_cell (blk_below HZ.out HB3.out) 8).trans rfl, (blk_cell (blk_below HZ.out HB3.out) 9).trans rfl, (blk_cell (blk_below HZ.out HB3.out) 10).trans rfl, (blk_cell (blk_below HZ.out HB3.out) 1).trans rfl, (blk_cell (blk_below HZ.out HB3.out) 2).trans rfl⟩ (fun hHeld => ?_)
      refine pure_ (i := 0) (N := some 32) (v := ?_) (a' := ?_) #[true, false, false, false, false, false, false, false, false, false, false, false, false, false, false, false, false, false, false, false, false, false, false, false, false, false, false, false, false] rfl rfl (by kernel_rfl) (fun _ _ _ h => h) (Or.inl ⟨by rfl, ?_⟩) ?_ ?_
      rotate_left
      · intro w'
        go_simp
        with_reducible rfl
      rotate_left
      · simp only [Act.put, List.setIfInBounds_toArray, List.set_cons_zero, List.set_cons_succ, i64_w, i32_w]
        rfl
      refine pure_ (i := 1) (N := some 33) (v := ?_) (a' := ?_) #[true, true, false, false, false, false, false, false, false, false, false, false, false, false, false, false, false, false, false, false, false, false, false, false, false, false, false, false, false] rfl rfl (by kernel_rfl) (fun _ _ _ h => h) (Or.inl ⟨by rfl, ?_⟩) ?_ ?_
      rotate_left
      · intro w'
        go_simp
        with_reducible rfl
      rotate_left
      · simp only [Act.put, List.setIfInBounds_toArray, List.set_cons_zero, List.set_cons_succ, i64_w, i32_w]
        rfl
      refine pure_ (i := 2) (N := some 34) (v := ?_) (a' := ?_) #[true, true, true, false, false, false, false, false, false, false, false, false, false, false, false, false, false, false, false, false, false, false, false, false, false, false, false, false, false] rfl rfl (by kernel_rfl) (fun _ _ _ h => h) (Or.inl ⟨by rfl, ?_⟩) ?_ ?_
      rotate_left
      · intro w'
        go_simp
        with_reducible rfl
      rotate_left
      · simp only [Act.put, List.setIfInBounds_toArray, List.set_cons_zero, List.set_cons_succ, i64_w, i32_w]
        rfl
      refine pure_ (i := 4) (N := some 36) (v := ?_) (a' := ?_) #[true, true, true, false, true, false, false, false, false, false, false, false, false, false, false, false, false, false, false, false, false, false, false, false, false, false, false, false, false] rfl rfl (by kernel_rfl) (fun _ _ _ h => h) (Or.inl ⟨by rfl, ?_⟩) ?_ ?_
      rotate_left
      · intro w'
        go_simp
        with_reducible rfl
      rotate_left
      · simp only [Act.put, List.setIfInBounds_toArray, List.set_cons_zero, List.set_cons_succ, i64_w, i32_w]
        rfl
      refine pure_ (i := 5) (N := some 37) (v := ?_) (a' := ?_) #[true, true, true, false, true, true, false, false, false, false, false, false, false, false, false, false, false, false, false, false, false, false, false, false, false, false, false, false, false] rfl rfl (by kernel_rfl) (fun _ _ _ h => h) (Or.inl ⟨by rfl, ?_⟩) ?_ ?_
      rotate_left
      · intro w'
        go_simp
        with_reducible rfl
      rotate_left
      · simp only [Act.put, List.setIfInBounds_toArray, List.set_cons_zero, List.set_cons_succ, i64_w, i32_w]
        rfl
      refine pure_ (i := 6) (N := some 38) (v := ?_) (a' := ?_) #[true, true, true, false, true, true, true, false, false, false, false, false, false, false, false, false, false, false, false, false, false, false, false, false, false, false, false, false, false] rfl rfl (by kernel_rfl) (fun _ _ _ h => h) (Or.inl ⟨by rfl, ?_⟩) ?_ ?_
      rotate_left
      · intro w'
        go_simp
        with_reducible rfl
      rotate_left
      · simp only [Act.put, List.setIfInBounds_toArray, List.set_cons_zero, List.set_cons_succ, i64_w, i32_w]
        rfl
      refine pure_ (i := 7) (N := some 39) (v := ?_) (a' := ?_) #[true, true, true, false, true, true, true, true, false, false, false, false, false, false, false, false, false, false, false, false, false, false, false, false, false, false, false, false, false] rfl rfl (by kernel_rfl) (fun _ _ _ h => h) (Or.inl ⟨by rfl, ?_⟩) ?_ ?_
      rotate_left
      · intro w'
        go_simp
        with_reducible rfl
      rotate_left
      · simp only [Act.put, List.setIfInBounds_toArray, List.set_cons_zero, List.set_cons_succ, i64_w, i32_w]
        rfl
      refine pure_ (i := 8) (N := some 40) (v := ?_) (a' := ?_) #[true, true, true, false, true, true, true, true, true, false, false, false, false, false, false, false, false, false, false, false, false, false, false, false, false, false, false, false, false] rfl rfl (by kernel_rfl) (fun _ _ _ h => h) (Or.inl ⟨by rfl, ?_⟩) ?_ ?_
      rotate_left
      · intro w'
        go_simp
        with_reducible rfl
      rotate_left
      · simp only [Act.put, List.setIfInBounds_toArray, List.set_cons_zero, List.set_cons_succ, i64_w, i32_w]
        rfl
      refine pure_ (i := 11) (N := some 43) (v := ?_) (a' := ?_) #[true, true, true, false, true, true, true, true, true, false, false, true, false, false, false, false, false, false, false, false, false, false, false, false, false, false, false, false, false] rfl rfl (by kernel_rfl) (fun _ _ _ h => h) (Or.inl ⟨by rfl, ?_⟩) ?_ ?_
      rotate_left
      · intro w'
        go_simp
        with_reducible rfl
      rotate_left
      · simp only [Act.put, List.setIfInBounds_toArray, List.set_cons_zero, List.set_cons_succ, i64_w, i32_w]
        rfl
      refine pure_ (i := 12) (N := some 44) (v := ?_) (a' := ?_) #[true, true, true, false, true, true, true, true, true, false, false, true, true, false, false, false, false, false, false, false, false, false, false, false, false, false, false, false, false] rfl rfl (by kernel_rfl) (fun _ _ _ h => h) (Or.inl ⟨by rfl, ?_⟩) ?_ ?_
      rotate_left
      · intro w'
        go_simp
        with_reducible rfl
      rotate_left
      · simp only [Act.put, List.setIfInBounds_toArray, List.set_cons_zero, List.set_cons_succ, i64_w, i32_w]
        rfl
      refine pure_ (i := 15) (N := some 47) (v := ?_) (a' := ?_) #[true, true, true, false, true, true, true, true, true, false, false, true, true, false, false, true, false, false, false, false, false, false, false, false, false, false, false, false, false] rfl rfl (by kernel_rfl) (fun _ _ _ h => h) (Or.inl ⟨by rfl, ?_⟩) ?_ ?_
      rotate_left
      · intro w'
        go_simp
        with_reducible rfl
      rotate_left
      · simp only [Act.put, List.setIfInBounds_toArray, List.set_cons_zero, List.set_cons_succ, i64_w, i32_w]
        rfl
      refine pure_ (i := 16) (N := some 48) (v := ?_) (a' := ?_) #[true, true, true, false, true, true, true, true, true, false, false, true, true, false, false, true, true, false, false, false, false, false, false, false, false, false, false, false, false] rfl rfl (by kernel_rfl) (fun _ _ _ h => h) (Or.inl ⟨by rfl, ?_⟩) ?_ ?_
      rotate_left
      · intro w'
        go_simp
        with_reducible rfl
      rotate_left
      · simp only [Act.put, List.setIfInBounds_toArray, List.set_cons_zero, List.set_cons_succ, i64_w, i32_w]
        rfl
      refine pure_ (i := 17) (N := some 49) (v := ?_) (a' := ?_) #[true, true, true, false, true, true, true, true, true, false, false, true, true, false, false, true, true, true, false, false, false, false, false, false, false, false, false, false, false] rfl rfl (by kernel_rfl) (fun _ _ _ h => h) (Or.inl ⟨by rfl, ?_⟩) ?_ ?_
      rotate_left
      · intro w'
        go_simp
        with_reducible rfl
      rotate_left
      · simp only [Act.put, List.setIfInBounds_toArray, List.set_cons_zero, List.set_cons_succ, i64_w, i32_w]
        rfl
      refine pure_ (i := 18) (N := some 50) (v := ?_) (a' := ?_) #[true, true, true, false, true, true, true, true, true, false, false, true, true, false, false, true, true, true, true, false, false, false, false, false, false, false, false, false, false] rfl rfl (by kernel_rfl) (fun _ _ _ h => h) (Or.inl ⟨by rfl, ?_⟩) ?_ ?_
      rotate_left
      · intro w'
        go_simp
        with_reducible rfl
      rotate_left
      · simp only [Act.put, List.setIfInBounds_toArray, List.set_cons_zero, List.set_cons_succ, i64_w, i32_w]
        rfl
      refine pure_ (i := 19) (N := some 51) (v := ?_) (a' := ?_) #[true, true, true, false, true, true, true, true, true, false, false, true, true, false, false, true, true, true, true, true, false, false, false, false, false, false, false, false, false] rfl rfl (by kernel_rfl) (fun _ _ _ h => h) (Or.inl ⟨by rfl, ?_⟩) ?_ ?_
      rotate_left
      · intro w'
        go_simp
        with_reducible rfl
      rotate_left
      · simp only [Act.put, List.setIfInBounds_toArray, List.set_cons_zero, List.set_cons_succ, i64_w, i32_w]
        rfl
      refine pure_ (i := 22) (N := some 54) (v := ?_) (a' := ?_) #[true, true, true, false, true, true, true, true, true, false, false, true, true, false, false, true, true, true, true, true, false, false, true, false, false, false, false, false, false] rfl rfl (by kernel_rfl) (fun _ _ _ h => h) (Or.inl ⟨by rfl, ?_⟩) ?_ ?_
      rotate_left
      · intro w'
        go_simp
        with_reducible rfl
      rotate_left
      · simp only [Act.put, List.setIfInBounds_toArray, List.set_cons_zero, List.set_cons_succ, i64_w, i32_w]
        rfl
      refine pure_ (i := 23) (N := some 55) (v := ?_) (a' := ?_) #[true, true, true, false, true, true, true, true, true, false, false, true, true, false, false, true, true, true, true, true, false, false, true, true, false, false, false, false, false] rfl rfl (by kernel_rfl) (fun _ _ _ h => h) (Or.inl ⟨by rfl, ?_⟩) ?_ ?_
      rotate_left
      · intro w'
        go_simp
        with_reducible rfl
      rotate_left
      · simp only [Act.put, List.setIfInBounds_toArray, List.set_cons_zero, List.set_cons_succ, i64_w, i32_w]
        rfl
      refine pure_ (i := 27) (N := some 59) (v := ?_) (a' := ?_) #[true, true, true, false, true, true, true, true, true, false, false, true, true, false, false, true, true, true, true, true, false, false, true, true, false, false, false, true, false] rfl rfl (by kernel_rfl) (fun _ _ _ h => h) (Or.inl ⟨by rfl, ?_⟩) ?_ ?_
      rotate_left
      · intro w'
        go_simp
        with_reducible rfl
      rotate_left
      · simp only [Act.put, List.setIfInBounds_toArray, List.set_cons_zero, List.set_cons_succ, i64_w, i32_w]
        rfl
      refine take_ (i := 3) (N := some 35) (v := ?_) (a' := ?_) #[true, true, true, true, true, true, true, true, true, false, false, true, true, false, false, true, true, true, true, true, false, false, true, true, false, false, false, true, false] rfl rfl (by kernel_rfl) (fun _ _ _ h => h) (Or.inl ⟨by rfl, ?_⟩) hHeld ?_ ?_
      rotate_left
      · rintro w' ⟨s0, s1, s2, s3, s4⟩
        go_simp
        with_reducible rfl
      rotate_left
      · simp only [Act.put, List.setIfInBounds_toArray, List.set_cons_zero, List.set_cons_succ, i64_w, i32_w]
        rfl
      refine take_ (i := 9) (N := some 41) (v := ?_) (a' := ?_) #[true, true, true, true, true, true, true, true, true, true, false, true, true, false, false, true, true, true, true, true, false, false, true, true, false, false, false, true, false] rfl rfl (by kernel_rfl) (fun _ _ _ h => h) (Or.inl ⟨by rfl, ?_⟩) hHeld ?_ ?_
      rotate_left
      · rintro w' ⟨s0, s1, s2, s3, s4⟩
        go_simp
        with_reducible rfl
      rotate_left
      · simp only [Act.put, List.setIfInBounds_toArray, List.set_cons_zero, List.set_cons_succ, i64_w, i32_w]
        rfl
      refine pure_ (i := 10) (N := some 42) (v := ?_) (a' := ?_) #[true, true, true, true, true, true, true, true, true, true, true, true, true, false, false, true, true, true, true, true, false, false, true, true, false, false, false, true, false] rfl rfl (by kernel_rfl) (fun _ _ _ h => h) (Or.inl ⟨by rfl, ?_⟩) ?_ ?_
      rotate_left
      · intro w'
        go_simp
        with_reducible rfl
      rotate_left
      · simp only [Act.put, List.setIfInBounds_toArray, List.set_cons_zero, List.set_cons_succ, i64_w, i32_w]
        rfl
      refine pure_ (i := 13) (N := some 45) (v := ?_) (a' := ?_) #[true, true, true, true, true, true, true, true, true, true, true, true, true, true, false, true, true, true, true, true, false, false, true, true, false, false, false, true, false] rfl rfl (by kernel_rfl) (fun _ _ _ h => h) (Or.inl ⟨by rfl, ?_⟩) ?_ ?_
      rotate_left
      · intro w'
        go_simp
        with_reducible rfl
      rotate_left
      · simp only [Act.put, List.setIfInBounds_toArray, List.set_cons_zero, List.set_cons_succ, i64_w, i32_w]
        rfl
      refine pure_ (i := 14) (N := some 46) (v := ?_) (a' := ?_) #[true, true, true, true, true, true, true, true, true, true, true, true, true, true, true, true, true, true, true, true, false, false, true, true, false, false, false, true, false] rfl rfl (by kernel_rfl) (fun _ _ _ h => h) (Or.inl ⟨by rfl, ?_⟩) ?_ ?_
      rotate_left
      · intro w'
        go_simp
        with_reducible rfl
      rotate_left
      · simp only [Act.put, List.setIfInBounds_toArray, List.set_cons_zero, List.set_cons_succ, i64_w, i32_w]
        rfl
      refine take_ (i := 20) (N := some 52) (v := ?_) (a' := ?_) #[true, true, true, true, true, true, true, true, true, true, true, true, true, true, true, true, true, true, true, true, true, false, true, true, false, false, false, true, false] rfl rfl (by kernel_rfl) (fun _ _ _ h => h) (Or.inl ⟨by rfl, ?_⟩) hHeld ?_ ?_
      rotate_left
      · rintro w' ⟨s0, s1, s2, s3, s4⟩
        go_simp
        with_reducible rfl
      rotate_left
      · simp only [Act.put, List.setIfInBounds_toArray, List.set_cons_zero, List.set_cons_succ, i64_w, i32_w]
        rfl
      refine pure_ (i := 21) (N := some 53) (v := ?_) (a' := ?_) #[true, true, true, true, true, true, true, true, true, true, true, true, true, true, true, true, true, true, true, true, true, true, true, true, false, false, false, true, false] rfl rfl (by kernel_rfl) (fun _ _ _ h => h) (Or.inl ⟨by rfl, ?_⟩) ?_ ?_
      rotate_left
      · intro w'
        go_simp
        with_reducible rfl
      rotate_left
      · simp only [Act.put, List.setIfInBounds_toArray, List.set_cons_zero, List.set_cons_succ, i64_w, i32_w]
        rfl
      refine pure_ (i := 24) (N := some 56) (v := ?_) (a' := ?_) #[true, true, true, true, true, true, true, true, true, true, true, true, true, true, true, true, true, true, true, true, true, true, true, true, true, false, false, true, false] rfl rfl (by kernel_rfl) (fun _ _ _ h => h) (Or.inl ⟨by rfl, ?_⟩) ?_ ?_
      rotate_left
      · intro w'
        go_simp
        with_reducible rfl
      rotate_left
      · simp only [Act.put, List.setIfInBounds_toArray, List.set_cons_zero, List.set_cons_succ, i64_w, i32_w]
        rfl
      refine pure_ (i := 25) (N := some 57) (v := ?_) (a' := ?_) #[true, true, true, true, true, true, true, true, true, true, true, true, true, true, true, true, true, true, true, true, true, true, true, true, true, true, false, true, false] rfl rfl (by kernel_rfl) (fun _ _ _ h => h) (Or.inl ⟨by rfl, ?_⟩) ?_ ?_
      rotate_left
      · intro w'
        go_simp
        with_reducible rfl
      rotate_left
      · simp only [Act.put, List.setIfInBounds_toArray, List.set_cons_zero, List.set_cons_succ, i64_w, i32_w]
        rfl
      refine one_ (i := 26) (N := some 58) #[true, true, true, true, true, true, true, true, true, true, true, true, true, true, true, true, true, true, true, true, true, true, true, true, true, true, true, true, false] rfl rfl (by kernel_rfl) (by decide) (fun K hK => ?_)
      refine goes_ Try.func62 (by kernel_rfl) rfl #[.agg #[.int .i64 RW, .int .i64 RH, .slice AR RP.length cR], .int .i64 (wrap64 (wrap64 (wrap64 (x - dx) + Int.tmod (k : Int) 3) - 1)), .int .i64 (wrap64 (wrap64 (wrap64 (y - dy) + wrap64 (Int.tdiv (k : Int) 3)) - 1))] (by rfl) rfl rfl (by simp only [List.map_toArray, List.map_cons, List.map_nil]; rfl) ?_
      with_reducible refine (HG.out _ HB3.out (x - dx + (k : Int) % 3 - 1) (y - dy + (k : Int) / 3 - 1) _ _ (by rw [Int.tmod_eq_emod_of_nonneg (by omega)]; simp (disch := omega) only [wrap_id]) (by rw [Int.tdiv_eq_ediv_of_nonneg (by omega)]; simp (disch := omega) only [wrap_id])).mono ?_
      rintro e W4 ⟨rfl, hb⟩
      refine ⟨_, rfl, ?_⟩
      have HB4 := Aside0.mk (below_then HB3.out HB3.out.size hb)
      clear hb
      refine hK.out _ _ ⟨(blk_cell (blk_below HZ.out HB4.out) 8).trans rfl, (blk_cell (blk_below HZ.out HB4.out) 9).trans rfl, (blk_cell (blk_below HZ.out HB4.out) 10).trans rfl, (blk_cell (blk_below HZ.out HB4.out) 1).trans rfl, (blk_cell (blk_below HZ.out HB4.out) 2).trans rfl⟩ (fun hHeld => ?_)
      clear hK K
      refine norm_ (a' := ?_) ?_ ?_
      rotate_left
      · show Act.put _ (some 58) _ = _
        simp only [Act.put, List.setIfInBounds_toArray, List.set_cons_zero, List.set_cons_succ, i64_w, i32_w]
        rfl
      refine pure_ (i := 28) (N := some 60) (v := ?_) (a' := ?_) #[true, true, true, true, true, true, true, true, true, true, true, true, true, true, true, true, true, true, true, true, true, true, true, true, true, true, true, true, true] rfl rfl (by kernel_rfl) (fun _ _ _ h => h) (Or.inl ⟨by rfl, ?_⟩) ?_ ?_
      rotate_left
      · intro w'
        go_simp
        with_reducible rfl
      rotate_left
      · simp only [Act.put, List.setIfInBounds_toArray, List.set_cons_zero, List.set_cons_succ, i64_w, i32_w]
        rfl
      refine done_ (by kernel_rfl) ?_
      obtain ⟨pv, hpv⟩ : ∃ v, px RW RH RP (x - dx + (k : Int) % 3 - 1) (y - dy + (k : Int) / 3 - 1) = v := ⟨_, rfl⟩
      rw [show 9 - k = (9 - (k + 1)) + 1 by omega] at hF
      unfold flatF at hF
      rw [hpv] at hF ⊢
      clear hpv
      by_cases he : pv = c
      · have e1 : (pv != c) = false := by simp [he]
        rw [if_pos he] at hF
        have HF := Aside0.mk hF
        clear hF he
        go_wp2_with (fail)
        exact ⟨⟨k + 1, by omega, by go_num, HF.out, HB4⟩, by simp [intOf] <;> omega⟩
      · have e1 : (pv != c) = true := bne_iff_ne.mpr he
        rw [if_neg he] at hF
        simp only [Prod.mk.injEq] at hF
        obtain ⟨rfl, rfl⟩ := hF
        clear he
        go_wp2_with (fail)
        go_ret2
        exact ⟨rfl, HB4.out⟩
    · obtain rfl : k = 9 := by omega
      have hF2 : (c, true) = (Rc, Rb) := hF
      simp only [Prod.mk.injEq] at hF2
      obtain ⟨rfl, rfl⟩ := hF2
      clear hF
      go_wp2_with (fail)
      go_ret2
      exact ⟨rfl, HB2.out⟩
end Go.Proofs.Ytkfejicdjpffcaa.Rfl
namespace Go.Proofs.Ytkfejicdjpffcaa.U
open Go.RowKit Go.Proofs.YtkfejicdjpffcaaW.PrintWords Go.Proofs.YtkfejicdjpffcaaW.PrintLast Go.Proofs.YtkfejicdjpffcaaW.PrintMore
attribute [local go_sem] max2_int min2_int max_two min_two max_three min_three max_four min_four   -- for this text's walks alone
def refine_beside.f  : Option ((List (S127))) := some (([(⟨0, 0⟩ : S127), (⟨(-1), 0⟩ : S127), (⟨1, 0⟩ : S127), (⟨0, (-1)⟩ : S127), (⟨0, 1⟩ : S127)] : List (S127)))
set_option maxHeartbeats 8000000 in
set_option maxRecDepth 100000 in
theorem refine_beside.calls  (r : List (S127)) (w : World) (h : refine_beside.f  = some r) :
    Calls Try.prog 89 #[] w fun e w' => ∃ v0_ : Value, e = .returned (v0_) ∧ Kd.R k127 127 w' w.heap.size (fun _ => True) v0_ r ∧ Below w.heap.size w w' := by
 have hu127 := Try.underlying127; have HB := Aside0.mk (Below.refl w.heap.size w); have H : (some (([(⟨0, 0⟩ : S127), (⟨(-1), 0⟩ : S127), (⟨1, 0⟩ : S127), (⟨0, (-1)⟩ : S127), (⟨0, 1⟩ : S127)] : List (S127)))) = some r := h; clear h; obtain ⟨y139, hy139⟩ : ∃ y_ : List (S127), y_ = (([(⟨0, 0⟩ : S127), (⟨(-1), 0⟩ : S127), (⟨1, 0⟩ : S127), (⟨0, (-1)⟩ : S127), (⟨0, 1⟩ : S127)] : List (S127))) := ⟨_, rfl⟩; (replace H : (some y139) = some r := by first | (rw [hy139]; with_reducible exact H) | (have H2_ := (Option.bind_some _ _).symm.trans H; rw [hy139]; with_reducible exact H2_) | (have H2_ := (Option.bind_some _ _).symm.trans H; with_reducible exact H2_) | with_reducible exact H | (rw [hy139]; exact H) | exact H); have Ny139 := Aside0.mk hy139; clear hy139; obtain rfl := Option.some.inj H; go_enter Try.func89, Try.ntmps89
 go_wp2_with (first | ((with_reducible refine gate_dst (N := 6) rfl ?_); refine Kd.R_lit k127 _ 127 ?hg (N := 6) ?hd (xs := ([(⟨0, 0⟩ : S127), (⟨(-1), 0⟩ : S127), (⟨1, 0⟩ : S127), (⟨0, (-1)⟩ : S127), (⟨0, 1⟩ : S127)] : List (S127))) (inner := [.int .i64 0, .int .i64 0, .int .i64 (-1), .int .i64 0, .int .i64 1, .int .i64 0, .int .i64 0, .int .i64 (-1), .int .i64 0, .int .i64 1]) (ok := fun _ => True) (okp := fun _ => True) ?hr ?hp (fun _ hk => hk) trivial (Below.refl _ _) (Nat.le_refl _) (by simp) ?_; (case hd => rfl); (case hg => rfl); (case hr => first | (go_simp; done) | (go_simp; rfl)); (case hp => exact (Reps.c2 (show Kd.M k127 _ _ _ (⟨0, 0⟩ : S127) [.int .i64 0, .int .i64 0] from (k127_mkM _ _ _ (⟨0, 0⟩ : S127) )) (Reps.c2 (show Kd.M k127 _ _ _ (⟨(-1), 0⟩ : S127) [.int .i64 (-1), .int .i64 0] from (k127_mkM _ _ _ (⟨(-1), 0⟩ : S127) )) (Reps.c2 (show Kd.M k127 _ _ _ (⟨1, 0⟩ : S127) [.int .i64 1, .int .i64 0] from (k127_mkM _ _ _ (⟨1, 0⟩ : S127) )) (Reps.c2 (show Kd.M k127 _ _ _ (⟨0, (-1)⟩ : S127) [.int .i64 0, .int .i64 (-1)] from (k127_mkM _ _ _ (⟨0, (-1)⟩ : S127) )) (Reps.c2 (show Kd.M k127 _ _ _ (⟨0, 1⟩ : S127) [.int .i64 0, .int .i64 1] from (k127_mkM _ _ _ (⟨0, 1⟩ : S127) )) (Reps.none _ _))))))); intro v140 w1 ho2 hb hg_ hnew_; clear hg_ hnew_; (first | rw [← Ny139.out] at ho2 | (simp only [Int.reduceToNat] at ho2; rw [← Ny139.out] at ho2)); have n0_ := Aside0.mk (Kd.R_lower ho2 (below_size (by repeat (first | (with_reducible first | exact HB.out | apply below_alloc | apply pw_below_drewN | apply below_drew1) | exact HB.out)))); have n1_ := Aside0.mk (below_step (by repeat (first | (with_reducible first | exact HB.out | apply below_alloc | apply pw_below_drewN | apply below_drew1) | exact HB.out)) hb); clear HB; have HO141 := n0_; have HB := n1_; clear n0_ n1_; clear hb ho2))
 go_ret; (exact ⟨_, by first | rfl | (simp [errW_none, errW_some] <;> rfl) | (simp [*, errW_none, errW_some] <;> rfl), by (with_reducible repeat (first | apply Kd.R_alloc | apply Kd.R_drewN | apply Kd.R_drew)); exact HO141.out, by repeat (first | (with_reducible first | exact HB.out | apply below_alloc | apply pw_below_drewN | apply below_drew1) | exact HB.out)⟩)
end Go.Proofs.Ytkfejicdjpffcaa.U
namespace Go.Proofs.Ytkfejicdjpffcaa.Rcx
open Go Go.RowKit Go.Proofs.YtkfejicdjpffcaaW.PrintWords Go.Proofs.YtkfejicdjpffcaaW.PrintLast Go.Proofs.YtkfejicdjpffcaaW.PrintMore Go.Proofs.Ytkfejicdjpffcaa.U Go.Proofs.Ytkfejicdjpffcaa.Aid Go.Proofs.Ytkfejicdjpffcaa.HandAid Go.Proofs.Ytkfejicdjpffcaa.Mods Go.Proofs.Ytkfejicdjpffcaa.Rpx Go.Proofs.Ytkfejicdjpffcaa.Rfl
set_option maxHeartbeats 2000000 in
set_option maxRecDepth 100000 in
theorem context_calls (w : World) (g : Nat) (t dx dy : Int) (ty : Bool) (kd W H : Int) (AB : Option Addr) (cB : Nat) (P : List Int) (RW RH : Int) (AR : Option Addr) (cR : Nat) (RP : List Int) (x y : Int) (hZ : w.heap[g]? = some (.cells (regc t dx dy ty kd W H (.slice AB P.length cB) RW RH (.slice AR RP.length cR)) 109 (0, 0))) (hB : Kd.C (Kd.int .u8) w AB P.length P) (hcB : P.length ≤ cB) (hC : Kd.C (Kd.int .u8) w AR RP.length RP) (hcR : RP.length ≤ cR) (b : Bm W H P) (br : Bm RW RH RP) (ht : t = 0 ∨ t = 1) (hx : -100000 ≤ x ∧ x ≤ 100000) (hy : -100000 ≤ y ∧ y ≤ 100000) (hdx : -100000 ≤ dx ∧ dx ≤ 100000) (hdy : -100000 ≤ dy ∧ dy ≤ 100000) :
    Calls Try.prog 61 #[.pointer (some ⟨g, 0, none⟩), .int .i64 x, .int .i64 y] w fun e w' => e = .returned (.int .i64 (ctxP t dx dy W H P RW RH RP x y)) ∧ Below w.heap.size w w' := by
  have HZ := Aside0.mk hZ
  have HBM := Aside0.mk b
  have HBR := Aside0.mk br
  have HG1 := Aside0.mk (show ∀ (V : World), Below w.heap.size w V → ∀ (a b2 a' b' : Int), a' = a → b' = b2 → Calls Try.prog 62 #[.agg #[.int .i64 W, .int .i64 H, .slice AB P.length cB], .int .i64 a', .int .i64 b'] V fun e W' => e = .returned (.int .u8 (px W H P a b2)) ∧ Below V.heap.size V W' from fun V hb a b2 a' b' ea eb => by subst ea eb; exact refine_grid_at.calls W H AB cB P _ _ _ _ (Kd.C_below hB hb) hcB (grid_eq b _ _))
  have HG2 := Aside0.mk (show ∀ (V : World), Below w.heap.size w V → ∀ (a b2 a' b' : Int), a' = a → b' = b2 → Calls Try.prog 62 #[.agg #[.int .i64 RW, .int .i64 RH, .slice AR RP.length cR], .int .i64 a', .int .i64 b'] V fun e W' => e = .returned (.int .u8 (px RW RH RP a b2)) ∧ Below V.heap.size V W' from fun V hb a b2 a' b' ea eb => by subst ea eb; exact refine_grid_at.calls RW RH AR cR RP _ _ _ _ (Kd.C_below hC hb) hcR (grid_eq br _ _))
  have hu1 := Try.underlying109
  have hu2 := Try.underlying107
  have hu3 := Try.underlying23
  have hu4 := Try.underlying127
  have hk0 : w.cell? ⟨g, 0, none⟩ = some (.int .i64 t) := (blk_cell hZ 0).trans rfl
  have hfr : refine_fresh.f t = some (news t) := by
    rcases ht with rfl | rfl <;> rfl
  have hnl : (news t).length ≤ 4 := by rw [news_len]; split <;> omega
  have hnear := near_news t
  obtain ⟨R, hR⟩ : ∃ r, ctxP t dx dy W H P RW RH RP x y = r := ⟨_, rfl⟩
  rw [hR]
  unfold ctxP at hR
  generalize news t = L at hfr hnl hnear hR
  have HNEAR1 := Aside0.mk hnear
  have HFR := Aside0.mk hfr
  have HR := Aside0.mk hR
  clear hZ hC hB ht hfr hnear b br hR
  go_enter Try.func61, Try.ntmps61
  go_wp2_with (fail)
  refine (refine_fresh.calls t L _ HFR.out).mono ?_
  rintro e W1 ⟨v, rfl, hRv, hb1⟩
  obtain ⟨A1, c1, rfl⟩ := Kd.R_slice hRv
  obtain ⟨-, hc1, hC1⟩ := Kd.R_reads' hRv
  have HC1 := Aside0.mk hC1
  have HB1 := Aside0.mk hb1
  have HD1 := Aside0.mk (Below.refl W1.heap.size W1)
  clear hRv hC1 hb1 hk0
  have hc := ctxN_range HBM.out x y L 0 (Int.le_refl _)
  obtain ⟨C1, hC1⟩ : ∃ r, ctxN W H P x y L 0 = r := ⟨_, rfl⟩
  rw [hC1] at hc HR
  go_wp2_with (fail)
  go_loopw [7, 19] (fun n i wr => ∃ (k : Nat) (nv : Int), k ≤ L.length ∧ n = .int .i64 nv ∧ i = .int .i64 k ∧ 0 ≤ nv ∧ nv ≤ 1048576 ∧ Aside0 ((nv + 1) * 2 ^ (L.length - k) ≤ 1048576) ∧ Aside0 (ctxN W H P x y (L.drop k) nv = C1) ∧ Aside0 (Below w.heap.size w wr) ∧ Aside0 (Below W1.heap.size W1 wr)) (fun _ i _ => L.length - (intOf i).toNat)
  case atStart => exact ⟨0, 0, Nat.zero_le _, rfl, rfl, Int.le_refl _, by decide, ⟨by rw [Nat.sub_zero]; have h2 : (2 : Nat) ^ L.length ≤ 2 ^ 4 := Nat.pow_le_pow_right (by decide) hnl; have e : ((2 ^ L.length : Nat) : Int) = (2 : Int) ^ L.length := Int.natCast_pow 2 _; omega⟩, ⟨by rw [List.drop_zero]; exact hC1⟩, HB1, HD1⟩
  case round =>
    obtain ⟨k, nv, hk, rfl, rfl, hn0, hn1, HP, HQ, HB2, HD2⟩ := hrel
    by_cases hlt : k < L.length
    · have hltk : (k : Int) < L.length := by omega
      obtain ⟨ad, hA, hx0, hx1⟩ := at_T127 (Kd.C_below HC1.out HD2.out) (k : Int) (by omega) hltk
      subst hA
      simp only [Int.toNat_natCast] at hx0 hx1
      obtain ⟨e1, e2⟩ := drop127 hlt
      obtain ⟨d, hd⟩ : ∃ d, rd_T127 L (k : Int) = d := ⟨_, rfl⟩
      rw [hd] at hx0 hx1 e1 e2
      have hdn := HNEAR1.out d e2
      unfold near at hdn
      have hQ := HQ.out
      rw [e1] at hQ
      simp only [ctxN] at hQ
      have HQ2 := Aside0.mk hQ
      have hv := px_01 HBM.out (x + d.f0) (y + d.f1)
      have HS := Aside0.mk (n_step hn0 (d := L.length - (k + 1)) (by have := HP.out; rwa [show L.length - k = L.length - (k + 1) + 1 by omega] at this) hv)
      have hns := HS.out.1
      have hnt : 2 * nv + px W H P (x + d.f0) (y + d.f1) ≤ 1048576 := by
        have h1 : (1 : Int) ≤ 2 ^ (L.length - (k + 1)) := by have : (0 : Int) < 2 ^ (L.length - (k + 1)) := Int.pow_pos (by decide); omega
        have h2 := HS.out.2.1
        have h3 : (2 * nv + px W H P (x + d.f0) (y + d.f1) + 1) * 1 ≤ (2 * nv + px W H P (x + d.f0) (y + d.f1) + 1) * 2 ^ (L.length - (k + 1)) := Int.mul_le_mul_of_nonneg_left h1 (by omega)
        omega
      obtain ⟨g2, hg2⟩ : ∃ q, wr.heap.size = q := ⟨_, rfl⟩
      obtain ⟨W3, hW3⟩ : ∃ q, wr.alloc (.cells #[.int .i64 d.f0, .int .i64 d.f1] 127) = q := ⟨_, rfl⟩
      have HB3 := Aside0.mk (show Below w.heap.size w W3.drew from hW3 ▸ below_drew (below_alloc HB2.out _))
      have HD3 := Aside0.mk (show Below W1.heap.size W1 W3.drew from hW3 ▸ below_drew (below_alloc HD2.out _))
      have HY := Aside0.mk (show W3.drew.heap[g2]? = some (.cells #[.int .i64 d.f0, .int .i64 d.f1] 127 (0, 0)) from hW3 ▸ hg2 ▸ heap_new wr _)
      clear hd e1 e2 hQ HQ HB2 HD2
      go_wp2_with (fail)
      clear hW3 hg2 hx0 hx1
      refine start_ (n := 18) (S := fun w' => w'.cell? ⟨g, 5, none⟩ = some (.int .i64 W) ∧ w'.cell? ⟨g, 6, none⟩ = some (.int .i64 H) ∧ w'.cell? ⟨g, 7, none⟩ = some (.slice AB P.length cB) ∧ w'.cell? ⟨g2, 0, none⟩ = some (.int .i64 d.f0) ∧ w'.cell? ⟨g2, 1, none⟩ = some (.int .i64 d.f1)) (ds := []) #[false, false, false, false, false, false, false, false, false, false, false, false, false, false, false, false, false, false] (by kernel_rfl) rfl rfl ⟨(blk_cell (blk_below HZ.out HB3.out) 5).trans rfl, (blk_cell (blk_below HZ.out HB3.out) 6).trans rfl, (blk_cell (blk_below HZ.out HB3.out) 7).trans rfl, (blk_cell (HY.out) 0).trans rfl, (blk_cell (HY.out) 1).trans rfl⟩ (fun hHeld => ?_)
      refine pure_ (i := 0) (N := some 23) (v := ?_) (a' := ?_) #[true, false, false, false, false, false, false, false, false, false, false, false, false, false, false, false, false, false] rfl rfl (by kernel_rfl) (fun _ _ _ h => h) (Or.inl ⟨by rfl, ?_⟩) ?_ ?_
      rotate_left
      · intro w'
        go_simp
        with_reducible rfl
      rotate_left
      · simp only [Act.put, List.setIfInBounds_toArray, List.set_cons_zero, List.set_cons_succ, i64_w, i32_w]
        rfl
      refine pure_ (i := 1) (N := some 24) (v := ?_) (a' := ?_) #[true, true, false, false, false, false, false, false, false, false, false, false, false, false, false, false, false, false] rfl rfl (by kernel_rfl) (fun _ _ _ h => h) (Or.inl ⟨by rfl, ?_⟩) ?_ ?_
      rotate_left
      · intro w'
        go_simp
        with_reducible rfl
      rotate_left
      · simp only [Act.put, List.setIfInBounds_toArray, List.set_cons_zero, List.set_cons_succ, i64_w, i32_w]
        rfl
      refine pure_ (i := 2) (N := some 25) (v := ?_) (a' := ?_) #[true, true, true, false, false, false, false, false, false, false, false, false, false, false, false, false, false, false] rfl rfl (by kernel_rfl) (fun _ _ _ h => h) (Or.inl ⟨by rfl, ?_⟩) ?_ ?_
      rotate_left
      · intro w'
        go_simp
        with_reducible rfl
      rotate_left
      · simp only [Act.put, List.setIfInBounds_toArray, List.set_cons_zero, List.set_cons_succ, i64_w, i32_w]
        rfl
      refine pure_ (i := 3) (N := some 26) (v := ?_) (a' := ?_) #[true, true, true, true, false, false, false, false, false, false, false, false, false, false, false, false, false, false] rfl rfl (by kernel_rfl) (fun _ _ _ h => h) (Or.inl ⟨by rfl, ?_⟩) ?_ ?_
      rotate_left
      · intro w'
        go_simp
        with_reducible rfl
      rotate_left
      · simp only [Act.put, List.setIfInBounds_toArray, List.set_cons_zero, List.set_cons_succ, i64_w, i32_w]
        rfl
      refine pure_ (i := 4) (N := some 27) (v := ?_) (a' := ?_) #[true, true, true, true, true, false, false, false, false, false, false, false, false, false, false, false, false, false] rfl rfl (by kernel_rfl) (fun _ _ _ h => h) (Or.inl ⟨by rfl, ?_⟩) ?_ ?_
      rotate_left
      · intro w'
        go_simp
        with_reducible rfl
      rotate_left
      · simp only [Act.put, List.setIfInBounds_toArray, List.set_cons_zero, List.set_cons_succ, i64_w, i32_w]
        rfl
      refine pure_ (i := 6) (N := some 29) (v := ?_) (a' := ?_) #[true, true, true, true, true, false, true, false, false, false, false, false, false, false, false, false, false, false] rfl rfl (by kernel_rfl) (fun _ _ _ h => h) (Or.inl ⟨by rfl, ?_⟩) ?_ ?_
      rotate_left
      · intro w'
        go_simp
        with_reducible rfl
      rotate_left
      · simp only [Act.put, List.setIfInBounds_toArray, List.set_cons_zero, List.set_cons_succ, i64_w, i32_w]
        rfl
      refine pure_ (i := 7) (N := some 30) (v := ?_) (a' := ?_) #[true, true, true, true, true, false, true, true, false, false, false, false, false, false, false, false, false, false] rfl rfl (by kernel_rfl) (fun _ _ _ h => h) (Or.inl ⟨by rfl, ?_⟩) ?_ ?_
      rotate_left
      · intro w'
        go_simp
        with_reducible rfl
      rotate_left
      · simp only [Act.put, List.setIfInBounds_toArray, List.set_cons_zero, List.set_cons_succ, i64_w, i32_w]
        rfl
      refine pure_ (i := 10) (N := some 33) (v := ?_) (a' := ?_) #[true, true, true, true, true, false, true, true, false, false, true, false, false, false, false, false, false, false] rfl rfl (by kernel_rfl) (fun _ _ _ h => h) (Or.inl ⟨by rfl, ?_⟩) ?_ ?_
      rotate_left
      · intro w'
        go_simp
        with_reducible rfl
      rotate_left
      · simp only [Act.put, List.setIfInBounds_toArray, List.set_cons_zero, List.set_cons_succ, i64_w, i32_w]
        rfl
      refine pure_ (i := 11) (N := some 34) (v := ?_) (a' := ?_) #[true, true, true, true, true, false, true, true, false, false, true, true, false, false, false, false, false, false] rfl rfl (by kernel_rfl) (fun _ _ _ h => h) (Or.inl ⟨by rfl, ?_⟩) ?_ ?_
      rotate_left
      · intro w'
        go_simp
        with_reducible rfl
      rotate_left
      · simp only [Act.put, List.setIfInBounds_toArray, List.set_cons_zero, List.set_cons_succ, i64_w, i32_w]
        rfl
      refine take_ (i := 5) (N := some 28) (v := ?_) (a' := ?_) #[true, true, true, true, true, true, true, true, false, false, true, true, false, false, false, false, false, false] rfl rfl (by kernel_rfl) (fun _ _ _ h => h) (Or.inl ⟨by rfl, ?_⟩) hHeld ?_ ?_
      rotate_left
      · rintro w' ⟨s0, s1, s2, s3, s4⟩
        go_simp
        with_reducible rfl
      rotate_left
      · simp only [Act.put, List.setIfInBounds_toArray, List.set_cons_zero, List.set_cons_succ, i64_w, i32_w]
        rfl
      refine take_ (i := 8) (N := some 31) (v := ?_) (a' := ?_) #[true, true, true, true, true, true, true, true, true, false, true, true, false, false, false, false, false, false] rfl rfl (by kernel_rfl) (fun _ _ _ h => h) (Or.inl ⟨by rfl, ?_⟩) hHeld ?_ ?_
      rotate_left
      · rintro w' ⟨s0, s1, s2, s3, s4⟩
        go_simp
        with_reducible rfl
      rotate_left
      · simp only [Act.put, List.setIfInBounds_toArray, List.set_cons_zero, List.set_cons_succ, i64_w, i32_w]
        rfl
      refine pure_ (i := 9) (N := some 32) (v := ?_) (a' := ?_) #[true, true, true, true, true, true, true, true, true, true, true, true, false, false, false, false, false, false] rfl rfl (by kernel_rfl) (fun _ _ _ h => h) (Or.inl ⟨by rfl, ?_⟩) ?_ ?_
      rotate_left
      · intro w'
        go_simp
        with_reducible rfl
      rotate_left
      · simp only [Act.put, List.setIfInBounds_toArray, List.set_cons_zero, List.set_cons_succ, i64_w, i32_w]
        rfl
      refine take_ (i := 12) (N := some 35) (v := ?_) (a' := ?_) #[true, true, true, true, true, true, true, true, true, true, true, true, true, false, false, false, false, false] rfl rfl (by kernel_rfl) (fun _ _ _ h => h) (Or.inl ⟨by rfl, ?_⟩) hHeld ?_ ?_
      rotate_left
      · rintro w' ⟨s0, s1, s2, s3, s4⟩
        go_simp
        with_reducible rfl
      rotate_left
      · simp only [Act.put, List.setIfInBounds_toArray, List.set_cons_zero, List.set_cons_succ, i64_w, i32_w]
        rfl
      refine pure_ (i := 13) (N := some 36) (v := ?_) (a' := ?_) #[true, true, true, true, true, true, true, true, true, true, true, true, true, true, false, false, false, false] rfl rfl (by kernel_rfl) (fun _ _ _ h => h) (Or.inl ⟨by rfl, ?_⟩) ?_ ?_
      rotate_left
      · intro w'
        go_simp
        with_reducible rfl
      rotate_left
      · simp only [Act.put, List.setIfInBounds_toArray, List.set_cons_zero, List.set_cons_succ, i64_w, i32_w]
        rfl
      refine one_ (i := 14) (N := some 37) #[true, true, true, true, true, true, true, true, true, true, true, true, true, true, true, false, false, false] rfl rfl (by kernel_rfl) (by decide) (fun K hK => ?_)
      refine goes_ Try.func62 (by kernel_rfl) rfl #[.agg #[.int .i64 W, .int .i64 H, .slice AB P.length cB], .int .i64 (wrap64 (x + d.f0)), .int .i64 (wrap64 (y + d.f1))] (by rfl) rfl rfl (by simp only [List.map_toArray, List.map_cons, List.map_nil]; rfl) ?_
      with_reducible refine (HG1.out _ HB3.out (x + d.f0) (y + d.f1) _ _ (by rw [wrap_id] <;> omega) (by rw [wrap_id] <;> omega)).mono ?_
      rintro e W4 ⟨rfl, hb⟩
      refine ⟨_, rfl, ?_⟩
      have HB4 := Aside0.mk (below_then HB3.out HB3.out.size hb)
      have HD4 := Aside0.mk (below_then HD3.out HD3.out.size hb)
      have HY4 := Aside0.mk (blk_below HY.out hb)
      clear hb
      refine hK.out _ _ ⟨(blk_cell (blk_below HZ.out HB4.out) 5).trans rfl, (blk_cell (blk_below HZ.out HB4.out) 6).trans rfl, (blk_cell (blk_below HZ.out HB4.out) 7).trans rfl, (blk_cell (HY4.out) 0).trans rfl, (blk_cell (HY4.out) 1).trans rfl⟩ (fun hHeld => ?_)
      clear hK K
      refine norm_ (a' := ?_) ?_ ?_
      rotate_left
      · show Act.put _ (some 37) _ = _
        simp only [Act.put, List.setIfInBounds_toArray, List.set_cons_zero, List.set_cons_succ, i64_w, i32_w]
        rfl
      refine pure_ (i := 15) (N := some 38) (v := ?_) (a' := ?_) #[true, true, true, true, true, true, true, true, true, true, true, true, true, true, true, true, false, false] rfl rfl (by kernel_rfl) (fun _ _ _ h => h) (Or.inl ⟨by rfl, ?_⟩) ?_ ?_
      rotate_left
      · intro w'
        go_simp
        with_reducible rfl
      rotate_left
      · simp only [Act.put, List.setIfInBounds_toArray, List.set_cons_zero, List.set_cons_succ, i64_w, i32_w]
        rfl
      refine pure_ (i := 16) (N := some 39) (v := ?_) (a' := ?_) #[true, true, true, true, true, true, true, true, true, true, true, true, true, true, true, true, true, false] rfl rfl (by kernel_rfl) (fun _ _ _ h => h) (Or.inl ⟨by rfl, ?_⟩) ?_ ?_
      rotate_left
      · intro w'
        go_simp
        with_reducible rfl
      rotate_left
      · simp only [Act.put, List.setIfInBounds_toArray, List.set_cons_zero, List.set_cons_succ, i64_w, i32_w]
        rfl
      refine pure_ (i := 17) (N := some 7) (v := ?_) (a' := ?_) #[true, true, true, true, true, true, true, true, true, true, true, true, true, true, true, true, true, true] rfl rfl (by kernel_rfl) (fun _ _ _ h => h) (Or.inl ⟨by rfl, ?_⟩) ?_ ?_
      rotate_left
      · intro w'
        go_simp
        with_reducible rfl
      rotate_left
      · simp only [Act.put, List.setIfInBounds_toArray, List.set_cons_zero, List.set_cons_succ, i64_w, i32_w]
        rfl
      refine done_ (by kernel_rfl) ?_
      obtain ⟨pv, hpv⟩ : ∃ q, px W H P (x + d.f0) (y + d.f1) = q := ⟨_, rfl⟩
      rw [hpv] at HQ2 HS hv hns hnt ⊢
      clear hpv
      go_wp2_with (fail)
      go_roundw
      case rel => exact ⟨k + 1, 2 * nv + pv, by omega, by first | rfl | (simp (disch := omega) only [wrap_id]), by go_num, hns, hnt, ⟨HS.out.2.1⟩, HQ2, HB4, HD4⟩
      case measure => simp [intOf]; omega
    · have hQ := HQ.out
      rw [List.drop_of_length_le (by omega)] at hQ
      simp only [ctxN] at hQ
      subst hQ
      clear HQ HP HC1 HD1 HD2
      have hc2 := hc.2
      have hp16 : (2 : Int) ^ L.length ≤ 16 := by
        have h2 : (2 : Nat) ^ L.length ≤ 2 ^ 4 := Nat.pow_le_pow_right (by decide) hnl
        have e : ((2 ^ L.length : Nat) : Int) = (2 : Int) ^ L.length := Int.natCast_pow 2 _
        omega
      have hn16 : nv ≤ 15 := by omega
      have hn00 := hc.1
      clear hc hc2 hp16
      go_wp2_with (fail)
      refine (refine_beside.calls besides _ rfl).mono ?_
      rintro e W2 ⟨v2, rfl, hRv, hb2⟩
      obtain ⟨A2, c2, rfl⟩ := Kd.R_slice hRv
      obtain ⟨-, hc2, hC2⟩ := Kd.R_reads' hRv
      have HC2 := Aside0.mk hC2
      have HBn := Aside0.mk (below_then HB2.out HB2.out.size hb2)
      have HD2 := Aside0.mk (Below.refl W2.heap.size W2)
      clear hRv hC2 hb2 HB2
      have HNEAR2 := Aside0.mk (show ∀ d ∈ besides, near d by unfold besides near; simp)
      obtain ⟨M, hM⟩ : ∃ M, besides = M := ⟨_, rfl⟩
      have hml : M.length = 5 := by rw [← hM]; rfl
      rw [hM] at HR HC2 HNEAR2 ⊢
      clear hM
      have HM := Aside0.mk hml
      have hml5 : M.length ≤ 5 := by omega
      clear hml
      have HR2 := HR
      clear HR
      go_wp2_with (fail)
      go_loopw [7, 43] (fun n i wr => ∃ (k : Nat) (nv : Int), k ≤ M.length ∧ n = .int .i64 nv ∧ i = .int .i64 k ∧ 0 ≤ nv ∧ nv ≤ 1048576 ∧ Aside0 ((nv + 1) * 2 ^ (M.length - k) ≤ 1048576) ∧ Aside0 (ctxN RW RH RP (x - dx) (y - dy) (M.drop k) nv = R) ∧ Aside0 (Below w.heap.size w wr) ∧ Aside0 (Below W2.heap.size W2 wr)) (fun _ i _ => M.length - (intOf i).toNat)
      case atStart => exact ⟨0, nv, Nat.zero_le _, rfl, rfl, hn00, by omega, ⟨by rw [HM.out]; have : (2 : Int) ^ (5 - 0) = 32 := rfl; rw [this]; omega⟩, ⟨HR2.out⟩, HBn, HD2⟩
      case round =>
        obtain ⟨k, nv, hk, rfl, rfl, hn0, hn1, HP, HQ, HB2, HD2⟩ := hrel
        by_cases hlt : k < M.length
        · have hltk : (k : Int) < M.length := by omega
          obtain ⟨ad, hA, hx0, hx1⟩ := at_T127 (Kd.C_below HC2.out HD2.out) (k : Int) (by omega) hltk
          subst hA
          simp only [Int.toNat_natCast] at hx0 hx1
          obtain ⟨e1, e2⟩ := drop127 hlt
          obtain ⟨d, hd⟩ : ∃ d, rd_T127 M (k : Int) = d := ⟨_, rfl⟩
          rw [hd] at hx0 hx1 e1 e2
          have hdn := HNEAR2.out d e2
          unfold near at hdn
          have hQ := HQ.out
          rw [e1] at hQ
          simp only [ctxN] at hQ
          have HQ2 := Aside0.mk hQ
          have hv := px_01 HBR.out (x - dx + d.f0) (y - dy + d.f1)
          have HS := Aside0.mk (n_step hn0 (d := M.length - (k + 1)) (by have := HP.out; rwa [show M.length - k = M.length - (k + 1) + 1 by omega] at this) hv)
          have hns := HS.out.1
          have hnt : 2 * nv + px RW RH RP (x - dx + d.f0) (y - dy + d.f1) ≤ 1048576 := by
            have h1 : (1 : Int) ≤ 2 ^ (M.length - (k + 1)) := by have : (0 : Int) < 2 ^ (M.length - (k + 1)) := Int.pow_pos (by decide); omega
            have h2 := HS.out.2.1
            have h3 : (2 * nv + px RW RH RP (x - dx + d.f0) (y - dy + d.f1) + 1) * 1 ≤ (2 * nv + px RW RH RP (x - dx + d.f0) (y - dy + d.f1) + 1) * 2 ^ (M.length - (k + 1)) := Int.mul_le_mul_of_nonneg_left h1 (by omega)
            omega
          obtain ⟨g2, hg2⟩ : ∃ q, wr.heap.size = q := ⟨_, rfl⟩
          obtain ⟨W3, hW3⟩ : ∃ q, wr.alloc (.cells #[.int .i64 d.f0, .int .i64 d.f1] 127) = q := ⟨_, rfl⟩
          have HB3 := Aside0.mk (show Below w.heap.size w W3.drew from hW3 ▸ below_drew (below_alloc HB2.out _))
          have HD3 := Aside0.mk (show Below W2.heap.size W2 W3.drew from hW3 ▸ below_drew (below_alloc HD2.out _))
          have HY := Aside0.mk (show W3.drew.heap[g2]? = some (.cells #[.int .i64 d.f0, .int .i64 d.f1] 127 (0, 0)) from hW3 ▸ hg2 ▸ heap_new wr _)
          clear hd e1 e2 hQ HQ HB2 HD2
          go_wp2_with (fail)
          clear hW3 hg2 hx0 hx1
          refine start_ (n := 30) (S := fun w' => w'.cell? ⟨g, 8, none⟩ = some (.int .i64 RW) ∧ w'.cell? ⟨g, 9, none⟩ = some (.int .i64 RH) ∧ w'.cell? ⟨g, 10, none⟩ = some (.slice AR RP.length cR) ∧ w'.cell? ⟨g, 1, none⟩ = some (.int .i64 dx) ∧ w'.cell? ⟨g, 2, none⟩ = some (.int .i64 dy) ∧ w'.cell? ⟨g2, 0, none⟩ = some (.int .i64 d.f0) ∧ w'.cell? ⟨g2, 1, none⟩ = some (.int .i64 d.f1)) (ds := []) #[false, false, false, false, false, false, false, false, false, false, false, false, false, false, false, false, false, false, false, false, false, false, false, false, false, false, false, false, false, false] (by kernel_rfl) rfl rfl ⟨(blk_cell (blk_below HZ.out HB3.out) 8).trans rfl, (blk_cell (blk_below HZ.out HB3.out) 9).trans rfl, (blk_cell (blk_below HZ.out HB3.out) 10).trans rfl, (blk_cell (blk_below HZ.out HB3.out) 1).trans rfl, (blk_cell (blk_below HZ.out HB3.out) 2).trans rfl, (blk_cell (HY.out) 0).trans rfl, (blk_cell (HY.out) 1).trans rfl⟩ (fun hHeld => ?_)
          refine pure_ (i := 0) (N := some 47) (v := ?_) (a' := ?_) #[true, false, false, false, false, false, false, false, false, false, false, false, false, false, false, false, false, false, false, false, false, false, false, false, false, false, false, false, false, false] rfl rfl (by kernel_rfl) (fun _ _ _ h => h) (Or.inl ⟨by rfl, ?_⟩) ?_ ?_
          rotate_left
          · intro w'
            go_simp
            with_reducible rfl
          rotate_left
          · simp only [Act.put, List.setIfInBounds_toArray, List.set_cons_zero, List.set_cons_succ, i64_w, i32_w]
            rfl
          refine pure_ (i := 1) (N := some 48) (v := ?_) (a' := ?_) #[true, true, false, false, false, false, false, false, false, false, false, false, false, false, false, false, false, false, false, false, false, false, false, false, false, false, false, false, false, false] rfl rfl (by kernel_rfl) (fun _ _ _ h => h) (Or.inl ⟨by rfl, ?_⟩) ?_ ?_
          rotate_left
          · intro w'
            go_simp
            with_reducible rfl
          rotate_left
          · simp only [Act.put, List.setIfInBounds_toArray, List.set_cons_zero, List.set_cons_succ, i64_w, i32_w]
            rfl
          refine pure_ (i := 2) (N := some 49) (v := ?_) (a' := ?_) #[true, true, true, false, false, false, false, false, false, false, false, false, false, false, false, false, false, false, false, false, false, false, false, false, false, false, false, false, false, false] rfl rfl (by kernel_rfl) (fun _ _ _ h => h) (Or.inl ⟨by rfl, ?_⟩) ?_ ?_
          rotate_left
          · intro w'
            go_simp
            with_reducible rfl
          rotate_left
          · simp only [Act.put, List.setIfInBounds_toArray, List.set_cons_zero, List.set_cons_succ, i64_w, i32_w]
            rfl
          refine pure_ (i := 3) (N := some 50) (v := ?_) (a' := ?_) #[true, true, true, true, false, false, false, false, false, false, false, false, false, false, false, false, false, false, false, false, false, false, false, false, false, false, false, false, false, false] rfl rfl (by kernel_rfl) (fun _ _ _ h => h) (Or.inl ⟨by rfl, ?_⟩) ?_ ?_
          rotate_left
          · intro w'
            go_simp
            with_reducible rfl
          rotate_left
          · simp only [Act.put, List.setIfInBounds_toArray, List.set_cons_zero, List.set_cons_succ, i64_w, i32_w]
            rfl
          refine pure_ (i := 4) (N := some 51) (v := ?_) (a' := ?_) #[true, true, true, true, true, false, false, false, false, false, false, false, false, false, false, false, false, false, false, false, false, false, false, false, false, false, false, false, false, false] rfl rfl (by kernel_rfl) (fun _ _ _ h => h) (Or.inl ⟨by rfl, ?_⟩) ?_ ?_
          rotate_left
          · intro w'
            go_simp
            with_reducible rfl
          rotate_left
          · simp only [Act.put, List.setIfInBounds_toArray, List.set_cons_zero, List.set_cons_succ, i64_w, i32_w]
            rfl
          refine pure_ (i := 6) (N := some 53) (v := ?_) (a' := ?_) #[true, true, true, true, true, false, true, false, false, false, false, false, false, false, false, false, false, false, false, false, false, false, false, false, false, false, false, false, false, false] rfl rfl (by kernel_rfl) (fun _ _ _ h => h) (Or.inl ⟨by rfl, ?_⟩) ?_ ?_
          rotate_left
          · intro w'
            go_simp
            with_reducible rfl
          rotate_left
          · simp only [Act.put, List.setIfInBounds_toArray, List.set_cons_zero, List.set_cons_succ, i64_w, i32_w]
            rfl
          refine pure_ (i := 7) (N := some 54) (v := ?_) (a' := ?_) #[true, true, true, true, true, false, true, true, false, false, false, false, false, false, false, false, false, false, false, false, false, false, false, false, false, false, false, false, false, false] rfl rfl (by kernel_rfl) (fun _ _ _ h => h) (Or.inl ⟨by rfl, ?_⟩) ?_ ?_
          rotate_left
          · intro w'
            go_simp
            with_reducible rfl
          rotate_left
          · simp only [Act.put, List.setIfInBounds_toArray, List.set_cons_zero, List.set_cons_succ, i64_w, i32_w]
            rfl
          refine pure_ (i := 8) (N := some 55) (v := ?_) (a' := ?_) #[true, true, true, true, true, false, true, true, true, false, false, false, false, false, false, false, false, false, false, false, false, false, false, false, false, false, false, false, false, false] rfl rfl (by kernel_rfl) (fun _ _ _ h => h) (Or.inl ⟨by rfl, ?_⟩) ?_ ?_
          rotate_left
          · intro w'
            go_simp
            with_reducible rfl
          rotate_left
          · simp only [Act.put, List.setIfInBounds_toArray, List.set_cons_zero, List.set_cons_succ, i64_w, i32_w]
            rfl
          refine pure_ (i := 9) (N := some 56) (v := ?_) (a' := ?_) #[true, true, true, true, true, false, true, true, true, true, false, false, false, false, false, false, false, false, false, false, false, false, false, false, false, false, false, false, false, false] rfl rfl (by kernel_rfl) (fun _ _ _ h => h) (Or.inl ⟨by rfl, ?_⟩) ?_ ?_
          rotate_left
          · intro w'
            go_simp
            with_reducible rfl
          rotate_left
          · simp only [Act.put, List.setIfInBounds_toArray, List.set_cons_zero, List.set_cons_succ, i64_w, i32_w]
            rfl
          refine pure_ (i := 10) (N := some 57) (v := ?_) (a' := ?_) #[true, true, true, true, true, false, true, true, true, true, true, false, false, false, false, false, false, false, false, false, false, false, false, false, false, false, false, false, false, false] rfl rfl (by kernel_rfl) (fun _ _ _ h => h) (Or.inl ⟨by rfl, ?_⟩) ?_ ?_
          rotate_left
          · intro w'
            go_simp
            with_reducible rfl
          rotate_left
          · simp only [Act.put, List.setIfInBounds_toArray, List.set_cons_zero, List.set_cons_succ, i64_w, i32_w]
            rfl
          refine pure_ (i := 13) (N := some 60) (v := ?_) (a' := ?_) #[true, true, true, true, true, false, true, true, true, true, true, false, false, true, false, false, false, false, false, false, false, false, false, false, false, false, false, false, false, false] rfl rfl (by kernel_rfl) (fun _ _ _ h => h) (Or.inl ⟨by rfl, ?_⟩) ?_ ?_
          rotate_left
          · intro w'
            go_simp
            with_reducible rfl
          rotate_left
          · simp only [Act.put, List.setIfInBounds_toArray, List.set_cons_zero, List.set_cons_succ, i64_w, i32_w]
            rfl
          refine pure_ (i := 16) (N := some 63) (v := ?_) (a' := ?_) #[true, true, true, true, true, false, true, true, true, true, true, false, false, true, false, false, true, false, false, false, false, false, false, false, false, false, false, false, false, false] rfl rfl (by kernel_rfl) (fun _ _ _ h => h) (Or.inl ⟨by rfl, ?_⟩) ?_ ?_
          rotate_left
          · intro w'
            go_simp
            with_reducible rfl
          rotate_left
          · simp only [Act.put, List.setIfInBounds_toArray, List.set_cons_zero, List.set_cons_succ, i64_w, i32_w]
            rfl
          refine pure_ (i := 17) (N := some 64) (v := ?_) (a' := ?_) #[true, true, true, true, true, false, true, true, true, true, true, false, false, true, false, false, true, true, false, false, false, false, false, false, false, false, false, false, false, false] rfl rfl (by kernel_rfl) (fun _ _ _ h => h) (Or.inl ⟨by rfl, ?_⟩) ?_ ?_
          rotate_left
          · intro w'
            go_simp
            with_reducible rfl
          rotate_left
          · simp only [Act.put, List.setIfInBounds_toArray, List.set_cons_zero, List.set_cons_succ, i64_w, i32_w]
            rfl
          refine pure_ (i := 18) (N := some 65) (v := ?_) (a' := ?_) #[true, true, true, true, true, false, true, true, true, true, true, false, false, true, false, false, true, true, true, false, false, false, false, false, false, false, false, false, false, false] rfl rfl (by kernel_rfl) (fun _ _ _ h => h) (Or.inl ⟨by rfl, ?_⟩) ?_ ?_
          rotate_left
          · intro w'
            go_simp
            with_reducible rfl
          rotate_left
          · simp only [Act.put, List.setIfInBounds_toArray, List.set_cons_zero, List.set_cons_succ, i64_w, i32_w]
            rfl
          refine pure_ (i := 19) (N := some 66) (v := ?_) (a' := ?_) #[true, true, true, true, true, false, true, true, true, true, true, false, false, true, false, false, true, true, true, true, false, false, false, false, false, false, false, false, false, false] rfl rfl (by kernel_rfl) (fun _ _ _ h => h) (Or.inl ⟨by rfl, ?_⟩) ?_ ?_
          rotate_left
          · intro w'
            go_simp
            with_reducible rfl
          rotate_left
          · simp only [Act.put, List.setIfInBounds_toArray, List.set_cons_zero, List.set_cons_succ, i64_w, i32_w]
            rfl
          refine pure_ (i := 20) (N := some 67) (v := ?_) (a' := ?_) #[true, true, true, true, true, false, true, true, true, true, true, false, false, true, false, false, true, true, true, true, true, false, false, false, false, false, false, false, false, false] rfl rfl (by kernel_rfl) (fun _ _ _ h => h) (Or.inl ⟨by rfl, ?_⟩) ?_ ?_
          rotate_left
          · intro w'
            go_simp
            with_reducible rfl
          rotate_left
          · simp only [Act.put, List.setIfInBounds_toArray, List.set_cons_zero, List.set_cons_succ, i64_w, i32_w]
            rfl
          refine pure_ (i := 23) (N := some 70) (v := ?_) (a' := ?_) #[true, true, true, true, true, false, true, true, true, true, true, false, false, true, false, false, true, true, true, true, true, false, false, true, false, false, false, false, false, false] rfl rfl (by kernel_rfl) (fun _ _ _ h => h) (Or.inl ⟨by rfl, ?_⟩) ?_ ?_
          rotate_left
          · intro w'
            go_simp
            with_reducible rfl
          rotate_left
          · simp only [Act.put, List.setIfInBounds_toArray, List.set_cons_zero, List.set_cons_succ, i64_w, i32_w]
            rfl
          refine take_ (i := 5) (N := some 52) (v := ?_) (a' := ?_) #[true, true, true, true, true, true, true, true, true, true, true, false, false, true, false, false, true, true, true, true, true, false, false, true, false, false, false, false, false, false] rfl rfl (by kernel_rfl) (fun _ _ _ h => h) (Or.inl ⟨by rfl, ?_⟩) hHeld ?_ ?_
          rotate_left
          · rintro w' ⟨s0, s1, s2, s3, s4, s5, s6⟩
            go_simp
            with_reducible rfl
          rotate_left
          · simp only [Act.put, List.setIfInBounds_toArray, List.set_cons_zero, List.set_cons_succ, i64_w, i32_w]
            rfl
          refine take_ (i := 11) (N := some 58) (v := ?_) (a' := ?_) #[true, true, true, true, true, true, true, true, true, true, true, true, false, true, false, false, true, true, true, true, true, false, false, true, false, false, false, false, false, false] rfl rfl (by kernel_rfl) (fun _ _ _ h => h) (Or.inl ⟨by rfl, ?_⟩) hHeld ?_ ?_
          rotate_left
          · rintro w' ⟨s0, s1, s2, s3, s4, s5, s6⟩
            go_simp
            with_reducible rfl
          rotate_left
          · simp only [Act.put, List.setIfInBounds_toArray, List.set_cons_zero, List.set_cons_succ, i64_w, i32_w]
            rfl
          refine pure_ (i := 12) (N := some 59) (v := ?_) (a' := ?_) #[true, true, true, true, true, true, true, true, true, true, true, true, true, true, false, false, true, true, true, true, true, false, false, true, false, false, false, false, false, false] rfl rfl (by kernel_rfl) (fun _ _ _ h => h) (Or.inl ⟨by rfl, ?_⟩) ?_ ?_
          rotate_left
          · intro w'
            go_simp
            with_reducible rfl
          rotate_left
          · simp only [Act.put, List.setIfInBounds_toArray, List.set_cons_zero, List.set_cons_succ, i64_w, i32_w]
            rfl
          refine take_ (i := 14) (N := some 61) (v := ?_) (a' := ?_) #[true, true, true, true, true, true, true, true, true, true, true, true, true, true, true, false, true, true, true, true, true, false, false, true, false, false, false, false, false, false] rfl rfl (by kernel_rfl) (fun _ _ _ h => h) (Or.inl ⟨by rfl, ?_⟩) hHeld ?_ ?_
          rotate_left
          · rintro w' ⟨s0, s1, s2, s3, s4, s5, s6⟩
            go_simp
            with_reducible rfl
          rotate_left
          · simp only [Act.put, List.setIfInBounds_toArray, List.set_cons_zero, List.set_cons_succ, i64_w, i32_w]
            rfl
          refine pure_ (i := 15) (N := some 62) (v := ?_) (a' := ?_) #[true, true, true, true, true, true, true, true, true, true, true, true, true, true, true, true, true, true, true, true, true, false, false, true, false, false, false, false, false, false] rfl rfl (by kernel_rfl) (fun _ _ _ h => h) (Or.inl ⟨by rfl, ?_⟩) ?_ ?_
          rotate_left
          · intro w'
            go_simp
            with_reducible rfl
          rotate_left
          · simp only [Act.put, List.setIfInBounds_toArray, List.set_cons_zero, List.set_cons_succ, i64_w, i32_w]
            rfl
          refine take_ (i := 21) (N := some 68) (v := ?_) (a' := ?_) #[true, true, true, true, true, true, true, true, true, true, true, true, true, true, true, true, true, true, true, true, true, true, false, true, false, false, false, false, false, false] rfl rfl (by kernel_rfl) (fun _ _ _ h => h) (Or.inl ⟨by rfl, ?_⟩) hHeld ?_ ?_
          rotate_left
          · rintro w' ⟨s0, s1, s2, s3, s4, s5, s6⟩
            go_simp
            with_reducible rfl
          rotate_left
          · simp only [Act.put, List.setIfInBounds_toArray, List.set_cons_zero, List.set_cons_succ, i64_w, i32_w]
            rfl
          refine pure_ (i := 22) (N := some 69) (v := ?_) (a' := ?_) #[true, true, true, true, true, true, true, true, true, true, true, true, true, true, true, true, true, true, true, true, true, true, true, true, false, false, false, false, false, false] rfl rfl (by kernel_rfl) (fun _ _ _ h => h) (Or.inl ⟨by rfl, ?_⟩) ?_ ?_
          rotate_left
          · intro w'
            go_simp
            with_reducible rfl
          rotate_left
          · simp only [Act.put, List.setIfInBounds_toArray, List.set_cons_zero, List.set_cons_succ, i64_w, i32_w]
            rfl
          refine take_ (i := 24) (N := some 71) (v := ?_) (a' := ?_) #[true, true, true, true, true, true, true, true, true, true, true, true, true, true, true, true, true, true, true, true, true, true, true, true, true, false, false, false, false, false] rfl rfl (by kernel_rfl) (fun _ _ _ h => h) (Or.inl ⟨by rfl, ?_⟩) hHeld ?_ ?_
          rotate_left
          · rintro w' ⟨s0, s1, s2, s3, s4, s5, s6⟩
            go_simp
            with_reducible rfl
          rotate_left
          · simp only [Act.put, List.setIfInBounds_toArray, List.set_cons_zero, List.set_cons_succ, i64_w, i32_w]
            rfl
          refine pure_ (i := 25) (N := some 72) (v := ?_) (a' := ?_) #[true, true, true, true, true, true, true, true, true, true, true, true, true, true, true, true, true, true, true, true, true, true, true, true, true, true, false, false, false, false] rfl rfl (by kernel_rfl) (fun _ _ _ h => h) (Or.inl ⟨by rfl, ?_⟩) ?_ ?_
          rotate_left
          · intro w'
            go_simp
            with_reducible rfl
          rotate_left
          · simp only [Act.put, List.setIfInBounds_toArray, List.set_cons_zero, List.set_cons_succ, i64_w, i32_w]
            rfl
          refine one_ (i := 26) (N := some 73) #[true, true, true, true, true, true, true, true, true, true, true, true, true, true, true, true, true, true, true, true, true, true, true, true, true, true, true, false, false, false] rfl rfl (by kernel_rfl) (by decide) (fun K hK => ?_)
          refine goes_ Try.func62 (by kernel_rfl) rfl #[.agg #[.int .i64 RW, .int .i64 RH, .slice AR RP.length cR], .int .i64 (wrap64 (wrap64 (x - dx) + d.f0)), .int .i64 (wrap64 (wrap64 (y - dy) + d.f1))] (by rfl) rfl rfl (by simp only [List.map_toArray, List.map_cons, List.map_nil]; rfl) ?_
          with_reducible refine (HG2.out _ HB3.out (x - dx + d.f0) (y - dy + d.f1) _ _ (by simp (disch := omega) only [wrap_id]) (by simp (disch := omega) only [wrap_id])).mono ?_
          rintro e W4 ⟨rfl, hb⟩
          refine ⟨_, rfl, ?_⟩
          have HB4 := Aside0.mk (below_then HB3.out HB3.out.size hb)
          have HD4 := Aside0.mk (below_then HD3.out HD3.out.size hb)
          have HY4 := Aside0.mk (blk_below HY.out hb)
          clear hb
          refine hK.out _ _ ⟨(blk_cell (blk_below HZ.out HB4.out) 8).trans rfl, (blk_cell (blk_below HZ.out HB4.out) 9).trans rfl, (blk_cell (blk_below HZ.out HB4.out) 10).trans rfl, (blk_cell (blk_below HZ.out HB4.out) 1).trans rfl, (blk_cell (blk_below HZ.out HB4.out) 2).trans rfl, (blk_cell (HY4.out) 0).trans rfl, (blk_cell (HY4.out) 1).trans rfl⟩ (fun hHeld => ?_)
          clear hK K
          refine norm_ (a' := ?_) ?_ ?_
          rotate_left
          · show Act.put _ (some 73) _ = _
            simp only [Act.put, List.setIfInBounds_toArray, List.set_cons_zero, List.set_cons_succ, i64_w, i32_w]
            rfl
          refine pure_ (i := 27) (N := some 74) (v := ?_) (a' := ?_) #[true, true, true, true, true, true, true, true, true, true, true, true, true, true, true, true, true, true, true, true, true, true, true, true, true, true, true, true, false, false] rfl rfl (by kernel_rfl) (fun _ _ _ h => h) (Or.inl ⟨by rfl, ?_⟩) ?_ ?_
          rotate_left
          · intro w'
            go_simp
            with_reducible rfl
          rotate_left
          · simp only [Act.put, List.setIfInBounds_toArray, List.set_cons_zero, List.set_cons_succ, i64_w, i32_w]
            rfl
          refine pure_ (i := 28) (N := some 75) (v := ?_) (a' := ?_) #[true, true, true, true, true, true, true, true, true, true, true, true, true, true, true, true, true, true, true, true, true, true, true, true, true, true, true, true, true, false] rfl rfl (by kernel_rfl) (fun _ _ _ h => h) (Or.inl ⟨by rfl, ?_⟩) ?_ ?_
          rotate_left
          · intro w'
            go_simp
            with_reducible rfl
          rotate_left
          · simp only [Act.put, List.setIfInBounds_toArray, List.set_cons_zero, List.set_cons_succ, i64_w, i32_w]
            rfl
          refine pure_ (i := 29) (N := some 7) (v := ?_) (a' := ?_) #[true, true, true, true, true, true, true, true, true, true, true, true, true, true, true, true, true, true, true, true, true, true, true, true, true, true, true, true, true, true] rfl rfl (by kernel_rfl) (fun _ _ _ h => h) (Or.inl ⟨by rfl, ?_⟩) ?_ ?_
          rotate_left
          · intro w'
            go_simp
            with_reducible rfl
          rotate_left
          · simp only [Act.put, List.setIfInBounds_toArray, List.set_cons_zero, List.set_cons_succ, i64_w, i32_w]
            rfl
          refine done_ (by kernel_rfl) ?_
          obtain ⟨pv, hpv⟩ : ∃ q, px RW RH RP (x - dx + d.f0) (y - dy + d.f1) = q := ⟨_, rfl⟩
          rw [hpv] at HQ2 HS hv hns hnt ⊢
          clear hpv
          go_wp2_with (fail)
          go_roundw
          case rel => exact ⟨k + 1, 2 * nv + pv, by omega, by first | rfl | (simp (disch := omega) only [wrap_id]), by go_num, hns, hnt, ⟨HS.out.2.1⟩, HQ2, HB4, HD4⟩
          case measure => simp [intOf]; omega
        · have hQ := HQ.out
          rw [List.drop_of_length_le (by omega)] at hQ
          simp only [ctxN] at hQ
          subst hQ
          go_wp2_with (fail)
          go_ret
          exact ⟨rfl, HB2.out⟩
end Go.Proofs.Ytkfejicdjpffcaa.Rcx
namespace Go.Proofs.Ytkfejicdjpffcaa.Rty
open Go Go.RowKit Go.Proofs.YtkfejicdjpffcaaW.PrintWords Go.Proofs.YtkfejicdjpffcaaW.PrintLast Go.Proofs.YtkfejicdjpffcaaW.PrintMore Go.Proofs.Ytkfejicdjpffcaa.U Go.Proofs.Ytkfejicdjpffcaa.Aid Go.Proofs.Ytkfejicdjpffcaa.HandAid Go.Proofs.Ytkfejicdjpffcaa.Mods Go.Proofs.Ytkfejicdjpffcaa.Rpx Go.Proofs.Ytkfejicdjpffcaa.Rfl Go.Proofs.Ytkfejicdjpffcaa.Rcx
/-- A region at g: its cells, its two bitmaps' rows. -/
structure Reg (w : World) (g : Nat) (t dx dy : Int) (ty : Bool) (kd W H : Int) (AB : Option Addr) (cB : Nat) (P : List Int) (RW RH : Int) (AR : Option Addr) (cR : Nat) (RP : List Int) : Prop where
  z : w.heap[g]? = some (.cells (regc t dx dy ty kd W H (.slice AB P.length cB) RW RH (.slice AR RP.length cR)) 109 (0, 0))
  cb : Kd.C (Kd.int .u8) w AB P.length P
  hcb : P.length ≤ cB
  cr : Kd.C (Kd.int .u8) w AR RP.length RP
  hcr : RP.length ≤ cR
  b : Bm W H P
  r : Bm RW RH RP
  t01 : t = 0 ∨ t = 1
  dx_ : -100000 ≤ dx ∧ dx ≤ 100000
  dy_ : -100000 ≤ dy ∧ dy ≤ 100000
section
variable {w w' : World} {g : Nat} {t dx dy : Int} {ty : Bool} {kd W H : Int} {AB : Option Addr} {cB : Nat} {P : List Int} {RW RH : Int} {AR : Option Addr} {cR : Nat} {RP : List Int}
theorem Reg.below (R : Reg w g t dx dy ty kd W H AB cB P RW RH AR cR RP) (hb : Below w.heap.size w w') : Reg w' g t dx dy ty kd W H AB cB P RW RH AR cR RP :=
  ⟨blk_below R.z hb, Kd.C_below R.cb hb, R.hcb, Kd.C_below R.cr hb, R.hcr, R.b, R.r, R.t01, R.dx_, R.dy_⟩
theorem Reg.flat (R : Reg w g t dx dy ty kd W H AB cB P RW RH AR cR RP) (x y : Int) (hx : -100000 ≤ x ∧ x ≤ 100000) (hy : -100000 ≤ y ∧ y ≤ 100000) :
    Calls Try.prog 60 #[.pointer (some ⟨g, 0, none⟩), .int .i64 x, .int .i64 y] w fun e w' => e = .returned (.tuple #[.int .u8 (flatP RW RH RP (x - dx) (y - dy)).1, .bool (flatP RW RH RP (x - dx) (y - dy)).2]) ∧ Below w.heap.size w w' :=
  flat_calls w g t dx dy ty kd W H _ RW RH AR cR RP x y R.z R.cr R.hcr R.r hx hy R.dx_ R.dy_
theorem Reg.context (R : Reg w g t dx dy ty kd W H AB cB P RW RH AR cR RP) (x y : Int) (hx : -100000 ≤ x ∧ x ≤ 100000) (hy : -100000 ≤ y ∧ y ≤ 100000) :
    Calls Try.prog 61 #[.pointer (some ⟨g, 0, none⟩), .int .i64 x, .int .i64 y] w fun e w' => e = .returned (.int .i64 (ctxP t dx dy W H P RW RH RP x y)) ∧ Below w.heap.size w w' :=
  context_calls w g t dx dy ty kd W H AB cB P RW RH AR cR RP x y R.z R.cb R.hcb R.cr R.hcr R.b R.r R.t01 hx hy R.dx_ R.dy_
theorem Reg.at_ (R : Reg w g t dx dy ty kd W H AB cB P RW RH AR cR RP) (x y : Int) :
    Calls Try.prog 62 #[.agg #[.int .i64 W, .int .i64 H, .slice AB P.length cB], .int .i64 x, .int .i64 y] w fun e w' => e = .returned (.int .u8 (px W H P x y)) ∧ Below w.heap.size w w' :=
  refine_grid_at.calls W H AB cB P _ _ _ _ R.cb R.hcb (grid_eq R.b _ _)
end
set_option maxHeartbeats 2000000 in
set_option maxRecDepth 100000 in
theorem typical_calls (w : World) (g : Nat) (t dx dy : Int) (ty : Bool) (kd W H : Int) (AB : Option Addr) (cB : Nat) (P : List Int) (RW RH : Int) (AR : Option Addr) (cR : Nat) (RP : List Int) (y : Int) (hR : Reg w g t dx dy ty kd W H AB cB P RW RH AR cR RP) (hy : -100000 ≤ y ∧ y ≤ 100000) :
    Calls Try.prog 59 #[.pointer (some ⟨g, 0, none⟩), .int .i64 y] w fun e w' => e = .returned (.bool (rowP dx dy W H P RW RH RP y W.toNat 0)) ∧ Below w.heap.size w w' := by
  have HR := Aside0.mk hR
  have hu1 := Try.underlying109
  have hu2 := Try.underlying107
  have hu3 := Try.underlying23
  have hw := hR.b.w
  have hk5 : w.cell? ⟨g, 5, none⟩ = some (.int .i64 W) := (blk_cell hR.z 5).trans rfl
  have HB0 := Aside0.mk (Below.refl w.heap.size w)
  clear hR
  obtain ⟨R, hQ⟩ : ∃ r, rowP dx dy W H P RW RH RP y W.toNat 0 = r := ⟨_, rfl⟩
  rw [hQ]
  go_enter Try.func59, Try.ntmps59
  go_wp2_with (fail)
  go_loopw [13] (fun i wr => ∃ k : Nat, k ≤ W.toNat ∧ i = .int .i64 k ∧ rowP dx dy W H P RW RH RP y (W.toNat - k) k = R ∧ Aside0 (Below w.heap.size w wr)) (fun i _ => W.toNat - (intOf i).toNat)
  case atStart => exact ⟨0, Nat.zero_le _, rfl, hQ, HB0⟩
  clear hk5 HB0 hQ
  case round =>
    obtain ⟨k, hk, rfl, hQ, HB1⟩ := hrel
    by_cases hlt : k < W.toNat
    · have hltk : (k : Int) < W := by omega
      rw [show W.toNat - k = (W.toNat - (k + 1)) + 1 by omega] at hQ
      unfold rowP at hQ
      go_wp2_with (fail)
      refine ((HR.out.below HB1.out).flat (k : Int) y (by omega) hy).mono ?_
      rintro e W2 ⟨rfl, hb⟩
      have HB2 := Aside0.mk (below_then HB1.out HB1.out.size hb)
      clear hb HB1
      obtain ⟨⟨c, is⟩, hF⟩ : ∃ r, flatP RW RH RP ((k : Int) - dx) (y - dy) = r := ⟨_, rfl⟩
      rw [hF] at hQ ⊢
      clear hF
      simp only at hQ ⊢
      cases is
      · rw [if_neg (by decide)] at hQ
        have HQ := Aside0.mk hQ
        clear hQ
        go_wp2_with (fail)
        exact ⟨⟨k + 1, by omega, by go_num, HQ.out, HB2⟩, by simp [intOf]; omega⟩
      · rw [if_pos rfl] at hQ
        have hR2 := HR.out.below HB2.out
        have q5 : W2.cell? ⟨g, 5, none⟩ = some (.int .i64 W) := (blk_cell hR2.z 5).trans rfl
        have q6 : W2.cell? ⟨g, 6, none⟩ = some (.int .i64 H) := (blk_cell hR2.z 6).trans rfl
        have q7 : W2.cell? ⟨g, 7, none⟩ = some (.slice AB P.length cB) := (blk_cell hR2.z 7).trans rfl
        have HR2 := Aside0.mk hR2
        have HQ := Aside0.mk hQ
        clear hR2 hQ
        go_wp2_with (fail)
        refine (HR2.out.at_ (k : Int) y).mono ?_
        rintro e W3 ⟨rfl, hb⟩
        have HB3 := Aside0.mk (below_then HB2.out HB2.out.size hb)
        clear hb
        have hQ := HQ.out
        clear HQ q5 q6 q7
        obtain ⟨pv, hpv⟩ : ∃ q, px W H P (k : Int) y = q := ⟨_, rfl⟩
        rw [hpv] at hQ ⊢
        clear hpv
        by_cases he : pv = c
        · have e1 : (c != pv) = false := by simp [he]
          rw [if_pos he] at hQ
          have HQ := Aside0.mk hQ
          clear hQ he
          go_wp2_with (fail)
          exact ⟨⟨k + 1, by omega, by go_num, HQ.out, HB3⟩, by simp [intOf]; omega⟩
        · have e1 : (c != pv) = true := bne_iff_ne.mpr (fun h => he h.symm)
          rw [if_neg he] at hQ
          subst hQ
          clear he
          go_wp2_with (fail)
          go_ret
          exact ⟨rfl, HB3.out⟩
    · obtain rfl : k = W.toNat := by omega
      rw [Nat.sub_self] at hQ
      have hQ2 : true = R := hQ
      subst hQ2
      go_wp2_with (fail)
      go_ret
      exact ⟨rfl, HB1.out⟩
set_option maxHeartbeats 1000000 in
set_option maxRecDepth 100000 in
theorem newRegion_calls (w : World) (t dx dy : Int) (ty : Bool) (kd W H : Int) (vb : Value) (RW RH : Int) (vr : Value) (AB : Option Addr) (nB cB : Nat) (AR : Option Addr) (nR cR : Nat) (hvb : vb = .slice AB nB cB) (hvr : vr = .slice AR nR cR) :
    Calls Try.prog 58 #[.agg #[.int .i64 t, .int .i64 dx, .int .i64 dy, .bool ty, .int .i64 kd], .int .i64 W, .int .i64 H, vb, .agg #[.int .i64 RW, .int .i64 RH, vr]] w fun e w' => ∃ g, e = .returned (.pointer (some ⟨g, 0, none⟩)) ∧ w.heap.size ≤ g ∧ w'.heap[g]? = some (.cells (regc t dx dy ty kd W H vb RW RH vr) 109 (0, 0)) ∧ Below w.heap.size w w' := by
  subst hvb hvr
  have hu1 := Try.underlying109
  have hu2 := Try.underlying107
  have hu3 := Try.underlying23
  have hu4 := Try.underlying31
  go_enter Try.func58, Try.ntmps58
  go_wp2_with (fail)
  go_ret
  refine ⟨_, rfl, ?_, ?_, below_alloc (below_alloc (below_alloc (Below.refl _ _) _) _) _⟩
  · omega
  · have h := heap_new ((w.alloc (.cells #[.int .i64 t, .int .i64 dx, .int .i64 dy, .bool ty, .int .i64 kd] 23)).alloc (.cells #[.int .i64 RW, .int .i64 RH, .slice AR nR cR] 31)) (.cells (regc t dx dy ty kd W H (.slice AB nB cB) RW RH (.slice AR nR cR)) 109)
    rw [World.size_alloc, World.size_alloc] at h
    exact h
end Go.Proofs.Ytkfejicdjpffcaa.Rty
namespace Go.Proofs.Ytkfejicdjpffcaa.Rev
open Go Go.RowKit Go.Proofs.YtkfejicdjpffcaaW.PrintWords Go.Proofs.YtkfejicdjpffcaaW.PrintLast Go.Proofs.YtkfejicdjpffcaaW.PrintMore Go.Proofs.Ytkfejicdjpffcaa.U Go.Proofs.Ytkfejicdjpffcaa.Aid Go.Proofs.Ytkfejicdjpffcaa.HandAid Go.Proofs.Ytkfejicdjpffcaa.Cod1 Go.Proofs.Ytkfejicdjpffcaa.Cod2 Go.Proofs.Ytkfejicdjpffcaa.Cod3 Go.Proofs.Ytkfejicdjpffcaa.Mod Go.Proofs.Ytkfejicdjpffcaa.Enc Go.Proofs.Ytkfejicdjpffcaa.Mods Go.Proofs.Ytkfejicdjpffcaa.EncAt Go.Proofs.Ytkfejicdjpffcaa.Put Go.Proofs.Ytkfejicdjpffcaa.End Go.Proofs.Ytkfejicdjpffcaa.Snc Go.Proofs.Ytkfejicdjpffcaa.Pse Go.Proofs.Ytkfejicdjpffcaa.Rpx Go.Proofs.Ytkfejicdjpffcaa.Rva
/-- What a region is coded by: options, sides, the reference, the base of its contexts. -/
structure RQ where
  t : Int
  dx : Int
  dy : Int
  ty : Bool
  W : Int
  H : Int
  RW : Int
  RH : Int
  RP : List Int
  base : Int
def RQ.ctx (q : RQ) (P : List Int) (x y : Int) : Int := ctxP q.t q.dx q.dy q.W q.H P q.RW q.RH q.RP x y
def RQ.flat (q : RQ) (x y : Int) : Int × Bool := flatP q.RW q.RH q.RP (x - q.dx) (y - q.dy)
def RQ.typ (q : RQ) (P : List Int) (y : Int) : Bool := q.ty && rowP q.dx q.dy q.W q.H P q.RW q.RH q.RP y q.W.toNat 0
/-- The events of a row, from pixel i on. -/
def evX (q : RQ) (P : List Int) (y : Int) (typ : Bool) : Nat → Nat → List S72
  | 0, _ => []
  | d + 1, i => if typ = true ∧ (q.flat i y).2 = true then evX q P y typ d (i + 1) else ⟨q.base + q.ctx P i y, px q.W q.H P i y⟩ :: evX q P y typ d (i + 1)
def bit1 (b : Bool) : Int := if b = true then 1 else 0
/-- The event ahead of a row. -/
def evH (q : RQ) (P : List Int) (y : Int) : List S72 := if q.ty = true then [⟨q.base + ctxs q.t, bit1 (q.typ P y)⟩] else []
/-- The events of the rows from j on. -/
def evY (q : RQ) (P : List Int) : Nat → Nat → List S72
  | 0, _ => []
  | d + 1, j => evH q P j ++ (evX q P j (q.typ P j) q.W.toNat 0 ++ evY q P d (j + 1))
/-- The events of a region. -/
def evR (q : RQ) (P : List Int) : List S72 := evY q P q.H.toNat 0
theorem evX_len (q : RQ) (P : List Int) (y : Int) (typ : Bool) : ∀ d i, (evX q P y typ d i).length ≤ d
  | 0, i => Nat.le_refl _
  | d + 1, i => by
    unfold evX
    have := evX_len q P y typ d (i + 1)
    split
    · omega
    · rw [List.length_cons]; omega
theorem evH_len (q : RQ) (P : List Int) (y : Int) : (evH q P y).length ≤ 1 := by
  unfold evH
  split <;> simp
theorem evY_len (q : RQ) (P : List Int) : ∀ d j, (evY q P d j).length ≤ d * (q.W.toNat + 1)
  | 0, j => Nat.zero_le _
  | d + 1, j => by
    unfold evY
    have h1 := evY_len q P d (j + 1)
    have h2 := evX_len q P j (q.typ P j) q.W.toNat 0
    have h3 := evH_len q P j
    rw [List.length_append, List.length_append, Nat.succ_mul]
    omega
theorem evR_len (q : RQ) (P : List Int) (hw : q.W ≤ 200) (hh : q.H ≤ 200) : (evR q P).length ≤ 40200 := by
  have h1 := evY_len q P q.H.toNat 0
  have h2 : q.H.toNat * (q.W.toNat + 1) ≤ 200 * 201 := Nat.mul_le_mul (by omega) (by omega)
  unfold evR
  omega
/-- Events are put, one behind the other. -/
def putsI (s : ES) (l : List S72) : ES := l.foldl (fun s x => s.putI x.f0 x.f1) s
theorem putsI_cons (s : ES) (x : S72) (l : List S72) : putsI s (x :: l) = putsI (s.putI x.f0 x.f1) l := rfl
theorem putsI_ok : ∀ (l : List S72) (s : ES), s.ok → (putsI s l).ok
  | [], s, h => h
  | x :: l, s, h => putsI_ok l _ (ES.putI_ok h _ _)
theorem putsI_out : ∀ (l : List S72) (s : ES), (putsI s l).out.length ≤ s.out.length + 4 * l.length
  | [], s => by simp [putsI]
  | x :: l, s => by
    have h1 := putsI_out l (s.putI x.f0 x.f1)
    have h2 := (ES.putI_len s x.f0 x.f1).1
    rw [putsI_cons, List.length_cons]
    omega
theorem putsI_E : ∀ (l : List S72) (s : ES), l.all (goodL s.st.length) = true → putsE s l = (putsI s l, 0)
  | [], s, _ => rfl
  | x :: l, s, h => by
    rw [List.all_cons, Bool.and_eq_true] at h
    unfold putsE
    rw [if_pos (show s.err x.f0 x.f1 = 0 from if_pos h.1), putsI_cons]
    exact putsI_E l _ (by rw [(ES.putI_len s x.f0 x.f1).2.2]; exact h.2)
theorem ctxP_range {W H RW RH : Int} {P RP : List Int} (b : Bm W H P) (br : Bm RW RH RP) (t dx dy x y : Int) (ht : t = 0 ∨ t = 1) : 0 ≤ ctxP t dx dy W H P RW RH RP x y ∧ ctxP t dx dy W H P RW RH RP x y < ctxs t := by
  have h1 := ctxN_range b x y (news t) 0 (Int.le_refl _)
  have h2 := ctxN_range br (x - dx) (y - dy) besides (ctxN W H P x y (news t) 0) h1.1
  have e5 : (2 : Int) ^ besides.length = 32 := rfl
  rw [e5] at h2
  unfold ctxP ctxs
  rcases ht with rfl | rfl
  · have e : (2 : Int) ^ (news 0).length = 16 := rfl
    rw [e] at h1
    rw [if_pos rfl]
    omega
  · have e : (2 : Int) ^ (news 1).length = 4 := rfl
    rw [e] at h1
    rw [if_neg (by decide)]
    omega
theorem goodL_iff {n : Nat} {x : S72} : goodL n x = true ↔ (0 ≤ x.f0 ∧ x.f0 < n ∧ (x.f1 = 0 ∨ x.f1 = 1)) := by
  unfold goodL
  simp only [Bool.and_eq_true, Bool.or_eq_true, decide_eq_true_eq]
  exact and_assoc
theorem evX_good {q : RQ} {P : List Int} {n : Nat} (b : Bm q.W q.H P) (br : Bm q.RW q.RH q.RP) (ht : q.t = 0 ∨ q.t = 1) (hf : okF n q.base q.t = true) (y : Int) (typ : Bool) : ∀ d i, (evX q P y typ d i).all (goodL n) = true
  | 0, i => rfl
  | d + 1, i => by
    unfold evX
    split
    · exact evX_good b br ht hf y typ d (i + 1)
    · rw [List.all_cons, evX_good b br ht hf y typ d (i + 1), Bool.and_true, goodL_iff]
      have h1 := okF_iff.1 hf
      have h2 := ctxP_range b br q.t q.dx q.dy (i : Int) y ht
      have h3 := px_01 b (i : Int) y
      show 0 ≤ q.base + ctxP q.t q.dx q.dy q.W q.H P q.RW q.RH q.RP i y ∧ q.base + ctxP q.t q.dx q.dy q.W q.H P q.RW q.RH q.RP i y < n ∧ (px q.W q.H P i y = 0 ∨ px q.W q.H P i y = 1)
      omega
theorem evY_good {q : RQ} {P : List Int} {n : Nat} (b : Bm q.W q.H P) (br : Bm q.RW q.RH q.RP) (ht : q.t = 0 ∨ q.t = 1) (hf : okF n q.base q.t = true) : ∀ d j, (evY q P d j).all (goodL n) = true
  | 0, j => rfl
  | d + 1, j => by
    unfold evY
    rw [List.all_append, List.all_append, evY_good b br ht hf d (j + 1), evX_good b br ht hf, Bool.and_true, Bool.and_true]
    unfold evH
    split
    · rw [List.all_cons, List.all_nil, Bool.and_true, goodL_iff]
      have h1 := okF_iff.1 hf
      have hr := ctxs_range q.t
      refine ⟨by show 0 ≤ q.base + ctxs q.t; omega, by show q.base + ctxs q.t < n; omega, ?_⟩
      show bit1 _ = 0 ∨ bit1 _ = 1
      unfold bit1
      split
      · exact .inr rfl
      · exact .inl rfl
    · rfl
/-- What Put answers. -/
def putErr (q : RQ) (kd : Int) (P : List Int) (n : Nat) : Int := if okO q.t q.dx q.dy kd = true then (if okB q.W q.H P = true ∧ okB q.RW q.RH q.RP = true then (if okF n q.base q.t = true then 0 else 2) else 30) else 2
def putR (q : RQ) (kd : Int) (P : List Int) (s : ES) : ES × Int := (if putErr q kd P s.st.length = 0 then putsI s (evR q P) else s, putErr q kd P s.st.length)
end Go.Proofs.Ytkfejicdjpffcaa.Rev
namespace Go.Proofs.Ytkfejicdjpffcaa.Rpt
open Go Go.RowKit Go.Proofs.YtkfejicdjpffcaaW.PrintWords Go.Proofs.YtkfejicdjpffcaaW.PrintLast Go.Proofs.YtkfejicdjpffcaaW.PrintMore Go.Proofs.Ytkfejicdjpffcaa.U Go.Proofs.Ytkfejicdjpffcaa.Aid Go.Proofs.Ytkfejicdjpffcaa.HandAid Go.Proofs.Ytkfejicdjpffcaa.Cod1 Go.Proofs.Ytkfejicdjpffcaa.Cod2 Go.Proofs.Ytkfejicdjpffcaa.Cod3 Go.Proofs.Ytkfejicdjpffcaa.Mod Go.Proofs.Ytkfejicdjpffcaa.NewRef Go.Proofs.Ytkfejicdjpffcaa.Enc Go.Proofs.Ytkfejicdjpffcaa.Mods Go.Proofs.Ytkfejicdjpffcaa.EncAt Go.Proofs.Ytkfejicdjpffcaa.Put Go.Proofs.Ytkfejicdjpffcaa.End Go.Proofs.Ytkfejicdjpffcaa.Snc Go.Proofs.Ytkfejicdjpffcaa.RefAt Go.Proofs.Ytkfejicdjpffcaa.RefPut Go.Proofs.Ytkfejicdjpffcaa.RefEnd Go.Proofs.Ytkfejicdjpffcaa.Pse Go.Proofs.Ytkfejicdjpffcaa.Pwk Go.Proofs.Ytkfejicdjpffcaa.Rpx Go.Proofs.Ytkfejicdjpffcaa.Rva Go.Proofs.Ytkfejicdjpffcaa.Rfl Go.Proofs.Ytkfejicdjpffcaa.Rcx Go.Proofs.Ytkfejicdjpffcaa.Rty Go.Proofs.Ytkfejicdjpffcaa.Rev
theorem _root_.Go.Proofs.Ytkfejicdjpffcaa.Pwk.PW.rebase {At : World → (Nat → Prop) → Nat → ES → Prop} [EnL At] {w W8 V : World} {S S8 : Nat → Prop} {g : Nat} {s : ES} (h : PW At W8 S8 g s V) (hm : Mods w W8 S) (hsub : ∀ k, S8 k → S k ∨ w.heap.size ≤ k) : PW At w S g s V :=
  ⟨EnL.mono h.e (fun k hk => ⟨hk.1.elim (hsub k) (fun h => .inr (Nat.le_trans hm.size h)), hk.2⟩), hm.then_ h.m hsub, h.ok⟩
theorem _root_.Go.Proofs.Ytkfejicdjpffcaa.Pwk.PW.put_eq {w W : World} {S : Nat → Prop} {g : Nat} {s : ES} (H : PW EncAt w S g s W) (hlen : s.out.length ≤ 1099511627776) (i bit : Int) {i' bit' : Int} (hi : i' = i) (hb : bit' = bit) :
    Calls Try.prog 28 #[.pointer (some ⟨g, 0, none⟩), .int .i64 i', .int .i64 bit'] W fun e W' => e = .returned (.int .i64 (s.err i bit)) ∧ PW EncAt w S g (s.putI i bit) W' := by
  subst hi hb
  exact H.put hlen _ _
theorem put_none (s : ES) : s.err (-1) 0 = 2 ∧ s.putI (-1) 0 = s := by
  have h : s.good (-1) 0 = false := by simp [ES.good]
  unfold ES.err ES.putI
  rw [h]
  exact ⟨rfl, rfl⟩
set_option maxHeartbeats 8000000 in
set_option maxRecDepth 100000 in
theorem rput_calls (w : World) (S : Nat → Prop) (g : Nat) (s : ES) (base t dx dy : Int) (ty : Bool) (kd W H : Int) (AB : Option Addr) (cB : Nat) (P : List Int) (RW RH : Int) (AR : Option Addr) (cR : Nat) (RP : List Int) (hE : EncAt w S g s) (hS : ∀ k, S k → k < w.heap.size) (hok : s.ok) (hlen : s.out.length ≤ 1000000000) (hdx : -9223372036854775808 ≤ dx ∧ dx ≤ 9223372036854775807) (hdy : -9223372036854775808 ≤ dy ∧ dy ≤ 9223372036854775807) (hB : ∀ V, Mods w V S → Kd.C (Kd.int .u8) V AB P.length P) (hcB : P.length ≤ cB) (hA : ∀ V, Mods w V S → Kd.C (Kd.int .u8) V AR RP.length RP) (hcR : RP.length ≤ cR) (hbP : Bytes P) (hbR : Bytes RP) (q : RQ) (hq : q = ⟨t, dx, dy, ty, W, H, RW, RH, RP, base⟩) (R : ES × Int) (hR : putR q kd P s = R) :
    Calls Try.prog 25 #[.pointer (some ⟨g, 0, none⟩), .int .i64 base, .agg #[.int .i64 t, .int .i64 dx, .int .i64 dy, .bool ty, .int .i64 kd], .agg #[.int .i64 W, .int .i64 H, .slice AB P.length cB], .agg #[.int .i64 RW, .int .i64 RH, .slice AR RP.length cR]] w fun e V => e = .returned (.int .i64 R.2) ∧ PW EncAt w S g R.1 V := by
  have HB := Aside0.mk hB
  have HA := Aside0.mk hA
  have HS := Aside0.mk hS
  have HbP := Aside0.mk hbP
  have HbR := Aside0.mk hbR
  have HE := Aside0.mk hE
  have HQF := Aside0.mk (show ∀ x y, q.flat x y = flatP RW RH RP (x - dx) (y - dy) from fun x y => by rw [hq]; rfl)
  have HQC := Aside0.mk (show ∀ x y, (⟨q.base + q.ctx P x y, px q.W q.H P x y⟩ : S72) = ⟨base + ctxP t dx dy W H P RW RH RP x y, px W H P x y⟩ from fun x y => by rw [hq]; rfl)
  have HQQ := Aside0.mk hq
  have hst : s.st.length ≤ 8192 := hok.m.2.1
  have hmP : P.length ≤ 9223372036854775807 := Kd.C_max (hB w (Mods.refl w S))
  have hmR : RP.length ≤ 9223372036854775807 := Kd.C_max (hA w (Mods.refl w S))
  have HOK := Aside0.mk hok
  unfold putR at hR
  have hE1 : putErr q kd P s.st.length = if okO t dx dy kd = true then (if okB W H P = true ∧ okB RW RH RP = true then (if okF s.st.length base t = true then 0 else 2) else 30) else 2 := by rw [hq]; rfl
  rw [hE1] at hR
  have HR := Aside0.mk hR
  have hu1 := Try.underlying109
  have hu2 := Try.underlying107
  have hu3 := Try.underlying23
  have hu4 := Try.underlying31
  have hu5 := Try.underlying45
  clear hB hA hS hbP hbR hE hok hR hE1 hq
  go_enter Try.func25, Try.ntmps25
  go_wp2_with (fail)
  obtain ⟨b9, hb9⟩ : ∃ x, w.heap.size + 1 + 1 = x := ⟨_, rfl⟩
  obtain ⟨b8, hb8⟩ : ∃ x, w.heap.size + 1 = x := ⟨_, rfl⟩
  obtain ⟨b7, hb7⟩ : ∃ x, w.heap.size = x := ⟨_, rfl⟩
  obtain ⟨W1, hW1⟩ : ∃ x, ((w.alloc (.cells #[.int .i64 t, .int .i64 dx, .int .i64 dy, .bool ty, .int .i64 kd] 23)).alloc (.cells #[.int .i64 W, .int .i64 H, .slice AB P.length cB] 31)).alloc (.cells #[.int .i64 RW, .int .i64 RH, .slice AR RP.length cR] 31) = x := ⟨_, rfl⟩
  have HB1 := Aside0.mk (show Below w.heap.size w W1 from hW1 ▸ below_alloc (below_alloc (below_alloc (Below.refl _ _) _) _) _)
  have HZ9 := Aside0.mk (show W1.heap[b9]? = some (.cells #[.int .i64 RW, .int .i64 RH, .slice AR RP.length cR] 31 (0, 0)) by
    have h := heap_new ((w.alloc (.cells #[.int .i64 t, .int .i64 dx, .int .i64 dy, .bool ty, .int .i64 kd] 23)).alloc (.cells #[.int .i64 W, .int .i64 H, .slice AB P.length cB] 31)) (.cells #[.int .i64 RW, .int .i64 RH, .slice AR RP.length cR] 31)
    rw [World.size_alloc, World.size_alloc, hb9, hW1] at h
    exact h)
  have HZ8 := Aside0.mk (show W1.heap[b8]? = some (.cells #[.int .i64 W, .int .i64 H, .slice AB P.length cB] 31 (0, 0)) by
    have h := heap_new (w.alloc (.cells #[.int .i64 t, .int .i64 dx, .int .i64 dy, .bool ty, .int .i64 kd] 23)) (.cells #[.int .i64 W, .int .i64 H, .slice AB P.length cB] 31)
    rw [World.size_alloc, hb8] at h
    rw [← hW1]
    exact blk_alloc h _)
  have HZ7 := Aside0.mk (show W1.heap[b7]? = some (.cells #[.int .i64 t, .int .i64 dx, .int .i64 dy, .bool ty, .int .i64 kd] 23 (0, 0)) by
    have h := heap_new w (.cells #[.int .i64 t, .int .i64 dx, .int .i64 dy, .bool ty, .int .i64 kd] 23)
    rw [hb7] at h
    rw [← hW1]
    exact blk_alloc (blk_alloc h _) _)
  have HLT := Aside0.mk (show b7 < W1.heap.size ∧ b8 < W1.heap.size ∧ b9 < W1.heap.size from ⟨blk_lt HZ7.out, blk_lt HZ8.out, blk_lt HZ9.out⟩)
  have HGE := Aside0.mk (show w.heap.size ≤ b7 ∧ w.heap.size ≤ b8 ∧ w.heap.size ≤ b9 by omega)
  rw [hb9, hb8, hb7, hW1]
  clear hb9 hb8 hb7 hW1
  have HP1 := Aside0.mk (PW.start (At := EncAt) (HE.out.below HB1.out) (fun k hk => Nat.lt_of_lt_of_le (HS.out k hk) HB1.out.size) HOK.out)
  have hp1 := HP1.out.put (by omega) (-1) 0
  rw [(put_none s).1, (put_none s).2] at hp1
  refine hp1.mono ?_
  rintro e W2 ⟨rfl, hP⟩
  have HM2 := Aside0.mk ((Mods.of_below HB1.out S).then_ hP.m (fun k hk => .inl hk))
  have HP2 := Aside0.mk hP
  have HZ7 := Aside0.mk (blk_mods HZ7.out hP.m (fun hk => by have := HS.out _ hk; have := HGE.out; omega))
  have HZ8 := Aside0.mk (blk_mods HZ8.out hP.m (fun hk => by have := HS.out _ hk; have := HGE.out; omega))
  have HZ9 := Aside0.mk (blk_mods HZ9.out hP.m (fun hk => by have := HS.out _ hk; have := HGE.out; omega))
  clear hP hp1
  have q0 : W2.cell? ⟨b7, 0, none⟩ = some (.int .i64 t) := (blk_cell HZ7.out 0).trans rfl
  have q1 : W2.cell? ⟨b7, 1, none⟩ = some (.int .i64 dx) := (blk_cell HZ7.out 1).trans rfl
  have q2 : W2.cell? ⟨b7, 2, none⟩ = some (.int .i64 dy) := (blk_cell HZ7.out 2).trans rfl
  have q3 : W2.cell? ⟨b7, 3, none⟩ = some (.bool ty) := (blk_cell HZ7.out 3).trans rfl
  have q4 : W2.cell? ⟨b7, 4, none⟩ = some (.int .i64 kd) := (blk_cell HZ7.out 4).trans rfl
  go_wp2_with (fail)
  refine (refine_Valid.calls t dx dy ty kd _ _ (valid_eq t dx dy ty kd hdx hdy)).mono ?_
  rintro e W3 ⟨rfl, hb⟩
  have HD3 := Aside0.mk hb
  have HP3 := Aside0.mk (HP2.out.below hb)
  clear hb q0 q1 q2 q3 q4
  have fin : ∀ V, PW EncAt W1 S g s V → PW EncAt w S g s V := fun V hV => hV.rebase (Mods.of_below HB1.out S) (fun k hk => .inl hk)
  have FIN := Aside0.mk fin
  clear fin
  obtain ⟨vo, hvo⟩ : ∃ x, okO t dx dy kd = x := ⟨_, rfl⟩
  have hR := HR.out
  clear HR
  rw [hvo] at hR ⊢
  cases vo
  · rw [if_neg (show ¬ (false = true) by decide), if_neg (show ¬ ((2 : Int) = 0) by decide)] at hR
    subst hR
    clear hvo
    go_wp2_with (fail)
    go_ret
    exact ⟨rfl, FIN.out _ HP3.out⟩
  rw [if_pos (show true = true from rfl)] at hR
  have hoo := okO_iff.1 hvo
  have HOO := Aside0.mk hoo
  have HR := Aside0.mk hR
  have HT := Aside0.mk hoo.1
  clear hvo hR hoo
  have hMk : ∀ V, Below W2.heap.size W2 V → Mods w V S := fun V hV => HM2.out.below hV
  have HMk := Aside0.mk hMk
  clear hMk
  have q0 : W3.cell? ⟨b8, 0, none⟩ = some (.int .i64 W) := (blk_cell (blk_below HZ8.out HD3.out) 0).trans rfl
  have q1 : W3.cell? ⟨b8, 1, none⟩ = some (.int .i64 H) := (blk_cell (blk_below HZ8.out HD3.out) 1).trans rfl
  have q2 : W3.cell? ⟨b8, 2, none⟩ = some (.slice AB P.length cB) := (blk_cell (blk_below HZ8.out HD3.out) 2).trans rfl
  go_wp2_with (fail)
  obtain ⟨K1, hK1⟩ := Ev.rounds (bvalid_ev W H P hmP)
  refine (bitmap_Valid.calls K1 W H AB cB P _ _ (HB.out _ (HMk.out _ HD3.out)) hcB hK1).mono ?_
  rintro e W4 ⟨rfl, hb⟩
  have HD4 := Aside0.mk (below_then HD3.out HD3.out.size hb)
  have HP4 := Aside0.mk (HP3.out.below hb)
  clear hb q0 q1 q2 hK1
  obtain ⟨vb, hvb⟩ : ∃ x, okB W H P = x := ⟨_, rfl⟩
  have hR := HR.out
  clear HR
  rw [hvb] at hR ⊢
  cases vb
  · rw [if_neg (show ¬ (false = true ∧ okB RW RH RP = true) by simp), if_neg (show ¬ ((30 : Int) = 0) by decide)] at hR
    subst hR
    clear hvb
    go_wp2_with (fail)
    go_ret
    exact ⟨rfl, FIN.out _ HP4.out⟩
  have HBM := Aside0.mk (okB_bm HbP.out hvb).1
  clear hvb
  have HR := Aside0.mk hR
  clear hR
  have q0 : W4.cell? ⟨b9, 0, none⟩ = some (.int .i64 RW) := (blk_cell (blk_below HZ9.out HD4.out) 0).trans rfl
  have q1 : W4.cell? ⟨b9, 1, none⟩ = some (.int .i64 RH) := (blk_cell (blk_below HZ9.out HD4.out) 1).trans rfl
  have q2 : W4.cell? ⟨b9, 2, none⟩ = some (.slice AR RP.length cR) := (blk_cell (blk_below HZ9.out HD4.out) 2).trans rfl
  go_wp2_with (fail)
  obtain ⟨K2, hK2⟩ := Ev.rounds (bvalid_ev RW RH RP hmR)
  refine (bitmap_Valid.calls K2 RW RH AR cR RP _ _ (HA.out _ (HMk.out _ HD4.out)) hcR hK2).mono ?_
  rintro e W5 ⟨rfl, hb⟩
  have HD5 := Aside0.mk (below_drew (below_then HD4.out HD4.out.size hb))
  have HP5 := Aside0.mk (HP4.out.below hb)
  have HD5' := Aside0.mk (below_then HD4.out HD4.out.size hb)
  clear hb q0 q1 q2 hK2
  obtain ⟨vr, hvr⟩ : ∃ x, okB RW RH RP = x := ⟨_, rfl⟩
  have hR := HR.out
  clear HR
  rw [hvr] at hR ⊢
  cases vr
  · rw [if_neg (show ¬ (True ∧ false = true) by simp), if_neg (show ¬ ((30 : Int) = 0) by decide)] at hR
    subst hR
    clear hvr
    go_wp2_with (fail)
    go_ret
    exact ⟨rfl, FIN.out _ HP5.out⟩
  have HBR := Aside0.mk (okB_bm HbR.out hvr).1
  clear hvr
  rw [if_pos (show True ∧ true = true from ⟨trivial, rfl⟩)] at hR
  obtain ⟨FT, hFT⟩ : ∃ x, okF s.st.length base t = x := ⟨_, rfl⟩
  have HFT := Aside0.mk (show refine_fits.f s.kind s.st base t dx dy ty kd = some FT from hFT ▸ fits_eq s.kind s.st hst base t dx dy ty kd)
  rw [hFT] at hR
  have HR := Aside0.mk hR
  have HFF := Aside0.mk hFT
  clear hR hFT
  go_wp2_with (fail)
  refine start_ (n := 7) (S := fun w' => w'.cell? ⟨b7, 0, none⟩ = some (.int .i64 t) ∧ w'.cell? ⟨b7, 1, none⟩ = some (.int .i64 dx) ∧ w'.cell? ⟨b7, 2, none⟩ = some (.int .i64 dy) ∧ w'.cell? ⟨b7, 3, none⟩ = some (.bool ty) ∧ w'.cell? ⟨b7, 4, none⟩ = some (.int .i64 kd)) (ds := []) #[false, false, false, false, false, false, false] (by kernel_rfl) rfl rfl ⟨(blk_cell (blk_below HZ7.out HD5.out) 0).trans rfl, (blk_cell (blk_below HZ7.out HD5.out) 1).trans rfl, (blk_cell (blk_below HZ7.out HD5.out) 2).trans rfl, (blk_cell (blk_below HZ7.out HD5.out) 3).trans rfl, (blk_cell (blk_below HZ7.out HD5.out) 4).trans rfl⟩ (fun hHeld => ?_)
  refine pure_ (i := 0) (N := some 36) (v := ?_) (a' := ?_) #[true, false, false, false, false, false, false] rfl rfl (by kernel_rfl) (fun _ _ _ h => h) (Or.inl ⟨by rfl, ?_⟩) ?_ ?_
  rotate_left
  · intro w'
    go_simp
    with_reducible rfl
  rotate_left
  · simp only [Act.put, List.setIfInBounds_toArray, List.set_cons_zero, List.set_cons_succ, i64_w, i32_w]
    rfl
  refine pure_ (i := 2) (N := some 38) (v := ?_) (a' := ?_) #[true, false, true, false, false, false, false] rfl rfl (by kernel_rfl) (fun _ _ _ h => h) (Or.inl ⟨by rfl, ?_⟩) ?_ ?_
  rotate_left
  · intro w'
    go_simp
    with_reducible rfl
  rotate_left
  · simp only [Act.put, List.setIfInBounds_toArray, List.set_cons_zero, List.set_cons_succ, i64_w, i32_w]
    rfl
  refine take_ (i := 3) (N := some 39) (v := ?_) (a' := ?_) #[true, false, true, true, false, false, false] rfl rfl (by kernel_rfl) (fun _ _ _ h => h) (Or.inl ⟨by rfl, ?_⟩) hHeld ?_ ?_
  rotate_left
  · rintro w' ⟨s0, s1, s2, s3, s4⟩
    go_simp
    with_reducible rfl
  rotate_left
  · simp only [Act.put, List.setIfInBounds_toArray, List.set_cons_zero, List.set_cons_succ, i64_w, i32_w]
    rfl
  refine one_ (i := 1) (N := some 37) #[true, true, true, true, false, false, false] rfl rfl (by kernel_rfl) (by decide) (fun K hK => ?_)
  refine goes_ Try.func32 (by kernel_rfl) rfl #[.pointer (some ⟨g, 0, none⟩)] (by rfl) rfl rfl (by simp only [List.map_toArray, List.map_cons, List.map_nil]; rfl) ?_
  with_reducible refine (model_calls _ _ _ _ (HP5.out.below (below_drew (Below.refl _ _))).e (HP5.out.below (below_drew (Below.refl _ _))).ok).mono ?_
  rintro e W6 ⟨A6, c6, rfl, hM6, hb⟩
  refine ⟨_, rfl, ?_⟩
  have HD6 := Aside0.mk (below_then HD5.out HD5.out.size hb)
  have HP6 := Aside0.mk ((HP5.out.below (below_drew (Below.refl _ _))).below hb)
  have hc6 := (Kd.R_reads' hM6).2.1
  have HM6 := Aside0.mk (Kd.R_reads' hM6).2.2
  clear hb hM6
  refine hK.out _ _ ⟨(blk_cell (blk_below HZ7.out HD6.out) 0).trans rfl, (blk_cell (blk_below HZ7.out HD6.out) 1).trans rfl, (blk_cell (blk_below HZ7.out HD6.out) 2).trans rfl, (blk_cell (blk_below HZ7.out HD6.out) 3).trans rfl, (blk_cell (blk_below HZ7.out HD6.out) 4).trans rfl⟩ (fun hHeld => ?_)
  clear hK K
  refine norm_ (a' := ?_) ?_ ?_
  rotate_left
  · show Act.put _ (some 37) _ = _
    simp only [Act.put, List.setIfInBounds_toArray, List.set_cons_zero, List.set_cons_succ, i64_w, i32_w]
    rfl
  refine one_ (i := 4) (N := some 40) #[true, true, true, true, true, false, false] rfl rfl (by kernel_rfl) (by decide) (fun K hK => ?_)
  refine goes_ Try.func57 (by kernel_rfl) rfl #[.agg #[.int .i64 s.kind, .slice A6 s.st.length c6], .int .i64 base, .agg #[.int .i64 t, .int .i64 dx, .int .i64 dy, .bool ty, .int .i64 kd]] (by rfl) rfl rfl (by simp only [List.map_toArray, List.map_cons, List.map_nil]; rfl) ?_
  with_reducible refine (refine_fits.calls s.kind A6 c6 s.st base t dx dy ty kd FT _ HM6.out hc6 HFT.out).mono ?_
  rintro e W7 ⟨rfl, hb⟩
  refine ⟨_, rfl, ?_⟩
  have HD7 := Aside0.mk (below_then HD6.out HD6.out.size hb)
  have HP7 := Aside0.mk (HP6.out.below hb)
  clear hb
  refine hK.out _ _ ⟨(blk_cell (blk_below HZ7.out HD7.out) 0).trans rfl, (blk_cell (blk_below HZ7.out HD7.out) 1).trans rfl, (blk_cell (blk_below HZ7.out HD7.out) 2).trans rfl, (blk_cell (blk_below HZ7.out HD7.out) 3).trans rfl, (blk_cell (blk_below HZ7.out HD7.out) 4).trans rfl⟩ (fun hHeld => ?_)
  clear hK K
  refine norm_ (a' := ?_) ?_ ?_
  rotate_left
  · show Act.put _ (some 40) _ = _
    simp only [Act.put, List.setIfInBounds_toArray, List.set_cons_zero, List.set_cons_succ, i64_w, i32_w]
    rfl
  refine pure_ (i := 5) (N := some 41) (v := ?_) (a' := ?_) #[true, true, true, true, true, true, false] rfl rfl (by kernel_rfl) (fun _ _ _ h => h) (Or.inl ⟨by rfl, ?_⟩) ?_ ?_
  rotate_left
  · intro w'
    go_simp
    with_reducible rfl
  rotate_left
  · simp only [Act.put, List.setIfInBounds_toArray, List.set_cons_zero, List.set_cons_succ, i64_w, i32_w]
    rfl
  refine pure_ (i := 6) (N := some 35) (v := ?_) (a' := ?_) #[true, true, true, true, true, true, true] rfl rfl (by kernel_rfl) (fun _ _ _ h => h) (Or.inl ⟨by rfl, ?_⟩) ?_ ?_
  rotate_left
  · intro w'
    go_simp
    with_reducible rfl
  rotate_left
  · simp only [Act.put, List.setIfInBounds_toArray, List.set_cons_zero, List.set_cons_succ, i64_w, i32_w]
    rfl
  refine done_ (by kernel_rfl) ?_
  have hR := HR.out
  clear HR
  cases FT
  · rw [if_neg (show ¬ (false = true) by decide), if_neg (show ¬ ((2 : Int) = 0) by decide)] at hR
    subst hR
    go_wp2_with (fail)
    go_ret
    exact ⟨rfl, FIN.out _ HP7.out⟩
  rw [if_pos (show true = true from rfl), if_pos (show (0 : Int) = 0 from rfl)] at hR
  have hff := okF_iff.1 HFF.out
  have HR := Aside0.mk hR
  clear hR
  have q0 : W7.cell? ⟨b7, 0, none⟩ = some (.int .i64 t) := (blk_cell (blk_below HZ7.out HD7.out) 0).trans rfl
  have q1 : W7.cell? ⟨b7, 1, none⟩ = some (.int .i64 dx) := (blk_cell (blk_below HZ7.out HD7.out) 1).trans rfl
  have q2 : W7.cell? ⟨b7, 2, none⟩ = some (.int .i64 dy) := (blk_cell (blk_below HZ7.out HD7.out) 2).trans rfl
  have q3 : W7.cell? ⟨b7, 3, none⟩ = some (.bool ty) := (blk_cell (blk_below HZ7.out HD7.out) 3).trans rfl
  have q4 : W7.cell? ⟨b7, 4, none⟩ = some (.int .i64 kd) := (blk_cell (blk_below HZ7.out HD7.out) 4).trans rfl
  have q5 : W7.cell? ⟨b8, 0, none⟩ = some (.int .i64 W) := (blk_cell (blk_below HZ8.out HD7.out) 0).trans rfl
  have q6 : W7.cell? ⟨b8, 1, none⟩ = some (.int .i64 H) := (blk_cell (blk_below HZ8.out HD7.out) 1).trans rfl
  have q7 : W7.cell? ⟨b8, 2, none⟩ = some (.slice AB P.length cB) := (blk_cell (blk_below HZ8.out HD7.out) 2).trans rfl
  have q8 : W7.cell? ⟨b9, 0, none⟩ = some (.int .i64 RW) := (blk_cell (blk_below HZ9.out HD7.out) 0).trans rfl
  have q9 : W7.cell? ⟨b9, 1, none⟩ = some (.int .i64 RH) := (blk_cell (blk_below HZ9.out HD7.out) 1).trans rfl
  have q10 : W7.cell? ⟨b9, 2, none⟩ = some (.slice AR RP.length cR) := (blk_cell (blk_below HZ9.out HD7.out) 2).trans rfl
  go_wp2_with (fail)
  refine (newRegion_calls _ t dx dy ty kd W H _ RW RH _ AB P.length cB AR RP.length cR rfl rfl).mono ?_
  rintro e W8 ⟨gr, rfl, hgr, hZg, hb⟩
  have HD8 := Aside0.mk (below_then HD7.out HD7.out.size hb)
  clear q0 q1 q2 q3 q4 q5 q6 q7 q8 q9 q10
  obtain ⟨S8, hS8⟩ : ∃ S8 : Nat → Prop, (fun k => (S k ∨ W1.heap.size ≤ k) ∧ k < W2.heap.size) = S8 := ⟨_, rfl⟩
  have HS8 := Aside0.mk (show ∀ k, S8 k → (S k ∨ W1.heap.size ≤ k) ∧ k < W2.heap.size from hS8 ▸ fun k hk => hk)
  have HP8 := Aside0.mk (PW.start (At := EncAt) (w := W8) (S := S8) (hS8 ▸ HP2.out.e.below HD8.out) (fun k hk => Nat.lt_of_lt_of_le (HS8.out k hk).2 HD8.out.size) HOK.out)
  have HSZ := Aside0.mk (show ∀ b, w.heap.size ≤ b → b < W1.heap.size → ¬ S8 b from fun b h1 h2 hk => by rcases (HS8.out b hk).1 with h | h; (have := HS.out b h; omega); omega)
  have HM8 := Aside0.mk (show ∀ V, Mods W8 V S8 → Mods w V S from fun V hV => (HMk.out _ HD8.out).then_ hV (fun k hk => ((HS8.out k hk).1).imp id (fun h => Nat.le_trans HB1.out.size h)))
  have HRG := Aside0.mk (show ∀ V, Mods W8 V S8 → Reg V gr t dx dy ty kd W H AB cB P RW RH AR cR RP from fun V hV => ⟨blk_mods hZg hV (fun hk => by have := (HS8.out _ hk).2; have := HD7.out.size; omega), HB.out _ (HM8.out _ hV), hcB, HA.out _ (HM8.out _ hV), hcR, HBM.out, HBR.out, HT.out, by have := HOO.out; omega, by have := HOO.out; omega⟩)
  have hlt7 := HGE.out
  have HZ7 := Aside0.mk (show ∀ V, Mods W8 V S8 → V.heap[b7]? = some (.cells #[.int .i64 t, .int .i64 dx, .int .i64 dy, .bool ty, .int .i64 kd] 23 (0, 0)) from fun V hV => blk_mods (blk_below HZ7.out HD8.out) hV (HSZ.out _ hlt7.1 HLT.out.1))
  have HZ8 := Aside0.mk (show ∀ V, Mods W8 V S8 → V.heap[b8]? = some (.cells #[.int .i64 W, .int .i64 H, .slice AB P.length cB] 31 (0, 0)) from fun V hV => blk_mods (blk_below HZ8.out HD8.out) hV (HSZ.out _ hlt7.2.1 HLT.out.2.1))
  clear HP1 HP2 HP3 HP4 HP5 HP6 HP7 HD3 HD4 HD5 HD5' HD6 HD7 HM6 HZ9 hgr hZg hb hS8 HE hlt7
  have hw := HBM.out.w
  have hh := HBM.out.h
  have HQE := Aside0.mk (show evR q P = evY q P H.toNat 0 by rw [HQQ.out]; rfl)
  obtain ⟨R1, hR1⟩ : ∃ x, putsI s (evR q P) = x := ⟨_, rfl⟩
  have hR := HR.out
  rw [hR1] at hR
  subst hR
  rw [HQE.out] at hR1
  have HR1 := Aside0.mk hR1
  have HL1 := Aside0.mk (show s.out.length + 4 * (evY q P H.toNat 0).length ≤ 1000200000 by have := evR_len q P (by rw [HQQ.out]; exact hw.2) (by rw [HQQ.out]; exact hh.2); rw [HQE.out] at this; omega)
  clear hR1 HR
  have p0 : W8.cell? ⟨b8, 1, none⟩ = some (.int .i64 H) := (blk_cell (HZ8.out _ (Mods.refl _ _)) 1).trans rfl
  go_wp2_with (fail)
  clear p0
  go_loopw [53] (fun j wr => ∃ (k : Nat) (s1 : ES), k ≤ H.toNat ∧ j = .int .i64 k ∧ Aside0 (putsI s1 (evY q P (H.toNat - k) k) = R1) ∧ Aside0 (s1.out.length + 4 * (evY q P (H.toNat - k) k).length ≤ 1000200000) ∧ Aside0 (PW EncAt W8 S8 g s1 wr)) (fun j _ => H.toNat - (intOf j).toNat)
  case atStart => exact ⟨0, s, Nat.zero_le _, rfl, HR1, HL1, HP8⟩
  clear HR1 HL1 HP8
  case round =>
    obtain ⟨k, s1, hk, rfl, HY, HL, HP⟩ := hrel
    by_cases hlt : k < H.toNat
    · have hltk : (k : Int) < H := by omega
      have hY := HY.out
      rw [show H.toNat - k = (H.toNat - (k + 1)) + 1 by omega] at hY
      unfold evY evH at hY
      have hL := HL.out
      rw [show H.toNat - k = (H.toNat - (k + 1)) + 1 by omega] at hL
      unfold evY evH at hL
      have hqt : q.ty = ty := by rw [HQQ.out]
      have hqW : q.W = W := by rw [HQQ.out]
      have hqty : q.typ P k = (ty && rowP dx dy W H P RW RH RP k W.toNat 0) := by rw [HQQ.out]; rfl
      have hqb : q.base + ctxs q.t = base + ctxs t := by rw [HQQ.out]
      rw [hqt, hqW, hqb] at hY hL
      clear HY HL hqt hqW hqb
      have z0 : wr.cell? ⟨b7, 0, none⟩ = some (.int .i64 t) := (blk_cell (HZ7.out _ HP.out.m) 0).trans rfl
      have z3 : wr.cell? ⟨b7, 3, none⟩ = some (.bool ty) := (blk_cell (HZ7.out _ HP.out.m) 3).trans rfl
      have z8 : wr.cell? ⟨b8, 0, none⟩ = some (.int .i64 W) := (blk_cell (HZ8.out _ HP.out.m) 0).trans rfl
      cases ty
      · rw [Bool.false_and] at hqty
        rw [hqty, if_neg (by decide), List.nil_append] at hY hL
        rw [List.length_append] at hL
        have HX := Aside0.mk hY
        have HL := Aside0.mk hL
        clear hY hL hqty
        go_wp2_with (fail)
        clear z0 z3 z8
        obtain ⟨V, hV⟩ : ∃ V, V = wr := ⟨_, rfl⟩
        subst hV
        go_loopw [76] (fun i wr => ∃ (m : Nat) (s2 : ES), m ≤ W.toNat ∧ i = .int .i64 m ∧ Aside0 (putsI s2 (evX q P k false (W.toNat - m) m ++ evY q P (H.toNat - (k + 1)) (k + 1)) = R1) ∧ Aside0 (s2.out.length + 4 * ((evX q P k false (W.toNat - m) m).length + (evY q P (H.toNat - (k + 1)) (k + 1)).length) ≤ 1000200000) ∧ Aside0 (PW EncAt W8 S8 g s2 wr)) (fun i _ => W.toNat - (intOf i).toNat)
        case atStart => exact ⟨0, _, Nat.zero_le _, rfl, HX, HL, HP⟩
        case round =>
          obtain ⟨m, s2, hm, rfl, HX, HL, HQ⟩ := hrel
          by_cases hltm : m < W.toNat
          · have hltm2 : (m : Int) < W := by omega
            go_wp2_with (fail)
            refine ((HRG.out _ HQ.out.m).flat (m : Int) (k : Int) (by omega) (by omega)).mono ?_
            rintro e X0 ⟨rfl, hb⟩
            have HQ := Aside0.mk (HQ.out.below hb)
            clear hb
            obtain ⟨⟨fc, is⟩, hF⟩ : ∃ r, flatP RW RH RP ((m : Int) - dx) ((k : Int) - dy) = r := ⟨_, rfl⟩
            rw [hF]
            have HF := Aside0.mk (show (q.flat (m : Int) (k : Int)).2 = is by rw [HQF.out, hF])
            clear hF
            simp only
            have hfx : ¬ (false = true ∧ true = true) := by simp
            have hX := HX.out
            rw [show W.toNat - m = (W.toNat - (m + 1)) + 1 by omega] at hX
            unfold evX at hX
            rw [if_neg (show ¬ (false = true ∧ (q.flat (m : Int) (k : Int)).2 = true) by simp), List.cons_append, putsI_cons, HQC.out] at hX
            simp only at hX
            have hL := HL.out
            rw [show W.toNat - m = (W.toNat - (m + 1)) + 1 by omega] at hL
            unfold evX at hL
            rw [if_neg (show ¬ (false = true ∧ (q.flat (m : Int) (k : Int)).2 = true) by simp), List.length_cons] at hL
            have HX2 := Aside0.mk hX
            have HL2 := Aside0.mk hL
            have HLN := Aside0.mk (show s2.out.length ≤ 1099511627776 by omega)
            have hpx := px_01 HBM.out (m : Int) (k : Int)
            have hcr := ctxP_range HBM.out HBR.out t dx dy (m : Int) (k : Int) HT.out
            have HQ0 := Aside0.mk (HQ.out.below (below_drew (Below.refl _ _)))
            clear hX hL hfx
            go_wp2_with (fail)
            refine start_ (n := 16) (S := fun w' => w'.cell? ⟨gr, 5, none⟩ = some (.int .i64 W) ∧ w'.cell? ⟨gr, 6, none⟩ = some (.int .i64 H) ∧ w'.cell? ⟨gr, 7, none⟩ = some (.slice AB P.length cB)) (ds := []) #[false, false, false, false, false, false, false, false, false, false, false, false, false, false, false, false] (by kernel_rfl) rfl rfl ⟨(blk_cell (HRG.out _ HQ0.out.m).z 5).trans rfl, (blk_cell (HRG.out _ HQ0.out.m).z 6).trans rfl, (blk_cell (HRG.out _ HQ0.out.m).z 7).trans rfl⟩ (fun hHeld => ?_)
            refine pure_ (i := 0) (N := some 92) (v := ?_) (a' := ?_) #[true, false, false, false, false, false, false, false, false, false, false, false, false, false, false, false] rfl rfl (by kernel_rfl) (fun _ _ _ h => h) (Or.inl ⟨by rfl, ?_⟩) ?_ ?_
            rotate_left
            · intro w'
              go_simp
              with_reducible rfl
            rotate_left
            · simp only [Act.put, List.setIfInBounds_toArray, List.set_cons_zero, List.set_cons_succ, i64_w, i32_w]
              rfl
            refine pure_ (i := 1) (N := some 93) (v := ?_) (a' := ?_) #[true, true, false, false, false, false, false, false, false, false, false, false, false, false, false, false] rfl rfl (by kernel_rfl) (fun _ _ _ h => h) (Or.inl ⟨by rfl, ?_⟩) ?_ ?_
            rotate_left
            · intro w'
              go_simp
              with_reducible rfl
            rotate_left
            · simp only [Act.put, List.setIfInBounds_toArray, List.set_cons_zero, List.set_cons_succ, i64_w, i32_w]
              rfl
            refine pure_ (i := 2) (N := some 94) (v := ?_) (a' := ?_) #[true, true, true, false, false, false, false, false, false, false, false, false, false, false, false, false] rfl rfl (by kernel_rfl) (fun _ _ _ h => h) (Or.inl ⟨by rfl, ?_⟩) ?_ ?_
            rotate_left
            · intro w'
              go_simp
              with_reducible rfl
            rotate_left
            · simp only [Act.put, List.setIfInBounds_toArray, List.set_cons_zero, List.set_cons_succ, i64_w, i32_w]
              rfl
            refine pure_ (i := 3) (N := some 95) (v := ?_) (a' := ?_) #[true, true, true, true, false, false, false, false, false, false, false, false, false, false, false, false] rfl rfl (by kernel_rfl) (fun _ _ _ h => h) (Or.inl ⟨by rfl, ?_⟩) ?_ ?_
            rotate_left
            · intro w'
              go_simp
              with_reducible rfl
            rotate_left
            · simp only [Act.put, List.setIfInBounds_toArray, List.set_cons_zero, List.set_cons_succ, i64_w, i32_w]
              rfl
            refine pure_ (i := 4) (N := some 96) (v := ?_) (a' := ?_) #[true, true, true, true, true, false, false, false, false, false, false, false, false, false, false, false] rfl rfl (by kernel_rfl) (fun _ _ _ h => h) (Or.inl ⟨by rfl, ?_⟩) ?_ ?_
            rotate_left
            · intro w'
              go_simp
              with_reducible rfl
            rotate_left
            · simp only [Act.put, List.setIfInBounds_toArray, List.set_cons_zero, List.set_cons_succ, i64_w, i32_w]
              rfl
            refine pure_ (i := 7) (N := some 99) (v := ?_) (a' := ?_) #[true, true, true, true, true, false, false, true, false, false, false, false, false, false, false, false] rfl rfl (by kernel_rfl) (fun _ _ _ h => h) (Or.inl ⟨by rfl, ?_⟩) ?_ ?_
            rotate_left
            · intro w'
              go_simp
              with_reducible rfl
            rotate_left
            · simp only [Act.put, List.setIfInBounds_toArray, List.set_cons_zero, List.set_cons_succ, i64_w, i32_w]
              rfl
            refine pure_ (i := 8) (N := some 100) (v := ?_) (a' := ?_) #[true, true, true, true, true, false, false, true, true, false, false, false, false, false, false, false] rfl rfl (by kernel_rfl) (fun _ _ _ h => h) (Or.inl ⟨by rfl, ?_⟩) ?_ ?_
            rotate_left
            · intro w'
              go_simp
              with_reducible rfl
            rotate_left
            · simp only [Act.put, List.setIfInBounds_toArray, List.set_cons_zero, List.set_cons_succ, i64_w, i32_w]
              rfl
            refine pure_ (i := 9) (N := some 101) (v := ?_) (a' := ?_) #[true, true, true, true, true, false, false, true, true, true, false, false, false, false, false, false] rfl rfl (by kernel_rfl) (fun _ _ _ h => h) (Or.inl ⟨by rfl, ?_⟩) ?_ ?_
            rotate_left
            · intro w'
              go_simp
              with_reducible rfl
            rotate_left
            · simp only [Act.put, List.setIfInBounds_toArray, List.set_cons_zero, List.set_cons_succ, i64_w, i32_w]
              rfl
            refine pure_ (i := 11) (N := some 103) (v := ?_) (a' := ?_) #[true, true, true, true, true, false, false, true, true, true, false, true, false, false, false, false] rfl rfl (by kernel_rfl) (fun _ _ _ h => h) (Or.inl ⟨by rfl, ?_⟩) ?_ ?_
            rotate_left
            · intro w'
              go_simp
              with_reducible rfl
            rotate_left
            · simp only [Act.put, List.setIfInBounds_toArray, List.set_cons_zero, List.set_cons_succ, i64_w, i32_w]
              rfl
            refine pure_ (i := 12) (N := some 104) (v := ?_) (a' := ?_) #[true, true, true, true, true, false, false, true, true, true, false, true, true, false, false, false] rfl rfl (by kernel_rfl) (fun _ _ _ h => h) (Or.inl ⟨by rfl, ?_⟩) ?_ ?_
            rotate_left
            · intro w'
              go_simp
              with_reducible rfl
            rotate_left
            · simp only [Act.put, List.setIfInBounds_toArray, List.set_cons_zero, List.set_cons_succ, i64_w, i32_w]
              rfl
            refine take_ (i := 10) (N := some 102) (v := ?_) (a' := ?_) #[true, true, true, true, true, false, false, true, true, true, true, true, true, false, false, false] rfl rfl (by kernel_rfl) (fun _ _ _ h => h) (Or.inl ⟨by rfl, ?_⟩) hHeld ?_ ?_
            rotate_left
            · rintro w' ⟨s0, s1, s2⟩
              go_simp
              with_reducible rfl
            rotate_left
            · simp only [Act.put, List.setIfInBounds_toArray, List.set_cons_zero, List.set_cons_succ, i64_w, i32_w]
              rfl
            refine one_ (i := 5) (N := some 97) #[true, true, true, true, true, true, false, true, true, true, true, true, true, false, false, false] rfl rfl (by kernel_rfl) (by decide) (fun K hK => ?_)
            refine goes_ Try.func61 (by kernel_rfl) rfl #[.pointer (some ⟨gr, 0, none⟩), .int .i64 (m : Int), .int .i64 (k : Int)] (by rfl) rfl rfl (by simp only [List.map_toArray, List.map_cons, List.map_nil]; rfl) ?_
            with_reducible refine ((HRG.out _ HQ0.out.m).context (m : Int) (k : Int) (by omega) (by omega)).mono ?_
            rintro e X1 ⟨rfl, hb⟩
            refine ⟨_, rfl, ?_⟩
            have HQ1 := Aside0.mk (HQ0.out.below hb)
            clear hb
            refine hK.out _ _ ⟨(blk_cell (HRG.out _ HQ1.out.m).z 5).trans rfl, (blk_cell (HRG.out _ HQ1.out.m).z 6).trans rfl, (blk_cell (HRG.out _ HQ1.out.m).z 7).trans rfl⟩ (fun hHeld => ?_)
            clear hK K
            refine norm_ (a' := ?_) ?_ ?_
            rotate_left
            · show Act.put _ (some 97) _ = _
              simp only [Act.put, List.setIfInBounds_toArray, List.set_cons_zero, List.set_cons_succ, i64_w, i32_w]
              rfl
            refine pure_ (i := 6) (N := some 98) (v := ?_) (a' := ?_) #[true, true, true, true, true, true, true, true, true, true, true, true, true, false, false, false] rfl rfl (by kernel_rfl) (fun _ _ _ h => h) (Or.inl ⟨by rfl, ?_⟩) ?_ ?_
            rotate_left
            · intro w'
              go_simp
              with_reducible rfl
            rotate_left
            · simp only [Act.put, List.setIfInBounds_toArray, List.set_cons_zero, List.set_cons_succ, i64_w, i32_w]
              rfl
            refine one_ (i := 13) (N := some 105) #[true, true, true, true, true, true, true, true, true, true, true, true, true, true, false, false] rfl rfl (by kernel_rfl) (by decide) (fun K hK => ?_)
            refine goes_ Try.func62 (by kernel_rfl) rfl #[.agg #[.int .i64 W, .int .i64 H, .slice AB P.length cB], .int .i64 (m : Int), .int .i64 (k : Int)] (by rfl) rfl rfl (by simp only [List.map_toArray, List.map_cons, List.map_nil]; rfl) ?_
            with_reducible refine ((HRG.out _ HQ1.out.m).at_ (m : Int) (k : Int)).mono ?_
            rintro e X2 ⟨rfl, hb⟩
            refine ⟨_, rfl, ?_⟩
            have HQ2 := Aside0.mk (HQ1.out.below hb)
            clear hb
            refine hK.out _ _ ⟨(blk_cell (HRG.out _ HQ2.out.m).z 5).trans rfl, (blk_cell (HRG.out _ HQ2.out.m).z 6).trans rfl, (blk_cell (HRG.out _ HQ2.out.m).z 7).trans rfl⟩ (fun hHeld => ?_)
            clear hK K
            refine norm_ (a' := ?_) ?_ ?_
            rotate_left
            · show Act.put _ (some 105) _ = _
              simp only [Act.put, List.setIfInBounds_toArray, List.set_cons_zero, List.set_cons_succ, i64_w, i32_w]
              rfl
            refine pure_ (i := 14) (N := some 106) (v := ?_) (a' := ?_) #[true, true, true, true, true, true, true, true, true, true, true, true, true, true, true, false] rfl rfl (by kernel_rfl) (fun _ _ _ h => h) (Or.inl ⟨by rfl, ?_⟩) ?_ ?_
            rotate_left
            · intro w'
              go_simp
              with_reducible rfl
            rotate_left
            · simp only [Act.put, List.setIfInBounds_toArray, List.set_cons_zero, List.set_cons_succ, i64_w, i32_w]
              rfl
            refine one_ (i := 15) (N := some 107) #[true, true, true, true, true, true, true, true, true, true, true, true, true, true, true, true] rfl rfl (by kernel_rfl) (by decide) (fun K hK => ?_)
            refine goes_ Try.func28 (by kernel_rfl) rfl #[.pointer (some ⟨g, 0, none⟩), .int .i64 (wrap64 (base + ctxP t dx dy W H P RW RH RP (m : Int) (k : Int))), .int .i64 (wrap64 (px W H P (m : Int) (k : Int)))] (by rfl) rfl rfl (by simp only [List.map_toArray, List.map_cons, List.map_nil]; rfl) ?_
            with_reducible refine (HQ2.out.put_eq HLN.out (base + ctxP t dx dy W H P RW RH RP (m : Int) (k : Int)) (px W H P (m : Int) (k : Int)) (by rw [wrap_id] <;> omega) (by rw [wrap_id] <;> omega)).mono ?_
            rintro e X3 ⟨rfl, hP⟩
            refine ⟨_, rfl, ?_⟩
            have HQ3 := Aside0.mk hP
            clear hP
            refine hK.out _ _ ⟨(blk_cell (HRG.out _ HQ3.out.m).z 5).trans rfl, (blk_cell (HRG.out _ HQ3.out.m).z 6).trans rfl, (blk_cell (HRG.out _ HQ3.out.m).z 7).trans rfl⟩ (fun hHeld => ?_)
            clear hK K
            refine norm_ (a' := ?_) ?_ ?_
            rotate_left
            · show Act.put _ (some 107) _ = _
              simp only [Act.put, List.setIfInBounds_toArray, List.set_cons_zero, List.set_cons_succ, i64_w, i32_w]
              rfl
            refine done_ (by kernel_rfl) ?_
            go_wp2_with (fail)
            refine ⟨⟨m + 1, _, by omega, by go_num, HX2, ⟨?_⟩, HQ3⟩, by simp [intOf]; omega⟩
            have h1 := (ES.putI_len s2 (base + ctxP t dx dy W H P RW RH RP (m : Int) (k : Int)) (px W H P (m : Int) (k : Int))).1
            have h2 := HL2.out
            omega
          · have hX := HX.out
            rw [show W.toNat - m = 0 by omega] at hX
            simp only [evX, List.nil_append] at hX
            have hL := HL.out
            rw [show W.toNat - m = 0 by omega] at hL
            simp only [evX, List.length_nil, Nat.zero_add] at hL
            have HX2 := Aside0.mk hX
            have HL2 := Aside0.mk hL
            clear hX hL
            go_wp2_with (fail)
            exact ⟨⟨k + 1, _, by omega, by go_num, HX2, HL2, HQ⟩, by simp [intOf]; omega⟩
      · rw [Bool.true_and] at hqty
        rw [if_pos rfl] at hY hL
        go_wp2_with (fail)
        refine (typical_calls _ gr t dx dy true kd W H AB cB P RW RH AR cR RP (k : Int) (HRG.out _ HP.out.m) (by omega)).mono ?_
        rintro e V1 ⟨rfl, hb⟩
        have HP := Aside0.mk (HP.out.below hb)
        clear hb z0 z3 z8
        obtain ⟨vt, hvt⟩ : ∃ x, rowP dx dy W H P RW RH RP k W.toNat 0 = x := ⟨_, rfl⟩
        rw [hvt] at hqty ⊢
        rw [hqty, List.cons_append, List.nil_append, putsI_cons] at hY
        rw [hqty, List.cons_append, List.nil_append, List.length_cons, List.length_append] at hL
        simp only at hY
        have HX0 := Aside0.mk hY
        have HL0 := Aside0.mk hL
        clear hvt hqty hY hL
        have z0 : V1.cell? ⟨b7, 0, none⟩ = some (.int .i64 t) := (blk_cell (HZ7.out _ HP.out.m) 0).trans rfl
        have z3 : V1.cell? ⟨b7, 3, none⟩ = some (.bool true) := (blk_cell (HZ7.out _ HP.out.m) 3).trans rfl
        have hcx := ctxs_range t
        cases vt
        · rw [show bit1 false = 0 from rfl] at HX0
          go_wp2_with (fail)
          refine (refine_contexts.calls t (ctxs t) _ (contexts_eq t)).mono ?_
          rintro e V2 ⟨rfl, hb⟩
          have HP := Aside0.mk (HP.out.below hb)
          clear hb z0 z3
          have hln : s1.out.length ≤ 1099511627776 := by have := HL0.out; omega
          go_wp2_with (fail)
          refine (HP.out.put_eq hln (base + ctxs t) 0 (by first | rfl | (rw [wrap_id] <;> omega)) rfl).mono ?_
          rintro e V3 ⟨rfl, hP⟩
          have HP := Aside0.mk hP
          have HX := Aside0.mk HX0.out
          have HL := Aside0.mk (show (s1.putI (base + ctxs t) 0).out.length + 4 * ((evX q P k false W.toNat 0).length + (evY q P (H.toNat - (k + 1)) (k + 1)).length) ≤ 1000200000 by have h1 := (ES.putI_len s1 (base + ctxs t) 0).1; have h2 := HL0.out; omega)
          clear hP hln HX0 HL0
          have z8 : V3.cell? ⟨b8, 0, none⟩ = some (.int .i64 W) := (blk_cell (HZ8.out _ HP.out.m) 0).trans rfl
          go_wp2_with (fail)
          clear z8
          go_loopw [76] (fun i wr => ∃ (m : Nat) (s2 : ES), m ≤ W.toNat ∧ i = .int .i64 m ∧ Aside0 (putsI s2 (evX q P k false (W.toNat - m) m ++ evY q P (H.toNat - (k + 1)) (k + 1)) = R1) ∧ Aside0 (s2.out.length + 4 * ((evX q P k false (W.toNat - m) m).length + (evY q P (H.toNat - (k + 1)) (k + 1)).length) ≤ 1000200000) ∧ Aside0 (PW EncAt W8 S8 g s2 wr)) (fun i _ => W.toNat - (intOf i).toNat)
          case atStart => exact ⟨0, _, Nat.zero_le _, rfl, HX, HL, HP⟩
          case round =>
            obtain ⟨m, s2, hm, rfl, HX, HL, HQ⟩ := hrel
            by_cases hltm : m < W.toNat
            · have hltm2 : (m : Int) < W := by omega
              go_wp2_with (fail)
              refine ((HRG.out _ HQ.out.m).flat (m : Int) (k : Int) (by omega) (by omega)).mono ?_
              rintro e X0 ⟨rfl, hb⟩
              have HQ := Aside0.mk (HQ.out.below hb)
              clear hb
              obtain ⟨⟨fc, is⟩, hF⟩ : ∃ r, flatP RW RH RP ((m : Int) - dx) ((k : Int) - dy) = r := ⟨_, rfl⟩
              rw [hF]
              have HF := Aside0.mk (show (q.flat (m : Int) (k : Int)).2 = is by rw [HQF.out, hF])
              clear hF
              simp only
              have hfx : ¬ (false = true ∧ true = true) := by simp
              have hX := HX.out
              rw [show W.toNat - m = (W.toNat - (m + 1)) + 1 by omega] at hX
              unfold evX at hX
              rw [if_neg (show ¬ (false = true ∧ (q.flat (m : Int) (k : Int)).2 = true) by simp), List.cons_append, putsI_cons, HQC.out] at hX
              simp only at hX
              have hL := HL.out
              rw [show W.toNat - m = (W.toNat - (m + 1)) + 1 by omega] at hL
              unfold evX at hL
              rw [if_neg (show ¬ (false = true ∧ (q.flat (m : Int) (k : Int)).2 = true) by simp), List.length_cons] at hL
              have HX2 := Aside0.mk hX
              have HL2 := Aside0.mk hL
              have HLN := Aside0.mk (show s2.out.length ≤ 1099511627776 by omega)
              have hpx := px_01 HBM.out (m : Int) (k : Int)
              have hcr := ctxP_range HBM.out HBR.out t dx dy (m : Int) (k : Int) HT.out
              have HQ0 := Aside0.mk (HQ.out.below (below_drew (Below.refl _ _)))
              clear hX hL hfx
              go_wp2_with (fail)
              refine start_ (n := 16) (S := fun w' => w'.cell? ⟨gr, 5, none⟩ = some (.int .i64 W) ∧ w'.cell? ⟨gr, 6, none⟩ = some (.int .i64 H) ∧ w'.cell? ⟨gr, 7, none⟩ = some (.slice AB P.length cB)) (ds := []) #[false, false, false, false, false, false, false, false, false, false, false, false, false, false, false, false] (by kernel_rfl) rfl rfl ⟨(blk_cell (HRG.out _ HQ0.out.m).z 5).trans rfl, (blk_cell (HRG.out _ HQ0.out.m).z 6).trans rfl, (blk_cell (HRG.out _ HQ0.out.m).z 7).trans rfl⟩ (fun hHeld => ?_)
              refine pure_ (i := 0) (N := some 92) (v := ?_) (a' := ?_) #[true, false, false, false, false, false, false, false, false, false, false, false, false, false, false, false] rfl rfl (by kernel_rfl) (fun _ _ _ h => h) (Or.inl ⟨by rfl, ?_⟩) ?_ ?_
              rotate_left
              · intro w'
                go_simp
                with_reducible rfl
              rotate_left
              · simp only [Act.put, List.setIfInBounds_toArray, List.set_cons_zero, List.set_cons_succ, i64_w, i32_w]
                rfl
              refine pure_ (i := 1) (N := some 93) (v := ?_) (a' := ?_) #[true, true, false, false, false, false, false, false, false, false, false, false, false, false, false, false] rfl rfl (by kernel_rfl) (fun _ _ _ h => h) (Or.inl ⟨by rfl, ?_⟩) ?_ ?_
              rotate_left
              · intro w'
                go_simp
                with_reducible rfl
              rotate_left
              · simp only [Act.put, List.setIfInBounds_toArray, List.set_cons_zero, List.set_cons_succ, i64_w, i32_w]
                rfl
              refine pure_ (i := 2) (N := some 94) (v := ?_) (a' := ?_) #[true, true, true, false, false, false, false, false, false, false, false, false, false, false, false, false] rfl rfl (by kernel_rfl) (fun _ _ _ h => h) (Or.inl ⟨by rfl, ?_⟩) ?_ ?_
              rotate_left
              · intro w'
                go_simp
                with_reducible rfl
              rotate_left
              · simp only [Act.put, List.setIfInBounds_toArray, List.set_cons_zero, List.set_cons_succ, i64_w, i32_w]
                rfl
              refine pure_ (i := 3) (N := some 95) (v := ?_) (a' := ?_) #[true, true, true, true, false, false, false, false, false, false, false, false, false, false, false, false] rfl rfl (by kernel_rfl) (fun _ _ _ h => h) (Or.inl ⟨by rfl, ?_⟩) ?_ ?_
              rotate_left
              · intro w'
                go_simp
                with_reducible rfl
              rotate_left
              · simp only [Act.put, List.setIfInBounds_toArray, List.set_cons_zero, List.set_cons_succ, i64_w, i32_w]
                rfl
              refine pure_ (i := 4) (N := some 96) (v := ?_) (a' := ?_) #[true, true, true, true, true, false, false, false, false, false, false, false, false, false, false, false] rfl rfl (by kernel_rfl) (fun _ _ _ h => h) (Or.inl ⟨by rfl, ?_⟩) ?_ ?_
              rotate_left
              · intro w'
                go_simp
                with_reducible rfl
              rotate_left
              · simp only [Act.put, List.setIfInBounds_toArray, List.set_cons_zero, List.set_cons_succ, i64_w, i32_w]
                rfl
              refine pure_ (i := 7) (N := some 99) (v := ?_) (a' := ?_) #[true, true, true, true, true, false, false, true, false, false, false, false, false, false, false, false] rfl rfl (by kernel_rfl) (fun _ _ _ h => h) (Or.inl ⟨by rfl, ?_⟩) ?_ ?_
              rotate_left
              · intro w'
                go_simp
                with_reducible rfl
              rotate_left
              · simp only [Act.put, List.setIfInBounds_toArray, List.set_cons_zero, List.set_cons_succ, i64_w, i32_w]
                rfl
              refine pure_ (i := 8) (N := some 100) (v := ?_) (a' := ?_) #[true, true, true, true, true, false, false, true, true, false, false, false, false, false, false, false] rfl rfl (by kernel_rfl) (fun _ _ _ h => h) (Or.inl ⟨by rfl, ?_⟩) ?_ ?_
              rotate_left
              · intro w'
                go_simp
                with_reducible rfl
              rotate_left
              · simp only [Act.put, List.setIfInBounds_toArray, List.set_cons_zero, List.set_cons_succ, i64_w, i32_w]
                rfl
              refine pure_ (i := 9) (N := some 101) (v := ?_) (a' := ?_) #[true, true, true, true, true, false, false, true, true, true, false, false, false, false, false, false] rfl rfl (by kernel_rfl) (fun _ _ _ h => h) (Or.inl ⟨by rfl, ?_⟩) ?_ ?_
              rotate_left
              · intro w'
                go_simp
                with_reducible rfl
              rotate_left
              · simp only [Act.put, List.setIfInBounds_toArray, List.set_cons_zero, List.set_cons_succ, i64_w, i32_w]
                rfl
              refine pure_ (i := 11) (N := some 103) (v := ?_) (a' := ?_) #[true, true, true, true, true, false, false, true, true, true, false, true, false, false, false, false] rfl rfl (by kernel_rfl) (fun _ _ _ h => h) (Or.inl ⟨by rfl, ?_⟩) ?_ ?_
              rotate_left
              · intro w'
                go_simp
                with_reducible rfl
              rotate_left
              · simp only [Act.put, List.setIfInBounds_toArray, List.set_cons_zero, List.set_cons_succ, i64_w, i32_w]
                rfl
              refine pure_ (i := 12) (N := some 104) (v := ?_) (a' := ?_) #[true, true, true, true, true, false, false, true, true, true, false, true, true, false, false, false] rfl rfl (by kernel_rfl) (fun _ _ _ h => h) (Or.inl ⟨by rfl, ?_⟩) ?_ ?_
              rotate_left
              · intro w'
                go_simp
                with_reducible rfl
              rotate_left
              · simp only [Act.put, List.setIfInBounds_toArray, List.set_cons_zero, List.set_cons_succ, i64_w, i32_w]
                rfl
              refine take_ (i := 10) (N := some 102) (v := ?_) (a' := ?_) #[true, true, true, true, true, false, false, true, true, true, true, true, true, false, false, false] rfl rfl (by kernel_rfl) (fun _ _ _ h => h) (Or.inl ⟨by rfl, ?_⟩) hHeld ?_ ?_
              rotate_left
              · rintro w' ⟨s0, s1, s2⟩
                go_simp
                with_reducible rfl
              rotate_left
              · simp only [Act.put, List.setIfInBounds_toArray, List.set_cons_zero, List.set_cons_succ, i64_w, i32_w]
                rfl
              refine one_ (i := 5) (N := some 97) #[true, true, true, true, true, true, false, true, true, true, true, true, true, false, false, false] rfl rfl (by kernel_rfl) (by decide) (fun K hK => ?_)
              refine goes_ Try.func61 (by kernel_rfl) rfl #[.pointer (some ⟨gr, 0, none⟩), .int .i64 (m : Int), .int .i64 (k : Int)] (by rfl) rfl rfl (by simp only [List.map_toArray, List.map_cons, List.map_nil]; rfl) ?_
              with_reducible refine ((HRG.out _ HQ0.out.m).context (m : Int) (k : Int) (by omega) (by omega)).mono ?_
              rintro e X1 ⟨rfl, hb⟩
              refine ⟨_, rfl, ?_⟩
              have HQ1 := Aside0.mk (HQ0.out.below hb)
              clear hb
              refine hK.out _ _ ⟨(blk_cell (HRG.out _ HQ1.out.m).z 5).trans rfl, (blk_cell (HRG.out _ HQ1.out.m).z 6).trans rfl, (blk_cell (HRG.out _ HQ1.out.m).z 7).trans rfl⟩ (fun hHeld => ?_)
              clear hK K
              refine norm_ (a' := ?_) ?_ ?_
              rotate_left
              · show Act.put _ (some 97) _ = _
                simp only [Act.put, List.setIfInBounds_toArray, List.set_cons_zero, List.set_cons_succ, i64_w, i32_w]
                rfl
              refine pure_ (i := 6) (N := some 98) (v := ?_) (a' := ?_) #[true, true, true, true, true, true, true, true, true, true, true, true, true, false, false, false] rfl rfl (by kernel_rfl) (fun _ _ _ h => h) (Or.inl ⟨by rfl, ?_⟩) ?_ ?_
              rotate_left
              · intro w'
                go_simp
                with_reducible rfl
              rotate_left
              · simp only [Act.put, List.setIfInBounds_toArray, List.set_cons_zero, List.set_cons_succ, i64_w, i32_w]
                rfl
              refine one_ (i := 13) (N := some 105) #[true, true, true, true, true, true, true, true, true, true, true, true, true, true, false, false] rfl rfl (by kernel_rfl) (by decide) (fun K hK => ?_)
              refine goes_ Try.func62 (by kernel_rfl) rfl #[.agg #[.int .i64 W, .int .i64 H, .slice AB P.length cB], .int .i64 (m : Int), .int .i64 (k : Int)] (by rfl) rfl rfl (by simp only [List.map_toArray, List.map_cons, List.map_nil]; rfl) ?_
              with_reducible refine ((HRG.out _ HQ1.out.m).at_ (m : Int) (k : Int)).mono ?_
              rintro e X2 ⟨rfl, hb⟩
              refine ⟨_, rfl, ?_⟩
              have HQ2 := Aside0.mk (HQ1.out.below hb)
              clear hb
              refine hK.out _ _ ⟨(blk_cell (HRG.out _ HQ2.out.m).z 5).trans rfl, (blk_cell (HRG.out _ HQ2.out.m).z 6).trans rfl, (blk_cell (HRG.out _ HQ2.out.m).z 7).trans rfl⟩ (fun hHeld => ?_)
              clear hK K
              refine norm_ (a' := ?_) ?_ ?_
              rotate_left
              · show Act.put _ (some 105) _ = _
                simp only [Act.put, List.setIfInBounds_toArray, List.set_cons_zero, List.set_cons_succ, i64_w, i32_w]
                rfl
              refine pure_ (i := 14) (N := some 106) (v := ?_) (a' := ?_) #[true, true, true, true, true, true, true, true, true, true, true, true, true, true, true, false] rfl rfl (by kernel_rfl) (fun _ _ _ h => h) (Or.inl ⟨by rfl, ?_⟩) ?_ ?_
              rotate_left
              · intro w'
                go_simp
                with_reducible rfl
              rotate_left
              · simp only [Act.put, List.setIfInBounds_toArray, List.set_cons_zero, List.set_cons_succ, i64_w, i32_w]
                rfl
              refine one_ (i := 15) (N := some 107) #[true, true, true, true, true, true, true, true, true, true, true, true, true, true, true, true] rfl rfl (by kernel_rfl) (by decide) (fun K hK => ?_)
              refine goes_ Try.func28 (by kernel_rfl) rfl #[.pointer (some ⟨g, 0, none⟩), .int .i64 (wrap64 (base + ctxP t dx dy W H P RW RH RP (m : Int) (k : Int))), .int .i64 (wrap64 (px W H P (m : Int) (k : Int)))] (by rfl) rfl rfl (by simp only [List.map_toArray, List.map_cons, List.map_nil]; rfl) ?_
              with_reducible refine (HQ2.out.put_eq HLN.out (base + ctxP t dx dy W H P RW RH RP (m : Int) (k : Int)) (px W H P (m : Int) (k : Int)) (by rw [wrap_id] <;> omega) (by rw [wrap_id] <;> omega)).mono ?_
              rintro e X3 ⟨rfl, hP⟩
              refine ⟨_, rfl, ?_⟩
              have HQ3 := Aside0.mk hP
              clear hP
              refine hK.out _ _ ⟨(blk_cell (HRG.out _ HQ3.out.m).z 5).trans rfl, (blk_cell (HRG.out _ HQ3.out.m).z 6).trans rfl, (blk_cell (HRG.out _ HQ3.out.m).z 7).trans rfl⟩ (fun hHeld => ?_)
              clear hK K
              refine norm_ (a' := ?_) ?_ ?_
              rotate_left
              · show Act.put _ (some 107) _ = _
                simp only [Act.put, List.setIfInBounds_toArray, List.set_cons_zero, List.set_cons_succ, i64_w, i32_w]
                rfl
              refine done_ (by kernel_rfl) ?_
              go_wp2_with (fail)
              refine ⟨⟨m + 1, _, by omega, by go_num, HX2, ⟨?_⟩, HQ3⟩, by simp [intOf]; omega⟩
              have h1 := (ES.putI_len s2 (base + ctxP t dx dy W H P RW RH RP (m : Int) (k : Int)) (px W H P (m : Int) (k : Int))).1
              have h2 := HL2.out
              omega
            · have hX := HX.out
              rw [show W.toNat - m = 0 by omega] at hX
              simp only [evX, List.nil_append] at hX
              have hL := HL.out
              rw [show W.toNat - m = 0 by omega] at hL
              simp only [evX, List.length_nil, Nat.zero_add] at hL
              have HX2 := Aside0.mk hX
              have HL2 := Aside0.mk hL
              clear hX hL
              go_wp2_with (fail)
              exact ⟨⟨k + 1, _, by omega, by go_num, HX2, HL2, HQ⟩, by simp [intOf]; omega⟩
        · rw [show bit1 true = 1 from rfl] at HX0
          go_wp2_with (fail)
          refine (refine_contexts.calls t (ctxs t) _ (contexts_eq t)).mono ?_
          rintro e V2 ⟨rfl, hb⟩
          have HP := Aside0.mk (HP.out.below hb)
          clear hb z0 z3
          have hln : s1.out.length ≤ 1099511627776 := by have := HL0.out; omega
          go_wp2_with (fail)
          refine (HP.out.put_eq hln (base + ctxs t) 1 (by first | rfl | (rw [wrap_id] <;> omega)) rfl).mono ?_
          rintro e V3 ⟨rfl, hP⟩
          have HP := Aside0.mk hP
          have HX := Aside0.mk HX0.out
          have HL := Aside0.mk (show (s1.putI (base + ctxs t) 1).out.length + 4 * ((evX q P k true W.toNat 0).length + (evY q P (H.toNat - (k + 1)) (k + 1)).length) ≤ 1000200000 by have h1 := (ES.putI_len s1 (base + ctxs t) 1).1; have h2 := HL0.out; omega)
          clear hP hln HX0 HL0
          have z8 : V3.cell? ⟨b8, 0, none⟩ = some (.int .i64 W) := (blk_cell (HZ8.out _ HP.out.m) 0).trans rfl
          go_wp2_with (fail)
          clear z8
          go_loopw [76] (fun i wr => ∃ (m : Nat) (s2 : ES), m ≤ W.toNat ∧ i = .int .i64 m ∧ Aside0 (putsI s2 (evX q P k true (W.toNat - m) m ++ evY q P (H.toNat - (k + 1)) (k + 1)) = R1) ∧ Aside0 (s2.out.length + 4 * ((evX q P k true (W.toNat - m) m).length + (evY q P (H.toNat - (k + 1)) (k + 1)).length) ≤ 1000200000) ∧ Aside0 (PW EncAt W8 S8 g s2 wr)) (fun i _ => W.toNat - (intOf i).toNat)
          case atStart => exact ⟨0, _, Nat.zero_le _, rfl, HX, HL, HP⟩
          case round =>
            obtain ⟨m, s2, hm, rfl, HX, HL, HQ⟩ := hrel
            by_cases hltm : m < W.toNat
            · have hltm2 : (m : Int) < W := by omega
              go_wp2_with (fail)
              refine ((HRG.out _ HQ.out.m).flat (m : Int) (k : Int) (by omega) (by omega)).mono ?_
              rintro e X0 ⟨rfl, hb⟩
              have HQ := Aside0.mk (HQ.out.below hb)
              clear hb
              obtain ⟨⟨fc, is⟩, hF⟩ : ∃ r, flatP RW RH RP ((m : Int) - dx) ((k : Int) - dy) = r := ⟨_, rfl⟩
              rw [hF]
              have HF := Aside0.mk (show (q.flat (m : Int) (k : Int)).2 = is by rw [HQF.out, hF])
              clear hF
              simp only
              cases is
              · have hfx : ¬ (true = true ∧ false = true) := by simp
                have hX := HX.out
                rw [show W.toNat - m = (W.toNat - (m + 1)) + 1 by omega] at hX
                unfold evX at hX
                rw [if_neg (show ¬ (true = true ∧ (q.flat (m : Int) (k : Int)).2 = true) by rw [HF.out]; simp), List.cons_append, putsI_cons, HQC.out] at hX
                simp only at hX
                have hL := HL.out
                rw [show W.toNat - m = (W.toNat - (m + 1)) + 1 by omega] at hL
                unfold evX at hL
                rw [if_neg (show ¬ (true = true ∧ (q.flat (m : Int) (k : Int)).2 = true) by rw [HF.out]; simp), List.length_cons] at hL
                have HX2 := Aside0.mk hX
                have HL2 := Aside0.mk hL
                have HLN := Aside0.mk (show s2.out.length ≤ 1099511627776 by omega)
                have hpx := px_01 HBM.out (m : Int) (k : Int)
                have hcr := ctxP_range HBM.out HBR.out t dx dy (m : Int) (k : Int) HT.out
                have HQ0 := Aside0.mk (HQ.out.below (below_drew (Below.refl _ _)))
                clear hX hL hfx
                go_wp2_with (fail)
                refine start_ (n := 16) (S := fun w' => w'.cell? ⟨gr, 5, none⟩ = some (.int .i64 W) ∧ w'.cell? ⟨gr, 6, none⟩ = some (.int .i64 H) ∧ w'.cell? ⟨gr, 7, none⟩ = some (.slice AB P.length cB)) (ds := []) #[false, false, false, false, false, false, false, false, false, false, false, false, false, false, false, false] (by kernel_rfl) rfl rfl ⟨(blk_cell (HRG.out _ HQ0.out.m).z 5).trans rfl, (blk_cell (HRG.out _ HQ0.out.m).z 6).trans rfl, (blk_cell (HRG.out _ HQ0.out.m).z 7).trans rfl⟩ (fun hHeld => ?_)
                refine pure_ (i := 0) (N := some 92) (v := ?_) (a' := ?_) #[true, false, false, false, false, false, false, false, false, false, false, false, false, false, false, false] rfl rfl (by kernel_rfl) (fun _ _ _ h => h) (Or.inl ⟨by rfl, ?_⟩) ?_ ?_
                rotate_left
                · intro w'
                  go_simp
                  with_reducible rfl
                rotate_left
                · simp only [Act.put, List.setIfInBounds_toArray, List.set_cons_zero, List.set_cons_succ, i64_w, i32_w]
                  rfl
                refine pure_ (i := 1) (N := some 93) (v := ?_) (a' := ?_) #[true, true, false, false, false, false, false, false, false, false, false, false, false, false, false, false] rfl rfl (by kernel_rfl) (fun _ _ _ h => h) (Or.inl ⟨by rfl, ?_⟩) ?_ ?_
                rotate_left
                · intro w'
                  go_simp
                  with_reducible rfl
                rotate_left
                · simp only [Act.put, List.setIfInBounds_toArray, List.set_cons_zero, List.set_cons_succ, i64_w, i32_w]
                  rfl
                refine pure_ (i := 2) (N := some 94) (v := ?_) (a' := ?_) #[true, true, true, false, false, false, false, false, false, false, false, false, false, false, false, false] rfl rfl (by kernel_rfl) (fun _ _ _ h => h) (Or.inl ⟨by rfl, ?_⟩) ?_ ?_
                rotate_left
                · intro w'
                  go_simp
                  with_reducible rfl
                rotate_left
                · simp only [Act.put, List.setIfInBounds_toArray, List.set_cons_zero, List.set_cons_succ, i64_w, i32_w]
                  rfl
                refine pure_ (i := 3) (N := some 95) (v := ?_) (a' := ?_) #[true, true, true, true, false, false, false, false, false, false, false, false, false, false, false, false] rfl rfl (by kernel_rfl) (fun _ _ _ h => h) (Or.inl ⟨by rfl, ?_⟩) ?_ ?_
                rotate_left
                · intro w'
                  go_simp
                  with_reducible rfl
                rotate_left
                · simp only [Act.put, List.setIfInBounds_toArray, List.set_cons_zero, List.set_cons_succ, i64_w, i32_w]
                  rfl
                refine pure_ (i := 4) (N := some 96) (v := ?_) (a' := ?_) #[true, true, true, true, true, false, false, false, false, false, false, false, false, false, false, false] rfl rfl (by kernel_rfl) (fun _ _ _ h => h) (Or.inl ⟨by rfl, ?_⟩) ?_ ?_
                rotate_left
                · intro w'
                  go_simp
                  with_reducible rfl
                rotate_left
                · simp only [Act.put, List.setIfInBounds_toArray, List.set_cons_zero, List.set_cons_succ, i64_w, i32_w]
                  rfl
                refine pure_ (i := 7) (N := some 99) (v := ?_) (a' := ?_) #[true, true, true, true, true, false, false, true, false, false, false, false, false, false, false, false] rfl rfl (by kernel_rfl) (fun _ _ _ h => h) (Or.inl ⟨by rfl, ?_⟩) ?_ ?_
                rotate_left
                · intro w'
                  go_simp
                  with_reducible rfl
                rotate_left
                · simp only [Act.put, List.setIfInBounds_toArray, List.set_cons_zero, List.set_cons_succ, i64_w, i32_w]
                  rfl
                refine pure_ (i := 8) (N := some 100) (v := ?_) (a' := ?_) #[true, true, true, true, true, false, false, true, true, false, false, false, false, false, false, false] rfl rfl (by kernel_rfl) (fun _ _ _ h => h) (Or.inl ⟨by rfl, ?_⟩) ?_ ?_
                rotate_left
                · intro w'
                  go_simp
                  with_reducible rfl
                rotate_left
                · simp only [Act.put, List.setIfInBounds_toArray, List.set_cons_zero, List.set_cons_succ, i64_w, i32_w]
                  rfl
                refine pure_ (i := 9) (N := some 101) (v := ?_) (a' := ?_) #[true, true, true, true, true, false, false, true, true, true, false, false, false, false, false, false] rfl rfl (by kernel_rfl) (fun _ _ _ h => h) (Or.inl ⟨by rfl, ?_⟩) ?_ ?_
                rotate_left
                · intro w'
                  go_simp
                  with_reducible rfl
                rotate_left
                · simp only [Act.put, List.setIfInBounds_toArray, List.set_cons_zero, List.set_cons_succ, i64_w, i32_w]
                  rfl
                refine pure_ (i := 11) (N := some 103) (v := ?_) (a' := ?_) #[true, true, true, true, true, false, false, true, true, true, false, true, false, false, false, false] rfl rfl (by kernel_rfl) (fun _ _ _ h => h) (Or.inl ⟨by rfl, ?_⟩) ?_ ?_
                rotate_left
                · intro w'
                  go_simp
                  with_reducible rfl
                rotate_left
                · simp only [Act.put, List.setIfInBounds_toArray, List.set_cons_zero, List.set_cons_succ, i64_w, i32_w]
                  rfl
                refine pure_ (i := 12) (N := some 104) (v := ?_) (a' := ?_) #[true, true, true, true, true, false, false, true, true, true, false, true, true, false, false, false] rfl rfl (by kernel_rfl) (fun _ _ _ h => h) (Or.inl ⟨by rfl, ?_⟩) ?_ ?_
                rotate_left
                · intro w'
                  go_simp
                  with_reducible rfl
                rotate_left
                · simp only [Act.put, List.setIfInBounds_toArray, List.set_cons_zero, List.set_cons_succ, i64_w, i32_w]
                  rfl
                refine take_ (i := 10) (N := some 102) (v := ?_) (a' := ?_) #[true, true, true, true, true, false, false, true, true, true, true, true, true, false, false, false] rfl rfl (by kernel_rfl) (fun _ _ _ h => h) (Or.inl ⟨by rfl, ?_⟩) hHeld ?_ ?_
                rotate_left
                · rintro w' ⟨s0, s1, s2⟩
                  go_simp
                  with_reducible rfl
                rotate_left
                · simp only [Act.put, List.setIfInBounds_toArray, List.set_cons_zero, List.set_cons_succ, i64_w, i32_w]
                  rfl
                refine one_ (i := 5) (N := some 97) #[true, true, true, true, true, true, false, true, true, true, true, true, true, false, false, false] rfl rfl (by kernel_rfl) (by decide) (fun K hK => ?_)
                refine goes_ Try.func61 (by kernel_rfl) rfl #[.pointer (some ⟨gr, 0, none⟩), .int .i64 (m : Int), .int .i64 (k : Int)] (by rfl) rfl rfl (by simp only [List.map_toArray, List.map_cons, List.map_nil]; rfl) ?_
                with_reducible refine ((HRG.out _ HQ0.out.m).context (m : Int) (k : Int) (by omega) (by omega)).mono ?_
                rintro e X1 ⟨rfl, hb⟩
                refine ⟨_, rfl, ?_⟩
                have HQ1 := Aside0.mk (HQ0.out.below hb)
                clear hb
                refine hK.out _ _ ⟨(blk_cell (HRG.out _ HQ1.out.m).z 5).trans rfl, (blk_cell (HRG.out _ HQ1.out.m).z 6).trans rfl, (blk_cell (HRG.out _ HQ1.out.m).z 7).trans rfl⟩ (fun hHeld => ?_)
                clear hK K
                refine norm_ (a' := ?_) ?_ ?_
                rotate_left
                · show Act.put _ (some 97) _ = _
                  simp only [Act.put, List.setIfInBounds_toArray, List.set_cons_zero, List.set_cons_succ, i64_w, i32_w]
                  rfl
                refine pure_ (i := 6) (N := some 98) (v := ?_) (a' := ?_) #[true, true, true, true, true, true, true, true, true, true, true, true, true, false, false, false] rfl rfl (by kernel_rfl) (fun _ _ _ h => h) (Or.inl ⟨by rfl, ?_⟩) ?_ ?_
                rotate_left
                · intro w'
                  go_simp
                  with_reducible rfl
                rotate_left
                · simp only [Act.put, List.setIfInBounds_toArray, List.set_cons_zero, List.set_cons_succ, i64_w, i32_w]
                  rfl
                refine one_ (i := 13) (N := some 105) #[true, true, true, true, true, true, true, true, true, true, true, true, true, true, false, false] rfl rfl (by kernel_rfl) (by decide) (fun K hK => ?_)
                refine goes_ Try.func62 (by kernel_rfl) rfl #[.agg #[.int .i64 W, .int .i64 H, .slice AB P.length cB], .int .i64 (m : Int), .int .i64 (k : Int)] (by rfl) rfl rfl (by simp only [List.map_toArray, List.map_cons, List.map_nil]; rfl) ?_
                with_reducible refine ((HRG.out _ HQ1.out.m).at_ (m : Int) (k : Int)).mono ?_
                rintro e X2 ⟨rfl, hb⟩
                refine ⟨_, rfl, ?_⟩
                have HQ2 := Aside0.mk (HQ1.out.below hb)
                clear hb
                refine hK.out _ _ ⟨(blk_cell (HRG.out _ HQ2.out.m).z 5).trans rfl, (blk_cell (HRG.out _ HQ2.out.m).z 6).trans rfl, (blk_cell (HRG.out _ HQ2.out.m).z 7).trans rfl⟩ (fun hHeld => ?_)
                clear hK K
                refine norm_ (a' := ?_) ?_ ?_
                rotate_left
                · show Act.put _ (some 105) _ = _
                  simp only [Act.put, List.setIfInBounds_toArray, List.set_cons_zero, List.set_cons_succ, i64_w, i32_w]
                  rfl
                refine pure_ (i := 14) (N := some 106) (v := ?_) (a' := ?_) #[true, true, true, true, true, true, true, true, true, true, true, true, true, true, true, false] rfl rfl (by kernel_rfl) (fun _ _ _ h => h) (Or.inl ⟨by rfl, ?_⟩) ?_ ?_
                rotate_left
                · intro w'
                  go_simp
                  with_reducible rfl
                rotate_left
                · simp only [Act.put, List.setIfInBounds_toArray, List.set_cons_zero, List.set_cons_succ, i64_w, i32_w]
                  rfl
                refine one_ (i := 15) (N := some 107) #[true, true, true, true, true, true, true, true, true, true, true, true, true, true, true, true] rfl rfl (by kernel_rfl) (by decide) (fun K hK => ?_)
                refine goes_ Try.func28 (by kernel_rfl) rfl #[.pointer (some ⟨g, 0, none⟩), .int .i64 (wrap64 (base + ctxP t dx dy W H P RW RH RP (m : Int) (k : Int))), .int .i64 (wrap64 (px W H P (m : Int) (k : Int)))] (by rfl) rfl rfl (by simp only [List.map_toArray, List.map_cons, List.map_nil]; rfl) ?_
                with_reducible refine (HQ2.out.put_eq HLN.out (base + ctxP t dx dy W H P RW RH RP (m : Int) (k : Int)) (px W H P (m : Int) (k : Int)) (by rw [wrap_id] <;> omega) (by rw [wrap_id] <;> omega)).mono ?_
                rintro e X3 ⟨rfl, hP⟩
                refine ⟨_, rfl, ?_⟩
                have HQ3 := Aside0.mk hP
                clear hP
                refine hK.out _ _ ⟨(blk_cell (HRG.out _ HQ3.out.m).z 5).trans rfl, (blk_cell (HRG.out _ HQ3.out.m).z 6).trans rfl, (blk_cell (HRG.out _ HQ3.out.m).z 7).trans rfl⟩ (fun hHeld => ?_)
                clear hK K
                refine norm_ (a' := ?_) ?_ ?_
                rotate_left
                · show Act.put _ (some 107) _ = _
                  simp only [Act.put, List.setIfInBounds_toArray, List.set_cons_zero, List.set_cons_succ, i64_w, i32_w]
                  rfl
                refine done_ (by kernel_rfl) ?_
                go_wp2_with (fail)
                refine ⟨⟨m + 1, _, by omega, by go_num, HX2, ⟨?_⟩, HQ3⟩, by simp [intOf]; omega⟩
                have h1 := (ES.putI_len s2 (base + ctxP t dx dy W H P RW RH RP (m : Int) (k : Int)) (px W H P (m : Int) (k : Int))).1
                have h2 := HL2.out
                omega
              · have hX := HX.out
                rw [show W.toNat - m = (W.toNat - (m + 1)) + 1 by omega] at hX
                unfold evX at hX
                rw [if_pos ⟨rfl, HF.out⟩] at hX
                have hL := HL.out
                rw [show W.toNat - m = (W.toNat - (m + 1)) + 1 by omega] at hL
                unfold evX at hL
                rw [if_pos ⟨rfl, HF.out⟩] at hL
                have HX2 := Aside0.mk hX
                have HL2 := Aside0.mk hL
                clear hX hL
                go_wp2_with (fail)
                exact ⟨⟨m + 1, _, by omega, by go_num, HX2, HL2, HQ⟩, by simp [intOf]; omega⟩
            · have hX := HX.out
              rw [show W.toNat - m = 0 by omega] at hX
              simp only [evX, List.nil_append] at hX
              have hL := HL.out
              rw [show W.toNat - m = 0 by omega] at hL
              simp only [evX, List.length_nil, Nat.zero_add] at hL
              have HX2 := Aside0.mk hX
              have HL2 := Aside0.mk hL
              clear hX hL
              go_wp2_with (fail)
              exact ⟨⟨k + 1, _, by omega, by go_num, HX2, HL2, HQ⟩, by simp [intOf]; omega⟩
    · have hY := HY.out
      rw [show H.toNat - k = 0 by omega] at hY
      simp only [evY] at hY
      have hY2 : s1 = R1 := hY
      subst hY2
      clear hY
      go_wp2_with (fail)
      go_ret
      exact ⟨rfl, HP.out.rebase (HMk.out _ HD8.out) (fun k hk => ((HS8.out k hk).1).imp id (fun h => Nat.le_trans HB1.out.size h))⟩
end Go.Proofs.Ytkfejicdjpffcaa.Rpt
namespace Go.Proofs.Ytkfejicdjpffcaa.Rrp
open Go Go.RowKit Go.Proofs.YtkfejicdjpffcaaW.PrintWords Go.Proofs.YtkfejicdjpffcaaW.PrintLast Go.Proofs.YtkfejicdjpffcaaW.PrintMore Go.Proofs.Ytkfejicdjpffcaa.U Go.Proofs.Ytkfejicdjpffcaa.Aid Go.Proofs.Ytkfejicdjpffcaa.HandAid Go.Proofs.Ytkfejicdjpffcaa.Cod1 Go.Proofs.Ytkfejicdjpffcaa.Cod2 Go.Proofs.Ytkfejicdjpffcaa.Cod3 Go.Proofs.Ytkfejicdjpffcaa.Mod Go.Proofs.Ytkfejicdjpffcaa.NewRef Go.Proofs.Ytkfejicdjpffcaa.Enc Go.Proofs.Ytkfejicdjpffcaa.Mods Go.Proofs.Ytkfejicdjpffcaa.EncAt Go.Proofs.Ytkfejicdjpffcaa.Put Go.Proofs.Ytkfejicdjpffcaa.End Go.Proofs.Ytkfejicdjpffcaa.Snc Go.Proofs.Ytkfejicdjpffcaa.RefAt Go.Proofs.Ytkfejicdjpffcaa.RefPut Go.Proofs.Ytkfejicdjpffcaa.RefEnd Go.Proofs.Ytkfejicdjpffcaa.Pse Go.Proofs.Ytkfejicdjpffcaa.Pwk Go.Proofs.Ytkfejicdjpffcaa.Rpx Go.Proofs.Ytkfejicdjpffcaa.Rva Go.Proofs.Ytkfejicdjpffcaa.Rfl Go.Proofs.Ytkfejicdjpffcaa.Rcx Go.Proofs.Ytkfejicdjpffcaa.Rty Go.Proofs.Ytkfejicdjpffcaa.Rev Go.Proofs.Ytkfejicdjpffcaa.Rpt
end Go.Proofs.Ytkfejicdjpffcaa.Rrp
namespace Go.Proofs.Ytkfejicdjpffcaa.Ren
open Go Go.RowKit Go.Proofs.YtkfejicdjpffcaaW.PrintWords Go.Proofs.YtkfejicdjpffcaaW.PrintLast Go.Proofs.YtkfejicdjpffcaaW.PrintMore Go.Proofs.Ytkfejicdjpffcaa.U Go.Proofs.Ytkfejicdjpffcaa.Aid Go.Proofs.Ytkfejicdjpffcaa.HandAid Go.Proofs.Ytkfejicdjpffcaa.Cod1 Go.Proofs.Ytkfejicdjpffcaa.Cod2 Go.Proofs.Ytkfejicdjpffcaa.Cod3 Go.Proofs.Ytkfejicdjpffcaa.Mod Go.Proofs.Ytkfejicdjpffcaa.NewRef Go.Proofs.Ytkfejicdjpffcaa.Enc Go.Proofs.Ytkfejicdjpffcaa.Mods Go.Proofs.Ytkfejicdjpffcaa.EncAt Go.Proofs.Ytkfejicdjpffcaa.Put Go.Proofs.Ytkfejicdjpffcaa.End Go.Proofs.Ytkfejicdjpffcaa.Snc Go.Proofs.Ytkfejicdjpffcaa.RefAt Go.Proofs.Ytkfejicdjpffcaa.RefPut Go.Proofs.Ytkfejicdjpffcaa.RefEnd Go.Proofs.Ytkfejicdjpffcaa.Pse Go.Proofs.Ytkfejicdjpffcaa.Pwk Go.Proofs.Ytkfejicdjpffcaa.Rpx Go.Proofs.Ytkfejicdjpffcaa.Rva Go.Proofs.Ytkfejicdjpffcaa.Rfl Go.Proofs.Ytkfejicdjpffcaa.Rcx Go.Proofs.Ytkfejicdjpffcaa.Rty Go.Proofs.Ytkfejicdjpffcaa.Rev Go.Proofs.Ytkfejicdjpffcaa.Rpt Go.Proofs.Ytkfejicdjpffcaa.Rrp
/-- What Encode answers. -/
def encB (q : RQ) (kd : Int) (P : List Int) : List Int × Int := if okO q.t q.dx q.dy kd = true then (if okB q.W q.H P = true ∧ okB q.RW q.RH q.RP = true then ((putsI (newES kd (List.replicate (ctxs q.t + 1).toNat 0)) (evR q P)).end_, 0) else ([], 30)) else ([], 2)
/-- Bytes and an error are returned, the bytes in a row of their own. -/
def EBytes (w : World) (R : List Int × Int) (e : Ending) (W : World) : Prop := ∃ A c, e = .returned (.tuple #[.slice A R.1.length c, .int .i64 R.2]) ∧ Kd.R (Kd.int .u8) 5 W w.heap.size (fun _ => True) (.slice A R.1.length c) R.1 ∧ Below w.heap.size w W
theorem EBytes.bad (w W : World) (err : Int) (hb : Below w.heap.size w W) : EBytes w ([], err) (.returned (.tuple #[.slice none 0 0, .int .i64 err])) W := ⟨none, 0, rfl, Kd.R_nil _ _ W w.heap.size (fun _ => True), hb⟩
theorem stN_ok (t kd : Int) (hk : kd = 0 ∨ kd = 1) : okModel kd (List.replicate (ctxs t + 1).toNat 0) := by
  have hr := ctxs_range t
  have h := new_ok kd (ctxs t + 1) (by unfold newModel; rw [if_pos ⟨hk, by omega, by omega⟩])
  unfold newModel at h
  rw [if_pos ⟨hk, by omega, by omega⟩] at h
  exact h
theorem stN_fits (t : Int) : okF (List.replicate (ctxs t + 1).toNat (0 : Int)).length 0 t = true := by
  have hr := ctxs_range t
  rw [okF_iff, List.length_replicate]
  omega
set_option maxHeartbeats 2000000 in
set_option maxRecDepth 100000 in
theorem rencode_calls (w : World) (t dx dy : Int) (ty : Bool) (kd W H : Int) (AB : Option Addr) (cB : Nat) (P : List Int) (RW RH : Int) (AR : Option Addr) (cR : Nat) (RP : List Int) (hdx : -9223372036854775808 ≤ dx ∧ dx ≤ 9223372036854775807) (hdy : -9223372036854775808 ≤ dy ∧ dy ≤ 9223372036854775807) (hB : Kd.C (Kd.int .u8) w AB P.length P) (hcB : P.length ≤ cB) (hA : Kd.C (Kd.int .u8) w AR RP.length RP) (hcR : RP.length ≤ cR) (hbP : Bytes P) (hbR : Bytes RP) (R : List Int × Int) (hR : encB ⟨t, dx, dy, ty, W, H, RW, RH, RP, 0⟩ kd P = R) :
    Calls Try.prog 16 #[.agg #[.int .i64 t, .int .i64 dx, .int .i64 dy, .bool ty, .int .i64 kd], .agg #[.int .i64 W, .int .i64 H, .slice AB P.length cB], .agg #[.int .i64 RW, .int .i64 RH, .slice AR RP.length cR]] w (EBytes w R) := by
  have HB := Aside0.mk hB
  have HA := Aside0.mk hA
  have HbP := Aside0.mk hbP
  have HbR := Aside0.mk hbR
  have hmP : P.length ≤ 9223372036854775807 := Kd.C_max hB
  have hmR : RP.length ≤ 9223372036854775807 := Kd.C_max hA
  obtain ⟨q, hq⟩ : ∃ q : RQ, q = ⟨t, dx, dy, ty, W, H, RW, RH, RP, 0⟩ := ⟨_, rfl⟩
  rw [← hq] at hR
  have HQQ := Aside0.mk hq
  unfold encB at hR
  have e1 : okO q.t q.dx q.dy kd = okO t dx dy kd := by rw [hq]
  have e2 : okB q.W q.H P = okB W H P := by rw [hq]
  have e3 : okB q.RW q.RH q.RP = okB RW RH RP := by rw [hq]
  have e4 : ctxs q.t = ctxs t := by rw [hq]
  rw [e1, e2, e3, e4] at hR
  have HR := Aside0.mk hR
  have hu3 := Try.underlying23
  have hu4 := Try.underlying31
  have hu5 := Try.underlying45
  clear hB hA hbP hbR hR hq e1 e2 e3 e4
  go_enter Try.func16, Try.ntmps16
  go_wp2_with (fail)
  obtain ⟨b5, hb5⟩ : ∃ x, w.heap.size + 1 + 1 = x := ⟨_, rfl⟩
  obtain ⟨b4, hb4⟩ : ∃ x, w.heap.size + 1 = x := ⟨_, rfl⟩
  obtain ⟨b3, hb3⟩ : ∃ x, w.heap.size = x := ⟨_, rfl⟩
  obtain ⟨W1, hW1⟩ : ∃ x, ((w.alloc (.cells #[.int .i64 t, .int .i64 dx, .int .i64 dy, .bool ty, .int .i64 kd] 23)).alloc (.cells #[.int .i64 W, .int .i64 H, .slice AB P.length cB] 31)).alloc (.cells #[.int .i64 RW, .int .i64 RH, .slice AR RP.length cR] 31) = x := ⟨_, rfl⟩
  have HB1 := Aside0.mk (show Below w.heap.size w W1 from hW1 ▸ below_alloc (below_alloc (below_alloc (Below.refl _ _) _) _) _)
  have HZ5 := Aside0.mk (show W1.heap[b5]? = some (.cells #[.int .i64 RW, .int .i64 RH, .slice AR RP.length cR] 31 (0, 0)) by
    have h := heap_new ((w.alloc (.cells #[.int .i64 t, .int .i64 dx, .int .i64 dy, .bool ty, .int .i64 kd] 23)).alloc (.cells #[.int .i64 W, .int .i64 H, .slice AB P.length cB] 31)) (.cells #[.int .i64 RW, .int .i64 RH, .slice AR RP.length cR] 31)
    rw [World.size_alloc, World.size_alloc, hb5, hW1] at h
    exact h)
  have HZ4 := Aside0.mk (show W1.heap[b4]? = some (.cells #[.int .i64 W, .int .i64 H, .slice AB P.length cB] 31 (0, 0)) by
    have h := heap_new (w.alloc (.cells #[.int .i64 t, .int .i64 dx, .int .i64 dy, .bool ty, .int .i64 kd] 23)) (.cells #[.int .i64 W, .int .i64 H, .slice AB P.length cB] 31)
    rw [World.size_alloc, hb4] at h
    rw [← hW1]
    exact blk_alloc h _)
  have HZ3 := Aside0.mk (show W1.heap[b3]? = some (.cells #[.int .i64 t, .int .i64 dx, .int .i64 dy, .bool ty, .int .i64 kd] 23 (0, 0)) by
    have h := heap_new w (.cells #[.int .i64 t, .int .i64 dx, .int .i64 dy, .bool ty, .int .i64 kd] 23)
    rw [hb3] at h
    rw [← hW1]
    exact blk_alloc (blk_alloc h _) _)
  have HLT := Aside0.mk (show b3 < W1.heap.size ∧ b4 < W1.heap.size ∧ b5 < W1.heap.size from ⟨blk_lt HZ3.out, blk_lt HZ4.out, blk_lt HZ5.out⟩)
  rw [hb5, hb4, hb3, hW1]
  have HD1 := Aside0.mk (Below.refl W1.heap.size W1)
  clear hb3 hb4 hb5 hW1
  refine (refine_Valid.calls t dx dy ty kd _ _ (valid_eq t dx dy ty kd hdx hdy)).mono ?_
  rintro e W3 ⟨rfl, hb⟩
  have HD3 := Aside0.mk hb
  clear hb
  have hR := HR.out
  clear HR
  obtain ⟨vo, hvo⟩ : ∃ x, okO t dx dy kd = x := ⟨_, rfl⟩
  rw [hvo] at hR ⊢
  cases vo
  · rw [if_neg (show ¬ (false = true) by decide)] at hR
    subst hR
    clear hvo
    go_wp2_with (fail)
    go_ret2
    exact EBytes.bad _ _ _ (below_then HB1.out HB1.out.size HD3.out)
  rw [if_pos (show true = true from rfl)] at hR
  have hk := (okO_iff.1 hvo).2.1
  have HMO := Aside0.mk (model_eq t dx dy ty kd hvo)
  have HVO := Aside0.mk hvo
  have HK := Aside0.mk (stN_ok t kd hk)
  have HFT := Aside0.mk (stN_fits t)
  clear hvo hk
  generalize List.replicate (ctxs t + 1).toNat (0 : Int) = st at hR HMO HK HFT
  have HR := Aside0.mk hR
  clear hR
  have q30 : W3.cell? ⟨b3, 0, none⟩ = some (.int .i64 t) := (blk_cell (blk_below HZ3.out HD3.out) 0).trans rfl
  have q31 : W3.cell? ⟨b3, 1, none⟩ = some (.int .i64 dx) := (blk_cell (blk_below HZ3.out HD3.out) 1).trans rfl
  have q32 : W3.cell? ⟨b3, 2, none⟩ = some (.int .i64 dy) := (blk_cell (blk_below HZ3.out HD3.out) 2).trans rfl
  have q33 : W3.cell? ⟨b3, 3, none⟩ = some (.bool ty) := (blk_cell (blk_below HZ3.out HD3.out) 3).trans rfl
  have q34 : W3.cell? ⟨b3, 4, none⟩ = some (.int .i64 kd) := (blk_cell (blk_below HZ3.out HD3.out) 4).trans rfl
  go_wp2_with (fail)
  refine (refine_model.calls t dx dy ty kd kd st _ HMO.out).mono ?_
  rintro e W4 ⟨v, rfl, hRv, hb⟩
  obtain ⟨Am, cm, rfl⟩ := Kd.R_slice hRv
  have HD4 := Aside0.mk (below_then HD3.out HD3.out.size hb)
  have hcm := (Kd.R_reads' hRv).2.1
  have HCM := Aside0.mk (Kd.R_reads' hRv).2.2
  clear hRv hb q30 q31 q32 q33 q34
  go_wp2_with (fail)
  refine (new_enc Am cm kd st _ HCM.out hcm HK.out).mono ?_
  rintro e W5 ⟨g, rfl, hE, hb⟩
  have HD5 := Aside0.mk (below_then HD4.out HD4.out.size hb)
  have HE := Aside0.mk hE
  have HSI := Aside0.mk (show ∀ k, Since W4.heap.size W5 k → w.heap.size ≤ k from fun k hk => Nat.le_trans (Nat.le_trans HB1.out.size HD4.out.size) hk.1)
  have HSL := Aside0.mk (show ∀ k, Since W4.heap.size W5 k → k < W5.heap.size from fun k hk => hk.2)
  have HBV := Aside0.mk (show ∀ V, Mods W5 V (Since W4.heap.size W5) → Below w.heap.size w V from fun V hV => below_mods (below_then HB1.out HB1.out.size HD5.out) hV HSI.out (Nat.le_trans HB1.out.size HD5.out.size))
  generalize Since W4.heap.size W5 = S at HE HSI HSL HBV
  clear hE hb HCM hcm
  have q30 : W5.cell? ⟨b3, 0, none⟩ = some (.int .i64 t) := (blk_cell (blk_below HZ3.out HD5.out) 0).trans rfl
  have q31 : W5.cell? ⟨b3, 1, none⟩ = some (.int .i64 dx) := (blk_cell (blk_below HZ3.out HD5.out) 1).trans rfl
  have q32 : W5.cell? ⟨b3, 2, none⟩ = some (.int .i64 dy) := (blk_cell (blk_below HZ3.out HD5.out) 2).trans rfl
  have q33 : W5.cell? ⟨b3, 3, none⟩ = some (.bool ty) := (blk_cell (blk_below HZ3.out HD5.out) 3).trans rfl
  have q34 : W5.cell? ⟨b3, 4, none⟩ = some (.int .i64 kd) := (blk_cell (blk_below HZ3.out HD5.out) 4).trans rfl
  have q40 : W5.cell? ⟨b4, 0, none⟩ = some (.int .i64 W) := (blk_cell (blk_below HZ4.out HD5.out) 0).trans rfl
  have q41 : W5.cell? ⟨b4, 1, none⟩ = some (.int .i64 H) := (blk_cell (blk_below HZ4.out HD5.out) 1).trans rfl
  have q42 : W5.cell? ⟨b4, 2, none⟩ = some (.slice AB P.length cB) := (blk_cell (blk_below HZ4.out HD5.out) 2).trans rfl
  have q50 : W5.cell? ⟨b5, 0, none⟩ = some (.int .i64 RW) := (blk_cell (blk_below HZ5.out HD5.out) 0).trans rfl
  have q51 : W5.cell? ⟨b5, 1, none⟩ = some (.int .i64 RH) := (blk_cell (blk_below HZ5.out HD5.out) 1).trans rfl
  have q52 : W5.cell? ⟨b5, 2, none⟩ = some (.slice AR RP.length cR) := (blk_cell (blk_below HZ5.out HD5.out) 2).trans rfl
  go_wp2_with (fail)
  refine (rput_calls W5 S g (newES kd st) 0 t dx dy ty kd W H AB cB P RW RH AR cR RP HE.out HSL.out (newES_ok HK.out) (by show (0 : Nat) ≤ _; omega) hdx hdy (fun V hV => Kd.C_below HB.out (HBV.out V hV)) hcB (fun V hV => Kd.C_below HA.out (HBV.out V hV)) hcR HbP.out HbR.out q HQQ.out _ rfl).mono ?_
  rintro e W6 ⟨rfl, hP⟩
  have HP := Aside0.mk hP
  clear hP HE q30 q31 q32 q33 q34 q40 q41 q42 q50 q51 q52
  have hpe : putErr q kd P (newES kd st).st.length = if okB W H P = true ∧ okB RW RH RP = true then 0 else 30 := by
    unfold putErr
    rw [HQQ.out]
    simp only
    rw [if_pos HVO.out, if_pos (show okF (newES kd st).st.length 0 t = true from HFT.out)]
  have hR := HR.out
  clear HR
  by_cases hbb : okB W H P = true ∧ okB RW RH RP = true
  · rw [if_pos hbb] at hR hpe
    have hpr : putR q kd P (newES kd st) = (putsI (newES kd st) (evR q P), 0) := by unfold putR; rw [hpe, if_pos rfl]
    rw [hpr] at HP ⊢
    have hbm := (okB_bm HbP.out hbb.1).1
    have hlo : (putsI (newES kd st) (evR q P)).out.length ≤ 1099511627880 := by
      have h1 := putsI_out (evR q P) (newES kd st)
      have h2 := evR_len q P (by rw [HQQ.out]; exact hbm.w.2) (by rw [HQQ.out]; exact hbm.h.2)
      have h3 : (newES kd st).out.length = 0 := rfl
      omega
    generalize putsI (newES kd st) (evR q P) = s6 at hR HP hlo ⊢
    subst hR
    clear hpr hpe hbb hbm
    simp only
    go_wp2_with (fail)
    refine (end_calls W6 _ g s6 HP.out.e HP.out.ok hlo).mono ?_
    rintro e W7 ⟨A7, c7, rfl, hR7, hb7⟩
    have HB6 := Aside0.mk (HBV.out _ HP.out.m)
    have HR7 := Aside0.mk (Kd.R_lower hR7 HB6.out.size)
    have HB7 := Aside0.mk (below_then HB6.out HB6.out.size hb7)
    clear hR7 hb7
    go_wp2_with (fail)
    go_ret2
    exact ⟨A7, c7, rfl, HR7.out, HB7.out⟩
  · rw [if_neg hbb] at hR hpe
    have hpr : putR q kd P (newES kd st) = (newES kd st, 30) := by unfold putR; rw [hpe, if_neg (by decide)]
    rw [hpr] at HP ⊢
    subst hR
    clear hpr hpe hbb
    simp only
    go_wp2_with (fail)
    go_ret2
    exact EBytes.bad _ _ _ (HBV.out _ HP.out.m)
end Go.Proofs.Ytkfejicdjpffcaa.Ren
namespace Go.Proofs.Ytkfejicdjpffcaa.Rdv
open Go Go.RowKit Go.Proofs.YtkfejicdjpffcaaW.PrintWords Go.Proofs.YtkfejicdjpffcaaW.PrintLast Go.Proofs.YtkfejicdjpffcaaW.PrintMore Go.Proofs.Ytkfejicdjpffcaa.U Go.Proofs.Ytkfejicdjpffcaa.Aid Go.Proofs.Ytkfejicdjpffcaa.HandAid Go.Proofs.Ytkfejicdjpffcaa.Cod1 Go.Proofs.Ytkfejicdjpffcaa.Cod2 Go.Proofs.Ytkfejicdjpffcaa.Cod3 Go.Proofs.Ytkfejicdjpffcaa.Mod Go.Proofs.Ytkfejicdjpffcaa.NewRef Go.Proofs.Ytkfejicdjpffcaa.Enc Go.Proofs.Ytkfejicdjpffcaa.Mods Go.Proofs.Ytkfejicdjpffcaa.EncAt Go.Proofs.Ytkfejicdjpffcaa.Put Go.Proofs.Ytkfejicdjpffcaa.End Go.Proofs.Ytkfejicdjpffcaa.Snc Go.Proofs.Ytkfejicdjpffcaa.Dec Go.Proofs.Ytkfejicdjpffcaa.Get Go.Proofs.Ytkfejicdjpffcaa.DecNew Go.Proofs.Ytkfejicdjpffcaa.RefAt Go.Proofs.Ytkfejicdjpffcaa.RDec Go.Proofs.Ytkfejicdjpffcaa.RDecNew Go.Proofs.Ytkfejicdjpffcaa.Isk Go.Proofs.Ytkfejicdjpffcaa.Pse Go.Proofs.Ytkfejicdjpffcaa.Rpx Go.Proofs.Ytkfejicdjpffcaa.Rva Go.Proofs.Ytkfejicdjpffcaa.Rfl Go.Proofs.Ytkfejicdjpffcaa.Rcx Go.Proofs.Ytkfejicdjpffcaa.Rty Go.Proofs.Ytkfejicdjpffcaa.Rev
/-- A row's pixels are told, from pixel i on: the decoder, the pixels, the error. -/
def rowD (q : RQ) (y : Int) (typ : Int) : Nat → Nat → DS → List Int → DS × List Int × Int
  | 0, _, s, P => (s, P, 0)
  | d + 1, i, s, P =>
    if typ = 1 ∧ (q.flat i y).2 = true then rowD q y typ d (i + 1) s (P.set (y * q.W + i).toNat (q.flat i y).1)
    else if (s.getI (q.base + q.ctx P i y)).2.2 = 0 then rowD q y typ d (i + 1) (s.getI (q.base + q.ctx P i y)).1 (P.set (y * q.W + i).toNat (s.getI (q.base + q.ctx P i y)).2.1)
    else ((s.getI (q.base + q.ctx P i y)).1, P, (s.getI (q.base + q.ctx P i y)).2.2)
/-- A row, with what stands ahead of it. -/
def rowH (q : RQ) (y : Int) (s : DS) (P : List Int) : DS × List Int × Int :=
  if q.ty = true then (if (s.getI (q.base + ctxs q.t)).2.2 = 0 then rowD q y (s.getI (q.base + ctxs q.t)).2.1 q.W.toNat 0 (s.getI (q.base + ctxs q.t)).1 P else ((s.getI (q.base + ctxs q.t)).1, P, (s.getI (q.base + ctxs q.t)).2.2))
  else rowD q y 0 q.W.toNat 0 s P
/-- The rows from j on. -/
def rowsD (q : RQ) : Nat → Nat → DS → List Int → DS × List Int × Int
  | 0, _, s, P => (s, P, 0)
  | d + 1, j, s, P => if (rowH q j s P).2.2 = 0 then rowsD q d (j + 1) (rowH q j s P).1 (rowH q j s P).2.1 else rowH q j s P
def getErr (q : RQ) (kd : Int) (n : Nat) : Int := if okO q.t q.dx q.dy kd = true then (if okS q.W q.H = true ∧ okB q.RW q.RH q.RP = true then (if okF n q.base q.t = true then 0 else 2) else 30) else 2
/-- What Get answers: the decoder, sides and pixels, the error. -/
def getD (q : RQ) (kd : Int) (s : DS) : DS × (Int × Int × List Int) × Int :=
  if getErr q kd s.st.length = 0 then
    (if (rowsD q q.H.toNat 0 s (List.replicate (q.W * q.H).toNat 0)).2.2 = 0 then ((rowsD q q.H.toNat 0 s (List.replicate (q.W * q.H).toNat 0)).1, (q.W, q.H, (rowsD q q.H.toNat 0 s (List.replicate (q.W * q.H).toNat 0)).2.1), 0)
     else ((rowsD q q.H.toNat 0 s (List.replicate (q.W * q.H).toNat 0)).1, (0, 0, []), (rowsD q q.H.toNat 0 s (List.replicate (q.W * q.H).toNat 0)).2.2))
  else (s, (0, 0, []), getErr q kd s.st.length)
theorem bm_set {W H : Int} {P : List Int} (b : Bm W H P) (i : Nat) {x : Int} (hx : x = 0 ∨ x = 1) : Bm W H (P.set i x) :=
  ⟨b.w, b.h, by rw [List.length_set]; exact b.n, fun v hv => by
    rcases List.mem_or_eq_of_mem_set hv with h | h
    · exact b.p v h
    · rw [h]; exact hx⟩
theorem bm_new {W H : Int} (h : okS W H = true) : Bm W H (List.replicate (W * H).toNat 0) := by
  have hs := okS_iff.1 h
  have ha := area hs.1 hs.2.1 hs.2.2.1 hs.2.2.2.1
  exact ⟨⟨hs.1, hs.2.1⟩, ⟨hs.2.2.1, hs.2.2.2.1⟩, by rw [List.length_replicate]; omega, fun v hv => .inl (List.eq_of_mem_replicate hv)⟩
/-- A decoder and the row of pixels that is being written. -/
structure GX (At : World → (Nat → Prop) → Nat → DS → Prop) (w0 : World) (S T : Nat → Prop) (B : Nat) (gd : Nat) (s : DS) (v : Value) (P : List Int) (W : World) : Prop where
  d : At W S gd s
  p : Kd.R (Kd.int .u8) 5 W B T v P
  m : Mods w0 W (fun k => S k ∨ T k)
  ok : s.ok
section
variable {At : World → (Nat → Prop) → Nat → DS → Prop} [AtL At] {w0 W W' : World} {S T : Nat → Prop} {B gd : Nat} {s s' : DS} {v : Value} {P : List Int}
theorem GX.below (H : GX At w0 S T B gd s v P W) (hb : Below W.heap.size W W') : GX At w0 S T B gd s v P W' := ⟨AtL.below H.d hb, Kd.R_below H.p hb, H.m.below hb, H.ok⟩
omit [AtL At] in
theorem GX.next (H : GX At w0 S T B gd s v P W) (hST : ∀ k, T k → ¬ S k) (hE : At W' S gd s') (hM : Mods W W' S) (ok' : s'.ok) : GX At w0 S T B gd s' v P W' :=
  ⟨hE, Kd.R_kept H.p hM.kept hST, H.m.then_ hM (fun k hk => .inl (.inl hk)), ok'⟩
omit [AtL At] in
theorem GX.form (H : GX At w0 S T B gd s v P W) (hp : 0 < P.length) : ∃ g c, v = .slice (some ⟨g, 0, none⟩) P.length c ∧ T g ∧ g < W.heap.size := by
  obtain ⟨g, c, he, _, hl, _⟩ := Kd.R_form H.p hp
  exact ⟨g, c, he, H.p.1 g (by rw [he]; simp [Value.ownBlock]), hl⟩
end
theorem GX.get {w0 W : World} {S T : Nat → Prop} {B gd : Nat} {s : DS} {v : Value} {P : List Int} (H : GX DecAt w0 S T B gd s v P W) (hS : ∀ k, S k → k < w0.heap.size) (hST : ∀ k, T k → ¬ S k) (i : Int) {i' : Int} (hi : i' = i) :
    Calls Try.prog 35 #[.pointer (some ⟨gd, 0, none⟩), .int .i64 i'] W fun e W' => e = .returned (.tuple #[.int .i64 (s.getI i).2.1, .int .i64 (s.getI i).2.2]) ∧ GX DecAt w0 S T B gd (s.getI i).1 v P W' := by
  subst hi
  refine (get_calls W S gd s _ H.d (fun k hk => Nat.lt_of_lt_of_le (hS k hk) H.m.size) H.ok).mono ?_
  rintro e W' ⟨he, hE, hM⟩
  exact ⟨he, H.next hST hE hM (DS.getI_ok H.ok _)⟩
/-- A pixel is written. -/
theorem GX.set {At : World → (Nat → Prop) → Nat → DS → Prop} [AtL At] {w0 W : World} {S T : Nat → Prop} {B gd g c n : Nat} {s : DS} {P : List Int} (H : GX At w0 S T B gd s (.slice (some ⟨g, 0, none⟩) n c) P W) (hn : n = P.length) (hST : ∀ k, T k → ¬ S k) (hT : T g) (i : Nat) (x : Int) : GX At w0 S T B gd s (.slice (some ⟨g, 0, none⟩) n c) (P.set i x) (W.setCell ⟨g, i, none⟩ (.int .u8 x)) := by
  subst hn
  have h2 : Mods W (W.setCell ⟨g, i, none⟩ (.int .u8 x)) (fun k => k = g) := (Mods.refl W (fun k => k = g)).setCell (p := ⟨g, i, none⟩) (.inl rfl) _
  have h3 := (Kd.R_put (enc := Value.int .u8) H.p (i : Int) x).1
  rw [Int.toNat_natCast] at h3
  exact ⟨AtL.kept H.d h2 (fun k hk hk2 => hST g hT (hk2 ▸ hk)), h3, H.m.then_ h2 (fun k hk => .inl (.inr (hk ▸ hT))), H.ok⟩
theorem GX.cell {At : World → (Nat → Prop) → Nat → DS → Prop} {w0 W : World} {S T : Nat → Prop} {B gd g c n : Nat} {s : DS} {P : List Int} (H : GX At w0 S T B gd s (.slice (some ⟨g, 0, none⟩) n c) P W) (hn : n = P.length) (i : Nat) (hi : i < P.length) : W.cell? ⟨g, i, none⟩ = some (.int .u8 (rdOf 0 P (i : Int))) ∧ W.frozen? ⟨g, i, none⟩ = false := by
  subst hn
  have h1 := Kd.R_cell (0 : Int) H.p (i : Int) (by omega) (by omega)
  rw [Int.toNat_natCast] at h1
  exact h1
theorem rowD_len (q : RQ) (y typ : Int) : ∀ (d i : Nat) (s : DS) (P : List Int), (rowD q y typ d i s P).2.1.length = P.length ∧ (rowD q y typ d i s P).1.st.length = s.st.length
  | 0, i, s, P => ⟨rfl, rfl⟩
  | d + 1, i, s, P => by
    unfold rowD
    split
    · have h := rowD_len q y typ d (i + 1) s (P.set (y * q.W + i).toNat (q.flat i y).1)
      rw [List.length_set] at h
      exact h
    · split
      · have h := rowD_len q y typ d (i + 1) (s.getI (q.base + q.ctx P i y)).1 (P.set (y * q.W + i).toNat (s.getI (q.base + q.ctx P i y)).2.1)
        rw [List.length_set, getI_len] at h
        exact h
      · exact ⟨rfl, getI_len _ _⟩
theorem flatF_01 {W H : Int} {P : List Int} (b : Bm W H P) (x y c : Int) (hc : c = 0 ∨ c = 1) : ∀ d i, (flatF W H P x y c d i).1 = 0 ∨ (flatF W H P x y c d i).1 = 1
  | 0, i => hc
  | d + 1, i => by
    unfold flatF
    split
    · exact flatF_01 b x y c hc d (i + 1)
    · exact .inl rfl
theorem flatP_01 {W H : Int} {P : List Int} (b : Bm W H P) (x y : Int) : (flatP W H P x y).1 = 0 ∨ (flatP W H P x y).1 = 1 := flatF_01 b x y _ (px_01 b x y) 9 0
theorem rowD_bm (q : RQ) (br : Bm q.RW q.RH q.RP) (y typ : Int) : ∀ (d i : Nat) (s : DS) (P : List Int), Bm q.W q.H P → Bm q.W q.H (rowD q y typ d i s P).2.1
  | 0, i, s, P, b => b
  | d + 1, i, s, P, b => by
    unfold rowD
    split
    · exact rowD_bm q br y typ d (i + 1) s _ (bm_set b _ (flatP_01 br _ _))
    · split
      · have := bit_range s (q.base + q.ctx P i y)
        exact rowD_bm q br y typ d (i + 1) _ _ (bm_set b _ (by omega))
      · exact b
theorem rowH_bm (q : RQ) (br : Bm q.RW q.RH q.RP) (y : Int) (s : DS) (P : List Int) (b : Bm q.W q.H P) : Bm q.W q.H (rowH q y s P).2.1 := by
  unfold rowH
  split
  · split
    · exact rowD_bm q br y _ _ _ _ _ b
    · exact b
  · exact rowD_bm q br y _ _ _ _ _ b
theorem rowH_len (q : RQ) (y : Int) (s : DS) (P : List Int) : (rowH q y s P).2.1.length = P.length ∧ (rowH q y s P).1.st.length = s.st.length := by
  unfold rowH
  split
  · split
    · have h := rowD_len q y (s.getI (q.base + ctxs q.t)).2.1 q.W.toNat 0 (s.getI (q.base + ctxs q.t)).1 P
      rw [getI_len] at h
      exact h
    · exact ⟨rfl, getI_len _ _⟩
  · exact rowD_len q y 0 q.W.toNat 0 s P
end Go.Proofs.Ytkfejicdjpffcaa.Rdv
