import Derived.Test.YtlnhahnnjbfjdaaAid
import Derived.Test.YtlnhahnnjbfjdaaHandAid
import Derived.Test.YtlnhahnnjbfjdaaNum
-- needs: Aid HandAid Num
import Derived.Test.YtlnhahnnjbfjdaaGotEvents
import Derived.Test.YtlnhahnnjbfjdaaPNumberEventsx4
namespace Go.Proofs.Ytlnhahnnjbfjdaa.Evs
open Go Go.RowKit Go.Proofs.YtlnhahnnjbfjdaaW.PrintWords Go.Proofs.YtlnhahnnjbfjdaaW.PrintLast Go.Proofs.YtlnhahnnjbfjdaaW.PrintMore Go.Proofs.Ytlnhahnnjbfjdaa.Aid Go.Proofs.Ytlnhahnnjbfjdaa.HandAid Go.Proofs.Ytlnhahnnjbfjdaa.PNumberEvents Go.Proofs.Ytlnhahnnjbfjdaa.Num
set_option linter.unusedVariables false
set_option linter.unusedSimpArgs false
/-- Whether a number is one, or none. -/
def okNum (nn : Bool) (n : Int) : Bool := if nn = true then n == 0 else decide (-1048576 ≤ n) && decide (n ≤ 1048576)
theorem valid_eq (nn : Bool) (n : Int) : number_Valid.f nn n = some (okNum nn n) := by
  unfold number_Valid.f okNum
  cases nn
  · simp only [Bool.false_eq_true, if_false]
    by_cases h : n ≥ -1048576
    · rw [if_pos h, decide_eq_true (show -1048576 ≤ n from h)]; rfl
    · rw [if_neg h, decide_eq_false (show ¬ -1048576 ≤ n from h)]; rfl
  · rfl
theorem ref_valid_eq (nn : Bool) (n : Int) : incunableref03_Valid.f nn n = some (okNum nn n) := valid_eq nn n
/-- The events of a number, or of none. -/
def evAll (base : Int) (nn : Bool) (n : Int) : List S87 := if nn = true then [⟨base, 1⟩] else evList base n
theorem events_all (base n : Int) (nn : Bool) (w : World) (hb0 : 0 ≤ base) (hb1 : base ≤ 1000000) (hok : okNum nn n = true) : Calls Try.prog 45 #[.int .i64 base, .agg #[.bool nn, .int .i64 n]] w fun e w' => ∃ v, e = .returned v ∧ Kd.R k87 87 w' w.heap.size (fun _ => True) v (evAll base nn n) ∧ Below w.heap.size w w' := by
  cases nn
  · unfold okNum at hok
    simp only [Bool.false_eq_true, if_false, Bool.and_eq_true, decide_eq_true_eq] at hok
    exact events_calls base n w hb0 hb1 hok.1 hok.2
  · exact events_none base n w
def evRes (base : Int) (nn : Bool) (n : Int) : List S87 × Int := if okNum nn n = true ∧ 0 ≤ base ∧ base ≤ 8144 then (evAll base nn n, 0) else ([], 2)
set_option maxHeartbeats 4000000 in
set_option maxRecDepth 100000 in
theorem Events_calls (base n : Int) (nn : Bool) (w : World) : Calls Try.prog 10 #[.int .i64 base, .agg #[.bool nn, .int .i64 n]] w fun e w' => ∃ v, e = .returned (.tuple #[v, .int .i64 (evRes base nn n).2]) ∧ Kd.R k87 87 w' w.heap.size (fun _ => True) v (evRes base nn n).1 ∧ Below w.heap.size w w' := by
  have HB := Aside0.mk (Below.refl w.heap.size w)
  have hu := Try.underlying23
  by_cases hok : okNum nn n = true
  · by_cases hb0 : 0 ≤ base
    · by_cases hb1 : base ≤ 8144
      · have he : evRes base nn n = (evAll base nn n, 0) := if_pos ⟨hok, hb0, hb1⟩
        rw [he]
        have hok' := hok
        go_enter Try.func10, Try.ntmps10
        go_wp2_with (first | ((with_reducible refine gate_dst (N := 3) rfl ?_); refine box_event ?hg (N := 3) ?hd (cs := #[.bool nn, .int .i64 n]) (t := 23) ?hr ?_; (case hd => rfl); (case hg => rfl); (case hr => first | (go_simp; done) | (go_simp; rfl)); intro gb hg wb hbox hb; have n0_ := Aside0.mk (below_step (by repeat (first | (with_reducible first | exact HB.out | apply below_alloc | apply pw_below_drewN | apply below_drew1 | refine below_set ?_ GE.out) | exact HB.out)) hb); have n1_ := Aside0.mk (hbox); have n2_ := Aside0.mk ((by rw [hg]; exact (below_size (by repeat (first | (with_reducible first | exact HB.out | apply below_alloc | apply pw_below_drewN | apply below_drew1 | refine below_set ?_ GE.out) | exact HB.out))) : w.heap.size ≤ gb)); clear HB; have HB := n0_; have BK := n1_; have GE := n2_; clear n0_ n1_ n2_; clear hb hbox hg; have hcz0 : wb.cell? ⟨gb, 0, none⟩ = some (.bool nn) := (blk_cell BK.out 0).trans rfl; have hcz1 : wb.cell? ⟨gb, 1, none⟩ = some (.int .i64 n) := (blk_cell BK.out 1).trans rfl; have hfz0 := blk_frozen BK.out 0; have hfz1 := blk_frozen BK.out 1) | (go_at_call 13; refine (number_Valid.calls nn n _ _ (valid_eq nn n)).mono ?_; rintro e wv ⟨rfl, hv⟩; have n1_ := Aside0.mk (blk_below BK.out hv); have n2_ := Aside0.mk (below_step HB.out hv); clear BK HB hv; have BK := n1_; have HB := n2_; clear n1_ n2_; have hcv0 : wv.cell? ⟨gb, 0, none⟩ = some (.bool nn) := (blk_cell BK.out 0).trans rfl; have hcv1 : wv.cell? ⟨gb, 1, none⟩ = some (.int .i64 n) := (blk_cell BK.out 1).trans rfl; have hfv0 := blk_frozen BK.out 0; have hfv1 := blk_frozen BK.out 1) | (go_at_call 45; refine (events_all base n nn _ hb0 (by omega) hok').mono ?_; rintro e we ⟨v, rfl, hR, hE⟩; have HR := Aside0.mk (Kd.R_lower hR (below_size HB.out)); have n2_ := Aside0.mk (below_step HB.out hE); clear hR hE HB; have HB := n2_; clear n2_))
        go_ret2
        exact ⟨v, rfl, HR.out, HB.out⟩
      · have he : evRes base nn n = ([], 2) := if_neg (fun h => hb1 h.2.2)
        rw [he]
        go_enter Try.func10, Try.ntmps10
        go_wp2_with (first | ((with_reducible refine gate_dst (N := 3) rfl ?_); refine box_event ?hg (N := 3) ?hd (cs := #[.bool nn, .int .i64 n]) (t := 23) ?hr ?_; (case hd => rfl); (case hg => rfl); (case hr => first | (go_simp; done) | (go_simp; rfl)); intro gb hg wb hbox hb; have n0_ := Aside0.mk (below_step (by repeat (first | (with_reducible first | exact HB.out | apply below_alloc | apply pw_below_drewN | apply below_drew1 | refine below_set ?_ GE.out) | exact HB.out)) hb); have n1_ := Aside0.mk (hbox); have n2_ := Aside0.mk ((by rw [hg]; exact (below_size (by repeat (first | (with_reducible first | exact HB.out | apply below_alloc | apply pw_below_drewN | apply below_drew1 | refine below_set ?_ GE.out) | exact HB.out))) : w.heap.size ≤ gb)); clear HB; have HB := n0_; have BK := n1_; have GE := n2_; clear n0_ n1_ n2_; clear hb hbox hg; have hcz0 : wb.cell? ⟨gb, 0, none⟩ = some (.bool nn) := (blk_cell BK.out 0).trans rfl; have hcz1 : wb.cell? ⟨gb, 1, none⟩ = some (.int .i64 n) := (blk_cell BK.out 1).trans rfl; have hfz0 := blk_frozen BK.out 0; have hfz1 := blk_frozen BK.out 1) | (go_at_call 13; refine (number_Valid.calls nn n _ _ (valid_eq nn n)).mono ?_; rintro e wv ⟨rfl, hv⟩; have n1_ := Aside0.mk (blk_below BK.out hv); have n2_ := Aside0.mk (below_step HB.out hv); clear BK HB hv; have BK := n1_; have HB := n2_; clear n1_ n2_; have hcv0 : wv.cell? ⟨gb, 0, none⟩ = some (.bool nn) := (blk_cell BK.out 0).trans rfl; have hcv1 : wv.cell? ⟨gb, 1, none⟩ = some (.int .i64 n) := (blk_cell BK.out 1).trans rfl; have hfv0 := blk_frozen BK.out 0; have hfv1 := blk_frozen BK.out 1))
        go_ret2
        exact ⟨_, rfl, Kd.R_nil _ _ _ _ _, HB.out⟩
    · have he : evRes base nn n = ([], 2) := if_neg (fun h => hb0 h.2.1)
      rw [he]
      go_enter Try.func10, Try.ntmps10
      go_wp2_with (first | ((with_reducible refine gate_dst (N := 3) rfl ?_); refine box_event ?hg (N := 3) ?hd (cs := #[.bool nn, .int .i64 n]) (t := 23) ?hr ?_; (case hd => rfl); (case hg => rfl); (case hr => first | (go_simp; done) | (go_simp; rfl)); intro gb hg wb hbox hb; have n0_ := Aside0.mk (below_step (by repeat (first | (with_reducible first | exact HB.out | apply below_alloc | apply pw_below_drewN | apply below_drew1 | refine below_set ?_ GE.out) | exact HB.out)) hb); have n1_ := Aside0.mk (hbox); have n2_ := Aside0.mk ((by rw [hg]; exact (below_size (by repeat (first | (with_reducible first | exact HB.out | apply below_alloc | apply pw_below_drewN | apply below_drew1 | refine below_set ?_ GE.out) | exact HB.out))) : w.heap.size ≤ gb)); clear HB; have HB := n0_; have BK := n1_; have GE := n2_; clear n0_ n1_ n2_; clear hb hbox hg; have hcz0 : wb.cell? ⟨gb, 0, none⟩ = some (.bool nn) := (blk_cell BK.out 0).trans rfl; have hcz1 : wb.cell? ⟨gb, 1, none⟩ = some (.int .i64 n) := (blk_cell BK.out 1).trans rfl; have hfz0 := blk_frozen BK.out 0; have hfz1 := blk_frozen BK.out 1) | (go_at_call 13; refine (number_Valid.calls nn n _ _ (valid_eq nn n)).mono ?_; rintro e wv ⟨rfl, hv⟩; have n1_ := Aside0.mk (blk_below BK.out hv); have n2_ := Aside0.mk (below_step HB.out hv); clear BK HB hv; have BK := n1_; have HB := n2_; clear n1_ n2_; have hcv0 : wv.cell? ⟨gb, 0, none⟩ = some (.bool nn) := (blk_cell BK.out 0).trans rfl; have hcv1 : wv.cell? ⟨gb, 1, none⟩ = some (.int .i64 n) := (blk_cell BK.out 1).trans rfl; have hfv0 := blk_frozen BK.out 0; have hfv1 := blk_frozen BK.out 1))
      go_ret2
      exact ⟨_, rfl, Kd.R_nil _ _ _ _ _, HB.out⟩
  · have he : evRes base nn n = ([], 2) := if_neg (fun h => hok h.1)
    have hok2 : okNum nn n = false := Bool.eq_false_iff.mpr hok
    rw [he]
    go_enter Try.func10, Try.ntmps10
    go_wp2_with (first | ((with_reducible refine gate_dst (N := 3) rfl ?_); refine box_event ?hg (N := 3) ?hd (cs := #[.bool nn, .int .i64 n]) (t := 23) ?hr ?_; (case hd => rfl); (case hg => rfl); (case hr => first | (go_simp; done) | (go_simp; rfl)); intro gb hg wb hbox hb; have n0_ := Aside0.mk (below_step (by repeat (first | (with_reducible first | exact HB.out | apply below_alloc | apply pw_below_drewN | apply below_drew1 | refine below_set ?_ GE.out) | exact HB.out)) hb); have n1_ := Aside0.mk (hbox); have n2_ := Aside0.mk ((by rw [hg]; exact (below_size (by repeat (first | (with_reducible first | exact HB.out | apply below_alloc | apply pw_below_drewN | apply below_drew1 | refine below_set ?_ GE.out) | exact HB.out))) : w.heap.size ≤ gb)); clear HB; have HB := n0_; have BK := n1_; have GE := n2_; clear n0_ n1_ n2_; clear hb hbox hg; have hcz0 : wb.cell? ⟨gb, 0, none⟩ = some (.bool nn) := (blk_cell BK.out 0).trans rfl; have hcz1 : wb.cell? ⟨gb, 1, none⟩ = some (.int .i64 n) := (blk_cell BK.out 1).trans rfl; have hfz0 := blk_frozen BK.out 0; have hfz1 := blk_frozen BK.out 1) | (go_at_call 13; refine (number_Valid.calls nn n _ _ (valid_eq nn n)).mono ?_; rintro e wv ⟨rfl, hv⟩; have n1_ := Aside0.mk (blk_below BK.out hv); have n2_ := Aside0.mk (below_step HB.out hv); clear BK HB hv; have BK := n1_; have HB := n2_; clear n1_ n2_; have hcv0 : wv.cell? ⟨gb, 0, none⟩ = some (.bool nn) := (blk_cell BK.out 0).trans rfl; have hcv1 : wv.cell? ⟨gb, 1, none⟩ = some (.int .i64 n) := (blk_cell BK.out 1).trans rfl; have hfv0 := blk_frozen BK.out 0; have hfv1 := blk_frozen BK.out 1))
    go_ret2
    exact ⟨_, rfl, Kd.R_nil _ _ _ _ _, HB.out⟩
end Go.Proofs.Ytlnhahnnjbfjdaa.Evs
