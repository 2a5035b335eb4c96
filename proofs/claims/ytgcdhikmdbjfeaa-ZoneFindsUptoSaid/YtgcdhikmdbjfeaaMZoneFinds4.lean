import Derived.Test.YtgcdhikmdbjfeaaMZoneFinds1
import Derived.Test.YtgcdhikmdbjfeaaMZoneFinds3
import Derived.ChangeKeysEq
import Derived.Test.YtgcdhikmdbjfeaaMZoneFinds2
import Derived.Lib.IndexLaws
import Derived.Lib.SlBytesConst
import Derived.Test.YtgcdhikmdbjfeaaMZoneFinds0
import Derived.SizedLaws
import Derived.ChangeSlices
import Derived.ChangeArms
import Derived.Test.YtgcdhikmdbjfeaaRows
import Derived.HandedShaped
import Derived.Deep.CondSized
set_option linter.unusedVariables false
set_option linter.unusedSimpArgs false
namespace Go.Proofs.Ytgcdhikmdbjfeaa.U
open Go.RowKit Go.Proofs.YtgcdhikmdbjfeaaW.PrintWords Go.Proofs.YtgcdhikmdbjfeaaW.PrintLast Go.Proofs.YtgcdhikmdbjfeaaW.PrintMore
attribute [local go_sem] max2_int min2_int max_two min_two max_three min_three max_four min_four   -- for this text's walks alone
def incunableref24_Find.l0 : Nat → List Int → List (S34) → Int → List Int → List (S62) → Option ((List (S34)) × Int)
  | 0, _, _, _, _, _ => none
  | k + 1, x1, x6, x7, x146000, x146001 => if x7 < (x146000.length : Int) then ((incunableref24_stands.f x146000 x1 x7).bind fun t147 => (if t147 = true then (if x6.length < 8796093022208 then (incunableref24_Find.l0 k x1 (x6 ++ [(⟨x7, wrap64 (x7 + (x1.length : Int))⟩ : S34)]) (wrap64 (x7 + (x1.length : Int))) x146000 x146001) else (none)) else (incunableref24_Find.l0 k x1 x6 (wrap64 (x7 + 1)) x146000 x146001))) else (some (x6, 0))
def incunableref24_Find.f (k : Nat) (l0_0 : List Int) (l0_1 : List (S62)) (l1 : List Int) : Option ((List (S34)) × Int) := (incunableref24_Valid.f k l0_0 l0_1).bind fun t146 => (if t146 = true then (if (l1.length : Int) = 0 then (some (([] : List (S34)), 2)) else (incunableref24_Find.l0 k l1 ([] : List (S34)) 0 l0_0 l0_1)) else (some (([] : List (S34)), 90)))
theorem incunableref24_Find.mono_l : ∀ k, (∀ y0 y1 y2 y3 y4, LeO (incunableref24_Find.l0 k y0 y1 y2 y3 y4) (incunableref24_Find.l0 (k + 1) y0 y1 y2 y3 y4))
  | 0 => fun _ _ _ _ _ r h => by simp [incunableref24_Find.l0] at h
  | k + 1 => by
    have ih0 := incunableref24_Find.mono_l k
    · intro y0 y1 y2 y3 y4
      unfold incunableref24_Find.l0
      repeat' first
      | (with_reducible exact ih0 _ _ _ _ _)
      | (with_reducible exact incunableref24_Valid.mono _ _ _)
      | (with_reducible exact LeO.refl _)
      | (with_reducible exact LeO.none _)
      | (with_reducible refine LeO.ite ?_ ?_)
      | (with_reducible refine LeO.bind ?_ (fun _ => ?_))
      | exact ih0 _ _ _ _ _
      | exact incunableref24_Valid.mono _ _ _
      | exact LeO.none _
      | refine LeO.ite ?_ ?_
      | refine LeO.bind ?_ (fun _ => ?_)
theorem incunableref24_Find.mono : ∀ a0 a1 a2 k, LeO (incunableref24_Find.f k a0 a1 a2) (incunableref24_Find.f (k + 1) a0 a1 a2) := by
 intro a0 a1 a2 k; have ih0 := incunableref24_Find.mono_l k; unfold incunableref24_Find.f
 repeat' first
  | (with_reducible exact ih0 _ _ _ _ _)
  | (with_reducible exact incunableref24_Valid.mono _ _ _)
  | (with_reducible exact LeO.refl _)
  | (with_reducible exact LeO.none _)
  | (with_reducible refine LeO.ite ?_ ?_)
  | (with_reducible refine LeO.bind ?_ (fun _ => ?_))
  | exact ih0 _ _ _ _ _
  | exact incunableref24_Valid.mono _ _ _
  | exact LeO.none _
  | refine LeO.ite ?_ ?_
  | refine LeO.bind ?_ (fun _ => ?_)
set_option maxHeartbeats 8000000 in
set_option maxRecDepth 100000 in
theorem incunableref24_Find.calls (k : Nat) (A0_0 : Option Addr) (c0_0 : Nat) (l0_0 : List Int) (A0_1 : Option Addr) (c0_1 : Nat) (l0_1 : List (S62)) (A1 : Option Addr) (c1 : Nat) (l1 : List Int) (r1 : List (S34)) (r2 : Int) (w : World) (hr0_0 : Kd.C (Kd.int .u8) w A0_0 l0_0.length l0_0) (hc0_0 : l0_0.length ≤ c0_0) (hr0_1 : Kd.C k62 w A0_1 l0_1.length l0_1) (hc0_1 : l0_1.length ≤ c0_1) (hr1 : Kd.C (Kd.int .u8) w A1 l1.length l1) (hc1 : l1.length ≤ c1) (h : incunableref24_Find.f k l0_0 l0_1 l1 = some (r1, r2)) :
    Calls Try.prog 13 #[.agg #[.slice A0_0 l0_0.length c0_0, .slice A0_1 l0_1.length c0_1], .slice A1 l1.length c1] w fun e w' => ∃ v0_ : Value, e = .returned (.tuple #[v0_, .int .i64 r2]) ∧ Kd.R k34 34 w' w.heap.size (fun _ => True) v0_ r1 ∧ Below w.heap.size w w' := by
 have hu25 := Try.underlying25; have hu34 := Try.underlying34; have HR0_0 := Aside0.mk hr0_0; have HC0_0 := Aside0.mk hc0_0; clear hr0_0 hc0_0; have HR0_1 := Aside0.mk hr0_1; have HC0_1 := Aside0.mk hc0_1; clear hr0_1 hc0_1; have HR1 := Aside0.mk hr1; have HC1 := Aside0.mk hc1; clear hr1 hc1; have HB := Aside0.mk (Below.refl w.heap.size w); have H : ((incunableref24_Valid.f k l0_0 l0_1).bind fun t146 => (if t146 = true then (if (l1.length : Int) = 0 then (some (([] : List (S34)), 2)) else (incunableref24_Find.l0 k l1 ([] : List (S34)) 0 l0_0 l0_1)) else (some (([] : List (S34)), 90)))) = some (r1, r2) := h; clear h; replace H := Option.bind_eq_some_iff.mp H; obtain ⟨t146, A30, H⟩ := H; replace H : (if t146 = true then (if (l1.length : Int) = 0 then (some (([] : List (S34)), 2)) else (incunableref24_Find.l0 k l1 ([] : List (S34)) 0 l0_0 l0_1)) else (some (([] : List (S34)), 90))) = some (r1, r2) := H; have A3 := Aside0.mk A30; clear A30; by_cases c4 : t146 = true
 · subst c4
   (have H1 : (if (l1.length : Int) = 0 then (some (([] : List (S34)), 2)) else (incunableref24_Find.l0 k l1 ([] : List (S34)) 0 l0_0 l0_1)) = some (r1, r2) := by rw [if_pos rfl] at H; exact H); clear H; have H := H1; clear H1; by_cases c5 : (l1.length : Int) = 0
   (· rw [if_pos c5] at H; have c5b0 : ((l1.length : Int) == 0) = true := beq_iff_eq.mpr c5; have c5b1 : ((l1.length : Int) != 0) = false := bne_eq_false_iff_eq.mpr c5; clear c5; simp only [Option.some.injEq, Prod.mk.injEq] at H; obtain ⟨rfl, rfl⟩ := H; go_enter Try.func13, Try.ntmps13; go_wp2_with (first | ((with_reducible refine gate_dst (N := 2) rfl ?_); refine box_event ?hg (N := 2) ?hd (cs := #[.slice A0_0 l0_0.length c0_0, .slice A0_1 l0_1.length c0_1]) (t := 25) ?hr ?_; (case hd => rfl); (case hg => rfl); (case hr => first | (go_simp; done) | (go_simp; rfl)); intro gb145 hg w6 hbox hb; have n0_ := Aside0.mk (below_step (by repeat (first | (with_reducible first | exact HB.out | apply below_alloc | apply pw_below_drewN | apply below_drew1) | exact HB.out)) hb); have n1_ := Aside0.mk (hbox); have n2_ := Aside0.mk ((by rw [hg]; exact (below_size (by repeat (first | (with_reducible first | exact HB.out | apply below_alloc | apply pw_below_drewN | apply below_drew1) | exact HB.out))) : w.heap.size ≤ gb145)); have n3_ := Aside0.mk ((by rw [hg]; exact (below_size (by repeat (first | (with_reducible first | exact HB.out | apply below_alloc | apply pw_below_drewN | apply below_drew1) | exact HB.out))) : w.heap.size ≤ gb145)); clear HB; have HB := n0_; have BK145 := n1_; have GW145 := n2_; have GE145 := n3_; clear n0_ n1_ n2_ n3_; clear hb hbox hg; have hcz7_0 : w6.cell? ⟨gb145, 0, none⟩ = some (.slice A0_0 l0_0.length c0_0) := (blk_cell BK145.out 0).trans rfl; have hcz7_1 : w6.cell? ⟨gb145, 1, none⟩ = some (.slice A0_1 l0_1.length c0_1) := (blk_cell BK145.out 1).trans rfl; have hfz7_0 := blk_frozen BK145.out 0; have hfz7_1 := blk_frozen BK145.out 1) | ((with_reducible refine gate_callee (f := 16) rfl ?_); refine goesL_ (some 9) rfl rfl Try.func16 (by kernel_rfl) rfl #[.agg #[.slice A0_0 l0_0.length c0_0, .slice A0_1 l0_1.length c0_1]] rfl (by (try simp only [List.map_toArray, List.map_cons, List.map_nil]); first | done | rfl | (simp only [List.length_drop, List.length_take]; rfl)) ?_; (with_reducible refine (incunableref24_Valid.calls k _ _ l0_0 _ _ l0_1 true _ ?side1 ?side2 ?side3 ?side4 A3.out).mono ?_); (case side1 => repeat (first | exact (Kd.C_below HR0_0.out HB.out) | (with_reducible refine Kd.C_alloc ?_ _) | (with_reducible refine Kd.C_drewN ?_ _) | (with_reducible refine Kd.C_drew ?_))); (case side2 => exact HC0_0.out); (case side3 => repeat (first | exact (Kd.C_below HR0_1.out HB.out) | (with_reducible refine Kd.C_alloc ?_ _) | (with_reducible refine Kd.C_drewN ?_ _) | (with_reducible refine Kd.C_drew ?_))); (case side4 => exact HC0_1.out); rintro e w8 ⟨rfl, hb⟩; refine ⟨_, rfl, ?_⟩; have n0_ := Aside0.mk (blk_below (g := gb145) (o := .cells #[.slice A0_0 l0_0.length c0_0, .slice A0_1 l0_1.length c0_1] 25 (0, 0)) (by (with_reducible repeat (first | refine blk_drewN ?_ _ | refine blk_drew ?_ | refine blk_alloc ?_ _)); exact BK145.out) hb); have n1_ := Aside0.mk (below_step (by repeat (first | (with_reducible first | exact HB.out | apply below_alloc | apply pw_below_drewN | apply below_drew1 | refine below_set ?_ GE145.out) | exact HB.out)) hb); clear BK145; clear HB; have BK145 := n0_; have HB := n1_; clear n0_ n1_; (try clear hb); (try clear hb2); (try clear hk); (try clear hi))); go_ret2; (exact ⟨_, by first | rfl | (simp [errW_none, errW_some] <;> rfl) | (simp [*, errW_none, errW_some] <;> rfl), by first | exact Kd.R_nil _ _ _ _ _ | exact Kd.N_nil _ _ _ _ _ | exact Kd.V_nil _ _ _ _ _ | exact Kd.Q_nil _ _ _ _ _ | exact Kd.S_nil _ _ _ _ _, by repeat (first | (with_reducible first | exact HB.out | apply below_alloc | apply pw_below_drewN | apply below_drew1 | refine below_set ?_ GE145.out) | exact HB.out)⟩))
   · rw [if_neg c5] at H
     have c5b0 : ((l1.length : Int) == 0) = false := beq_eq_false_iff_ne.mpr c5; have c5b1 : ((l1.length : Int) != 0) = true := bne_iff_ne.mpr c5; have c5b2 : ¬ (l1 = []) := fun h_ => c5 (by rw [h_]; rfl); have H' := Aside0.mk H; clear H; go_enter Try.func13, Try.ntmps13
     go_wp2_with (first | ((with_reducible refine gate_dst (N := 2) rfl ?_); refine box_event ?hg (N := 2) ?hd (cs := #[.slice A0_0 l0_0.length c0_0, .slice A0_1 l0_1.length c0_1]) (t := 25) ?hr ?_; (case hd => rfl); (case hg => rfl); (case hr => first | (go_simp; done) | (go_simp; rfl)); intro gb145 hg w9 hbox hb; have n0_ := Aside0.mk (below_step (by repeat (first | (with_reducible first | exact HB.out | apply below_alloc | apply pw_below_drewN | apply below_drew1) | exact HB.out)) hb); have n1_ := Aside0.mk (hbox); have n2_ := Aside0.mk ((by rw [hg]; exact (below_size (by repeat (first | (with_reducible first | exact HB.out | apply below_alloc | apply pw_below_drewN | apply below_drew1) | exact HB.out))) : w.heap.size ≤ gb145)); have n3_ := Aside0.mk ((by rw [hg]; exact (below_size (by repeat (first | (with_reducible first | exact HB.out | apply below_alloc | apply pw_below_drewN | apply below_drew1) | exact HB.out))) : w.heap.size ≤ gb145)); clear HB; have HB := n0_; have BK145 := n1_; have GW145 := n2_; have GE145 := n3_; clear n0_ n1_ n2_ n3_; clear hb hbox hg; have hcz10_0 : w9.cell? ⟨gb145, 0, none⟩ = some (.slice A0_0 l0_0.length c0_0) := (blk_cell BK145.out 0).trans rfl; have hcz10_1 : w9.cell? ⟨gb145, 1, none⟩ = some (.slice A0_1 l0_1.length c0_1) := (blk_cell BK145.out 1).trans rfl; have hfz10_0 := blk_frozen BK145.out 0; have hfz10_1 := blk_frozen BK145.out 1) | ((with_reducible refine gate_callee (f := 16) rfl ?_); refine goesL_ (some 9) rfl rfl Try.func16 (by kernel_rfl) rfl #[.agg #[.slice A0_0 l0_0.length c0_0, .slice A0_1 l0_1.length c0_1]] rfl (by (try simp only [List.map_toArray, List.map_cons, List.map_nil]); first | done | rfl | (simp only [List.length_drop, List.length_take]; rfl)) ?_; (with_reducible refine (incunableref24_Valid.calls k _ _ l0_0 _ _ l0_1 true _ ?side1 ?side2 ?side3 ?side4 A3.out).mono ?_); (case side1 => repeat (first | exact (Kd.C_below HR0_0.out HB.out) | (with_reducible refine Kd.C_alloc ?_ _) | (with_reducible refine Kd.C_drewN ?_ _) | (with_reducible refine Kd.C_drew ?_))); (case side2 => exact HC0_0.out); (case side3 => repeat (first | exact (Kd.C_below HR0_1.out HB.out) | (with_reducible refine Kd.C_alloc ?_ _) | (with_reducible refine Kd.C_drewN ?_ _) | (with_reducible refine Kd.C_drew ?_))); (case side4 => exact HC0_1.out); rintro e w11 ⟨rfl, hb⟩; refine ⟨_, rfl, ?_⟩; have n0_ := Aside0.mk (blk_below (g := gb145) (o := .cells #[.slice A0_0 l0_0.length c0_0, .slice A0_1 l0_1.length c0_1] 25 (0, 0)) (by (with_reducible repeat (first | refine blk_drewN ?_ _ | refine blk_drew ?_ | refine blk_alloc ?_ _)); exact BK145.out) hb); have n1_ := Aside0.mk (below_step (by repeat (first | (with_reducible first | exact HB.out | apply below_alloc | apply pw_below_drewN | apply below_drew1 | refine below_set ?_ GE145.out) | exact HB.out)) hb); clear BK145; clear HB; have BK145 := n0_; have HB := n1_; clear n0_ n1_; (try clear hb); (try clear hb2); (try clear hk); (try clear hi)))
     go_loopg [6, 7] k (fun kq v6 v7 w' => ∃ (x6_1 : List (S34)) (x7_1 : Int), v7 = .int .i64 x7_1 ∧ Aside0 (incunableref24_Find.l0 kq l1 x6_1 x7_1 l0_0 l0_1 = some (r1, r2)) ∧ Aside0 (kq ≤ k) ∧ Aside0 (Kd.R k34 34 w' w.heap.size (fun _ => True) v6 x6_1) ∧ Aside0 (w'.heap[gb145]? = some (.cells #[(.slice A0_0 l0_0.length c0_0), (.slice A0_1 l0_1.length c0_1)] 25 (0, 0))) ∧ Aside0 (Below w.heap.size w w')); (case atStart => exact ⟨(([] : List (S34))), (0), (by first | rfl | (simp; done) | (simp [*]; done)), H', ⟨Nat.le_refl _⟩, ⟨by first | exact Kd.R_nil _ _ _ _ _ | exact Kd.N_nil _ _ _ _ _ | exact Kd.V_nil _ _ _ _ _ | exact Kd.Q_nil _ _ _ _ _ | exact Kd.S_nil _ _ _ _ _⟩, ⟨by (with_reducible repeat (first | refine blk_drewN ?_ _ | refine blk_drew ?_ | refine blk_alloc ?_ _)); exact BK145.out⟩, ⟨by repeat (first | (with_reducible first | exact HB.out | apply below_alloc | apply pw_below_drewN | apply below_drew1 | refine below_set ?_ GE145.out) | exact HB.out)⟩⟩)
     case round =>
      clear H'; (try clear c1); (try clear p2); (try clear c4); (try clear c5); (try clear c5b0); (try clear c5b1); (try clear c5b2); (try clear hcz10_0); (try clear hcz10_1); (try clear hcz7_0); (try clear hcz7_1); (try clear hfz10_0); (try clear hfz10_1); (try clear hfz7_0); (try clear hfz7_1); obtain ⟨x6_1, x7_1, rfl, HA, HK1, HO_6, BK145, HB⟩ := hrel
      cases gk with
      | zero => exact absurd HA.out (by simp [incunableref24_Find.l0])
      | succ k1 =>
       have H := HA.out; clear HA; simp only [incunableref24_Find.l0] at H; by_cases c12 : x7_1 < (l0_0.length : Int)
       (· rw [if_pos c12] at H; have c12b0 : decide (x7_1 < (l0_0.length : Int)) = true := decide_eq_true c12; clear c12; replace H := Option.bind_eq_some_iff.mp H; obtain ⟨t147, A130, H⟩ := H; replace H : (if t147 = true then (if x6_1.length < 8796093022208 then (incunableref24_Find.l0 k1 l1 (x6_1 ++ [(⟨x7_1, wrap64 (x7_1 + (l1.length : Int))⟩ : S34)]) (wrap64 (x7_1 + (l1.length : Int))) l0_0 l0_1) else (none)) else (incunableref24_Find.l0 k1 l1 x6_1 (wrap64 (x7_1 + 1)) l0_0 l0_1)) = some (r1, r2) := H; have A13 := Aside0.mk A130; clear A130; by_cases c14 : t147 = true; (· subst c14; (have H1 : (if x6_1.length < 8796093022208 then (incunableref24_Find.l0 k1 l1 (x6_1 ++ [(⟨x7_1, wrap64 (x7_1 + (l1.length : Int))⟩ : S34)]) (wrap64 (x7_1 + (l1.length : Int))) l0_0 l0_1) else (none)) = some (r1, r2) := by rw [if_pos rfl] at H; exact H); clear H; have H := H1; clear H1; by_cases c15 : x6_1.length < 8796093022208; (· rw [if_pos c15] at H; have LMc15 := Aside0.mk c15; clear c15; obtain ⟨y148, hy148⟩ : ∃ y_ : List (S34), y_ = (x6_1 ++ [(⟨x7_1, wrap64 (x7_1 + (l1.length : Int))⟩ : S34)]) := ⟨_, rfl⟩; (replace H : (incunableref24_Find.l0 k1 l1 y148 (wrap64 (x7_1 + (l1.length : Int))) l0_0 l0_1) = some (r1, r2) := by first | (rw [hy148]; with_reducible exact H) | (have H2_ := (Option.bind_some _ _).symm.trans H; rw [hy148]; with_reducible exact H2_) | (have H2_ := (Option.bind_some _ _).symm.trans H; with_reducible exact H2_) | with_reducible exact H | (rw [hy148]; exact H) | exact H); have Ny148 := Aside0.mk hy148; clear hy148; have H' := Aside0.mk H; clear H; have hcz16_0 : wr.cell? ⟨gb145, 0, none⟩ = some (.slice A0_0 l0_0.length c0_0) := (blk_cell BK145.out 0).trans rfl; have hcz16_1 : wr.cell? ⟨gb145, 1, none⟩ = some (.slice A0_1 l0_1.length c0_1) := (blk_cell BK145.out 1).trans rfl; have hfz16_0 := blk_frozen BK145.out 0; have hfz16_1 := blk_frozen BK145.out 1; go_wp2_with (first | ((with_reducible refine gate_callee (f := 34) rfl ?_); refine goesL_ (some 23) rfl rfl Try.func34 (by kernel_rfl) rfl #[.slice A0_0 l0_0.length c0_0, .slice A1 l1.length c1, .int .i64 x7_1] rfl (by (try simp only [List.map_toArray, List.map_cons, List.map_nil]); first | done | rfl | (simp only [List.length_drop, List.length_take]; rfl)) ?_; (with_reducible refine (incunableref24_stands.calls _ _ l0_0 _ _ l1 x7_1 true _ ?side1 ?side2 ?side3 ?side4 A13.out).mono ?_); (case side1 => repeat (first | exact (Kd.C_below HR0_0.out HB.out) | (with_reducible refine Kd.C_alloc ?_ _) | (with_reducible refine Kd.C_drewN ?_ _) | (with_reducible refine Kd.C_drew ?_))); (case side2 => exact HC0_0.out); (case side3 => repeat (first | exact (Kd.C_below HR1.out HB.out) | (with_reducible refine Kd.C_alloc ?_ _) | (with_reducible refine Kd.C_drewN ?_ _) | (with_reducible refine Kd.C_drew ?_))); (case side4 => exact HC1.out); rintro e w' ⟨rfl, ⟨nd, rfl⟩⟩; refine ⟨_, rfl, ?_⟩) | ((with_reducible refine gate_builtin (b := .append) (xs := #[.tmp 24, .tmp 31]) rfl ?_); at_builtin; refine Kd.R_append k34 (w0 := w) w.heap.size rfl (.tmp 24) (.tmp 31) 28 34 (.agg #[(.int .i64 0), (.int .i64 0)]) 16 rfl Try.underlying28 info34 rfl (by decide) (by omega) u6 x6_1 (⟨x7_1, wrap64 (x7_1 + (l1.length : Int))⟩ : S34) [.int .i64 x7_1, .int .i64 (wrap64 (x7_1 + (l1.length : Int)))] (fun _ => True) (fun _ => False) rfl rfl ?aP (fun _ hk => hk.elim) ?aF ?aO ?aB ?aS ?aL ?_; (case aP => exact k34_mkM _ _ _ (⟨x7_1, wrap64 (x7_1 + (l1.length : Int))⟩ : S34)); (case aB => exact (by repeat (first | (with_reducible first | exact HB.out | apply below_alloc | apply pw_below_drewN | apply below_drew1 | refine below_set ?_ GE145.out) | exact HB.out))); (case aF => exact (fun _ _ => trivial)); (case aO => exact (by (with_reducible repeat (first | apply Kd.R_alloc | apply Kd.R_drewN | apply Kd.R_drew)); exact HO_6.out)); (case aS => exact (below_size (by repeat (first | (with_reducible first | exact HB.out | apply below_alloc | apply pw_below_drewN | apply below_drew1 | refine below_set ?_ GE145.out) | exact HB.out)))); (case aL => have := LMc15.out; omega); intro v149 w17 ho hb hg hat; rw [← Ny148.out] at ho; have n0_ := Aside0.mk (blk_grown (g := gb145) (o := .cells #[.slice A0_0 l0_0.length c0_0, .slice A0_1 l0_1.length c0_1] 25 (0, 0)) (by (with_reducible repeat (first | refine blk_drewN ?_ _ | refine blk_drew ?_ | refine blk_alloc ?_ _)); exact BK145.out) hg (Kd.R_ne HO_6.out BK145.out (by decide))); have n1_ := Aside0.mk (hb); have n2_ := Aside0.mk (ho); clear BK145; clear HB; clear HO_6; have BK145 := n0_; have HB := n1_; have HO150 := n2_; clear n0_ n1_ n2_; clear ho hb hg hat)); go_roundg k1; (case measure => have := HK1.out; omega); (case rel => exact ⟨(y148), (wrap64 (x7_1 + (l1.length : Int))), (by first | rfl | (simp; done) | (simp [*]; done)), H', ⟨by have := HK1.out; omega⟩, ⟨by (with_reducible repeat (first | apply Kd.R_alloc | apply Kd.R_drewN | apply Kd.R_drew)); exact HO150.out⟩, ⟨by (with_reducible repeat (first | refine blk_drewN ?_ _ | refine blk_drew ?_ | refine blk_alloc ?_ _)); exact BK145.out⟩, ⟨by repeat (first | (with_reducible first | exact HB.out | apply below_alloc | apply pw_below_drewN | apply below_drew1 | refine below_set ?_ GE145.out) | exact HB.out)⟩⟩)); (· rw [if_neg c15] at H; exact absurd H (by simp))); (· replace c14 := Bool.eq_false_iff.mpr c14; subst c14; (have H1 : (incunableref24_Find.l0 k1 l1 x6_1 (wrap64 (x7_1 + 1)) l0_0 l0_1) = some (r1, r2) := by rw [if_neg (show ¬ (false = true) by decide)] at H; exact H); clear H; have H := H1; clear H1; have H' := Aside0.mk H; clear H; have hcz18_0 : wr.cell? ⟨gb145, 0, none⟩ = some (.slice A0_0 l0_0.length c0_0) := (blk_cell BK145.out 0).trans rfl; have hcz18_1 : wr.cell? ⟨gb145, 1, none⟩ = some (.slice A0_1 l0_1.length c0_1) := (blk_cell BK145.out 1).trans rfl; have hfz18_0 := blk_frozen BK145.out 0; have hfz18_1 := blk_frozen BK145.out 1; go_wp2_with (first | ((with_reducible refine gate_callee (f := 34) rfl ?_); refine goesL_ (some 23) rfl rfl Try.func34 (by kernel_rfl) rfl #[.slice A0_0 l0_0.length c0_0, .slice A1 l1.length c1, .int .i64 x7_1] rfl (by (try simp only [List.map_toArray, List.map_cons, List.map_nil]); first | done | rfl | (simp only [List.length_drop, List.length_take]; rfl)) ?_; (with_reducible refine (incunableref24_stands.calls _ _ l0_0 _ _ l1 x7_1 false _ ?side1 ?side2 ?side3 ?side4 A13.out).mono ?_); (case side1 => repeat (first | exact (Kd.C_below HR0_0.out HB.out) | (with_reducible refine Kd.C_alloc ?_ _) | (with_reducible refine Kd.C_drewN ?_ _) | (with_reducible refine Kd.C_drew ?_))); (case side2 => exact HC0_0.out); (case side3 => repeat (first | exact (Kd.C_below HR1.out HB.out) | (with_reducible refine Kd.C_alloc ?_ _) | (with_reducible refine Kd.C_drewN ?_ _) | (with_reducible refine Kd.C_drew ?_))); (case side4 => exact HC1.out); rintro e w' ⟨rfl, ⟨nd, rfl⟩⟩; refine ⟨_, rfl, ?_⟩)); go_roundg k1; (case measure => have := HK1.out; omega); (case rel => exact ⟨(x6_1), (wrap64 (x7_1 + 1)), (by first | rfl | (simp; done) | (simp [*]; done)), H', ⟨by have := HK1.out; omega⟩, ⟨by (with_reducible repeat (first | apply Kd.R_alloc | apply Kd.R_drewN | apply Kd.R_drew)); exact HO_6.out⟩, ⟨by (with_reducible repeat (first | refine blk_drewN ?_ _ | refine blk_drew ?_ | refine blk_alloc ?_ _)); exact BK145.out⟩, ⟨by repeat (first | (with_reducible first | exact HB.out | apply below_alloc | apply pw_below_drewN | apply below_drew1 | refine below_set ?_ GE145.out) | exact HB.out)⟩⟩)))
       (· rw [if_neg c12] at H; have c12b0 : decide (x7_1 < (l0_0.length : Int)) = false := decide_eq_false c12; clear c12; simp only [Option.some.injEq, Prod.mk.injEq] at H; obtain ⟨rfl, rfl⟩ := H; have hcz19_0 : wr.cell? ⟨gb145, 0, none⟩ = some (.slice A0_0 l0_0.length c0_0) := (blk_cell BK145.out 0).trans rfl; have hcz19_1 : wr.cell? ⟨gb145, 1, none⟩ = some (.slice A0_1 l0_1.length c0_1) := (blk_cell BK145.out 1).trans rfl; have hfz19_0 := blk_frozen BK145.out 0; have hfz19_1 := blk_frozen BK145.out 1; go_wp2; go_ret2; (exact ⟨_, by first | rfl | (simp [errW_none, errW_some] <;> rfl) | (simp [*, errW_none, errW_some] <;> rfl), by (with_reducible repeat (first | apply Kd.R_alloc | apply Kd.R_drewN | apply Kd.R_drew)); exact HO_6.out, by repeat (first | (with_reducible first | exact HB.out | apply below_alloc | apply pw_below_drewN | apply below_drew1 | refine below_set ?_ GE145.out) | exact HB.out)⟩))
 (· replace c4 := Bool.eq_false_iff.mpr c4; subst c4; (have H1 : (some (([] : List (S34)), 90)) = some (r1, r2) := by rw [if_neg (show ¬ (false = true) by decide)] at H; exact H); clear H; have H := H1; clear H1; simp only [Option.some.injEq, Prod.mk.injEq] at H; obtain ⟨rfl, rfl⟩ := H; go_enter Try.func13, Try.ntmps13; go_wp2_with (first | ((with_reducible refine gate_dst (N := 2) rfl ?_); refine box_event ?hg (N := 2) ?hd (cs := #[.slice A0_0 l0_0.length c0_0, .slice A0_1 l0_1.length c0_1]) (t := 25) ?hr ?_; (case hd => rfl); (case hg => rfl); (case hr => first | (go_simp; done) | (go_simp; rfl)); intro gb145 hg w20 hbox hb; have n0_ := Aside0.mk (below_step (by repeat (first | (with_reducible first | exact HB.out | apply below_alloc | apply pw_below_drewN | apply below_drew1) | exact HB.out)) hb); have n1_ := Aside0.mk (hbox); have n2_ := Aside0.mk ((by rw [hg]; exact (below_size (by repeat (first | (with_reducible first | exact HB.out | apply below_alloc | apply pw_below_drewN | apply below_drew1) | exact HB.out))) : w.heap.size ≤ gb145)); have n3_ := Aside0.mk ((by rw [hg]; exact (below_size (by repeat (first | (with_reducible first | exact HB.out | apply below_alloc | apply pw_below_drewN | apply below_drew1) | exact HB.out))) : w.heap.size ≤ gb145)); clear HB; have HB := n0_; have BK145 := n1_; have GW145 := n2_; have GE145 := n3_; clear n0_ n1_ n2_ n3_; clear hb hbox hg; have hcz21_0 : w20.cell? ⟨gb145, 0, none⟩ = some (.slice A0_0 l0_0.length c0_0) := (blk_cell BK145.out 0).trans rfl; have hcz21_1 : w20.cell? ⟨gb145, 1, none⟩ = some (.slice A0_1 l0_1.length c0_1) := (blk_cell BK145.out 1).trans rfl; have hfz21_0 := blk_frozen BK145.out 0; have hfz21_1 := blk_frozen BK145.out 1) | ((with_reducible refine gate_callee (f := 16) rfl ?_); refine goesL_ (some 9) rfl rfl Try.func16 (by kernel_rfl) rfl #[.agg #[.slice A0_0 l0_0.length c0_0, .slice A0_1 l0_1.length c0_1]] rfl (by (try simp only [List.map_toArray, List.map_cons, List.map_nil]); first | done | rfl | (simp only [List.length_drop, List.length_take]; rfl)) ?_; (with_reducible refine (incunableref24_Valid.calls k _ _ l0_0 _ _ l0_1 false _ ?side1 ?side2 ?side3 ?side4 A3.out).mono ?_); (case side1 => repeat (first | exact (Kd.C_below HR0_0.out HB.out) | (with_reducible refine Kd.C_alloc ?_ _) | (with_reducible refine Kd.C_drewN ?_ _) | (with_reducible refine Kd.C_drew ?_))); (case side2 => exact HC0_0.out); (case side3 => repeat (first | exact (Kd.C_below HR0_1.out HB.out) | (with_reducible refine Kd.C_alloc ?_ _) | (with_reducible refine Kd.C_drewN ?_ _) | (with_reducible refine Kd.C_drew ?_))); (case side4 => exact HC0_1.out); rintro e w22 ⟨rfl, hb⟩; refine ⟨_, rfl, ?_⟩; have n0_ := Aside0.mk (blk_below (g := gb145) (o := .cells #[.slice A0_0 l0_0.length c0_0, .slice A0_1 l0_1.length c0_1] 25 (0, 0)) (by (with_reducible repeat (first | refine blk_drewN ?_ _ | refine blk_drew ?_ | refine blk_alloc ?_ _)); exact BK145.out) hb); have n1_ := Aside0.mk (below_step (by repeat (first | (with_reducible first | exact HB.out | apply below_alloc | apply pw_below_drewN | apply below_drew1 | refine below_set ?_ GE145.out) | exact HB.out)) hb); clear BK145; clear HB; have BK145 := n0_; have HB := n1_; clear n0_ n1_; (try clear hb); (try clear hb2); (try clear hk); (try clear hi))); go_ret2; (exact ⟨_, by first | rfl | (simp [errW_none, errW_some] <;> rfl) | (simp [*, errW_none, errW_some] <;> rfl), by first | exact Kd.R_nil _ _ _ _ _ | exact Kd.N_nil _ _ _ _ _ | exact Kd.V_nil _ _ _ _ _ | exact Kd.Q_nil _ _ _ _ _ | exact Kd.S_nil _ _ _ _ _, by repeat (first | (with_reducible first | exact HB.out | apply below_alloc | apply pw_below_drewN | apply below_drew1 | refine below_set ?_ GE145.out) | exact HB.out)⟩))
end Go.Proofs.Ytgcdhikmdbjfeaa.U
namespace Go.Proofs.Ytgcdhikmdbjfeaa.U
open Go.RowKit Go.Proofs.YtgcdhikmdbjfeaaW.PrintWords Go.Proofs.YtgcdhikmdbjfeaaW.PrintLast Go.Proofs.YtgcdhikmdbjfeaaW.PrintMore
attribute [local go_sem] max2_int min2_int max_two min_two max_three min_three max_four min_four   -- for this text's walks alone
open Go
theorem eqA34 (d : Nat) (w : World) (x0 y0 : Int) (x1 y1 : Int) :
    (Op.equalIn (d + 2) 34 (.agg #[.int .i64 x0, .int .i64 x1]) (.agg #[.int .i64 y0, .int .i64 y1])).run Try.prog w = .ok (x0 == y0 && (x1 == y1)) w := by
  obtain ⟨i, hi⟩ : ∃ i, Try.prog.info? 3 = some i := Option.isSome_iff_exists.1 (by kernel_rfl)
  rw [run_equalIn_array (P := Try.prog) w (d + 1) _ _ Try.underlying34 hi, show Try.prog.cellsOf 3 = 1 from by kernel_rfl]
  have p0 : ∀ v0 v1 : Int, (part 3 #[.int .i64 v0, .int .i64 v1] (0 * 1)).run Try.prog w = .ok (.int .i64 v0) w := fun v0 v1 => by first | (go_simp; done) | (go_simp; rfl)
  have p1 : ∀ v0 v1 : Int, (part 3 #[.int .i64 v0, .int .i64 v1] (1 * 1)).run Try.prog w = .ok (.int .i64 v1) w := fun v0 v1 => by first | (go_simp; done) | (go_simp; rfl)
  have e : ∀ a b : Int, (Op.equalIn (d + 1) 3 (.int .i64 a) (.int .i64 b)).run Try.prog w = .ok (a == b) w := fun a b => by go_simp
  simp only [show List.range 2 = [0, 1] from rfl, Op.eqItems, Sem.run_bind, p0, e, Result.andThen_ok]
  generalize (x0 == y0) = u0
  cases u0
  · rfl
  · simp only [Bool.not_true, Bool.false_eq_true, if_false, Sem.run_bind, p1, e, Result.andThen_ok, Bool.true_and]
    generalize (x1 == y1) = u1
    cases u1 <;> rfl
end Go.Proofs.Ytgcdhikmdbjfeaa.U
namespace Go.Proofs.Ytgcdhikmdbjfeaa.U
open Go.RowKit Go.Proofs.YtgcdhikmdbjfeaaW.PrintWords Go.Proofs.YtgcdhikmdbjfeaaW.PrintLast Go.Proofs.YtgcdhikmdbjfeaaW.PrintMore
attribute [local go_sem] max2_int min2_int max_two min_two max_three min_three max_four min_four   -- for this text's walks alone
attribute [local go_sem high] eqA34
def incunableref24_SamePairs.l0 : Nat → List (S34) → List (S34) → Int → Int → Option (Bool)
  | 0, _, _, _, _ => none
  | k + 1, x0, x1, x12, x13 => if x13 < x12 then (if 0 ≤ x13 then (if x13 < (x0.length : Int) then (if x13 < (x1.length : Int) then (if (!(((rd_T34 x0 x13).f0) == ((rd_T34 x1 x13).f0)) || (!(((rd_T34 x0 x13).f1) == ((rd_T34 x1 x13).f1)))) = true then (some false) else (incunableref24_SamePairs.l0 k x0 x1 x12 (wrap64 (x13 + 1)))) else (none)) else (none)) else (none)) else (some true)
def incunableref24_SamePairs.f (k : Nat) (l0 : List (S34)) (l1 : List (S34)) : Option (Bool) := if (l0.length : Int) = (l1.length : Int) then (incunableref24_SamePairs.l0 k l0 l1 (l0.length : Int) 0) else (some false)
theorem incunableref24_SamePairs.mono_l : ∀ k, (∀ y0 y1 y2 y3, LeO (incunableref24_SamePairs.l0 k y0 y1 y2 y3) (incunableref24_SamePairs.l0 (k + 1) y0 y1 y2 y3))
  | 0 => fun _ _ _ _ r h => by simp [incunableref24_SamePairs.l0] at h
  | k + 1 => by
    have ih0 := incunableref24_SamePairs.mono_l k
    · intro y0 y1 y2 y3
      unfold incunableref24_SamePairs.l0
      repeat' first
      | (with_reducible exact ih0 _ _ _ _)
      | (with_reducible exact LeO.refl _)
      | (with_reducible exact LeO.none _)
      | (with_reducible refine LeO.ite ?_ ?_)
      | (with_reducible refine LeO.bind ?_ (fun _ => ?_))
      | exact ih0 _ _ _ _
      | exact LeO.none _
      | refine LeO.ite ?_ ?_
      | refine LeO.bind ?_ (fun _ => ?_)
theorem incunableref24_SamePairs.mono : ∀ a0 a1 k, LeO (incunableref24_SamePairs.f k a0 a1) (incunableref24_SamePairs.f (k + 1) a0 a1) := by
 intro a0 a1 k; have ih0 := incunableref24_SamePairs.mono_l k; unfold incunableref24_SamePairs.f
 repeat' first
  | (with_reducible exact ih0 _ _ _ _)
  | (with_reducible exact LeO.refl _)
  | (with_reducible exact LeO.none _)
  | (with_reducible refine LeO.ite ?_ ?_)
  | (with_reducible refine LeO.bind ?_ (fun _ => ?_))
  | exact ih0 _ _ _ _
  | exact LeO.none _
  | refine LeO.ite ?_ ?_
  | refine LeO.bind ?_ (fun _ => ?_)
set_option maxHeartbeats 8000000 in
set_option maxRecDepth 100000 in
theorem incunableref24_SamePairs.calls (k : Nat) (A0 : Option Addr) (c0 : Nat) (l0 : List (S34)) (A1 : Option Addr) (c1 : Nat) (l1 : List (S34)) (r : Bool) (w : World) (hr0 : Kd.C k34 w A0 l0.length l0) (hc0 : l0.length ≤ c0) (hr1 : Kd.C k34 w A1 l1.length l1) (hc1 : l1.length ≤ c1) (h : incunableref24_SamePairs.f k l0 l1 = some r) :
    Calls Try.prog 14 #[.slice A0 l0.length c0, .slice A1 l1.length c1] w fun e w' => e = .returned (.bool r) ∧ Drawn0 w w' := by
 have hu34 := Try.underlying34; have HR0 := Aside0.mk hr0; have HC0 := Aside0.mk hc0; clear hr0 hc0; have HR1 := Aside0.mk hr1; have HC1 := Aside0.mk hc1; clear hr1 hc1; have H : (if (l0.length : Int) = (l1.length : Int) then (incunableref24_SamePairs.l0 k l0 l1 (l0.length : Int) 0) else (some false)) = some r := h; clear h; by_cases c3 : (l0.length : Int) = (l1.length : Int)
 · rw [if_pos c3] at H
   have c3b0 : ((l0.length : Int) == (l1.length : Int)) = true := beq_iff_eq.mpr c3; have c3b1 : ((l0.length : Int) != (l1.length : Int)) = false := bne_eq_false_iff_eq.mpr c3; (have c3b2 : (l0.length == l1.length) = true := by first | simpa using c3 | (simp at c3 ⊢; omega)); clear c3; have H' := Aside0.mk H; clear H; go_enter Try.func14, Try.ntmps14; go_wp2; (repeat (go_quiet (fail); try go_wp2)); go_loopg [13] k (fun kq v13 w' => ∃ (x13_1 : Int), v13 = .int .i64 x13_1 ∧ Aside0 (incunableref24_SamePairs.l0 kq l0 l1 (l0.length : Int) x13_1 = some r) ∧ Aside0 (kq ≤ k) ∧ Drawn0 w w'); (case atStart => exact ⟨(0), (by first | rfl | (simp; done) | (simp [*]; done)), H', ⟨Nat.le_refl _⟩, by repeat (first | exact Drawn0.refl _ | apply Drawn0.step)⟩)
   case round =>
    clear H'; (try clear c1); (try clear p2); (try clear c3); (try clear c3b0); (try clear c3b1); (try clear c3b2); obtain ⟨x13_1, rfl, HA, HK1, ⟨m1, rfl⟩⟩ := hrel
    cases gk with
    | zero => exact absurd HA.out (by simp [incunableref24_SamePairs.l0])
    | succ k1 =>
     have H := HA.out; clear HA; simp only [incunableref24_SamePairs.l0] at H; by_cases c4 : x13_1 < (l0.length : Int)
     (· rw [if_pos c4] at H; have c4b0 : decide (x13_1 < (l0.length : Int)) = true := decide_eq_true c4; clear c4; by_cases c5 : 0 ≤ x13_1; (· rw [if_pos c5] at H; have c5b0 : decide (0 ≤ x13_1) = true := decide_eq_true c5; clear c5; by_cases c6 : x13_1 < (l0.length : Int); (· rw [if_pos c6] at H; have c6b0 : decide (x13_1 < (l0.length : Int)) = true := decide_eq_true c6; clear c6; by_cases c7 : x13_1 < (l1.length : Int); (· rw [if_pos c7] at H; have c7b0 : decide (x13_1 < (l1.length : Int)) = true := decide_eq_true c7; clear c7; by_cases c8 : (!(((rd_T34 l0 x13_1).f0) == ((rd_T34 l1 x13_1).f0)) || (!(((rd_T34 l0 x13_1).f1) == ((rd_T34 l1 x13_1).f1)))) = true; (· rw [if_pos c8] at H; have c8b0 : (!(((rd_T34 l0 x13_1).f0) == ((rd_T34 l1 x13_1).f0)) || (!(((rd_T34 l0 x13_1).f1) == ((rd_T34 l1 x13_1).f1)))) = true := c8; clear c8; obtain rfl := Option.some.inj H; have p116 : 0 ≤ (x13_1 : Int) := of_decide_eq_true (by first | (with_reducible assumption) | assumption); have q116 : x13_1 < (l0.length : Int) := of_decide_eq_true (by first | (with_reducible assumption) | assumption); obtain ⟨ad116, e116, hx116_0, hx116_1⟩ := at_T34 HR0.out x13_1 p116 q116; cases e116; replace p116 := eq_true p116; replace q116 := eq_true q116; have p117 : 0 ≤ (x13_1 : Int) := of_decide_eq_true (by first | (with_reducible assumption) | assumption); have q117 : x13_1 < (l1.length : Int) := of_decide_eq_true (by first | (with_reducible assumption) | assumption); obtain ⟨ad117, e117, hx117_0, hx117_1⟩ := at_T34 HR1.out x13_1 p117 q117; cases e117; replace p117 := eq_true p117; replace q117 := eq_true q117; go_wp2; (repeat (go_quiet (fail); try go_wp2)); go_ret; exact ⟨by first | rfl | (simp; done) | (simp [*]; done), by repeat (first | exact Drawn0.refl _ | apply Drawn0.step)⟩); (· rw [if_neg c8] at H; (have c8b0 : (!(((rd_T34 l0 x13_1).f0) == ((rd_T34 l1 x13_1).f0)) || (!(((rd_T34 l0 x13_1).f1) == ((rd_T34 l1 x13_1).f1)))) = false := by simpa using c8); clear c8; have H' := Aside0.mk H; clear H; have p116 : 0 ≤ (x13_1 : Int) := of_decide_eq_true (by first | (with_reducible assumption) | assumption); have q116 : x13_1 < (l0.length : Int) := of_decide_eq_true (by first | (with_reducible assumption) | assumption); obtain ⟨ad116, e116, hx116_0, hx116_1⟩ := at_T34 HR0.out x13_1 p116 q116; cases e116; replace p116 := eq_true p116; replace q116 := eq_true q116; have p117 : 0 ≤ (x13_1 : Int) := of_decide_eq_true (by first | (with_reducible assumption) | assumption); have q117 : x13_1 < (l1.length : Int) := of_decide_eq_true (by first | (with_reducible assumption) | assumption); obtain ⟨ad117, e117, hx117_0, hx117_1⟩ := at_T34 HR1.out x13_1 p117 q117; cases e117; replace p117 := eq_true p117; replace q117 := eq_true q117; go_wp2; (repeat (go_quiet (fail); try go_wp2)); go_roundg k1; (case measure => have := HK1.out; omega); (case rel => exact ⟨(wrap64 (x13_1 + 1)), (by first | rfl | (simp; done) | (simp [*]; done)), H', ⟨by have := HK1.out; omega⟩, by repeat (first | exact Drawn0.refl _ | apply Drawn0.step)⟩))); (· rw [if_neg c7] at H; exact absurd H (by simp))); (· rw [if_neg c6] at H; exact absurd H (by simp))); (· rw [if_neg c5] at H; exact absurd H (by simp)))
     (· rw [if_neg c4] at H; have c4b0 : decide (x13_1 < (l0.length : Int)) = false := decide_eq_false c4; clear c4; obtain rfl := Option.some.inj H; go_wp2; (repeat (go_quiet (fail); try go_wp2)); go_ret; exact ⟨by first | rfl | (simp; done) | (simp [*]; done), by repeat (first | exact Drawn0.refl _ | apply Drawn0.step)⟩)
 (· rw [if_neg c3] at H; have c3b0 : ((l0.length : Int) == (l1.length : Int)) = false := beq_eq_false_iff_ne.mpr c3; have c3b1 : ((l0.length : Int) != (l1.length : Int)) = true := bne_iff_ne.mpr c3; (have c3b2 : (l0.length == l1.length) = false := by first | simpa using c3 | (simp at c3 ⊢; omega)); obtain rfl := Option.some.inj H; go_enter Try.func14, Try.ntmps14; go_wp2; (repeat (go_quiet (fail); try go_wp2)); go_ret; exact ⟨by first | rfl | (simp; done) | (simp [*]; done), by repeat (first | exact Drawn0.refl _ | apply Drawn0.step)⟩)
end Go.Proofs.Ytgcdhikmdbjfeaa.U
namespace Go.Proofs.Ytgcdhikmdbjfeaa.Zfi
open Go Go.RowKit Go.Proofs.YtgcdhikmdbjfeaaW.PrintWords Go.Proofs.YtgcdhikmdbjfeaaW.PrintLast Go.Proofs.YtgcdhikmdbjfeaaW.PrintMore Go.Proofs.Ytgcdhikmdbjfeaa.U Go.Proofs.Ytgcdhikmdbjfeaa.Aid Go.Proofs.Ytgcdhikmdbjfeaa.HandAid Go.Proofs.Ytgcdhikmdbjfeaa.Zpl Go.Proofs.Ytgcdhikmdbjfeaa.Zrt Go.Proofs.Ytgcdhikmdbjfeaa.Zev
/-- A word stands at a place. -/
def occ (t w : List Int) (a : Nat) : Bool := decide (a + w.length ≤ t.length) && ((t.take (a + w.length)).drop a == w)
/-- The places of a word, from one on. -/
def fnd (t w : List Int) (a : Nat) : List (Nat × Nat) :=
  if h : a < t.length ∧ 0 < w.length then if occ t w a = true then (a, a + w.length) :: fnd t w (a + w.length) else fnd t w (a + 1) else []
  termination_by t.length - a
def prs (l : List (Nat × Nat)) : List (S34) := l.map fun x => ⟨(x.1 : Int), (x.2 : Int)⟩
theorem bytesOf_inj {a b : List Int} (ha : Bytes a) (hb : Bytes b) (h : Lib.bytesOf a = Lib.bytesOf b) : a = b := by
  have h2 := congrArg (List.map fun b : UInt8 => (b.toNat : Int)) h
  have e : ∀ l : List Int, Bytes l → (Lib.bytesOf l).map (fun b : UInt8 => (b.toNat : Int)) = l := by
    intro l hl
    unfold Lib.bytesOf
    rw [List.map_map]
    conv => rhs; rw [← List.map_id l]
    exact List.map_congr_left fun x hx => toByte (hl x hx)
  rwa [e a ha, e b hb] at h2
theorem bytes_cut {t : List Int} (h : Bytes t) (a b : Nat) : Bytes ((t.take b).drop a) := fun x hx => h x (List.mem_of_mem_take (List.mem_of_mem_drop hx))
theorem occ_eq {t w : List Int} (ht : Bytes t) (hw : Bytes w) (a : Nat) (ha : a ≤ t.length) : Lib.occAt (Lib.bytesOf t) (Lib.bytesOf w) a = occ t w a := by
  rw [Bool.eq_iff_iff]
  unfold Lib.occAt occ
  rw [List.isPrefixOf_iff_prefix, Bool.and_eq_true, decide_eq_true_iff, beq_iff_eq]
  constructor
  · rintro ⟨s, hs⟩
    have hl := congrArg List.length hs
    simp [Lib.bytesOf] at hl
    refine ⟨by omega, bytesOf_inj (bytes_cut ht _ _) hw ?_⟩
    have h1 : ((Lib.bytesOf t).drop a).take (Lib.bytesOf w).length = Lib.bytesOf w := by rw [← hs]; simp
    rw [← h1]
    simp [Lib.bytesOf, List.map_drop, List.map_take, List.drop_take]
  · rintro ⟨hl, he⟩
    rw [List.drop_take, Nat.add_sub_cancel_left] at he
    have h2 := congrArg Lib.bytesOf he
    refine ⟨(Lib.bytesOf t).drop (a + w.length), ?_⟩
    simp only [Lib.bytesOf, List.map_take, List.map_drop] at h2 ⊢
    conv => rhs; rw [← List.take_append_drop w.length ((List.map (fun n => UInt8.ofNat n.toNat) t).drop a)]
    rw [h2, List.drop_drop]
theorem fnd_next {t w : List Int} (hw : 0 < w.length) : ∀ m a : Nat, t.length - a = m → ((∀ j, a ≤ j → j < t.length → occ t w j = false) ∧ fnd t w a = []) ∨ ∃ i, a ≤ i ∧ i < t.length ∧ occ t w i = true ∧ (∀ j, a ≤ j → j < i → occ t w j = false) ∧ fnd t w a = (i, i + w.length) :: fnd t w (i + w.length) := by
  intro m
  induction m with
  | zero =>
    intro a hm
    refine .inl ⟨fun j h1 h2 => by omega, ?_⟩
    rw [fnd, dif_neg (by omega)]
  | succ m ih =>
    intro a hm
    rw [fnd, dif_pos (by omega)]
    cases ho : occ t w a
    · rw [if_neg (by simp)]
      rcases ih (a + 1) (by omega) with ⟨h1, h2⟩ | ⟨i, h1, h2, h3, h4, h5⟩
      · refine .inl ⟨fun j hj hj2 => ?_, h2⟩
        by_cases e : j = a
        · rw [e]; exact ho
        · exact h1 j (by omega) hj2
      · refine .inr ⟨i, by omega, h2, h3, fun j hj hj2 => ?_, h5⟩
        by_cases e : j = a
        · rw [e]; exact ho
        · exact h4 j (by omega) hj2
    · rw [if_pos rfl]
      exact .inr ⟨a, Nat.le_refl _, by omega, ho, fun j h1 h2 => by omega, rfl⟩
theorem occ_fit {t w : List Int} {a : Nat} (h : occ t w a = true) : a + w.length ≤ t.length := by
  unfold occ at h
  rw [Bool.and_eq_true, decide_eq_true_iff] at h
  exact h.1
theorem index_at {t w : List Int} (ht : Bytes t) (hb : Bytes w) (hw : 0 < w.length) (a : Nat) (ha : a ≤ t.length) : (fnd t w a = [] ∧ Lib.index (Lib.bytesOf (t.drop a)) (Lib.bytesOf w) = -1) ∨ ∃ i, a ≤ i ∧ i + w.length ≤ t.length ∧ Lib.index (Lib.bytesOf (t.drop a)) (Lib.bytesOf w) = ((i - a : Nat) : Int) ∧ fnd t w a = (i, i + w.length) :: fnd t w (i + w.length) := by
  have hd : Bytes (t.drop a) := fun x hx => ht x (List.mem_of_mem_drop hx)
  have ho : ∀ j, a + j ≤ t.length → Lib.occAt (Lib.bytesOf (t.drop a)) (Lib.bytesOf w) j = occ t w (a + j) := by
    intro j hj
    rw [occ_eq hd hb j (by simp; omega)]
    unfold occ
    congr 1
    · rw [decide_eq_decide, List.length_drop]; omega
    · congr 1
      rw [List.take_drop, List.drop_drop]
      congr 2
      omega
  have hlen : (Lib.bytesOf (t.drop a)).length = t.length - a := by simp [Lib.bytesOf]
  have hwl : (Lib.bytesOf w).length = w.length := by simp [Lib.bytesOf]
  rcases fnd_next hw _ a rfl with ⟨h1, h2⟩ | ⟨i, h1, h2, h3, h4, h5⟩
  · refine .inl ⟨h2, ?_⟩
    refine Lib.index_past (i := t.length - a) (by intro e; rw [e] at hwl; simp at hwl; omega) (fun j hj => ?_) (by rw [hlen, hwl]; omega)
    rw [ho j (by omega)]
    exact h1 _ (by omega) (by omega)
  · refine .inr ⟨i, h1, occ_fit h3, ?_, h5⟩
    refine Lib.index_hit (fun j hj => ?_) (by rw [hlen]; omega) ?_
    · rw [ho j (by omega)]
      exact h4 _ (by omega) (by omega)
    · rw [ho _ (by omega), show a + (i - a) = i by omega]
      exact h3
theorem prs_cons (x : Nat × Nat) (l : List (Nat × Nat)) : prs (x :: l) = (⟨(x.1 : Int), (x.2 : Int)⟩ : S34) :: prs l := rfl
theorem fnd_le {t w : List Int} : ∀ m a : Nat, t.length - a = m → (fnd t w a).length ≤ t.length - a := by
  intro m
  induction m using Nat.strongRecOn with
  | ind m ih =>
    intro a hm
    rw [fnd]
    split
    · rename_i h
      split
      · have := ih (t.length - (a + w.length)) (by omega) (a + w.length) rfl
        rw [List.length_cons]
        omega
      · have := ih (t.length - (a + 1)) (by omega) (a + 1) rfl
        omega
    · simp
theorem bytes_all {l : List Int} (h : Bytes l) : (l.all fun x => decide (0 ≤ x ∧ x ≤ 255)) = true := List.all_eq_true.2 fun x hx => decide_eq_true (h x hx)
/-- The program's search, from a place on. -/
theorem find_loop {t w : List Int} (ht : Bytes t) (hb : Bytes w) (hw : 0 < w.length) (hwl : w.length ≤ 140737488351232) (htl : t.length ≤ 4000) (l : List Zn) : ∀ m a : Nat, t.length - a = m → a ≤ t.length → ∀ acc : List (S34), acc.length + (t.length - a) ≤ 4000 → Ev (fun k => zone_Find.l0 k w acc (a : Int) t l) (acc ++ prs (fnd t w a), 0) := by
  intro m
  induction m using Nat.strongRecOn with
  | ind m ih =>
    intro a hm ha acc hac
    have hf : bytes_Index.f (t.drop a) w = some (Lib.index (Lib.bytesOf (t.drop a)) (Lib.bytesOf w)) := by
      unfold bytes_Index.f
      exact if_pos ⟨bytes_all fun x hx => ht x (List.mem_of_mem_drop hx), bytes_all hb, by rw [List.length_drop]; omega, List.length_pos_iff.1 hw⟩
    refine ev_succ ?_
    simp only [zone_Find.l0]
    refine ev_pos (by omega) (ev_pos (by omega) (ev_pure (by rw [Int.toNat_natCast]; exact hf) ?_))
    rcases index_at ht hb hw a ha with ⟨h1, h2⟩ | ⟨i, h1, h2, h3, h4⟩
    · rw [h1, h2]
      refine ev_pos (by omega) (ev_const (by simp [prs]))
    · rw [h3, h4]
      refine ev_neg (by omega) (ev_pos (by omega) ?_)
      rw [wrap_id (n := (a : Int) + ((i - a : Nat) : Int)) (by omega) (by omega), wrap_id (n := ((i - a : Nat) : Int) + (w.length : Int)) (by omega) (by omega), wrap_id (n := (a : Int) + (((i - a : Nat) : Int) + (w.length : Int))) (by omega) (by omega), wrap_id (n := (a : Int) + ((i - a : Nat) : Int) + (w.length : Int)) (by omega) (by omega)]
      rw [show (a : Int) + ((i - a : Nat) : Int) = (i : Int) by omega, show (a : Int) + (((i - a : Nat) : Int) + (w.length : Int)) = ((i + w.length : Nat) : Int) by omega]
      refine ev_eq (ih (t.length - (i + w.length)) (by omega) (i + w.length) rfl h2 _ (by simp; omega)) ?_
      rw [prs_cons]
      simp
theorem find_ev {t w : List Int} (ht : Bytes t) (hb : Bytes w) (hwl : w.length ≤ 140737488351232) (l : List Zn) : Ev (fun k => zone_Find.f k t l w) (if vldZ t l = true then (if w.length = 0 then ([], 2) else (prs (fnd t w 0), 0)) else ([], 90)) := by
  unfold zone_Find.f
  refine ev_pure (show zone_Valid.f t l = some (vldZ t l) from rfl) ?_
  cases hv : vldZ t l
  · exact ev_neg (by simp) (ev_const (by simp))
  · refine ev_pos rfl ?_
    rw [if_pos rfl]
    by_cases hw : w.length = 0
    · rw [if_pos hw]
      exact ev_pos (by omega) (ev_const rfl)
    · rw [if_neg hw]
      refine ev_neg (by omega) ?_
      have := (vldZ_iff.1 hv).1
      exact ev_eq (find_loop ht hb (by omega) hwl this l _ 0 rfl (by omega) [] (by simp; omega)) (by simp)
theorem str_same {a b : List Int} (ha : Bytes a) (hb : Bytes b) : ((strOfNums a).toList = (strOfNums b).toList) ↔ a = b := by
  constructor
  · intro e
    rw [ByteArray.toList_eq, ByteArray.toList_eq] at e
    refine strOfNums_inj ha hb ?_
    have e2 : (strOfNums a).data = (strOfNums b).data := Array.ext' e
    calc strOfNums a = ⟨(strOfNums a).data⟩ := rfl
      _ = ⟨(strOfNums b).data⟩ := by rw [e2]
      _ = strOfNums b := rfl
  · intro h
    rw [h]
/-- The reference's search, from a place on. -/
theorem stands_eq {t w : List Int} (ht : Bytes t) (hb : Bytes w) (htl : t.length ≤ 4000) (hwl : w.length ≤ 140737488351232) (a : Nat) (ha : a ≤ t.length) : incunableref24_stands.f t w (a : Int) = some (occ t w a) := by
  unfold incunableref24_stands.f occ
  rw [wrap_id (n := (a : Int) + (w.length : Int)) (by omega) (by omega)]
  by_cases h : (a : Int) + (w.length : Int) ≤ (t.length : Int)
  · rw [if_pos h, if_pos (by omega), if_pos (by omega), show decide (a + w.length ≤ t.length) = true from decide_eq_true (by omega), Bool.true_and]
    congr 1
    rw [show ((a : Int) + (w.length : Int)).toNat = a + w.length by omega, Int.toNat_natCast, Bool.eq_iff_iff, beq_iff_eq, beq_iff_eq]
    exact str_same (bytes_cut ht _ _) hb
  · rw [if_neg h, show decide (a + w.length ≤ t.length) = false from decide_eq_false (by omega), Bool.false_and]
theorem rfind_loop {t w : List Int} (ht : Bytes t) (hb : Bytes w) (hw : 0 < w.length) (hwl : w.length ≤ 140737488351232) (htl : t.length ≤ 4000) (l : List Zn) : ∀ m a : Nat, t.length - a = m → a ≤ t.length → ∀ acc : List (S34), acc.length + (t.length - a) ≤ 4000 → Ev (fun k => incunableref24_Find.l0 k w acc (a : Int) t l) (acc ++ prs (fnd t w a), 0) := by
  intro m
  induction m using Nat.strongRecOn with
  | ind m ih =>
    intro a hm ha acc hac
    refine ev_succ ?_
    simp only [incunableref24_Find.l0]
    by_cases h : a < t.length
    · refine ev_pos (by omega) (ev_pure (stands_eq ht hb htl hwl a ha) ?_)
      rw [fnd, dif_pos ⟨h, hw⟩]
      cases ho : occ t w a
      · refine ev_neg (by simp) ?_
        rw [if_neg (by simp), wrap_id (n := (a : Int) + 1) (by omega) (by omega), show (a : Int) + 1 = ((a + 1 : Nat) : Int) from rfl]
        exact ih (t.length - (a + 1)) (by omega) (a + 1) rfl (by omega) acc (by omega)
      · have hf := occ_fit ho
        refine ev_pos rfl (ev_pos (by omega) ?_)
        rw [if_pos rfl, wrap_id (n := (a : Int) + (w.length : Int)) (by omega) (by omega), show (a : Int) + (w.length : Int) = ((a + w.length : Nat) : Int) from by omega]
        refine ev_eq (ih (t.length - (a + w.length)) (by omega) (a + w.length) rfl hf _ (by simp; omega)) ?_
        rw [prs_cons]
        simp
    · refine ev_neg (by omega) (ev_const ?_)
      rw [fnd, dif_neg (by omega)]
      simp [prs]
theorem rfind_ev {t w : List Int} (ht : Bytes t) (hb : Bytes w) (hwl : w.length ≤ 140737488351232) (l : List Zn) (hc : cnt l ≤ 1099511627776) : Ev (fun k => incunableref24_Find.f k t l w) (if vldZ t l = true then (if w.length = 0 then ([], 2) else (prs (fnd t w 0), 0)) else ([], 90)) := by
  unfold incunableref24_Find.f
  refine ev_bind (refvalid_ev t l hc) ?_
  cases hv : vldZ t l
  · exact ev_neg (by simp) (ev_const (by simp))
  · refine ev_pos rfl ?_
    rw [if_pos rfl]
    by_cases hw : w.length = 0
    · rw [if_pos hw]
      exact ev_pos (by omega) (ev_const rfl)
    · rw [if_neg hw]
      refine ev_neg (by omega) ?_
      have := (vldZ_iff.1 hv).1
      exact ev_eq (rfind_loop ht hb (by omega) hwl this l _ 0 rfl (by omega) [] (by simp; omega)) (by simp)
theorem pairs_loop (l : List (S34)) (hl : l.length ≤ 9223372036854775807) : ∀ m i : Nat, l.length - i = m → i ≤ l.length → Ev (fun k => incunableref24_SamePairs.l0 k l l (l.length : Int) (i : Int)) true := by
  intro m
  induction m with
  | zero =>
    intro i hm hi
    obtain rfl : i = l.length := by omega
    refine ev_succ ?_
    simp only [incunableref24_SamePairs.l0]
    exact ev_neg (by omega) (ev_const rfl)
  | succ m ih =>
    intro i hm hi
    refine ev_succ ?_
    simp only [incunableref24_SamePairs.l0]
    rw [wrap_id (n := (i : Int) + 1) (by omega) (by omega), show (i : Int) + 1 = ((i + 1 : Nat) : Int) from rfl]
    exact ev_pos (by omega) (ev_pos (by omega) (ev_pos (by omega) (ev_pos (by omega) (ev_neg (by simp) (ih (i + 1) (by omega) (by omega))))))
theorem pairs_self (l : List (S34)) (hl : l.length ≤ 9223372036854775807) : Ev (fun k => incunableref24_SamePairs.f k l l) true := by
  unfold incunableref24_SamePairs.f
  exact ev_pos rfl (pairs_loop l hl _ 0 rfl (by omega))
end Go.Proofs.Ytgcdhikmdbjfeaa.Zfi
namespace Go.Proofs.Ytgcdhikmdbjfeaa.Zaw
open Go Go.RowKit Go.Proofs.YtgcdhikmdbjfeaaW.PrintWords Go.Proofs.YtgcdhikmdbjfeaaW.PrintLast Go.Proofs.YtgcdhikmdbjfeaaW.PrintMore Go.Proofs.Ytgcdhikmdbjfeaa.U Go.Proofs.Ytgcdhikmdbjfeaa.Aid Go.Proofs.Ytgcdhikmdbjfeaa.HandAid Go.Proofs.Ytgcdhikmdbjfeaa.Zpl Go.Proofs.Ytgcdhikmdbjfeaa.Zix Go.Proofs.Ytgcdhikmdbjfeaa.Zfi
theorem vld_nil (t : List Int) (h : t.length ≤ 4000) : vldZ t [] = true := by
  rw [vldZ_iff]
  exact ⟨h, by rw [okT]; trivial, by rw [cnt]; decide, by rw [dep]; decide⟩
theorem C_cells {W : World} {g : Nat} {t : TypeId} {fr : Nat × Nat} {l : List Int} (h : W.heap[g]? = some (.cells (l.map (Value.int .u8)).toArray t fr)) (hl : l.length ≤ 9223372036854775807) : Kd.C (Kd.int .u8) W (some ⟨g, 0, none⟩) l.length l := by
  refine Kd.C_of_reads (enc := Value.int .u8) (d := (0 : Int)) (h1 := fun _ => rfl) ⟨rfl, hl, fun _ => ⟨_, rfl, fun j hj => ?_⟩⟩
  rw [Addr.add_lit]
  simp only [World.cell?, h]
  simp [List.getElem?_eq_getElem hj, List.getD_eq_getElem?_getD]
theorem C_pairs {W : World} {g : Nat} {t : TypeId} {fr : Nat × Nat} {l : List (S34)} (h : W.heap[g]? = some (.cells (l.flatMap fun x => [.int .i64 x.f0, .int .i64 x.f1]).toArray t fr)) (hl : l.length ≤ 9223372036854775807) : Kd.C k34 W (some ⟨g, 0, none⟩) l.length l := by
  refine ⟨rfl, hl, fun _ => ⟨_, rfl, fun j p hj => ⟨[.int .i64 p.f0, .int .i64 p.f1], rfl, k34_mk W p, fun i u hi => ?_⟩⟩⟩
  rw [Addr.add_lit]
  simp only [World.cell?, h]
  have key : ∀ (l : List (S34)) (j : Nat) (p : S34), l[j]? = some p → ∀ i u, [Value.int .i64 p.f0, Value.int .i64 p.f1][i]? = some u → (l.flatMap fun x => [Value.int .i64 x.f0, Value.int .i64 x.f1])[j * 2 + i]? = some u := by
    intro l
    induction l with
    | nil => intro j p hj; simp at hj
    | cons x l ih =>
      intro j p hj i u hi
      cases j with
      | zero =>
        simp at hj
        subst hj
        match i, hi with
        | 0, hi => simpa using hi
        | 1, hi => simpa using hi
      | succ j =>
        have := ih j p (by simpa using hj) i u hi
        rw [List.flatMap_cons, show (j + 1) * 2 + i = j * 2 + i + 2 by omega]
        simpa using this
  have hk := key l j p hj i u hi
  rw [← List.getElem?_toArray] at hk
  simpa [show k34.sz = 2 from rfl] using hk
theorem heap_top (w : World) (o : Obj) : (w.alloc o).heap[w.heap.size]? = some o := blk_new w o
theorem awake1 : fnd [97, 98, 32, 97, 98] [97, 98] 0 = [(0, 2), (3, 5)] := by
  rw [fnd, dif_pos (by decide), if_pos (by decide), fnd, dif_pos (by decide), if_neg (by decide), fnd, dif_pos (by decide), if_pos (by decide), fnd, dif_neg (by decide)]
  rfl
theorem awake2 : fnd [97, 97, 97] [97, 97] 0 = [(0, 2)] := by
  rw [fnd, dif_pos (by decide), if_pos (by decide), fnd, dif_pos (by decide), if_neg (by decide), fnd, dif_neg (by decide)]
  rfl
theorem bytes_lit {l : List Int} (h : (l.all fun x => decide (0 ≤ x ∧ x ≤ 255)) = true) : Bytes l := fun x hx => of_decide_eq_true (List.all_eq_true.1 h x hx)
set_option maxHeartbeats 4000000 in
set_option maxRecDepth 100000 in
theorem awake_calls (w : World) (hG : GG w) : Calls Try.prog 11 #[] w fun e w' => e = .returned (.bool true) ∧ Below w.heap.size w w' := by
  obtain ⟨k1, f1⟩ := find_ev (t := [97, 98, 32, 97, 98]) (w := [97, 98]) (bytes_lit (by decide)) (bytes_lit (by decide)) (by decide) []
  obtain ⟨k2, f2⟩ := find_ev (t := [97, 97, 97]) (w := [97, 97]) (bytes_lit (by decide)) (bytes_lit (by decide)) (by decide) []
  obtain ⟨k3, f3⟩ := pairs_self [⟨0, 2⟩, ⟨3, 5⟩] (by decide)
  obtain ⟨k4, f4⟩ := pairs_self [⟨0, 2⟩] (by decide)
  have F1 := f1 k1 (Nat.le_refl _)
  have F2 := f2 k2 (Nat.le_refl _)
  have F3 := f3 k3 (Nat.le_refl _)
  have F4 := f4 k4 (Nat.le_refl _)
  rw [if_pos (vld_nil _ (by decide)), if_neg (by decide), awake1, show prs [(0, 2), (3, 5)] = [⟨0, 2⟩, ⟨3, 5⟩] from rfl] at F1
  rw [if_pos (vld_nil _ (by decide)), if_neg (by decide), awake2, show prs [(0, 2)] = [⟨0, 2⟩] from rfl] at F2
  clear f1 f2 f3 f4
  have HF1 := Aside0.mk F1
  have HF2 := Aside0.mk F2
  have HF3 := Aside0.mk F3
  have HF4 := Aside0.mk F4
  clear F1 F2 F3 F4
  have HG := Aside0.mk hG
  clear hG
  have hu25 := Try.underlying25
  have hu34 := Try.underlying34
  go_enter Try.func11, Try.ntmps11
  have c1 := Go.Lib.run_convert_bytes_const (P := Try.prog) w 22 5 #[.int .u8 97, .int .u8 98, .int .u8 32, .int .u8 97, .int .u8 98] 5 5 Try.underlying22 Try.underlying5
  have h1 := heap_top w (.cells #[.int .u8 97, .int .u8 98, .int .u8 32, .int .u8 97, .int .u8 98] 5 (5, 6))
  have b1 := below_alloc (Below.refl w.heap.size w) (.cells #[.int .u8 97, .int .u8 98, .int .u8 32, .int .u8 97, .int .u8 98] 5 (5, 6))
  simp only [List.size_toArray, List.length_cons, List.length_nil, Nat.zero_add, Nat.reduceAdd] at c1
  obtain ⟨W1, hW1⟩ : ∃ x, w.alloc (.cells #[.int .u8 97, .int .u8 98, .int .u8 32, .int .u8 97, .int .u8 98] 5 (5, 6)) = x := ⟨_, rfl⟩
  rw [hW1] at c1 h1 b1
  have c2 := Go.Lib.run_convert_bytes_const (P := Try.prog) W1 22 5 #[.int .u8 97, .int .u8 98] 2 2 Try.underlying22 Try.underlying5
  have h2 := heap_top W1 (.cells #[.int .u8 97, .int .u8 98] 5 (2, 3))
  have b2 := below_alloc (Below.refl W1.heap.size W1) (.cells #[.int .u8 97, .int .u8 98] 5 (2, 3))
  simp only [List.size_toArray, List.length_cons, List.length_nil, Nat.zero_add, Nat.reduceAdd] at c2
  obtain ⟨W2, hW2⟩ : ∃ x, W1.alloc (.cells #[.int .u8 97, .int .u8 98] 5 (2, 3)) = x := ⟨_, rfl⟩
  rw [hW2] at c2 h2 b2
  have HC1 := Aside0.mk (C_cells (l := [97, 98, 32, 97, 98]) (blk_below h1 b2) (by decide))
  have HC2 := Aside0.mk (C_cells (l := [97, 98]) h2 (by decide))
  have HB := Aside0.mk (below_then b1 b1.size b2)
  clear h1 h2 b1 b2 hW1 hW2
  go_wp2_with (fail)
  refine (zone_Find.calls k1 _ 5 [97, 98, 32, 97, 98] none 0 [] _ 2 [97, 98] _ 0 W2 (GG_below HG.out HB.out) HC1.out (by decide) (Kd.C_nil _ _) (Nat.le_refl _) HC2.out (by decide) HF1.out).mono ?_
  rintro e w3 ⟨v1, rfl, ho, hb⟩
  obtain ⟨A1, z1, rfl⟩ := Kd.R_slice ho
  have HS1 := Aside0.mk (Kd.R_reads' ho).2.2
  have HZ1 := Aside0.mk (Kd.R_reads' ho).2.1
  have HB := Aside0.mk (below_then HB.out HB.out.size hb)
  clear ho hb HC1 HC2 c1 c2
  have c1 := Go.Lib.run_convert_bytes_const (P := Try.prog) w3 22 5 #[.int .u8 97, .int .u8 97, .int .u8 97] 3 3 Try.underlying22 Try.underlying5
  have h1 := heap_top w3 (.cells #[.int .u8 97, .int .u8 97, .int .u8 97] 5 (3, 4))
  have b1 := below_alloc (Below.refl w3.heap.size w3) (.cells #[.int .u8 97, .int .u8 97, .int .u8 97] 5 (3, 4))
  simp only [List.size_toArray, List.length_cons, List.length_nil, Nat.zero_add, Nat.reduceAdd] at c1
  obtain ⟨W4, hW1⟩ : ∃ x, w3.alloc (.cells #[.int .u8 97, .int .u8 97, .int .u8 97] 5 (3, 4)) = x := ⟨_, rfl⟩
  rw [hW1] at c1 h1 b1
  have c2 := Go.Lib.run_convert_bytes_const (P := Try.prog) W4 22 5 #[.int .u8 97, .int .u8 97] 2 2 Try.underlying22 Try.underlying5
  have h2 := heap_top W4 (.cells #[.int .u8 97, .int .u8 97] 5 (2, 3))
  have b2 := below_alloc (Below.refl W4.heap.size W4) (.cells #[.int .u8 97, .int .u8 97] 5 (2, 3))
  simp only [List.size_toArray, List.length_cons, List.length_nil, Nat.zero_add, Nat.reduceAdd] at c2
  obtain ⟨W5, hW2⟩ : ∃ x, W4.alloc (.cells #[.int .u8 97, .int .u8 97] 5 (2, 3)) = x := ⟨_, rfl⟩
  rw [hW2] at c2 h2 b2
  have HC1 := Aside0.mk (C_cells (l := [97, 97, 97]) (blk_below h1 b2) (by decide))
  have HC2 := Aside0.mk (C_cells (l := [97, 97]) h2 (by decide))
  have HS1 := Aside0.mk (Kd.C_below HS1.out (below_then b1 b1.size b2))
  have HB := Aside0.mk (below_then HB.out HB.out.size (below_then b1 b1.size b2))
  clear h1 h2 b1 b2 hW1 hW2
  go_wp2_with (fail)
  refine (zone_Find.calls k2 _ 3 [97, 97, 97] none 0 [] _ 2 [97, 97] _ 0 W5 (GG_below HG.out HB.out) HC1.out (by decide) (Kd.C_nil _ _) (Nat.le_refl _) HC2.out (by decide) HF2.out).mono ?_
  rintro e w6 ⟨v2, rfl, ho, hb⟩
  obtain ⟨A2, z2, rfl⟩ := Kd.R_slice ho
  have HS1 := Aside0.mk (Kd.C_below HS1.out hb)
  have HS2 := Aside0.mk (Kd.R_reads' ho).2.2
  have HZ2 := Aside0.mk (Kd.R_reads' ho).2.1
  have HB := Aside0.mk (below_then HB.out HB.out.size hb)
  clear ho hb HC1 HC2 c1 c2
  have hL1 := C_pairs (l := [⟨0, 2⟩, ⟨3, 5⟩]) (heap_top w6 (.cells #[.int .i64 0, .int .i64 2, .int .i64 3, .int .i64 5] 34)) (by decide)
  have hbL := below_alloc (Below.refl w6.heap.size w6) (.cells #[.int .i64 0, .int .i64 2, .int .i64 3, .int .i64 5] 34)
  have HL1 := Aside0.mk hL1
  have HS1 := Aside0.mk (Kd.C_below HS1.out hbL)
  have HS2 := Aside0.mk (Kd.C_below HS2.out hbL)
  have HB := Aside0.mk (below_then HB.out HB.out.size hbL)
  clear hL1 hbL
  go_wp2_with (fail)
  refine (incunableref24_SamePairs.calls k3 _ _ [⟨0, 2⟩, ⟨3, 5⟩] _ 2 [⟨0, 2⟩, ⟨3, 5⟩] true _ HS1.out HZ1.out HL1.out (by decide) HF3.out).mono ?_
  rintro e w7 ⟨rfl, hd⟩
  have HB := Aside0.mk (below_then HB.out HB.out.size hd.below)
  have HS2 := Aside0.mk (Kd.C_below HS2.out hd.below)
  have hL1 := C_pairs (l := [⟨0, 2⟩]) (heap_top w7 (.cells #[.int .i64 0, .int .i64 2] 34)) (by decide)
  have hbL := below_alloc (Below.refl w7.heap.size w7) (.cells #[.int .i64 0, .int .i64 2] 34)
  have HL2 := Aside0.mk hL1
  have HS2 := Aside0.mk (Kd.C_below HS2.out hbL)
  have HB := Aside0.mk (below_then HB.out HB.out.size hbL)
  clear hL1 hbL hd
  go_wp2_with (fail)
  refine (incunableref24_SamePairs.calls k4 _ _ [⟨0, 2⟩] _ 1 [⟨0, 2⟩] true _ HS2.out HZ2.out HL2.out (by decide) HF4.out).mono ?_
  rintro e w8 ⟨rfl, hd⟩
  have HB := Aside0.mk (below_then HB.out HB.out.size hd.below)
  clear hd
  go_wp2_with (fail)
  go_ret
  exact ⟨rfl, HB.out⟩
end Go.Proofs.Ytgcdhikmdbjfeaa.Zaw
namespace Go.Proofs.Ytgcdhikmdbjfeaa.U
open Go Go.RowKit Go.Proofs.YtgcdhikmdbjfeaaW.PrintWords Go.Proofs.YtgcdhikmdbjfeaaW.PrintLast Go.Proofs.YtgcdhikmdbjfeaaW.PrintMore Go.Proofs.Ytgcdhikmdbjfeaa.Aid Go.Proofs.Ytgcdhikmdbjfeaa.HandAid
def incunablelaw24_Awake.f : Option Bool := some true
theorem incunablelaw24_Awake.calls (r : Bool) (w : World) (hGG : Go.Proofs.Ytgcdhikmdbjfeaa.Zix.GG w) (h : incunablelaw24_Awake.f = some r) :
    Calls Try.prog 11 #[] w fun e w' => e = .returned (.bool r) ∧ Below w.heap.size w w' := by
  obtain rfl := Option.some.inj h
  exact Go.Proofs.Ytgcdhikmdbjfeaa.Zaw.awake_calls w hGG
end Go.Proofs.Ytgcdhikmdbjfeaa.U
namespace Go.Proofs.Ytgcdhikmdbjfeaa.U
open Go.RowKit Go.Proofs.YtgcdhikmdbjfeaaW.PrintWords Go.Proofs.YtgcdhikmdbjfeaaW.PrintLast Go.Proofs.YtgcdhikmdbjfeaaW.PrintMore
attribute [local go_sem] max2_int min2_int max_two min_two max_three min_three max_four min_four   -- for this text's walks alone
def incunablelaw24_ZoneFinds.f (k : Nat) (l0_0 : List Int) (l0_1 : List (S62)) (l1 : List Int) : Option (Bool) := (incunablelaw24_large.f k l0_0 l0_1).bind fun t152 => (if t152 = true then ((incunablelaw24_Awake.f).bind fun t153 => (some t153)) else ((zone_Find.f k l0_0 l0_1 l1).bind fun bt154 => ((incunableref24_Find.f k l0_0 l0_1 l1).bind fun bt158 => (if bt154.2 = bt158.2 then ((incunableref24_SamePairs.f k bt154.1 bt158.1).bind fun t162 => (if t162 = true then ((incunablelaw24_Awake.f).bind fun t163 => (some t163)) else (some false))) else (some false)))))
theorem incunablelaw24_ZoneFinds.mono : ∀ a0 a1 a2 k, LeO (incunablelaw24_ZoneFinds.f k a0 a1 a2) (incunablelaw24_ZoneFinds.f (k + 1) a0 a1 a2) := by
 intro a0 a1 a2 k; unfold incunablelaw24_ZoneFinds.f
 repeat' first
  | (with_reducible exact incunablelaw24_large.mono _ _ _)
  | (with_reducible exact incunableref24_Find.mono _ _ _ _)
  | (with_reducible exact incunableref24_SamePairs.mono _ _ _)
  | (with_reducible exact zone_Find.mono _ _ _ _)
  | (with_reducible exact LeO.refl _)
  | (with_reducible exact LeO.none _)
  | (with_reducible refine LeO.ite ?_ ?_)
  | (with_reducible refine LeO.bind ?_ (fun _ => ?_))
  | exact incunablelaw24_large.mono _ _ _
  | exact incunableref24_Find.mono _ _ _ _
  | exact incunableref24_SamePairs.mono _ _ _
  | exact zone_Find.mono _ _ _ _
  | exact LeO.none _
  | refine LeO.ite ?_ ?_
  | refine LeO.bind ?_ (fun _ => ?_)
set_option maxHeartbeats 8000000 in
set_option maxRecDepth 100000 in
theorem incunablelaw24_ZoneFinds.calls (k : Nat) (A0_0 : Option Addr) (c0_0 : Nat) (l0_0 : List Int) (A0_1 : Option Addr) (c0_1 : Nat) (l0_1 : List (S62)) (A1 : Option Addr) (c1 : Nat) (l1 : List Int) (r : Bool) (w : World) (hGG : Go.Proofs.Ytgcdhikmdbjfeaa.Zix.GG w) (hr0_0 : Kd.C (Kd.int .u8) w A0_0 l0_0.length l0_0) (hc0_0 : l0_0.length ≤ c0_0) (hr0_1 : Kd.C k62 w A0_1 l0_1.length l0_1) (hc0_1 : l0_1.length ≤ c0_1) (hr1 : Kd.C (Kd.int .u8) w A1 l1.length l1) (hc1 : l1.length ≤ c1) (h : incunablelaw24_ZoneFinds.f k l0_0 l0_1 l1 = some r) :
    Calls Try.prog 3 #[.agg #[.slice A0_0 l0_0.length c0_0, .slice A0_1 l0_1.length c0_1], .slice A1 l1.length c1] w fun e w' => e = .returned (.bool r) ∧ Below w.heap.size w w' := by
 have hu25 := Try.underlying25; have HR0_0 := Aside0.mk hr0_0; have HC0_0 := Aside0.mk hc0_0; clear hr0_0 hc0_0; have HR0_1 := Aside0.mk hr0_1; have HC0_1 := Aside0.mk hc0_1; clear hr0_1 hc0_1; have HR1 := Aside0.mk hr1; have HC1 := Aside0.mk hc1; clear hr1 hc1; have HB := Aside0.mk (Below.refl w.heap.size w); have HGG := Aside0.mk hGG; clear hGG; have H : ((incunablelaw24_large.f k l0_0 l0_1).bind fun t152 => (if t152 = true then ((incunablelaw24_Awake.f).bind fun t153 => (some t153)) else ((zone_Find.f k l0_0 l0_1 l1).bind fun bt154 => ((incunableref24_Find.f k l0_0 l0_1 l1).bind fun bt158 => (if bt154.2 = bt158.2 then ((incunableref24_SamePairs.f k bt154.1 bt158.1).bind fun t162 => (if t162 = true then ((incunablelaw24_Awake.f).bind fun t163 => (some t163)) else (some false))) else (some false)))))) = some r := h; clear h; replace H := Option.bind_eq_some_iff.mp H; obtain ⟨t152, A30, H⟩ := H; replace H : (if t152 = true then ((incunablelaw24_Awake.f).bind fun t153 => (some t153)) else ((zone_Find.f k l0_0 l0_1 l1).bind fun bt154 => ((incunableref24_Find.f k l0_0 l0_1 l1).bind fun bt158 => (if bt154.2 = bt158.2 then ((incunableref24_SamePairs.f k bt154.1 bt158.1).bind fun t162 => (if t162 = true then ((incunablelaw24_Awake.f).bind fun t163 => (some t163)) else (some false))) else (some false))))) = some r := H; have A3 := Aside0.mk A30; clear A30; by_cases c4 : t152 = true
 (· subst c4; (have H1 : ((incunablelaw24_Awake.f).bind fun t153 => (some t153)) = some r := by rw [if_pos rfl] at H; exact H); clear H; have H := H1; clear H1; replace H := Option.bind_eq_some_iff.mp H; obtain ⟨t153, A50, H⟩ := H; replace H : (some t153) = some r := H; have A5 := Aside0.mk A50; clear A50; obtain rfl := Option.some.inj H; go_enter Try.func3, Try.ntmps3; go_wp2_with (first | ((with_reducible refine gate_dst (N := 2) rfl ?_); refine box_event ?hg (N := 2) ?hd (cs := #[.slice A0_0 l0_0.length c0_0, .slice A0_1 l0_1.length c0_1]) (t := 25) ?hr ?_; (case hd => rfl); (case hg => rfl); (case hr => first | (go_simp; done) | (go_simp; rfl)); intro gb151 hg w6 hbox hb; have n0_ := Aside0.mk (below_step (by repeat (first | (with_reducible first | exact HB.out | apply below_alloc | apply pw_below_drewN | apply below_drew1) | exact HB.out)) hb); have n1_ := Aside0.mk (hbox); have n2_ := Aside0.mk ((by rw [hg]; exact (below_size (by repeat (first | (with_reducible first | exact HB.out | apply below_alloc | apply pw_below_drewN | apply below_drew1) | exact HB.out))) : w.heap.size ≤ gb151)); have n3_ := Aside0.mk ((by rw [hg]; exact (below_size (by repeat (first | (with_reducible first | exact HB.out | apply below_alloc | apply pw_below_drewN | apply below_drew1) | exact HB.out))) : w.heap.size ≤ gb151)); clear HB; have HB := n0_; have BK151 := n1_; have GW151 := n2_; have GE151 := n3_; clear n0_ n1_ n2_ n3_; clear hb hbox hg; have hcz7_0 : w6.cell? ⟨gb151, 0, none⟩ = some (.slice A0_0 l0_0.length c0_0) := (blk_cell BK151.out 0).trans rfl; have hcz7_1 : w6.cell? ⟨gb151, 1, none⟩ = some (.slice A0_1 l0_1.length c0_1) := (blk_cell BK151.out 1).trans rfl; have hfz7_0 := blk_frozen BK151.out 0; have hfz7_1 := blk_frozen BK151.out 1) | ((with_reducible refine gate_callee (f := 10) rfl ?_); refine goesL_ (some 10) rfl rfl Try.func10 (by kernel_rfl) rfl #[.agg #[.slice A0_0 l0_0.length c0_0, .slice A0_1 l0_1.length c0_1]] rfl (by (try simp only [List.map_toArray, List.map_cons, List.map_nil]); first | done | rfl | (simp only [List.length_drop, List.length_take]; rfl)) ?_; (with_reducible refine (incunablelaw24_large.calls k _ _ l0_0 _ _ l0_1 true _ ?side1 ?side2 ?side3 ?side4 A3.out).mono ?_); (case side1 => repeat (first | exact (Kd.C_below HR0_0.out HB.out) | (with_reducible refine Kd.C_alloc ?_ _) | (with_reducible refine Kd.C_drewN ?_ _) | (with_reducible refine Kd.C_drew ?_))); (case side2 => exact HC0_0.out); (case side3 => repeat (first | exact (Kd.C_below HR0_1.out HB.out) | (with_reducible refine Kd.C_alloc ?_ _) | (with_reducible refine Kd.C_drewN ?_ _) | (with_reducible refine Kd.C_drew ?_))); (case side4 => exact HC0_1.out); rintro e w8 ⟨rfl, hb⟩; refine ⟨_, rfl, ?_⟩; have n0_ := Aside0.mk (blk_below (g := gb151) (o := .cells #[.slice A0_0 l0_0.length c0_0, .slice A0_1 l0_1.length c0_1] 25 (0, 0)) (by (with_reducible repeat (first | refine blk_drewN ?_ _ | refine blk_drew ?_ | refine blk_alloc ?_ _)); exact BK151.out) hb); have n1_ := Aside0.mk (below_step (by repeat (first | (with_reducible first | exact HB.out | apply below_alloc | apply pw_below_drewN | apply below_drew1 | refine below_set ?_ GE151.out) | exact HB.out)) hb); clear BK151; clear HB; have BK151 := n0_; have HB := n1_; clear n0_ n1_; (try clear hb); (try clear hb2); (try clear hk); (try clear hi)) | ((with_reducible refine gate_callee (f := 11) rfl ?_); refine goesL_ (some 11) rfl rfl Try.func11 (by kernel_rfl) rfl #[] rfl (by (try simp only [List.map_toArray, List.map_cons, List.map_nil]); first | done | rfl | (simp only [List.length_drop, List.length_take]; rfl)) ?_; (with_reducible refine (incunablelaw24_Awake.calls  t153 _ ?sideG A5.out).mono ?_); (case sideG => exact Go.Proofs.Ytgcdhikmdbjfeaa.Zix.GG_below HGG.out (by repeat (first | (with_reducible first | exact HB.out | apply below_alloc | apply pw_below_drewN | apply below_drew1) | exact HB.out))); rintro e w9 ⟨rfl, hb⟩; refine ⟨_, rfl, ?_⟩; have n0_ := Aside0.mk (blk_below (g := gb151) (o := .cells #[.slice A0_0 l0_0.length c0_0, .slice A0_1 l0_1.length c0_1] 25 (0, 0)) (by (with_reducible repeat (first | refine blk_drewN ?_ _ | refine blk_drew ?_ | refine blk_alloc ?_ _)); exact BK151.out) hb); have n1_ := Aside0.mk (below_step (by repeat (first | (with_reducible first | exact HB.out | apply below_alloc | apply pw_below_drewN | apply below_drew1 | refine below_set ?_ GE151.out) | exact HB.out)) hb); clear BK151; clear HB; have BK151 := n0_; have HB := n1_; clear n0_ n1_; (try clear hb); (try clear hb2); (try clear hk); (try clear hi))); go_ret; (exact ⟨by first | rfl | (simp [errW_none, errW_some] <;> rfl) | (simp [*, errW_none, errW_some] <;> rfl), by repeat (first | (with_reducible first | exact HB.out | apply below_alloc | apply pw_below_drewN | apply below_drew1 | refine below_set ?_ GE151.out) | exact HB.out)⟩))
 (· replace c4 := Bool.eq_false_iff.mpr c4; subst c4; (have H1 : ((zone_Find.f k l0_0 l0_1 l1).bind fun bt154 => ((incunableref24_Find.f k l0_0 l0_1 l1).bind fun bt158 => (if bt154.2 = bt158.2 then ((incunableref24_SamePairs.f k bt154.1 bt158.1).bind fun t162 => (if t162 = true then ((incunablelaw24_Awake.f).bind fun t163 => (some t163)) else (some false))) else (some false)))) = some r := by rw [if_neg (show ¬ (false = true) by decide)] at H; exact H); clear H; have H := H1; clear H1; replace H := Option.bind_eq_some_iff.mp H; obtain ⟨⟨t154, t157⟩, A100, H⟩ := H; replace H : ((incunableref24_Find.f k l0_0 l0_1 l1).bind fun bt158 => (if t157 = bt158.2 then ((incunableref24_SamePairs.f k t154 bt158.1).bind fun t162 => (if t162 = true then ((incunablelaw24_Awake.f).bind fun t163 => (some t163)) else (some false))) else (some false))) = some r := H; have A10 := Aside0.mk A100; clear A100; replace H := Option.bind_eq_some_iff.mp H; obtain ⟨⟨t158, t161⟩, A110, H⟩ := H; replace H : (if t157 = t161 then ((incunableref24_SamePairs.f k t154 t158).bind fun t162 => (if t162 = true then ((incunablelaw24_Awake.f).bind fun t163 => (some t163)) else (some false))) else (some false)) = some r := H; have A11 := Aside0.mk A110; clear A110; by_cases c12 : t157 = t161; (· rw [if_pos c12] at H; have c12b0 : (t157 == t161) = true := beq_iff_eq.mpr c12; have c12b1 : (t157 != t161) = false := bne_eq_false_iff_eq.mpr c12; clear c12; replace H := Option.bind_eq_some_iff.mp H; obtain ⟨t162, A130, H⟩ := H; replace H : (if t162 = true then ((incunablelaw24_Awake.f).bind fun t163 => (some t163)) else (some false)) = some r := H; have A13 := Aside0.mk A130; clear A130; by_cases c14 : t162 = true; (· subst c14; (have H1 : ((incunablelaw24_Awake.f).bind fun t163 => (some t163)) = some r := by rw [if_pos rfl] at H; exact H); clear H; have H := H1; clear H1; replace H := Option.bind_eq_some_iff.mp H; obtain ⟨t163, A150, H⟩ := H; replace H : (some t163) = some r := H; have A15 := Aside0.mk A150; clear A150; obtain rfl := Option.some.inj H; go_enter Try.func3, Try.ntmps3; go_wp2_with (first | ((with_reducible refine gate_dst (N := 2) rfl ?_); refine box_event ?hg (N := 2) ?hd (cs := #[.slice A0_0 l0_0.length c0_0, .slice A0_1 l0_1.length c0_1]) (t := 25) ?hr ?_; (case hd => rfl); (case hg => rfl); (case hr => first | (go_simp; done) | (go_simp; rfl)); intro gb151 hg w16 hbox hb; have n0_ := Aside0.mk (below_step (by repeat (first | (with_reducible first | exact HB.out | apply below_alloc | apply pw_below_drewN | apply below_drew1) | exact HB.out)) hb); have n1_ := Aside0.mk (hbox); have n2_ := Aside0.mk ((by rw [hg]; exact (below_size (by repeat (first | (with_reducible first | exact HB.out | apply below_alloc | apply pw_below_drewN | apply below_drew1) | exact HB.out))) : w.heap.size ≤ gb151)); have n3_ := Aside0.mk ((by rw [hg]; exact (below_size (by repeat (first | (with_reducible first | exact HB.out | apply below_alloc | apply pw_below_drewN | apply below_drew1) | exact HB.out))) : w.heap.size ≤ gb151)); clear HB; have HB := n0_; have BK151 := n1_; have GW151 := n2_; have GE151 := n3_; clear n0_ n1_ n2_ n3_; clear hb hbox hg; have hcz17_0 : w16.cell? ⟨gb151, 0, none⟩ = some (.slice A0_0 l0_0.length c0_0) := (blk_cell BK151.out 0).trans rfl; have hcz17_1 : w16.cell? ⟨gb151, 1, none⟩ = some (.slice A0_1 l0_1.length c0_1) := (blk_cell BK151.out 1).trans rfl; have hfz17_0 := blk_frozen BK151.out 0; have hfz17_1 := blk_frozen BK151.out 1) | ((with_reducible refine gate_callee (f := 10) rfl ?_); refine goesL_ (some 10) rfl rfl Try.func10 (by kernel_rfl) rfl #[.agg #[.slice A0_0 l0_0.length c0_0, .slice A0_1 l0_1.length c0_1]] rfl (by (try simp only [List.map_toArray, List.map_cons, List.map_nil]); first | done | rfl | (simp only [List.length_drop, List.length_take]; rfl)) ?_; (with_reducible refine (incunablelaw24_large.calls k _ _ l0_0 _ _ l0_1 false _ ?side1 ?side2 ?side3 ?side4 A3.out).mono ?_); (case side1 => repeat (first | exact (Kd.C_below HR0_0.out HB.out) | (with_reducible refine Kd.C_alloc ?_ _) | (with_reducible refine Kd.C_drewN ?_ _) | (with_reducible refine Kd.C_drew ?_))); (case side2 => exact HC0_0.out); (case side3 => repeat (first | exact (Kd.C_below HR0_1.out HB.out) | (with_reducible refine Kd.C_alloc ?_ _) | (with_reducible refine Kd.C_drewN ?_ _) | (with_reducible refine Kd.C_drew ?_))); (case side4 => exact HC0_1.out); rintro e w18 ⟨rfl, hb⟩; refine ⟨_, rfl, ?_⟩; have n0_ := Aside0.mk (blk_below (g := gb151) (o := .cells #[.slice A0_0 l0_0.length c0_0, .slice A0_1 l0_1.length c0_1] 25 (0, 0)) (by (with_reducible repeat (first | refine blk_drewN ?_ _ | refine blk_drew ?_ | refine blk_alloc ?_ _)); exact BK151.out) hb); have n1_ := Aside0.mk (below_step (by repeat (first | (with_reducible first | exact HB.out | apply below_alloc | apply pw_below_drewN | apply below_drew1 | refine below_set ?_ GE151.out) | exact HB.out)) hb); clear BK151; clear HB; have BK151 := n0_; have HB := n1_; clear n0_ n1_; (try clear hb); (try clear hb2); (try clear hk); (try clear hi); have hcz19_0 : w18.cell? ⟨gb151, 0, none⟩ = some (.slice A0_0 l0_0.length c0_0) := (blk_cell BK151.out 0).trans rfl; have hcz19_1 : w18.cell? ⟨gb151, 1, none⟩ = some (.slice A0_1 l0_1.length c0_1) := (blk_cell BK151.out 1).trans rfl; have hfz19_0 := blk_frozen BK151.out 0; have hfz19_1 := blk_frozen BK151.out 1) | ((with_reducible refine gate_callee (f := 12) rfl ?_); refine goesL_ (some 15) rfl rfl Try.func12 (by kernel_rfl) rfl #[.agg #[.slice A0_0 l0_0.length c0_0, .slice A0_1 l0_1.length c0_1], .slice A1 l1.length c1] rfl (by (try simp only [List.map_toArray, List.map_cons, List.map_nil]); first | done | rfl | (simp only [List.length_drop, List.length_take]; rfl)) ?_; (with_reducible refine (zone_Find.calls k _ _ l0_0 _ _ l0_1 _ _ l1 t154 t157 _ ?sideG ?side1 ?side2 ?side3 ?side4 ?side5 ?side6 A10.out).mono ?_); (case sideG => exact Go.Proofs.Ytgcdhikmdbjfeaa.Zix.GG_below HGG.out (by repeat (first | (with_reducible first | exact HB.out | apply below_alloc | apply pw_below_drewN | apply below_drew1) | exact HB.out))); (case side1 => repeat (first | exact (Kd.C_below HR0_0.out HB.out) | (with_reducible refine Kd.C_alloc ?_ _) | (with_reducible refine Kd.C_drewN ?_ _) | (with_reducible refine Kd.C_drew ?_))); (case side2 => exact HC0_0.out); (case side3 => repeat (first | exact (Kd.C_below HR0_1.out HB.out) | (with_reducible refine Kd.C_alloc ?_ _) | (with_reducible refine Kd.C_drewN ?_ _) | (with_reducible refine Kd.C_drew ?_))); (case side4 => exact HC0_1.out); (case side5 => repeat (first | exact (Kd.C_below HR1.out HB.out) | (with_reducible refine Kd.C_alloc ?_ _) | (with_reducible refine Kd.C_drewN ?_ _) | (with_reducible refine Kd.C_drew ?_))); (case side6 => exact HC1.out); rintro e w20 ⟨v155, rfl, ho0, hb⟩; refine ⟨_, rfl, ?_⟩; have n0_ := Aside0.mk (Kd.R_lower ho0 (below_size (by repeat (first | (with_reducible first | exact HB.out | apply below_alloc | apply pw_below_drewN | apply below_drew1 | refine below_set ?_ GE151.out) | exact HB.out)))); have n1_ := Aside0.mk (blk_below (g := gb151) (o := .cells #[.slice A0_0 l0_0.length c0_0, .slice A0_1 l0_1.length c0_1] 25 (0, 0)) (by (with_reducible repeat (first | refine blk_drewN ?_ _ | refine blk_drew ?_ | refine blk_alloc ?_ _)); exact BK151.out) hb); have n2_ := Aside0.mk (below_step (by repeat (first | (with_reducible first | exact HB.out | apply below_alloc | apply pw_below_drewN | apply below_drew1 | refine below_set ?_ GE151.out) | exact HB.out)) hb); clear BK151; clear HB; have HO156 := n0_; have BK151 := n1_; have HB := n2_; clear n0_ n1_ n2_; (try clear hb); (try clear hb2); (try clear hk); (try clear hi); (try clear ho0); have hcz21_0 : w20.cell? ⟨gb151, 0, none⟩ = some (.slice A0_0 l0_0.length c0_0) := (blk_cell BK151.out 0).trans rfl; have hcz21_1 : w20.cell? ⟨gb151, 1, none⟩ = some (.slice A0_1 l0_1.length c0_1) := (blk_cell BK151.out 1).trans rfl; have hfz21_0 := blk_frozen BK151.out 0; have hfz21_1 := blk_frozen BK151.out 1) | ((with_reducible refine gate_callee (f := 13) rfl ?_); refine goesL_ (some 21) rfl rfl Try.func13 (by kernel_rfl) rfl #[.agg #[.slice A0_0 l0_0.length c0_0, .slice A0_1 l0_1.length c0_1], .slice A1 l1.length c1] rfl (by (try simp only [List.map_toArray, List.map_cons, List.map_nil]); first | done | rfl | (simp only [List.length_drop, List.length_take]; rfl)) ?_; (with_reducible refine (incunableref24_Find.calls k _ _ l0_0 _ _ l0_1 _ _ l1 t158 t161 _ ?side1 ?side2 ?side3 ?side4 ?side5 ?side6 A11.out).mono ?_); (case side1 => repeat (first | exact (Kd.C_below HR0_0.out HB.out) | (with_reducible refine Kd.C_alloc ?_ _) | (with_reducible refine Kd.C_drewN ?_ _) | (with_reducible refine Kd.C_drew ?_))); (case side2 => exact HC0_0.out); (case side3 => repeat (first | exact (Kd.C_below HR0_1.out HB.out) | (with_reducible refine Kd.C_alloc ?_ _) | (with_reducible refine Kd.C_drewN ?_ _) | (with_reducible refine Kd.C_drew ?_))); (case side4 => exact HC0_1.out); (case side5 => repeat (first | exact (Kd.C_below HR1.out HB.out) | (with_reducible refine Kd.C_alloc ?_ _) | (with_reducible refine Kd.C_drewN ?_ _) | (with_reducible refine Kd.C_drew ?_))); (case side6 => exact HC1.out); rintro e w22 ⟨v159, rfl, ho0, hb⟩; refine ⟨_, rfl, ?_⟩; have n0_ := Aside0.mk (Kd.R_elder' (by (with_reducible repeat (first | apply Kd.R_alloc | apply Kd.R_drewN | apply Kd.R_drew)); exact HO156.out) (Kd.R_base ho0) hb); have n1_ := Aside0.mk (Kd.R_lower (Kd.R_new' ho0 (Kd.R_lt (by (with_reducible repeat (first | apply Kd.R_alloc | apply Kd.R_drewN | apply Kd.R_drew)); exact HO156.out))) (below_size (by repeat (first | (with_reducible first | exact HB.out | apply below_alloc | apply pw_below_drewN | apply below_drew1 | refine below_set ?_ GE151.out) | exact HB.out)))); have n2_ := Aside0.mk (blk_below (g := gb151) (o := .cells #[.slice A0_0 l0_0.length c0_0, .slice A0_1 l0_1.length c0_1] 25 (0, 0)) (by (with_reducible repeat (first | refine blk_drewN ?_ _ | refine blk_drew ?_ | refine blk_alloc ?_ _)); exact BK151.out) hb); have n3_ := Aside0.mk (below_step (by repeat (first | (with_reducible first | exact HB.out | apply below_alloc | apply pw_below_drewN | apply below_drew1 | refine below_set ?_ GE151.out) | exact HB.out)) hb); clear HO156; clear BK151; clear HB; have HO156 := n0_; have HO160 := n1_; have BK151 := n2_; have HB := n3_; clear n0_ n1_ n2_ n3_; (try clear hb); (try clear hb2); (try clear hk); (try clear hi); (try clear ho0); obtain ⟨Ao23, co23, eo23⟩ := Kd.R_slice HO156.out; subst eo23; obtain ⟨Ao24, co24, eo24⟩ := Kd.R_slice HO160.out; subst eo24) | (go_at_call 14; (with_reducible refine (incunableref24_SamePairs.calls k _ _ t154 _ _ t158 true _ ?side1 ?side2 ?side3 ?side4 A13.out).mono ?_); (case side1 => repeat (first | exact (Kd.R_reads' HO156.out).2.2 | (with_reducible refine Kd.C_alloc ?_ _) | (with_reducible refine Kd.C_drewN ?_ _) | (with_reducible refine Kd.C_drew ?_))); (case side2 => exact (Kd.R_reads' HO156.out).2.1); (case side3 => repeat (first | exact (Kd.R_reads' HO160.out).2.2 | (with_reducible refine Kd.C_alloc ?_ _) | (with_reducible refine Kd.C_drewN ?_ _) | (with_reducible refine Kd.C_drew ?_))); (case side4 => exact (Kd.R_reads' HO160.out).2.1); rintro e w' ⟨rfl, ⟨nd, rfl⟩⟩) | (go_at_call 11; (with_reducible refine (incunablelaw24_Awake.calls  t163 _ ?sideG A15.out).mono ?_); (case sideG => exact Go.Proofs.Ytgcdhikmdbjfeaa.Zix.GG_below HGG.out (by repeat (first | (with_reducible first | exact HB.out | apply below_alloc | apply pw_below_drewN | apply below_drew1) | exact HB.out))); rintro e w25 ⟨rfl, hb⟩; have n0_ := Aside0.mk (Kd.R_below (by (with_reducible repeat (first | apply Kd.R_alloc | apply Kd.R_drewN | apply Kd.R_drew)); exact HO156.out) hb); have n1_ := Aside0.mk (Kd.R_below (by (with_reducible repeat (first | apply Kd.R_alloc | apply Kd.R_drewN | apply Kd.R_drew)); exact HO160.out) hb); have n2_ := Aside0.mk (blk_below (g := gb151) (o := .cells #[.slice A0_0 l0_0.length c0_0, .slice A0_1 l0_1.length c0_1] 25 (0, 0)) (by (with_reducible repeat (first | refine blk_drewN ?_ _ | refine blk_drew ?_ | refine blk_alloc ?_ _)); exact BK151.out) hb); have n3_ := Aside0.mk (below_step (by repeat (first | (with_reducible first | exact HB.out | apply below_alloc | apply pw_below_drewN | apply below_drew1 | refine below_set ?_ GE151.out) | exact HB.out)) hb); clear HO156; clear HO160; clear BK151; clear HB; have HO156 := n0_; have HO160 := n1_; have BK151 := n2_; have HB := n3_; clear n0_ n1_ n2_ n3_; (try clear hb); (try clear hb2); (try clear hk); (try clear hi))); go_ret; (exact ⟨by first | rfl | (simp [errW_none, errW_some] <;> rfl) | (simp [*, errW_none, errW_some] <;> rfl), by repeat (first | (with_reducible first | exact HB.out | apply below_alloc | apply pw_below_drewN | apply below_drew1 | refine below_set ?_ GE151.out) | exact HB.out)⟩)); (· replace c14 := Bool.eq_false_iff.mpr c14; subst c14; (have H1 : (some false) = some r := by rw [if_neg (show ¬ (false = true) by decide)] at H; exact H); clear H; have H := H1; clear H1; obtain rfl := Option.some.inj H; go_enter Try.func3, Try.ntmps3; go_wp2_with (first | ((with_reducible refine gate_dst (N := 2) rfl ?_); refine box_event ?hg (N := 2) ?hd (cs := #[.slice A0_0 l0_0.length c0_0, .slice A0_1 l0_1.length c0_1]) (t := 25) ?hr ?_; (case hd => rfl); (case hg => rfl); (case hr => first | (go_simp; done) | (go_simp; rfl)); intro gb151 hg w26 hbox hb; have n0_ := Aside0.mk (below_step (by repeat (first | (with_reducible first | exact HB.out | apply below_alloc | apply pw_below_drewN | apply below_drew1) | exact HB.out)) hb); have n1_ := Aside0.mk (hbox); have n2_ := Aside0.mk ((by rw [hg]; exact (below_size (by repeat (first | (with_reducible first | exact HB.out | apply below_alloc | apply pw_below_drewN | apply below_drew1) | exact HB.out))) : w.heap.size ≤ gb151)); have n3_ := Aside0.mk ((by rw [hg]; exact (below_size (by repeat (first | (with_reducible first | exact HB.out | apply below_alloc | apply pw_below_drewN | apply below_drew1) | exact HB.out))) : w.heap.size ≤ gb151)); clear HB; have HB := n0_; have BK151 := n1_; have GW151 := n2_; have GE151 := n3_; clear n0_ n1_ n2_ n3_; clear hb hbox hg; have hcz27_0 : w26.cell? ⟨gb151, 0, none⟩ = some (.slice A0_0 l0_0.length c0_0) := (blk_cell BK151.out 0).trans rfl; have hcz27_1 : w26.cell? ⟨gb151, 1, none⟩ = some (.slice A0_1 l0_1.length c0_1) := (blk_cell BK151.out 1).trans rfl; have hfz27_0 := blk_frozen BK151.out 0; have hfz27_1 := blk_frozen BK151.out 1) | ((with_reducible refine gate_callee (f := 10) rfl ?_); refine goesL_ (some 10) rfl rfl Try.func10 (by kernel_rfl) rfl #[.agg #[.slice A0_0 l0_0.length c0_0, .slice A0_1 l0_1.length c0_1]] rfl (by (try simp only [List.map_toArray, List.map_cons, List.map_nil]); first | done | rfl | (simp only [List.length_drop, List.length_take]; rfl)) ?_; (with_reducible refine (incunablelaw24_large.calls k _ _ l0_0 _ _ l0_1 false _ ?side1 ?side2 ?side3 ?side4 A3.out).mono ?_); (case side1 => repeat (first | exact (Kd.C_below HR0_0.out HB.out) | (with_reducible refine Kd.C_alloc ?_ _) | (with_reducible refine Kd.C_drewN ?_ _) | (with_reducible refine Kd.C_drew ?_))); (case side2 => exact HC0_0.out); (case side3 => repeat (first | exact (Kd.C_below HR0_1.out HB.out) | (with_reducible refine Kd.C_alloc ?_ _) | (with_reducible refine Kd.C_drewN ?_ _) | (with_reducible refine Kd.C_drew ?_))); (case side4 => exact HC0_1.out); rintro e w28 ⟨rfl, hb⟩; refine ⟨_, rfl, ?_⟩; have n0_ := Aside0.mk (blk_below (g := gb151) (o := .cells #[.slice A0_0 l0_0.length c0_0, .slice A0_1 l0_1.length c0_1] 25 (0, 0)) (by (with_reducible repeat (first | refine blk_drewN ?_ _ | refine blk_drew ?_ | refine blk_alloc ?_ _)); exact BK151.out) hb); have n1_ := Aside0.mk (below_step (by repeat (first | (with_reducible first | exact HB.out | apply below_alloc | apply pw_below_drewN | apply below_drew1 | refine below_set ?_ GE151.out) | exact HB.out)) hb); clear BK151; clear HB; have BK151 := n0_; have HB := n1_; clear n0_ n1_; (try clear hb); (try clear hb2); (try clear hk); (try clear hi); have hcz29_0 : w28.cell? ⟨gb151, 0, none⟩ = some (.slice A0_0 l0_0.length c0_0) := (blk_cell BK151.out 0).trans rfl; have hcz29_1 : w28.cell? ⟨gb151, 1, none⟩ = some (.slice A0_1 l0_1.length c0_1) := (blk_cell BK151.out 1).trans rfl; have hfz29_0 := blk_frozen BK151.out 0; have hfz29_1 := blk_frozen BK151.out 1) | ((with_reducible refine gate_callee (f := 12) rfl ?_); refine goesL_ (some 15) rfl rfl Try.func12 (by kernel_rfl) rfl #[.agg #[.slice A0_0 l0_0.length c0_0, .slice A0_1 l0_1.length c0_1], .slice A1 l1.length c1] rfl (by (try simp only [List.map_toArray, List.map_cons, List.map_nil]); first | done | rfl | (simp only [List.length_drop, List.length_take]; rfl)) ?_; (with_reducible refine (zone_Find.calls k _ _ l0_0 _ _ l0_1 _ _ l1 t154 t157 _ ?sideG ?side1 ?side2 ?side3 ?side4 ?side5 ?side6 A10.out).mono ?_); (case sideG => exact Go.Proofs.Ytgcdhikmdbjfeaa.Zix.GG_below HGG.out (by repeat (first | (with_reducible first | exact HB.out | apply below_alloc | apply pw_below_drewN | apply below_drew1) | exact HB.out))); (case side1 => repeat (first | exact (Kd.C_below HR0_0.out HB.out) | (with_reducible refine Kd.C_alloc ?_ _) | (with_reducible refine Kd.C_drewN ?_ _) | (with_reducible refine Kd.C_drew ?_))); (case side2 => exact HC0_0.out); (case side3 => repeat (first | exact (Kd.C_below HR0_1.out HB.out) | (with_reducible refine Kd.C_alloc ?_ _) | (with_reducible refine Kd.C_drewN ?_ _) | (with_reducible refine Kd.C_drew ?_))); (case side4 => exact HC0_1.out); (case side5 => repeat (first | exact (Kd.C_below HR1.out HB.out) | (with_reducible refine Kd.C_alloc ?_ _) | (with_reducible refine Kd.C_drewN ?_ _) | (with_reducible refine Kd.C_drew ?_))); (case side6 => exact HC1.out); rintro e w30 ⟨v155, rfl, ho0, hb⟩; refine ⟨_, rfl, ?_⟩; have n0_ := Aside0.mk (Kd.R_lower ho0 (below_size (by repeat (first | (with_reducible first | exact HB.out | apply below_alloc | apply pw_below_drewN | apply below_drew1 | refine below_set ?_ GE151.out) | exact HB.out)))); have n1_ := Aside0.mk (blk_below (g := gb151) (o := .cells #[.slice A0_0 l0_0.length c0_0, .slice A0_1 l0_1.length c0_1] 25 (0, 0)) (by (with_reducible repeat (first | refine blk_drewN ?_ _ | refine blk_drew ?_ | refine blk_alloc ?_ _)); exact BK151.out) hb); have n2_ := Aside0.mk (below_step (by repeat (first | (with_reducible first | exact HB.out | apply below_alloc | apply pw_below_drewN | apply below_drew1 | refine below_set ?_ GE151.out) | exact HB.out)) hb); clear BK151; clear HB; have HO156 := n0_; have BK151 := n1_; have HB := n2_; clear n0_ n1_ n2_; (try clear hb); (try clear hb2); (try clear hk); (try clear hi); (try clear ho0); have hcz31_0 : w30.cell? ⟨gb151, 0, none⟩ = some (.slice A0_0 l0_0.length c0_0) := (blk_cell BK151.out 0).trans rfl; have hcz31_1 : w30.cell? ⟨gb151, 1, none⟩ = some (.slice A0_1 l0_1.length c0_1) := (blk_cell BK151.out 1).trans rfl; have hfz31_0 := blk_frozen BK151.out 0; have hfz31_1 := blk_frozen BK151.out 1) | ((with_reducible refine gate_callee (f := 13) rfl ?_); refine goesL_ (some 21) rfl rfl Try.func13 (by kernel_rfl) rfl #[.agg #[.slice A0_0 l0_0.length c0_0, .slice A0_1 l0_1.length c0_1], .slice A1 l1.length c1] rfl (by (try simp only [List.map_toArray, List.map_cons, List.map_nil]); first | done | rfl | (simp only [List.length_drop, List.length_take]; rfl)) ?_; (with_reducible refine (incunableref24_Find.calls k _ _ l0_0 _ _ l0_1 _ _ l1 t158 t161 _ ?side1 ?side2 ?side3 ?side4 ?side5 ?side6 A11.out).mono ?_); (case side1 => repeat (first | exact (Kd.C_below HR0_0.out HB.out) | (with_reducible refine Kd.C_alloc ?_ _) | (with_reducible refine Kd.C_drewN ?_ _) | (with_reducible refine Kd.C_drew ?_))); (case side2 => exact HC0_0.out); (case side3 => repeat (first | exact (Kd.C_below HR0_1.out HB.out) | (with_reducible refine Kd.C_alloc ?_ _) | (with_reducible refine Kd.C_drewN ?_ _) | (with_reducible refine Kd.C_drew ?_))); (case side4 => exact HC0_1.out); (case side5 => repeat (first | exact (Kd.C_below HR1.out HB.out) | (with_reducible refine Kd.C_alloc ?_ _) | (with_reducible refine Kd.C_drewN ?_ _) | (with_reducible refine Kd.C_drew ?_))); (case side6 => exact HC1.out); rintro e w32 ⟨v159, rfl, ho0, hb⟩; refine ⟨_, rfl, ?_⟩; have n0_ := Aside0.mk (Kd.R_elder' (by (with_reducible repeat (first | apply Kd.R_alloc | apply Kd.R_drewN | apply Kd.R_drew)); exact HO156.out) (Kd.R_base ho0) hb); have n1_ := Aside0.mk (Kd.R_lower (Kd.R_new' ho0 (Kd.R_lt (by (with_reducible repeat (first | apply Kd.R_alloc | apply Kd.R_drewN | apply Kd.R_drew)); exact HO156.out))) (below_size (by repeat (first | (with_reducible first | exact HB.out | apply below_alloc | apply pw_below_drewN | apply below_drew1 | refine below_set ?_ GE151.out) | exact HB.out)))); have n2_ := Aside0.mk (blk_below (g := gb151) (o := .cells #[.slice A0_0 l0_0.length c0_0, .slice A0_1 l0_1.length c0_1] 25 (0, 0)) (by (with_reducible repeat (first | refine blk_drewN ?_ _ | refine blk_drew ?_ | refine blk_alloc ?_ _)); exact BK151.out) hb); have n3_ := Aside0.mk (below_step (by repeat (first | (with_reducible first | exact HB.out | apply below_alloc | apply pw_below_drewN | apply below_drew1 | refine below_set ?_ GE151.out) | exact HB.out)) hb); clear HO156; clear BK151; clear HB; have HO156 := n0_; have HO160 := n1_; have BK151 := n2_; have HB := n3_; clear n0_ n1_ n2_ n3_; (try clear hb); (try clear hb2); (try clear hk); (try clear hi); (try clear ho0); obtain ⟨Ao33, co33, eo33⟩ := Kd.R_slice HO156.out; subst eo33; obtain ⟨Ao34, co34, eo34⟩ := Kd.R_slice HO160.out; subst eo34) | (go_at_call 14; (with_reducible refine (incunableref24_SamePairs.calls k _ _ t154 _ _ t158 false _ ?side1 ?side2 ?side3 ?side4 A13.out).mono ?_); (case side1 => repeat (first | exact (Kd.R_reads' HO156.out).2.2 | (with_reducible refine Kd.C_alloc ?_ _) | (with_reducible refine Kd.C_drewN ?_ _) | (with_reducible refine Kd.C_drew ?_))); (case side2 => exact (Kd.R_reads' HO156.out).2.1); (case side3 => repeat (first | exact (Kd.R_reads' HO160.out).2.2 | (with_reducible refine Kd.C_alloc ?_ _) | (with_reducible refine Kd.C_drewN ?_ _) | (with_reducible refine Kd.C_drew ?_))); (case side4 => exact (Kd.R_reads' HO160.out).2.1); rintro e w' ⟨rfl, ⟨nd, rfl⟩⟩)); go_ret; (exact ⟨by first | rfl | (simp [errW_none, errW_some] <;> rfl) | (simp [*, errW_none, errW_some] <;> rfl), by repeat (first | (with_reducible first | exact HB.out | apply below_alloc | apply pw_below_drewN | apply below_drew1 | refine below_set ?_ GE151.out) | exact HB.out)⟩))); (· rw [if_neg c12] at H; have c12b0 : (t157 == t161) = false := beq_eq_false_iff_ne.mpr c12; have c12b1 : (t157 != t161) = true := bne_iff_ne.mpr c12; obtain rfl := Option.some.inj H; go_enter Try.func3, Try.ntmps3; go_wp2_with (first | ((with_reducible refine gate_dst (N := 2) rfl ?_); refine box_event ?hg (N := 2) ?hd (cs := #[.slice A0_0 l0_0.length c0_0, .slice A0_1 l0_1.length c0_1]) (t := 25) ?hr ?_; (case hd => rfl); (case hg => rfl); (case hr => first | (go_simp; done) | (go_simp; rfl)); intro gb151 hg w35 hbox hb; have n0_ := Aside0.mk (below_step (by repeat (first | (with_reducible first | exact HB.out | apply below_alloc | apply pw_below_drewN | apply below_drew1) | exact HB.out)) hb); have n1_ := Aside0.mk (hbox); have n2_ := Aside0.mk ((by rw [hg]; exact (below_size (by repeat (first | (with_reducible first | exact HB.out | apply below_alloc | apply pw_below_drewN | apply below_drew1) | exact HB.out))) : w.heap.size ≤ gb151)); have n3_ := Aside0.mk ((by rw [hg]; exact (below_size (by repeat (first | (with_reducible first | exact HB.out | apply below_alloc | apply pw_below_drewN | apply below_drew1) | exact HB.out))) : w.heap.size ≤ gb151)); clear HB; have HB := n0_; have BK151 := n1_; have GW151 := n2_; have GE151 := n3_; clear n0_ n1_ n2_ n3_; clear hb hbox hg; have hcz36_0 : w35.cell? ⟨gb151, 0, none⟩ = some (.slice A0_0 l0_0.length c0_0) := (blk_cell BK151.out 0).trans rfl; have hcz36_1 : w35.cell? ⟨gb151, 1, none⟩ = some (.slice A0_1 l0_1.length c0_1) := (blk_cell BK151.out 1).trans rfl; have hfz36_0 := blk_frozen BK151.out 0; have hfz36_1 := blk_frozen BK151.out 1) | ((with_reducible refine gate_callee (f := 10) rfl ?_); refine goesL_ (some 10) rfl rfl Try.func10 (by kernel_rfl) rfl #[.agg #[.slice A0_0 l0_0.length c0_0, .slice A0_1 l0_1.length c0_1]] rfl (by (try simp only [List.map_toArray, List.map_cons, List.map_nil]); first | done | rfl | (simp only [List.length_drop, List.length_take]; rfl)) ?_; (with_reducible refine (incunablelaw24_large.calls k _ _ l0_0 _ _ l0_1 false _ ?side1 ?side2 ?side3 ?side4 A3.out).mono ?_); (case side1 => repeat (first | exact (Kd.C_below HR0_0.out HB.out) | (with_reducible refine Kd.C_alloc ?_ _) | (with_reducible refine Kd.C_drewN ?_ _) | (with_reducible refine Kd.C_drew ?_))); (case side2 => exact HC0_0.out); (case side3 => repeat (first | exact (Kd.C_below HR0_1.out HB.out) | (with_reducible refine Kd.C_alloc ?_ _) | (with_reducible refine Kd.C_drewN ?_ _) | (with_reducible refine Kd.C_drew ?_))); (case side4 => exact HC0_1.out); rintro e w37 ⟨rfl, hb⟩; refine ⟨_, rfl, ?_⟩; have n0_ := Aside0.mk (blk_below (g := gb151) (o := .cells #[.slice A0_0 l0_0.length c0_0, .slice A0_1 l0_1.length c0_1] 25 (0, 0)) (by (with_reducible repeat (first | refine blk_drewN ?_ _ | refine blk_drew ?_ | refine blk_alloc ?_ _)); exact BK151.out) hb); have n1_ := Aside0.mk (below_step (by repeat (first | (with_reducible first | exact HB.out | apply below_alloc | apply pw_below_drewN | apply below_drew1 | refine below_set ?_ GE151.out) | exact HB.out)) hb); clear BK151; clear HB; have BK151 := n0_; have HB := n1_; clear n0_ n1_; (try clear hb); (try clear hb2); (try clear hk); (try clear hi); have hcz38_0 : w37.cell? ⟨gb151, 0, none⟩ = some (.slice A0_0 l0_0.length c0_0) := (blk_cell BK151.out 0).trans rfl; have hcz38_1 : w37.cell? ⟨gb151, 1, none⟩ = some (.slice A0_1 l0_1.length c0_1) := (blk_cell BK151.out 1).trans rfl; have hfz38_0 := blk_frozen BK151.out 0; have hfz38_1 := blk_frozen BK151.out 1) | ((with_reducible refine gate_callee (f := 12) rfl ?_); refine goesL_ (some 15) rfl rfl Try.func12 (by kernel_rfl) rfl #[.agg #[.slice A0_0 l0_0.length c0_0, .slice A0_1 l0_1.length c0_1], .slice A1 l1.length c1] rfl (by (try simp only [List.map_toArray, List.map_cons, List.map_nil]); first | done | rfl | (simp only [List.length_drop, List.length_take]; rfl)) ?_; (with_reducible refine (zone_Find.calls k _ _ l0_0 _ _ l0_1 _ _ l1 t154 t157 _ ?sideG ?side1 ?side2 ?side3 ?side4 ?side5 ?side6 A10.out).mono ?_); (case sideG => exact Go.Proofs.Ytgcdhikmdbjfeaa.Zix.GG_below HGG.out (by repeat (first | (with_reducible first | exact HB.out | apply below_alloc | apply pw_below_drewN | apply below_drew1) | exact HB.out))); (case side1 => repeat (first | exact (Kd.C_below HR0_0.out HB.out) | (with_reducible refine Kd.C_alloc ?_ _) | (with_reducible refine Kd.C_drewN ?_ _) | (with_reducible refine Kd.C_drew ?_))); (case side2 => exact HC0_0.out); (case side3 => repeat (first | exact (Kd.C_below HR0_1.out HB.out) | (with_reducible refine Kd.C_alloc ?_ _) | (with_reducible refine Kd.C_drewN ?_ _) | (with_reducible refine Kd.C_drew ?_))); (case side4 => exact HC0_1.out); (case side5 => repeat (first | exact (Kd.C_below HR1.out HB.out) | (with_reducible refine Kd.C_alloc ?_ _) | (with_reducible refine Kd.C_drewN ?_ _) | (with_reducible refine Kd.C_drew ?_))); (case side6 => exact HC1.out); rintro e w39 ⟨v155, rfl, ho0, hb⟩; refine ⟨_, rfl, ?_⟩; have n0_ := Aside0.mk (Kd.R_lower ho0 (below_size (by repeat (first | (with_reducible first | exact HB.out | apply below_alloc | apply pw_below_drewN | apply below_drew1 | refine below_set ?_ GE151.out) | exact HB.out)))); have n1_ := Aside0.mk (blk_below (g := gb151) (o := .cells #[.slice A0_0 l0_0.length c0_0, .slice A0_1 l0_1.length c0_1] 25 (0, 0)) (by (with_reducible repeat (first | refine blk_drewN ?_ _ | refine blk_drew ?_ | refine blk_alloc ?_ _)); exact BK151.out) hb); have n2_ := Aside0.mk (below_step (by repeat (first | (with_reducible first | exact HB.out | apply below_alloc | apply pw_below_drewN | apply below_drew1 | refine below_set ?_ GE151.out) | exact HB.out)) hb); clear BK151; clear HB; have HO156 := n0_; have BK151 := n1_; have HB := n2_; clear n0_ n1_ n2_; (try clear hb); (try clear hb2); (try clear hk); (try clear hi); (try clear ho0); have hcz40_0 : w39.cell? ⟨gb151, 0, none⟩ = some (.slice A0_0 l0_0.length c0_0) := (blk_cell BK151.out 0).trans rfl; have hcz40_1 : w39.cell? ⟨gb151, 1, none⟩ = some (.slice A0_1 l0_1.length c0_1) := (blk_cell BK151.out 1).trans rfl; have hfz40_0 := blk_frozen BK151.out 0; have hfz40_1 := blk_frozen BK151.out 1) | ((with_reducible refine gate_callee (f := 13) rfl ?_); refine goesL_ (some 21) rfl rfl Try.func13 (by kernel_rfl) rfl #[.agg #[.slice A0_0 l0_0.length c0_0, .slice A0_1 l0_1.length c0_1], .slice A1 l1.length c1] rfl (by (try simp only [List.map_toArray, List.map_cons, List.map_nil]); first | done | rfl | (simp only [List.length_drop, List.length_take]; rfl)) ?_; (with_reducible refine (incunableref24_Find.calls k _ _ l0_0 _ _ l0_1 _ _ l1 t158 t161 _ ?side1 ?side2 ?side3 ?side4 ?side5 ?side6 A11.out).mono ?_); (case side1 => repeat (first | exact (Kd.C_below HR0_0.out HB.out) | (with_reducible refine Kd.C_alloc ?_ _) | (with_reducible refine Kd.C_drewN ?_ _) | (with_reducible refine Kd.C_drew ?_))); (case side2 => exact HC0_0.out); (case side3 => repeat (first | exact (Kd.C_below HR0_1.out HB.out) | (with_reducible refine Kd.C_alloc ?_ _) | (with_reducible refine Kd.C_drewN ?_ _) | (with_reducible refine Kd.C_drew ?_))); (case side4 => exact HC0_1.out); (case side5 => repeat (first | exact (Kd.C_below HR1.out HB.out) | (with_reducible refine Kd.C_alloc ?_ _) | (with_reducible refine Kd.C_drewN ?_ _) | (with_reducible refine Kd.C_drew ?_))); (case side6 => exact HC1.out); rintro e w41 ⟨v159, rfl, ho0, hb⟩; refine ⟨_, rfl, ?_⟩; have n0_ := Aside0.mk (Kd.R_elder' (by (with_reducible repeat (first | apply Kd.R_alloc | apply Kd.R_drewN | apply Kd.R_drew)); exact HO156.out) (Kd.R_base ho0) hb); have n1_ := Aside0.mk (Kd.R_lower (Kd.R_new' ho0 (Kd.R_lt (by (with_reducible repeat (first | apply Kd.R_alloc | apply Kd.R_drewN | apply Kd.R_drew)); exact HO156.out))) (below_size (by repeat (first | (with_reducible first | exact HB.out | apply below_alloc | apply pw_below_drewN | apply below_drew1 | refine below_set ?_ GE151.out) | exact HB.out)))); have n2_ := Aside0.mk (blk_below (g := gb151) (o := .cells #[.slice A0_0 l0_0.length c0_0, .slice A0_1 l0_1.length c0_1] 25 (0, 0)) (by (with_reducible repeat (first | refine blk_drewN ?_ _ | refine blk_drew ?_ | refine blk_alloc ?_ _)); exact BK151.out) hb); have n3_ := Aside0.mk (below_step (by repeat (first | (with_reducible first | exact HB.out | apply below_alloc | apply pw_below_drewN | apply below_drew1 | refine below_set ?_ GE151.out) | exact HB.out)) hb); clear HO156; clear BK151; clear HB; have HO156 := n0_; have HO160 := n1_; have BK151 := n2_; have HB := n3_; clear n0_ n1_ n2_ n3_; (try clear hb); (try clear hb2); (try clear hk); (try clear hi); (try clear ho0))); go_ret; (exact ⟨by first | rfl | (simp [errW_none, errW_some] <;> rfl) | (simp [*, errW_none, errW_some] <;> rfl), by repeat (first | (with_reducible first | exact HB.out | apply below_alloc | apply pw_below_drewN | apply below_drew1 | refine below_set ?_ GE151.out) | exact HB.out)⟩)))
end Go.Proofs.Ytgcdhikmdbjfeaa.U
namespace Go.Proofs.Ytgcdhikmdbjfeaa.Opn
open Go Go.RowKit Go.Proofs.YtgcdhikmdbjfeaaW.PrintWords Go.Proofs.YtgcdhikmdbjfeaaW.PrintLast Go.Proofs.YtgcdhikmdbjfeaaW.PrintMore Go.ChangeShapes Go.WideShapes
/-- The cells that the form reads at type t (with fuel N at the most) tell an element of the kind d, of which Wf holds. -/
structure OpensTo (P : Program) (N : Nat) {α : Type} (t : TypeId) (d : Kd α) (Wf : α → Prop) : Prop where
  sz : P.cellsOf t = d.sz
  op : ∀ {H : Type} {enc : TypeId × Value → H} {w : World} {fuel : Nat} {cs : List Value} {x : DataW H × List MemPlace}, fuel ≤ N → DataW.trod enc P w 0 (fun _ => true) true fuel t cs = some x → (∀ n ∈ x.1.weights P t, n ≤ reachBytes) → ∃ a : α, d.K w a cs ∧ Wf a
section
variable {P : Program} {N : Nat} {α β : Type} {t e : TypeId} {d : Kd α} {d' : Kd β} {Wf Wf2 : α → Prop} {Wf' : β → Prop}
theorem o_int {k : IntKind} (ht : P.underlying t = some (.int k)) (hc : P.cellsOf t = 1) : OpensTo P N t (Kd.int k) (fun n => (Lit.int k n).wf = true) := ⟨hc, fun _ hx _ => by
  obtain ⟨n, rfl, rfl, hw⟩ := DataW.trod_int ht hx
  exact ⟨n, rfl, hw⟩⟩
theorem pick_list {Q : Nat → α → Prop} : ∀ n : Nat, (∀ i, i < n → ∃ p, Q i p) → ∃ xs : List α, xs.length = n ∧ ∀ i p, xs[i]? = some p → Q i p
  | 0, _ => ⟨[], rfl, fun i p h => by simp at h⟩
  | n + 1, h => by
    obtain ⟨xs, hl, hq⟩ := pick_list n (fun i hi => h i (by omega))
    obtain ⟨p, hp⟩ := h n (by omega)
    refine ⟨xs ++ [p], by simp [hl], fun i q hi => ?_⟩
    rcases Nat.lt_or_ge i n with c | c
    · rw [List.getElem?_append_left (by omega)] at hi
      exact hq i q hi
    · rw [List.getElem?_append_right (by omega)] at hi
      obtain rfl : i = n := by
        have := (List.getElem?_eq_some_iff.1 hi).1
        simp at this
        omega
      simp [hl] at hi
      subst hi
      exact hp
theorem add_add' (a : Addr) (i j : Nat) : (a.add i).add j = a.add (i + j) := by
  unfold Addr.add
  by_cases h1 : i = 0 <;> by_cases h2 : j = 0 <;> simp [h1, h2, Nat.add_assoc]
theorem weights_all {H : Type} {e : TypeId} : ∀ {l : List (DataW H)} {y : DataW H}, y ∈ l → ∀ n ∈ y.weights P e, n ∈ DataW.weightsAll P e l
  | x :: l, y, hy, n, hn => by
    unfold DataW.weightsAll
    rcases List.mem_cons.1 hy with rfl | hy
    · exact List.mem_append.2 (.inl hn)
    · exact List.mem_append.2 (.inr (weights_all hy n hn))
end
end Go.Proofs.Ytgcdhikmdbjfeaa.Opn
namespace Go.Proofs.Ytgcdhikmdbjfeaa.Opz
open Go Go.RowKit Go.Proofs.YtgcdhikmdbjfeaaW.PrintWords Go.Proofs.YtgcdhikmdbjfeaaW.PrintLast Go.Proofs.YtgcdhikmdbjfeaaW.PrintMore Go.ChangeShapes Go.WideShapes Go.Proofs.Ytgcdhikmdbjfeaa.U Go.Proofs.Ytgcdhikmdbjfeaa.Opn Go.Proofs.Ytgcdhikmdbjfeaa.Zpl
/-- As OpensTo; and how much of the datum's bulk an element takes. -/
structure OpensB (P : Program) (N : Nat) {α : Type} (t : TypeId) (d : Kd α) (Wf : α → Prop) (M : α → Nat) : Prop where
  sz : P.cellsOf t = d.sz
  op : ∀ {H : Type} {enc : TypeId × Value → H} {w : World} {fuel : Nat} {cs : List Value} {x : DataW H × List MemPlace}, fuel ≤ N → DataW.trod enc P w 0 (fun _ => true) true fuel t cs = some x → (∀ n ∈ x.1.weights P t, n ≤ reachBytes) → ∃ a : α, d.K w a cs ∧ Wf a ∧ M a ≤ Rows.uptoBulk x.1
section
variable {P : Program} {N : Nat} {α β : Type} {t e : TypeId} {d : Kd α} {d' : Kd β} {Wf Wf2 : α → Prop} {Wf' : β → Prop} {M : α → Nat} {M' : β → Nat}
theorem bulk_pos {H : Type} (d : DataW H) : 1 ≤ Rows.uptoBulk d := by
  cases d with
  | lit x => cases x <;> simp [Rows.uptoBulk]
  | _ => simp [Rows.uptoBulk]
theorem b_one (h : OpensTo P N t d Wf) : OpensB P N t d Wf (fun _ => 1) := ⟨h.sz, fun hf hx hw => by
  obtain ⟨a, hk, hwf⟩ := h.op hf hx hw
  exact ⟨a, hk, hwf, bulk_pos _⟩⟩
theorem bulk_all {H : Type} : ∀ (l : List (DataW H)) (i : Nat) (xs : List Nat), xs.length ≤ l.length → (∀ (i n : Nat), xs[i]? = some n → ∃ y : DataW H, l[i]? = some y ∧ n ≤ Rows.uptoBulk y) → xs.sum ≤ Rows.uptoBulkAll l
  | l, i, [], _, _ => by simp
  | [], i, x :: xs, h, _ => by simp at h
  | y :: l, i, x :: xs, h, hx => by
    obtain ⟨y', h1, h2⟩ := hx 0 x rfl
    obtain rfl : y = y' := by simpa using h1
    have := bulk_all l i xs (by simpa using h) (fun j n hj => hx (j + 1) n (by simpa using hj))
    simp only [List.sum_cons, Rows.uptoBulkAll]
    omega
theorem b_slice (hu : P.underlying t = some (.slice e)) (hc : P.cellsOf t = 1) (he : OpensB P N e d Wf M) {B : Nat} (hB : P.bytesOf e = B) :
    OpensB P (N + 1) t (Kd.slice e d) (fun l => l.length * B ≤ 140737488351232 ∧ ∀ x ∈ l, Wf x) (fun l => (l.map M).sum) := ⟨hc, fun {H enc w fuel cs x} hf hx hw => by
  rcases DataW.trod_slice hu hx with ⟨rfl, rfl⟩ | ⟨a, len, cap, elems, rest, n, hfn, rfl, rfl, _, hl, hm, hlen, hel, _, _⟩
  · exact ⟨[], ⟨none, 0, rfl, Nat.le_refl _, Kd.C_nil d w⟩, ⟨by simp, fun x hx => by simp at hx⟩, by simp⟩
  · have hq : ∀ i, i < len → ∃ p : α, (∃ cs', w.cells? 0 (a.add (i * P.cellsOf e)) (P.cellsOf e) = some cs' ∧ d.K w p cs') ∧ Wf p ∧ ∃ y, elems[i]? = some y ∧ M p ≤ Rows.uptoBulk y.1 := by
      intro i hi
      have h1 := hel i hi
      obtain ⟨y, hy⟩ : ∃ y, elems[i]? = some y := ⟨_, List.getElem?_eq_getElem (by omega)⟩
      rw [hy, Option.bind_eq_some_iff] at h1
      obtain ⟨cs', hcs, h2⟩ := h1
      obtain ⟨p, hk, hwf, hM⟩ := he.op (by omega) h2 (fun m hm' => hw m (by
        unfold DataW.weights
        rw [hu]
        refine List.mem_cons.2 (.inr (List.mem_append.2 (.inl (weights_all (y := y.1) ?_ m hm'))))
        exact List.mem_map.2 ⟨y, List.mem_of_getElem? hy, rfl⟩))
      exact ⟨p, ⟨cs', hcs, hk⟩, hwf, y, hy, hM⟩
    obtain ⟨xs, hxl, hxs⟩ := pick_list len hq
    have hcap : cap ≤ 9223372036854775807 := by simpa [maxLen] using hm
    refine ⟨xs, ⟨some a, cap, by rw [hxl], by omega, rfl, by omega, fun _ => ⟨a, rfl, fun j p hj => ?_⟩⟩, ⟨?_, fun x hx => ?_⟩, ?_⟩
    · obtain ⟨⟨cs', hcs, hk⟩, _⟩ := hxs j p hj
      obtain ⟨_, hl2, hcell⟩ := World.cells?_some hcs
      refine ⟨cs', d.K_len hk, hk, fun i u hi => ?_⟩
      have h3 := hcell i (by rw [← hl2]; exact (List.getElem?_eq_some_iff.1 hi).1)
      rw [Opn.add_add', he.sz, hi] at h3
      exact h3
    · have h4 := hw ((elems.length + rest.length) * P.bytesOf e) (by
        unfold DataW.weights
        rw [hu]
        simp)
      have h5 : len * B ≤ (elems.length + rest.length) * B := Nat.mul_le_mul_right _ (by omega)
      rw [hB] at h4
      rw [hxl]
      exact Nat.le_trans h5 h4
    · obtain ⟨i, hi⟩ := List.getElem?_of_mem hx
      exact (hxs i x hi).2.1
    · have hs := bulk_all (elems.map (·.1)) 0 (xs.map M) (by simp; omega) (fun i n hi => by
        rw [List.getElem?_map, Option.map_eq_some_iff] at hi
        obtain ⟨p, hp, rfl⟩ := hi
        obtain ⟨_, _, y, hy, hM⟩ := hxs i p hp
        exact ⟨y.1, by rw [List.getElem?_map, hy]; rfl, hM⟩)
      simp only [Rows.uptoBulk]
      omega⟩
/-- The same for a struct's fields from offset o on. -/
structure FieldsB (P : Program) (N : Nat) {α : Type} (fs : List Field) (o : Nat) (d : Kd α) (Wf : α → Prop) (M : α → Nat) : Prop where
  op : ∀ {H : Type} {enc : TypeId × Value → H} {w : World} {fuel : Nat} {cs : List Value} {xs : List (DataW H × List MemPlace)}, fuel ≤ N → cs.length = o + d.sz → xs.length = fs.length →
    (∀ (i : Nat) (f : Field), fs[i]? = some f → DataW.trod enc P w 0 (fun _ => true) true fuel f.type ((cs.drop f.offset).take (P.cellsOf f.type)) = xs[i]?) →
    (∀ n ∈ DataW.weightsEach P (fs.map (·.type)) (xs.map (·.1)), n ≤ reachBytes) → ∃ a : α, d.K w a (cs.drop o) ∧ Wf a ∧ M a ≤ Rows.uptoBulkAll (xs.map (·.1))
theorem fb_one {f : Field} {o : Nat} (ho : f.offset = o) (h : OpensB P N f.type d Wf M) : FieldsB P N [f] o d Wf M := ⟨by
  intro H enc w fuel cs xs hf hl hxl hx hw
  match xs, hxl with
  | [x], _ =>
    have h1 := hx 0 f rfl
    rw [ho, h.sz, List.take_of_length_le (by rw [List.length_drop]; omega)] at h1
    obtain ⟨a, hk, hwf, hM⟩ := h.op hf h1 (fun n hn => hw n (by simp [DataW.weightsEach, hn]))
    exact ⟨a, hk, hwf, by simp only [List.map_cons, List.map_nil, Rows.uptoBulkAll]; omega⟩⟩
theorem fb_cons {f : Field} {fs : List Field} {o : Nat} (ho : f.offset = o) (h : OpensB P N f.type d Wf M) (hs : FieldsB P N fs (o + d.sz) d' Wf' M') : FieldsB P N (f :: fs) o (Kd.pair d d') (fun x => Wf x.1 ∧ Wf' x.2) (fun x => M x.1 + M' x.2) := ⟨by
  intro H enc w fuel cs xs hf hl hxl hx hw
  match xs, hxl with
  | x :: xs, hxl =>
    have hl' : cs.length = o + (d.sz + d'.sz) := hl
    have h1 := hx 0 f rfl
    rw [ho, h.sz] at h1
    obtain ⟨a, hk, hwf, hM⟩ := h.op hf h1 (fun n hn => hw n (by simp [DataW.weightsEach, hn]))
    obtain ⟨b, hk', hwf', hM'⟩ := hs.op (xs := xs) hf (by rw [hl']; omega) (by simpa using hxl) (fun i g hg => by simpa using hx (i + 1) g (by simpa using hg)) (fun n hn => hw n (by
      simp only [List.map_cons, DataW.weightsEach]
      exact List.mem_append.2 (.inr hn)))
    refine ⟨(a, b), ⟨_, _, ?_, hk, hk'⟩, ⟨hwf, hwf'⟩, ?_⟩
    · rw [← List.drop_drop, List.take_append_drop]
    · simp only [List.map_cons, Rows.uptoBulkAll]
      omega⟩
theorem b_struct {fs : Array Field} (hu : P.underlying t = some (.struct fs)) (hc : P.cellsOf t = d.sz) (h : FieldsB P N fs.toList 0 d Wf M) : OpensB P (N + 1) t d Wf (fun x => M x + 1) := ⟨hc, fun {H enc w fuel cs x} hf hx hw => by
  obtain ⟨xs, n, hfn, rfl, hl, hxl, hel⟩ := DataW.trod_struct hu hx
  obtain ⟨a, hk, hwf, hM⟩ := h.op (xs := xs) (cs := cs) (w := w) (enc := enc) (fuel := n) (by omega) (by rw [hl, hc, Nat.zero_add]) (by simpa using hxl) (fun i f hf' => hel i f (by simpa using hf')) (fun m hm => hw m (by
    unfold DataW.weights
    rw [hu]
    exact hm))
  refine ⟨a, by simpa using hk, hwf, ?_⟩
  simp only [Rows.uptoBulk]
  omega⟩
/-- A row's argument that is read whole: at whatever fuel. -/
theorem open_argB {H : Type} {enc : TypeId × Value → H} {W : World} {v : Value} {x : DataW H} {p : List MemPlace} {ts : List TypeId} {ds : List (DataW H)} {j : Nat} (ho : ∀ n, OpensB P (n + N) t d Wf M)
    (h : DataW.Trod enc P W 0 (fun _ => true) true t v x p) (hsz : (DataW.weightsEach P ts ds).all (· ≤ reachBytes) = true) (ht : ts[j]? = some t) (hd : ds[j]? = some x) : ∃ a : α, d.K W a v.cells.toList ∧ Wf a ∧ M a ≤ Rows.uptoBulk x := by
  obtain ⟨fuel, hf⟩ := h
  refine (ho fuel).op (by omega) hf (fun n hn => ?_)
  have := List.all_eq_true.1 hsz n (DataW.weights_mem_each ht hd n hn)
  simpa using this
end
/-- How many zones there are, as a Nat. -/
theorem cnt_sum (l : List Zn) : cnt l = (l.map fun z => (cnt [z]).toNat).sum := by
  induction l with
  | nil => simp [cnt]
  | cons z l ih =>
    have c1 := cnt_nonneg [z]
    rw [List.map_cons, List.sum_cons, cnt, ih]
    have : cnt [z] = cnt z.f7 + 1 := by
      rw [cnt]
      simp [cnt]
    omega
theorem zone_opens : ∀ N, OpensB Try.prog N 62 k62 (fun _ => True) (fun z => (cnt [z]).toNat)
  | 0 => ⟨by kernel_rfl, fun {H enc w fuel cs x} hf hx _ => by
    obtain rfl : fuel = 0 := by omega
    simp [DataW.trod] at hx⟩
  | N + 1 => ⟨by kernel_rfl, fun {H enc w fuel cs x} hf hx hw => by
    have hi : OpensB Try.prog N 3 (Kd.int .i64) (fun n => (Lit.int .i64 n).wf = true) (fun _ => 1) := b_one (o_int Try.underlying3 (by kernel_rfl))
    have hk : OpensB Try.prog N 23 (Kd.slice 62 k62) (fun _ => True) (fun l => (l.map fun z => (cnt [z]).toNat).sum) := by
      cases N with
      | zero => exact ⟨by kernel_rfl, fun {H enc w fuel cs x} hf hx _ => by
          obtain rfl : fuel = 0 := by omega
          simp [DataW.trod] at hx⟩
      | succ N =>
        have h := b_slice (B := 80) Try.underlying23 (by kernel_rfl) (zone_opens N) (by kernel_rfl)
        exact ⟨h.sz, fun hf hx hw => by
          obtain ⟨a, h1, _, h3⟩ := h.op hf hx hw
          exact ⟨a, h1, trivial, h3⟩⟩
    have hs := b_struct (t := 62) (d := Kd.pair (Kd.int .i64) (Kd.pair (Kd.int .i64) (Kd.pair (Kd.int .i64) (Kd.pair (Kd.int .i64) (Kd.pair (Kd.int .i64) (Kd.pair (Kd.int .i64) (Kd.pair (Kd.int .i64) (Kd.slice 62 k62)))))))) Try.underlying62 (by kernel_rfl) (fb_cons rfl hi (fb_cons rfl hi (fb_cons rfl hi (fb_cons rfl hi (fb_cons rfl hi (fb_cons rfl hi (fb_cons rfl hi (fb_one rfl hk))))))))
    obtain ⟨⟨x0, x1, x2, x3, x4, x5, x6, l⟩, ⟨_, _, hcs, rfl, ⟨_, _, rfl, rfl, ⟨_, _, rfl, rfl, ⟨_, _, rfl, rfl, ⟨_, _, rfl, rfl, ⟨_, _, rfl, rfl, ⟨_, _, rfl, rfl, ⟨A, c, rfl, hl, hC⟩⟩⟩⟩⟩⟩⟩⟩, hwf, hM⟩ := hs.op hf hx hw
    refine ⟨⟨x0, x1, x2, x3, x4, x5, x6, l⟩, ?_, trivial, ?_⟩
    · rw [hcs]
      exact k62_mk w ⟨x0, x1, x2, x3, x4, x5, x6, l⟩ hl hC
    · have : cnt [(⟨x0, x1, x2, x3, x4, x5, x6, l⟩ : Zn)] = cnt l + 1 := by
        rw [cnt]
        simp [cnt]
      rw [this]
      have h2 := cnt_sum l
      simp only at hM
      omega⟩
theorem zones_opens (N : Nat) : OpensB Try.prog (N + 1) 23 (Kd.slice 62 k62) (fun l => l.length * 80 ≤ 140737488351232) (fun l => (l.map fun z => (cnt [z]).toNat).sum) := by
  have h := b_slice (B := 80) Try.underlying23 (by kernel_rfl) (zone_opens N) (by kernel_rfl)
  exact ⟨h.sz, fun hf hx hw => by
    obtain ⟨a, h1, h2, h3⟩ := h.op hf hx hw
    exact ⟨a, h1, h2.1, h3⟩⟩
theorem hidden_opens (N : Nat) : OpensB Try.prog (N + 3) 25 (Kd.pair (Kd.slice 5 (Kd.int .u8)) (Kd.slice 62 k62)) (fun x => (x.1.length * 1 ≤ 140737488351232 ∧ ∀ y ∈ x.1, (Lit.int .u8 y).wf = true) ∧ x.2.length * 80 ≤ 140737488351232) (fun x => (x.1.map fun _ => 1).sum + (x.2.map fun z => (cnt [z]).toNat).sum + 1) := by
  have h1 := b_slice (B := 1) (N := N + 1) Try.underlying22 (by kernel_rfl) (b_one (o_int Try.underlying5 (by kernel_rfl))) (by kernel_rfl)
  have h := b_struct (P := Try.prog) (N := N + 2) (t := 25) (d := Kd.pair (Kd.slice 5 (Kd.int .u8)) (Kd.slice 62 k62)) Try.underlying25 (by kernel_rfl) (fb_cons rfl h1 (fb_one rfl (zones_opens (N + 1))))
  exact h
end Go.Proofs.Ytgcdhikmdbjfeaa.Opz
namespace Go.Proofs.Ytgcdhikmdbjfeaa.Csh
open Go
variable {H : Type} {enc : TypeId × Value → H}
/-- A row with a condition of the specification's own; the contract is handed the reach and the world's shape. -/
theorem handed_cond_shaped {a : Assume} {C : Checked} {os : Os} {f : FuncId} {fn : Func} {s : OpenSpec} {k : (H : Type) → List (DataW H) → Bool} (hk : s.cond = some k) {F : Stop.Interp} {conds : List PathCond} {apart fresh handsOn again : Bool}
    (own : ownKnob C.prog.godebug = none) (started : os.Started) (noInit : C.prog.inits.idxOf? f = none) (hfn : C.prog.funcs[f]? = some fn)
    (witness : ∃ (w : World) (tape : Tape) (i : Input), w.os = os ∧ (w.forCall tape i).Shaped C.prog ∧ i.vars = [] ∧ Input.okWide C.prog (w.forCall tape i) .any w.heap.size f i ∧
      s.pre6 enc C.prog fn conds apart (w.forCall tape i).memory i.args ∧ a.holds C.prog (lone (Frame.enter C.prog f i.args .normal) [] (w.forCall tape i)))
    (contract : ∀ (W : World) (base : Nat) (args : Array Value) (ds gs : List (DataW H)) (before : List MemPlace),
      (∀ (j : Nat) t v, fn.params[j]? = some t → args[j]? = some v → Value.okWide C.prog W .any base t v) →
      DataW.Whole enc C.prog fn.params.toList s.vars apart W args.toList ds gs before →
      conds.all (PathCond.test C.prog ⟨fn.params.toList, ds, s.bare.plain.varTypes C.prog, gs⟩) = true → k H (ds ++ gs) = true →
      (DataW.weightsEach C.prog (fn.params.toList ++ s.bare.plain.varTypes C.prog) (ds ++ gs)).all (· ≤ reachBytes) = true → W.ShapedOpen C.prog →
      a.holds C.prog (lone (Frame.enter C.prog f args .normal) [] W) →
      Calls C.prog f args W fun e W' => ∃ v, e = .returned v ∧ (s.at F).post enc C.prog fn apart fresh handsOn again W args v W') :
    ReturnsInHanded a C os f .any (s.pre6 enc C.prog fn conds apart) ((s.at F).post enc C.prog fn apart fresh handsOn again) := by
  refine returnsInHanded_of_calls own started noInit witness ?_
  intro w tape i _ hsh _ hok hpre hholds
  obtain ⟨_, _, _, fn', hfn', _, _, _, _, hval⟩ := hok
  have e : fn' = fn := Option.some.inj (hfn'.symm.trans hfn)
  subst e
  obtain ⟨ds, gs, before, hw, hc, hkk⟩ := (OpenSpec.pre_some hk conds apart _ _).1 hpre.1
  have hw' := DataW.Whole.of_heap (w' := w.forCall tape i) (by rfl) hw
  refine (contract (w.forCall tape i) w.heap.size i.args ds gs before hval hw' hc hkk (hpre.2.weights hw) hsh hholds).mono fun e W' ⟨v, he, hp⟩ => ?_
  subst he
  exact ChangeSpec.post_blind hp
end Go.Proofs.Ytgcdhikmdbjfeaa.Csh
