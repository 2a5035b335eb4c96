import Derived.Test.YtgcdhikmdbjfeaaMZoneRects1
import Derived.Test.YtgcdhikmdbjfeaaMZoneRects4
import Derived.Test.YtgcdhikmdbjfeaaMZoneRects2
import Derived.Test.YtgcdhikmdbjfeaaMZoneRects0
import Derived.SizedLaws
import Derived.ChangeSlices
import Derived.ChangeArms
import Derived.Test.YtgcdhikmdbjfeaaMZoneRects3
import Derived.Test.YtgcdhikmdbjfeaaRows
import Derived.HandedShaped
import Derived.Deep.CondSized
set_option linter.unusedVariables false
set_option linter.unusedSimpArgs false
namespace Go.Proofs.Ytgcdhikmdbjfeaa.U
open Go.RowKit Go.Proofs.YtgcdhikmdbjfeaaW.PrintWords Go.Proofs.YtgcdhikmdbjfeaaW.PrintLast Go.Proofs.YtgcdhikmdbjfeaaW.PrintMore
attribute [local go_sem] max2_int min2_int max_two min_two max_three min_three max_four min_four   -- for this text's walks alone
def incunablelaw24_ZoneRects.f (k : Nat) (l0_0 : List Int) (l0_1 : List (S62)) (a1 : Int) (a2 : Int) : Option (Bool) := (incunablelaw24_large.f k l0_0 l0_1).bind fun t292 => (if t292 = true then ((incunablelaw24_Awake.f).bind fun t293 => (some t293)) else ((zone_Rects.f l0_0 l0_1 a1 a2).bind fun bt294 => ((incunableref24_Rects.f k l0_0 l0_1 a1 a2).bind fun bt298 => ((zone_Words.f l0_0 l0_1).bind fun bt302 => ((incunableref24_Words.f k l0_0 l0_1).bind fun bt306 => (if bt294.2 = bt298.2 then ((incunablelaw24_sameRects.f k bt294.1 bt298.1).bind fun t310 => (if t310 = true then (if bt302.2 = bt306.2 then ((incunableref24_SamePairs.f k bt302.1 bt306.1).bind fun t311 => (if t311 = true then ((incunablelaw24_Awake.f).bind fun t312 => (some t312)) else (some false))) else (some false)) else (some false))) else (some false)))))))
theorem incunablelaw24_ZoneRects.mono : ∀ a0 a1 a2 a3 k, LeO (incunablelaw24_ZoneRects.f k a0 a1 a2 a3) (incunablelaw24_ZoneRects.f (k + 1) a0 a1 a2 a3) := by
 intro a0 a1 a2 a3 k; unfold incunablelaw24_ZoneRects.f
 repeat' first
  | (with_reducible exact incunablelaw24_large.mono _ _ _)
  | (with_reducible exact incunablelaw24_sameRects.mono _ _ _)
  | (with_reducible exact incunableref24_Rects.mono _ _ _ _ _)
  | (with_reducible exact incunableref24_SamePairs.mono _ _ _)
  | (with_reducible exact incunableref24_Words.mono _ _ _)
  | (with_reducible exact LeO.refl _)
  | (with_reducible exact LeO.none _)
  | (with_reducible refine LeO.ite ?_ ?_)
  | (with_reducible refine LeO.bind ?_ (fun _ => ?_))
  | exact incunablelaw24_large.mono _ _ _
  | exact incunablelaw24_sameRects.mono _ _ _
  | exact incunableref24_Rects.mono _ _ _ _ _
  | exact incunableref24_SamePairs.mono _ _ _
  | exact incunableref24_Words.mono _ _ _
  | exact LeO.none _
  | refine LeO.ite ?_ ?_
  | refine LeO.bind ?_ (fun _ => ?_)
set_option maxHeartbeats 8000000 in
set_option maxRecDepth 100000 in
theorem incunablelaw24_ZoneRects.calls (k : Nat) (A0_0 : Option Addr) (c0_0 : Nat) (l0_0 : List Int) (A0_1 : Option Addr) (c0_1 : Nat) (l0_1 : List (S62)) (a1 : Int) (a2 : Int) (r : Bool) (w : World) (hGG : Go.Proofs.Ytgcdhikmdbjfeaa.Zix.GG w) (hr0_0 : Kd.C (Kd.int .u8) w A0_0 l0_0.length l0_0) (hc0_0 : l0_0.length ≤ c0_0) (hr0_1 : Kd.C k62 w A0_1 l0_1.length l0_1) (hc0_1 : l0_1.length ≤ c0_1) (h : incunablelaw24_ZoneRects.f k l0_0 l0_1 a1 a2 = some r) :
    Calls Try.prog 7 #[.agg #[.slice A0_0 l0_0.length c0_0, .slice A0_1 l0_1.length c0_1], .int .i64 a1, .int .i64 a2] w fun e w' => e = .returned (.bool r) ∧ Below w.heap.size w w' := by
 have hu25 := Try.underlying25; have HR0_0 := Aside0.mk hr0_0; have HC0_0 := Aside0.mk hc0_0; clear hr0_0 hc0_0; have HR0_1 := Aside0.mk hr0_1; have HC0_1 := Aside0.mk hc0_1; clear hr0_1 hc0_1; have HB := Aside0.mk (Below.refl w.heap.size w); have HGG := Aside0.mk hGG; clear hGG; have H : ((incunablelaw24_large.f k l0_0 l0_1).bind fun t292 => (if t292 = true then ((incunablelaw24_Awake.f).bind fun t293 => (some t293)) else ((zone_Rects.f l0_0 l0_1 a1 a2).bind fun bt294 => ((incunableref24_Rects.f k l0_0 l0_1 a1 a2).bind fun bt298 => ((zone_Words.f l0_0 l0_1).bind fun bt302 => ((incunableref24_Words.f k l0_0 l0_1).bind fun bt306 => (if bt294.2 = bt298.2 then ((incunablelaw24_sameRects.f k bt294.1 bt298.1).bind fun t310 => (if t310 = true then (if bt302.2 = bt306.2 then ((incunableref24_SamePairs.f k bt302.1 bt306.1).bind fun t311 => (if t311 = true then ((incunablelaw24_Awake.f).bind fun t312 => (some t312)) else (some false))) else (some false)) else (some false))) else (some false)))))))) = some r := h; clear h; replace H := Option.bind_eq_some_iff.mp H; obtain ⟨t292, A40, H⟩ := H
 replace H : (if t292 = true then ((incunablelaw24_Awake.f).bind fun t293 => (some t293)) else ((zone_Rects.f l0_0 l0_1 a1 a2).bind fun bt294 => ((incunableref24_Rects.f k l0_0 l0_1 a1 a2).bind fun bt298 => ((zone_Words.f l0_0 l0_1).bind fun bt302 => ((incunableref24_Words.f k l0_0 l0_1).bind fun bt306 => (if bt294.2 = bt298.2 then ((incunablelaw24_sameRects.f k bt294.1 bt298.1).bind fun t310 => (if t310 = true then (if bt302.2 = bt306.2 then ((incunableref24_SamePairs.f k bt302.1 bt306.1).bind fun t311 => (if t311 = true then ((incunablelaw24_Awake.f).bind fun t312 => (some t312)) else (some false))) else (some false)) else (some false))) else (some false))))))) = some r := H; have A4 := Aside0.mk A40; clear A40; by_cases c5 : t292 = true
 (· subst c5; (have H1 : ((incunablelaw24_Awake.f).bind fun t293 => (some t293)) = some r := by rw [if_pos rfl] at H; exact H); clear H; have H := H1; clear H1; replace H := Option.bind_eq_some_iff.mp H; obtain ⟨t293, A60, H⟩ := H; replace H : (some t293) = some r := H; have A6 := Aside0.mk A60; clear A60; obtain rfl := Option.some.inj H; go_enter Try.func7, Try.ntmps7; go_wp2_with (first | ((with_reducible refine gate_dst (N := 3) rfl ?_); refine box_event ?hg (N := 3) ?hd (cs := #[.slice A0_0 l0_0.length c0_0, .slice A0_1 l0_1.length c0_1]) (t := 25) ?hr ?_; (case hd => rfl); (case hg => rfl); (case hr => first | (go_simp; done) | (go_simp; rfl)); intro gb291 hg w7 hbox hb; have n0_ := Aside0.mk (below_step (by repeat (first | (with_reducible first | exact HB.out | apply below_alloc | apply pw_below_drewN | apply below_drew1) | exact HB.out)) hb); have n1_ := Aside0.mk (hbox); have n2_ := Aside0.mk ((by rw [hg]; exact (below_size (by repeat (first | (with_reducible first | exact HB.out | apply below_alloc | apply pw_below_drewN | apply below_drew1) | exact HB.out))) : w.heap.size ≤ gb291)); have n3_ := Aside0.mk ((by rw [hg]; exact (below_size (by repeat (first | (with_reducible first | exact HB.out | apply below_alloc | apply pw_below_drewN | apply below_drew1) | exact HB.out))) : w.heap.size ≤ gb291)); clear HB; have HB := n0_; have BK291 := n1_; have GW291 := n2_; have GE291 := n3_; clear n0_ n1_ n2_ n3_; clear hb hbox hg; have hcz8_0 : w7.cell? ⟨gb291, 0, none⟩ = some (.slice A0_0 l0_0.length c0_0) := (blk_cell BK291.out 0).trans rfl; have hcz8_1 : w7.cell? ⟨gb291, 1, none⟩ = some (.slice A0_1 l0_1.length c0_1) := (blk_cell BK291.out 1).trans rfl; have hfz8_0 := blk_frozen BK291.out 0; have hfz8_1 := blk_frozen BK291.out 1) | ((with_reducible refine gate_callee (f := 10) rfl ?_); refine goesL_ (some 16) rfl rfl Try.func10 (by kernel_rfl) rfl #[.agg #[.slice A0_0 l0_0.length c0_0, .slice A0_1 l0_1.length c0_1]] rfl (by (try simp only [List.map_toArray, List.map_cons, List.map_nil]); first | done | rfl | (simp only [List.length_drop, List.length_take]; rfl)) ?_; (with_reducible refine (incunablelaw24_large.calls k _ _ l0_0 _ _ l0_1 true _ ?side1 ?side2 ?side3 ?side4 A4.out).mono ?_); (case side1 => repeat (first | exact (Kd.C_below HR0_0.out HB.out) | (with_reducible refine Kd.C_alloc ?_ _) | (with_reducible refine Kd.C_drewN ?_ _) | (with_reducible refine Kd.C_drew ?_))); (case side2 => exact HC0_0.out); (case side3 => repeat (first | exact (Kd.C_below HR0_1.out HB.out) | (with_reducible refine Kd.C_alloc ?_ _) | (with_reducible refine Kd.C_drewN ?_ _) | (with_reducible refine Kd.C_drew ?_))); (case side4 => exact HC0_1.out); rintro e w9 ⟨rfl, hb⟩; refine ⟨_, rfl, ?_⟩; have n0_ := Aside0.mk (blk_below (g := gb291) (o := .cells #[.slice A0_0 l0_0.length c0_0, .slice A0_1 l0_1.length c0_1] 25 (0, 0)) (by (with_reducible repeat (first | refine blk_drewN ?_ _ | refine blk_drew ?_ | refine blk_alloc ?_ _)); exact BK291.out) hb); have n1_ := Aside0.mk (below_step (by repeat (first | (with_reducible first | exact HB.out | apply below_alloc | apply pw_below_drewN | apply below_drew1 | refine below_set ?_ GE291.out) | exact HB.out)) hb); clear BK291; clear HB; have BK291 := n0_; have HB := n1_; clear n0_ n1_; (try clear hb); (try clear hb2); (try clear hk); (try clear hi)) | ((with_reducible refine gate_callee (f := 11) rfl ?_); refine goesL_ (some 17) rfl rfl Try.func11 (by kernel_rfl) rfl #[] rfl (by (try simp only [List.map_toArray, List.map_cons, List.map_nil]); first | done | rfl | (simp only [List.length_drop, List.length_take]; rfl)) ?_; (with_reducible refine (incunablelaw24_Awake.calls  t293 _ ?sideG A6.out).mono ?_); (case sideG => exact Go.Proofs.Ytgcdhikmdbjfeaa.Zix.GG_below HGG.out (by repeat (first | (with_reducible first | exact HB.out | apply below_alloc | apply pw_below_drewN | apply below_drew1) | exact HB.out))); rintro e w10 ⟨rfl, hb⟩; refine ⟨_, rfl, ?_⟩; have n0_ := Aside0.mk (blk_below (g := gb291) (o := .cells #[.slice A0_0 l0_0.length c0_0, .slice A0_1 l0_1.length c0_1] 25 (0, 0)) (by (with_reducible repeat (first | refine blk_drewN ?_ _ | refine blk_drew ?_ | refine blk_alloc ?_ _)); exact BK291.out) hb); have n1_ := Aside0.mk (below_step (by repeat (first | (with_reducible first | exact HB.out | apply below_alloc | apply pw_below_drewN | apply below_drew1 | refine below_set ?_ GE291.out) | exact HB.out)) hb); clear BK291; clear HB; have BK291 := n0_; have HB := n1_; clear n0_ n1_; (try clear hb); (try clear hb2); (try clear hk); (try clear hi))); go_ret; (exact ⟨by first | rfl | (simp [errW_none, errW_some] <;> rfl) | (simp [*, errW_none, errW_some] <;> rfl), by repeat (first | (with_reducible first | exact HB.out | apply below_alloc | apply pw_below_drewN | apply below_drew1 | refine below_set ?_ GE291.out) | exact HB.out)⟩))
 (· replace c5 := Bool.eq_false_iff.mpr c5; subst c5; (have H1 : ((zone_Rects.f l0_0 l0_1 a1 a2).bind fun bt294 => ((incunableref24_Rects.f k l0_0 l0_1 a1 a2).bind fun bt298 => ((zone_Words.f l0_0 l0_1).bind fun bt302 => ((incunableref24_Words.f k l0_0 l0_1).bind fun bt306 => (if bt294.2 = bt298.2 then ((incunablelaw24_sameRects.f k bt294.1 bt298.1).bind fun t310 => (if t310 = true then (if bt302.2 = bt306.2 then ((incunableref24_SamePairs.f k bt302.1 bt306.1).bind fun t311 => (if t311 = true then ((incunablelaw24_Awake.f).bind fun t312 => (some t312)) else (some false))) else (some false)) else (some false))) else (some false)))))) = some r := by rw [if_neg (show ¬ (false = true) by decide)] at H; exact H); clear H; have H := H1; clear H1; replace H := Option.bind_eq_some_iff.mp H; obtain ⟨⟨t294, t297⟩, A110, H⟩ := H; replace H : ((incunableref24_Rects.f k l0_0 l0_1 a1 a2).bind fun bt298 => ((zone_Words.f l0_0 l0_1).bind fun bt302 => ((incunableref24_Words.f k l0_0 l0_1).bind fun bt306 => (if t297 = bt298.2 then ((incunablelaw24_sameRects.f k t294 bt298.1).bind fun t310 => (if t310 = true then (if bt302.2 = bt306.2 then ((incunableref24_SamePairs.f k bt302.1 bt306.1).bind fun t311 => (if t311 = true then ((incunablelaw24_Awake.f).bind fun t312 => (some t312)) else (some false))) else (some false)) else (some false))) else (some false))))) = some r := H; have A11 := Aside0.mk A110; clear A110; replace H := Option.bind_eq_some_iff.mp H; obtain ⟨⟨t298, t301⟩, A120, H⟩ := H; replace H : ((zone_Words.f l0_0 l0_1).bind fun bt302 => ((incunableref24_Words.f k l0_0 l0_1).bind fun bt306 => (if t297 = t301 then ((incunablelaw24_sameRects.f k t294 t298).bind fun t310 => (if t310 = true then (if bt302.2 = bt306.2 then ((incunableref24_SamePairs.f k bt302.1 bt306.1).bind fun t311 => (if t311 = true then ((incunablelaw24_Awake.f).bind fun t312 => (some t312)) else (some false))) else (some false)) else (some false))) else (some false)))) = some r := H; have A12 := Aside0.mk A120; clear A120; replace H := Option.bind_eq_some_iff.mp H; obtain ⟨⟨t302, t305⟩, A130, H⟩ := H; replace H : ((incunableref24_Words.f k l0_0 l0_1).bind fun bt306 => (if t297 = t301 then ((incunablelaw24_sameRects.f k t294 t298).bind fun t310 => (if t310 = true then (if t305 = bt306.2 then ((incunableref24_SamePairs.f k t302 bt306.1).bind fun t311 => (if t311 = true then ((incunablelaw24_Awake.f).bind fun t312 => (some t312)) else (some false))) else (some false)) else (some false))) else (some false))) = some r := H; have A13 := Aside0.mk A130; clear A130; replace H := Option.bind_eq_some_iff.mp H; obtain ⟨⟨t306, t309⟩, A140, H⟩ := H; replace H : (if t297 = t301 then ((incunablelaw24_sameRects.f k t294 t298).bind fun t310 => (if t310 = true then (if t305 = t309 then ((incunableref24_SamePairs.f k t302 t306).bind fun t311 => (if t311 = true then ((incunablelaw24_Awake.f).bind fun t312 => (some t312)) else (some false))) else (some false)) else (some false))) else (some false)) = some r := H; have A14 := Aside0.mk A140; clear A140; by_cases c15 : t297 = t301; (· rw [if_pos c15] at H; have c15b0 : (t297 == t301) = true := beq_iff_eq.mpr c15; have c15b1 : (t297 != t301) = false := bne_eq_false_iff_eq.mpr c15; clear c15; replace H := Option.bind_eq_some_iff.mp H; obtain ⟨t310, A160, H⟩ := H; replace H : (if t310 = true then (if t305 = t309 then ((incunableref24_SamePairs.f k t302 t306).bind fun t311 => (if t311 = true then ((incunablelaw24_Awake.f).bind fun t312 => (some t312)) else (some false))) else (some false)) else (some false)) = some r := H; have A16 := Aside0.mk A160; clear A160; by_cases c17 : t310 = true; (· subst c17; (have H1 : (if t305 = t309 then ((incunableref24_SamePairs.f k t302 t306).bind fun t311 => (if t311 = true then ((incunablelaw24_Awake.f).bind fun t312 => (some t312)) else (some false))) else (some false)) = some r := by rw [if_pos rfl] at H; exact H); clear H; have H := H1; clear H1; by_cases c18 : t305 = t309; (· rw [if_pos c18] at H; have c18b0 : (t305 == t309) = true := beq_iff_eq.mpr c18; have c18b1 : (t305 != t309) = false := bne_eq_false_iff_eq.mpr c18; clear c18; replace H := Option.bind_eq_some_iff.mp H; obtain ⟨t311, A190, H⟩ := H; replace H : (if t311 = true then ((incunablelaw24_Awake.f).bind fun t312 => (some t312)) else (some false)) = some r := H; have A19 := Aside0.mk A190; clear A190; by_cases c20 : t311 = true; (· subst c20; (have H1 : ((incunablelaw24_Awake.f).bind fun t312 => (some t312)) = some r := by rw [if_pos rfl] at H; exact H); clear H; have H := H1; clear H1; replace H := Option.bind_eq_some_iff.mp H; obtain ⟨t312, A210, H⟩ := H; replace H : (some t312) = some r := H; have A21 := Aside0.mk A210; clear A210; obtain rfl := Option.some.inj H; go_enter Try.func7, Try.ntmps7; go_wp2_with (first | ((with_reducible refine gate_dst (N := 3) rfl ?_); refine box_event ?hg (N := 3) ?hd (cs := #[.slice A0_0 l0_0.length c0_0, .slice A0_1 l0_1.length c0_1]) (t := 25) ?hr ?_; (case hd => rfl); (case hg => rfl); (case hr => first | (go_simp; done) | (go_simp; rfl)); intro gb291 hg w22 hbox hb; have n0_ := Aside0.mk (below_step (by repeat (first | (with_reducible first | exact HB.out | apply below_alloc | apply pw_below_drewN | apply below_drew1) | exact HB.out)) hb); have n1_ := Aside0.mk (hbox); have n2_ := Aside0.mk ((by rw [hg]; exact (below_size (by repeat (first | (with_reducible first | exact HB.out | apply below_alloc | apply pw_below_drewN | apply below_drew1) | exact HB.out))) : w.heap.size ≤ gb291)); have n3_ := Aside0.mk ((by rw [hg]; exact (below_size (by repeat (first | (with_reducible first | exact HB.out | apply below_alloc | apply pw_below_drewN | apply below_drew1) | exact HB.out))) : w.heap.size ≤ gb291)); clear HB; have HB := n0_; have BK291 := n1_; have GW291 := n2_; have GE291 := n3_; clear n0_ n1_ n2_ n3_; clear hb hbox hg; have hcz23_0 : w22.cell? ⟨gb291, 0, none⟩ = some (.slice A0_0 l0_0.length c0_0) := (blk_cell BK291.out 0).trans rfl; have hcz23_1 : w22.cell? ⟨gb291, 1, none⟩ = some (.slice A0_1 l0_1.length c0_1) := (blk_cell BK291.out 1).trans rfl; have hfz23_0 := blk_frozen BK291.out 0; have hfz23_1 := blk_frozen BK291.out 1) | ((with_reducible refine gate_callee (f := 10) rfl ?_); refine goesL_ (some 16) rfl rfl Try.func10 (by kernel_rfl) rfl #[.agg #[.slice A0_0 l0_0.length c0_0, .slice A0_1 l0_1.length c0_1]] rfl (by (try simp only [List.map_toArray, List.map_cons, List.map_nil]); first | done | rfl | (simp only [List.length_drop, List.length_take]; rfl)) ?_; (with_reducible refine (incunablelaw24_large.calls k _ _ l0_0 _ _ l0_1 false _ ?side1 ?side2 ?side3 ?side4 A4.out).mono ?_); (case side1 => repeat (first | exact (Kd.C_below HR0_0.out HB.out) | (with_reducible refine Kd.C_alloc ?_ _) | (with_reducible refine Kd.C_drewN ?_ _) | (with_reducible refine Kd.C_drew ?_))); (case side2 => exact HC0_0.out); (case side3 => repeat (first | exact (Kd.C_below HR0_1.out HB.out) | (with_reducible refine Kd.C_alloc ?_ _) | (with_reducible refine Kd.C_drewN ?_ _) | (with_reducible refine Kd.C_drew ?_))); (case side4 => exact HC0_1.out); rintro e w24 ⟨rfl, hb⟩; refine ⟨_, rfl, ?_⟩; have n0_ := Aside0.mk (blk_below (g := gb291) (o := .cells #[.slice A0_0 l0_0.length c0_0, .slice A0_1 l0_1.length c0_1] 25 (0, 0)) (by (with_reducible repeat (first | refine blk_drewN ?_ _ | refine blk_drew ?_ | refine blk_alloc ?_ _)); exact BK291.out) hb); have n1_ := Aside0.mk (below_step (by repeat (first | (with_reducible first | exact HB.out | apply below_alloc | apply pw_below_drewN | apply below_drew1 | refine below_set ?_ GE291.out) | exact HB.out)) hb); clear BK291; clear HB; have BK291 := n0_; have HB := n1_; clear n0_ n1_; (try clear hb); (try clear hb2); (try clear hk); (try clear hi); have hcz25_0 : w24.cell? ⟨gb291, 0, none⟩ = some (.slice A0_0 l0_0.length c0_0) := (blk_cell BK291.out 0).trans rfl; have hcz25_1 : w24.cell? ⟨gb291, 1, none⟩ = some (.slice A0_1 l0_1.length c0_1) := (blk_cell BK291.out 1).trans rfl; have hfz25_0 := blk_frozen BK291.out 0; have hfz25_1 := blk_frozen BK291.out 1) | ((with_reducible refine gate_callee (f := 22) rfl ?_); refine goesL_ (some 22) rfl rfl Try.func22 (by kernel_rfl) rfl #[.agg #[.slice A0_0 l0_0.length c0_0, .slice A0_1 l0_1.length c0_1], .int .i64 a1, .int .i64 a2] rfl (by (try simp only [List.map_toArray, List.map_cons, List.map_nil]); first | done | rfl | (simp only [List.length_drop, List.length_take]; rfl)) ?_; (with_reducible refine (zone_Rects.calls _ _ l0_0 _ _ l0_1 a1 a2 t294 t297 _ ?side1 ?side2 ?side3 ?side4 A11.out).mono ?_); (case side1 => repeat (first | exact (Kd.C_below HR0_0.out HB.out) | (with_reducible refine Kd.C_alloc ?_ _) | (with_reducible refine Kd.C_drewN ?_ _) | (with_reducible refine Kd.C_drew ?_))); (case side2 => exact HC0_0.out); (case side3 => repeat (first | exact (Kd.C_below HR0_1.out HB.out) | (with_reducible refine Kd.C_alloc ?_ _) | (with_reducible refine Kd.C_drewN ?_ _) | (with_reducible refine Kd.C_drew ?_))); (case side4 => exact HC0_1.out); rintro e w26 ⟨v295, rfl, ho0, hb⟩; refine ⟨_, rfl, ?_⟩; have n0_ := Aside0.mk (Kd.R_lower ho0 (below_size (by repeat (first | (with_reducible first | exact HB.out | apply below_alloc | apply pw_below_drewN | apply below_drew1 | refine below_set ?_ GE291.out) | exact HB.out)))); have n1_ := Aside0.mk (blk_below (g := gb291) (o := .cells #[.slice A0_0 l0_0.length c0_0, .slice A0_1 l0_1.length c0_1] 25 (0, 0)) (by (with_reducible repeat (first | refine blk_drewN ?_ _ | refine blk_drew ?_ | refine blk_alloc ?_ _)); exact BK291.out) hb); have n2_ := Aside0.mk (below_step (by repeat (first | (with_reducible first | exact HB.out | apply below_alloc | apply pw_below_drewN | apply below_drew1 | refine below_set ?_ GE291.out) | exact HB.out)) hb); clear BK291; clear HB; have HO296 := n0_; have BK291 := n1_; have HB := n2_; clear n0_ n1_ n2_; (try clear hb); (try clear hb2); (try clear hk); (try clear hi); (try clear ho0); have hcz27_0 : w26.cell? ⟨gb291, 0, none⟩ = some (.slice A0_0 l0_0.length c0_0) := (blk_cell BK291.out 0).trans rfl; have hcz27_1 : w26.cell? ⟨gb291, 1, none⟩ = some (.slice A0_1 l0_1.length c0_1) := (blk_cell BK291.out 1).trans rfl; have hfz27_0 := blk_frozen BK291.out 0; have hfz27_1 := blk_frozen BK291.out 1) | ((with_reducible refine gate_callee (f := 23) rfl ?_); refine goesL_ (some 29) rfl rfl Try.func23 (by kernel_rfl) rfl #[.agg #[.slice A0_0 l0_0.length c0_0, .slice A0_1 l0_1.length c0_1], .int .i64 a1, .int .i64 a2] rfl (by (try simp only [List.map_toArray, List.map_cons, List.map_nil]); first | done | rfl | (simp only [List.length_drop, List.length_take]; rfl)) ?_; (with_reducible refine (incunableref24_Rects.calls k _ _ l0_0 _ _ l0_1 a1 a2 t298 t301 _ ?side1 ?side2 ?side3 ?side4 A12.out).mono ?_); (case side1 => repeat (first | exact (Kd.C_below HR0_0.out HB.out) | (with_reducible refine Kd.C_alloc ?_ _) | (with_reducible refine Kd.C_drewN ?_ _) | (with_reducible refine Kd.C_drew ?_))); (case side2 => exact HC0_0.out); (case side3 => repeat (first | exact (Kd.C_below HR0_1.out HB.out) | (with_reducible refine Kd.C_alloc ?_ _) | (with_reducible refine Kd.C_drewN ?_ _) | (with_reducible refine Kd.C_drew ?_))); (case side4 => exact HC0_1.out); rintro e w28 ⟨v299, rfl, ho0, hb⟩; refine ⟨_, rfl, ?_⟩; have n0_ := Aside0.mk (Kd.R_elder' (by (with_reducible repeat (first | apply Kd.R_alloc | apply Kd.R_drewN | apply Kd.R_drew)); exact HO296.out) (Kd.R_base ho0) hb); have n1_ := Aside0.mk (Kd.R_lower (Kd.R_new' ho0 (Kd.R_lt (by (with_reducible repeat (first | apply Kd.R_alloc | apply Kd.R_drewN | apply Kd.R_drew)); exact HO296.out))) (below_size (by repeat (first | (with_reducible first | exact HB.out | apply below_alloc | apply pw_below_drewN | apply below_drew1 | refine below_set ?_ GE291.out) | exact HB.out)))); have n2_ := Aside0.mk (blk_below (g := gb291) (o := .cells #[.slice A0_0 l0_0.length c0_0, .slice A0_1 l0_1.length c0_1] 25 (0, 0)) (by (with_reducible repeat (first | refine blk_drewN ?_ _ | refine blk_drew ?_ | refine blk_alloc ?_ _)); exact BK291.out) hb); have n3_ := Aside0.mk (below_step (by repeat (first | (with_reducible first | exact HB.out | apply below_alloc | apply pw_below_drewN | apply below_drew1 | refine below_set ?_ GE291.out) | exact HB.out)) hb); clear HO296; clear BK291; clear HB; have HO296 := n0_; have HO300 := n1_; have BK291 := n2_; have HB := n3_; clear n0_ n1_ n2_ n3_; (try clear hb); (try clear hb2); (try clear hk); (try clear hi); (try clear ho0); have hcz29_0 : w28.cell? ⟨gb291, 0, none⟩ = some (.slice A0_0 l0_0.length c0_0) := (blk_cell BK291.out 0).trans rfl; have hcz29_1 : w28.cell? ⟨gb291, 1, none⟩ = some (.slice A0_1 l0_1.length c0_1) := (blk_cell BK291.out 1).trans rfl; have hfz29_0 := blk_frozen BK291.out 0; have hfz29_1 := blk_frozen BK291.out 1) | ((with_reducible refine gate_callee (f := 24) rfl ?_); refine goesL_ (some 34) rfl rfl Try.func24 (by kernel_rfl) rfl #[.agg #[.slice A0_0 l0_0.length c0_0, .slice A0_1 l0_1.length c0_1]] rfl (by (try simp only [List.map_toArray, List.map_cons, List.map_nil]); first | done | rfl | (simp only [List.length_drop, List.length_take]; rfl)) ?_; (with_reducible refine (zone_Words.calls _ _ l0_0 _ _ l0_1 t302 t305 _ ?side1 ?side2 ?side3 ?side4 A13.out).mono ?_); (case side1 => repeat (first | exact (Kd.C_below HR0_0.out HB.out) | (with_reducible refine Kd.C_alloc ?_ _) | (with_reducible refine Kd.C_drewN ?_ _) | (with_reducible refine Kd.C_drew ?_))); (case side2 => exact HC0_0.out); (case side3 => repeat (first | exact (Kd.C_below HR0_1.out HB.out) | (with_reducible refine Kd.C_alloc ?_ _) | (with_reducible refine Kd.C_drewN ?_ _) | (with_reducible refine Kd.C_drew ?_))); (case side4 => exact HC0_1.out); rintro e w30 ⟨v303, rfl, ho0, hb⟩; refine ⟨_, rfl, ?_⟩; have n0_ := Aside0.mk (Kd.R_below (by (with_reducible repeat (first | apply Kd.R_alloc | apply Kd.R_drewN | apply Kd.R_drew)); exact HO296.out) hb); have n1_ := Aside0.mk (Kd.R_below (by (with_reducible repeat (first | apply Kd.R_alloc | apply Kd.R_drewN | apply Kd.R_drew)); exact HO300.out) hb); have n2_ := Aside0.mk (Kd.R_lower ho0 (below_size (by repeat (first | (with_reducible first | exact HB.out | apply below_alloc | apply pw_below_drewN | apply below_drew1 | refine below_set ?_ GE291.out) | exact HB.out)))); have n3_ := Aside0.mk (blk_below (g := gb291) (o := .cells #[.slice A0_0 l0_0.length c0_0, .slice A0_1 l0_1.length c0_1] 25 (0, 0)) (by (with_reducible repeat (first | refine blk_drewN ?_ _ | refine blk_drew ?_ | refine blk_alloc ?_ _)); exact BK291.out) hb); have n4_ := Aside0.mk (below_step (by repeat (first | (with_reducible first | exact HB.out | apply below_alloc | apply pw_below_drewN | apply below_drew1 | refine below_set ?_ GE291.out) | exact HB.out)) hb); clear HO296; clear HO300; clear BK291; clear HB; have HO296 := n0_; have HO300 := n1_; have HO304 := n2_; have BK291 := n3_; have HB := n4_; clear n0_ n1_ n2_ n3_ n4_; (try clear hb); (try clear hb2); (try clear hk); (try clear hi); (try clear ho0); have hcz31_0 : w30.cell? ⟨gb291, 0, none⟩ = some (.slice A0_0 l0_0.length c0_0) := (blk_cell BK291.out 0).trans rfl; have hcz31_1 : w30.cell? ⟨gb291, 1, none⟩ = some (.slice A0_1 l0_1.length c0_1) := (blk_cell BK291.out 1).trans rfl; have hfz31_0 := blk_frozen BK291.out 0; have hfz31_1 := blk_frozen BK291.out 1) | ((with_reducible refine gate_callee (f := 25) rfl ?_); refine goesL_ (some 39) rfl rfl Try.func25 (by kernel_rfl) rfl #[.agg #[.slice A0_0 l0_0.length c0_0, .slice A0_1 l0_1.length c0_1]] rfl (by (try simp only [List.map_toArray, List.map_cons, List.map_nil]); first | done | rfl | (simp only [List.length_drop, List.length_take]; rfl)) ?_; (with_reducible refine (incunableref24_Words.calls k _ _ l0_0 _ _ l0_1 t306 t309 _ ?side1 ?side2 ?side3 ?side4 A14.out).mono ?_); (case side1 => repeat (first | exact (Kd.C_below HR0_0.out HB.out) | (with_reducible refine Kd.C_alloc ?_ _) | (with_reducible refine Kd.C_drewN ?_ _) | (with_reducible refine Kd.C_drew ?_))); (case side2 => exact HC0_0.out); (case side3 => repeat (first | exact (Kd.C_below HR0_1.out HB.out) | (with_reducible refine Kd.C_alloc ?_ _) | (with_reducible refine Kd.C_drewN ?_ _) | (with_reducible refine Kd.C_drew ?_))); (case side4 => exact HC0_1.out); rintro e w32 ⟨v307, rfl, ho0, hb⟩; refine ⟨_, rfl, ?_⟩; have n0_ := Aside0.mk (Kd.R_below (by (with_reducible repeat (first | apply Kd.R_alloc | apply Kd.R_drewN | apply Kd.R_drew)); exact HO296.out) hb); have n1_ := Aside0.mk (Kd.R_below (by (with_reducible repeat (first | apply Kd.R_alloc | apply Kd.R_drewN | apply Kd.R_drew)); exact HO300.out) hb); have n2_ := Aside0.mk (Kd.R_elder' (by (with_reducible repeat (first | apply Kd.R_alloc | apply Kd.R_drewN | apply Kd.R_drew)); exact HO304.out) (Kd.R_base ho0) hb); have n3_ := Aside0.mk (Kd.R_lower (Kd.R_new' ho0 (Kd.R_lt (by (with_reducible repeat (first | apply Kd.R_alloc | apply Kd.R_drewN | apply Kd.R_drew)); exact HO304.out))) (below_size (by repeat (first | (with_reducible first | exact HB.out | apply below_alloc | apply pw_below_drewN | apply below_drew1 | refine below_set ?_ GE291.out) | exact HB.out)))); have n4_ := Aside0.mk (blk_below (g := gb291) (o := .cells #[.slice A0_0 l0_0.length c0_0, .slice A0_1 l0_1.length c0_1] 25 (0, 0)) (by (with_reducible repeat (first | refine blk_drewN ?_ _ | refine blk_drew ?_ | refine blk_alloc ?_ _)); exact BK291.out) hb); have n5_ := Aside0.mk (below_step (by repeat (first | (with_reducible first | exact HB.out | apply below_alloc | apply pw_below_drewN | apply below_drew1 | refine below_set ?_ GE291.out) | exact HB.out)) hb); clear HO296; clear HO300; clear HO304; clear BK291; clear HB; have HO296 := n0_; have HO300 := n1_; have HO304 := n2_; have HO308 := n3_; have BK291 := n4_; have HB := n5_; clear n0_ n1_ n2_ n3_ n4_ n5_; (try clear hb); (try clear hb2); (try clear hk); (try clear hi); (try clear ho0); obtain ⟨Ao33, co33, eo33⟩ := Kd.R_slice HO296.out; subst eo33; obtain ⟨Ao34, co34, eo34⟩ := Kd.R_slice HO300.out; subst eo34) | (go_at_call 26; (with_reducible refine (incunablelaw24_sameRects.calls k _ _ t294 _ _ t298 true _ ?side1 ?side2 ?side3 ?side4 A16.out).mono ?_); (case side1 => repeat (first | exact (Kd.R_reads' HO296.out).2.2 | (with_reducible refine Kd.C_alloc ?_ _) | (with_reducible refine Kd.C_drewN ?_ _) | (with_reducible refine Kd.C_drew ?_))); (case side2 => exact (Kd.R_reads' HO296.out).2.1); (case side3 => repeat (first | exact (Kd.R_reads' HO300.out).2.2 | (with_reducible refine Kd.C_alloc ?_ _) | (with_reducible refine Kd.C_drewN ?_ _) | (with_reducible refine Kd.C_drew ?_))); (case side4 => exact (Kd.R_reads' HO300.out).2.1); rintro e w' ⟨rfl, ⟨nd, rfl⟩⟩; obtain ⟨Ao35, co35, eo35⟩ := Kd.R_slice HO304.out; subst eo35; obtain ⟨Ao36, co36, eo36⟩ := Kd.R_slice HO308.out; subst eo36) | (go_at_call 14; (with_reducible refine (incunableref24_SamePairs.calls k _ _ t302 _ _ t306 true _ ?side1 ?side2 ?side3 ?side4 A19.out).mono ?_); (case side1 => repeat (first | exact (Kd.R_reads' HO304.out).2.2 | (with_reducible refine Kd.C_alloc ?_ _) | (with_reducible refine Kd.C_drewN ?_ _) | (with_reducible refine Kd.C_drew ?_))); (case side2 => exact (Kd.R_reads' HO304.out).2.1); (case side3 => repeat (first | exact (Kd.R_reads' HO308.out).2.2 | (with_reducible refine Kd.C_alloc ?_ _) | (with_reducible refine Kd.C_drewN ?_ _) | (with_reducible refine Kd.C_drew ?_))); (case side4 => exact (Kd.R_reads' HO308.out).2.1); rintro e w' ⟨rfl, ⟨nd, rfl⟩⟩) | (go_at_call 11; (with_reducible refine (incunablelaw24_Awake.calls  t312 _ ?sideG A21.out).mono ?_); (case sideG => exact Go.Proofs.Ytgcdhikmdbjfeaa.Zix.GG_below HGG.out (by repeat (first | (with_reducible first | exact HB.out | apply below_alloc | apply pw_below_drewN | apply below_drew1) | exact HB.out))); rintro e w37 ⟨rfl, hb⟩; have n0_ := Aside0.mk (Kd.R_below (by (with_reducible repeat (first | apply Kd.R_alloc | apply Kd.R_drewN | apply Kd.R_drew)); exact HO296.out) hb); have n1_ := Aside0.mk (Kd.R_below (by (with_reducible repeat (first | apply Kd.R_alloc | apply Kd.R_drewN | apply Kd.R_drew)); exact HO300.out) hb); have n2_ := Aside0.mk (Kd.R_below (by (with_reducible repeat (first | apply Kd.R_alloc | apply Kd.R_drewN | apply Kd.R_drew)); exact HO304.out) hb); have n3_ := Aside0.mk (Kd.R_below (by (with_reducible repeat (first | apply Kd.R_alloc | apply Kd.R_drewN | apply Kd.R_drew)); exact HO308.out) hb); have n4_ := Aside0.mk (blk_below (g := gb291) (o := .cells #[.slice A0_0 l0_0.length c0_0, .slice A0_1 l0_1.length c0_1] 25 (0, 0)) (by (with_reducible repeat (first | refine blk_drewN ?_ _ | refine blk_drew ?_ | refine blk_alloc ?_ _)); exact BK291.out) hb); have n5_ := Aside0.mk (below_step (by repeat (first | (with_reducible first | exact HB.out | apply below_alloc | apply pw_below_drewN | apply below_drew1 | refine below_set ?_ GE291.out) | exact HB.out)) hb); clear HO296; clear HO300; clear HO304; clear HO308; clear BK291; clear HB; have HO296 := n0_; have HO300 := n1_; have HO304 := n2_; have HO308 := n3_; have BK291 := n4_; have HB := n5_; clear n0_ n1_ n2_ n3_ n4_ n5_; (try clear hb); (try clear hb2); (try clear hk); (try clear hi))); go_ret; (exact ⟨by first | rfl | (simp [errW_none, errW_some] <;> rfl) | (simp [*, errW_none, errW_some] <;> rfl), by repeat (first | (with_reducible first | exact HB.out | apply below_alloc | apply pw_below_drewN | apply below_drew1 | refine below_set ?_ GE291.out) | exact HB.out)⟩)); (· replace c20 := Bool.eq_false_iff.mpr c20; subst c20; (have H1 : (some false) = some r := by rw [if_neg (show ¬ (false = true) by decide)] at H; exact H); clear H; have H := H1; clear H1; obtain rfl := Option.some.inj H; go_enter Try.func7, Try.ntmps7; go_wp2_with (first | ((with_reducible refine gate_dst (N := 3) rfl ?_); refine box_event ?hg (N := 3) ?hd (cs := #[.slice A0_0 l0_0.length c0_0, .slice A0_1 l0_1.length c0_1]) (t := 25) ?hr ?_; (case hd => rfl); (case hg => rfl); (case hr => first | (go_simp; done) | (go_simp; rfl)); intro gb291 hg w38 hbox hb; have n0_ := Aside0.mk (below_step (by repeat (first | (with_reducible first | exact HB.out | apply below_alloc | apply pw_below_drewN | apply below_drew1) | exact HB.out)) hb); have n1_ := Aside0.mk (hbox); have n2_ := Aside0.mk ((by rw [hg]; exact (below_size (by repeat (first | (with_reducible first | exact HB.out | apply below_alloc | apply pw_below_drewN | apply below_drew1) | exact HB.out))) : w.heap.size ≤ gb291)); have n3_ := Aside0.mk ((by rw [hg]; exact (below_size (by repeat (first | (with_reducible first | exact HB.out | apply below_alloc | apply pw_below_drewN | apply below_drew1) | exact HB.out))) : w.heap.size ≤ gb291)); clear HB; have HB := n0_; have BK291 := n1_; have GW291 := n2_; have GE291 := n3_; clear n0_ n1_ n2_ n3_; clear hb hbox hg; have hcz39_0 : w38.cell? ⟨gb291, 0, none⟩ = some (.slice A0_0 l0_0.length c0_0) := (blk_cell BK291.out 0).trans rfl; have hcz39_1 : w38.cell? ⟨gb291, 1, none⟩ = some (.slice A0_1 l0_1.length c0_1) := (blk_cell BK291.out 1).trans rfl; have hfz39_0 := blk_frozen BK291.out 0; have hfz39_1 := blk_frozen BK291.out 1) | ((with_reducible refine gate_callee (f := 10) rfl ?_); refine goesL_ (some 16) rfl rfl Try.func10 (by kernel_rfl) rfl #[.agg #[.slice A0_0 l0_0.length c0_0, .slice A0_1 l0_1.length c0_1]] rfl (by (try simp only [List.map_toArray, List.map_cons, List.map_nil]); first | done | rfl | (simp only [List.length_drop, List.length_take]; rfl)) ?_; (with_reducible refine (incunablelaw24_large.calls k _ _ l0_0 _ _ l0_1 false _ ?side1 ?side2 ?side3 ?side4 A4.out).mono ?_); (case side1 => repeat (first | exact (Kd.C_below HR0_0.out HB.out) | (with_reducible refine Kd.C_alloc ?_ _) | (with_reducible refine Kd.C_drewN ?_ _) | (with_reducible refine Kd.C_drew ?_))); (case side2 => exact HC0_0.out); (case side3 => repeat (first | exact (Kd.C_below HR0_1.out HB.out) | (with_reducible refine Kd.C_alloc ?_ _) | (with_reducible refine Kd.C_drewN ?_ _) | (with_reducible refine Kd.C_drew ?_))); (case side4 => exact HC0_1.out); rintro e w40 ⟨rfl, hb⟩; refine ⟨_, rfl, ?_⟩; have n0_ := Aside0.mk (blk_below (g := gb291) (o := .cells #[.slice A0_0 l0_0.length c0_0, .slice A0_1 l0_1.length c0_1] 25 (0, 0)) (by (with_reducible repeat (first | refine blk_drewN ?_ _ | refine blk_drew ?_ | refine blk_alloc ?_ _)); exact BK291.out) hb); have n1_ := Aside0.mk (below_step (by repeat (first | (with_reducible first | exact HB.out | apply below_alloc | apply pw_below_drewN | apply below_drew1 | refine below_set ?_ GE291.out) | exact HB.out)) hb); clear BK291; clear HB; have BK291 := n0_; have HB := n1_; clear n0_ n1_; (try clear hb); (try clear hb2); (try clear hk); (try clear hi); have hcz41_0 : w40.cell? ⟨gb291, 0, none⟩ = some (.slice A0_0 l0_0.length c0_0) := (blk_cell BK291.out 0).trans rfl; have hcz41_1 : w40.cell? ⟨gb291, 1, none⟩ = some (.slice A0_1 l0_1.length c0_1) := (blk_cell BK291.out 1).trans rfl; have hfz41_0 := blk_frozen BK291.out 0; have hfz41_1 := blk_frozen BK291.out 1) | ((with_reducible refine gate_callee (f := 22) rfl ?_); refine goesL_ (some 22) rfl rfl Try.func22 (by kernel_rfl) rfl #[.agg #[.slice A0_0 l0_0.length c0_0, .slice A0_1 l0_1.length c0_1], .int .i64 a1, .int .i64 a2] rfl (by (try simp only [List.map_toArray, List.map_cons, List.map_nil]); first | done | rfl | (simp only [List.length_drop, List.length_take]; rfl)) ?_; (with_reducible refine (zone_Rects.calls _ _ l0_0 _ _ l0_1 a1 a2 t294 t297 _ ?side1 ?side2 ?side3 ?side4 A11.out).mono ?_); (case side1 => repeat (first | exact (Kd.C_below HR0_0.out HB.out) | (with_reducible refine Kd.C_alloc ?_ _) | (with_reducible refine Kd.C_drewN ?_ _) | (with_reducible refine Kd.C_drew ?_))); (case side2 => exact HC0_0.out); (case side3 => repeat (first | exact (Kd.C_below HR0_1.out HB.out) | (with_reducible refine Kd.C_alloc ?_ _) | (with_reducible refine Kd.C_drewN ?_ _) | (with_reducible refine Kd.C_drew ?_))); (case side4 => exact HC0_1.out); rintro e w42 ⟨v295, rfl, ho0, hb⟩; refine ⟨_, rfl, ?_⟩; have n0_ := Aside0.mk (Kd.R_lower ho0 (below_size (by repeat (first | (with_reducible first | exact HB.out | apply below_alloc | apply pw_below_drewN | apply below_drew1 | refine below_set ?_ GE291.out) | exact HB.out)))); have n1_ := Aside0.mk (blk_below (g := gb291) (o := .cells #[.slice A0_0 l0_0.length c0_0, .slice A0_1 l0_1.length c0_1] 25 (0, 0)) (by (with_reducible repeat (first | refine blk_drewN ?_ _ | refine blk_drew ?_ | refine blk_alloc ?_ _)); exact BK291.out) hb); have n2_ := Aside0.mk (below_step (by repeat (first | (with_reducible first | exact HB.out | apply below_alloc | apply pw_below_drewN | apply below_drew1 | refine below_set ?_ GE291.out) | exact HB.out)) hb); clear BK291; clear HB; have HO296 := n0_; have BK291 := n1_; have HB := n2_; clear n0_ n1_ n2_; (try clear hb); (try clear hb2); (try clear hk); (try clear hi); (try clear ho0); have hcz43_0 : w42.cell? ⟨gb291, 0, none⟩ = some (.slice A0_0 l0_0.length c0_0) := (blk_cell BK291.out 0).trans rfl; have hcz43_1 : w42.cell? ⟨gb291, 1, none⟩ = some (.slice A0_1 l0_1.length c0_1) := (blk_cell BK291.out 1).trans rfl; have hfz43_0 := blk_frozen BK291.out 0; have hfz43_1 := blk_frozen BK291.out 1) | ((with_reducible refine gate_callee (f := 23) rfl ?_); refine goesL_ (some 29) rfl rfl Try.func23 (by kernel_rfl) rfl #[.agg #[.slice A0_0 l0_0.length c0_0, .slice A0_1 l0_1.length c0_1], .int .i64 a1, .int .i64 a2] rfl (by (try simp only [List.map_toArray, List.map_cons, List.map_nil]); first | done | rfl | (simp only [List.length_drop, List.length_take]; rfl)) ?_; (with_reducible refine (incunableref24_Rects.calls k _ _ l0_0 _ _ l0_1 a1 a2 t298 t301 _ ?side1 ?side2 ?side3 ?side4 A12.out).mono ?_); (case side1 => repeat (first | exact (Kd.C_below HR0_0.out HB.out) | (with_reducible refine Kd.C_alloc ?_ _) | (with_reducible refine Kd.C_drewN ?_ _) | (with_reducible refine Kd.C_drew ?_))); (case side2 => exact HC0_0.out); (case side3 => repeat (first | exact (Kd.C_below HR0_1.out HB.out) | (with_reducible refine Kd.C_alloc ?_ _) | (with_reducible refine Kd.C_drewN ?_ _) | (with_reducible refine Kd.C_drew ?_))); (case side4 => exact HC0_1.out); rintro e w44 ⟨v299, rfl, ho0, hb⟩; refine ⟨_, rfl, ?_⟩; have n0_ := Aside0.mk (Kd.R_elder' (by (with_reducible repeat (first | apply Kd.R_alloc | apply Kd.R_drewN | apply Kd.R_drew)); exact HO296.out) (Kd.R_base ho0) hb); have n1_ := Aside0.mk (Kd.R_lower (Kd.R_new' ho0 (Kd.R_lt (by (with_reducible repeat (first | apply Kd.R_alloc | apply Kd.R_drewN | apply Kd.R_drew)); exact HO296.out))) (below_size (by repeat (first | (with_reducible first | exact HB.out | apply below_alloc | apply pw_below_drewN | apply below_drew1 | refine below_set ?_ GE291.out) | exact HB.out)))); have n2_ := Aside0.mk (blk_below (g := gb291) (o := .cells #[.slice A0_0 l0_0.length c0_0, .slice A0_1 l0_1.length c0_1] 25 (0, 0)) (by (with_reducible repeat (first | refine blk_drewN ?_ _ | refine blk_drew ?_ | refine blk_alloc ?_ _)); exact BK291.out) hb); have n3_ := Aside0.mk (below_step (by repeat (first | (with_reducible first | exact HB.out | apply below_alloc | apply pw_below_drewN | apply below_drew1 | refine below_set ?_ GE291.out) | exact HB.out)) hb); clear HO296; clear BK291; clear HB; have HO296 := n0_; have HO300 := n1_; have BK291 := n2_; have HB := n3_; clear n0_ n1_ n2_ n3_; (try clear hb); (try clear hb2); (try clear hk); (try clear hi); (try clear ho0); have hcz45_0 : w44.cell? ⟨gb291, 0, none⟩ = some (.slice A0_0 l0_0.length c0_0) := (blk_cell BK291.out 0).trans rfl; have hcz45_1 : w44.cell? ⟨gb291, 1, none⟩ = some (.slice A0_1 l0_1.length c0_1) := (blk_cell BK291.out 1).trans rfl; have hfz45_0 := blk_frozen BK291.out 0; have hfz45_1 := blk_frozen BK291.out 1) | ((with_reducible refine gate_callee (f := 24) rfl ?_); refine goesL_ (some 34) rfl rfl Try.func24 (by kernel_rfl) rfl #[.agg #[.slice A0_0 l0_0.length c0_0, .slice A0_1 l0_1.length c0_1]] rfl (by (try simp only [List.map_toArray, List.map_cons, List.map_nil]); first | done | rfl | (simp only [List.length_drop, List.length_take]; rfl)) ?_; (with_reducible refine (zone_Words.calls _ _ l0_0 _ _ l0_1 t302 t305 _ ?side1 ?side2 ?side3 ?side4 A13.out).mono ?_); (case side1 => repeat (first | exact (Kd.C_below HR0_0.out HB.out) | (with_reducible refine Kd.C_alloc ?_ _) | (with_reducible refine Kd.C_drewN ?_ _) | (with_reducible refine Kd.C_drew ?_))); (case side2 => exact HC0_0.out); (case side3 => repeat (first | exact (Kd.C_below HR0_1.out HB.out) | (with_reducible refine Kd.C_alloc ?_ _) | (with_reducible refine Kd.C_drewN ?_ _) | (with_reducible refine Kd.C_drew ?_))); (case side4 => exact HC0_1.out); rintro e w46 ⟨v303, rfl, ho0, hb⟩; refine ⟨_, rfl, ?_⟩; have n0_ := Aside0.mk (Kd.R_below (by (with_reducible repeat (first | apply Kd.R_alloc | apply Kd.R_drewN | apply Kd.R_drew)); exact HO296.out) hb); have n1_ := Aside0.mk (Kd.R_below (by (with_reducible repeat (first | apply Kd.R_alloc | apply Kd.R_drewN | apply Kd.R_drew)); exact HO300.out) hb); have n2_ := Aside0.mk (Kd.R_lower ho0 (below_size (by repeat (first | (with_reducible first | exact HB.out | apply below_alloc | apply pw_below_drewN | apply below_drew1 | refine below_set ?_ GE291.out) | exact HB.out)))); have n3_ := Aside0.mk (blk_below (g := gb291) (o := .cells #[.slice A0_0 l0_0.length c0_0, .slice A0_1 l0_1.length c0_1] 25 (0, 0)) (by (with_reducible repeat (first | refine blk_drewN ?_ _ | refine blk_drew ?_ | refine blk_alloc ?_ _)); exact BK291.out) hb); have n4_ := Aside0.mk (below_step (by repeat (first | (with_reducible first | exact HB.out | apply below_alloc | apply pw_below_drewN | apply below_drew1 | refine below_set ?_ GE291.out) | exact HB.out)) hb); clear HO296; clear HO300; clear BK291; clear HB; have HO296 := n0_; have HO300 := n1_; have HO304 := n2_; have BK291 := n3_; have HB := n4_; clear n0_ n1_ n2_ n3_ n4_; (try clear hb); (try clear hb2); (try clear hk); (try clear hi); (try clear ho0); have hcz47_0 : w46.cell? ⟨gb291, 0, none⟩ = some (.slice A0_0 l0_0.length c0_0) := (blk_cell BK291.out 0).trans rfl; have hcz47_1 : w46.cell? ⟨gb291, 1, none⟩ = some (.slice A0_1 l0_1.length c0_1) := (blk_cell BK291.out 1).trans rfl; have hfz47_0 := blk_frozen BK291.out 0; have hfz47_1 := blk_frozen BK291.out 1) | ((with_reducible refine gate_callee (f := 25) rfl ?_); refine goesL_ (some 39) rfl rfl Try.func25 (by kernel_rfl) rfl #[.agg #[.slice A0_0 l0_0.length c0_0, .slice A0_1 l0_1.length c0_1]] rfl (by (try simp only [List.map_toArray, List.map_cons, List.map_nil]); first | done | rfl | (simp only [List.length_drop, List.length_take]; rfl)) ?_; (with_reducible refine (incunableref24_Words.calls k _ _ l0_0 _ _ l0_1 t306 t309 _ ?side1 ?side2 ?side3 ?side4 A14.out).mono ?_); (case side1 => repeat (first | exact (Kd.C_below HR0_0.out HB.out) | (with_reducible refine Kd.C_alloc ?_ _) | (with_reducible refine Kd.C_drewN ?_ _) | (with_reducible refine Kd.C_drew ?_))); (case side2 => exact HC0_0.out); (case side3 => repeat (first | exact (Kd.C_below HR0_1.out HB.out) | (with_reducible refine Kd.C_alloc ?_ _) | (with_reducible refine Kd.C_drewN ?_ _) | (with_reducible refine Kd.C_drew ?_))); (case side4 => exact HC0_1.out); rintro e w48 ⟨v307, rfl, ho0, hb⟩; refine ⟨_, rfl, ?_⟩; have n0_ := Aside0.mk (Kd.R_below (by (with_reducible repeat (first | apply Kd.R_alloc | apply Kd.R_drewN | apply Kd.R_drew)); exact HO296.out) hb); have n1_ := Aside0.mk (Kd.R_below (by (with_reducible repeat (first | apply Kd.R_alloc | apply Kd.R_drewN | apply Kd.R_drew)); exact HO300.out) hb); have n2_ := Aside0.mk (Kd.R_elder' (by (with_reducible repeat (first | apply Kd.R_alloc | apply Kd.R_drewN | apply Kd.R_drew)); exact HO304.out) (Kd.R_base ho0) hb); have n3_ := Aside0.mk (Kd.R_lower (Kd.R_new' ho0 (Kd.R_lt (by (with_reducible repeat (first | apply Kd.R_alloc | apply Kd.R_drewN | apply Kd.R_drew)); exact HO304.out))) (below_size (by repeat (first | (with_reducible first | exact HB.out | apply below_alloc | apply pw_below_drewN | apply below_drew1 | refine below_set ?_ GE291.out) | exact HB.out)))); have n4_ := Aside0.mk (blk_below (g := gb291) (o := .cells #[.slice A0_0 l0_0.length c0_0, .slice A0_1 l0_1.length c0_1] 25 (0, 0)) (by (with_reducible repeat (first | refine blk_drewN ?_ _ | refine blk_drew ?_ | refine blk_alloc ?_ _)); exact BK291.out) hb); have n5_ := Aside0.mk (below_step (by repeat (first | (with_reducible first | exact HB.out | apply below_alloc | apply pw_below_drewN | apply below_drew1 | refine below_set ?_ GE291.out) | exact HB.out)) hb); clear HO296; clear HO300; clear HO304; clear BK291; clear HB; have HO296 := n0_; have HO300 := n1_; have HO304 := n2_; have HO308 := n3_; have BK291 := n4_; have HB := n5_; clear n0_ n1_ n2_ n3_ n4_ n5_; (try clear hb); (try clear hb2); (try clear hk); (try clear hi); (try clear ho0); obtain ⟨Ao49, co49, eo49⟩ := Kd.R_slice HO296.out; subst eo49; obtain ⟨Ao50, co50, eo50⟩ := Kd.R_slice HO300.out; subst eo50) | (go_at_call 26; (with_reducible refine (incunablelaw24_sameRects.calls k _ _ t294 _ _ t298 true _ ?side1 ?side2 ?side3 ?side4 A16.out).mono ?_); (case side1 => repeat (first | exact (Kd.R_reads' HO296.out).2.2 | (with_reducible refine Kd.C_alloc ?_ _) | (with_reducible refine Kd.C_drewN ?_ _) | (with_reducible refine Kd.C_drew ?_))); (case side2 => exact (Kd.R_reads' HO296.out).2.1); (case side3 => repeat (first | exact (Kd.R_reads' HO300.out).2.2 | (with_reducible refine Kd.C_alloc ?_ _) | (with_reducible refine Kd.C_drewN ?_ _) | (with_reducible refine Kd.C_drew ?_))); (case side4 => exact (Kd.R_reads' HO300.out).2.1); rintro e w' ⟨rfl, ⟨nd, rfl⟩⟩; obtain ⟨Ao51, co51, eo51⟩ := Kd.R_slice HO304.out; subst eo51; obtain ⟨Ao52, co52, eo52⟩ := Kd.R_slice HO308.out; subst eo52) | (go_at_call 14; (with_reducible refine (incunableref24_SamePairs.calls k _ _ t302 _ _ t306 false _ ?side1 ?side2 ?side3 ?side4 A19.out).mono ?_); (case side1 => repeat (first | exact (Kd.R_reads' HO304.out).2.2 | (with_reducible refine Kd.C_alloc ?_ _) | (with_reducible refine Kd.C_drewN ?_ _) | (with_reducible refine Kd.C_drew ?_))); (case side2 => exact (Kd.R_reads' HO304.out).2.1); (case side3 => repeat (first | exact (Kd.R_reads' HO308.out).2.2 | (with_reducible refine Kd.C_alloc ?_ _) | (with_reducible refine Kd.C_drewN ?_ _) | (with_reducible refine Kd.C_drew ?_))); (case side4 => exact (Kd.R_reads' HO308.out).2.1); rintro e w' ⟨rfl, ⟨nd, rfl⟩⟩)); go_ret; (exact ⟨by first | rfl | (simp [errW_none, errW_some] <;> rfl) | (simp [*, errW_none, errW_some] <;> rfl), by repeat (first | (with_reducible first | exact HB.out | apply below_alloc | apply pw_below_drewN | apply below_drew1 | refine below_set ?_ GE291.out) | exact HB.out)⟩))); (· rw [if_neg c18] at H; have c18b0 : (t305 == t309) = false := beq_eq_false_iff_ne.mpr c18; have c18b1 : (t305 != t309) = true := bne_iff_ne.mpr c18; obtain rfl := Option.some.inj H; go_enter Try.func7, Try.ntmps7; go_wp2_with (first | ((with_reducible refine gate_dst (N := 3) rfl ?_); refine box_event ?hg (N := 3) ?hd (cs := #[.slice A0_0 l0_0.length c0_0, .slice A0_1 l0_1.length c0_1]) (t := 25) ?hr ?_; (case hd => rfl); (case hg => rfl); (case hr => first | (go_simp; done) | (go_simp; rfl)); intro gb291 hg w53 hbox hb; have n0_ := Aside0.mk (below_step (by repeat (first | (with_reducible first | exact HB.out | apply below_alloc | apply pw_below_drewN | apply below_drew1) | exact HB.out)) hb); have n1_ := Aside0.mk (hbox); have n2_ := Aside0.mk ((by rw [hg]; exact (below_size (by repeat (first | (with_reducible first | exact HB.out | apply below_alloc | apply pw_below_drewN | apply below_drew1) | exact HB.out))) : w.heap.size ≤ gb291)); have n3_ := Aside0.mk ((by rw [hg]; exact (below_size (by repeat (first | (with_reducible first | exact HB.out | apply below_alloc | apply pw_below_drewN | apply below_drew1) | exact HB.out))) : w.heap.size ≤ gb291)); clear HB; have HB := n0_; have BK291 := n1_; have GW291 := n2_; have GE291 := n3_; clear n0_ n1_ n2_ n3_; clear hb hbox hg; have hcz54_0 : w53.cell? ⟨gb291, 0, none⟩ = some (.slice A0_0 l0_0.length c0_0) := (blk_cell BK291.out 0).trans rfl; have hcz54_1 : w53.cell? ⟨gb291, 1, none⟩ = some (.slice A0_1 l0_1.length c0_1) := (blk_cell BK291.out 1).trans rfl; have hfz54_0 := blk_frozen BK291.out 0; have hfz54_1 := blk_frozen BK291.out 1) | ((with_reducible refine gate_callee (f := 10) rfl ?_); refine goesL_ (some 16) rfl rfl Try.func10 (by kernel_rfl) rfl #[.agg #[.slice A0_0 l0_0.length c0_0, .slice A0_1 l0_1.length c0_1]] rfl (by (try simp only [List.map_toArray, List.map_cons, List.map_nil]); first | done | rfl | (simp only [List.length_drop, List.length_take]; rfl)) ?_; (with_reducible refine (incunablelaw24_large.calls k _ _ l0_0 _ _ l0_1 false _ ?side1 ?side2 ?side3 ?side4 A4.out).mono ?_); (case side1 => repeat (first | exact (Kd.C_below HR0_0.out HB.out) | (with_reducible refine Kd.C_alloc ?_ _) | (with_reducible refine Kd.C_drewN ?_ _) | (with_reducible refine Kd.C_drew ?_))); (case side2 => exact HC0_0.out); (case side3 => repeat (first | exact (Kd.C_below HR0_1.out HB.out) | (with_reducible refine Kd.C_alloc ?_ _) | (with_reducible refine Kd.C_drewN ?_ _) | (with_reducible refine Kd.C_drew ?_))); (case side4 => exact HC0_1.out); rintro e w55 ⟨rfl, hb⟩; refine ⟨_, rfl, ?_⟩; have n0_ := Aside0.mk (blk_below (g := gb291) (o := .cells #[.slice A0_0 l0_0.length c0_0, .slice A0_1 l0_1.length c0_1] 25 (0, 0)) (by (with_reducible repeat (first | refine blk_drewN ?_ _ | refine blk_drew ?_ | refine blk_alloc ?_ _)); exact BK291.out) hb); have n1_ := Aside0.mk (below_step (by repeat (first | (with_reducible first | exact HB.out | apply below_alloc | apply pw_below_drewN | apply below_drew1 | refine below_set ?_ GE291.out) | exact HB.out)) hb); clear BK291; clear HB; have BK291 := n0_; have HB := n1_; clear n0_ n1_; (try clear hb); (try clear hb2); (try clear hk); (try clear hi); have hcz56_0 : w55.cell? ⟨gb291, 0, none⟩ = some (.slice A0_0 l0_0.length c0_0) := (blk_cell BK291.out 0).trans rfl; have hcz56_1 : w55.cell? ⟨gb291, 1, none⟩ = some (.slice A0_1 l0_1.length c0_1) := (blk_cell BK291.out 1).trans rfl; have hfz56_0 := blk_frozen BK291.out 0; have hfz56_1 := blk_frozen BK291.out 1) | ((with_reducible refine gate_callee (f := 22) rfl ?_); refine goesL_ (some 22) rfl rfl Try.func22 (by kernel_rfl) rfl #[.agg #[.slice A0_0 l0_0.length c0_0, .slice A0_1 l0_1.length c0_1], .int .i64 a1, .int .i64 a2] rfl (by (try simp only [List.map_toArray, List.map_cons, List.map_nil]); first | done | rfl | (simp only [List.length_drop, List.length_take]; rfl)) ?_; (with_reducible refine (zone_Rects.calls _ _ l0_0 _ _ l0_1 a1 a2 t294 t297 _ ?side1 ?side2 ?side3 ?side4 A11.out).mono ?_); (case side1 => repeat (first | exact (Kd.C_below HR0_0.out HB.out) | (with_reducible refine Kd.C_alloc ?_ _) | (with_reducible refine Kd.C_drewN ?_ _) | (with_reducible refine Kd.C_drew ?_))); (case side2 => exact HC0_0.out); (case side3 => repeat (first | exact (Kd.C_below HR0_1.out HB.out) | (with_reducible refine Kd.C_alloc ?_ _) | (with_reducible refine Kd.C_drewN ?_ _) | (with_reducible refine Kd.C_drew ?_))); (case side4 => exact HC0_1.out); rintro e w57 ⟨v295, rfl, ho0, hb⟩; refine ⟨_, rfl, ?_⟩; have n0_ := Aside0.mk (Kd.R_lower ho0 (below_size (by repeat (first | (with_reducible first | exact HB.out | apply below_alloc | apply pw_below_drewN | apply below_drew1 | refine below_set ?_ GE291.out) | exact HB.out)))); have n1_ := Aside0.mk (blk_below (g := gb291) (o := .cells #[.slice A0_0 l0_0.length c0_0, .slice A0_1 l0_1.length c0_1] 25 (0, 0)) (by (with_reducible repeat (first | refine blk_drewN ?_ _ | refine blk_drew ?_ | refine blk_alloc ?_ _)); exact BK291.out) hb); have n2_ := Aside0.mk (below_step (by repeat (first | (with_reducible first | exact HB.out | apply below_alloc | apply pw_below_drewN | apply below_drew1 | refine below_set ?_ GE291.out) | exact HB.out)) hb); clear BK291; clear HB; have HO296 := n0_; have BK291 := n1_; have HB := n2_; clear n0_ n1_ n2_; (try clear hb); (try clear hb2); (try clear hk); (try clear hi); (try clear ho0); have hcz58_0 : w57.cell? ⟨gb291, 0, none⟩ = some (.slice A0_0 l0_0.length c0_0) := (blk_cell BK291.out 0).trans rfl; have hcz58_1 : w57.cell? ⟨gb291, 1, none⟩ = some (.slice A0_1 l0_1.length c0_1) := (blk_cell BK291.out 1).trans rfl; have hfz58_0 := blk_frozen BK291.out 0; have hfz58_1 := blk_frozen BK291.out 1) | ((with_reducible refine gate_callee (f := 23) rfl ?_); refine goesL_ (some 29) rfl rfl Try.func23 (by kernel_rfl) rfl #[.agg #[.slice A0_0 l0_0.length c0_0, .slice A0_1 l0_1.length c0_1], .int .i64 a1, .int .i64 a2] rfl (by (try simp only [List.map_toArray, List.map_cons, List.map_nil]); first | done | rfl | (simp only [List.length_drop, List.length_take]; rfl)) ?_; (with_reducible refine (incunableref24_Rects.calls k _ _ l0_0 _ _ l0_1 a1 a2 t298 t301 _ ?side1 ?side2 ?side3 ?side4 A12.out).mono ?_); (case side1 => repeat (first | exact (Kd.C_below HR0_0.out HB.out) | (with_reducible refine Kd.C_alloc ?_ _) | (with_reducible refine Kd.C_drewN ?_ _) | (with_reducible refine Kd.C_drew ?_))); (case side2 => exact HC0_0.out); (case side3 => repeat (first | exact (Kd.C_below HR0_1.out HB.out) | (with_reducible refine Kd.C_alloc ?_ _) | (with_reducible refine Kd.C_drewN ?_ _) | (with_reducible refine Kd.C_drew ?_))); (case side4 => exact HC0_1.out); rintro e w59 ⟨v299, rfl, ho0, hb⟩; refine ⟨_, rfl, ?_⟩; have n0_ := Aside0.mk (Kd.R_elder' (by (with_reducible repeat (first | apply Kd.R_alloc | apply Kd.R_drewN | apply Kd.R_drew)); exact HO296.out) (Kd.R_base ho0) hb); have n1_ := Aside0.mk (Kd.R_lower (Kd.R_new' ho0 (Kd.R_lt (by (with_reducible repeat (first | apply Kd.R_alloc | apply Kd.R_drewN | apply Kd.R_drew)); exact HO296.out))) (below_size (by repeat (first | (with_reducible first | exact HB.out | apply below_alloc | apply pw_below_drewN | apply below_drew1 | refine below_set ?_ GE291.out) | exact HB.out)))); have n2_ := Aside0.mk (blk_below (g := gb291) (o := .cells #[.slice A0_0 l0_0.length c0_0, .slice A0_1 l0_1.length c0_1] 25 (0, 0)) (by (with_reducible repeat (first | refine blk_drewN ?_ _ | refine blk_drew ?_ | refine blk_alloc ?_ _)); exact BK291.out) hb); have n3_ := Aside0.mk (below_step (by repeat (first | (with_reducible first | exact HB.out | apply below_alloc | apply pw_below_drewN | apply below_drew1 | refine below_set ?_ GE291.out) | exact HB.out)) hb); clear HO296; clear BK291; clear HB; have HO296 := n0_; have HO300 := n1_; have BK291 := n2_; have HB := n3_; clear n0_ n1_ n2_ n3_; (try clear hb); (try clear hb2); (try clear hk); (try clear hi); (try clear ho0); have hcz60_0 : w59.cell? ⟨gb291, 0, none⟩ = some (.slice A0_0 l0_0.length c0_0) := (blk_cell BK291.out 0).trans rfl; have hcz60_1 : w59.cell? ⟨gb291, 1, none⟩ = some (.slice A0_1 l0_1.length c0_1) := (blk_cell BK291.out 1).trans rfl; have hfz60_0 := blk_frozen BK291.out 0; have hfz60_1 := blk_frozen BK291.out 1) | ((with_reducible refine gate_callee (f := 24) rfl ?_); refine goesL_ (some 34) rfl rfl Try.func24 (by kernel_rfl) rfl #[.agg #[.slice A0_0 l0_0.length c0_0, .slice A0_1 l0_1.length c0_1]] rfl (by (try simp only [List.map_toArray, List.map_cons, List.map_nil]); first | done | rfl | (simp only [List.length_drop, List.length_take]; rfl)) ?_; (with_reducible refine (zone_Words.calls _ _ l0_0 _ _ l0_1 t302 t305 _ ?side1 ?side2 ?side3 ?side4 A13.out).mono ?_); (case side1 => repeat (first | exact (Kd.C_below HR0_0.out HB.out) | (with_reducible refine Kd.C_alloc ?_ _) | (with_reducible refine Kd.C_drewN ?_ _) | (with_reducible refine Kd.C_drew ?_))); (case side2 => exact HC0_0.out); (case side3 => repeat (first | exact (Kd.C_below HR0_1.out HB.out) | (with_reducible refine Kd.C_alloc ?_ _) | (with_reducible refine Kd.C_drewN ?_ _) | (with_reducible refine Kd.C_drew ?_))); (case side4 => exact HC0_1.out); rintro e w61 ⟨v303, rfl, ho0, hb⟩; refine ⟨_, rfl, ?_⟩; have n0_ := Aside0.mk (Kd.R_below (by (with_reducible repeat (first | apply Kd.R_alloc | apply Kd.R_drewN | apply Kd.R_drew)); exact HO296.out) hb); have n1_ := Aside0.mk (Kd.R_below (by (with_reducible repeat (first | apply Kd.R_alloc | apply Kd.R_drewN | apply Kd.R_drew)); exact HO300.out) hb); have n2_ := Aside0.mk (Kd.R_lower ho0 (below_size (by repeat (first | (with_reducible first | exact HB.out | apply below_alloc | apply pw_below_drewN | apply below_drew1 | refine below_set ?_ GE291.out) | exact HB.out)))); have n3_ := Aside0.mk (blk_below (g := gb291) (o := .cells #[.slice A0_0 l0_0.length c0_0, .slice A0_1 l0_1.length c0_1] 25 (0, 0)) (by (with_reducible repeat (first | refine blk_drewN ?_ _ | refine blk_drew ?_ | refine blk_alloc ?_ _)); exact BK291.out) hb); have n4_ := Aside0.mk (below_step (by repeat (first | (with_reducible first | exact HB.out | apply below_alloc | apply pw_below_drewN | apply below_drew1 | refine below_set ?_ GE291.out) | exact HB.out)) hb); clear HO296; clear HO300; clear BK291; clear HB; have HO296 := n0_; have HO300 := n1_; have HO304 := n2_; have BK291 := n3_; have HB := n4_; clear n0_ n1_ n2_ n3_ n4_; (try clear hb); (try clear hb2); (try clear hk); (try clear hi); (try clear ho0); have hcz62_0 : w61.cell? ⟨gb291, 0, none⟩ = some (.slice A0_0 l0_0.length c0_0) := (blk_cell BK291.out 0).trans rfl; have hcz62_1 : w61.cell? ⟨gb291, 1, none⟩ = some (.slice A0_1 l0_1.length c0_1) := (blk_cell BK291.out 1).trans rfl; have hfz62_0 := blk_frozen BK291.out 0; have hfz62_1 := blk_frozen BK291.out 1) | ((with_reducible refine gate_callee (f := 25) rfl ?_); refine goesL_ (some 39) rfl rfl Try.func25 (by kernel_rfl) rfl #[.agg #[.slice A0_0 l0_0.length c0_0, .slice A0_1 l0_1.length c0_1]] rfl (by (try simp only [List.map_toArray, List.map_cons, List.map_nil]); first | done | rfl | (simp only [List.length_drop, List.length_take]; rfl)) ?_; (with_reducible refine (incunableref24_Words.calls k _ _ l0_0 _ _ l0_1 t306 t309 _ ?side1 ?side2 ?side3 ?side4 A14.out).mono ?_); (case side1 => repeat (first | exact (Kd.C_below HR0_0.out HB.out) | (with_reducible refine Kd.C_alloc ?_ _) | (with_reducible refine Kd.C_drewN ?_ _) | (with_reducible refine Kd.C_drew ?_))); (case side2 => exact HC0_0.out); (case side3 => repeat (first | exact (Kd.C_below HR0_1.out HB.out) | (with_reducible refine Kd.C_alloc ?_ _) | (with_reducible refine Kd.C_drewN ?_ _) | (with_reducible refine Kd.C_drew ?_))); (case side4 => exact HC0_1.out); rintro e w63 ⟨v307, rfl, ho0, hb⟩; refine ⟨_, rfl, ?_⟩; have n0_ := Aside0.mk (Kd.R_below (by (with_reducible repeat (first | apply Kd.R_alloc | apply Kd.R_drewN | apply Kd.R_drew)); exact HO296.out) hb); have n1_ := Aside0.mk (Kd.R_below (by (with_reducible repeat (first | apply Kd.R_alloc | apply Kd.R_drewN | apply Kd.R_drew)); exact HO300.out) hb); have n2_ := Aside0.mk (Kd.R_elder' (by (with_reducible repeat (first | apply Kd.R_alloc | apply Kd.R_drewN | apply Kd.R_drew)); exact HO304.out) (Kd.R_base ho0) hb); have n3_ := Aside0.mk (Kd.R_lower (Kd.R_new' ho0 (Kd.R_lt (by (with_reducible repeat (first | apply Kd.R_alloc | apply Kd.R_drewN | apply Kd.R_drew)); exact HO304.out))) (below_size (by repeat (first | (with_reducible first | exact HB.out | apply below_alloc | apply pw_below_drewN | apply below_drew1 | refine below_set ?_ GE291.out) | exact HB.out)))); have n4_ := Aside0.mk (blk_below (g := gb291) (o := .cells #[.slice A0_0 l0_0.length c0_0, .slice A0_1 l0_1.length c0_1] 25 (0, 0)) (by (with_reducible repeat (first | refine blk_drewN ?_ _ | refine blk_drew ?_ | refine blk_alloc ?_ _)); exact BK291.out) hb); have n5_ := Aside0.mk (below_step (by repeat (first | (with_reducible first | exact HB.out | apply below_alloc | apply pw_below_drewN | apply below_drew1 | refine below_set ?_ GE291.out) | exact HB.out)) hb); clear HO296; clear HO300; clear HO304; clear BK291; clear HB; have HO296 := n0_; have HO300 := n1_; have HO304 := n2_; have HO308 := n3_; have BK291 := n4_; have HB := n5_; clear n0_ n1_ n2_ n3_ n4_ n5_; (try clear hb); (try clear hb2); (try clear hk); (try clear hi); (try clear ho0); obtain ⟨Ao64, co64, eo64⟩ := Kd.R_slice HO296.out; subst eo64; obtain ⟨Ao65, co65, eo65⟩ := Kd.R_slice HO300.out; subst eo65) | (go_at_call 26; (with_reducible refine (incunablelaw24_sameRects.calls k _ _ t294 _ _ t298 true _ ?side1 ?side2 ?side3 ?side4 A16.out).mono ?_); (case side1 => repeat (first | exact (Kd.R_reads' HO296.out).2.2 | (with_reducible refine Kd.C_alloc ?_ _) | (with_reducible refine Kd.C_drewN ?_ _) | (with_reducible refine Kd.C_drew ?_))); (case side2 => exact (Kd.R_reads' HO296.out).2.1); (case side3 => repeat (first | exact (Kd.R_reads' HO300.out).2.2 | (with_reducible refine Kd.C_alloc ?_ _) | (with_reducible refine Kd.C_drewN ?_ _) | (with_reducible refine Kd.C_drew ?_))); (case side4 => exact (Kd.R_reads' HO300.out).2.1); rintro e w' ⟨rfl, ⟨nd, rfl⟩⟩)); go_ret; (exact ⟨by first | rfl | (simp [errW_none, errW_some] <;> rfl) | (simp [*, errW_none, errW_some] <;> rfl), by repeat (first | (with_reducible first | exact HB.out | apply below_alloc | apply pw_below_drewN | apply below_drew1 | refine below_set ?_ GE291.out) | exact HB.out)⟩))); (· replace c17 := Bool.eq_false_iff.mpr c17; subst c17; (have H1 : (some false) = some r := by rw [if_neg (show ¬ (false = true) by decide)] at H; exact H); clear H; have H := H1; clear H1; obtain rfl := Option.some.inj H; go_enter Try.func7, Try.ntmps7; go_wp2_with (first | ((with_reducible refine gate_dst (N := 3) rfl ?_); refine box_event ?hg (N := 3) ?hd (cs := #[.slice A0_0 l0_0.length c0_0, .slice A0_1 l0_1.length c0_1]) (t := 25) ?hr ?_; (case hd => rfl); (case hg => rfl); (case hr => first | (go_simp; done) | (go_simp; rfl)); intro gb291 hg w66 hbox hb; have n0_ := Aside0.mk (below_step (by repeat (first | (with_reducible first | exact HB.out | apply below_alloc | apply pw_below_drewN | apply below_drew1) | exact HB.out)) hb); have n1_ := Aside0.mk (hbox); have n2_ := Aside0.mk ((by rw [hg]; exact (below_size (by repeat (first | (with_reducible first | exact HB.out | apply below_alloc | apply pw_below_drewN | apply below_drew1) | exact HB.out))) : w.heap.size ≤ gb291)); have n3_ := Aside0.mk ((by rw [hg]; exact (below_size (by repeat (first | (with_reducible first | exact HB.out | apply below_alloc | apply pw_below_drewN | apply below_drew1) | exact HB.out))) : w.heap.size ≤ gb291)); clear HB; have HB := n0_; have BK291 := n1_; have GW291 := n2_; have GE291 := n3_; clear n0_ n1_ n2_ n3_; clear hb hbox hg; have hcz67_0 : w66.cell? ⟨gb291, 0, none⟩ = some (.slice A0_0 l0_0.length c0_0) := (blk_cell BK291.out 0).trans rfl; have hcz67_1 : w66.cell? ⟨gb291, 1, none⟩ = some (.slice A0_1 l0_1.length c0_1) := (blk_cell BK291.out 1).trans rfl; have hfz67_0 := blk_frozen BK291.out 0; have hfz67_1 := blk_frozen BK291.out 1) | ((with_reducible refine gate_callee (f := 10) rfl ?_); refine goesL_ (some 16) rfl rfl Try.func10 (by kernel_rfl) rfl #[.agg #[.slice A0_0 l0_0.length c0_0, .slice A0_1 l0_1.length c0_1]] rfl (by (try simp only [List.map_toArray, List.map_cons, List.map_nil]); first | done | rfl | (simp only [List.length_drop, List.length_take]; rfl)) ?_; (with_reducible refine (incunablelaw24_large.calls k _ _ l0_0 _ _ l0_1 false _ ?side1 ?side2 ?side3 ?side4 A4.out).mono ?_); (case side1 => repeat (first | exact (Kd.C_below HR0_0.out HB.out) | (with_reducible refine Kd.C_alloc ?_ _) | (with_reducible refine Kd.C_drewN ?_ _) | (with_reducible refine Kd.C_drew ?_))); (case side2 => exact HC0_0.out); (case side3 => repeat (first | exact (Kd.C_below HR0_1.out HB.out) | (with_reducible refine Kd.C_alloc ?_ _) | (with_reducible refine Kd.C_drewN ?_ _) | (with_reducible refine Kd.C_drew ?_))); (case side4 => exact HC0_1.out); rintro e w68 ⟨rfl, hb⟩; refine ⟨_, rfl, ?_⟩; have n0_ := Aside0.mk (blk_below (g := gb291) (o := .cells #[.slice A0_0 l0_0.length c0_0, .slice A0_1 l0_1.length c0_1] 25 (0, 0)) (by (with_reducible repeat (first | refine blk_drewN ?_ _ | refine blk_drew ?_ | refine blk_alloc ?_ _)); exact BK291.out) hb); have n1_ := Aside0.mk (below_step (by repeat (first | (with_reducible first | exact HB.out | apply below_alloc | apply pw_below_drewN | apply below_drew1 | refine below_set ?_ GE291.out) | exact HB.out)) hb); clear BK291; clear HB; have BK291 := n0_; have HB := n1_; clear n0_ n1_; (try clear hb); (try clear hb2); (try clear hk); (try clear hi); have hcz69_0 : w68.cell? ⟨gb291, 0, none⟩ = some (.slice A0_0 l0_0.length c0_0) := (blk_cell BK291.out 0).trans rfl; have hcz69_1 : w68.cell? ⟨gb291, 1, none⟩ = some (.slice A0_1 l0_1.length c0_1) := (blk_cell BK291.out 1).trans rfl; have hfz69_0 := blk_frozen BK291.out 0; have hfz69_1 := blk_frozen BK291.out 1) | ((with_reducible refine gate_callee (f := 22) rfl ?_); refine goesL_ (some 22) rfl rfl Try.func22 (by kernel_rfl) rfl #[.agg #[.slice A0_0 l0_0.length c0_0, .slice A0_1 l0_1.length c0_1], .int .i64 a1, .int .i64 a2] rfl (by (try simp only [List.map_toArray, List.map_cons, List.map_nil]); first | done | rfl | (simp only [List.length_drop, List.length_take]; rfl)) ?_; (with_reducible refine (zone_Rects.calls _ _ l0_0 _ _ l0_1 a1 a2 t294 t297 _ ?side1 ?side2 ?side3 ?side4 A11.out).mono ?_); (case side1 => repeat (first | exact (Kd.C_below HR0_0.out HB.out) | (with_reducible refine Kd.C_alloc ?_ _) | (with_reducible refine Kd.C_drewN ?_ _) | (with_reducible refine Kd.C_drew ?_))); (case side2 => exact HC0_0.out); (case side3 => repeat (first | exact (Kd.C_below HR0_1.out HB.out) | (with_reducible refine Kd.C_alloc ?_ _) | (with_reducible refine Kd.C_drewN ?_ _) | (with_reducible refine Kd.C_drew ?_))); (case side4 => exact HC0_1.out); rintro e w70 ⟨v295, rfl, ho0, hb⟩; refine ⟨_, rfl, ?_⟩; have n0_ := Aside0.mk (Kd.R_lower ho0 (below_size (by repeat (first | (with_reducible first | exact HB.out | apply below_alloc | apply pw_below_drewN | apply below_drew1 | refine below_set ?_ GE291.out) | exact HB.out)))); have n1_ := Aside0.mk (blk_below (g := gb291) (o := .cells #[.slice A0_0 l0_0.length c0_0, .slice A0_1 l0_1.length c0_1] 25 (0, 0)) (by (with_reducible repeat (first | refine blk_drewN ?_ _ | refine blk_drew ?_ | refine blk_alloc ?_ _)); exact BK291.out) hb); have n2_ := Aside0.mk (below_step (by repeat (first | (with_reducible first | exact HB.out | apply below_alloc | apply pw_below_drewN | apply below_drew1 | refine below_set ?_ GE291.out) | exact HB.out)) hb); clear BK291; clear HB; have HO296 := n0_; have BK291 := n1_; have HB := n2_; clear n0_ n1_ n2_; (try clear hb); (try clear hb2); (try clear hk); (try clear hi); (try clear ho0); have hcz71_0 : w70.cell? ⟨gb291, 0, none⟩ = some (.slice A0_0 l0_0.length c0_0) := (blk_cell BK291.out 0).trans rfl; have hcz71_1 : w70.cell? ⟨gb291, 1, none⟩ = some (.slice A0_1 l0_1.length c0_1) := (blk_cell BK291.out 1).trans rfl; have hfz71_0 := blk_frozen BK291.out 0; have hfz71_1 := blk_frozen BK291.out 1) | ((with_reducible refine gate_callee (f := 23) rfl ?_); refine goesL_ (some 29) rfl rfl Try.func23 (by kernel_rfl) rfl #[.agg #[.slice A0_0 l0_0.length c0_0, .slice A0_1 l0_1.length c0_1], .int .i64 a1, .int .i64 a2] rfl (by (try simp only [List.map_toArray, List.map_cons, List.map_nil]); first | done | rfl | (simp only [List.length_drop, List.length_take]; rfl)) ?_; (with_reducible refine (incunableref24_Rects.calls k _ _ l0_0 _ _ l0_1 a1 a2 t298 t301 _ ?side1 ?side2 ?side3 ?side4 A12.out).mono ?_); (case side1 => repeat (first | exact (Kd.C_below HR0_0.out HB.out) | (with_reducible refine Kd.C_alloc ?_ _) | (with_reducible refine Kd.C_drewN ?_ _) | (with_reducible refine Kd.C_drew ?_))); (case side2 => exact HC0_0.out); (case side3 => repeat (first | exact (Kd.C_below HR0_1.out HB.out) | (with_reducible refine Kd.C_alloc ?_ _) | (with_reducible refine Kd.C_drewN ?_ _) | (with_reducible refine Kd.C_drew ?_))); (case side4 => exact HC0_1.out); rintro e w72 ⟨v299, rfl, ho0, hb⟩; refine ⟨_, rfl, ?_⟩; have n0_ := Aside0.mk (Kd.R_elder' (by (with_reducible repeat (first | apply Kd.R_alloc | apply Kd.R_drewN | apply Kd.R_drew)); exact HO296.out) (Kd.R_base ho0) hb); have n1_ := Aside0.mk (Kd.R_lower (Kd.R_new' ho0 (Kd.R_lt (by (with_reducible repeat (first | apply Kd.R_alloc | apply Kd.R_drewN | apply Kd.R_drew)); exact HO296.out))) (below_size (by repeat (first | (with_reducible first | exact HB.out | apply below_alloc | apply pw_below_drewN | apply below_drew1 | refine below_set ?_ GE291.out) | exact HB.out)))); have n2_ := Aside0.mk (blk_below (g := gb291) (o := .cells #[.slice A0_0 l0_0.length c0_0, .slice A0_1 l0_1.length c0_1] 25 (0, 0)) (by (with_reducible repeat (first | refine blk_drewN ?_ _ | refine blk_drew ?_ | refine blk_alloc ?_ _)); exact BK291.out) hb); have n3_ := Aside0.mk (below_step (by repeat (first | (with_reducible first | exact HB.out | apply below_alloc | apply pw_below_drewN | apply below_drew1 | refine below_set ?_ GE291.out) | exact HB.out)) hb); clear HO296; clear BK291; clear HB; have HO296 := n0_; have HO300 := n1_; have BK291 := n2_; have HB := n3_; clear n0_ n1_ n2_ n3_; (try clear hb); (try clear hb2); (try clear hk); (try clear hi); (try clear ho0); have hcz73_0 : w72.cell? ⟨gb291, 0, none⟩ = some (.slice A0_0 l0_0.length c0_0) := (blk_cell BK291.out 0).trans rfl; have hcz73_1 : w72.cell? ⟨gb291, 1, none⟩ = some (.slice A0_1 l0_1.length c0_1) := (blk_cell BK291.out 1).trans rfl; have hfz73_0 := blk_frozen BK291.out 0; have hfz73_1 := blk_frozen BK291.out 1) | ((with_reducible refine gate_callee (f := 24) rfl ?_); refine goesL_ (some 34) rfl rfl Try.func24 (by kernel_rfl) rfl #[.agg #[.slice A0_0 l0_0.length c0_0, .slice A0_1 l0_1.length c0_1]] rfl (by (try simp only [List.map_toArray, List.map_cons, List.map_nil]); first | done | rfl | (simp only [List.length_drop, List.length_take]; rfl)) ?_; (with_reducible refine (zone_Words.calls _ _ l0_0 _ _ l0_1 t302 t305 _ ?side1 ?side2 ?side3 ?side4 A13.out).mono ?_); (case side1 => repeat (first | exact (Kd.C_below HR0_0.out HB.out) | (with_reducible refine Kd.C_alloc ?_ _) | (with_reducible refine Kd.C_drewN ?_ _) | (with_reducible refine Kd.C_drew ?_))); (case side2 => exact HC0_0.out); (case side3 => repeat (first | exact (Kd.C_below HR0_1.out HB.out) | (with_reducible refine Kd.C_alloc ?_ _) | (with_reducible refine Kd.C_drewN ?_ _) | (with_reducible refine Kd.C_drew ?_))); (case side4 => exact HC0_1.out); rintro e w74 ⟨v303, rfl, ho0, hb⟩; refine ⟨_, rfl, ?_⟩; have n0_ := Aside0.mk (Kd.R_below (by (with_reducible repeat (first | apply Kd.R_alloc | apply Kd.R_drewN | apply Kd.R_drew)); exact HO296.out) hb); have n1_ := Aside0.mk (Kd.R_below (by (with_reducible repeat (first | apply Kd.R_alloc | apply Kd.R_drewN | apply Kd.R_drew)); exact HO300.out) hb); have n2_ := Aside0.mk (Kd.R_lower ho0 (below_size (by repeat (first | (with_reducible first | exact HB.out | apply below_alloc | apply pw_below_drewN | apply below_drew1 | refine below_set ?_ GE291.out) | exact HB.out)))); have n3_ := Aside0.mk (blk_below (g := gb291) (o := .cells #[.slice A0_0 l0_0.length c0_0, .slice A0_1 l0_1.length c0_1] 25 (0, 0)) (by (with_reducible repeat (first | refine blk_drewN ?_ _ | refine blk_drew ?_ | refine blk_alloc ?_ _)); exact BK291.out) hb); have n4_ := Aside0.mk (below_step (by repeat (first | (with_reducible first | exact HB.out | apply below_alloc | apply pw_below_drewN | apply below_drew1 | refine below_set ?_ GE291.out) | exact HB.out)) hb); clear HO296; clear HO300; clear BK291; clear HB; have HO296 := n0_; have HO300 := n1_; have HO304 := n2_; have BK291 := n3_; have HB := n4_; clear n0_ n1_ n2_ n3_ n4_; (try clear hb); (try clear hb2); (try clear hk); (try clear hi); (try clear ho0); have hcz75_0 : w74.cell? ⟨gb291, 0, none⟩ = some (.slice A0_0 l0_0.length c0_0) := (blk_cell BK291.out 0).trans rfl; have hcz75_1 : w74.cell? ⟨gb291, 1, none⟩ = some (.slice A0_1 l0_1.length c0_1) := (blk_cell BK291.out 1).trans rfl; have hfz75_0 := blk_frozen BK291.out 0; have hfz75_1 := blk_frozen BK291.out 1) | ((with_reducible refine gate_callee (f := 25) rfl ?_); refine goesL_ (some 39) rfl rfl Try.func25 (by kernel_rfl) rfl #[.agg #[.slice A0_0 l0_0.length c0_0, .slice A0_1 l0_1.length c0_1]] rfl (by (try simp only [List.map_toArray, List.map_cons, List.map_nil]); first | done | rfl | (simp only [List.length_drop, List.length_take]; rfl)) ?_; (with_reducible refine (incunableref24_Words.calls k _ _ l0_0 _ _ l0_1 t306 t309 _ ?side1 ?side2 ?side3 ?side4 A14.out).mono ?_); (case side1 => repeat (first | exact (Kd.C_below HR0_0.out HB.out) | (with_reducible refine Kd.C_alloc ?_ _) | (with_reducible refine Kd.C_drewN ?_ _) | (with_reducible refine Kd.C_drew ?_))); (case side2 => exact HC0_0.out); (case side3 => repeat (first | exact (Kd.C_below HR0_1.out HB.out) | (with_reducible refine Kd.C_alloc ?_ _) | (with_reducible refine Kd.C_drewN ?_ _) | (with_reducible refine Kd.C_drew ?_))); (case side4 => exact HC0_1.out); rintro e w76 ⟨v307, rfl, ho0, hb⟩; refine ⟨_, rfl, ?_⟩; have n0_ := Aside0.mk (Kd.R_below (by (with_reducible repeat (first | apply Kd.R_alloc | apply Kd.R_drewN | apply Kd.R_drew)); exact HO296.out) hb); have n1_ := Aside0.mk (Kd.R_below (by (with_reducible repeat (first | apply Kd.R_alloc | apply Kd.R_drewN | apply Kd.R_drew)); exact HO300.out) hb); have n2_ := Aside0.mk (Kd.R_elder' (by (with_reducible repeat (first | apply Kd.R_alloc | apply Kd.R_drewN | apply Kd.R_drew)); exact HO304.out) (Kd.R_base ho0) hb); have n3_ := Aside0.mk (Kd.R_lower (Kd.R_new' ho0 (Kd.R_lt (by (with_reducible repeat (first | apply Kd.R_alloc | apply Kd.R_drewN | apply Kd.R_drew)); exact HO304.out))) (below_size (by repeat (first | (with_reducible first | exact HB.out | apply below_alloc | apply pw_below_drewN | apply below_drew1 | refine below_set ?_ GE291.out) | exact HB.out)))); have n4_ := Aside0.mk (blk_below (g := gb291) (o := .cells #[.slice A0_0 l0_0.length c0_0, .slice A0_1 l0_1.length c0_1] 25 (0, 0)) (by (with_reducible repeat (first | refine blk_drewN ?_ _ | refine blk_drew ?_ | refine blk_alloc ?_ _)); exact BK291.out) hb); have n5_ := Aside0.mk (below_step (by repeat (first | (with_reducible first | exact HB.out | apply below_alloc | apply pw_below_drewN | apply below_drew1 | refine below_set ?_ GE291.out) | exact HB.out)) hb); clear HO296; clear HO300; clear HO304; clear BK291; clear HB; have HO296 := n0_; have HO300 := n1_; have HO304 := n2_; have HO308 := n3_; have BK291 := n4_; have HB := n5_; clear n0_ n1_ n2_ n3_ n4_ n5_; (try clear hb); (try clear hb2); (try clear hk); (try clear hi); (try clear ho0); obtain ⟨Ao77, co77, eo77⟩ := Kd.R_slice HO296.out; subst eo77; obtain ⟨Ao78, co78, eo78⟩ := Kd.R_slice HO300.out; subst eo78) | (go_at_call 26; (with_reducible refine (incunablelaw24_sameRects.calls k _ _ t294 _ _ t298 false _ ?side1 ?side2 ?side3 ?side4 A16.out).mono ?_); (case side1 => repeat (first | exact (Kd.R_reads' HO296.out).2.2 | (with_reducible refine Kd.C_alloc ?_ _) | (with_reducible refine Kd.C_drewN ?_ _) | (with_reducible refine Kd.C_drew ?_))); (case side2 => exact (Kd.R_reads' HO296.out).2.1); (case side3 => repeat (first | exact (Kd.R_reads' HO300.out).2.2 | (with_reducible refine Kd.C_alloc ?_ _) | (with_reducible refine Kd.C_drewN ?_ _) | (with_reducible refine Kd.C_drew ?_))); (case side4 => exact (Kd.R_reads' HO300.out).2.1); rintro e w' ⟨rfl, ⟨nd, rfl⟩⟩)); go_ret; (exact ⟨by first | rfl | (simp [errW_none, errW_some] <;> rfl) | (simp [*, errW_none, errW_some] <;> rfl), by repeat (first | (with_reducible first | exact HB.out | apply below_alloc | apply pw_below_drewN | apply below_drew1 | refine below_set ?_ GE291.out) | exact HB.out)⟩))); (· rw [if_neg c15] at H; have c15b0 : (t297 == t301) = false := beq_eq_false_iff_ne.mpr c15; have c15b1 : (t297 != t301) = true := bne_iff_ne.mpr c15; obtain rfl := Option.some.inj H; go_enter Try.func7, Try.ntmps7; go_wp2_with (first | ((with_reducible refine gate_dst (N := 3) rfl ?_); refine box_event ?hg (N := 3) ?hd (cs := #[.slice A0_0 l0_0.length c0_0, .slice A0_1 l0_1.length c0_1]) (t := 25) ?hr ?_; (case hd => rfl); (case hg => rfl); (case hr => first | (go_simp; done) | (go_simp; rfl)); intro gb291 hg w79 hbox hb; have n0_ := Aside0.mk (below_step (by repeat (first | (with_reducible first | exact HB.out | apply below_alloc | apply pw_below_drewN | apply below_drew1) | exact HB.out)) hb); have n1_ := Aside0.mk (hbox); have n2_ := Aside0.mk ((by rw [hg]; exact (below_size (by repeat (first | (with_reducible first | exact HB.out | apply below_alloc | apply pw_below_drewN | apply below_drew1) | exact HB.out))) : w.heap.size ≤ gb291)); have n3_ := Aside0.mk ((by rw [hg]; exact (below_size (by repeat (first | (with_reducible first | exact HB.out | apply below_alloc | apply pw_below_drewN | apply below_drew1) | exact HB.out))) : w.heap.size ≤ gb291)); clear HB; have HB := n0_; have BK291 := n1_; have GW291 := n2_; have GE291 := n3_; clear n0_ n1_ n2_ n3_; clear hb hbox hg; have hcz80_0 : w79.cell? ⟨gb291, 0, none⟩ = some (.slice A0_0 l0_0.length c0_0) := (blk_cell BK291.out 0).trans rfl; have hcz80_1 : w79.cell? ⟨gb291, 1, none⟩ = some (.slice A0_1 l0_1.length c0_1) := (blk_cell BK291.out 1).trans rfl; have hfz80_0 := blk_frozen BK291.out 0; have hfz80_1 := blk_frozen BK291.out 1) | ((with_reducible refine gate_callee (f := 10) rfl ?_); refine goesL_ (some 16) rfl rfl Try.func10 (by kernel_rfl) rfl #[.agg #[.slice A0_0 l0_0.length c0_0, .slice A0_1 l0_1.length c0_1]] rfl (by (try simp only [List.map_toArray, List.map_cons, List.map_nil]); first | done | rfl | (simp only [List.length_drop, List.length_take]; rfl)) ?_; (with_reducible refine (incunablelaw24_large.calls k _ _ l0_0 _ _ l0_1 false _ ?side1 ?side2 ?side3 ?side4 A4.out).mono ?_); (case side1 => repeat (first | exact (Kd.C_below HR0_0.out HB.out) | (with_reducible refine Kd.C_alloc ?_ _) | (with_reducible refine Kd.C_drewN ?_ _) | (with_reducible refine Kd.C_drew ?_))); (case side2 => exact HC0_0.out); (case side3 => repeat (first | exact (Kd.C_below HR0_1.out HB.out) | (with_reducible refine Kd.C_alloc ?_ _) | (with_reducible refine Kd.C_drewN ?_ _) | (with_reducible refine Kd.C_drew ?_))); (case side4 => exact HC0_1.out); rintro e w81 ⟨rfl, hb⟩; refine ⟨_, rfl, ?_⟩; have n0_ := Aside0.mk (blk_below (g := gb291) (o := .cells #[.slice A0_0 l0_0.length c0_0, .slice A0_1 l0_1.length c0_1] 25 (0, 0)) (by (with_reducible repeat (first | refine blk_drewN ?_ _ | refine blk_drew ?_ | refine blk_alloc ?_ _)); exact BK291.out) hb); have n1_ := Aside0.mk (below_step (by repeat (first | (with_reducible first | exact HB.out | apply below_alloc | apply pw_below_drewN | apply below_drew1 | refine below_set ?_ GE291.out) | exact HB.out)) hb); clear BK291; clear HB; have BK291 := n0_; have HB := n1_; clear n0_ n1_; (try clear hb); (try clear hb2); (try clear hk); (try clear hi); have hcz82_0 : w81.cell? ⟨gb291, 0, none⟩ = some (.slice A0_0 l0_0.length c0_0) := (blk_cell BK291.out 0).trans rfl; have hcz82_1 : w81.cell? ⟨gb291, 1, none⟩ = some (.slice A0_1 l0_1.length c0_1) := (blk_cell BK291.out 1).trans rfl; have hfz82_0 := blk_frozen BK291.out 0; have hfz82_1 := blk_frozen BK291.out 1) | ((with_reducible refine gate_callee (f := 22) rfl ?_); refine goesL_ (some 22) rfl rfl Try.func22 (by kernel_rfl) rfl #[.agg #[.slice A0_0 l0_0.length c0_0, .slice A0_1 l0_1.length c0_1], .int .i64 a1, .int .i64 a2] rfl (by (try simp only [List.map_toArray, List.map_cons, List.map_nil]); first | done | rfl | (simp only [List.length_drop, List.length_take]; rfl)) ?_; (with_reducible refine (zone_Rects.calls _ _ l0_0 _ _ l0_1 a1 a2 t294 t297 _ ?side1 ?side2 ?side3 ?side4 A11.out).mono ?_); (case side1 => repeat (first | exact (Kd.C_below HR0_0.out HB.out) | (with_reducible refine Kd.C_alloc ?_ _) | (with_reducible refine Kd.C_drewN ?_ _) | (with_reducible refine Kd.C_drew ?_))); (case side2 => exact HC0_0.out); (case side3 => repeat (first | exact (Kd.C_below HR0_1.out HB.out) | (with_reducible refine Kd.C_alloc ?_ _) | (with_reducible refine Kd.C_drewN ?_ _) | (with_reducible refine Kd.C_drew ?_))); (case side4 => exact HC0_1.out); rintro e w83 ⟨v295, rfl, ho0, hb⟩; refine ⟨_, rfl, ?_⟩; have n0_ := Aside0.mk (Kd.R_lower ho0 (below_size (by repeat (first | (with_reducible first | exact HB.out | apply below_alloc | apply pw_below_drewN | apply below_drew1 | refine below_set ?_ GE291.out) | exact HB.out)))); have n1_ := Aside0.mk (blk_below (g := gb291) (o := .cells #[.slice A0_0 l0_0.length c0_0, .slice A0_1 l0_1.length c0_1] 25 (0, 0)) (by (with_reducible repeat (first | refine blk_drewN ?_ _ | refine blk_drew ?_ | refine blk_alloc ?_ _)); exact BK291.out) hb); have n2_ := Aside0.mk (below_step (by repeat (first | (with_reducible first | exact HB.out | apply below_alloc | apply pw_below_drewN | apply below_drew1 | refine below_set ?_ GE291.out) | exact HB.out)) hb); clear BK291; clear HB; have HO296 := n0_; have BK291 := n1_; have HB := n2_; clear n0_ n1_ n2_; (try clear hb); (try clear hb2); (try clear hk); (try clear hi); (try clear ho0); have hcz84_0 : w83.cell? ⟨gb291, 0, none⟩ = some (.slice A0_0 l0_0.length c0_0) := (blk_cell BK291.out 0).trans rfl; have hcz84_1 : w83.cell? ⟨gb291, 1, none⟩ = some (.slice A0_1 l0_1.length c0_1) := (blk_cell BK291.out 1).trans rfl; have hfz84_0 := blk_frozen BK291.out 0; have hfz84_1 := blk_frozen BK291.out 1) | ((with_reducible refine gate_callee (f := 23) rfl ?_); refine goesL_ (some 29) rfl rfl Try.func23 (by kernel_rfl) rfl #[.agg #[.slice A0_0 l0_0.length c0_0, .slice A0_1 l0_1.length c0_1], .int .i64 a1, .int .i64 a2] rfl (by (try simp only [List.map_toArray, List.map_cons, List.map_nil]); first | done | rfl | (simp only [List.length_drop, List.length_take]; rfl)) ?_; (with_reducible refine (incunableref24_Rects.calls k _ _ l0_0 _ _ l0_1 a1 a2 t298 t301 _ ?side1 ?side2 ?side3 ?side4 A12.out).mono ?_); (case side1 => repeat (first | exact (Kd.C_below HR0_0.out HB.out) | (with_reducible refine Kd.C_alloc ?_ _) | (with_reducible refine Kd.C_drewN ?_ _) | (with_reducible refine Kd.C_drew ?_))); (case side2 => exact HC0_0.out); (case side3 => repeat (first | exact (Kd.C_below HR0_1.out HB.out) | (with_reducible refine Kd.C_alloc ?_ _) | (with_reducible refine Kd.C_drewN ?_ _) | (with_reducible refine Kd.C_drew ?_))); (case side4 => exact HC0_1.out); rintro e w85 ⟨v299, rfl, ho0, hb⟩; refine ⟨_, rfl, ?_⟩; have n0_ := Aside0.mk (Kd.R_elder' (by (with_reducible repeat (first | apply Kd.R_alloc | apply Kd.R_drewN | apply Kd.R_drew)); exact HO296.out) (Kd.R_base ho0) hb); have n1_ := Aside0.mk (Kd.R_lower (Kd.R_new' ho0 (Kd.R_lt (by (with_reducible repeat (first | apply Kd.R_alloc | apply Kd.R_drewN | apply Kd.R_drew)); exact HO296.out))) (below_size (by repeat (first | (with_reducible first | exact HB.out | apply below_alloc | apply pw_below_drewN | apply below_drew1 | refine below_set ?_ GE291.out) | exact HB.out)))); have n2_ := Aside0.mk (blk_below (g := gb291) (o := .cells #[.slice A0_0 l0_0.length c0_0, .slice A0_1 l0_1.length c0_1] 25 (0, 0)) (by (with_reducible repeat (first | refine blk_drewN ?_ _ | refine blk_drew ?_ | refine blk_alloc ?_ _)); exact BK291.out) hb); have n3_ := Aside0.mk (below_step (by repeat (first | (with_reducible first | exact HB.out | apply below_alloc | apply pw_below_drewN | apply below_drew1 | refine below_set ?_ GE291.out) | exact HB.out)) hb); clear HO296; clear BK291; clear HB; have HO296 := n0_; have HO300 := n1_; have BK291 := n2_; have HB := n3_; clear n0_ n1_ n2_ n3_; (try clear hb); (try clear hb2); (try clear hk); (try clear hi); (try clear ho0); have hcz86_0 : w85.cell? ⟨gb291, 0, none⟩ = some (.slice A0_0 l0_0.length c0_0) := (blk_cell BK291.out 0).trans rfl; have hcz86_1 : w85.cell? ⟨gb291, 1, none⟩ = some (.slice A0_1 l0_1.length c0_1) := (blk_cell BK291.out 1).trans rfl; have hfz86_0 := blk_frozen BK291.out 0; have hfz86_1 := blk_frozen BK291.out 1) | ((with_reducible refine gate_callee (f := 24) rfl ?_); refine goesL_ (some 34) rfl rfl Try.func24 (by kernel_rfl) rfl #[.agg #[.slice A0_0 l0_0.length c0_0, .slice A0_1 l0_1.length c0_1]] rfl (by (try simp only [List.map_toArray, List.map_cons, List.map_nil]); first | done | rfl | (simp only [List.length_drop, List.length_take]; rfl)) ?_; (with_reducible refine (zone_Words.calls _ _ l0_0 _ _ l0_1 t302 t305 _ ?side1 ?side2 ?side3 ?side4 A13.out).mono ?_); (case side1 => repeat (first | exact (Kd.C_below HR0_0.out HB.out) | (with_reducible refine Kd.C_alloc ?_ _) | (with_reducible refine Kd.C_drewN ?_ _) | (with_reducible refine Kd.C_drew ?_))); (case side2 => exact HC0_0.out); (case side3 => repeat (first | exact (Kd.C_below HR0_1.out HB.out) | (with_reducible refine Kd.C_alloc ?_ _) | (with_reducible refine Kd.C_drewN ?_ _) | (with_reducible refine Kd.C_drew ?_))); (case side4 => exact HC0_1.out); rintro e w87 ⟨v303, rfl, ho0, hb⟩; refine ⟨_, rfl, ?_⟩; have n0_ := Aside0.mk (Kd.R_below (by (with_reducible repeat (first | apply Kd.R_alloc | apply Kd.R_drewN | apply Kd.R_drew)); exact HO296.out) hb); have n1_ := Aside0.mk (Kd.R_below (by (with_reducible repeat (first | apply Kd.R_alloc | apply Kd.R_drewN | apply Kd.R_drew)); exact HO300.out) hb); have n2_ := Aside0.mk (Kd.R_lower ho0 (below_size (by repeat (first | (with_reducible first | exact HB.out | apply below_alloc | apply pw_below_drewN | apply below_drew1 | refine below_set ?_ GE291.out) | exact HB.out)))); have n3_ := Aside0.mk (blk_below (g := gb291) (o := .cells #[.slice A0_0 l0_0.length c0_0, .slice A0_1 l0_1.length c0_1] 25 (0, 0)) (by (with_reducible repeat (first | refine blk_drewN ?_ _ | refine blk_drew ?_ | refine blk_alloc ?_ _)); exact BK291.out) hb); have n4_ := Aside0.mk (below_step (by repeat (first | (with_reducible first | exact HB.out | apply below_alloc | apply pw_below_drewN | apply below_drew1 | refine below_set ?_ GE291.out) | exact HB.out)) hb); clear HO296; clear HO300; clear BK291; clear HB; have HO296 := n0_; have HO300 := n1_; have HO304 := n2_; have BK291 := n3_; have HB := n4_; clear n0_ n1_ n2_ n3_ n4_; (try clear hb); (try clear hb2); (try clear hk); (try clear hi); (try clear ho0); have hcz88_0 : w87.cell? ⟨gb291, 0, none⟩ = some (.slice A0_0 l0_0.length c0_0) := (blk_cell BK291.out 0).trans rfl; have hcz88_1 : w87.cell? ⟨gb291, 1, none⟩ = some (.slice A0_1 l0_1.length c0_1) := (blk_cell BK291.out 1).trans rfl; have hfz88_0 := blk_frozen BK291.out 0; have hfz88_1 := blk_frozen BK291.out 1) | ((with_reducible refine gate_callee (f := 25) rfl ?_); refine goesL_ (some 39) rfl rfl Try.func25 (by kernel_rfl) rfl #[.agg #[.slice A0_0 l0_0.length c0_0, .slice A0_1 l0_1.length c0_1]] rfl (by (try simp only [List.map_toArray, List.map_cons, List.map_nil]); first | done | rfl | (simp only [List.length_drop, List.length_take]; rfl)) ?_; (with_reducible refine (incunableref24_Words.calls k _ _ l0_0 _ _ l0_1 t306 t309 _ ?side1 ?side2 ?side3 ?side4 A14.out).mono ?_); (case side1 => repeat (first | exact (Kd.C_below HR0_0.out HB.out) | (with_reducible refine Kd.C_alloc ?_ _) | (with_reducible refine Kd.C_drewN ?_ _) | (with_reducible refine Kd.C_drew ?_))); (case side2 => exact HC0_0.out); (case side3 => repeat (first | exact (Kd.C_below HR0_1.out HB.out) | (with_reducible refine Kd.C_alloc ?_ _) | (with_reducible refine Kd.C_drewN ?_ _) | (with_reducible refine Kd.C_drew ?_))); (case side4 => exact HC0_1.out); rintro e w89 ⟨v307, rfl, ho0, hb⟩; refine ⟨_, rfl, ?_⟩; have n0_ := Aside0.mk (Kd.R_below (by (with_reducible repeat (first | apply Kd.R_alloc | apply Kd.R_drewN | apply Kd.R_drew)); exact HO296.out) hb); have n1_ := Aside0.mk (Kd.R_below (by (with_reducible repeat (first | apply Kd.R_alloc | apply Kd.R_drewN | apply Kd.R_drew)); exact HO300.out) hb); have n2_ := Aside0.mk (Kd.R_elder' (by (with_reducible repeat (first | apply Kd.R_alloc | apply Kd.R_drewN | apply Kd.R_drew)); exact HO304.out) (Kd.R_base ho0) hb); have n3_ := Aside0.mk (Kd.R_lower (Kd.R_new' ho0 (Kd.R_lt (by (with_reducible repeat (first | apply Kd.R_alloc | apply Kd.R_drewN | apply Kd.R_drew)); exact HO304.out))) (below_size (by repeat (first | (with_reducible first | exact HB.out | apply below_alloc | apply pw_below_drewN | apply below_drew1 | refine below_set ?_ GE291.out) | exact HB.out)))); have n4_ := Aside0.mk (blk_below (g := gb291) (o := .cells #[.slice A0_0 l0_0.length c0_0, .slice A0_1 l0_1.length c0_1] 25 (0, 0)) (by (with_reducible repeat (first | refine blk_drewN ?_ _ | refine blk_drew ?_ | refine blk_alloc ?_ _)); exact BK291.out) hb); have n5_ := Aside0.mk (below_step (by repeat (first | (with_reducible first | exact HB.out | apply below_alloc | apply pw_below_drewN | apply below_drew1 | refine below_set ?_ GE291.out) | exact HB.out)) hb); clear HO296; clear HO300; clear HO304; clear BK291; clear HB; have HO296 := n0_; have HO300 := n1_; have HO304 := n2_; have HO308 := n3_; have BK291 := n4_; have HB := n5_; clear n0_ n1_ n2_ n3_ n4_ n5_; (try clear hb); (try clear hb2); (try clear hk); (try clear hi); (try clear ho0))); go_ret; (exact ⟨by first | rfl | (simp [errW_none, errW_some] <;> rfl) | (simp [*, errW_none, errW_some] <;> rfl), by repeat (first | (with_reducible first | exact HB.out | apply below_alloc | apply pw_below_drewN | apply below_drew1 | refine below_set ?_ GE291.out) | exact HB.out)⟩)))
end Go.Proofs.Ytgcdhikmdbjfeaa.U
namespace Go.Proofs.Ytgcdhikmdbjfeaa.Opn
open Go Go.RowKit Go.Proofs.YtgcdhikmdbjfeaaW.PrintWords Go.Proofs.YtgcdhikmdbjfeaaW.PrintLast Go.Proofs.YtgcdhikmdbjfeaaW.PrintMore Go.ChangeShapes Go.WideShapes
/-- The cells that the form reads at type t (with fuel N at the most) tell an element of the kind d, of which Wf holds. -/
structure OpensTo (P : Program) (N : Nat) {α : Type} (t : TypeId) (d : Kd α) (Wf : α → Prop) : Prop where
  sz : P.cellsOf t = d.sz
  op : ∀ {H : Type} {enc : TypeId × Value → H} {w : World} {fuel : Nat} {cs : List Value} {x : DataW H × List MemPlace}, fuel ≤ N → DataW.trod enc P w 0 (fun _ => true) true fuel t cs = some x → (∀ n ∈ x.1.weights P t, n ≤ reachBytes) → ∃ a : α, d.K w a cs ∧ Wf a
section
variable {P : Program} {N : Nat} {α β : Type} {t e : TypeId} {d : Kd α} {d' : Kd β} {Wf Wf2 : α → Prop} {Wf' : β → Prop}
theorem o_int {k : IntKind} (ht : P.underlying t = some (.int k)) (hc : P.cellsOf t = 1) : OpensTo P N t (Kd.int k) (fun n => (Lit.int k n).wf = true) := ⟨hc, fun _ hx _ => by
  obtain ⟨n, rfl, rfl, hw⟩ := DataW.trod_int ht hx
  exact ⟨n, rfl, hw⟩⟩
theorem pick_list {Q : Nat → α → Prop} : ∀ n : Nat, (∀ i, i < n → ∃ p, Q i p) → ∃ xs : List α, xs.length = n ∧ ∀ i p, xs[i]? = some p → Q i p
  | 0, _ => ⟨[], rfl, fun i p h => by simp at h⟩
  | n + 1, h => by
    obtain ⟨xs, hl, hq⟩ := pick_list n (fun i hi => h i (by omega))
    obtain ⟨p, hp⟩ := h n (by omega)
    refine ⟨xs ++ [p], by simp [hl], fun i q hi => ?_⟩
    rcases Nat.lt_or_ge i n with c | c
    · rw [List.getElem?_append_left (by omega)] at hi
      exact hq i q hi
    · rw [List.getElem?_append_right (by omega)] at hi
      obtain rfl : i = n := by
        have := (List.getElem?_eq_some_iff.1 hi).1
        simp at this
        omega
      simp [hl] at hi
      subst hi
      exact hp
theorem add_add' (a : Addr) (i j : Nat) : (a.add i).add j = a.add (i + j) := by
  unfold Addr.add
  by_cases h1 : i = 0 <;> by_cases h2 : j = 0 <;> simp [h1, h2, Nat.add_assoc]
theorem weights_all {H : Type} {e : TypeId} : ∀ {l : List (DataW H)} {y : DataW H}, y ∈ l → ∀ n ∈ y.weights P e, n ∈ DataW.weightsAll P e l
  | x :: l, y, hy, n, hn => by
    unfold DataW.weightsAll
    rcases List.mem_cons.1 hy with rfl | hy
    · exact List.mem_append.2 (.inl hn)
    · exact List.mem_append.2 (.inr (weights_all hy n hn))
end
end Go.Proofs.Ytgcdhikmdbjfeaa.Opn
namespace Go.Proofs.Ytgcdhikmdbjfeaa.Zat
open Go Go.RowKit Go.Proofs.YtgcdhikmdbjfeaaW.PrintWords Go.Proofs.YtgcdhikmdbjfeaaW.PrintLast Go.Proofs.YtgcdhikmdbjfeaaW.PrintMore Go.Proofs.Ytgcdhikmdbjfeaa.U Go.Proofs.Ytgcdhikmdbjfeaa.Aid Go.Proofs.Ytgcdhikmdbjfeaa.HandAid Go.Proofs.Ytgcdhikmdbjfeaa.Zpl Go.Proofs.Ytgcdhikmdbjfeaa.Zrt
/-- The first zone that has a pixel. -/
def idxF (x y : Int) : List Zn → Int → Int
  | [], _ => -1
  | z :: l, i => if has x y z = true then i else idxF x y l (i + 1)
set_option maxHeartbeats 4000000 in
set_option maxRecDepth 100000 in
theorem closure_calls (x y : Int) (gx gy : Nat) (z : Zn) (A : Option Addr) (c : Nat) (w : World) (hz : isz z = true) (hx : w.heap[gx]? = some (.cells #[.int .i64 x] 3 (0, 0))) (hy : w.heap[gy]? = some (.cells #[.int .i64 y] 3 (0, 0))) :
    Calls Try.prog 42 #[.agg #[.int .i64 z.f0, .int .i64 z.f1, .int .i64 z.f2, .int .i64 z.f3, .int .i64 z.f4, .int .i64 z.f5, .int .i64 z.f6, .slice A z.f7.length c], .pointer (some ⟨gx, 0, none⟩), .pointer (some ⟨gy, 0, none⟩)] w fun e w' => e = .returned (.bool (has x y z)) ∧ Below w.heap.size w w' := by
  have hu62 := Try.underlying62
  have hq := isz_iff.1 hz
  have b1 : z.f1 ≤ 100000 := by omega
  have b1' : -100000 ≤ z.f1 := by omega
  have b2 : z.f2 ≤ 100000 := by omega
  have b2' : -100000 ≤ z.f2 := by omega
  have b3 : z.f3 ≤ 200 := by omega
  have b3' : 0 ≤ z.f3 := by omega
  have b4 : z.f4 ≤ 200 := by omega
  have b4' : 0 ≤ z.f4 := by omega
  clear hq hz
  have hbA := below_alloc (Below.refl w.heap.size w) (.cells #[.int .i64 z.f0, .int .i64 z.f1, .int .i64 z.f2, .int .i64 z.f3, .int .i64 z.f4, .int .i64 z.f5, .int .i64 z.f6, .slice A z.f7.length c] 62)
  have HX := Aside0.mk (blk_below hx hbA)
  have HY := Aside0.mk (blk_below hy hbA)
  have HBA := Aside0.mk hbA
  have HZ := Aside0.mk (heap_new w (.cells #[.int .i64 z.f0, .int .i64 z.f1, .int .i64 z.f2, .int .i64 z.f3, .int .i64 z.f4, .int .i64 z.f5, .int .i64 z.f6, .slice A z.f7.length c] 62))
  obtain ⟨gz, hgz⟩ : ∃ q, w.heap.size = q := ⟨_, rfl⟩
  obtain ⟨W1, hW1⟩ : ∃ q, w.alloc (.cells #[.int .i64 z.f0, .int .i64 z.f1, .int .i64 z.f2, .int .i64 z.f3, .int .i64 z.f4, .int .i64 z.f5, .int .i64 z.f6, .slice A z.f7.length c] 62) = q := ⟨_, rfl⟩
  rw [hW1] at HX HY HBA HZ
  rw [hgz] at HZ
  have kx : W1.cell? ⟨gx, 0, none⟩ = some (.int .i64 x) := (blk_cell HX.out 0).trans rfl
  have ky : W1.cell? ⟨gy, 0, none⟩ = some (.int .i64 y) := (blk_cell HY.out 0).trans rfl
  have kz0 : W1.cell? ⟨gz, 0, none⟩ = some (.int .i64 z.f0) := (blk_cell HZ.out 0).trans rfl
  have kz1 : W1.cell? ⟨gz, 1, none⟩ = some (.int .i64 z.f1) := (blk_cell HZ.out 1).trans rfl
  have kz2 : W1.cell? ⟨gz, 2, none⟩ = some (.int .i64 z.f2) := (blk_cell HZ.out 2).trans rfl
  have kz3 : W1.cell? ⟨gz, 3, none⟩ = some (.int .i64 z.f3) := (blk_cell HZ.out 3).trans rfl
  have kz4 : W1.cell? ⟨gz, 4, none⟩ = some (.int .i64 z.f4) := (blk_cell HZ.out 4).trans rfl
  have kz5 : W1.cell? ⟨gz, 5, none⟩ = some (.int .i64 z.f5) := (blk_cell HZ.out 5).trans rfl
  have kz6 : W1.cell? ⟨gz, 6, none⟩ = some (.int .i64 z.f6) := (blk_cell HZ.out 6).trans rfl
  have kz7 : W1.cell? ⟨gz, 7, none⟩ = some (.slice A z.f7.length c) := (blk_cell HZ.out 7).trans rfl
  obtain ⟨r, hr⟩ : ∃ r, has x y z = r := ⟨_, rfl⟩
  have HR := Aside0.mk hr
  rw [hr]
  clear hr hx hy hbA
  have HBW := Aside0.mk (show Below w.heap.size w W1 from HBA.out)
  by_cases h0 : z.f1 ≤ x
  · have t0 : decide (z.f1 ≤ x) = true := decide_eq_true h0
    by_cases h1 : z.f2 ≤ y
    · have t1 : decide (z.f2 ≤ y) = true := decide_eq_true h1
      by_cases h2 : x < z.f1 + z.f3
      · have t2 : decide (x < z.f1 + z.f3) = true := decide_eq_true h2
        by_cases h3 : y < z.f2 + z.f4
        · have t3 : decide (y < z.f2 + z.f4) = true := decide_eq_true h3
          have HR := Aside0.mk (show true = r from by rw [← HR.out]; unfold has; symm; exact decide_eq_true ⟨h0, h1, h2, h3⟩)
          clear h0 h1 h2 h3
          go_enter Try.func42, Try.ntmps42
          go_wp2_with (fail)
          go_ret
          exact ⟨congrArg (fun b => Ending.returned (.bool b)) HR.out, HBW.out⟩
        · have t3 : decide (y < z.f2 + z.f4) = false := decide_eq_false h3
          have HR := Aside0.mk (show false = r from by rw [← HR.out]; unfold has; symm; exact decide_eq_false (fun hh => h3 (by omega)))
          clear h0 h1 h2 h3
          go_enter Try.func42, Try.ntmps42
          go_wp2_with (fail)
          go_ret
          exact ⟨congrArg (fun b => Ending.returned (.bool b)) HR.out, HBW.out⟩
      · have t2 : decide (x < z.f1 + z.f3) = false := decide_eq_false h2
        have HR := Aside0.mk (show false = r from by rw [← HR.out]; unfold has; symm; exact decide_eq_false (fun hh => h2 (by omega)))
        clear h0 h1 h2
        go_enter Try.func42, Try.ntmps42
        go_wp2_with (fail)
        go_ret
        exact ⟨congrArg (fun b => Ending.returned (.bool b)) HR.out, HBW.out⟩
    · have t1 : decide (z.f2 ≤ y) = false := decide_eq_false h1
      have HR := Aside0.mk (show false = r from by rw [← HR.out]; unfold has; symm; exact decide_eq_false (fun hh => h1 (by omega)))
      clear h0 h1
      go_enter Try.func42, Try.ntmps42
      go_wp2_with (fail)
      go_ret
      exact ⟨congrArg (fun b => Ending.returned (.bool b)) HR.out, HBW.out⟩
  · have t0 : decide (z.f1 ≤ x) = false := decide_eq_false h0
    have HR := Aside0.mk (show false = r from by rw [← HR.out]; unfold has; symm; exact decide_eq_false (fun hh => h0 (by omega)))
    clear h0
    go_enter Try.func42, Try.ntmps42
    go_wp2_with (fail)
    go_ret
    exact ⟨congrArg (fun b => Ending.returned (.bool b)) HR.out, HBW.out⟩
set_option maxHeartbeats 4000000 in
set_option maxRecDepth 100000 in
theorem index_calls (x y : Int) (gx gy : Nat) (l : List Zn) (A : Option Addr) (c : Nat) (w0 w : World) (hA : Kd.C k62 w0 A l.length l) (hB0 : Below w0.heap.size w0 w) (hz : ∀ k : Nat, k < l.length → isz (rd_T62 l k) = true) (hx : w.heap[gx]? = some (.cells #[.int .i64 x] 3 (0, 0))) (hy : w.heap[gy]? = some (.cells #[.int .i64 y] 3 (0, 0))) :
    Calls Try.prog 41 #[.slice A l.length c, .func (.func 42) #[] #[.pointer (some ⟨gx, 0, none⟩), .pointer (some ⟨gy, 0, none⟩)]] w fun e w' => e = .returned (.int .i64 (idxF x y l 0)) ∧ Below w.heap.size w w' := by
  have hu62 := Try.underlying62
  have hla : l.length ≤ 9223372036854775807 := Kd.C_max hA
  have HA := Aside0.mk hA
  have HZS := Aside0.mk hz
  have HX := Aside0.mk hx
  have HY := Aside0.mk hy
  have HB0 := Aside0.mk hB0
  obtain ⟨r, hr⟩ : ∃ r, idxF x y l 0 = r := ⟨_, rfl⟩
  have HR := Aside0.mk hr
  rw [hr]
  clear hA hz hx hy hB0 hr
  go_enter Try.func41, Try.ntmps41
  go_wp2_with (fail)
  go_loopw [4, 8] (fun e_ i wr => ∃ k : Nat, k ≤ l.length ∧ e_ = .int .i64 0 ∧ i = .int .i64 k ∧ Aside0 (r = idxF x y (l.drop k) k) ∧ Aside0 (Below w.heap.size w wr)) (fun _ i _ => l.length - (intOf i).toNat)
  case atStart => exact ⟨0, by omega, rfl, rfl, ⟨HR.out.symm⟩, ⟨Below.refl _ _⟩⟩
  case round =>
    clear HR
    obtain ⟨k, hk, rfl, rfl, HR, HW⟩ := hrel
    by_cases hlt : k < l.length
    · have hltk : (k : Int) < (l.length : Int) := by omega
      obtain ⟨ad, A7, c7, eA, hx0, hx1, hx2, hx3, hx4, hx5, hx6, hx7, hl7, hi7⟩ := at_T62 HA.out k (by omega) (by omega)
      cases eA
      clear hi7 hl7
      have HS := Aside0.mk (HZS.out k hlt)
      have HD := Aside0.mk (drop_at hlt)
      obtain ⟨z, hz⟩ : ∃ z, rd_T62 l k = z := ⟨_, rfl⟩
      rw [hz] at hx0 hx1 hx2 hx3 hx4 hx5 hx6 hx7 HS HD
      clear hz
      simp only [Int.toNat_natCast] at hx0 hx1 hx2 hx3 hx4 hx5 hx6 hx7
      replace hx0 := ((below_then HB0.out HB0.out.size HW.out).cell (World.block_lt_of_cell? w0 _ hx0)).trans hx0
      replace hx1 := ((below_then HB0.out HB0.out.size HW.out).cell (World.block_lt_of_cell? w0 _ hx1)).trans hx1
      replace hx2 := ((below_then HB0.out HB0.out.size HW.out).cell (World.block_lt_of_cell? w0 _ hx2)).trans hx2
      replace hx3 := ((below_then HB0.out HB0.out.size HW.out).cell (World.block_lt_of_cell? w0 _ hx3)).trans hx3
      replace hx4 := ((below_then HB0.out HB0.out.size HW.out).cell (World.block_lt_of_cell? w0 _ hx4)).trans hx4
      replace hx5 := ((below_then HB0.out HB0.out.size HW.out).cell (World.block_lt_of_cell? w0 _ hx5)).trans hx5
      replace hx6 := ((below_then HB0.out HB0.out.size HW.out).cell (World.block_lt_of_cell? w0 _ hx6)).trans hx6
      replace hx7 := ((below_then HB0.out HB0.out.size HW.out).cell (World.block_lt_of_cell? w0 _ hx7)).trans hx7
      have HCL := Aside0.mk (closure_calls x y gx gy z A7 c7 wr HS.out (blk_below HX.out HW.out) (blk_below HY.out HW.out))
      obtain ⟨q, hq⟩ : ∃ q, has x y z = q := ⟨_, rfl⟩
      have HR := Aside0.mk (show r = (if q = true then (k : Int) else idxF x y (l.drop (k + 1)) ((k : Int) + 1)) by rw [HR.out, HD.out, ← hq]; rfl)
      rw [hq] at HCL
      clear hq
      cases q
      · have HR := Aside0.mk (show r = idxF x y (l.drop (k + 1)) (((k + 1 : Nat) : Int)) from HR.out.trans (if_neg (by simp)))
        have hk1 : k + 1 ≤ l.length := hlt
        go_wp2_with (go_at_call 42; refine HCL.out.mono ?_; rintro e w5 ⟨rfl, hb⟩; have HB5 := Aside0.mk hb; clear hb)
        go_roundw
        case rel => exact ⟨k + 1, hk1, rfl, by go_num, HR, ⟨below_then HW.out HW.out.size HB5.out⟩⟩
        case measure => simp [intOf]; omega
      · have HR := Aside0.mk (show r = (k : Int) from HR.out.trans (if_pos rfl))
        go_wp2_with (go_at_call 42; refine HCL.out.mono ?_; rintro e w5 ⟨rfl, hb⟩; have HB5 := Aside0.mk hb; clear hb)
        go_ret
        exact ⟨congrArg (fun b => Ending.returned (.int .i64 b)) HR.out.symm, below_then HW.out HW.out.size HB5.out⟩
    · obtain rfl : k = l.length := by omega
      have HR := Aside0.mk (show r = -1 by rw [HR.out, List.drop_length]; rfl)
      go_wp2_with (fail)
      go_ret
      exact ⟨congrArg (fun b => Ending.returned (.int .i64 b)) HR.out.symm, HW.out⟩
end Go.Proofs.Ytgcdhikmdbjfeaa.Zat
namespace Go.Proofs.Ytgcdhikmdbjfeaa.Zle
open Go Go.RowKit Go.Proofs.YtgcdhikmdbjfeaaW.PrintWords Go.Proofs.YtgcdhikmdbjfeaaW.PrintLast Go.Proofs.YtgcdhikmdbjfeaaW.PrintMore Go.Proofs.Ytgcdhikmdbjfeaa.U Go.Proofs.Ytgcdhikmdbjfeaa.Aid Go.Proofs.Ytgcdhikmdbjfeaa.HandAid Go.Proofs.Ytgcdhikmdbjfeaa.Zpl Go.Proofs.Ytgcdhikmdbjfeaa.Zrt Go.Proofs.Ytgcdhikmdbjfeaa.Zev Go.Proofs.Ytgcdhikmdbjfeaa.Zat Go.Proofs.Ytgcdhikmdbjfeaa.Zwd Go.Proofs.Ytgcdhikmdbjfeaa.Zre
theorem eta_zn (z : Zn) : (⟨z.f0, z.f1, z.f2, z.f3, z.f4, z.f5, z.f6, z.f7⟩ : Zn) = z := by cases z; rfl
theorem pre_cons (z : Zn) (l : List Zn) : pre (z :: l) = z :: (pre z.f7 ++ pre l) := by rw [pre]
theorem pre_nil : pre [] = [] := by rw [pre]
def lvs (l : List Zn) : List Zn := l.filter fun z => decide (z.f7.length = 0)
theorem lvs_len (l : List Zn) : ((lvs (pre l)).length : Int) ≤ cnt l := by
  have h := List.length_filter_le (fun z : Zn => decide (z.f7.length = 0)) (pre l)
  have := Zea.pre_len l
  rw [lvs]
  omega
theorem lvs_hit {z : Zn} {l : List Zn} (h : z.f7.length = 0) : lvs (pre (z :: l)) = z :: (lvs (pre z.f7) ++ lvs (pre l)) := by
  rw [pre_cons, lvs, List.filter_cons, if_pos (by exact decide_eq_true h), List.filter_append]
  rfl
theorem lvs_miss {z : Zn} {l : List Zn} (h : ¬ z.f7.length = 0) : lvs (pre (z :: l)) = lvs (pre z.f7) ++ lvs (pre l) := by
  rw [pre_cons, lvs, List.filter_cons, if_neg (by rw [decide_eq_true_iff]; exact h), List.filter_append]
  rfl
theorem leaves_ev (l : List Zn) : cnt l ≤ 1000000 → Ev (fun k => incunableref24_Leaves.f k l) (lvs (pre l)) := by
  induction l using tree_all with
  | h l ih =>
  intro hc
  have hl := len_le_cnt l
  have loop : ∀ m i : Nat, l.length - i = m → i ≤ l.length → ∀ acc : List Zn, (acc.length : Int) + cnt (l.drop i) ≤ cnt l → Ev (fun k => incunableref24_Leaves.l0 k acc l (l.length : Int) (i : Int)) (acc ++ lvs (pre (l.drop i))) := by
    intro m
    induction m with
    | zero =>
      intro i hm hi acc ha
      obtain rfl : i = l.length := by omega
      refine ev_succ ?_
      simp only [incunableref24_Leaves.l0]
      rw [List.drop_length, pre_nil]
      exact ev_neg (by omega) (ev_const (by simp [lvs]))
    | succ m ihm =>
      intro i hm hi acc ha
      have hlt : i < l.length := by omega
      have hk := cnt_drop l i
      have c1 := cnt_nonneg (rd_T62 l i).f7
      have c2 := cnt_nonneg (l.drop (i + 1))
      have hll := lvs_len (rd_T62 l i).f7
      rw [cnt_at hlt] at hk ha
      refine ev_succ ?_
      simp only [incunableref24_Leaves.l0]
      rw [drop_at hlt, wrap_id (n := (i : Int) + 1) (by omega) (by omega)]
      refine ev_pos (by omega) (ev_pos (by omega) (ev_pos (by omega) ?_))
      by_cases h0 : (rd_T62 l i).f7.length = 0
      · rw [lvs_hit h0]
        refine ev_pos (by omega) (ev_pos (by omega) (ev_pure rfl (ev_bind (ih i hlt (by omega)) (ev_pos ?_ (ev_eq (ihm (i + 1) (by omega) (by omega) _ ?_) ?_)))))
        · rw [List.length_append, List.length_singleton]
          omega
        · rw [List.length_append, List.length_append, List.length_singleton]
          omega
        · rw [eta_zn]
          simp
      · rw [lvs_miss h0]
        refine ev_neg (by omega) (ev_bind (ih i hlt (by omega)) (ev_pos ?_ (ev_eq (ihm (i + 1) (by omega) (by omega) _ ?_) ?_)))
        · omega
        · rw [List.length_append]
          omega
        · simp
  unfold incunableref24_Leaves.f
  refine ev_succ ?_
  simp only [incunableref24_Leaves.f]
  exact ev_eq (loop _ 0 rfl (by omega) [] (by simp)) (by simp)
theorem wds_len (l : List Zn) : ((wds (pre l)).length : Int) ≤ cnt l := by
  have h := List.length_filter_le (fun z : Zn => z.f0 == 6) (pre l)
  have := Zea.pre_len l
  rw [wds, List.length_map]
  omega
theorem wds_hit {z : Zn} {l : List Zn} (h : z.f0 = 6) : wds (pre (z :: l)) = ⟨z.f5, z.f6⟩ :: (wds (pre z.f7) ++ wds (pre l)) := by
  rw [pre_cons, wds, List.filter_cons, if_pos (by rw [beq_iff_eq]; exact h), List.filter_append, List.map_cons, List.map_append]
  rfl
theorem wds_miss {z : Zn} {l : List Zn} (h : ¬ z.f0 = 6) : wds (pre (z :: l)) = wds (pre z.f7) ++ wds (pre l) := by
  rw [pre_cons, wds, List.filter_cons, if_neg (by rw [beq_iff_eq]; exact h), List.filter_append, List.map_append]
  rfl
theorem words_ev (l : List Zn) : cnt l ≤ 1000000 → Ev (fun k => incunableref24_words.f k l) (wds (pre l)) := by
  induction l using tree_all with
  | h l ih =>
  intro hc
  have hl := len_le_cnt l
  have loop : ∀ m i : Nat, l.length - i = m → i ≤ l.length → ∀ acc : List (S34), (acc.length : Int) + cnt (l.drop i) ≤ cnt l → Ev (fun k => incunableref24_words.l0 k acc l (l.length : Int) (i : Int)) (acc ++ wds (pre (l.drop i))) := by
    intro m
    induction m with
    | zero =>
      intro i hm hi acc ha
      obtain rfl : i = l.length := by omega
      refine ev_succ ?_
      simp only [incunableref24_words.l0]
      rw [List.drop_length, pre_nil]
      exact ev_neg (by omega) (ev_const (by simp [wds]))
    | succ m ihm =>
      intro i hm hi acc ha
      have hlt : i < l.length := by omega
      have hk := cnt_drop l i
      have c1 := cnt_nonneg (rd_T62 l i).f7
      have c2 := cnt_nonneg (l.drop (i + 1))
      have hll := wds_len (rd_T62 l i).f7
      rw [cnt_at hlt] at hk ha
      refine ev_succ ?_
      simp only [incunableref24_words.l0]
      rw [drop_at hlt, wrap_id (n := (i : Int) + 1) (by omega) (by omega)]
      refine ev_pos (by omega) (ev_pos (by omega) (ev_pos (by omega) ?_))
      by_cases h0 : (rd_T62 l i).f0 = 6
      · rw [wds_hit h0]
        refine ev_pos h0 (ev_pos (by omega) (ev_pure rfl (ev_bind (ih i hlt (by omega)) (ev_pos ?_ (ev_eq (ihm (i + 1) (by omega) (by omega) _ ?_) ?_)))))
        · rw [List.length_append, List.length_singleton]
          omega
        · rw [List.length_append, List.length_append, List.length_singleton]
          omega
        · simp
      · rw [wds_miss h0]
        refine ev_neg h0 (ev_bind (ih i hlt (by omega)) (ev_pos ?_ (ev_eq (ihm (i + 1) (by omega) (by omega) _ ?_) ?_)))
        · omega
        · rw [List.length_append]
          omega
        · simp
  unfold incunableref24_words.f
  refine ev_succ ?_
  simp only [incunableref24_words.f]
  exact ev_eq (loop _ 0 rfl (by omega) [] (by simp)) (by simp)
theorem rwords_ev (t : List Int) (l : List Zn) (hc : cnt l ≤ 1099511627776) : Ev (fun k => incunableref24_Words.f k t l) (wdsP t l) := by
  unfold incunableref24_Words.f
  refine ev_bind (refvalid_ev t l hc) ?_
  rw [wdsP]
  cases hv : vldZ t l
  · exact ev_neg (by simp) (ev_const (by simp))
  · have hcn := vldZ_iff.1 hv
    exact ev_pos rfl (ev_bind (words_ev l (by omega)) (ev_const rfl))
def rcL (a b : Int) (l : List Zn) : List (S47) := (l.filter fun z => decide (max z.f5 a < min z.f6 b)).map fun z => ⟨z.f1, z.f2, z.f3, z.f4⟩
theorem rcL_lvs (a b : Int) (l : List Zn) : rcL a b (lvs l) = rcs a b l := by
  rw [rcL, lvs, List.filter_filter, rcs]
  congr 1
  refine List.filter_congr fun z _ => ?_
  rw [Bool.and_comm]
theorem rects_loop (a b : Int) (l : List Zn) (hl : l.length ≤ 1000000) : ∀ m i : Nat, l.length - i = m → i ≤ l.length → ∀ acc : List (S47), acc.length ≤ i → Ev (fun k => incunableref24_Rects.l0 k a b acc l (l.length : Int) (i : Int)) (acc ++ rcL a b (l.drop i), 0) := by
  intro m
  induction m with
  | zero =>
    intro i hm hi acc ha
    obtain rfl : i = l.length := by omega
    refine ev_succ ?_
    simp only [incunableref24_Rects.l0]
    rw [List.drop_length]
    exact ev_neg (by omega) (ev_const (by simp [rcL]))
  | succ m ihm =>
    intro i hm hi acc ha
    have hlt : i < l.length := by omega
    refine ev_succ ?_
    simp only [incunableref24_Rects.l0]
    rw [drop_at hlt, wrap_id (n := (i : Int) + 1) (by omega) (by omega)]
    refine ev_pos (by omega) (ev_pos (by omega) (ev_pos (by omega) ?_))
    have em : mx (rd_T62 l i).f5 a = max (rd_T62 l i).f5 a := by unfold mx; omega
    have en : mn (rd_T62 l i).f6 b = min (rd_T62 l i).f6 b := by unfold mn; omega
    rw [show ((i : Int)) = ((i : Nat) : Int) from rfl, em, en]
    by_cases h0 : max (rd_T62 l i).f5 a < min (rd_T62 l i).f6 b
    · refine ev_pos h0 (ev_pos (by omega) (ev_eq (ihm (i + 1) (by omega) (by omega) _ (by rw [List.length_append, List.length_singleton]; omega)) ?_))
      simp [rcL, List.filter_cons, h0]
    · refine ev_neg h0 (ev_eq (ihm (i + 1) (by omega) (by omega) _ (by omega)) ?_)
      simp [rcL, List.filter_cons, h0]
theorem rrects_ev (t : List Int) (l : List Zn) (a b : Int) (hc : cnt l ≤ 1099511627776) : Ev (fun k => incunableref24_Rects.f k t l a b) (rcsP t l a b) := by
  unfold incunableref24_Rects.f
  refine ev_bind (refvalid_ev t l hc) ?_
  rw [rcsP]
  cases hv : vldZ t l
  · exact ev_neg (by simp) (ev_const (by simp))
  · have hcn := vldZ_iff.1 hv
    have hll := lvs_len l
    have jt : ∀ f : Bool, Ev (fun k => incunableref24_Rects.j0 k a b f t l) (if f = true then ([], 2) else (rcs a b (pre l), 0)) := by
      intro f
      refine ev_succ ?_
      simp only [incunableref24_Rects.j0]
      cases f
      · refine ev_neg (by simp) (ev_bind (leaves_ev l (by omega)) (ev_eq (rects_loop a b (lvs (pre l)) (by omega) _ 0 rfl (by omega) [] (by simp)) ?_))
        simp [rcL_lvs]
      · exact ev_pos rfl (ev_const rfl)
    refine ev_pos rfl ?_
    rw [if_pos rfl]
    by_cases h1 : a < 0
    · rw [if_pos (.inl h1)]
      exact ev_pos h1 (jt true)
    · refine ev_neg h1 ?_
      by_cases h2 : a > b
      · rw [if_pos (.inr (.inl h2))]
        exact ev_pos h2 (jt true)
      · refine ev_neg h2 (ev_eq (jt _) ?_)
        by_cases h3 : b > (t.length : Int)
        · rw [if_pos (decide_eq_true h3), if_pos (.inr (.inr h3))]
        · rw [if_neg (by rw [decide_eq_true_iff]; exact h3), if_neg (by omega)]
theorem rects_self_loop (l : List (S47)) (hl : l.length ≤ 9223372036854775807) : ∀ m i : Nat, l.length - i = m → i ≤ l.length → Ev (fun k => incunablelaw24_sameRects.l0 k l l (l.length : Int) (i : Int)) true := by
  intro m
  induction m with
  | zero =>
    intro i hm hi
    refine ev_succ ?_
    simp only [incunablelaw24_sameRects.l0]
    exact ev_neg (by omega) (ev_const rfl)
  | succ m ih =>
    intro i hm hi
    refine ev_succ ?_
    simp only [incunablelaw24_sameRects.l0]
    rw [wrap_id (n := (i : Int) + 1) (by omega) (by omega), show (i : Int) + 1 = ((i + 1 : Nat) : Int) from rfl]
    exact ev_pos (by omega) (ev_pos (by omega) (ev_pos (by omega) (ev_pos (by omega) (ev_neg (by simp) (ih (i + 1) (by omega) (by omega))))))
theorem rects_self (l : List (S47)) (hl : l.length ≤ 9223372036854775807) : Ev (fun k => incunablelaw24_sameRects.f k l l) true := by
  unfold incunablelaw24_sameRects.f
  exact ev_pos rfl (rects_self_loop l hl _ 0 rfl (by omega))
theorem rcsP_len (t : List Int) (l : List Zn) (a b : Int) : (rcsP t l a b).1.length ≤ 1000000 := by
  rw [rcsP]
  split
  · rename_i hv
    have hcn := vldZ_iff.1 hv
    have hll := lvs_len l
    split
    · simp
    · have h := List.length_filter_le (fun z : Zn => decide (max z.f5 a < min z.f6 b)) (lvs (pre l))
      rw [← rcL_lvs, rcL, List.length_map]
      omega
  · simp
theorem wdsP_len (t : List Int) (l : List Zn) : (wdsP t l).1.length ≤ 1000000 := by
  rw [wdsP]
  split
  · rename_i hv
    have hcn := vldZ_iff.1 hv
    have := wds_len l
    show (wds (pre l)).length ≤ 1000000
    omega
  · simp
end Go.Proofs.Ytgcdhikmdbjfeaa.Zle
namespace Go.Proofs.Ytgcdhikmdbjfeaa.Opz
open Go Go.RowKit Go.Proofs.YtgcdhikmdbjfeaaW.PrintWords Go.Proofs.YtgcdhikmdbjfeaaW.PrintLast Go.Proofs.YtgcdhikmdbjfeaaW.PrintMore Go.ChangeShapes Go.WideShapes Go.Proofs.Ytgcdhikmdbjfeaa.U Go.Proofs.Ytgcdhikmdbjfeaa.Opn Go.Proofs.Ytgcdhikmdbjfeaa.Zpl
/-- As OpensTo; and how much of the datum's bulk an element takes. -/
structure OpensB (P : Program) (N : Nat) {α : Type} (t : TypeId) (d : Kd α) (Wf : α → Prop) (M : α → Nat) : Prop where
  sz : P.cellsOf t = d.sz
  op : ∀ {H : Type} {enc : TypeId × Value → H} {w : World} {fuel : Nat} {cs : List Value} {x : DataW H × List MemPlace}, fuel ≤ N → DataW.trod enc P w 0 (fun _ => true) true fuel t cs = some x → (∀ n ∈ x.1.weights P t, n ≤ reachBytes) → ∃ a : α, d.K w a cs ∧ Wf a ∧ M a ≤ Rows.uptoBulk x.1
section
variable {P : Program} {N : Nat} {α β : Type} {t e : TypeId} {d : Kd α} {d' : Kd β} {Wf Wf2 : α → Prop} {Wf' : β → Prop} {M : α → Nat} {M' : β → Nat}
theorem bulk_pos {H : Type} (d : DataW H) : 1 ≤ Rows.uptoBulk d := by
  cases d with
  | lit x => cases x <;> simp [Rows.uptoBulk]
  | _ => simp [Rows.uptoBulk]
theorem b_one (h : OpensTo P N t d Wf) : OpensB P N t d Wf (fun _ => 1) := ⟨h.sz, fun hf hx hw => by
  obtain ⟨a, hk, hwf⟩ := h.op hf hx hw
  exact ⟨a, hk, hwf, bulk_pos _⟩⟩
theorem bulk_all {H : Type} : ∀ (l : List (DataW H)) (i : Nat) (xs : List Nat), xs.length ≤ l.length → (∀ (i n : Nat), xs[i]? = some n → ∃ y : DataW H, l[i]? = some y ∧ n ≤ Rows.uptoBulk y) → xs.sum ≤ Rows.uptoBulkAll l
  | l, i, [], _, _ => by simp
  | [], i, x :: xs, h, _ => by simp at h
  | y :: l, i, x :: xs, h, hx => by
    obtain ⟨y', h1, h2⟩ := hx 0 x rfl
    obtain rfl : y = y' := by simpa using h1
    have := bulk_all l i xs (by simpa using h) (fun j n hj => hx (j + 1) n (by simpa using hj))
    simp only [List.sum_cons, Rows.uptoBulkAll]
    omega
theorem b_slice (hu : P.underlying t = some (.slice e)) (hc : P.cellsOf t = 1) (he : OpensB P N e d Wf M) {B : Nat} (hB : P.bytesOf e = B) :
    OpensB P (N + 1) t (Kd.slice e d) (fun l => l.length * B ≤ 140737488351232 ∧ ∀ x ∈ l, Wf x) (fun l => (l.map M).sum) := ⟨hc, fun {H enc w fuel cs x} hf hx hw => by
  rcases DataW.trod_slice hu hx with ⟨rfl, rfl⟩ | ⟨a, len, cap, elems, rest, n, hfn, rfl, rfl, _, hl, hm, hlen, hel, _, _⟩
  · exact ⟨[], ⟨none, 0, rfl, Nat.le_refl _, Kd.C_nil d w⟩, ⟨by simp, fun x hx => by simp at hx⟩, by simp⟩
  · have hq : ∀ i, i < len → ∃ p : α, (∃ cs', w.cells? 0 (a.add (i * P.cellsOf e)) (P.cellsOf e) = some cs' ∧ d.K w p cs') ∧ Wf p ∧ ∃ y, elems[i]? = some y ∧ M p ≤ Rows.uptoBulk y.1 := by
      intro i hi
      have h1 := hel i hi
      obtain ⟨y, hy⟩ : ∃ y, elems[i]? = some y := ⟨_, List.getElem?_eq_getElem (by omega)⟩
      rw [hy, Option.bind_eq_some_iff] at h1
      obtain ⟨cs', hcs, h2⟩ := h1
      obtain ⟨p, hk, hwf, hM⟩ := he.op (by omega) h2 (fun m hm' => hw m (by
        unfold DataW.weights
        rw [hu]
        refine List.mem_cons.2 (.inr (List.mem_append.2 (.inl (weights_all (y := y.1) ?_ m hm'))))
        exact List.mem_map.2 ⟨y, List.mem_of_getElem? hy, rfl⟩))
      exact ⟨p, ⟨cs', hcs, hk⟩, hwf, y, hy, hM⟩
    obtain ⟨xs, hxl, hxs⟩ := pick_list len hq
    have hcap : cap ≤ 9223372036854775807 := by simpa [maxLen] using hm
    refine ⟨xs, ⟨some a, cap, by rw [hxl], by omega, rfl, by omega, fun _ => ⟨a, rfl, fun j p hj => ?_⟩⟩, ⟨?_, fun x hx => ?_⟩, ?_⟩
    · obtain ⟨⟨cs', hcs, hk⟩, _⟩ := hxs j p hj
      obtain ⟨_, hl2, hcell⟩ := World.cells?_some hcs
      refine ⟨cs', d.K_len hk, hk, fun i u hi => ?_⟩
      have h3 := hcell i (by rw [← hl2]; exact (List.getElem?_eq_some_iff.1 hi).1)
      rw [Opn.add_add', he.sz, hi] at h3
      exact h3
    · have h4 := hw ((elems.length + rest.length) * P.bytesOf e) (by
        unfold DataW.weights
        rw [hu]
        simp)
      have h5 : len * B ≤ (elems.length + rest.length) * B := Nat.mul_le_mul_right _ (by omega)
      rw [hB] at h4
      rw [hxl]
      exact Nat.le_trans h5 h4
    · obtain ⟨i, hi⟩ := List.getElem?_of_mem hx
      exact (hxs i x hi).2.1
    · have hs := bulk_all (elems.map (·.1)) 0 (xs.map M) (by simp; omega) (fun i n hi => by
        rw [List.getElem?_map, Option.map_eq_some_iff] at hi
        obtain ⟨p, hp, rfl⟩ := hi
        obtain ⟨_, _, y, hy, hM⟩ := hxs i p hp
        exact ⟨y.1, by rw [List.getElem?_map, hy]; rfl, hM⟩)
      simp only [Rows.uptoBulk]
      omega⟩
/-- The same for a struct's fields from offset o on. -/
structure FieldsB (P : Program) (N : Nat) {α : Type} (fs : List Field) (o : Nat) (d : Kd α) (Wf : α → Prop) (M : α → Nat) : Prop where
  op : ∀ {H : Type} {enc : TypeId × Value → H} {w : World} {fuel : Nat} {cs : List Value} {xs : List (DataW H × List MemPlace)}, fuel ≤ N → cs.length = o + d.sz → xs.length = fs.length →
    (∀ (i : Nat) (f : Field), fs[i]? = some f → DataW.trod enc P w 0 (fun _ => true) true fuel f.type ((cs.drop f.offset).take (P.cellsOf f.type)) = xs[i]?) →
    (∀ n ∈ DataW.weightsEach P (fs.map (·.type)) (xs.map (·.1)), n ≤ reachBytes) → ∃ a : α, d.K w a (cs.drop o) ∧ Wf a ∧ M a ≤ Rows.uptoBulkAll (xs.map (·.1))
theorem fb_one {f : Field} {o : Nat} (ho : f.offset = o) (h : OpensB P N f.type d Wf M) : FieldsB P N [f] o d Wf M := ⟨by
  intro H enc w fuel cs xs hf hl hxl hx hw
  match xs, hxl with
  | [x], _ =>
    have h1 := hx 0 f rfl
    rw [ho, h.sz, List.take_of_length_le (by rw [List.length_drop]; omega)] at h1
    obtain ⟨a, hk, hwf, hM⟩ := h.op hf h1 (fun n hn => hw n (by simp [DataW.weightsEach, hn]))
    exact ⟨a, hk, hwf, by simp only [List.map_cons, List.map_nil, Rows.uptoBulkAll]; omega⟩⟩
theorem fb_cons {f : Field} {fs : List Field} {o : Nat} (ho : f.offset = o) (h : OpensB P N f.type d Wf M) (hs : FieldsB P N fs (o + d.sz) d' Wf' M') : FieldsB P N (f :: fs) o (Kd.pair d d') (fun x => Wf x.1 ∧ Wf' x.2) (fun x => M x.1 + M' x.2) := ⟨by
  intro H enc w fuel cs xs hf hl hxl hx hw
  match xs, hxl with
  | x :: xs, hxl =>
    have hl' : cs.length = o + (d.sz + d'.sz) := hl
    have h1 := hx 0 f rfl
    rw [ho, h.sz] at h1
    obtain ⟨a, hk, hwf, hM⟩ := h.op hf h1 (fun n hn => hw n (by simp [DataW.weightsEach, hn]))
    obtain ⟨b, hk', hwf', hM'⟩ := hs.op (xs := xs) hf (by rw [hl']; omega) (by simpa using hxl) (fun i g hg => by simpa using hx (i + 1) g (by simpa using hg)) (fun n hn => hw n (by
      simp only [List.map_cons, DataW.weightsEach]
      exact List.mem_append.2 (.inr hn)))
    refine ⟨(a, b), ⟨_, _, ?_, hk, hk'⟩, ⟨hwf, hwf'⟩, ?_⟩
    · rw [← List.drop_drop, List.take_append_drop]
    · simp only [List.map_cons, Rows.uptoBulkAll]
      omega⟩
theorem b_struct {fs : Array Field} (hu : P.underlying t = some (.struct fs)) (hc : P.cellsOf t = d.sz) (h : FieldsB P N fs.toList 0 d Wf M) : OpensB P (N + 1) t d Wf (fun x => M x + 1) := ⟨hc, fun {H enc w fuel cs x} hf hx hw => by
  obtain ⟨xs, n, hfn, rfl, hl, hxl, hel⟩ := DataW.trod_struct hu hx
  obtain ⟨a, hk, hwf, hM⟩ := h.op (xs := xs) (cs := cs) (w := w) (enc := enc) (fuel := n) (by omega) (by rw [hl, hc, Nat.zero_add]) (by simpa using hxl) (fun i f hf' => hel i f (by simpa using hf')) (fun m hm => hw m (by
    unfold DataW.weights
    rw [hu]
    exact hm))
  refine ⟨a, by simpa using hk, hwf, ?_⟩
  simp only [Rows.uptoBulk]
  omega⟩
/-- A row's argument that is read whole: at whatever fuel. -/
theorem open_argB {H : Type} {enc : TypeId × Value → H} {W : World} {v : Value} {x : DataW H} {p : List MemPlace} {ts : List TypeId} {ds : List (DataW H)} {j : Nat} (ho : ∀ n, OpensB P (n + N) t d Wf M)
    (h : DataW.Trod enc P W 0 (fun _ => true) true t v x p) (hsz : (DataW.weightsEach P ts ds).all (· ≤ reachBytes) = true) (ht : ts[j]? = some t) (hd : ds[j]? = some x) : ∃ a : α, d.K W a v.cells.toList ∧ Wf a ∧ M a ≤ Rows.uptoBulk x := by
  obtain ⟨fuel, hf⟩ := h
  refine (ho fuel).op (by omega) hf (fun n hn => ?_)
  have := List.all_eq_true.1 hsz n (DataW.weights_mem_each ht hd n hn)
  simpa using this
end
/-- How many zones there are, as a Nat. -/
theorem cnt_sum (l : List Zn) : cnt l = (l.map fun z => (cnt [z]).toNat).sum := by
  induction l with
  | nil => simp [cnt]
  | cons z l ih =>
    have c1 := cnt_nonneg [z]
    rw [List.map_cons, List.sum_cons, cnt, ih]
    have : cnt [z] = cnt z.f7 + 1 := by
      rw [cnt]
      simp [cnt]
    omega
theorem zone_opens : ∀ N, OpensB Try.prog N 62 k62 (fun _ => True) (fun z => (cnt [z]).toNat)
  | 0 => ⟨by kernel_rfl, fun {H enc w fuel cs x} hf hx _ => by
    obtain rfl : fuel = 0 := by omega
    simp [DataW.trod] at hx⟩
  | N + 1 => ⟨by kernel_rfl, fun {H enc w fuel cs x} hf hx hw => by
    have hi : OpensB Try.prog N 3 (Kd.int .i64) (fun n => (Lit.int .i64 n).wf = true) (fun _ => 1) := b_one (o_int Try.underlying3 (by kernel_rfl))
    have hk : OpensB Try.prog N 23 (Kd.slice 62 k62) (fun _ => True) (fun l => (l.map fun z => (cnt [z]).toNat).sum) := by
      cases N with
      | zero => exact ⟨by kernel_rfl, fun {H enc w fuel cs x} hf hx _ => by
          obtain rfl : fuel = 0 := by omega
          simp [DataW.trod] at hx⟩
      | succ N =>
        have h := b_slice (B := 80) Try.underlying23 (by kernel_rfl) (zone_opens N) (by kernel_rfl)
        exact ⟨h.sz, fun hf hx hw => by
          obtain ⟨a, h1, _, h3⟩ := h.op hf hx hw
          exact ⟨a, h1, trivial, h3⟩⟩
    have hs := b_struct (t := 62) (d := Kd.pair (Kd.int .i64) (Kd.pair (Kd.int .i64) (Kd.pair (Kd.int .i64) (Kd.pair (Kd.int .i64) (Kd.pair (Kd.int .i64) (Kd.pair (Kd.int .i64) (Kd.pair (Kd.int .i64) (Kd.slice 62 k62)))))))) Try.underlying62 (by kernel_rfl) (fb_cons rfl hi (fb_cons rfl hi (fb_cons rfl hi (fb_cons rfl hi (fb_cons rfl hi (fb_cons rfl hi (fb_cons rfl hi (fb_one rfl hk))))))))
    obtain ⟨⟨x0, x1, x2, x3, x4, x5, x6, l⟩, ⟨_, _, hcs, rfl, ⟨_, _, rfl, rfl, ⟨_, _, rfl, rfl, ⟨_, _, rfl, rfl, ⟨_, _, rfl, rfl, ⟨_, _, rfl, rfl, ⟨_, _, rfl, rfl, ⟨A, c, rfl, hl, hC⟩⟩⟩⟩⟩⟩⟩⟩, hwf, hM⟩ := hs.op hf hx hw
    refine ⟨⟨x0, x1, x2, x3, x4, x5, x6, l⟩, ?_, trivial, ?_⟩
    · rw [hcs]
      exact k62_mk w ⟨x0, x1, x2, x3, x4, x5, x6, l⟩ hl hC
    · have : cnt [(⟨x0, x1, x2, x3, x4, x5, x6, l⟩ : Zn)] = cnt l + 1 := by
        rw [cnt]
        simp [cnt]
      rw [this]
      have h2 := cnt_sum l
      simp only at hM
      omega⟩
theorem zones_opens (N : Nat) : OpensB Try.prog (N + 1) 23 (Kd.slice 62 k62) (fun l => l.length * 80 ≤ 140737488351232) (fun l => (l.map fun z => (cnt [z]).toNat).sum) := by
  have h := b_slice (B := 80) Try.underlying23 (by kernel_rfl) (zone_opens N) (by kernel_rfl)
  exact ⟨h.sz, fun hf hx hw => by
    obtain ⟨a, h1, h2, h3⟩ := h.op hf hx hw
    exact ⟨a, h1, h2.1, h3⟩⟩
theorem hidden_opens (N : Nat) : OpensB Try.prog (N + 3) 25 (Kd.pair (Kd.slice 5 (Kd.int .u8)) (Kd.slice 62 k62)) (fun x => (x.1.length * 1 ≤ 140737488351232 ∧ ∀ y ∈ x.1, (Lit.int .u8 y).wf = true) ∧ x.2.length * 80 ≤ 140737488351232) (fun x => (x.1.map fun _ => 1).sum + (x.2.map fun z => (cnt [z]).toNat).sum + 1) := by
  have h1 := b_slice (B := 1) (N := N + 1) Try.underlying22 (by kernel_rfl) (b_one (o_int Try.underlying5 (by kernel_rfl))) (by kernel_rfl)
  have h := b_struct (P := Try.prog) (N := N + 2) (t := 25) (d := Kd.pair (Kd.slice 5 (Kd.int .u8)) (Kd.slice 62 k62)) Try.underlying25 (by kernel_rfl) (fb_cons rfl h1 (fb_one rfl (zones_opens (N + 1))))
  exact h
end Go.Proofs.Ytgcdhikmdbjfeaa.Opz
namespace Go.Proofs.Ytgcdhikmdbjfeaa.Csh
open Go
variable {H : Type} {enc : TypeId × Value → H}
/-- A row with a condition of the specification's own; the contract is handed the reach and the world's shape. -/
theorem handed_cond_shaped {a : Assume} {C : Checked} {os : Os} {f : FuncId} {fn : Func} {s : OpenSpec} {k : (H : Type) → List (DataW H) → Bool} (hk : s.cond = some k) {F : Stop.Interp} {conds : List PathCond} {apart fresh handsOn again : Bool}
    (own : ownKnob C.prog.godebug = none) (started : os.Started) (noInit : C.prog.inits.idxOf? f = none) (hfn : C.prog.funcs[f]? = some fn)
    (witness : ∃ (w : World) (tape : Tape) (i : Input), w.os = os ∧ (w.forCall tape i).Shaped C.prog ∧ i.vars = [] ∧ Input.okWide C.prog (w.forCall tape i) .any w.heap.size f i ∧
      s.pre6 enc C.prog fn conds apart (w.forCall tape i).memory i.args ∧ a.holds C.prog (lone (Frame.enter C.prog f i.args .normal) [] (w.forCall tape i)))
    (contract : ∀ (W : World) (base : Nat) (args : Array Value) (ds gs : List (DataW H)) (before : List MemPlace),
      (∀ (j : Nat) t v, fn.params[j]? = some t → args[j]? = some v → Value.okWide C.prog W .any base t v) →
      DataW.Whole enc C.prog fn.params.toList s.vars apart W args.toList ds gs before →
      conds.all (PathCond.test C.prog ⟨fn.params.toList, ds, s.bare.plain.varTypes C.prog, gs⟩) = true → k H (ds ++ gs) = true →
      (DataW.weightsEach C.prog (fn.params.toList ++ s.bare.plain.varTypes C.prog) (ds ++ gs)).all (· ≤ reachBytes) = true → W.ShapedOpen C.prog →
      a.holds C.prog (lone (Frame.enter C.prog f args .normal) [] W) →
      Calls C.prog f args W fun e W' => ∃ v, e = .returned v ∧ (s.at F).post enc C.prog fn apart fresh handsOn again W args v W') :
    ReturnsInHanded a C os f .any (s.pre6 enc C.prog fn conds apart) ((s.at F).post enc C.prog fn apart fresh handsOn again) := by
  refine returnsInHanded_of_calls own started noInit witness ?_
  intro w tape i _ hsh _ hok hpre hholds
  obtain ⟨_, _, _, fn', hfn', _, _, _, _, hval⟩ := hok
  have e : fn' = fn := Option.some.inj (hfn'.symm.trans hfn)
  subst e
  obtain ⟨ds, gs, before, hw, hc, hkk⟩ := (OpenSpec.pre_some hk conds apart _ _).1 hpre.1
  have hw' := DataW.Whole.of_heap (w' := w.forCall tape i) (by rfl) hw
  refine (contract (w.forCall tape i) w.heap.size i.args ds gs before hval hw' hc hkk (hpre.2.weights hw) hsh hholds).mono fun e W' ⟨v, he, hp⟩ => ?_
  subst he
  exact ChangeSpec.post_blind hp
end Go.Proofs.Ytgcdhikmdbjfeaa.Csh
