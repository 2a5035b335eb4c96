import Derived.Test.YtnadgcdkcabdoaaMPrefixComplete1
import Derived.Test.YtnadgcdkcabdoaaMPrefixComplete4
import Derived.Test.YtnadgcdkcabdoaaMPrefixComplete0
import Derived.SizedLaws
import Derived.ChangeSlices
import Derived.ChangeArms
import Derived.Test.YtnadgcdkcabdoaaMPrefixComplete2
set_option linter.unusedVariables false
set_option linter.unusedSimpArgs false
namespace Go.Proofs.Ytnadgcdkcabdoaa.U
open Go.RowKit Go.Proofs.YtnadgcdkcabdoaaW.PrintWords Go.Proofs.YtnadgcdkcabdoaaW.PrintLast Go.Proofs.YtnadgcdkcabdoaaW.PrintMore
attribute [local go_sem] max2_int min2_int max_two min_two max_three min_three max_four min_four   -- for this text's walks alone
def incunablelaw04_PrefixComplete.j0 : Nat → List (S32) → List Int → Int → Bool → Option (Bool)
  | 0, _, _, _, _ => none
  | k + 1, x0, x1, x2, x25 => if x25 = true then ((incunablelaw04_Awake.f k).bind fun t593 => (some t593)) else ((prefix_Decode.f x0 x1 x2).bind fun bt594 => (if bt594.2.2 = 6 then (if (bt594.1.length : Int) = 0 then ((incunablelaw04_Awake.f k).bind fun t599 => (some t599)) else (if bt594.2.2 = 0 then (if (bt594.1.length : Int) = x2 then (if bt594.2.1 ≤ (wrap64 (8 * (x1.length : Int))) then ((incunablelaw04_Awake.f k).bind fun t600 => (some t600)) else (some false)) else (some false)) else (some false))) else (if bt594.2.2 = 0 then (if (bt594.1.length : Int) = x2 then (if bt594.2.1 ≤ (wrap64 (8 * (x1.length : Int))) then ((incunablelaw04_Awake.f k).bind fun t601 => (some t601)) else (some false)) else (some false)) else (some false))))
def incunablelaw04_PrefixComplete.f (k : Nat) (l0 : List (S32)) (l1 : List Int) (a2 : Int) : Option (Bool) := (incunableref04_Valid.f k l0).bind fun t591 => (if t591 = true then ((incunableref04_Complete.f k l0).bind fun t592 => (if t592 = true then (if a2 < 0 then (incunablelaw04_PrefixComplete.j0 k l0 l1 a2 true) else (incunablelaw04_PrefixComplete.j0 k l0 l1 a2 (decide (a2 > 2000)))) else (incunablelaw04_PrefixComplete.j0 k l0 l1 a2 true))) else (incunablelaw04_PrefixComplete.j0 k l0 l1 a2 true))
theorem incunablelaw04_PrefixComplete.mono_l : ∀ k, (∀ y0 y1 y2 y3, LeO (incunablelaw04_PrefixComplete.j0 k y0 y1 y2 y3) (incunablelaw04_PrefixComplete.j0 (k + 1) y0 y1 y2 y3))
  | 0 => fun _ _ _ _ r h => by simp [incunablelaw04_PrefixComplete.j0] at h
  | k + 1 => by
    have ih0 := incunablelaw04_PrefixComplete.mono_l k
    · intro y0 y1 y2 y3
      unfold incunablelaw04_PrefixComplete.j0
      repeat' first
      | (with_reducible exact ih0 _ _ _ _)
      | (with_reducible exact incunablelaw04_Awake.mono _)
      | (with_reducible exact incunableref04_Complete.mono _ _)
      | (with_reducible exact incunableref04_Valid.mono _ _)
      | (with_reducible exact LeO.refl _)
      | (with_reducible exact LeO.none _)
      | (with_reducible refine LeO.ite ?_ ?_)
      | (with_reducible refine LeO.bind ?_ (fun _ => ?_))
      | exact ih0 _ _ _ _
      | exact incunablelaw04_Awake.mono _
      | exact incunableref04_Complete.mono _ _
      | exact incunableref04_Valid.mono _ _
      | exact LeO.none _
      | refine LeO.ite ?_ ?_
      | refine LeO.bind ?_ (fun _ => ?_)
theorem incunablelaw04_PrefixComplete.mono : ∀ a0 a1 a2 k, LeO (incunablelaw04_PrefixComplete.f k a0 a1 a2) (incunablelaw04_PrefixComplete.f (k + 1) a0 a1 a2) := by
 intro a0 a1 a2 k; have ih0 := incunablelaw04_PrefixComplete.mono_l k; unfold incunablelaw04_PrefixComplete.f
 repeat' first
  | (with_reducible exact ih0 _ _ _ _)
  | (with_reducible exact incunablelaw04_Awake.mono _)
  | (with_reducible exact incunableref04_Complete.mono _ _)
  | (with_reducible exact incunableref04_Valid.mono _ _)
  | (with_reducible exact LeO.refl _)
  | (with_reducible exact LeO.none _)
  | (with_reducible refine LeO.ite ?_ ?_)
  | (with_reducible refine LeO.bind ?_ (fun _ => ?_))
  | exact ih0 _ _ _ _
  | exact incunablelaw04_Awake.mono _
  | exact incunableref04_Complete.mono _ _
  | exact incunableref04_Valid.mono _ _
  | exact LeO.none _
  | refine LeO.ite ?_ ?_
  | refine LeO.bind ?_ (fun _ => ?_)
set_option maxHeartbeats 8000000 in
set_option maxRecDepth 100000 in
theorem incunablelaw04_PrefixComplete.calls (k : Nat) (A0 : Option Addr) (c0 : Nat) (l0 : List (S32)) (A1 : Option Addr) (c1 : Nat) (l1 : List Int) (a2 : Int) (r : Bool) (w : World) (hr0 : Kd.C k32 w A0 l0.length l0) (hc0 : l0.length ≤ c0) (hr1 : Kd.C (Kd.int .u8) w A1 l1.length l1) (hc1 : l1.length ≤ c1) (h : incunablelaw04_PrefixComplete.f k l0 l1 a2 = some r) :
    Calls Try.prog 11 #[.slice A0 l0.length c0, .slice A1 l1.length c1, .int .i64 a2] w fun e w' => e = .returned (.bool r) ∧ Below w.heap.size w w' := by
 have HR0 := Aside0.mk hr0; have HC0 := Aside0.mk hc0; clear hr0 hc0; have HR1 := Aside0.mk hr1; have HC1 := Aside0.mk hc1; clear hr1 hc1; have HB := Aside0.mk (Below.refl w.heap.size w); have H : ((incunableref04_Valid.f k l0).bind fun t591 => (if t591 = true then ((incunableref04_Complete.f k l0).bind fun t592 => (if t592 = true then (if a2 < 0 then (incunablelaw04_PrefixComplete.j0 k l0 l1 a2 true) else (incunablelaw04_PrefixComplete.j0 k l0 l1 a2 (decide (a2 > 2000)))) else (incunablelaw04_PrefixComplete.j0 k l0 l1 a2 true))) else (incunablelaw04_PrefixComplete.j0 k l0 l1 a2 true))) = some r := h; clear h; have HC4 := Aside0.mk H; clear H; go_enter Try.func11, Try.ntmps11; go_upto_region 1 with (fail); go_cut [25] (fun v25 wc => ∃ (kq : Nat) (x25_3 : Bool), v25 = .bool x25_3 ∧ Aside0 (incunablelaw04_PrefixComplete.j0 kq l0 l1 a2 x25_3 = some r) ∧ Aside0 (kq ≤ k) ∧ Aside0 (Below w.heap.size w wc))
 (case first => have H := HC4.out; clear HC4; replace H := Option.bind_eq_some_iff.mp H; obtain ⟨t591, A50, H⟩ := H; replace H : (if t591 = true then ((incunableref04_Complete.f k l0).bind fun t592 => (if t592 = true then (if a2 < 0 then (incunablelaw04_PrefixComplete.j0 k l0 l1 a2 true) else (incunablelaw04_PrefixComplete.j0 k l0 l1 a2 (decide (a2 > 2000)))) else (incunablelaw04_PrefixComplete.j0 k l0 l1 a2 true))) else (incunablelaw04_PrefixComplete.j0 k l0 l1 a2 true)) = some r := H; have A5 := Aside0.mk A50; clear A50; by_cases c6 : t591 = true; (· subst c6; (have H1 : ((incunableref04_Complete.f k l0).bind fun t592 => (if t592 = true then (if a2 < 0 then (incunablelaw04_PrefixComplete.j0 k l0 l1 a2 true) else (incunablelaw04_PrefixComplete.j0 k l0 l1 a2 (decide (a2 > 2000)))) else (incunablelaw04_PrefixComplete.j0 k l0 l1 a2 true))) = some r := by rw [if_pos rfl] at H; exact H); clear H; have H := H1; clear H1; replace H := Option.bind_eq_some_iff.mp H; obtain ⟨t592, A70, H⟩ := H; replace H : (if t592 = true then (if a2 < 0 then (incunablelaw04_PrefixComplete.j0 k l0 l1 a2 true) else (incunablelaw04_PrefixComplete.j0 k l0 l1 a2 (decide (a2 > 2000)))) else (incunablelaw04_PrefixComplete.j0 k l0 l1 a2 true)) = some r := H; have A7 := Aside0.mk A70; clear A70; by_cases c8 : t592 = true; (· subst c8; (have H1 : (if a2 < 0 then (incunablelaw04_PrefixComplete.j0 k l0 l1 a2 true) else (incunablelaw04_PrefixComplete.j0 k l0 l1 a2 (decide (a2 > 2000)))) = some r := by rw [if_pos rfl] at H; exact H); clear H; have H := H1; clear H1; by_cases c9 : a2 < 0; (· rw [if_pos c9] at H; have c9b0 : decide (a2 < 0) = true := decide_eq_true c9; clear c9; (first | rw [c9b0] | (simp only [i64_w, i32_w]; rw [c9b0]) | skip); have H' := Aside0.mk H; clear H; go_wp2_with (first | ((with_reducible refine gate_callee (f := 20) rfl ?_); refine goesL_ (some 11) rfl rfl Try.func20 (by kernel_rfl) rfl #[.slice A0 l0.length c0] rfl (by (try simp only [List.map_toArray, List.map_cons, List.map_nil]); first | done | rfl | (simp only [List.length_drop, List.length_take]; rfl)) ?_; (with_reducible refine (incunableref04_Valid.calls k _ _ l0 true _ ?side1 ?side2 A5.out).mono ?_); (case side1 => repeat (first | exact (Kd.C_below HR0.out HB.out) | (with_reducible refine Kd.C_alloc ?_ _) | (with_reducible refine Kd.C_drewN ?_ _) | (with_reducible refine Kd.C_drew ?_))); (case side2 => exact HC0.out); rintro e w10 ⟨rfl, hb⟩; refine ⟨_, rfl, ?_⟩; have n0_ := Aside0.mk (below_step (by repeat (first | (with_reducible first | exact HB.out | apply below_alloc | apply pw_below_drewN | apply below_drew1) | exact HB.out)) hb); clear HB; have HB := n0_; clear n0_; (try clear hb); (try clear hb2); (try clear hk); (try clear hi)) | (go_at_call 21; (with_reducible refine (incunableref04_Complete.calls k _ _ l0 true _ ?side1 ?side2 A7.out).mono ?_); (case side1 => repeat (first | exact (Kd.C_below HR0.out HB.out) | (with_reducible refine Kd.C_alloc ?_ _) | (with_reducible refine Kd.C_drewN ?_ _) | (with_reducible refine Kd.C_drew ?_))); (case side2 => exact HC0.out); rintro e w11 ⟨rfl, hb⟩; have n0_ := Aside0.mk (below_step (by repeat (first | (with_reducible first | exact HB.out | apply below_alloc | apply pw_below_drewN | apply below_drew1) | exact HB.out)) hb); clear HB; have HB := n0_; clear n0_; (try clear hb); (try clear hb2); (try clear hk); (try clear hi))); go_meet; (case rel => exact ⟨_, (true), (by first | rfl | (simp; done) | (simp [*]; done)), H', ⟨by first | omega | exact Nat.le_refl _⟩, ⟨by repeat (first | (with_reducible first | exact HB.out | apply below_alloc | apply pw_below_drewN | apply below_drew1) | exact HB.out)⟩⟩)); (· rw [if_neg c9] at H; have c9b0 : decide (a2 < 0) = false := decide_eq_false c9; clear c9; (first | rw [c9b0] | (simp only [i64_w, i32_w]; rw [c9b0]) | skip); have H' := Aside0.mk H; clear H; go_wp2_with (first | ((with_reducible refine gate_callee (f := 20) rfl ?_); refine goesL_ (some 11) rfl rfl Try.func20 (by kernel_rfl) rfl #[.slice A0 l0.length c0] rfl (by (try simp only [List.map_toArray, List.map_cons, List.map_nil]); first | done | rfl | (simp only [List.length_drop, List.length_take]; rfl)) ?_; (with_reducible refine (incunableref04_Valid.calls k _ _ l0 true _ ?side1 ?side2 A5.out).mono ?_); (case side1 => repeat (first | exact (Kd.C_below HR0.out HB.out) | (with_reducible refine Kd.C_alloc ?_ _) | (with_reducible refine Kd.C_drewN ?_ _) | (with_reducible refine Kd.C_drew ?_))); (case side2 => exact HC0.out); rintro e w12 ⟨rfl, hb⟩; refine ⟨_, rfl, ?_⟩; have n0_ := Aside0.mk (below_step (by repeat (first | (with_reducible first | exact HB.out | apply below_alloc | apply pw_below_drewN | apply below_drew1) | exact HB.out)) hb); clear HB; have HB := n0_; clear n0_; (try clear hb); (try clear hb2); (try clear hk); (try clear hi)) | (go_at_call 21; (with_reducible refine (incunableref04_Complete.calls k _ _ l0 true _ ?side1 ?side2 A7.out).mono ?_); (case side1 => repeat (first | exact (Kd.C_below HR0.out HB.out) | (with_reducible refine Kd.C_alloc ?_ _) | (with_reducible refine Kd.C_drewN ?_ _) | (with_reducible refine Kd.C_drew ?_))); (case side2 => exact HC0.out); rintro e w13 ⟨rfl, hb⟩; have n0_ := Aside0.mk (below_step (by repeat (first | (with_reducible first | exact HB.out | apply below_alloc | apply pw_below_drewN | apply below_drew1) | exact HB.out)) hb); clear HB; have HB := n0_; clear n0_; (try clear hb); (try clear hb2); (try clear hk); (try clear hi))); go_meet; (case rel => exact ⟨_, (decide (a2 > 2000)), (by first | rfl | (simp; done) | (simp [*]; done)), H', ⟨by first | omega | exact Nat.le_refl _⟩, ⟨by repeat (first | (with_reducible first | exact HB.out | apply below_alloc | apply pw_below_drewN | apply below_drew1) | exact HB.out)⟩⟩))); (· replace c8 := Bool.eq_false_iff.mpr c8; subst c8; (have H1 : (incunablelaw04_PrefixComplete.j0 k l0 l1 a2 true) = some r := by rw [if_neg (show ¬ (false = true) by decide)] at H; exact H); clear H; have H := H1; clear H1; have H' := Aside0.mk H; clear H; go_wp2_with (first | ((with_reducible refine gate_callee (f := 20) rfl ?_); refine goesL_ (some 11) rfl rfl Try.func20 (by kernel_rfl) rfl #[.slice A0 l0.length c0] rfl (by (try simp only [List.map_toArray, List.map_cons, List.map_nil]); first | done | rfl | (simp only [List.length_drop, List.length_take]; rfl)) ?_; (with_reducible refine (incunableref04_Valid.calls k _ _ l0 true _ ?side1 ?side2 A5.out).mono ?_); (case side1 => repeat (first | exact (Kd.C_below HR0.out HB.out) | (with_reducible refine Kd.C_alloc ?_ _) | (with_reducible refine Kd.C_drewN ?_ _) | (with_reducible refine Kd.C_drew ?_))); (case side2 => exact HC0.out); rintro e w14 ⟨rfl, hb⟩; refine ⟨_, rfl, ?_⟩; have n0_ := Aside0.mk (below_step (by repeat (first | (with_reducible first | exact HB.out | apply below_alloc | apply pw_below_drewN | apply below_drew1) | exact HB.out)) hb); clear HB; have HB := n0_; clear n0_; (try clear hb); (try clear hb2); (try clear hk); (try clear hi)) | (go_at_call 21; (with_reducible refine (incunableref04_Complete.calls k _ _ l0 false _ ?side1 ?side2 A7.out).mono ?_); (case side1 => repeat (first | exact (Kd.C_below HR0.out HB.out) | (with_reducible refine Kd.C_alloc ?_ _) | (with_reducible refine Kd.C_drewN ?_ _) | (with_reducible refine Kd.C_drew ?_))); (case side2 => exact HC0.out); rintro e w15 ⟨rfl, hb⟩; have n0_ := Aside0.mk (below_step (by repeat (first | (with_reducible first | exact HB.out | apply below_alloc | apply pw_below_drewN | apply below_drew1) | exact HB.out)) hb); clear HB; have HB := n0_; clear n0_; (try clear hb); (try clear hb2); (try clear hk); (try clear hi))); go_meet; (case rel => exact ⟨_, (true), (by first | rfl | (simp; done) | (simp [*]; done)), H', ⟨by first | omega | exact Nat.le_refl _⟩, ⟨by repeat (first | (with_reducible first | exact HB.out | apply below_alloc | apply pw_below_drewN | apply below_drew1) | exact HB.out)⟩⟩))); (· replace c6 := Bool.eq_false_iff.mpr c6; subst c6; (have H1 : (incunablelaw04_PrefixComplete.j0 k l0 l1 a2 true) = some r := by rw [if_neg (show ¬ (false = true) by decide)] at H; exact H); clear H; have H := H1; clear H1; have H' := Aside0.mk H; clear H; go_wp2_with (first | ((with_reducible refine gate_callee (f := 20) rfl ?_); refine goesL_ (some 11) rfl rfl Try.func20 (by kernel_rfl) rfl #[.slice A0 l0.length c0] rfl (by (try simp only [List.map_toArray, List.map_cons, List.map_nil]); first | done | rfl | (simp only [List.length_drop, List.length_take]; rfl)) ?_; (with_reducible refine (incunableref04_Valid.calls k _ _ l0 false _ ?side1 ?side2 A5.out).mono ?_); (case side1 => repeat (first | exact (Kd.C_below HR0.out HB.out) | (with_reducible refine Kd.C_alloc ?_ _) | (with_reducible refine Kd.C_drewN ?_ _) | (with_reducible refine Kd.C_drew ?_))); (case side2 => exact HC0.out); rintro e w16 ⟨rfl, hb⟩; refine ⟨_, rfl, ?_⟩; have n0_ := Aside0.mk (below_step (by repeat (first | (with_reducible first | exact HB.out | apply below_alloc | apply pw_below_drewN | apply below_drew1) | exact HB.out)) hb); clear HB; have HB := n0_; clear n0_; (try clear hb); (try clear hb2); (try clear hk); (try clear hi))); go_meet; (case rel => exact ⟨_, (true), (by first | rfl | (simp; done) | (simp [*]; done)), H', ⟨by first | omega | exact Nat.le_refl _⟩, ⟨by repeat (first | (with_reducible first | exact HB.out | apply below_alloc | apply pw_below_drewN | apply below_drew1) | exact HB.out)⟩⟩)))
 case rest =>
  clear HC4; (try clear c1); (try clear c2); (try clear p2); (try clear c6); (try clear c8); (try clear c9); (try clear c9b0); (try clear c11); obtain ⟨kq, x25_3, rfl, HA, HJ3, HB⟩ := hcut
  cases kq with
  | zero => exact absurd HA.out (by simp [incunablelaw04_PrefixComplete.j0])
  | succ kj3 =>
   have H := HA.out; clear HA; simp only [incunablelaw04_PrefixComplete.j0] at H; by_cases c17 : x25_3 = true; (· subst c17; (have H1 : ((incunablelaw04_Awake.f kj3).bind fun t593 => (some t593)) = some r := by rw [if_pos rfl] at H; exact H); clear H; have H := H1; clear H1; replace H := Option.bind_eq_some_iff.mp H; obtain ⟨t593, A180, H⟩ := H; replace H : (some t593) = some r := H; have A18 := Aside0.mk A180; clear A180; obtain rfl := Option.some.inj H; go_wp2_with (first | ((with_reducible refine gate_callee (f := 19) rfl ?_); refine goesL_ (some 26) rfl rfl Try.func19 (by kernel_rfl) rfl #[] rfl (by (try simp only [List.map_toArray, List.map_cons, List.map_nil]); first | done | rfl | (simp only [List.length_drop, List.length_take]; rfl)) ?_; (with_reducible refine (incunablelaw04_Awake.calls kj3  t593 _ A18.out).mono ?_); rintro e w19 ⟨rfl, hb⟩; refine ⟨_, rfl, ?_⟩; have n0_ := Aside0.mk (below_step (by repeat (first | (with_reducible first | exact HB.out | apply below_alloc | apply pw_below_drewN | apply below_drew1) | exact HB.out)) hb); clear HB; have HB := n0_; clear n0_; (try clear hb); (try clear hb2); (try clear hk); (try clear hi))); go_ret; (exact ⟨by first | rfl | (simp [errW_none, errW_some] <;> rfl) | (simp [*, errW_none, errW_some] <;> rfl), by repeat (first | (with_reducible first | exact HB.out | apply below_alloc | apply pw_below_drewN | apply below_drew1) | exact HB.out)⟩))
   (· replace c17 := Bool.eq_false_iff.mpr c17; subst c17; (have H1 : ((prefix_Decode.f l0 l1 a2).bind fun bt594 => (if bt594.2.2 = 6 then (if (bt594.1.length : Int) = 0 then ((incunablelaw04_Awake.f kj3).bind fun t599 => (some t599)) else (if bt594.2.2 = 0 then (if (bt594.1.length : Int) = a2 then (if bt594.2.1 ≤ (wrap64 (8 * (l1.length : Int))) then ((incunablelaw04_Awake.f kj3).bind fun t600 => (some t600)) else (some false)) else (some false)) else (some false))) else (if bt594.2.2 = 0 then (if (bt594.1.length : Int) = a2 then (if bt594.2.1 ≤ (wrap64 (8 * (l1.length : Int))) then ((incunablelaw04_Awake.f kj3).bind fun t601 => (some t601)) else (some false)) else (some false)) else (some false)))) = some r := by rw [if_neg (show ¬ (false = true) by decide)] at H; exact H); clear H; have H := H1; clear H1; replace H := Option.bind_eq_some_iff.mp H; obtain ⟨⟨t594, t595, t596⟩, A200, H⟩ := H; replace H : (if t596 = 6 then (if (t594.length : Int) = 0 then ((incunablelaw04_Awake.f kj3).bind fun t599 => (some t599)) else (if t596 = 0 then (if (t594.length : Int) = a2 then (if t595 ≤ (wrap64 (8 * (l1.length : Int))) then ((incunablelaw04_Awake.f kj3).bind fun t600 => (some t600)) else (some false)) else (some false)) else (some false))) else (if t596 = 0 then (if (t594.length : Int) = a2 then (if t595 ≤ (wrap64 (8 * (l1.length : Int))) then ((incunablelaw04_Awake.f kj3).bind fun t601 => (some t601)) else (some false)) else (some false)) else (some false))) = some r := H; have A20 := Aside0.mk A200; clear A200; by_cases c21 : t596 = 6; (· rw [if_pos c21] at H; have c21b0 : (t596 == 6) = true := beq_iff_eq.mpr c21; have c21b1 : (t596 != 6) = false := bne_eq_false_iff_eq.mpr c21; clear c21; by_cases c22 : (t594.length : Int) = 0; (· rw [if_pos c22] at H; have c22b0 : ((t594.length : Int) == 0) = true := beq_iff_eq.mpr c22; have c22b1 : ((t594.length : Int) != 0) = false := bne_eq_false_iff_eq.mpr c22; clear c22; replace H := Option.bind_eq_some_iff.mp H; obtain ⟨t599, A230, H⟩ := H; replace H : (some t599) = some r := H; have A23 := Aside0.mk A230; clear A230; obtain rfl := Option.some.inj H; go_wp2_with (first | ((with_reducible refine gate_callee (f := 34) rfl ?_); refine goesL_ (some 31) rfl rfl Try.func34 (by kernel_rfl) rfl #[.slice A0 l0.length c0, .slice A1 l1.length c1, .int .i64 a2] rfl (by (try simp only [List.map_toArray, List.map_cons, List.map_nil]); first | done | rfl | (simp only [List.length_drop, List.length_take]; rfl)) ?_; (with_reducible refine (prefix_Decode.calls _ _ l0 _ _ l1 a2 t594 t595 t596 _ ?side1 ?side2 ?side3 ?side4 A20.out).mono ?_); (case side1 => repeat (first | exact (Kd.C_below HR0.out HB.out) | (with_reducible refine Kd.C_alloc ?_ _) | (with_reducible refine Kd.C_drewN ?_ _) | (with_reducible refine Kd.C_drew ?_))); (case side2 => exact HC0.out); (case side3 => repeat (first | exact (Kd.C_below HR1.out HB.out) | (with_reducible refine Kd.C_alloc ?_ _) | (with_reducible refine Kd.C_drewN ?_ _) | (with_reducible refine Kd.C_drew ?_))); (case side4 => exact HC1.out); rintro e w24 ⟨v597, rfl, ho0, hb⟩; refine ⟨_, rfl, ?_⟩; have n0_ := Aside0.mk (Kd.R_lower ho0 (below_size (by repeat (first | (with_reducible first | exact HB.out | apply below_alloc | apply pw_below_drewN | apply below_drew1) | exact HB.out)))); have n1_ := Aside0.mk (below_step (by repeat (first | (with_reducible first | exact HB.out | apply below_alloc | apply pw_below_drewN | apply below_drew1) | exact HB.out)) hb); clear HB; have HO598 := n0_; have HB := n1_; clear n0_ n1_; (try clear hb); (try clear hb2); (try clear hk); (try clear hi); (try clear ho0); obtain ⟨Ao25, co25, eo25⟩ := Kd.R_slice HO598.out; subst eo25) | (go_at_call 19; (with_reducible refine (incunablelaw04_Awake.calls kj3  t599 _ A23.out).mono ?_); rintro e w26 ⟨rfl, hb⟩; have n0_ := Aside0.mk (Kd.R_below (by (with_reducible repeat (first | apply Kd.R_alloc | apply Kd.R_drewN | apply Kd.R_drew)); exact HO598.out) hb); have n1_ := Aside0.mk (below_step (by repeat (first | (with_reducible first | exact HB.out | apply below_alloc | apply pw_below_drewN | apply below_drew1) | exact HB.out)) hb); clear HO598; clear HB; have HO598 := n0_; have HB := n1_; clear n0_ n1_; (try clear hb); (try clear hb2); (try clear hk); (try clear hi))); go_ret; (exact ⟨by first | rfl | (simp [errW_none, errW_some] <;> rfl) | (simp [*, errW_none, errW_some] <;> rfl), by repeat (first | (with_reducible first | exact HB.out | apply below_alloc | apply pw_below_drewN | apply below_drew1) | exact HB.out)⟩)); (· rw [if_neg c22] at H; have c22b0 : ((t594.length : Int) == 0) = false := beq_eq_false_iff_ne.mpr c22; have c22b1 : ((t594.length : Int) != 0) = true := bne_iff_ne.mpr c22; have c22b2 : ¬ (t594 = []) := fun h_ => c22 (by rw [h_]; rfl); by_cases c27 : t596 = 0; (· rw [if_pos c27] at H; have c27b0 : (t596 == 0) = true := beq_iff_eq.mpr c27; have c27b1 : (t596 != 0) = false := bne_eq_false_iff_eq.mpr c27; clear c27; by_cases c28 : (t594.length : Int) = a2; (· rw [if_pos c28] at H; have c28b0 : ((t594.length : Int) == a2) = true := beq_iff_eq.mpr c28; have c28b1 : ((t594.length : Int) != a2) = false := bne_eq_false_iff_eq.mpr c28; clear c28; by_cases c29 : t595 ≤ (wrap64 (8 * (l1.length : Int))); (· rw [if_pos c29] at H; have c29b0 : decide (t595 ≤ (wrap64 (8 * (l1.length : Int)))) = true := decide_eq_true c29; clear c29; replace H := Option.bind_eq_some_iff.mp H; obtain ⟨t600, A300, H⟩ := H; replace H : (some t600) = some r := H; have A30 := Aside0.mk A300; clear A300; obtain rfl := Option.some.inj H; go_wp2_with (first | ((with_reducible refine gate_callee (f := 34) rfl ?_); refine goesL_ (some 31) rfl rfl Try.func34 (by kernel_rfl) rfl #[.slice A0 l0.length c0, .slice A1 l1.length c1, .int .i64 a2] rfl (by (try simp only [List.map_toArray, List.map_cons, List.map_nil]); first | done | rfl | (simp only [List.length_drop, List.length_take]; rfl)) ?_; (with_reducible refine (prefix_Decode.calls _ _ l0 _ _ l1 a2 t594 t595 t596 _ ?side1 ?side2 ?side3 ?side4 A20.out).mono ?_); (case side1 => repeat (first | exact (Kd.C_below HR0.out HB.out) | (with_reducible refine Kd.C_alloc ?_ _) | (with_reducible refine Kd.C_drewN ?_ _) | (with_reducible refine Kd.C_drew ?_))); (case side2 => exact HC0.out); (case side3 => repeat (first | exact (Kd.C_below HR1.out HB.out) | (with_reducible refine Kd.C_alloc ?_ _) | (with_reducible refine Kd.C_drewN ?_ _) | (with_reducible refine Kd.C_drew ?_))); (case side4 => exact HC1.out); rintro e w31 ⟨v597, rfl, ho0, hb⟩; refine ⟨_, rfl, ?_⟩; have n0_ := Aside0.mk (Kd.R_lower ho0 (below_size (by repeat (first | (with_reducible first | exact HB.out | apply below_alloc | apply pw_below_drewN | apply below_drew1) | exact HB.out)))); have n1_ := Aside0.mk (below_step (by repeat (first | (with_reducible first | exact HB.out | apply below_alloc | apply pw_below_drewN | apply below_drew1) | exact HB.out)) hb); clear HB; have HO598 := n0_; have HB := n1_; clear n0_ n1_; (try clear hb); (try clear hb2); (try clear hk); (try clear hi); (try clear ho0); obtain ⟨Ao32, co32, eo32⟩ := Kd.R_slice HO598.out; subst eo32) | (go_at_call 19; (with_reducible refine (incunablelaw04_Awake.calls kj3  t600 _ A30.out).mono ?_); rintro e w33 ⟨rfl, hb⟩; have n0_ := Aside0.mk (Kd.R_below (by (with_reducible repeat (first | apply Kd.R_alloc | apply Kd.R_drewN | apply Kd.R_drew)); exact HO598.out) hb); have n1_ := Aside0.mk (below_step (by repeat (first | (with_reducible first | exact HB.out | apply below_alloc | apply pw_below_drewN | apply below_drew1) | exact HB.out)) hb); clear HO598; clear HB; have HO598 := n0_; have HB := n1_; clear n0_ n1_; (try clear hb); (try clear hb2); (try clear hk); (try clear hi))); go_ret; (exact ⟨by first | rfl | (simp [errW_none, errW_some] <;> rfl) | (simp [*, errW_none, errW_some] <;> rfl), by repeat (first | (with_reducible first | exact HB.out | apply below_alloc | apply pw_below_drewN | apply below_drew1) | exact HB.out)⟩)); (· rw [if_neg c29] at H; have c29b0 : decide (t595 ≤ (wrap64 (8 * (l1.length : Int)))) = false := decide_eq_false c29; clear c29; obtain rfl := Option.some.inj H; go_wp2_with (first | ((with_reducible refine gate_callee (f := 34) rfl ?_); refine goesL_ (some 31) rfl rfl Try.func34 (by kernel_rfl) rfl #[.slice A0 l0.length c0, .slice A1 l1.length c1, .int .i64 a2] rfl (by (try simp only [List.map_toArray, List.map_cons, List.map_nil]); first | done | rfl | (simp only [List.length_drop, List.length_take]; rfl)) ?_; (with_reducible refine (prefix_Decode.calls _ _ l0 _ _ l1 a2 t594 t595 t596 _ ?side1 ?side2 ?side3 ?side4 A20.out).mono ?_); (case side1 => repeat (first | exact (Kd.C_below HR0.out HB.out) | (with_reducible refine Kd.C_alloc ?_ _) | (with_reducible refine Kd.C_drewN ?_ _) | (with_reducible refine Kd.C_drew ?_))); (case side2 => exact HC0.out); (case side3 => repeat (first | exact (Kd.C_below HR1.out HB.out) | (with_reducible refine Kd.C_alloc ?_ _) | (with_reducible refine Kd.C_drewN ?_ _) | (with_reducible refine Kd.C_drew ?_))); (case side4 => exact HC1.out); rintro e w34 ⟨v597, rfl, ho0, hb⟩; refine ⟨_, rfl, ?_⟩; have n0_ := Aside0.mk (Kd.R_lower ho0 (below_size (by repeat (first | (with_reducible first | exact HB.out | apply below_alloc | apply pw_below_drewN | apply below_drew1) | exact HB.out)))); have n1_ := Aside0.mk (below_step (by repeat (first | (with_reducible first | exact HB.out | apply below_alloc | apply pw_below_drewN | apply below_drew1) | exact HB.out)) hb); clear HB; have HO598 := n0_; have HB := n1_; clear n0_ n1_; (try clear hb); (try clear hb2); (try clear hk); (try clear hi); (try clear ho0); obtain ⟨Ao35, co35, eo35⟩ := Kd.R_slice HO598.out; subst eo35)); go_ret; (exact ⟨by first | rfl | (simp [errW_none, errW_some] <;> rfl) | (simp [*, errW_none, errW_some] <;> rfl), by repeat (first | (with_reducible first | exact HB.out | apply below_alloc | apply pw_below_drewN | apply below_drew1) | exact HB.out)⟩))); (· rw [if_neg c28] at H; have c28b0 : ((t594.length : Int) == a2) = false := beq_eq_false_iff_ne.mpr c28; have c28b1 : ((t594.length : Int) != a2) = true := bne_iff_ne.mpr c28; obtain rfl := Option.some.inj H; go_wp2_with (first | ((with_reducible refine gate_callee (f := 34) rfl ?_); refine goesL_ (some 31) rfl rfl Try.func34 (by kernel_rfl) rfl #[.slice A0 l0.length c0, .slice A1 l1.length c1, .int .i64 a2] rfl (by (try simp only [List.map_toArray, List.map_cons, List.map_nil]); first | done | rfl | (simp only [List.length_drop, List.length_take]; rfl)) ?_; (with_reducible refine (prefix_Decode.calls _ _ l0 _ _ l1 a2 t594 t595 t596 _ ?side1 ?side2 ?side3 ?side4 A20.out).mono ?_); (case side1 => repeat (first | exact (Kd.C_below HR0.out HB.out) | (with_reducible refine Kd.C_alloc ?_ _) | (with_reducible refine Kd.C_drewN ?_ _) | (with_reducible refine Kd.C_drew ?_))); (case side2 => exact HC0.out); (case side3 => repeat (first | exact (Kd.C_below HR1.out HB.out) | (with_reducible refine Kd.C_alloc ?_ _) | (with_reducible refine Kd.C_drewN ?_ _) | (with_reducible refine Kd.C_drew ?_))); (case side4 => exact HC1.out); rintro e w36 ⟨v597, rfl, ho0, hb⟩; refine ⟨_, rfl, ?_⟩; have n0_ := Aside0.mk (Kd.R_lower ho0 (below_size (by repeat (first | (with_reducible first | exact HB.out | apply below_alloc | apply pw_below_drewN | apply below_drew1) | exact HB.out)))); have n1_ := Aside0.mk (below_step (by repeat (first | (with_reducible first | exact HB.out | apply below_alloc | apply pw_below_drewN | apply below_drew1) | exact HB.out)) hb); clear HB; have HO598 := n0_; have HB := n1_; clear n0_ n1_; (try clear hb); (try clear hb2); (try clear hk); (try clear hi); (try clear ho0); obtain ⟨Ao37, co37, eo37⟩ := Kd.R_slice HO598.out; subst eo37)); go_ret; (exact ⟨by first | rfl | (simp [errW_none, errW_some] <;> rfl) | (simp [*, errW_none, errW_some] <;> rfl), by repeat (first | (with_reducible first | exact HB.out | apply below_alloc | apply pw_below_drewN | apply below_drew1) | exact HB.out)⟩))); (· rw [if_neg c27] at H; have c27b0 : (t596 == 0) = false := beq_eq_false_iff_ne.mpr c27; have c27b1 : (t596 != 0) = true := bne_iff_ne.mpr c27; obtain rfl := Option.some.inj H; go_wp2_with (first | ((with_reducible refine gate_callee (f := 34) rfl ?_); refine goesL_ (some 31) rfl rfl Try.func34 (by kernel_rfl) rfl #[.slice A0 l0.length c0, .slice A1 l1.length c1, .int .i64 a2] rfl (by (try simp only [List.map_toArray, List.map_cons, List.map_nil]); first | done | rfl | (simp only [List.length_drop, List.length_take]; rfl)) ?_; (with_reducible refine (prefix_Decode.calls _ _ l0 _ _ l1 a2 t594 t595 t596 _ ?side1 ?side2 ?side3 ?side4 A20.out).mono ?_); (case side1 => repeat (first | exact (Kd.C_below HR0.out HB.out) | (with_reducible refine Kd.C_alloc ?_ _) | (with_reducible refine Kd.C_drewN ?_ _) | (with_reducible refine Kd.C_drew ?_))); (case side2 => exact HC0.out); (case side3 => repeat (first | exact (Kd.C_below HR1.out HB.out) | (with_reducible refine Kd.C_alloc ?_ _) | (with_reducible refine Kd.C_drewN ?_ _) | (with_reducible refine Kd.C_drew ?_))); (case side4 => exact HC1.out); rintro e w38 ⟨v597, rfl, ho0, hb⟩; refine ⟨_, rfl, ?_⟩; have n0_ := Aside0.mk (Kd.R_lower ho0 (below_size (by repeat (first | (with_reducible first | exact HB.out | apply below_alloc | apply pw_below_drewN | apply below_drew1) | exact HB.out)))); have n1_ := Aside0.mk (below_step (by repeat (first | (with_reducible first | exact HB.out | apply below_alloc | apply pw_below_drewN | apply below_drew1) | exact HB.out)) hb); clear HB; have HO598 := n0_; have HB := n1_; clear n0_ n1_; (try clear hb); (try clear hb2); (try clear hk); (try clear hi); (try clear ho0); obtain ⟨Ao39, co39, eo39⟩ := Kd.R_slice HO598.out; subst eo39)); go_ret; (exact ⟨by first | rfl | (simp [errW_none, errW_some] <;> rfl) | (simp [*, errW_none, errW_some] <;> rfl), by repeat (first | (with_reducible first | exact HB.out | apply below_alloc | apply pw_below_drewN | apply below_drew1) | exact HB.out)⟩)))); (· rw [if_neg c21] at H; have c21b0 : (t596 == 6) = false := beq_eq_false_iff_ne.mpr c21; have c21b1 : (t596 != 6) = true := bne_iff_ne.mpr c21; by_cases c40 : t596 = 0; (· rw [if_pos c40] at H; have c40b0 : (t596 == 0) = true := beq_iff_eq.mpr c40; have c40b1 : (t596 != 0) = false := bne_eq_false_iff_eq.mpr c40; clear c40; by_cases c41 : (t594.length : Int) = a2; (· rw [if_pos c41] at H; have c41b0 : ((t594.length : Int) == a2) = true := beq_iff_eq.mpr c41; have c41b1 : ((t594.length : Int) != a2) = false := bne_eq_false_iff_eq.mpr c41; clear c41; by_cases c42 : t595 ≤ (wrap64 (8 * (l1.length : Int))); (· rw [if_pos c42] at H; have c42b0 : decide (t595 ≤ (wrap64 (8 * (l1.length : Int)))) = true := decide_eq_true c42; clear c42; replace H := Option.bind_eq_some_iff.mp H; obtain ⟨t601, A430, H⟩ := H; replace H : (some t601) = some r := H; have A43 := Aside0.mk A430; clear A430; obtain rfl := Option.some.inj H; go_wp2_with (first | ((with_reducible refine gate_callee (f := 34) rfl ?_); refine goesL_ (some 31) rfl rfl Try.func34 (by kernel_rfl) rfl #[.slice A0 l0.length c0, .slice A1 l1.length c1, .int .i64 a2] rfl (by (try simp only [List.map_toArray, List.map_cons, List.map_nil]); first | done | rfl | (simp only [List.length_drop, List.length_take]; rfl)) ?_; (with_reducible refine (prefix_Decode.calls _ _ l0 _ _ l1 a2 t594 t595 t596 _ ?side1 ?side2 ?side3 ?side4 A20.out).mono ?_); (case side1 => repeat (first | exact (Kd.C_below HR0.out HB.out) | (with_reducible refine Kd.C_alloc ?_ _) | (with_reducible refine Kd.C_drewN ?_ _) | (with_reducible refine Kd.C_drew ?_))); (case side2 => exact HC0.out); (case side3 => repeat (first | exact (Kd.C_below HR1.out HB.out) | (with_reducible refine Kd.C_alloc ?_ _) | (with_reducible refine Kd.C_drewN ?_ _) | (with_reducible refine Kd.C_drew ?_))); (case side4 => exact HC1.out); rintro e w44 ⟨v597, rfl, ho0, hb⟩; refine ⟨_, rfl, ?_⟩; have n0_ := Aside0.mk (Kd.R_lower ho0 (below_size (by repeat (first | (with_reducible first | exact HB.out | apply below_alloc | apply pw_below_drewN | apply below_drew1) | exact HB.out)))); have n1_ := Aside0.mk (below_step (by repeat (first | (with_reducible first | exact HB.out | apply below_alloc | apply pw_below_drewN | apply below_drew1) | exact HB.out)) hb); clear HB; have HO598 := n0_; have HB := n1_; clear n0_ n1_; (try clear hb); (try clear hb2); (try clear hk); (try clear hi); (try clear ho0); obtain ⟨Ao45, co45, eo45⟩ := Kd.R_slice HO598.out; subst eo45) | (go_at_call 19; (with_reducible refine (incunablelaw04_Awake.calls kj3  t601 _ A43.out).mono ?_); rintro e w46 ⟨rfl, hb⟩; have n0_ := Aside0.mk (Kd.R_below (by (with_reducible repeat (first | apply Kd.R_alloc | apply Kd.R_drewN | apply Kd.R_drew)); exact HO598.out) hb); have n1_ := Aside0.mk (below_step (by repeat (first | (with_reducible first | exact HB.out | apply below_alloc | apply pw_below_drewN | apply below_drew1) | exact HB.out)) hb); clear HO598; clear HB; have HO598 := n0_; have HB := n1_; clear n0_ n1_; (try clear hb); (try clear hb2); (try clear hk); (try clear hi))); go_ret; (exact ⟨by first | rfl | (simp [errW_none, errW_some] <;> rfl) | (simp [*, errW_none, errW_some] <;> rfl), by repeat (first | (with_reducible first | exact HB.out | apply below_alloc | apply pw_below_drewN | apply below_drew1) | exact HB.out)⟩)); (· rw [if_neg c42] at H; have c42b0 : decide (t595 ≤ (wrap64 (8 * (l1.length : Int)))) = false := decide_eq_false c42; clear c42; obtain rfl := Option.some.inj H; go_wp2_with (first | ((with_reducible refine gate_callee (f := 34) rfl ?_); refine goesL_ (some 31) rfl rfl Try.func34 (by kernel_rfl) rfl #[.slice A0 l0.length c0, .slice A1 l1.length c1, .int .i64 a2] rfl (by (try simp only [List.map_toArray, List.map_cons, List.map_nil]); first | done | rfl | (simp only [List.length_drop, List.length_take]; rfl)) ?_; (with_reducible refine (prefix_Decode.calls _ _ l0 _ _ l1 a2 t594 t595 t596 _ ?side1 ?side2 ?side3 ?side4 A20.out).mono ?_); (case side1 => repeat (first | exact (Kd.C_below HR0.out HB.out) | (with_reducible refine Kd.C_alloc ?_ _) | (with_reducible refine Kd.C_drewN ?_ _) | (with_reducible refine Kd.C_drew ?_))); (case side2 => exact HC0.out); (case side3 => repeat (first | exact (Kd.C_below HR1.out HB.out) | (with_reducible refine Kd.C_alloc ?_ _) | (with_reducible refine Kd.C_drewN ?_ _) | (with_reducible refine Kd.C_drew ?_))); (case side4 => exact HC1.out); rintro e w47 ⟨v597, rfl, ho0, hb⟩; refine ⟨_, rfl, ?_⟩; have n0_ := Aside0.mk (Kd.R_lower ho0 (below_size (by repeat (first | (with_reducible first | exact HB.out | apply below_alloc | apply pw_below_drewN | apply below_drew1) | exact HB.out)))); have n1_ := Aside0.mk (below_step (by repeat (first | (with_reducible first | exact HB.out | apply below_alloc | apply pw_below_drewN | apply below_drew1) | exact HB.out)) hb); clear HB; have HO598 := n0_; have HB := n1_; clear n0_ n1_; (try clear hb); (try clear hb2); (try clear hk); (try clear hi); (try clear ho0); obtain ⟨Ao48, co48, eo48⟩ := Kd.R_slice HO598.out; subst eo48)); go_ret; (exact ⟨by first | rfl | (simp [errW_none, errW_some] <;> rfl) | (simp [*, errW_none, errW_some] <;> rfl), by repeat (first | (with_reducible first | exact HB.out | apply below_alloc | apply pw_below_drewN | apply below_drew1) | exact HB.out)⟩))); (· rw [if_neg c41] at H; have c41b0 : ((t594.length : Int) == a2) = false := beq_eq_false_iff_ne.mpr c41; have c41b1 : ((t594.length : Int) != a2) = true := bne_iff_ne.mpr c41; obtain rfl := Option.some.inj H; go_wp2_with (first | ((with_reducible refine gate_callee (f := 34) rfl ?_); refine goesL_ (some 31) rfl rfl Try.func34 (by kernel_rfl) rfl #[.slice A0 l0.length c0, .slice A1 l1.length c1, .int .i64 a2] rfl (by (try simp only [List.map_toArray, List.map_cons, List.map_nil]); first | done | rfl | (simp only [List.length_drop, List.length_take]; rfl)) ?_; (with_reducible refine (prefix_Decode.calls _ _ l0 _ _ l1 a2 t594 t595 t596 _ ?side1 ?side2 ?side3 ?side4 A20.out).mono ?_); (case side1 => repeat (first | exact (Kd.C_below HR0.out HB.out) | (with_reducible refine Kd.C_alloc ?_ _) | (with_reducible refine Kd.C_drewN ?_ _) | (with_reducible refine Kd.C_drew ?_))); (case side2 => exact HC0.out); (case side3 => repeat (first | exact (Kd.C_below HR1.out HB.out) | (with_reducible refine Kd.C_alloc ?_ _) | (with_reducible refine Kd.C_drewN ?_ _) | (with_reducible refine Kd.C_drew ?_))); (case side4 => exact HC1.out); rintro e w49 ⟨v597, rfl, ho0, hb⟩; refine ⟨_, rfl, ?_⟩; have n0_ := Aside0.mk (Kd.R_lower ho0 (below_size (by repeat (first | (with_reducible first | exact HB.out | apply below_alloc | apply pw_below_drewN | apply below_drew1) | exact HB.out)))); have n1_ := Aside0.mk (below_step (by repeat (first | (with_reducible first | exact HB.out | apply below_alloc | apply pw_below_drewN | apply below_drew1) | exact HB.out)) hb); clear HB; have HO598 := n0_; have HB := n1_; clear n0_ n1_; (try clear hb); (try clear hb2); (try clear hk); (try clear hi); (try clear ho0); obtain ⟨Ao50, co50, eo50⟩ := Kd.R_slice HO598.out; subst eo50)); go_ret; (exact ⟨by first | rfl | (simp [errW_none, errW_some] <;> rfl) | (simp [*, errW_none, errW_some] <;> rfl), by repeat (first | (with_reducible first | exact HB.out | apply below_alloc | apply pw_below_drewN | apply below_drew1) | exact HB.out)⟩))); (· rw [if_neg c40] at H; have c40b0 : (t596 == 0) = false := beq_eq_false_iff_ne.mpr c40; have c40b1 : (t596 != 0) = true := bne_iff_ne.mpr c40; obtain rfl := Option.some.inj H; go_wp2_with (first | ((with_reducible refine gate_callee (f := 34) rfl ?_); refine goesL_ (some 31) rfl rfl Try.func34 (by kernel_rfl) rfl #[.slice A0 l0.length c0, .slice A1 l1.length c1, .int .i64 a2] rfl (by (try simp only [List.map_toArray, List.map_cons, List.map_nil]); first | done | rfl | (simp only [List.length_drop, List.length_take]; rfl)) ?_; (with_reducible refine (prefix_Decode.calls _ _ l0 _ _ l1 a2 t594 t595 t596 _ ?side1 ?side2 ?side3 ?side4 A20.out).mono ?_); (case side1 => repeat (first | exact (Kd.C_below HR0.out HB.out) | (with_reducible refine Kd.C_alloc ?_ _) | (with_reducible refine Kd.C_drewN ?_ _) | (with_reducible refine Kd.C_drew ?_))); (case side2 => exact HC0.out); (case side3 => repeat (first | exact (Kd.C_below HR1.out HB.out) | (with_reducible refine Kd.C_alloc ?_ _) | (with_reducible refine Kd.C_drewN ?_ _) | (with_reducible refine Kd.C_drew ?_))); (case side4 => exact HC1.out); rintro e w51 ⟨v597, rfl, ho0, hb⟩; refine ⟨_, rfl, ?_⟩; have n0_ := Aside0.mk (Kd.R_lower ho0 (below_size (by repeat (first | (with_reducible first | exact HB.out | apply below_alloc | apply pw_below_drewN | apply below_drew1) | exact HB.out)))); have n1_ := Aside0.mk (below_step (by repeat (first | (with_reducible first | exact HB.out | apply below_alloc | apply pw_below_drewN | apply below_drew1) | exact HB.out)) hb); clear HB; have HO598 := n0_; have HB := n1_; clear n0_ n1_; (try clear hb); (try clear hb2); (try clear hk); (try clear hi); (try clear ho0))); go_ret; (exact ⟨by first | rfl | (simp [errW_none, errW_some] <;> rfl) | (simp [*, errW_none, errW_some] <;> rfl), by repeat (first | (with_reducible first | exact HB.out | apply below_alloc | apply pw_below_drewN | apply below_drew1) | exact HB.out)⟩))))
end Go.Proofs.Ytnadgcdkcabdoaa.U
namespace Go.Proofs.Ytnadgcdkcabdoaa.Opn
open Go Go.RowKit Go.Proofs.YtnadgcdkcabdoaaW.PrintWords Go.Proofs.YtnadgcdkcabdoaaW.PrintLast Go.Proofs.YtnadgcdkcabdoaaW.PrintMore Go.ChangeShapes Go.WideShapes
/-- The cells that the form reads at type t (with fuel N at the most) tell an element of the kind d, of which Wf holds. -/
structure OpensTo (P : Program) (N : Nat) {α : Type} (t : TypeId) (d : Kd α) (Wf : α → Prop) : Prop where
  sz : P.cellsOf t = d.sz
  op : ∀ {H : Type} {enc : TypeId × Value → H} {w : World} {fuel : Nat} {cs : List Value} {x : DataW H × List MemPlace}, fuel ≤ N → DataW.trod enc P w 0 (fun _ => true) true fuel t cs = some x → (∀ n ∈ x.1.weights P t, n ≤ reachBytes) → ∃ a : α, d.K w a cs ∧ Wf a
section
variable {P : Program} {N : Nat} {α β : Type} {t e : TypeId} {d : Kd α} {d' : Kd β} {Wf Wf2 : α → Prop} {Wf' : β → Prop}
theorem o_int {k : IntKind} (ht : P.underlying t = some (.int k)) (hc : P.cellsOf t = 1) : OpensTo P N t (Kd.int k) (fun n => (Lit.int k n).wf = true) := ⟨hc, fun _ hx _ => by
  obtain ⟨n, rfl, rfl, hw⟩ := DataW.trod_int ht hx
  exact ⟨n, rfl, hw⟩⟩
theorem o_iso {f : β → α} (g : α → β) (hg : ∀ a, f (g a) = a) (h : OpensTo P N t d Wf) : OpensTo P N t (Kd.iso d f) (fun x => Wf (f x)) := ⟨h.sz, fun hf hx hw => by
  obtain ⟨a, hk, hwf⟩ := h.op hf hx hw
  refine ⟨g a, ?_, ?_⟩
  · show d.K _ (f (g a)) _
    rw [hg]
    exact hk
  · rw [hg]
    exact hwf⟩
theorem pick_list {Q : Nat → α → Prop} : ∀ n : Nat, (∀ i, i < n → ∃ p, Q i p) → ∃ xs : List α, xs.length = n ∧ ∀ i p, xs[i]? = some p → Q i p
  | 0, _ => ⟨[], rfl, fun i p h => by simp at h⟩
  | n + 1, h => by
    obtain ⟨xs, hl, hq⟩ := pick_list n (fun i hi => h i (by omega))
    obtain ⟨p, hp⟩ := h n (by omega)
    refine ⟨xs ++ [p], by simp [hl], fun i q hi => ?_⟩
    rcases Nat.lt_or_ge i n with c | c
    · rw [List.getElem?_append_left (by omega)] at hi
      exact hq i q hi
    · rw [List.getElem?_append_right (by omega)] at hi
      obtain rfl : i = n := by
        have := (List.getElem?_eq_some_iff.1 hi).1
        simp at this
        omega
      simp [hl] at hi
      subst hi
      exact hp
theorem add_add' (a : Addr) (i j : Nat) : (a.add i).add j = a.add (i + j) := by
  unfold Addr.add
  by_cases h1 : i = 0 <;> by_cases h2 : j = 0 <;> simp [h1, h2, Nat.add_assoc]
theorem weights_all {H : Type} {e : TypeId} : ∀ {l : List (DataW H)} {y : DataW H}, y ∈ l → ∀ n ∈ y.weights P e, n ∈ DataW.weightsAll P e l
  | x :: l, y, hy, n, hn => by
    unfold DataW.weightsAll
    rcases List.mem_cons.1 hy with rfl | hy
    · exact List.mem_append.2 (.inl hn)
    · exact List.mem_append.2 (.inr (weights_all hy n hn))
theorem o_slice (hu : P.underlying t = some (.slice e)) (hc : P.cellsOf t = 1) (he : OpensTo P N e d Wf) {B : Nat} (hB : P.bytesOf e = B) :
    OpensTo P (N + 1) t (Kd.slice e d) (fun l => l.length * B ≤ 140737488351232 ∧ ∀ x ∈ l, Wf x) := ⟨hc, fun {H enc w fuel cs x} hf hx hw => by
  rcases DataW.trod_slice hu hx with ⟨rfl, rfl⟩ | ⟨a, len, cap, elems, rest, n, hfn, rfl, rfl, _, hl, hm, hlen, hel, _, _⟩
  · exact ⟨[], ⟨none, 0, rfl, Nat.le_refl _, Kd.C_nil d w⟩, by simp, fun x hx => by simp at hx⟩
  · have hq : ∀ i, i < len → ∃ p : α, (∃ cs', w.cells? 0 (a.add (i * P.cellsOf e)) (P.cellsOf e) = some cs' ∧ d.K w p cs') ∧ Wf p := by
      intro i hi
      have h1 := hel i hi
      obtain ⟨y, hy⟩ : ∃ y, elems[i]? = some y := ⟨_, List.getElem?_eq_getElem (by omega)⟩
      rw [hy, Option.bind_eq_some_iff] at h1
      obtain ⟨cs', hcs, h2⟩ := h1
      obtain ⟨p, hk, hwf⟩ := he.op (by omega) h2 (fun m hm' => hw m (by
        unfold DataW.weights
        rw [hu]
        refine List.mem_cons.2 (.inr (List.mem_append.2 (.inl (weights_all (y := y.1) ?_ m hm'))))
        exact List.mem_map.2 ⟨y, List.mem_of_getElem? hy, rfl⟩))
      exact ⟨p, ⟨cs', hcs, hk⟩, hwf⟩
    obtain ⟨xs, hxl, hxs⟩ := pick_list len hq
    have hcap : cap ≤ 9223372036854775807 := by simpa [maxLen] using hm
    refine ⟨xs, ⟨some a, cap, by rw [hxl], by omega, rfl, by omega, fun _ => ⟨a, rfl, fun j p hj => ?_⟩⟩, ?_, fun x hx => ?_⟩
    · obtain ⟨⟨cs', hcs, hk⟩, _⟩ := hxs j p hj
      obtain ⟨_, hl2, hcell⟩ := World.cells?_some hcs
      refine ⟨cs', d.K_len hk, hk, fun i u hi => ?_⟩
      have h3 := hcell i (by rw [← hl2]; exact (List.getElem?_eq_some_iff.1 hi).1)
      rw [add_add', he.sz, hi] at h3
      exact h3
    · have h4 := hw ((elems.length + rest.length) * P.bytesOf e) (by
        unfold DataW.weights
        rw [hu]
        simp)
      have h5 : len * B ≤ (elems.length + rest.length) * B := Nat.mul_le_mul_right _ (by omega)
      rw [hB] at h4
      rw [hxl]
      exact Nat.le_trans h5 h4
    · obtain ⟨i, hi⟩ := List.getElem?_of_mem hx
      exact (hxs i x hi).2⟩
/-- The same for a struct's fields from offset o on. -/
structure OpensF (P : Program) (N : Nat) {α : Type} (fs : List Field) (o : Nat) (d : Kd α) (Wf : α → Prop) : Prop where
  op : ∀ {H : Type} {enc : TypeId × Value → H} {w : World} {fuel : Nat} {cs : List Value} {xs : List (DataW H × List MemPlace)}, fuel ≤ N → cs.length = o + d.sz → xs.length = fs.length →
    (∀ (i : Nat) (f : Field), fs[i]? = some f → DataW.trod enc P w 0 (fun _ => true) true fuel f.type ((cs.drop f.offset).take (P.cellsOf f.type)) = xs[i]?) →
    (∀ n ∈ DataW.weightsEach P (fs.map (·.type)) (xs.map (·.1)), n ≤ reachBytes) → ∃ a : α, d.K w a (cs.drop o) ∧ Wf a
theorem f_one {f : Field} {o : Nat} (ho : f.offset = o) (h : OpensTo P N f.type d Wf) : OpensF P N [f] o d Wf := ⟨by
  intro H enc w fuel cs xs hf hl hxl hx hw
  match xs, hxl with
  | [x], _ =>
    have h1 := hx 0 f rfl
    rw [ho, h.sz, List.take_of_length_le (by rw [List.length_drop]; omega)] at h1
    exact h.op hf h1 (fun n hn => hw n (by simp [DataW.weightsEach, hn]))⟩
theorem f_cons {f : Field} {fs : List Field} {o : Nat} (ho : f.offset = o) (h : OpensTo P N f.type d Wf) (hs : OpensF P N fs (o + d.sz) d' Wf') : OpensF P N (f :: fs) o (Kd.pair d d') (fun x => Wf x.1 ∧ Wf' x.2) := ⟨by
  intro H enc w fuel cs xs hf hl hxl hx hw
  match xs, hxl with
  | x :: xs, hxl =>
    have hl' : cs.length = o + (d.sz + d'.sz) := hl
    have h1 := hx 0 f rfl
    rw [ho, h.sz] at h1
    obtain ⟨a, hk, hwf⟩ := h.op hf h1 (fun n hn => hw n (by simp [DataW.weightsEach, hn]))
    obtain ⟨b, hk', hwf'⟩ := hs.op (xs := xs) hf (by rw [hl']; omega) (by simpa using hxl) (fun i g hg => by simpa using hx (i + 1) g (by simpa using hg)) (fun n hn => hw n (by
      simp only [List.map_cons, DataW.weightsEach]
      exact List.mem_append.2 (.inr hn)))
    refine ⟨(a, b), ⟨_, _, ?_, hk, hk'⟩, hwf, hwf'⟩
    rw [← List.drop_drop, List.take_append_drop]⟩
theorem o_struct {fs : Array Field} (hu : P.underlying t = some (.struct fs)) (hc : P.cellsOf t = d.sz) (h : OpensF P N fs.toList 0 d Wf) : OpensTo P (N + 1) t d Wf := ⟨hc, fun {H enc w fuel cs x} hf hx hw => by
  obtain ⟨xs, n, hfn, rfl, hl, hxl, hel⟩ := DataW.trod_struct hu hx
  have := h.op (xs := xs) (cs := cs) (w := w) (enc := enc) (fuel := n) (by omega) (by rw [hl, hc, Nat.zero_add]) (by simpa using hxl) (fun i f hf' => hel i f (by simpa using hf')) (fun m hm => hw m (by
    unfold DataW.weights
    rw [hu]
    exact hm))
  simpa using this⟩
/-- A row's argument that is read whole: at whatever fuel. -/
theorem open_arg {H : Type} {enc : TypeId × Value → H} {W : World} {v : Value} {x : DataW H} {p : List MemPlace} {ts : List TypeId} {ds : List (DataW H)} {j : Nat} (ho : ∀ n, OpensTo P (n + N) t d Wf)
    (h : DataW.Trod enc P W 0 (fun _ => true) true t v x p) (hsz : (DataW.weightsEach P ts ds).all (· ≤ reachBytes) = true) (ht : ts[j]? = some t) (hd : ds[j]? = some x) : ∃ a : α, d.K W a v.cells.toList ∧ Wf a := by
  obtain ⟨fuel, hf⟩ := h
  refine (ho fuel).op (by omega) hf (fun n hn => ?_)
  have := List.all_eq_true.1 hsz n (DataW.weights_mem_each ht hd n hn)
  simpa using this
end
end Go.Proofs.Ytnadgcdkcabdoaa.Opn
namespace Go.Proofs.Ytnadgcdkcabdoaa.Gdc
open Go Go.RowKit Go.Proofs.YtnadgcdkcabdoaaW.PrintWords Go.Proofs.YtnadgcdkcabdoaaW.PrintLast Go.Proofs.YtnadgcdkcabdoaaW.PrintMore Go.Proofs.Ytnadgcdkcabdoaa.Aid Go.Proofs.Ytnadgcdkcabdoaa.HandAid Go.Proofs.Ytnadgcdkcabdoaa.U Go.Proofs.Ytnadgcdkcabdoaa.Tab Go.Proofs.Ytnadgcdkcabdoaa.Cdx Go.Proofs.Ytnadgcdkcabdoaa.Cdy Go.Proofs.Ytnadgcdkcabdoaa.Cdz Go.Proofs.Ytnadgcdkcabdoaa.Rdp Go.Proofs.Ytnadgcdkcabdoaa.Mpp Go.Proofs.Ytnadgcdkcabdoaa.Dcm Go.Proofs.Ytnadgcdkcabdoaa.Nbr Go.Proofs.Ytnadgcdkcabdoaa.Dwk
theorem divdiv2 (x : Int) (m n : Nat) : x / 2 ^ m / 2 ^ n = x / 2 ^ (m + n) := by
  rw [Int.ediv_ediv, if_neg (fun h => absurd h.1 (Int.not_lt.2 (Int.pow_nonneg (by decide)))), Int.sub_zero, Int.pow_add]
theorem p2 (m : Nat) : (0 : Int) < 2 ^ m := Int.pow_pos (by decide)
theorem p15 : ∀ n, n < 16 → (2 : Int) ^ n * 2 ^ (15 - n) = 32768 := by decide
theorem fr_le : ∀ (t : List Ln) (L M : Int) (i j : Nat), (∀ x ∈ t, lineB x = true) → (L < M ∨ L = M ∧ i ≤ j) → front L i t ≤ front M j t
  | [], _, _, _, _, _, _ => Int.le_refl _
  | x :: l, L, M, i, j, h, c => by
    have ih := fr_le l L M (i - 1) (j - 1) (fun y hy => h y (List.mem_cons_of_mem _ hy)) (by omega)
    have hw := wS_range (h x List.mem_cons_self)
    simp only [front]
    have : (if x.f0 < L then wS x else if x.f0 = L then (if 0 < i then wS x else 0) else 0) ≤ (if x.f0 < M then wS x else if x.f0 = M then (if 0 < j then wS x else 0) else 0) := by
      repeat' split
      all_goals omega
    omega
theorem fr_apart (t : List Ln) (hv : vldP t) (i k : Nat) (hi : i < t.length) (h : len t i < len t k ∨ len t i = len t k ∧ i < k) : front (len t i) i t + wS (rd_T32 t (i : Int)) ≤ front (len t k) k t := by
  have h1 := front_step (L := len t i) t i hi
  rw [if_pos rfl] at h1
  rw [← h1]
  exact fr_le t _ _ _ _ hv.2.1 (by omega)
theorem w_len (t : List Ln) (i : Nat) (c : len t i ≠ 0) : wS (rd_T32 t (i : Int)) = 2 ^ (15 - len t i).toNat := if_neg c
theorem lens (t : List Ln) (hv : vldP t) (i : Nat) (hi : i < t.length) : 0 ≤ len t i ∧ len t i ≤ 15 ∧ 0 ≤ (rd_T32 t (i : Int)).f1 ∧ (rd_T32 t (i : Int)).f1 ≤ 20 := by
  have li := of_decide_eq_true (hv.2.1 _ (rdL_mem hi))
  exact ⟨li.1, li.2.1, li.2.2.1, li.2.2.2.1⟩
/-- No code begins another one. -/
theorem no_pre (t : List Ln) (hv : vldP t) (i k : Nat) (hi : i < t.length) (hk : k < t.length) (hne : k ≠ i) (c : len t i ≠ 0) (hle : len t i ≤ len t k) : cnum t k / 2 ^ (len t k - len t i).toNat ≠ cnum t i := by
  have li := lens t hv i hi
  have lk := lens t hv k hk
  have ck : len t k ≠ 0 := by omega
  intro e
  have hq : cnum t k / 2 ^ (len t k - len t i).toNat = front (len t k) k t / 2 ^ (15 - len t i).toNat := by
    unfold cnum
    rw [divdiv2, show (15 - len t k).toNat + (len t k - len t i).toNat = (15 - len t i).toNat by omega]
  rw [hq] at e
  unfold cnum at e
  have hP := p2 (15 - len t i).toNat
  have step : ∀ a b : Int, a + 2 ^ (15 - len t i).toNat ≤ b → a / 2 ^ (15 - len t i).toNat < b / 2 ^ (15 - len t i).toNat := by
    intro a b hab
    have h1 := Int.ediv_le_ediv hP hab
    have h2 := Int.add_mul_ediv_left a (b := 2 ^ (15 - len t i).toNat) 1 (by omega)
    rw [Int.mul_one] at h2
    omega
  by_cases d : len t i < len t k ∨ len t i = len t k ∧ i < k
  · have h1 := fr_apart t hv i k hi d
    rw [w_len t i c] at h1
    have := step _ _ h1
    omega
  · have h1 := fr_apart t hv k i hk (by omega)
    rw [w_len t k ck, show len t k = len t i by omega] at h1
    have := step _ _ h1
    rw [show len t k = len t i by omega] at e
    omega
theorem gI_iff (c L : Int) (g : Int → Int → Option Lit) (v m : Int) : ∀ j : Nat, (gI c L g j v m).isSome = true ↔ (g v m).isSome = true ∨ ∃ a : Nat, a < j ∧ v = c / 2 ^ (L - a).toNat ∧ m = a
  | 0 => by simp [gI]
  | j + 1 => by
    simp only [gI]
    have ih := gI_iff c L g v m j
    by_cases h : v = c / 2 ^ (L - j).toNat ∧ m = (j : Int)
    · rw [if_pos h]
      exact ⟨fun _ => .inr ⟨j, by omega, h⟩, fun _ => rfl⟩
    · rw [if_neg h, ih]
      constructor
      · rintro (h1 | ⟨a, h1, h2⟩)
        · exact .inl h1
        · exact .inr ⟨a, by omega, h2⟩
      · rintro (h1 | ⟨a, h1, h2⟩)
        · exact .inl h1
        · refine .inr ⟨a, ?_, h2⟩
          by_cases e : a = j
          · subst e; exact absurd h2 h
          · omega
theorem gB_iff (t : List Ln) (hv : vldP t) (v : Int) (m : Nat) : ∀ q, q ≤ t.length → ((gB t q v m).isSome = true ↔ ∃ i, i < q ∧ (m : Int) < len t i ∧ v = cnum t i / 2 ^ (len t i - m).toNat)
  | 0, _ => by simp [gB]
  | q + 1, hq => by
    have ih := gB_iff t hv v m q (by omega)
    have hl := lens t hv q (by omega)
    simp only [gB]
    by_cases c : len t q = 0
    · rw [if_pos c, ih]
      constructor
      · rintro ⟨i, h1, h2⟩; exact ⟨i, by omega, h2⟩
      · rintro ⟨i, h1, h2, h3⟩
        refine ⟨i, ?_, h2, h3⟩
        by_cases e : i = q
        · subst e; omega
        · omega
    · rw [if_neg c, gI_iff, ih]
      constructor
      · rintro (⟨i, h1, h2⟩ | ⟨a, h1, h2, h3⟩)
        · exact ⟨i, by omega, h2⟩
        · have e : a = m := by omega
          subst e
          exact ⟨q, by omega, by omega, h2⟩
      · rintro ⟨i, h1, h2, h3⟩
        by_cases e : i = q
        · subst e; exact .inr ⟨m, by omega, h3, rfl⟩
        · exact .inl ⟨i, by omega, h2, h3⟩
theorem gW_at (t : List Ln) (hv : vldP t) (i : Nat) (hi : i < t.length) (c : len t i ≠ 0) : ∀ q, i < q → q ≤ t.length → gW t q (cnum t i) (len t i) = some (.int .i64 (i : Int))
  | 0, h, _ => absurd h (Nat.not_lt_zero _)
  | q + 1, h, hq => by
    simp only [gW]
    by_cases e : i = q
    · subst e
      rw [if_neg c]
      exact if_pos ⟨rfl, rfl⟩
    · have ih := gW_at t hv i hi c q (by omega) (by omega)
      by_cases z : len t q = 0
      · rw [if_pos z]; exact ih
      · rw [if_neg z, if_neg, ih]
        rintro ⟨h1, h2⟩
        have := no_pre t hv i q hi (by omega) (by omega) c (by omega)
        rw [show (len t q - len t i).toNat = 0 by omega, Int.pow_zero, Int.ediv_one] at this
        exact this h1.symm
theorem bitsAt_add (b : List Int) (a : Int) (m : Nat) : ∀ d : Nat, bitsAt b a (m + d) = bitsAt b a m * 2 ^ d + bitsAt b (a + m) d
  | 0 => by simp [bitsAt]
  | d + 1 => by
    have ih := bitsAt_add b a m d
    have h1 : bitsAt b a (m + (d + 1)) = 2 * bitsAt b a (m + d) + bitOf b (a + ((m + d : Nat) : Int)) := rfl
    have h2 : bitsAt b (a + m) (d + 1) = 2 * bitsAt b (a + m) d + bitOf b (a + m + (d : Int)) := rfl
    rw [h1, h2, ih, Int.pow_succ, show a + ((m + d : Nat) : Int) = a + m + (d : Int) by omega, Int.mul_add, Int.add_assoc, ← Int.mul_assoc, Int.mul_comm 2, Int.mul_assoc, Int.mul_comm (2 : Int) (2 ^ d)]
theorem bitsAt_pre (b : List Int) (a : Int) (m d : Nat) : bitsAt b a (m + d) / 2 ^ d = bitsAt b a m := by
  have hr := bitsAt_range b (a + m) d
  rw [bitsAt_add, Int.add_comm, Int.add_mul_ediv_right _ _ (by have := p2 d; omega), Int.ediv_eq_zero_of_lt hr.1 hr.2, Int.zero_add]
end Go.Proofs.Ytnadgcdkcabdoaa.Gdc
namespace Go.Proofs.Ytnadgcdkcabdoaa.Gcm
open Go Go.RowKit Go.Proofs.YtnadgcdkcabdoaaW.PrintWords Go.Proofs.YtnadgcdkcabdoaaW.PrintLast Go.Proofs.YtnadgcdkcabdoaaW.PrintMore Go.Proofs.Ytnadgcdkcabdoaa.Aid Go.Proofs.Ytnadgcdkcabdoaa.HandAid Go.Proofs.Ytnadgcdkcabdoaa.U Go.Proofs.Ytnadgcdkcabdoaa.Tab Go.Proofs.Ytnadgcdkcabdoaa.Cdx Go.Proofs.Ytnadgcdkcabdoaa.Cdy Go.Proofs.Ytnadgcdkcabdoaa.Cdz Go.Proofs.Ytnadgcdkcabdoaa.Rdp Go.Proofs.Ytnadgcdkcabdoaa.Mpp Go.Proofs.Ytnadgcdkcabdoaa.Dcm Go.Proofs.Ytnadgcdkcabdoaa.Nbr Go.Proofs.Ytnadgcdkcabdoaa.Dwk Go.Proofs.Ytnadgcdkcabdoaa.Gdc
theorem front16 : ∀ (t : List Ln), (∀ x ∈ t, lineB x = true) → front 16 0 t = sumI wS t
  | [], _ => rfl
  | x :: l, h => by
    have hl := of_decide_eq_true (h x List.mem_cons_self)
    simp only [front, sumI]
    rw [if_pos (by omega), show (0 : Nat) - 1 = 0 from rfl, front16 l (fun y hy => h y (List.mem_cons_of_mem _ hy))]
theorem front_mul (L : Nat) (hL : L ≤ 15) : ∀ (t : List Ln) (i : Nat), (∀ x ∈ t, lineB x = true) → ∃ c : Int, front (L : Int) i t = c * 2 ^ (15 - L)
  | [], _, _ => ⟨0, by simp [front]⟩
  | x :: l, i, h => by
    obtain ⟨c, hc⟩ := front_mul L hL l (i - 1) (fun y hy => h y (List.mem_cons_of_mem _ hy))
    have hl := of_decide_eq_true (h x List.mem_cons_self)
    have hw : x.f0 ≤ (L : Int) → ∃ d : Int, wS x = d * 2 ^ (15 - L) := by
      intro hle
      unfold wS
      by_cases z : x.f0 = 0
      · exact ⟨0, by rw [if_pos z]; simp⟩
      · refine ⟨2 ^ (L - x.f0.toNat), ?_⟩
        rw [if_neg z, ← Int.pow_add]
        congr 1
        omega
    simp only [front]
    rw [hc]
    split
    · obtain ⟨d, hd⟩ := hw (by omega)
      exact ⟨d + c, by rw [hd, Int.add_mul]⟩
    · split
      · split
        · obtain ⟨d, hd⟩ := hw (by omega)
          exact ⟨d + c, by rw [hd, Int.add_mul]⟩
        · exact ⟨c, by simp⟩
      · exact ⟨c, by simp⟩
theorem cnum_mul (t : List Ln) (hv : vldP t) (i L : Nat) (hi : i < t.length) (hL : len t i = L) (hL2 : L ≤ 15) : cnum t i * 2 ^ (15 - L) = front (len t i) i t := by
  obtain ⟨c, hc⟩ := front_mul L hL2 t i hv.2.1
  unfold cnum
  rw [hL, show (15 - (L : Int)).toNat = 15 - L by omega, hc, Int.mul_ediv_cancel _ (by have := p2 (15 - L); omega)]
/-- Each point of 2^15 lies in what some line takes. -/
theorem tile (t : List Ln) (hv : vldP t) (hs : sumI wS t = 32768) (p : Int) (h0 : 0 ≤ p) (h1 : p < 32768) : ∃ i, i < t.length ∧ len t i ≠ 0 ∧ front (len t i) i t ≤ p ∧ p < front (len t i) i t + wS (rd_T32 t (i : Int)) := by
  refine Classical.byContradiction fun hno => ?_
  have hno' : ∀ i, i < t.length → len t i ≠ 0 → front (len t i) i t ≤ p → front (len t i) i t + wS (rd_T32 t (i : Int)) ≤ p := by
    intro i hi c hf
    refine Classical.byContradiction fun h => hno ⟨i, hi, c, hf, by omega⟩
  have row : ∀ L : Nat, 1 ≤ L → front (L : Int) 0 t ≤ p → ∀ i, i ≤ t.length → front (L : Int) i t ≤ p := by
    intro L hL hf i
    induction i with
    | zero => intro _; exact hf
    | succ i ih =>
      intro hi
      have h := ih (by omega)
      rw [front_step t i (by omega)]
      by_cases c : len t i = (L : Int)
      · rw [if_pos c]
        have := hno' i (by omega) (by omega) (by rw [c]; exact h)
        rw [c] at this
        exact this
      · rw [if_neg c, Int.add_zero]; exact h
  have col : ∀ L : Nat, front ((L + 1 : Nat) : Int) 0 t ≤ p := by
    intro L
    induction L with
    | zero =>
      rw [show ((0 + 1 : Nat) : Int) = 1 from rfl, front_one t hv.2.1]
      exact h0
    | succ L ih =>
      have h := row (L + 1) (by omega) ih t.length (Nat.le_refl _)
      rw [front_next t t.length (Nat.le_refl _)] at h
      exact h
  have h := col 15
  rw [show ((15 + 1 : Nat) : Int) = 16 from rfl, front16 t hv.2.1, hs] at h
  omega
theorem num_body (t : List Ln) (hv : vldP t) (hs : sumI wS t = 32768) (b : List Int) (a : Int) (ha : 0 ≤ a) (d n : Nat) (hn : n + d = 15) (hP : ∀ i, i < t.length → len t i ≠ 0 → len t i < n → bitsAt b a (len t i).toNat ≠ cnum t i) (next : (gB t t.length (bitsAt b a n) n).isSome = true → ((numG t b a (16 - (n + 1)) (n + 1)).2.1 = 0 ∧ 0 ≤ (numG t b a (16 - (n + 1)) (n + 1)).2.2 ∧ (numG t b a (16 - (n + 1)) (n + 1)).2.2 ≤ 8 * b.length) ∨ (numG t b a (16 - (n + 1)) (n + 1)).2.1 = 6) :
    ((numG t b a (16 - n) n).2.1 = 0 ∧ 0 ≤ (numG t b a (16 - n) n).2.2 ∧ (numG t b a (16 - n) n).2.2 ≤ 8 * b.length) ∨ (numG t b a (16 - n) n).2.1 = 6 := by
  rw [show 16 - n = (16 - (n + 1)) + 1 by omega]
  simp only [numG]
  by_cases hyb : (gB t t.length (bitsAt b a n) n).isSome = true
  · rw [if_pos hyb]
    by_cases fit : a + n + 1 ≤ 8 * b.length
    · rw [if_pos fit]; exact next hyb
    · rw [if_neg fit]; exact .inr rfl
  · rw [if_neg hyb]
    have hV := bitsAt_range b a n
    have hQ := p2 (15 - n)
    have h15 := p15 n (by omega)
    obtain ⟨i, hi, c, t1, t2⟩ := tile t hv hs (bitsAt b a n * 2 ^ (15 - n)) (Int.mul_nonneg hV.1 (by omega)) (by rw [← h15]; exact Int.mul_lt_mul_of_pos_right hV.2 hQ)
    have hl := lens t hv i hi
    obtain ⟨L, hL⟩ : ∃ L : Nat, len t i = L := ⟨(len t i).toNat, by omega⟩
    have hcm := cnum_mul t hv i L hi hL (by omega)
    rw [w_len t i c, ← hcm, hL, show (15 - (L : Int)).toNat = 15 - L by omega] at t2
    rw [← hcm] at t1
    have hPp := p2 (15 - L)
    by_cases hle : L ≤ n
    · -- the code ends here, or has ended
      have e1 : (2 : Int) ^ (15 - L) = 2 ^ (n - L) * 2 ^ (15 - n) := by rw [← Int.pow_add]; congr 1; omega
      rw [e1, ← Int.mul_assoc] at t1
      have t2' : bitsAt b a n * 2 ^ (15 - n) < (cnum t i + 1) * 2 ^ (n - L) * 2 ^ (15 - n) := by
        rw [Int.mul_assoc, ← e1, Int.add_mul, Int.one_mul]; exact t2
      have u1 := Int.le_of_mul_le_mul_right t1 hQ
      have u2 := Int.lt_of_mul_lt_mul_right t2' (by omega)
      have hD := p2 (n - L)
      have u3 : bitsAt b a n / 2 ^ (n - L) = cnum t i := by
        have v1 := (Int.le_ediv_iff_mul_le hD).2 u1
        have v2 := Int.ediv_lt_of_lt_mul hD u2
        omega
      have u4 : bitsAt b a L = cnum t i := by
        rw [← u3, ← bitsAt_pre b a L (n - L), show L + (n - L) = n by omega]
      by_cases hlt : L < n
      · exact absurd (by rw [hL, Int.toNat_natCast]; exact u4) (hP i hi c (by omega))
      · have e : L = n := by omega
        subst e
        have hw := gW_at t hv i hi c t.length hi (Nat.le_refl _)
        rw [hL] at hw
        rw [u4, hw]
        simp only
        split
        · refine .inl ⟨rfl, ?_, ?_⟩
          · simp only; omega
          · simp only; assumption
        · exact .inr rfl
    · refine absurd ?_ hyb
      rw [gB_iff t hv _ _ _ (Nat.le_refl _)]
      refine ⟨i, hi, by omega, ?_⟩
      have e1 : (2 : Int) ^ (15 - n) = 2 ^ (L - n) * 2 ^ (15 - L) := by rw [← Int.pow_add]; congr 1; omega
      rw [e1, ← Int.mul_assoc] at t1 t2
      have t2' : bitsAt b a n * 2 ^ (L - n) * 2 ^ (15 - L) < (cnum t i + 1) * 2 ^ (15 - L) := by rw [Int.add_mul, Int.one_mul]; exact t2
      have u1 := Int.le_of_mul_le_mul_right t1 hPp
      have u2 := Int.lt_of_mul_lt_mul_right t2' (by omega)
      have u3 : cnum t i = bitsAt b a n * 2 ^ (L - n) := by omega
      rw [u3, hL, show ((L : Int) - n).toNat = L - n by omega, Int.mul_ediv_cancel _ (by have := p2 (L - n); omega)]
theorem num_ok (t : List Ln) (hv : vldP t) (hs : sumI wS t = 32768) (b : List Int) (a : Int) (ha : 0 ≤ a) : ∀ d n : Nat, n + d = 15 → (∀ i, i < t.length → len t i ≠ 0 → len t i < n → bitsAt b a (len t i).toNat ≠ cnum t i) →
    ((numG t b a (16 - n) n).2.1 = 0 ∧ 0 ≤ (numG t b a (16 - n) n).2.2 ∧ (numG t b a (16 - n) n).2.2 ≤ 8 * b.length) ∨ (numG t b a (16 - n) n).2.1 = 6 := by
  intro d
  induction d with
  | zero =>
    intro n hn hP
    exact num_body t hv hs b a ha 0 n hn hP (fun hyb => by
      rw [gB_iff t hv _ _ _ (Nat.le_refl _)] at hyb
      obtain ⟨i, h1, h2, _⟩ := hyb
      have := lens t hv i h1
      omega)
  | succ d ih =>
    intro n hn hP
    exact num_body t hv hs b a ha (d + 1) n hn hP (fun hyb => ih (n + 1) (by omega) (by
      intro i hi c hlt
      by_cases e : len t i < n
      · exact hP i hi c e
      · rw [gB_iff t hv _ _ _ (Nat.le_refl _)] at hyb
        obtain ⟨k, hk, h2, h3⟩ := hyb
        have hli : len t i = n := by omega
        rw [hli, Int.toNat_natCast, h3]
        have := no_pre t hv i k hi hk (fun e => by subst e; omega) c (by omega)
        rw [hli] at this
        exact this))
theorem dec_ok (t : List Ln) (hv : vldP t) (hs : sumI wS t = 32768) (b : List Int) : ∀ (k : Nat) (a : Int) (l : List S48), 0 ≤ a → a ≤ 8 * b.length →
    ((decL t b k a l).2.2 = 6 ∧ (decL t b k a l).1 = []) ∨ ((decL t b k a l).2.2 = 0 ∧ (decL t b k a l).1.length = l.length + k ∧ (decL t b k a l).2.1 ≤ 8 * b.length)
  | 0, a, l, h0, h1 => .inr ⟨rfl, rfl, h1⟩
  | k + 1, a, l, h0, h1 => by
    simp only [decL]
    rcases num_ok t hv hs b a h0 15 0 (by omega) (fun i _ _ h => by have := lens t hv i (by assumption); omega) with ⟨e1, e2, e3⟩ | e1
    · rw [if_pos e1]
      rcases dec_ok t hv hs b k _ _ e2 e3 with h | ⟨h, h2, h3⟩
      · exact .inl h
      · refine .inr ⟨h, ?_, h3⟩
        rw [h2, List.length_append]
        simp only [List.length_cons, List.length_nil]
        omega
    · rw [if_neg (by rw [e1]; decide), e1]
      exact .inl ⟨rfl, rfl⟩
end Go.Proofs.Ytnadgcdkcabdoaa.Gcm
