import Derived.Test.YtpnmedmghncpiaaAid
import Derived.Test.YtpnmedmghncpiaaHandAid
import Derived.Test.YtpnmedmghncpiaaCod1
import Derived.Test.YtpnmedmghncpiaaCod2
import Derived.Test.YtpnmedmghncpiaaCod3
import Derived.Test.YtpnmedmghncpiaaMod
import Derived.Test.YtpnmedmghncpiaaEnc
import Derived.Test.YtpnmedmghncpiaaMods
-- needs: Aid HandAid Cod1 Cod2 Cod3 Mod Enc Mods
namespace Go.Proofs.Ytpnmedmghncpiaa.States
open Go Go.RowKit Go.Proofs.YtpnmedmghncpiaaW.PrintWords Go.Proofs.YtpnmedmghncpiaaW.PrintLast Go.Proofs.YtpnmedmghncpiaaW.PrintMore Go.Proofs.Ytpnmedmghncpiaa.Aid Go.Proofs.Ytpnmedmghncpiaa.HandAid Go.Proofs.Ytpnmedmghncpiaa.Cod1 Go.Proofs.Ytpnmedmghncpiaa.Cod2 Go.Proofs.Ytpnmedmghncpiaa.Cod3 Go.Proofs.Ytpnmedmghncpiaa.Mod Go.Proofs.Ytpnmedmghncpiaa.Enc Go.Proofs.Ytpnmedmghncpiaa.Mods
set_option linter.unusedVariables false
set_option linter.unusedSimpArgs false
theorem valid_as (A : Option Addr) (c : Nat) (kind : Int) (st : List Int) (vb : Bool) (hv : decide (okModel kind st) = vb) (w : World) (hC : Kd.C (Kd.int .i64) w A st.length st) (hc : st.length ≤ c) :
    Calls Try.prog 15 #[.agg #[.int .i64 kind, .slice A st.length c]] w fun e w' => e = .returned (.bool vb) ∧ Below w.heap.size w w' := by
  subst hv
  exact valid_calls A c kind st w hC hc
/-- What P answers. -/
def pR (mk : Int) (st : List Int) (i : Int) : Int × Int := if okModel mk st then (if 0 ≤ i ∧ i < st.length then (likely mk (rd st i), 0) else (0, 2)) else (0, 10)
/-- What Next answers. -/
def nextR (mk : Int) (st : List Int) (i bit : Int) : Int × List Int × Int := if okModel mk st then (if (0 ≤ i ∧ i < st.length) ∧ (bit = 0 ∨ bit = 1) then (mk, st.set i.toNat (after mk (rd st i) bit), 0) else (0, [], 2)) else (0, [], 10)
set_option maxRecDepth 100000 in
theorem p_good (A : Option Addr) (c : Nat) (mk : Int) (st : List Int) (i : Nat) (w : World) (hC : Kd.C (Kd.int .i64) w A st.length st) (hc : st.length ≤ c) (hm : okModel mk st) (hi : i < st.length) :
    Calls Try.prog 30 #[.agg #[.int .i64 mk, .slice A st.length c], .int .i64 i] w fun e w' => e = .returned (.tuple #[.int .i64 (likely mk (rd st i)), .int .i64 0]) ∧ Below w.heap.size w w' := by
  have hs : okState mk (rd st i) := hm.2.2 _ (rd_mem (by omega) (by omega))
  have hn := hm.2.1
  have HV := Aside0.mk (valid_as A c mk st true (decide_eq_true hm))
  obtain ⟨ad, rfl, hx⟩ := Kd.at_int hC (i : Int) (by omega) (by omega)
  rw [Int.toNat_natCast] at hx
  obtain ⟨b2, hsb2⟩ : ∃ x, w.heap.size = x := ⟨_, rfl⟩
  obtain ⟨W0, hsW0⟩ : ∃ x, w.alloc (.cells #[.int .i64 mk, .slice (some ad) st.length c] 24) = x := ⟨_, rfl⟩
  have HZ2 := Aside0.mk (show W0.heap[b2]? = some (.cells #[.int .i64 mk, .slice (some ad) st.length c] 24 (0, 0)) from hsW0 ▸ hsb2 ▸ heap_new w _)
  have HC := Aside0.mk (show Kd.C (Kd.int .i64) W0 (some ad) st.length st from hsW0 ▸ Kd.C_below hC (below_alloc (Below.refl _ _) _))
  have HX := Aside0.mk (show W0.cell? (ad.add i) = some (.int .i64 (rd st i)) from hsW0 ▸ pw_cell_below (below_alloc (Below.refl _ _) _) hx)
  have HB := Aside0.mk (show Below w.heap.size w W0 from hsW0 ▸ below_alloc (Below.refl _ _) _)
  have h0 : (0 : Int) ≤ (i : Int) := by omega
  have h1 : (i : Int) < (st.length : Int) := by omega
  have k0 : W0.cell? ⟨b2, 0, none⟩ = some (.int .i64 mk) := (blk_cell HZ2.out 0).trans rfl
  have k1 : W0.cell? ⟨b2, 1, none⟩ = some (.slice (some ad) st.length c) := (blk_cell HZ2.out 1).trans rfl
  have hu := Try.underlying24
  clear hC hm hx
  go_enter Try.func30, Try.ntmps30
  go_wp2_with (fail)
  refine (HV.out _ HC.out hc).mono ?_
  rintro e w1 ⟨rfl, hB⟩
  have HZ2 := Aside0.mk (blk_below HZ2.out hB)
  have HX := Aside0.mk (pw_cell_below hB HX.out)
  have HB := Aside0.mk (below_then HB.out HB.out.size hB)
  clear hB k0 k1 hsW0 hsb2
  have k0 : w1.cell? ⟨b2, 0, none⟩ = some (.int .i64 mk) := (blk_cell HZ2.out 0).trans rfl
  have k1 : w1.cell? ⟨b2, 1, none⟩ = some (.slice (some ad) st.length c) := (blk_cell HZ2.out 1).trans rfl
  go_wp2
  clear k0 k1
  have HZ2_0 := Aside0.mk (blk_below HZ2.out (below_drew (Below.refl _ _)))
  have HX_0 := Aside0.mk (pw_cell_below (below_drew (Below.refl _ _)) HX.out)
  have HB_0 := Aside0.mk (below_drew1 HB.out)
  clear HZ2 HX HB
  refine start_ (n := 11) (S := fun w' => w'.cell? ⟨b2, 0, none⟩ = some (.int .i64 mk) ∧ w'.cell? ⟨b2, 1, none⟩ = some (.slice (some ad) st.length c) ∧ w'.cell? (ad.add i) = some (.int .i64 (rd st i))) (ds := []) #[false, false, false, false, false, false, false, false, false, false, false] (by kernel_rfl) rfl rfl ⟨(blk_cell HZ2_0.out 0).trans rfl, (blk_cell HZ2_0.out 1).trans rfl, HX_0.out⟩ (fun hHeld => ?_)
  refine pure_ (i := 1) (N := some 21) (v := ?_) (a' := ?_) #[false, true, false, false, false, false, false, false, false, false, false] rfl rfl (by kernel_rfl) (fun _ _ _ h => h) (Or.inl ⟨by rfl, ?_⟩) ?_ ?_
  rotate_left
  · intro w'
    go_simp
    with_reducible rfl
  rotate_left
  · simp only [Act.put, List.setIfInBounds_toArray, List.set_cons_zero, List.set_cons_succ, i64_w, i32_w]
    rfl
  refine pure_ (i := 3) (N := some 23) (v := ?_) (a' := ?_) #[false, true, false, true, false, false, false, false, false, false, false] rfl rfl (by kernel_rfl) (fun _ _ _ h => h) (Or.inl ⟨by rfl, ?_⟩) ?_ ?_
  rotate_left
  · intro w'
    go_simp
    with_reducible rfl
  rotate_left
  · simp only [Act.put, List.setIfInBounds_toArray, List.set_cons_zero, List.set_cons_succ, i64_w, i32_w]
    rfl
  refine pure_ (i := 5) (N := some 25) (v := ?_) (a' := ?_) #[false, true, false, true, false, true, false, false, false, false, false] rfl rfl (by kernel_rfl) (fun _ _ _ h => h) (Or.inl ⟨by rfl, ?_⟩) ?_ ?_
  rotate_left
  · intro w'
    go_simp
    with_reducible rfl
  rotate_left
  · simp only [Act.put, List.setIfInBounds_toArray, List.set_cons_zero, List.set_cons_succ, i64_w, i32_w]
    rfl
  refine take_ (i := 2) (N := some 22) (v := ?_) (a' := ?_) #[false, true, true, true, false, true, false, false, false, false, false] rfl rfl (by kernel_rfl) (fun _ _ _ h => h) (Or.inl ⟨by rfl, ?_⟩) hHeld ?_ ?_
  rotate_left
  · rintro w' ⟨s0, s1, s2⟩
    go_simp
    with_reducible rfl
  rotate_left
  · simp only [Act.put, List.setIfInBounds_toArray, List.set_cons_zero, List.set_cons_succ, i64_w, i32_w]
    rfl
  refine take_ (i := 4) (N := some 24) (v := ?_) (a' := ?_) #[false, true, true, true, true, true, false, false, false, false, false] rfl rfl (by kernel_rfl) (fun _ _ _ h => h) (Or.inl ⟨by rfl, ?_⟩) hHeld ?_ ?_
  rotate_left
  · rintro w' ⟨s0, s1, s2⟩
    go_simp
    with_reducible rfl
  rotate_left
  · simp only [Act.put, List.setIfInBounds_toArray, List.set_cons_zero, List.set_cons_succ, i64_w, i32_w]
    rfl
  refine pure_ (i := 6) (N := some 26) (v := ?_) (a' := ?_) #[false, true, true, true, true, true, true, false, false, false, false] rfl rfl (by kernel_rfl) (fun _ _ _ h => h) (Or.inl ⟨by rfl, ?_⟩) ?_ ?_
  rotate_left
  · intro w'
    go_simp
    with_reducible rfl
  rotate_left
  · simp only [Act.put, List.setIfInBounds_toArray, List.set_cons_zero, List.set_cons_succ, i64_w, i32_w]
    rfl
  refine take_ (i := 7) (N := some 27) (v := ?_) (a' := ?_) #[false, true, true, true, true, true, true, true, false, false, false] rfl rfl (by kernel_rfl) (fun _ _ _ h => h) (Or.inl ⟨by rfl, ?_⟩) hHeld ?_ ?_
  rotate_left
  · rintro w' ⟨s0, s1, s2⟩
    go_simp
    with_reducible rfl
  rotate_left
  · simp only [Act.put, List.setIfInBounds_toArray, List.set_cons_zero, List.set_cons_succ, i64_w, i32_w]
    rfl
  refine one_ (i := 0) (N := some 20) #[true, true, true, true, true, true, true, true, false, false, false] rfl rfl (by kernel_rfl) (by decide) (fun K hK => ?_)
  refine goes_ Try.func58 (by kernel_rfl) rfl #[] (by rfl) rfl rfl (by simp only [List.map_toArray, List.map_nil]) ?_
  with_reducible refine (chances_calls _).mono ?_
  rintro e wk1 ⟨rfl, hk1⟩
  refine ⟨_, rfl, ?_⟩
  have HZ2_1 := Aside0.mk (blk_below HZ2_0.out hk1)
  have HX_1 := Aside0.mk (pw_cell_below hk1 HX_0.out)
  have HB_1 := Aside0.mk (below_then HB_0.out HB_0.out.size hk1)
  clear HZ2_0 HX_0 HB_0 hk1
  refine hK.out _ _ ⟨(blk_cell HZ2_1.out 0).trans rfl, (blk_cell HZ2_1.out 1).trans rfl, HX_1.out⟩ (fun hHeld => ?_)
  clear hK K
  refine norm_ (a' := ?_) ?_ ?_
  rotate_left
  · show Act.put _ (some 20) _ = _
    simp only [Act.put, List.setIfInBounds_toArray, List.set_cons_zero, List.set_cons_succ, i64_w, i32_w]
    rfl
  refine one_ (i := 8) (N := some 28) #[true, true, true, true, true, true, true, true, true, false, false] rfl rfl (by kernel_rfl) (by decide) (fun K hK => ?_)
  refine goes_ Try.func59 (by kernel_rfl) rfl #[.agg qtab, .int .i64 mk, .int .i64 (rd st i)] (by rfl) rfl rfl (by simp only [List.map_toArray, List.map_cons, List.map_nil]; rfl) ?_
  with_reducible refine (chance_calls mk (rd st i) _ hs).mono ?_
  rintro e wk2 ⟨rfl, hk2⟩
  refine ⟨_, rfl, ?_⟩
  have HZ2_2 := Aside0.mk (blk_below HZ2_1.out hk2)
  have HX_2 := Aside0.mk (pw_cell_below hk2 HX_1.out)
  have HB_2 := Aside0.mk (below_then HB_1.out HB_1.out.size hk2)
  clear HZ2_1 HX_1 HB_1 hk2
  refine hK.out _ _ ⟨(blk_cell HZ2_2.out 0).trans rfl, (blk_cell HZ2_2.out 1).trans rfl, HX_2.out⟩ (fun hHeld => ?_)
  clear hK K
  refine norm_ (a' := ?_) ?_ ?_
  rotate_left
  · show Act.put _ (some 28) _ = _
    simp only [Act.put, List.setIfInBounds_toArray, List.set_cons_zero, List.set_cons_succ, i64_w, i32_w]
    rfl
  refine pure_ (i := 9) (N := some 4) (v := ?_) (a' := ?_) #[true, true, true, true, true, true, true, true, true, true, false] rfl rfl (by kernel_rfl) (fun _ _ _ h => h) (Or.inl ⟨by rfl, ?_⟩) ?_ ?_
  rotate_left
  · intro w'
    go_simp
    with_reducible rfl
  rotate_left
  · simp only [Act.put, List.setIfInBounds_toArray, List.set_cons_zero, List.set_cons_succ, i64_w, i32_w]
    rfl
  refine pure_ (i := 10) (N := some 5) (v := ?_) (a' := ?_) #[true, true, true, true, true, true, true, true, true, true, true] rfl rfl (by kernel_rfl) (fun _ _ _ h => h) (Or.inl ⟨by rfl, ?_⟩) ?_ ?_
  rotate_left
  · intro w'
    go_simp
    with_reducible rfl
  rotate_left
  · simp only [Act.put, List.setIfInBounds_toArray, List.set_cons_zero, List.set_cons_succ, i64_w, i32_w]
    rfl
  refine done_ (by kernel_rfl) ?_

  have HZ2 := HZ2_2
  have HX := HX_2
  have HB := HB_2
  clear HZ2_2 HX_2 HB_2
  go_wp2
  go_ret2
  exact ⟨rfl, HB.out⟩
theorem p_bad1 (A : Option Addr) (c : Nat) (mk : Int) (st : List Int) (i : Int) (w : World) (hC : Kd.C (Kd.int .i64) w A st.length st) (hc : st.length ≤ c) (hm : ¬ okModel mk st) :
    Calls Try.prog 30 #[.agg #[.int .i64 mk, .slice A st.length c], .int .i64 i] w fun e w' => e = .returned (.tuple #[.int .i64 0, .int .i64 10]) ∧ Below w.heap.size w w' := by
  have HV := Aside0.mk (valid_as A c mk st false (decide_eq_false hm))
  obtain ⟨b2, hsb2⟩ : ∃ x, w.heap.size = x := ⟨_, rfl⟩
  obtain ⟨W0, hsW0⟩ : ∃ x, w.alloc (.cells #[.int .i64 mk, .slice A st.length c] 24) = x := ⟨_, rfl⟩
  have HZ2 := Aside0.mk (show W0.heap[b2]? = some (.cells #[.int .i64 mk, .slice A st.length c] 24 (0, 0)) from hsW0 ▸ hsb2 ▸ heap_new w _)
  have HC := Aside0.mk (show Kd.C (Kd.int .i64) W0 A st.length st from hsW0 ▸ Kd.C_below hC (below_alloc (Below.refl _ _) _))
  have HB := Aside0.mk (show Below w.heap.size w W0 from hsW0 ▸ below_alloc (Below.refl _ _) _)
  have k0 : W0.cell? ⟨b2, 0, none⟩ = some (.int .i64 mk) := (blk_cell HZ2.out 0).trans rfl
  have k1 : W0.cell? ⟨b2, 1, none⟩ = some (.slice A st.length c) := (blk_cell HZ2.out 1).trans rfl
  have hu := Try.underlying24
  clear hC hm
  go_enter Try.func30, Try.ntmps30
  go_wp2_with (fail)
  refine (HV.out _ HC.out hc).mono ?_
  rintro e w1 ⟨rfl, hB⟩
  have HZ2 := Aside0.mk (blk_below HZ2.out hB)
  have HB := Aside0.mk (below_then HB.out HB.out.size hB)
  clear hB k0 k1 hsW0 hsb2
  have k0 : w1.cell? ⟨b2, 0, none⟩ = some (.int .i64 mk) := (blk_cell HZ2.out 0).trans rfl
  have k1 : w1.cell? ⟨b2, 1, none⟩ = some (.slice A st.length c) := (blk_cell HZ2.out 1).trans rfl
  go_wp2
  go_ret2
  exact ⟨rfl, HB.out⟩
theorem p_bad2 (A : Option Addr) (c : Nat) (mk : Int) (st : List Int) (i : Int) (w : World) (hC : Kd.C (Kd.int .i64) w A st.length st) (hc : st.length ≤ c) (hm : okModel mk st) (hi : i < 0 ∨ st.length ≤ i) :
    Calls Try.prog 30 #[.agg #[.int .i64 mk, .slice A st.length c], .int .i64 i] w fun e w' => e = .returned (.tuple #[.int .i64 0, .int .i64 2]) ∧ Below w.heap.size w w' := by
  have HV := Aside0.mk (valid_as A c mk st true (decide_eq_true hm))
  obtain ⟨b2, hsb2⟩ : ∃ x, w.heap.size = x := ⟨_, rfl⟩
  obtain ⟨W0, hsW0⟩ : ∃ x, w.alloc (.cells #[.int .i64 mk, .slice A st.length c] 24) = x := ⟨_, rfl⟩
  have HZ2 := Aside0.mk (show W0.heap[b2]? = some (.cells #[.int .i64 mk, .slice A st.length c] 24 (0, 0)) from hsW0 ▸ hsb2 ▸ heap_new w _)
  have HC := Aside0.mk (show Kd.C (Kd.int .i64) W0 A st.length st from hsW0 ▸ Kd.C_below hC (below_alloc (Below.refl _ _) _))
  have HB := Aside0.mk (show Below w.heap.size w W0 from hsW0 ▸ below_alloc (Below.refl _ _) _)
  have k0 : W0.cell? ⟨b2, 0, none⟩ = some (.int .i64 mk) := (blk_cell HZ2.out 0).trans rfl
  have k1 : W0.cell? ⟨b2, 1, none⟩ = some (.slice A st.length c) := (blk_cell HZ2.out 1).trans rfl
  have hu := Try.underlying24
  clear hC hm
  by_cases c1 : i < 0
  · clear hi
    go_enter Try.func30, Try.ntmps30
    go_wp2_with (fail)
    refine (HV.out _ HC.out hc).mono ?_
    rintro e w1 ⟨rfl, hB⟩
    have HZ2 := Aside0.mk (blk_below HZ2.out hB)
    have HB := Aside0.mk (below_then HB.out HB.out.size hB)
    clear hB k0 k1 hsW0 hsb2
    have k0 : w1.cell? ⟨b2, 0, none⟩ = some (.int .i64 mk) := (blk_cell HZ2.out 0).trans rfl
    have k1 : w1.cell? ⟨b2, 1, none⟩ = some (.slice A st.length c) := (blk_cell HZ2.out 1).trans rfl
    go_wp2
    go_ret2
    exact ⟨rfl, HB.out⟩
  · have c2 : (st.length : Int) ≤ i := by omega
    clear hi
    go_enter Try.func30, Try.ntmps30
    go_wp2_with (fail)
    refine (HV.out _ HC.out hc).mono ?_
    rintro e w1 ⟨rfl, hB⟩
    have HZ2 := Aside0.mk (blk_below HZ2.out hB)
    have HB := Aside0.mk (below_then HB.out HB.out.size hB)
    clear hB k0 k1 hsW0 hsb2
    have k0 : w1.cell? ⟨b2, 0, none⟩ = some (.int .i64 mk) := (blk_cell HZ2.out 0).trans rfl
    have k1 : w1.cell? ⟨b2, 1, none⟩ = some (.slice A st.length c) := (blk_cell HZ2.out 1).trans rfl
    go_wp2
    go_ret2
    exact ⟨rfl, HB.out⟩
theorem p_calls (A : Option Addr) (c : Nat) (mk : Int) (st : List Int) (i : Int) (w : World) (hC : Kd.C (Kd.int .i64) w A st.length st) (hc : st.length ≤ c) :
    Calls Try.prog 30 #[.agg #[.int .i64 mk, .slice A st.length c], .int .i64 i] w fun e w' => e = .returned (.tuple #[.int .i64 (pR mk st i).1, .int .i64 (pR mk st i).2]) ∧ Below w.heap.size w w' := by
  unfold pR
  by_cases hm : okModel mk st
  · rw [if_pos hm]
    by_cases hi : 0 ≤ i ∧ i < st.length
    · rw [if_pos hi]
      obtain ⟨j, rfl⟩ : ∃ j : Nat, i = (j : Int) := ⟨i.toNat, by omega⟩
      exact p_good A c mk st j w hC hc hm (by omega)
    · rw [if_neg hi]
      exact p_bad2 A c mk st i w hC hc hm (by omega)
  · rw [if_neg hm]
    exact p_bad1 A c mk st i w hC hc hm
def NextPost (w : World) (r : Int × List Int × Int) (e : Ending) (w' : World) : Prop :=
  ∃ A' c', e = .returned (.tuple #[.agg #[.int .i64 r.1, .slice A' r.2.1.length c'], .int .i64 r.2.2]) ∧ Kd.R (Kd.int .i64) 3 w' w.heap.size (fun _ => True) (.slice A' r.2.1.length c') r.2.1 ∧ Below w.heap.size w w'
set_option maxRecDepth 100000 in
theorem next_bad1 (A : Option Addr) (c : Nat) (mk : Int) (st : List Int) (i bit : Int) (w : World) (hC : Kd.C (Kd.int .i64) w A st.length st) (hc : st.length ≤ c) (hm : ¬ okModel mk st) :
    Calls Try.prog 31 #[.agg #[.int .i64 mk, .slice A st.length c], .int .i64 i, .int .i64 bit] w (NextPost w (0, [], 10)) := by
  have HV := Aside0.mk (valid_as A c mk st false (decide_eq_false hm))
  obtain ⟨b3, hsb3⟩ : ∃ x, w.heap.size = x := ⟨_, rfl⟩
  obtain ⟨b6, hsb6⟩ : ∃ x, b3 + 1 = x := ⟨_, rfl⟩
  have HWB : Aside0 (w.heap.size ≤ b6) := ⟨by omega⟩
  obtain ⟨W0, hsW0⟩ : ∃ x, (w.alloc (.cells #[.int .i64 mk, .slice A st.length c] 24)).alloc (.cells #[.int .i64 0, .slice none 0 0] 24) = x := ⟨_, rfl⟩
  have HZ3 := Aside0.mk (show W0.heap[b3]? = some (.cells #[.int .i64 mk, .slice A st.length c] 24 (0, 0)) from hsW0 ▸ hsb3 ▸ blk_alloc (heap_new w _) _)
  have HZ6 : Aside0 (W0.heap[b6]? = some (.cells #[.int .i64 0, .slice none 0 0] 24 (0, 0))) := ⟨by
    have h := heap_new (w.alloc (.cells #[.int .i64 mk, .slice A st.length c] 24)) (.cells #[.int .i64 0, .slice none 0 0] 24)
    rw [World.size_alloc, hsb3, hsb6, hsW0] at h
    exact h⟩
  have HB := Aside0.mk (show Below w.heap.size w W0 from hsW0 ▸ below_alloc (below_alloc (Below.refl w.heap.size w) _) _)
  have HC := Aside0.mk (Kd.C_below hC HB.out)
  have k0 : W0.cell? ⟨b3, 0, none⟩ = some (.int .i64 mk) := (blk_cell HZ3.out 0).trans rfl
  have k1 : W0.cell? ⟨b3, 1, none⟩ = some (.slice A st.length c) := (blk_cell HZ3.out 1).trans rfl
  have hu := Try.underlying24
  clear hC hm
  go_enter Try.func31, Try.ntmps31
  go_wp2_with (fail)
  refine (HV.out _ HC.out hc).mono ?_
  rintro e w1 ⟨rfl, hB⟩
  have HZ3 := Aside0.mk (blk_below HZ3.out hB)
  have HZ6 := Aside0.mk (blk_below HZ6.out hB)
  have HB := Aside0.mk (below_then HB.out HB.out.size hB)
  have HC := Aside0.mk (Kd.C_below HC.out hB)
  clear hB k0 k1 hsW0 hsb3 hsb6
  have k0 : w1.cell? ⟨b3, 0, none⟩ = some (.int .i64 mk) := (blk_cell HZ3.out 0).trans rfl
  have k1 : w1.cell? ⟨b3, 1, none⟩ = some (.slice A st.length c) := (blk_cell HZ3.out 1).trans rfl
  have z0 : w1.cell? ⟨b6, 0, none⟩ = some (.int .i64 0) := (blk_cell HZ6.out 0).trans rfl
  have z1 : w1.cell? ⟨b6, 1, none⟩ = some (.slice none 0 0) := (blk_cell HZ6.out 1).trans rfl
  have zf0 := blk_frozen HZ6.out 0
  have zf1 := blk_frozen HZ6.out 1
  go_wp2
  refine bodyPost_ret (results_ct rfl _ _ b6 24 #[.int .i64 0, .slice none 0 0] (0, 0) _ rfl (by refine blk_put (cs := #[.int .i64 0, .slice none 0 0]) ?_ 1 _ rfl; exact blk_put (cs := #[.int .i64 0, .slice none 0 0]) HZ6.out 0 _ rfl) Try.underlying24 rfl (by kernel_rfl)) rfl ?_
  exact ⟨none, 0, rfl, Kd.R_nil _ _ _ _ _, (HB.out.setCell HWB.out _).setCell HWB.out _⟩
set_option maxRecDepth 100000 in
theorem next_bad2 (A : Option Addr) (c : Nat) (mk : Int) (st : List Int) (i bit : Int) (w : World) (hC : Kd.C (Kd.int .i64) w A st.length st) (hc : st.length ≤ c) (hm : okModel mk st) (hi : i < 0 ∨ st.length ≤ i ∨ (bit ≠ 0 ∧ bit ≠ 1)) :
    Calls Try.prog 31 #[.agg #[.int .i64 mk, .slice A st.length c], .int .i64 i, .int .i64 bit] w (NextPost w (0, [], 2)) := by
  have HV := Aside0.mk (valid_as A c mk st true (decide_eq_true hm))
  obtain ⟨b3, hsb3⟩ : ∃ x, w.heap.size = x := ⟨_, rfl⟩
  obtain ⟨b6, hsb6⟩ : ∃ x, b3 + 1 = x := ⟨_, rfl⟩
  have HWB : Aside0 (w.heap.size ≤ b6) := ⟨by omega⟩
  obtain ⟨W0, hsW0⟩ : ∃ x, (w.alloc (.cells #[.int .i64 mk, .slice A st.length c] 24)).alloc (.cells #[.int .i64 0, .slice none 0 0] 24) = x := ⟨_, rfl⟩
  have HZ3 := Aside0.mk (show W0.heap[b3]? = some (.cells #[.int .i64 mk, .slice A st.length c] 24 (0, 0)) from hsW0 ▸ hsb3 ▸ blk_alloc (heap_new w _) _)
  have HZ6 : Aside0 (W0.heap[b6]? = some (.cells #[.int .i64 0, .slice none 0 0] 24 (0, 0))) := ⟨by
    have h := heap_new (w.alloc (.cells #[.int .i64 mk, .slice A st.length c] 24)) (.cells #[.int .i64 0, .slice none 0 0] 24)
    rw [World.size_alloc, hsb3, hsb6, hsW0] at h
    exact h⟩
  have HB := Aside0.mk (show Below w.heap.size w W0 from hsW0 ▸ below_alloc (below_alloc (Below.refl w.heap.size w) _) _)
  have HC := Aside0.mk (Kd.C_below hC HB.out)
  have k0 : W0.cell? ⟨b3, 0, none⟩ = some (.int .i64 mk) := (blk_cell HZ3.out 0).trans rfl
  have k1 : W0.cell? ⟨b3, 1, none⟩ = some (.slice A st.length c) := (blk_cell HZ3.out 1).trans rfl
  have hu := Try.underlying24
  clear hC hm
  by_cases c1 : i < 0
  · clear hi
    go_enter Try.func31, Try.ntmps31
    go_wp2_with (fail)
    refine (HV.out _ HC.out hc).mono ?_
    rintro e w1 ⟨rfl, hB⟩
    have HZ3 := Aside0.mk (blk_below HZ3.out hB)
    have HZ6 := Aside0.mk (blk_below HZ6.out hB)
    have HB := Aside0.mk (below_then HB.out HB.out.size hB)
    have HC := Aside0.mk (Kd.C_below HC.out hB)
    clear hB k0 k1 hsW0 hsb3 hsb6
    have k0 : w1.cell? ⟨b3, 0, none⟩ = some (.int .i64 mk) := (blk_cell HZ3.out 0).trans rfl
    have k1 : w1.cell? ⟨b3, 1, none⟩ = some (.slice A st.length c) := (blk_cell HZ3.out 1).trans rfl
    have z0 : w1.cell? ⟨b6, 0, none⟩ = some (.int .i64 0) := (blk_cell HZ6.out 0).trans rfl
    have z1 : w1.cell? ⟨b6, 1, none⟩ = some (.slice none 0 0) := (blk_cell HZ6.out 1).trans rfl
    have zf0 := blk_frozen HZ6.out 0
    have zf1 := blk_frozen HZ6.out 1
    go_wp2
    refine bodyPost_ret (results_ct rfl _ _ b6 24 #[.int .i64 0, .slice none 0 0] (0, 0) _ rfl (by refine blk_put (cs := #[.int .i64 0, .slice none 0 0]) ?_ 1 _ rfl; exact blk_put (cs := #[.int .i64 0, .slice none 0 0]) HZ6.out 0 _ rfl) Try.underlying24 rfl (by kernel_rfl)) rfl ?_
    exact ⟨none, 0, rfl, Kd.R_nil _ _ _ _ _, (HB.out.setCell HWB.out _).setCell HWB.out _⟩
  by_cases c2 : (st.length : Int) ≤ i
  · clear hi
    go_enter Try.func31, Try.ntmps31
    go_wp2_with (fail)
    refine (HV.out _ HC.out hc).mono ?_
    rintro e w1 ⟨rfl, hB⟩
    have HZ3 := Aside0.mk (blk_below HZ3.out hB)
    have HZ6 := Aside0.mk (blk_below HZ6.out hB)
    have HB := Aside0.mk (below_then HB.out HB.out.size hB)
    have HC := Aside0.mk (Kd.C_below HC.out hB)
    clear hB k0 k1 hsW0 hsb3 hsb6
    have k0 : w1.cell? ⟨b3, 0, none⟩ = some (.int .i64 mk) := (blk_cell HZ3.out 0).trans rfl
    have k1 : w1.cell? ⟨b3, 1, none⟩ = some (.slice A st.length c) := (blk_cell HZ3.out 1).trans rfl
    have z0 : w1.cell? ⟨b6, 0, none⟩ = some (.int .i64 0) := (blk_cell HZ6.out 0).trans rfl
    have z1 : w1.cell? ⟨b6, 1, none⟩ = some (.slice none 0 0) := (blk_cell HZ6.out 1).trans rfl
    have zf0 := blk_frozen HZ6.out 0
    have zf1 := blk_frozen HZ6.out 1
    go_wp2
    refine bodyPost_ret (results_ct rfl _ _ b6 24 #[.int .i64 0, .slice none 0 0] (0, 0) _ rfl (by refine blk_put (cs := #[.int .i64 0, .slice none 0 0]) ?_ 1 _ rfl; exact blk_put (cs := #[.int .i64 0, .slice none 0 0]) HZ6.out 0 _ rfl) Try.underlying24 rfl (by kernel_rfl)) rfl ?_
    exact ⟨none, 0, rfl, Kd.R_nil _ _ _ _ _, (HB.out.setCell HWB.out _).setCell HWB.out _⟩
  have q0 : bit ≠ 0 := by rcases hi with h | h | h <;> omega
  have q1 : bit ≠ 1 := by rcases hi with h | h | h <;> omega
  have e0 : (bit != 0) = true := by simpa using q0
  have e1 : (bit != 1) = true := by simpa using q1
  clear hi q0 q1
  go_enter Try.func31, Try.ntmps31
  go_wp2_with (fail)
  refine (HV.out _ HC.out hc).mono ?_
  rintro e w1 ⟨rfl, hB⟩
  have HZ3 := Aside0.mk (blk_below HZ3.out hB)
  have HZ6 := Aside0.mk (blk_below HZ6.out hB)
  have HB := Aside0.mk (below_then HB.out HB.out.size hB)
  have HC := Aside0.mk (Kd.C_below HC.out hB)
  clear hB k0 k1 hsW0 hsb3 hsb6
  have k0 : w1.cell? ⟨b3, 0, none⟩ = some (.int .i64 mk) := (blk_cell HZ3.out 0).trans rfl
  have k1 : w1.cell? ⟨b3, 1, none⟩ = some (.slice A st.length c) := (blk_cell HZ3.out 1).trans rfl
  have z0 : w1.cell? ⟨b6, 0, none⟩ = some (.int .i64 0) := (blk_cell HZ6.out 0).trans rfl
  have z1 : w1.cell? ⟨b6, 1, none⟩ = some (.slice none 0 0) := (blk_cell HZ6.out 1).trans rfl
  have zf0 := blk_frozen HZ6.out 0
  have zf1 := blk_frozen HZ6.out 1
  go_wp2
  refine bodyPost_ret (results_ct rfl _ _ b6 24 #[.int .i64 0, .slice none 0 0] (0, 0) _ rfl (by refine blk_put (cs := #[.int .i64 0, .slice none 0 0]) ?_ 1 _ rfl; exact blk_put (cs := #[.int .i64 0, .slice none 0 0]) HZ6.out 0 _ rfl) Try.underlying24 rfl (by kernel_rfl)) rfl ?_
  exact ⟨none, 0, rfl, Kd.R_nil _ _ _ _ _, (HB.out.setCell HWB.out _).setCell HWB.out _⟩
set_option maxHeartbeats 2000000 in
set_option maxRecDepth 100000 in
theorem next_good0 (A : Option Addr) (c : Nat) (mk : Int) (st : List Int) (i : Nat) (w : World) (hC : Kd.C (Kd.int .i64) w A st.length st) (hc : st.length ≤ c) (hm : okModel mk st) (hi : i < st.length) :
    Calls Try.prog 31 #[.agg #[.int .i64 mk, .slice A st.length c], .int .i64 i, .int .i64 0] w (NextPost w (mk, st.set i (after mk (rd st i) 0), 0)) := by
  have hs : okState mk (rd st i) := hm.2.2 _ (rd_mem (by omega) (by omega))
  have hn := hm.2.1
  have HV := Aside0.mk (valid_as A c mk st true (decide_eq_true hm))
  obtain ⟨ad, rfl, hx⟩ := Kd.at_int hC (i : Int) (by omega) (by omega)
  rw [Int.toNat_natCast] at hx
  obtain ⟨b3, hsb3⟩ : ∃ x, w.heap.size = x := ⟨_, rfl⟩
  obtain ⟨b6, hsb6⟩ : ∃ x, b3 + 1 = x := ⟨_, rfl⟩
  have HWB : Aside0 (w.heap.size ≤ b6) := ⟨by omega⟩
  obtain ⟨W0, hsW0⟩ : ∃ x, (w.alloc (.cells #[.int .i64 mk, .slice (some ad) st.length c] 24)).alloc (.cells #[.int .i64 0, .slice none 0 0] 24) = x := ⟨_, rfl⟩
  have HZ3 := Aside0.mk (show W0.heap[b3]? = some (.cells #[.int .i64 mk, .slice (some ad) st.length c] 24 (0, 0)) from hsW0 ▸ hsb3 ▸ blk_alloc (heap_new w _) _)
  have HZ6 : Aside0 (W0.heap[b6]? = some (.cells #[.int .i64 0, .slice none 0 0] 24 (0, 0))) := ⟨by
    have h := heap_new (w.alloc (.cells #[.int .i64 mk, .slice (some ad) st.length c] 24)) (.cells #[.int .i64 0, .slice none 0 0] 24)
    rw [World.size_alloc, hsb3, hsb6, hsW0] at h
    exact h⟩
  have HB := Aside0.mk (show Below w.heap.size w W0 from hsW0 ▸ below_alloc (below_alloc (Below.refl w.heap.size w) _) _)
  have HC := Aside0.mk (Kd.C_below hC HB.out)
  have k0 : W0.cell? ⟨b3, 0, none⟩ = some (.int .i64 mk) := (blk_cell HZ3.out 0).trans rfl
  have k1 : W0.cell? ⟨b3, 1, none⟩ = some (.slice (some ad) st.length c) := (blk_cell HZ3.out 1).trans rfl
  have hu := Try.underlying24
  have HX := Aside0.mk (pw_cell_below HB.out hx)
  have h0 : (0 : Int) ≤ (i : Int) := by omega
  have h1 : (i : Int) < (st.length : Int) := by omega
  clear hC hm hx
  go_enter Try.func31, Try.ntmps31
  go_wp2_with (fail)
  refine (HV.out _ HC.out hc).mono ?_
  rintro e w1 ⟨rfl, hB⟩
  have HZ3 := Aside0.mk (blk_below HZ3.out hB)
  have HZ6 := Aside0.mk (blk_below HZ6.out hB)
  have HB := Aside0.mk (below_then HB.out HB.out.size hB)
  have HC := Aside0.mk (Kd.C_below HC.out hB)
  have HX := Aside0.mk (pw_cell_below hB HX.out)
  clear hB k0 k1 hsW0 hsb3 hsb6
  have k0 : w1.cell? ⟨b3, 0, none⟩ = some (.int .i64 mk) := (blk_cell HZ3.out 0).trans rfl
  have k1 : w1.cell? ⟨b3, 1, none⟩ = some (.slice (some ad) st.length c) := (blk_cell HZ3.out 1).trans rfl
  go_wp2_with (fail)
  refine (clone_calls (some ad) c mk st _ HC.out hc (by omega)).mono ?_
  rintro e w2 ⟨A8, c8, rfl, hR, hB⟩
  have hR := Kd.R_lower hR HB.out.size
  obtain ⟨g8, cap8, hv8, _, _, _⟩ := Kd.R_form hR (by omega)
  injection hv8 with hA8 hn8 hc8
  clear hn8
  subst hA8 hc8
  obtain ⟨b8, hsb8⟩ : ∃ x, w2.heap.size = x := ⟨_, rfl⟩
  obtain ⟨W2, hsW2⟩ : ∃ x, w2.alloc (.cells #[.int .i64 mk, .slice (some ⟨g8, 0, none⟩) st.length c8] 24) = x := ⟨_, rfl⟩
  have hB2 : Below w1.heap.size w1 W2 := hsW2 ▸ below_alloc hB _
  have HZ8 := Aside0.mk (show W2.heap[b8]? = some (.cells #[.int .i64 mk, .slice (some ⟨g8, 0, none⟩) st.length c8] 24 (0, 0)) from hsW2 ▸ hsb8 ▸ heap_new w2 _)
  have HR8 := Aside0.mk (show Kd.R (Kd.int .i64) 3 W2 w.heap.size (fun _ => True) (.slice (some ⟨g8, 0, none⟩) st.length c8) st from hsW2 ▸ Kd.R_alloc hR _)
  have HZ3 := Aside0.mk (blk_below HZ3.out hB2)
  have HZ6 := Aside0.mk (blk_below HZ6.out hB2)
  have HX := Aside0.mk (pw_cell_below hB2 HX.out)
  have HB := Aside0.mk (below_then HB.out HB.out.size hB2)
  clear hB hB2 hR k0 k1 HC
  go_wp2
  clear hsW2 hsb8
  have p0 : W2.cell? ⟨b8, 1, none⟩ = some (.slice (some ⟨g8, 0, none⟩) st.length c8) := (blk_cell HZ8.out 1).trans rfl
  have p1 : W2.cell? ⟨b3, 0, none⟩ = some (.int .i64 mk) := (blk_cell HZ3.out 0).trans rfl
  have p2 : W2.cell? ⟨b3, 1, none⟩ = some (.slice (some ad) st.length c) := (blk_cell HZ3.out 1).trans rfl
  have p3 := HX.out
  refine start_ (n := 14) (S := fun w' => w'.cell? ⟨b8, 1, none⟩ = some (.slice (some ⟨g8, 0, none⟩) st.length c8) ∧ w'.cell? ⟨b3, 0, none⟩ = some (.int .i64 mk) ∧ w'.cell? ⟨b3, 1, none⟩ = some (.slice (some ad) st.length c) ∧ w'.cell? (ad.add i) = some (.int .i64 (rd st i))) (ds := [13]) #[false, false, false, false, false, false, false, false, false, false, false, false, false, false] (by kernel_rfl) rfl rfl ⟨p0, p1, p2, p3⟩ (fun hHeld => ?_)
  refine pure_ (i := 0) (N := some 35) (v := ?_) (a' := ?_) #[true, false, false, false, false, false, false, false, false, false, false, false, false, false] rfl rfl (by kernel_rfl) (fun _ _ _ h => h) (Or.inl ⟨by rfl, ?_⟩) ?_ ?_
  rotate_left
  · intro w'
    go_simp
    with_reducible rfl
  rotate_left
  · simp only [Act.put, List.setIfInBounds_toArray, List.set_cons_zero, List.set_cons_succ, i64_w, i32_w]
    rfl
  refine pure_ (i := 2) (N := some 37) (v := ?_) (a' := ?_) #[true, false, true, false, false, false, false, false, false, false, false, false, false, false] rfl rfl (by kernel_rfl) (fun _ _ _ h => h) (Or.inl ⟨by rfl, ?_⟩) ?_ ?_
  rotate_left
  · intro w'
    go_simp
    with_reducible rfl
  rotate_left
  · simp only [Act.put, List.setIfInBounds_toArray, List.set_cons_zero, List.set_cons_succ, i64_w, i32_w]
    rfl
  refine pure_ (i := 3) (N := some 38) (v := ?_) (a' := ?_) #[true, false, true, true, false, false, false, false, false, false, false, false, false, false] rfl rfl (by kernel_rfl) (fun _ _ _ h => h) (Or.inl ⟨by rfl, ?_⟩) ?_ ?_
  rotate_left
  · intro w'
    go_simp
    with_reducible rfl
  rotate_left
  · simp only [Act.put, List.setIfInBounds_toArray, List.set_cons_zero, List.set_cons_succ, i64_w, i32_w]
    rfl
  refine pure_ (i := 5) (N := some 40) (v := ?_) (a' := ?_) #[true, false, true, true, false, true, false, false, false, false, false, false, false, false] rfl rfl (by kernel_rfl) (fun _ _ _ h => h) (Or.inl ⟨by rfl, ?_⟩) ?_ ?_
  rotate_left
  · intro w'
    go_simp
    with_reducible rfl
  rotate_left
  · simp only [Act.put, List.setIfInBounds_toArray, List.set_cons_zero, List.set_cons_succ, i64_w, i32_w]
    rfl
  refine pure_ (i := 7) (N := some 42) (v := ?_) (a' := ?_) #[true, false, true, true, false, true, false, true, false, false, false, false, false, false] rfl rfl (by kernel_rfl) (fun _ _ _ h => h) (Or.inl ⟨by rfl, ?_⟩) ?_ ?_
  rotate_left
  · intro w'
    go_simp
    with_reducible rfl
  rotate_left
  · simp only [Act.put, List.setIfInBounds_toArray, List.set_cons_zero, List.set_cons_succ, i64_w, i32_w]
    rfl
  refine pure_ (i := 10) (N := some 45) (v := ?_) (a' := ?_) #[true, false, true, true, false, true, false, true, false, false, true, false, false, false] rfl rfl (by kernel_rfl) (fun _ _ _ h => h) (Or.inl ⟨by rfl, ?_⟩) ?_ ?_
  rotate_left
  · intro w'
    go_simp
    with_reducible rfl
  rotate_left
  · simp only [Act.put, List.setIfInBounds_toArray, List.set_cons_zero, List.set_cons_succ, i64_w, i32_w]
    rfl
  refine take_ (i := 1) (N := some 36) (v := ?_) (a' := ?_) #[true, true, true, true, false, true, false, true, false, false, true, false, false, false] rfl rfl (by kernel_rfl) (fun _ _ _ h => h) (Or.inl ⟨by rfl, ?_⟩) hHeld ?_ ?_
  rotate_left
  · rintro w' ⟨s0, s1, s2, s3⟩
    go_simp
    with_reducible rfl
  rotate_left
  · simp only [Act.put, List.setIfInBounds_toArray, List.set_cons_zero, List.set_cons_succ, i64_w, i32_w]
    rfl
  refine take_ (i := 4) (N := some 39) (v := ?_) (a' := ?_) #[true, true, true, true, true, true, false, true, false, false, true, false, false, false] rfl rfl (by kernel_rfl) (fun _ _ _ h => h) (Or.inl ⟨by rfl, ?_⟩) hHeld ?_ ?_
  rotate_left
  · rintro w' ⟨s0, s1, s2, s3⟩
    go_simp
    with_reducible rfl
  rotate_left
  · simp only [Act.put, List.setIfInBounds_toArray, List.set_cons_zero, List.set_cons_succ, i64_w, i32_w]
    rfl
  refine take_ (i := 6) (N := some 41) (v := ?_) (a' := ?_) #[true, true, true, true, true, true, true, true, false, false, true, false, false, false] rfl rfl (by kernel_rfl) (fun _ _ _ h => h) (Or.inl ⟨by rfl, ?_⟩) hHeld ?_ ?_
  rotate_left
  · rintro w' ⟨s0, s1, s2, s3⟩
    go_simp
    with_reducible rfl
  rotate_left
  · simp only [Act.put, List.setIfInBounds_toArray, List.set_cons_zero, List.set_cons_succ, i64_w, i32_w]
    rfl
  refine pure_ (i := 8) (N := some 43) (v := ?_) (a' := ?_) #[true, true, true, true, true, true, true, true, true, false, true, false, false, false] rfl rfl (by kernel_rfl) (fun _ _ _ h => h) (Or.inl ⟨by rfl, ?_⟩) ?_ ?_
  rotate_left
  · intro w'
    go_simp
    with_reducible rfl
  rotate_left
  · simp only [Act.put, List.setIfInBounds_toArray, List.set_cons_zero, List.set_cons_succ, i64_w, i32_w]
    rfl
  refine take_ (i := 9) (N := some 44) (v := ?_) (a' := ?_) #[true, true, true, true, true, true, true, true, true, true, true, false, false, false] rfl rfl (by kernel_rfl) (fun _ _ _ h => h) (Or.inl ⟨by rfl, ?_⟩) hHeld ?_ ?_
  rotate_left
  · rintro w' ⟨s0, s1, s2, s3⟩
    go_simp
    with_reducible rfl
  rotate_left
  · simp only [Act.put, List.setIfInBounds_toArray, List.set_cons_zero, List.set_cons_succ, i64_w, i32_w]
    rfl
  refine one_ (i := 11) (N := some 46) #[true, true, true, true, true, true, true, true, true, true, true, true, false, false] rfl rfl (by kernel_rfl) (by decide) (fun K hK => ?_)
  refine goes_ Try.func60 (by kernel_rfl) rfl #[.int .i64 mk, .int .i64 (rd st i), .int .i64 0] (by rfl) rfl rfl (by simp only [List.map_toArray, List.map_cons, List.map_nil]; rfl) ?_
  with_reducible refine (next_calls mk (rd st i) 0 _ hs (by decide)).mono ?_
  rintro e w6 ⟨rfl, hb6⟩
  refine ⟨_, rfl, ?_⟩
  have hb6' := below_undrew1 hb6
  have HZ3 := Aside0.mk (blk_below HZ3.out hb6')
  have HZ6 := Aside0.mk (blk_below HZ6.out hb6')
  have HZ8 := Aside0.mk (blk_below HZ8.out hb6')
  have HX := Aside0.mk (pw_cell_below hb6' HX.out)
  have HR8 := Aside0.mk (Kd.R_below HR8.out hb6')
  have HB := Aside0.mk (below_then HB.out HB.out.size hb6')
  have c6 := (Kd.R_cell (0 : Int) HR8.out (i : Int) (by omega) (by omega)).1
  have f6 := (Kd.R_cell (0 : Int) HR8.out (i : Int) (by omega) (by omega)).2
  rw [Int.toNat_natCast] at c6 f6
  clear hb6 hb6'
  refine hK.out _ _ ⟨(blk_cell HZ8.out 1).trans rfl, (blk_cell HZ3.out 0).trans rfl, (blk_cell HZ3.out 1).trans rfl, HX.out⟩ (fun hHeld => ?_)
  clear hK K
  refine norm_ (a' := ?_) ?_ ?_
  rotate_left
  · show Act.put _ (some 46) _ = _
    simp only [Act.put, List.setIfInBounds_toArray, List.set_cons_zero, List.set_cons_succ, i64_w, i32_w]
    rfl
  refine pure_ (i := 12) (N := some 47) (v := ?_) (a' := ?_) #[true, true, true, true, true, true, true, true, true, true, true, true, true, false] rfl rfl (by kernel_rfl) (fun _ _ _ h => h) (Or.inl ⟨by rfl, ?_⟩) ?_ ?_
  rotate_left
  · intro w'
    go_simp
    with_reducible rfl
  rotate_left
  · simp only [Act.put, List.setIfInBounds_toArray, List.set_cons_zero, List.set_cons_succ, i64_w, i32_w]
    rfl
  refine last_ (i := 13) (N := none) #[true, true, true, true, true, true, true, true, true, true, true, true, true, true] rfl rfl (by kernel_rfl) (by decide) (fun K hK => ?_)
  refine skip_ (w1 := ?_) (by rfl) rfl ?_ ?_
  rotate_left
  · go_simp
    rfl
  refine hK.out _ _ ?_
  clear hK K
  refine done_ (by kernel_rfl) ?_

  clear p0 p1 p2 p3
  obtain ⟨w7, hw7⟩ : ∃ x, w6.setCell ⟨g8, i, none⟩ (.int .i64 (after mk (rd st i) 0)) = x := ⟨_, rfl⟩
  have hgg : some g8 = (Value.slice (some ⟨g8, 0, none⟩) st.length c8).ownBlock := by simp [Value.ownBlock]
  obtain ⟨cells8, hty⟩ := Kd.R_typed HR8.out g8 hgg.symm
  have hbase := Kd.R_base HR8.out g8 hgg.symm
  have hput := (Kd.R_put (enc := Value.int .i64) HR8.out (i : Int) (after mk (rd st i) 0)).1
  rw [Int.toNat_natCast] at hput
  have HR9 := Aside0.mk (show Kd.R (Kd.int .i64) 3 w7 w.heap.size (fun _ => True) (.slice (some ⟨g8, 0, none⟩) st.length c8) (st.set i (after mk (rd st i) 0)) from hw7 ▸ hput)
  have HZ6' := Aside0.mk (show w7.heap[b6]? = _ from hw7 ▸ blk_far HZ6.out (blk_ne HZ6.out hty (by decide)) _)
  have HZ8' := Aside0.mk (show w7.heap[b8]? = _ from hw7 ▸ blk_far HZ8.out (blk_ne HZ8.out hty (by decide)) _)
  have HB' := Aside0.mk (show Below w.heap.size w w7 from hw7 ▸ HB.out.setCell hbase _)
  have HZ6 := HZ6'
  have k0 : w7.cell? ⟨b8, 0, none⟩ = some (.int .i64 mk) := (blk_cell HZ8'.out 0).trans rfl
  have k1 : w7.cell? ⟨b8, 1, none⟩ = some (.slice (some ⟨g8, 0, none⟩) st.length c8) := (blk_cell HZ8'.out 1).trans rfl
  have z0 : w7.cell? ⟨b6, 0, none⟩ = some (.int .i64 0) := (blk_cell HZ6.out 0).trans rfl
  have z1 : w7.cell? ⟨b6, 1, none⟩ = some (.slice none 0 0) := (blk_cell HZ6.out 1).trans rfl
  have zf0 := blk_frozen HZ6.out 0
  have zf1 := blk_frozen HZ6.out 1
  clear hgg hty hbase hput HZ6' c6 f6
  rw [hw7]
  clear hw7
  go_wp2
  refine bodyPost_ret (results_ct rfl _ _ b6 24 #[.int .i64 mk, .slice (some ⟨g8, 0, none⟩) st.length c8] (0, 0) _ rfl (by refine blk_put (cs := #[.int .i64 mk, .slice none 0 0]) ?_ 1 _ rfl; exact blk_put (cs := #[.int .i64 0, .slice none 0 0]) HZ6.out 0 _ rfl) Try.underlying24 rfl (by kernel_rfl)) rfl ?_
  have hz2 : (w7.setCell ⟨b6, 0, none⟩ (.int .i64 mk)).heap[b6]? = some (.cells #[.int .i64 mk, .slice none 0 0] 24 (0, 0)) := blk_put (cs := #[.int .i64 0, .slice none 0 0]) HZ6.out 0 _ rfl
  have hl : (st.set i (after mk (rd st i) 0)).length = st.length := List.length_set
  refine ⟨some ⟨g8, 0, none⟩, c8, by (first | (rw [hl]; rfl) | (simp only [hl]; rfl) | (simp only [hl]; done)), ?_, (HB'.out.setCell HWB.out _).setCell HWB.out _⟩
  show Kd.R _ _ _ _ _ (.slice (some ⟨g8, 0, none⟩) (st.set i (after mk (rd st i) 0)).length c8) (st.set i (after mk (rd st i) 0))
  rw [hl]
  exact Kd.R_set (Kd.R_set HR9.out HZ6.out (by decide) _ _) hz2 (by decide) _ _
set_option maxHeartbeats 2000000 in
set_option maxRecDepth 100000 in
theorem next_good1 (A : Option Addr) (c : Nat) (mk : Int) (st : List Int) (i : Nat) (w : World) (hC : Kd.C (Kd.int .i64) w A st.length st) (hc : st.length ≤ c) (hm : okModel mk st) (hi : i < st.length) :
    Calls Try.prog 31 #[.agg #[.int .i64 mk, .slice A st.length c], .int .i64 i, .int .i64 1] w (NextPost w (mk, st.set i (after mk (rd st i) 1), 0)) := by
  have hs : okState mk (rd st i) := hm.2.2 _ (rd_mem (by omega) (by omega))
  have hn := hm.2.1
  have HV := Aside0.mk (valid_as A c mk st true (decide_eq_true hm))
  obtain ⟨ad, rfl, hx⟩ := Kd.at_int hC (i : Int) (by omega) (by omega)
  rw [Int.toNat_natCast] at hx
  obtain ⟨b3, hsb3⟩ : ∃ x, w.heap.size = x := ⟨_, rfl⟩
  obtain ⟨b6, hsb6⟩ : ∃ x, b3 + 1 = x := ⟨_, rfl⟩
  have HWB : Aside0 (w.heap.size ≤ b6) := ⟨by omega⟩
  obtain ⟨W0, hsW0⟩ : ∃ x, (w.alloc (.cells #[.int .i64 mk, .slice (some ad) st.length c] 24)).alloc (.cells #[.int .i64 0, .slice none 0 0] 24) = x := ⟨_, rfl⟩
  have HZ3 := Aside0.mk (show W0.heap[b3]? = some (.cells #[.int .i64 mk, .slice (some ad) st.length c] 24 (0, 0)) from hsW0 ▸ hsb3 ▸ blk_alloc (heap_new w _) _)
  have HZ6 : Aside0 (W0.heap[b6]? = some (.cells #[.int .i64 0, .slice none 0 0] 24 (0, 0))) := ⟨by
    have h := heap_new (w.alloc (.cells #[.int .i64 mk, .slice (some ad) st.length c] 24)) (.cells #[.int .i64 0, .slice none 0 0] 24)
    rw [World.size_alloc, hsb3, hsb6, hsW0] at h
    exact h⟩
  have HB := Aside0.mk (show Below w.heap.size w W0 from hsW0 ▸ below_alloc (below_alloc (Below.refl w.heap.size w) _) _)
  have HC := Aside0.mk (Kd.C_below hC HB.out)
  have k0 : W0.cell? ⟨b3, 0, none⟩ = some (.int .i64 mk) := (blk_cell HZ3.out 0).trans rfl
  have k1 : W0.cell? ⟨b3, 1, none⟩ = some (.slice (some ad) st.length c) := (blk_cell HZ3.out 1).trans rfl
  have hu := Try.underlying24
  have HX := Aside0.mk (pw_cell_below HB.out hx)
  have h0 : (0 : Int) ≤ (i : Int) := by omega
  have h1 : (i : Int) < (st.length : Int) := by omega
  clear hC hm hx
  go_enter Try.func31, Try.ntmps31
  go_wp2_with (fail)
  refine (HV.out _ HC.out hc).mono ?_
  rintro e w1 ⟨rfl, hB⟩
  have HZ3 := Aside0.mk (blk_below HZ3.out hB)
  have HZ6 := Aside0.mk (blk_below HZ6.out hB)
  have HB := Aside0.mk (below_then HB.out HB.out.size hB)
  have HC := Aside0.mk (Kd.C_below HC.out hB)
  have HX := Aside0.mk (pw_cell_below hB HX.out)
  clear hB k0 k1 hsW0 hsb3 hsb6
  have k0 : w1.cell? ⟨b3, 0, none⟩ = some (.int .i64 mk) := (blk_cell HZ3.out 0).trans rfl
  have k1 : w1.cell? ⟨b3, 1, none⟩ = some (.slice (some ad) st.length c) := (blk_cell HZ3.out 1).trans rfl
  go_wp2_with (fail)
  refine (clone_calls (some ad) c mk st _ HC.out hc (by omega)).mono ?_
  rintro e w2 ⟨A8, c8, rfl, hR, hB⟩
  have hR := Kd.R_lower hR HB.out.size
  obtain ⟨g8, cap8, hv8, _, _, _⟩ := Kd.R_form hR (by omega)
  injection hv8 with hA8 hn8 hc8
  clear hn8
  subst hA8 hc8
  obtain ⟨b8, hsb8⟩ : ∃ x, w2.heap.size = x := ⟨_, rfl⟩
  obtain ⟨W2, hsW2⟩ : ∃ x, w2.alloc (.cells #[.int .i64 mk, .slice (some ⟨g8, 0, none⟩) st.length c8] 24) = x := ⟨_, rfl⟩
  have hB2 : Below w1.heap.size w1 W2 := hsW2 ▸ below_alloc hB _
  have HZ8 := Aside0.mk (show W2.heap[b8]? = some (.cells #[.int .i64 mk, .slice (some ⟨g8, 0, none⟩) st.length c8] 24 (0, 0)) from hsW2 ▸ hsb8 ▸ heap_new w2 _)
  have HR8 := Aside0.mk (show Kd.R (Kd.int .i64) 3 W2 w.heap.size (fun _ => True) (.slice (some ⟨g8, 0, none⟩) st.length c8) st from hsW2 ▸ Kd.R_alloc hR _)
  have HZ3 := Aside0.mk (blk_below HZ3.out hB2)
  have HZ6 := Aside0.mk (blk_below HZ6.out hB2)
  have HX := Aside0.mk (pw_cell_below hB2 HX.out)
  have HB := Aside0.mk (below_then HB.out HB.out.size hB2)
  clear hB hB2 hR k0 k1 HC
  go_wp2
  clear hsW2 hsb8
  have p0 : W2.cell? ⟨b8, 1, none⟩ = some (.slice (some ⟨g8, 0, none⟩) st.length c8) := (blk_cell HZ8.out 1).trans rfl
  have p1 : W2.cell? ⟨b3, 0, none⟩ = some (.int .i64 mk) := (blk_cell HZ3.out 0).trans rfl
  have p2 : W2.cell? ⟨b3, 1, none⟩ = some (.slice (some ad) st.length c) := (blk_cell HZ3.out 1).trans rfl
  have p3 := HX.out
  refine start_ (n := 14) (S := fun w' => w'.cell? ⟨b8, 1, none⟩ = some (.slice (some ⟨g8, 0, none⟩) st.length c8) ∧ w'.cell? ⟨b3, 0, none⟩ = some (.int .i64 mk) ∧ w'.cell? ⟨b3, 1, none⟩ = some (.slice (some ad) st.length c) ∧ w'.cell? (ad.add i) = some (.int .i64 (rd st i))) (ds := [13]) #[false, false, false, false, false, false, false, false, false, false, false, false, false, false] (by kernel_rfl) rfl rfl ⟨p0, p1, p2, p3⟩ (fun hHeld => ?_)
  refine pure_ (i := 0) (N := some 35) (v := ?_) (a' := ?_) #[true, false, false, false, false, false, false, false, false, false, false, false, false, false] rfl rfl (by kernel_rfl) (fun _ _ _ h => h) (Or.inl ⟨by rfl, ?_⟩) ?_ ?_
  rotate_left
  · intro w'
    go_simp
    with_reducible rfl
  rotate_left
  · simp only [Act.put, List.setIfInBounds_toArray, List.set_cons_zero, List.set_cons_succ, i64_w, i32_w]
    rfl
  refine pure_ (i := 2) (N := some 37) (v := ?_) (a' := ?_) #[true, false, true, false, false, false, false, false, false, false, false, false, false, false] rfl rfl (by kernel_rfl) (fun _ _ _ h => h) (Or.inl ⟨by rfl, ?_⟩) ?_ ?_
  rotate_left
  · intro w'
    go_simp
    with_reducible rfl
  rotate_left
  · simp only [Act.put, List.setIfInBounds_toArray, List.set_cons_zero, List.set_cons_succ, i64_w, i32_w]
    rfl
  refine pure_ (i := 3) (N := some 38) (v := ?_) (a' := ?_) #[true, false, true, true, false, false, false, false, false, false, false, false, false, false] rfl rfl (by kernel_rfl) (fun _ _ _ h => h) (Or.inl ⟨by rfl, ?_⟩) ?_ ?_
  rotate_left
  · intro w'
    go_simp
    with_reducible rfl
  rotate_left
  · simp only [Act.put, List.setIfInBounds_toArray, List.set_cons_zero, List.set_cons_succ, i64_w, i32_w]
    rfl
  refine pure_ (i := 5) (N := some 40) (v := ?_) (a' := ?_) #[true, false, true, true, false, true, false, false, false, false, false, false, false, false] rfl rfl (by kernel_rfl) (fun _ _ _ h => h) (Or.inl ⟨by rfl, ?_⟩) ?_ ?_
  rotate_left
  · intro w'
    go_simp
    with_reducible rfl
  rotate_left
  · simp only [Act.put, List.setIfInBounds_toArray, List.set_cons_zero, List.set_cons_succ, i64_w, i32_w]
    rfl
  refine pure_ (i := 7) (N := some 42) (v := ?_) (a' := ?_) #[true, false, true, true, false, true, false, true, false, false, false, false, false, false] rfl rfl (by kernel_rfl) (fun _ _ _ h => h) (Or.inl ⟨by rfl, ?_⟩) ?_ ?_
  rotate_left
  · intro w'
    go_simp
    with_reducible rfl
  rotate_left
  · simp only [Act.put, List.setIfInBounds_toArray, List.set_cons_zero, List.set_cons_succ, i64_w, i32_w]
    rfl
  refine pure_ (i := 10) (N := some 45) (v := ?_) (a' := ?_) #[true, false, true, true, false, true, false, true, false, false, true, false, false, false] rfl rfl (by kernel_rfl) (fun _ _ _ h => h) (Or.inl ⟨by rfl, ?_⟩) ?_ ?_
  rotate_left
  · intro w'
    go_simp
    with_reducible rfl
  rotate_left
  · simp only [Act.put, List.setIfInBounds_toArray, List.set_cons_zero, List.set_cons_succ, i64_w, i32_w]
    rfl
  refine take_ (i := 1) (N := some 36) (v := ?_) (a' := ?_) #[true, true, true, true, false, true, false, true, false, false, true, false, false, false] rfl rfl (by kernel_rfl) (fun _ _ _ h => h) (Or.inl ⟨by rfl, ?_⟩) hHeld ?_ ?_
  rotate_left
  · rintro w' ⟨s0, s1, s2, s3⟩
    go_simp
    with_reducible rfl
  rotate_left
  · simp only [Act.put, List.setIfInBounds_toArray, List.set_cons_zero, List.set_cons_succ, i64_w, i32_w]
    rfl
  refine take_ (i := 4) (N := some 39) (v := ?_) (a' := ?_) #[true, true, true, true, true, true, false, true, false, false, true, false, false, false] rfl rfl (by kernel_rfl) (fun _ _ _ h => h) (Or.inl ⟨by rfl, ?_⟩) hHeld ?_ ?_
  rotate_left
  · rintro w' ⟨s0, s1, s2, s3⟩
    go_simp
    with_reducible rfl
  rotate_left
  · simp only [Act.put, List.setIfInBounds_toArray, List.set_cons_zero, List.set_cons_succ, i64_w, i32_w]
    rfl
  refine take_ (i := 6) (N := some 41) (v := ?_) (a' := ?_) #[true, true, true, true, true, true, true, true, false, false, true, false, false, false] rfl rfl (by kernel_rfl) (fun _ _ _ h => h) (Or.inl ⟨by rfl, ?_⟩) hHeld ?_ ?_
  rotate_left
  · rintro w' ⟨s0, s1, s2, s3⟩
    go_simp
    with_reducible rfl
  rotate_left
  · simp only [Act.put, List.setIfInBounds_toArray, List.set_cons_zero, List.set_cons_succ, i64_w, i32_w]
    rfl
  refine pure_ (i := 8) (N := some 43) (v := ?_) (a' := ?_) #[true, true, true, true, true, true, true, true, true, false, true, false, false, false] rfl rfl (by kernel_rfl) (fun _ _ _ h => h) (Or.inl ⟨by rfl, ?_⟩) ?_ ?_
  rotate_left
  · intro w'
    go_simp
    with_reducible rfl
  rotate_left
  · simp only [Act.put, List.setIfInBounds_toArray, List.set_cons_zero, List.set_cons_succ, i64_w, i32_w]
    rfl
  refine take_ (i := 9) (N := some 44) (v := ?_) (a' := ?_) #[true, true, true, true, true, true, true, true, true, true, true, false, false, false] rfl rfl (by kernel_rfl) (fun _ _ _ h => h) (Or.inl ⟨by rfl, ?_⟩) hHeld ?_ ?_
  rotate_left
  · rintro w' ⟨s0, s1, s2, s3⟩
    go_simp
    with_reducible rfl
  rotate_left
  · simp only [Act.put, List.setIfInBounds_toArray, List.set_cons_zero, List.set_cons_succ, i64_w, i32_w]
    rfl
  refine one_ (i := 11) (N := some 46) #[true, true, true, true, true, true, true, true, true, true, true, true, false, false] rfl rfl (by kernel_rfl) (by decide) (fun K hK => ?_)
  refine goes_ Try.func60 (by kernel_rfl) rfl #[.int .i64 mk, .int .i64 (rd st i), .int .i64 1] (by rfl) rfl rfl (by simp only [List.map_toArray, List.map_cons, List.map_nil]; rfl) ?_
  with_reducible refine (next_calls mk (rd st i) 1 _ hs (by decide)).mono ?_
  rintro e w6 ⟨rfl, hb6⟩
  refine ⟨_, rfl, ?_⟩
  have hb6' := below_undrew1 hb6
  have HZ3 := Aside0.mk (blk_below HZ3.out hb6')
  have HZ6 := Aside0.mk (blk_below HZ6.out hb6')
  have HZ8 := Aside0.mk (blk_below HZ8.out hb6')
  have HX := Aside0.mk (pw_cell_below hb6' HX.out)
  have HR8 := Aside0.mk (Kd.R_below HR8.out hb6')
  have HB := Aside0.mk (below_then HB.out HB.out.size hb6')
  have c6 := (Kd.R_cell (0 : Int) HR8.out (i : Int) (by omega) (by omega)).1
  have f6 := (Kd.R_cell (0 : Int) HR8.out (i : Int) (by omega) (by omega)).2
  rw [Int.toNat_natCast] at c6 f6
  clear hb6 hb6'
  refine hK.out _ _ ⟨(blk_cell HZ8.out 1).trans rfl, (blk_cell HZ3.out 0).trans rfl, (blk_cell HZ3.out 1).trans rfl, HX.out⟩ (fun hHeld => ?_)
  clear hK K
  refine norm_ (a' := ?_) ?_ ?_
  rotate_left
  · show Act.put _ (some 46) _ = _
    simp only [Act.put, List.setIfInBounds_toArray, List.set_cons_zero, List.set_cons_succ, i64_w, i32_w]
    rfl
  refine pure_ (i := 12) (N := some 47) (v := ?_) (a' := ?_) #[true, true, true, true, true, true, true, true, true, true, true, true, true, false] rfl rfl (by kernel_rfl) (fun _ _ _ h => h) (Or.inl ⟨by rfl, ?_⟩) ?_ ?_
  rotate_left
  · intro w'
    go_simp
    with_reducible rfl
  rotate_left
  · simp only [Act.put, List.setIfInBounds_toArray, List.set_cons_zero, List.set_cons_succ, i64_w, i32_w]
    rfl
  refine last_ (i := 13) (N := none) #[true, true, true, true, true, true, true, true, true, true, true, true, true, true] rfl rfl (by kernel_rfl) (by decide) (fun K hK => ?_)
  refine skip_ (w1 := ?_) (by rfl) rfl ?_ ?_
  rotate_left
  · go_simp
    rfl
  refine hK.out _ _ ?_
  clear hK K
  refine done_ (by kernel_rfl) ?_

  clear p0 p1 p2 p3
  obtain ⟨w7, hw7⟩ : ∃ x, w6.setCell ⟨g8, i, none⟩ (.int .i64 (after mk (rd st i) 1)) = x := ⟨_, rfl⟩
  have hgg : some g8 = (Value.slice (some ⟨g8, 0, none⟩) st.length c8).ownBlock := by simp [Value.ownBlock]
  obtain ⟨cells8, hty⟩ := Kd.R_typed HR8.out g8 hgg.symm
  have hbase := Kd.R_base HR8.out g8 hgg.symm
  have hput := (Kd.R_put (enc := Value.int .i64) HR8.out (i : Int) (after mk (rd st i) 1)).1
  rw [Int.toNat_natCast] at hput
  have HR9 := Aside0.mk (show Kd.R (Kd.int .i64) 3 w7 w.heap.size (fun _ => True) (.slice (some ⟨g8, 0, none⟩) st.length c8) (st.set i (after mk (rd st i) 1)) from hw7 ▸ hput)
  have HZ6' := Aside0.mk (show w7.heap[b6]? = _ from hw7 ▸ blk_far HZ6.out (blk_ne HZ6.out hty (by decide)) _)
  have HZ8' := Aside0.mk (show w7.heap[b8]? = _ from hw7 ▸ blk_far HZ8.out (blk_ne HZ8.out hty (by decide)) _)
  have HB' := Aside0.mk (show Below w.heap.size w w7 from hw7 ▸ HB.out.setCell hbase _)
  have HZ6 := HZ6'
  have k0 : w7.cell? ⟨b8, 0, none⟩ = some (.int .i64 mk) := (blk_cell HZ8'.out 0).trans rfl
  have k1 : w7.cell? ⟨b8, 1, none⟩ = some (.slice (some ⟨g8, 0, none⟩) st.length c8) := (blk_cell HZ8'.out 1).trans rfl
  have z0 : w7.cell? ⟨b6, 0, none⟩ = some (.int .i64 0) := (blk_cell HZ6.out 0).trans rfl
  have z1 : w7.cell? ⟨b6, 1, none⟩ = some (.slice none 0 0) := (blk_cell HZ6.out 1).trans rfl
  have zf0 := blk_frozen HZ6.out 0
  have zf1 := blk_frozen HZ6.out 1
  clear hgg hty hbase hput HZ6' c6 f6
  rw [hw7]
  clear hw7
  go_wp2
  refine bodyPost_ret (results_ct rfl _ _ b6 24 #[.int .i64 mk, .slice (some ⟨g8, 0, none⟩) st.length c8] (0, 0) _ rfl (by refine blk_put (cs := #[.int .i64 mk, .slice none 0 0]) ?_ 1 _ rfl; exact blk_put (cs := #[.int .i64 0, .slice none 0 0]) HZ6.out 0 _ rfl) Try.underlying24 rfl (by kernel_rfl)) rfl ?_
  have hz2 : (w7.setCell ⟨b6, 0, none⟩ (.int .i64 mk)).heap[b6]? = some (.cells #[.int .i64 mk, .slice none 0 0] 24 (0, 0)) := blk_put (cs := #[.int .i64 0, .slice none 0 0]) HZ6.out 0 _ rfl
  have hl : (st.set i (after mk (rd st i) 1)).length = st.length := List.length_set
  refine ⟨some ⟨g8, 0, none⟩, c8, by (first | (rw [hl]; rfl) | (simp only [hl]; rfl) | (simp only [hl]; done)), ?_, (HB'.out.setCell HWB.out _).setCell HWB.out _⟩
  show Kd.R _ _ _ _ _ (.slice (some ⟨g8, 0, none⟩) (st.set i (after mk (rd st i) 1)).length c8) (st.set i (after mk (rd st i) 1))
  rw [hl]
  exact Kd.R_set (Kd.R_set HR9.out HZ6.out (by decide) _ _) hz2 (by decide) _ _
theorem next_all (A : Option Addr) (c : Nat) (mk : Int) (st : List Int) (i bit : Int) (w : World) (hC : Kd.C (Kd.int .i64) w A st.length st) (hc : st.length ≤ c) :
    Calls Try.prog 31 #[.agg #[.int .i64 mk, .slice A st.length c], .int .i64 i, .int .i64 bit] w (NextPost w (nextR mk st i bit)) := by
  unfold nextR
  by_cases hm : okModel mk st
  · rw [if_pos hm]
    by_cases hi : (0 ≤ i ∧ i < st.length) ∧ (bit = 0 ∨ bit = 1)
    · rw [if_pos hi]
      obtain ⟨hi, hb⟩ := hi
      obtain ⟨j, rfl⟩ : ∃ j : Nat, i = (j : Int) := ⟨i.toNat, by omega⟩
      rw [Int.toNat_natCast]
      rcases hb with rfl | rfl
      · exact next_good0 A c mk st j w hC hc hm (by omega)
      · exact next_good1 A c mk st j w hC hc hm (by omega)
    · rw [if_neg hi]
      exact next_bad2 A c mk st i bit w hC hc hm (by omega)
  · rw [if_neg hm]
    exact next_bad1 A c mk st i bit w hC hc hm
end Go.Proofs.Ytpnmedmghncpiaa.States
