/- New makes the reference's models, and Valid tells which models are valid as the reference does: for every kind, number and model. -/
import Derived.Test.YtpnmedmghncpiaaPCoderShortx0
import Derived.Test.YtpnmedmghncpiaaAid
import Derived.Test.YtpnmedmghncpiaaHandAid
import Derived.Test.YtpnmedmghncpiaaCod1
import Derived.Test.YtpnmedmghncpiaaCod2
import Derived.Test.YtpnmedmghncpiaaCod3
import Derived.Test.YtpnmedmghncpiaaMod
import Derived.Test.YtpnmedmghncpiaaNewRef
import Derived.Test.YtpnmedmghncpiaaEnc
import Derived.Test.YtpnmedmghncpiaaMods
import Derived.Test.YtpnmedmghncpiaaEncAt
import Derived.Test.YtpnmedmghncpiaaPut
import Derived.Test.YtpnmedmghncpiaaEnd
import Derived.Test.YtpnmedmghncpiaaEncode
import Derived.Test.YtpnmedmghncpiaaAwake
import Derived.Test.YtpnmedmghncpiaaSame
import Derived.Test.YtpnmedmghncpiaaOpn
import Derived.Test.YtpnmedmghncpiaaRows
import Derived.WalkKit
import Derived.ProofKit
import Derived.OpenShut
import Derived.ShutString
import Derived.ChangeOld
import Derived.Lib.SmallJoins
import Derived.Below
import Derived.SizedLaws
import Derived.Test.YtpnmedmghncpiaaWSized
namespace Go.Proofs.Ytpnmedmghncpiaa.HandCoderNew
open Go Go.RowKit Go.Proofs.Ytpnmedmghncpiaa.PCoderShort Go.Proofs.YtpnmedmghncpiaaW.PrintWords Go.Proofs.YtpnmedmghncpiaaW.PrintLast Go.Proofs.YtpnmedmghncpiaaW.PrintMore Go.Proofs.Ytpnmedmghncpiaa.Aid Go.Proofs.Ytpnmedmghncpiaa.HandAid Go.Proofs.Ytpnmedmghncpiaa.Cod1 Go.Proofs.Ytpnmedmghncpiaa.Cod2 Go.Proofs.Ytpnmedmghncpiaa.Cod3 Go.Proofs.Ytpnmedmghncpiaa.Mod Go.Proofs.Ytpnmedmghncpiaa.NewRef Go.Proofs.Ytpnmedmghncpiaa.Enc Go.Proofs.Ytpnmedmghncpiaa.Mods Go.Proofs.Ytpnmedmghncpiaa.EncAt Go.Proofs.Ytpnmedmghncpiaa.Put Go.Proofs.Ytpnmedmghncpiaa.End Go.Proofs.Ytpnmedmghncpiaa.Encode Go.Proofs.Ytpnmedmghncpiaa.Awake Go.Proofs.Ytpnmedmghncpiaa.Same Go.Proofs.Ytpnmedmghncpiaa.Opn
set_option linter.unusedVariables false
set_option linter.unusedSimpArgs false
open Go.Proofs.Ytpnmedmghncpiaa
theorem valid_true (A : Option Addr) (c : Nat) (kind : Int) (st : List Int) (w : World) (hC : Kd.C (Kd.int .i64) w A st.length st) (hc : st.length ≤ c) (hm : okModel kind st) :
    Calls Try.prog 15 #[.agg #[.int .i64 kind, .slice A st.length c]] w fun e w' => e = .returned (.bool true) ∧ Below w.heap.size w w' := by
  have h := valid_calls A c kind st w hC hc
  rw [decide_eq_true hm] at h
  exact h
set_option maxHeartbeats 4000000 in
set_option maxRecDepth 100000 in
theorem walk (w : World) (kind : Int) (h0 : (Lit.int .i64 kind).wf = true) (n : Int) (h1 : (Lit.int .i64 n).wf = true) (mk : Int) (h2 : (Lit.int .i64 mk).wf = true) (A : Option Addr) (c : Nat) (st : List Int) (hl : st.length ≤ c) (hC : Kd.C (Kd.int .i64) w A st.length st) (hW : st.length * 8 ≤ 140737488351232 ∧ ∀ x ∈ st, (Lit.int .i64 x).wf = true) :
    Calls Try.prog 3 #[.int .i64 kind, .int .i64 n, .agg #[.int .i64 mk, .slice A st.length c]] w fun e w' => e = .returned (.bool true) ∧ Below w.heap.size w w' := by
  have HC := Aside0.mk hC
  have hu := Try.underlying24
  obtain ⟨kx, lx, ex, hnm⟩ : ∃ kx lx ex, newModel kind n = (kx, lx, ex) := ⟨_, _, _, rfl⟩
  have hn1 := new_calls kind n
  have hn2 := NewRef.ref_new_calls kind n
  have hok := new_ok kind n
  rw [hnm] at hn1 hn2 hok
  have HN1 := Aside0.mk hn1
  have HN2 := Aside0.mk hn2
  have HOK1 := Aside0.mk hok
  clear hC h0 h1 h2 hW hnm hn1 hn2 hok
  go_enter Try.func3, Try.ntmps3
  go_wp2_with (fail)
  have HB := Aside0.mk (below_alloc (Below.refl w.heap.size w) (.cells #[.int .i64 mk, .slice A st.length c] 24))
  have HZ := Aside0.mk (heap_new w (.cells #[.int .i64 mk, .slice A st.length c] 24))
  obtain ⟨b5, hb5⟩ : ∃ b5, w.heap.size = b5 := ⟨_, rfl⟩
  rw [hb5] at HZ
  refine (HN1.out _).mono ?_
  rintro e w1 ⟨A7, c7, rfl, hR1, hB1⟩
  obtain ⟨hn7, hc7, hC7⟩ := Kd.R_reads' hR1
  have HC7 := Aside0.mk (Kd.C_below hC7 (below_alloc (Below.refl _ _) (.cells #[.int .i64 kx, .slice A7 lx.length c7] 24)))
  have HB1 := Aside0.mk (below_alloc (below_then HB.out HB.out.size hB1) (.cells #[.int .i64 kx, .slice A7 lx.length c7] 24))
  have HZ5 := Aside0.mk (blk_alloc (blk_below HZ.out hB1) (.cells #[.int .i64 kx, .slice A7 lx.length c7] 24))
  have HZ7 := Aside0.mk (heap_new w1 (.cells #[.int .i64 kx, .slice A7 lx.length c7] 24))
  obtain ⟨b7, hb7⟩ : ∃ b7, w1.heap.size = b7 := ⟨_, rfl⟩
  rw [hb7] at HZ7
  clear hR1 hB1 hn7 hC7 HB HZ
  go_wp2_with (fail)
  refine (HN2.out _).mono ?_
  rintro e w2 ⟨A9, c9, rfl, hR2, hB2⟩
  obtain ⟨hn9, hc9, hC9⟩ := Kd.R_reads' hR2
  obtain ⟨W3, hW3⟩ : ∃ W3, W3 = w2.alloc (.cells #[.int .i64 kx, .slice A9 lx.length c9] 24) := ⟨_, rfl⟩
  have hB3 : Below (w1.alloc (.cells #[.int .i64 kx, .slice A7 lx.length c7] 24)).heap.size (w1.alloc (.cells #[.int .i64 kx, .slice A7 lx.length c7] 24)) W3 := hW3 ▸ below_alloc hB2 _
  have HC9 := Aside0.mk (show Kd.C (Kd.int .i64) W3 A9 lx.length lx from hW3 ▸ Kd.C_below hC9 (below_alloc (Below.refl _ _) _))
  have HC7 := Aside0.mk (Kd.C_below HC7.out hB3)
  have HB := Aside0.mk (below_then HB1.out HB1.out.size hB3)
  have HC := Aside0.mk (Kd.C_below HC.out HB.out)
  have HZ5 := Aside0.mk (blk_below HZ5.out hB3)
  have HZ7 := Aside0.mk (blk_below HZ7.out hB3)
  have HZ9 := Aside0.mk (show W3.heap[w2.heap.size]? = some (.cells #[.int .i64 kx, .slice A9 lx.length c9] 24 (0, 0)) from hW3 ▸ heap_new w2 _)
  obtain ⟨b9, hb9⟩ : ∃ b9, w2.heap.size = b9 := ⟨_, rfl⟩
  rw [hb9] at HZ9
  clear hR2 hB2 hn9 hC9 hB3 HB1
  go_wp2
  rw [← hW3]
  clear hW3 hb9 hb7 hb5
  by_cases he : ex = 0
  · have HOK := Aside0.mk (HOK1.out he)
    subst he
    have HZ5_0 := Aside0.mk (blk_below HZ5.out (below_drew (Below.refl _ _)))
    have HZ7_0 := Aside0.mk (blk_below HZ7.out (below_drew (Below.refl _ _)))
    have HZ9_0 := Aside0.mk (blk_below HZ9.out (below_drew (Below.refl _ _)))
    have HC_0 := Aside0.mk (Kd.C_below HC.out (below_drew (Below.refl _ _)))
    have HC7_0 := Aside0.mk (Kd.C_below HC7.out (below_drew (Below.refl _ _)))
    have HC9_0 := Aside0.mk (Kd.C_below HC9.out (below_drew (Below.refl _ _)))
    have HB_0 := Aside0.mk (below_drew1 HB.out)
    clear HZ5 HZ7 HZ9 HC HC7 HC9 HB
    refine start_ (n := 27) (S := fun w' => w'.cell? ⟨b5, 0, none⟩ = some (.int .i64 mk) ∧ w'.cell? ⟨b5, 1, none⟩ = some (.slice A st.length c) ∧ w'.cell? ⟨b7, 0, none⟩ = some (.int .i64 kx) ∧ w'.cell? ⟨b7, 1, none⟩ = some (.slice A7 lx.length c7) ∧ w'.cell? ⟨b9, 0, none⟩ = some (.int .i64 kx) ∧ w'.cell? ⟨b9, 1, none⟩ = some (.slice A9 lx.length c9)) (ds := []) #[false, false, false, false, false, false, false, false, false, false, false, false, false, false, false, false, false, false, false, false, false, false, false, false, false, false, false] (by kernel_rfl) rfl rfl ⟨(blk_cell HZ5_0.out 0).trans rfl, (blk_cell HZ5_0.out 1).trans rfl, (blk_cell HZ7_0.out 0).trans rfl, (blk_cell HZ7_0.out 1).trans rfl, (blk_cell HZ9_0.out 0).trans rfl, (blk_cell HZ9_0.out 1).trans rfl⟩ (fun hHeld => ?_)
    refine pure_ (i := 0) (N := some 23) (v := ?_) (a' := ?_) #[true, false, false, false, false, false, false, false, false, false, false, false, false, false, false, false, false, false, false, false, false, false, false, false, false, false, false] rfl rfl (by kernel_rfl) (fun _ _ _ h => h) (Or.inl ⟨by rfl, ?_⟩) ?_ ?_
    rotate_left
    · intro w'
      go_simp
      with_reducible rfl
    rotate_left
    · simp only [Act.put, List.setIfInBounds_toArray, List.set_cons_zero, List.set_cons_succ, i64_w, i32_w]
      rfl
    refine pure_ (i := 1) (N := some 24) (v := ?_) (a' := ?_) #[true, true, false, false, false, false, false, false, false, false, false, false, false, false, false, false, false, false, false, false, false, false, false, false, false, false, false] rfl rfl (by kernel_rfl) (fun _ _ _ h => h) (Or.inl ⟨by rfl, ?_⟩) ?_ ?_
    rotate_left
    · intro w'
      go_simp
      with_reducible rfl
    rotate_left
    · simp only [Act.put, List.setIfInBounds_toArray, List.set_cons_zero, List.set_cons_succ, i64_w, i32_w]
      rfl
    refine pure_ (i := 2) (N := some 25) (v := ?_) (a' := ?_) #[true, true, true, false, false, false, false, false, false, false, false, false, false, false, false, false, false, false, false, false, false, false, false, false, false, false, false] rfl rfl (by kernel_rfl) (fun _ _ _ h => h) (Or.inl ⟨by rfl, ?_⟩) ?_ ?_
    rotate_left
    · intro w'
      go_simp
      with_reducible rfl
    rotate_left
    · simp only [Act.put, List.setIfInBounds_toArray, List.set_cons_zero, List.set_cons_succ, i64_w, i32_w]
      rfl
    refine pure_ (i := 3) (N := some 26) (v := ?_) (a' := ?_) #[true, true, true, true, false, false, false, false, false, false, false, false, false, false, false, false, false, false, false, false, false, false, false, false, false, false, false] rfl rfl (by kernel_rfl) (fun _ _ _ h => h) (Or.inl ⟨by rfl, ?_⟩) ?_ ?_
    rotate_left
    · intro w'
      go_simp
      with_reducible rfl
    rotate_left
    · simp only [Act.put, List.setIfInBounds_toArray, List.set_cons_zero, List.set_cons_succ, i64_w, i32_w]
      rfl
    refine take_ (i := 4) (N := some 27) (v := ?_) (a' := ?_) #[true, true, true, true, true, false, false, false, false, false, false, false, false, false, false, false, false, false, false, false, false, false, false, false, false, false, false] rfl rfl (by kernel_rfl) (fun _ _ _ h => h) (Or.inl ⟨by rfl, ?_⟩) hHeld ?_ ?_
    rotate_left
    · rintro w' ⟨s0, s1, s2, s3, s4, s5⟩
      go_simp
      with_reducible rfl
    rotate_left
    · simp only [Act.put, List.setIfInBounds_toArray, List.set_cons_zero, List.set_cons_succ, i64_w, i32_w]
      rfl
    refine take_ (i := 5) (N := some 28) (v := ?_) (a' := ?_) #[true, true, true, true, true, true, false, false, false, false, false, false, false, false, false, false, false, false, false, false, false, false, false, false, false, false, false] rfl rfl (by kernel_rfl) (fun _ _ _ h => h) (Or.inl ⟨by rfl, ?_⟩) hHeld ?_ ?_
    rotate_left
    · rintro w' ⟨s0, s1, s2, s3, s4, s5⟩
      go_simp
      with_reducible rfl
    rotate_left
    · simp only [Act.put, List.setIfInBounds_toArray, List.set_cons_zero, List.set_cons_succ, i64_w, i32_w]
      rfl
    refine one_ (i := 6) (N := some 29) #[true, true, true, true, true, true, true, false, false, false, false, false, false, false, false, false, false, false, false, false, false, false, false, false, false, false, false] rfl rfl (by kernel_rfl) (by decide) (fun K hK => ?_)
    refine goes_ Try.func14 (by kernel_rfl) rfl #[.agg #[.int .i64 kx, .slice A7 lx.length c7], .agg #[.int .i64 kx, .slice A9 lx.length c9]] (by rfl) rfl rfl (by simp only [List.map_toArray, List.map_cons, List.map_nil]; rfl) ?_
    with_reducible refine (same_true A7 c7 A9 c9 kx lx _ _ _ rfl rfl HC7_0.out hc7 HC9_0.out hc9).mono ?_
    rintro e wk1 ⟨rfl, hk1⟩
    refine ⟨_, rfl, ?_⟩
    have HZ5_1 := Aside0.mk (blk_below HZ5_0.out hk1)
    have HZ7_1 := Aside0.mk (blk_below HZ7_0.out hk1)
    have HZ9_1 := Aside0.mk (blk_below HZ9_0.out hk1)
    have HC_1 := Aside0.mk (Kd.C_below HC_0.out hk1)
    have HC7_1 := Aside0.mk (Kd.C_below HC7_0.out hk1)
    have HC9_1 := Aside0.mk (Kd.C_below HC9_0.out hk1)
    have HB_1 := Aside0.mk (below_then HB_0.out HB_0.out.size hk1)
    clear HZ5_0 HZ7_0 HZ9_0 HC_0 HC7_0 HC9_0 HB_0 hk1
    refine hK.out _ _ ⟨(blk_cell HZ5_1.out 0).trans rfl, (blk_cell HZ5_1.out 1).trans rfl, (blk_cell HZ7_1.out 0).trans rfl, (blk_cell HZ7_1.out 1).trans rfl, (blk_cell HZ9_1.out 0).trans rfl, (blk_cell HZ9_1.out 1).trans rfl⟩ (fun hHeld => ?_)
    clear hK K
    refine norm_ (a' := ?_) ?_ ?_
    rotate_left
    · show Act.put _ (some 29) _ = _
      simp only [Act.put, List.setIfInBounds_toArray, List.set_cons_zero, List.set_cons_succ, i64_w, i32_w]
      rfl
    refine pure_ (i := 7) (N := some 30) (v := ?_) (a' := ?_) #[true, true, true, true, true, true, true, true, false, false, false, false, false, false, false, false, false, false, false, false, false, false, false, false, false, false, false] rfl rfl (by kernel_rfl) (fun _ _ _ h => h) (Or.inl ⟨by rfl, ?_⟩) ?_ ?_
    rotate_left
    · intro w'
      go_simp
      with_reducible rfl
    rotate_left
    · simp only [Act.put, List.setIfInBounds_toArray, List.set_cons_zero, List.set_cons_succ, i64_w, i32_w]
      rfl
    refine pure_ (i := 8) (N := some 31) (v := ?_) (a' := ?_) #[true, true, true, true, true, true, true, true, true, false, false, false, false, false, false, false, false, false, false, false, false, false, false, false, false, false, false] rfl rfl (by kernel_rfl) (fun _ _ _ h => h) (Or.inl ⟨by rfl, ?_⟩) ?_ ?_
    rotate_left
    · intro w'
      go_simp
      with_reducible rfl
    rotate_left
    · simp only [Act.put, List.setIfInBounds_toArray, List.set_cons_zero, List.set_cons_succ, i64_w, i32_w]
      rfl
    refine take_ (i := 9) (N := some 32) (v := ?_) (a' := ?_) #[true, true, true, true, true, true, true, true, true, true, false, false, false, false, false, false, false, false, false, false, false, false, false, false, false, false, false] rfl rfl (by kernel_rfl) (fun _ _ _ h => h) (Or.inl ⟨by rfl, ?_⟩) hHeld ?_ ?_
    rotate_left
    · rintro w' ⟨s0, s1, s2, s3, s4, s5⟩
      go_simp
      with_reducible rfl
    rotate_left
    · simp only [Act.put, List.setIfInBounds_toArray, List.set_cons_zero, List.set_cons_succ, i64_w, i32_w]
      rfl
    refine take_ (i := 11) (N := some 34) (v := ?_) (a' := ?_) #[true, true, true, true, true, true, true, true, true, true, false, true, false, false, false, false, false, false, false, false, false, false, false, false, false, false, false] rfl rfl (by kernel_rfl) (fun _ _ _ h => h) (Or.inl ⟨by rfl, ?_⟩) hHeld ?_ ?_
    rotate_left
    · rintro w' ⟨s0, s1, s2, s3, s4, s5⟩
      go_simp
      with_reducible rfl
    rotate_left
    · simp only [Act.put, List.setIfInBounds_toArray, List.set_cons_zero, List.set_cons_succ, i64_w, i32_w]
      rfl
    refine one_ (i := 10) (N := some 33) #[true, true, true, true, true, true, true, true, true, true, true, true, false, false, false, false, false, false, false, false, false, false, false, false, false, false, false] rfl rfl (by kernel_rfl) (by decide) (fun K hK => ?_)
    refine goes_ Try.func15 (by kernel_rfl) rfl #[.agg #[.int .i64 mk, .slice A st.length c]] (by rfl) rfl rfl (by simp only [List.map_toArray, List.map_cons, List.map_nil]; rfl) ?_
    with_reducible refine (valid_calls A c mk st _ HC_1.out hl).mono ?_
    rintro e wk2 ⟨rfl, hk2⟩
    refine ⟨_, rfl, ?_⟩
    have HZ5_2 := Aside0.mk (blk_below HZ5_1.out hk2)
    have HZ7_2 := Aside0.mk (blk_below HZ7_1.out hk2)
    have HZ9_2 := Aside0.mk (blk_below HZ9_1.out hk2)
    have HC_2 := Aside0.mk (Kd.C_below HC_1.out hk2)
    have HC7_2 := Aside0.mk (Kd.C_below HC7_1.out hk2)
    have HC9_2 := Aside0.mk (Kd.C_below HC9_1.out hk2)
    have HB_2 := Aside0.mk (below_then HB_1.out HB_1.out.size hk2)
    clear HZ5_1 HZ7_1 HZ9_1 HC_1 HC7_1 HC9_1 HB_1 hk2
    refine hK.out _ _ ⟨(blk_cell HZ5_2.out 0).trans rfl, (blk_cell HZ5_2.out 1).trans rfl, (blk_cell HZ7_2.out 0).trans rfl, (blk_cell HZ7_2.out 1).trans rfl, (blk_cell HZ9_2.out 0).trans rfl, (blk_cell HZ9_2.out 1).trans rfl⟩ (fun hHeld => ?_)
    clear hK K
    refine norm_ (a' := ?_) ?_ ?_
    rotate_left
    · show Act.put _ (some 33) _ = _
      simp only [Act.put, List.setIfInBounds_toArray, List.set_cons_zero, List.set_cons_succ, i64_w, i32_w]
      rfl
    refine one_ (i := 12) (N := some 35) #[true, true, true, true, true, true, true, true, true, true, true, true, true, false, false, false, false, false, false, false, false, false, false, false, false, false, false] rfl rfl (by kernel_rfl) (by decide) (fun K hK => ?_)
    refine goes_ Try.func16 (by kernel_rfl) rfl #[.agg #[.int .i64 mk, .slice A st.length c]] (by rfl) rfl rfl (by simp only [List.map_toArray, List.map_cons, List.map_nil]; rfl) ?_
    with_reducible refine (ref_valid_calls A c mk st _ HC_2.out hl).mono ?_
    rintro e wk3 ⟨rfl, hk3⟩
    refine ⟨_, rfl, ?_⟩
    have HZ5_3 := Aside0.mk (blk_below HZ5_2.out hk3)
    have HZ7_3 := Aside0.mk (blk_below HZ7_2.out hk3)
    have HZ9_3 := Aside0.mk (blk_below HZ9_2.out hk3)
    have HC_3 := Aside0.mk (Kd.C_below HC_2.out hk3)
    have HC7_3 := Aside0.mk (Kd.C_below HC7_2.out hk3)
    have HC9_3 := Aside0.mk (Kd.C_below HC9_2.out hk3)
    have HB_3 := Aside0.mk (below_then HB_2.out HB_2.out.size hk3)
    clear HZ5_2 HZ7_2 HZ9_2 HC_2 HC7_2 HC9_2 HB_2 hk3
    refine hK.out _ _ ⟨(blk_cell HZ5_3.out 0).trans rfl, (blk_cell HZ5_3.out 1).trans rfl, (blk_cell HZ7_3.out 0).trans rfl, (blk_cell HZ7_3.out 1).trans rfl, (blk_cell HZ9_3.out 0).trans rfl, (blk_cell HZ9_3.out 1).trans rfl⟩ (fun hHeld => ?_)
    clear hK K
    refine norm_ (a' := ?_) ?_ ?_
    rotate_left
    · show Act.put _ (some 35) _ = _
      simp only [Act.put, List.setIfInBounds_toArray, List.set_cons_zero, List.set_cons_succ, i64_w, i32_w]
      rfl
    refine pure_ (i := 13) (N := some 36) (v := ?_) (a' := ?_) #[true, true, true, true, true, true, true, true, true, true, true, true, true, true, false, false, false, false, false, false, false, false, false, false, false, false, false] rfl rfl (by kernel_rfl) (fun _ _ _ h => h) (Or.inl ⟨by rfl, ?_⟩) ?_ ?_
    rotate_left
    · intro w'
      go_simp
      with_reducible rfl
    rotate_left
    · simp only [Act.put, List.setIfInBounds_toArray, List.set_cons_zero, List.set_cons_succ, i64_w, i32_w]
      rfl
    refine pure_ (i := 14) (N := some 37) (v := ?_) (a' := ?_) #[true, true, true, true, true, true, true, true, true, true, true, true, true, true, true, false, false, false, false, false, false, false, false, false, false, false, false] rfl rfl (by kernel_rfl) (fun _ _ _ h => h) (Or.inl ⟨by rfl, ?_⟩) ?_ ?_
    rotate_left
    · intro w'
      go_simp
      with_reducible rfl
    rotate_left
    · simp only [Act.put, List.setIfInBounds_toArray, List.set_cons_zero, List.set_cons_succ, i64_w, i32_w]
      rfl
    refine pure_ (i := 15) (N := some 38) (v := ?_) (a' := ?_) #[true, true, true, true, true, true, true, true, true, true, true, true, true, true, true, true, false, false, false, false, false, false, false, false, false, false, false] rfl rfl (by kernel_rfl) (fun _ _ _ h => h) (Or.inl ⟨by rfl, ?_⟩) ?_ ?_
    rotate_left
    · intro w'
      go_simp
      with_reducible rfl
    rotate_left
    · simp only [Act.put, List.setIfInBounds_toArray, List.set_cons_zero, List.set_cons_succ, i64_w, i32_w]
      rfl
    refine pure_ (i := 16) (N := some 39) (v := ?_) (a' := ?_) #[true, true, true, true, true, true, true, true, true, true, true, true, true, true, true, true, true, false, false, false, false, false, false, false, false, false, false] rfl rfl (by kernel_rfl) (fun _ _ _ h => h) (Or.inl ⟨by rfl, ?_⟩) ?_ ?_
    rotate_left
    · intro w'
      go_simp
      with_reducible rfl
    rotate_left
    · simp only [Act.put, List.setIfInBounds_toArray, List.set_cons_zero, List.set_cons_succ, i64_w, i32_w]
      rfl
    refine pure_ (i := 17) (N := some 40) (v := ?_) (a' := ?_) #[true, true, true, true, true, true, true, true, true, true, true, true, true, true, true, true, true, true, false, false, false, false, false, false, false, false, false] rfl rfl (by kernel_rfl) (fun _ _ _ h => h) (Or.inl ⟨by rfl, ?_⟩) ?_ ?_
    rotate_left
    · intro w'
      go_simp
      with_reducible rfl
    rotate_left
    · simp only [Act.put, List.setIfInBounds_toArray, List.set_cons_zero, List.set_cons_succ, i64_w, i32_w]
      rfl
    refine pure_ (i := 18) (N := some 41) (v := ?_) (a' := ?_) #[true, true, true, true, true, true, true, true, true, true, true, true, true, true, true, true, true, true, true, false, false, false, false, false, false, false, false] rfl rfl (by kernel_rfl) (fun _ _ _ h => h) (Or.inl ⟨by rfl, ?_⟩) ?_ ?_
    rotate_left
    · intro w'
      go_simp
      with_reducible rfl
    rotate_left
    · simp only [Act.put, List.setIfInBounds_toArray, List.set_cons_zero, List.set_cons_succ, i64_w, i32_w]
      rfl
    refine take_ (i := 19) (N := some 42) (v := ?_) (a' := ?_) #[true, true, true, true, true, true, true, true, true, true, true, true, true, true, true, true, true, true, true, true, false, false, false, false, false, false, false] rfl rfl (by kernel_rfl) (fun _ _ _ h => h) (Or.inl ⟨by rfl, ?_⟩) hHeld ?_ ?_
    rotate_left
    · rintro w' ⟨s0, s1, s2, s3, s4, s5⟩
      go_simp
      with_reducible rfl
    rotate_left
    · simp only [Act.put, List.setIfInBounds_toArray, List.set_cons_zero, List.set_cons_succ, i64_w, i32_w]
      rfl
    refine one_ (i := 20) (N := some 43) #[true, true, true, true, true, true, true, true, true, true, true, true, true, true, true, true, true, true, true, true, true, false, false, false, false, false, false] rfl rfl (by kernel_rfl) (by decide) (fun K hK => ?_)
    refine goes_ Try.func15 (by kernel_rfl) rfl #[.agg #[.int .i64 kx, .slice A7 lx.length c7]] (by rfl) rfl rfl (by simp only [List.map_toArray, List.map_cons, List.map_nil]; rfl) ?_
    with_reducible refine (valid_true A7 c7 kx lx _ HC7_3.out hc7 HOK.out).mono ?_
    rintro e wk4 ⟨rfl, hk4⟩
    refine ⟨_, rfl, ?_⟩
    have HZ5_4 := Aside0.mk (blk_below HZ5_3.out hk4)
    have HZ7_4 := Aside0.mk (blk_below HZ7_3.out hk4)
    have HZ9_4 := Aside0.mk (blk_below HZ9_3.out hk4)
    have HC_4 := Aside0.mk (Kd.C_below HC_3.out hk4)
    have HC7_4 := Aside0.mk (Kd.C_below HC7_3.out hk4)
    have HC9_4 := Aside0.mk (Kd.C_below HC9_3.out hk4)
    have HB_4 := Aside0.mk (below_then HB_3.out HB_3.out.size hk4)
    clear HZ5_3 HZ7_3 HZ9_3 HC_3 HC7_3 HC9_3 HB_3 hk4
    refine hK.out _ _ ⟨(blk_cell HZ5_4.out 0).trans rfl, (blk_cell HZ5_4.out 1).trans rfl, (blk_cell HZ7_4.out 0).trans rfl, (blk_cell HZ7_4.out 1).trans rfl, (blk_cell HZ9_4.out 0).trans rfl, (blk_cell HZ9_4.out 1).trans rfl⟩ (fun hHeld => ?_)
    clear hK K
    refine norm_ (a' := ?_) ?_ ?_
    rotate_left
    · show Act.put _ (some 43) _ = _
      simp only [Act.put, List.setIfInBounds_toArray, List.set_cons_zero, List.set_cons_succ, i64_w, i32_w]
      rfl
    refine pure_ (i := 21) (N := some 44) (v := ?_) (a' := ?_) #[true, true, true, true, true, true, true, true, true, true, true, true, true, true, true, true, true, true, true, true, true, true, false, false, false, false, false] rfl rfl (by kernel_rfl) (fun _ _ _ h => h) (Or.inl ⟨by rfl, ?_⟩) ?_ ?_
    rotate_left
    · intro w'
      go_simp
      with_reducible rfl
    rotate_left
    · simp only [Act.put, List.setIfInBounds_toArray, List.set_cons_zero, List.set_cons_succ, i64_w, i32_w]
      rfl
    refine pure_ (i := 22) (N := some 45) (v := ?_) (a' := ?_) #[true, true, true, true, true, true, true, true, true, true, true, true, true, true, true, true, true, true, true, true, true, true, true, false, false, false, false] rfl rfl (by kernel_rfl) (fun _ _ _ h => h) (Or.inl ⟨by rfl, ?_⟩) ?_ ?_
    rotate_left
    · intro w'
      go_simp
      with_reducible rfl
    rotate_left
    · simp only [Act.put, List.setIfInBounds_toArray, List.set_cons_zero, List.set_cons_succ, i64_w, i32_w]
      rfl
    refine pure_ (i := 23) (N := some 46) (v := ?_) (a' := ?_) #[true, true, true, true, true, true, true, true, true, true, true, true, true, true, true, true, true, true, true, true, true, true, true, true, false, false, false] rfl rfl (by kernel_rfl) (fun _ _ _ h => h) (Or.inl ⟨by rfl, ?_⟩) ?_ ?_
    rotate_left
    · intro w'
      go_simp
      with_reducible rfl
    rotate_left
    · simp only [Act.put, List.setIfInBounds_toArray, List.set_cons_zero, List.set_cons_succ, i64_w, i32_w]
      rfl
    refine one_ (i := 24) (N := some 47) #[true, true, true, true, true, true, true, true, true, true, true, true, true, true, true, true, true, true, true, true, true, true, true, true, true, false, false] rfl rfl (by kernel_rfl) (by decide) (fun K hK => ?_)
    refine goes_ Try.func17 (by kernel_rfl) rfl #[] (by rfl) rfl rfl (by simp only [List.map_toArray, List.map_nil]) ?_
    with_reducible refine (awake_calls _).mono ?_
    rintro e wk5 ⟨rfl, hk5⟩
    refine ⟨_, rfl, ?_⟩
    have HZ5_5 := Aside0.mk (blk_below HZ5_4.out hk5)
    have HZ7_5 := Aside0.mk (blk_below HZ7_4.out hk5)
    have HZ9_5 := Aside0.mk (blk_below HZ9_4.out hk5)
    have HC_5 := Aside0.mk (Kd.C_below HC_4.out hk5)
    have HC7_5 := Aside0.mk (Kd.C_below HC7_4.out hk5)
    have HC9_5 := Aside0.mk (Kd.C_below HC9_4.out hk5)
    have HB_5 := Aside0.mk (below_then HB_4.out HB_4.out.size hk5)
    clear HZ5_4 HZ7_4 HZ9_4 HC_4 HC7_4 HC9_4 HB_4 hk5
    refine hK.out _ _ ⟨(blk_cell HZ5_5.out 0).trans rfl, (blk_cell HZ5_5.out 1).trans rfl, (blk_cell HZ7_5.out 0).trans rfl, (blk_cell HZ7_5.out 1).trans rfl, (blk_cell HZ9_5.out 0).trans rfl, (blk_cell HZ9_5.out 1).trans rfl⟩ (fun hHeld => ?_)
    clear hK K
    refine norm_ (a' := ?_) ?_ ?_
    rotate_left
    · show Act.put _ (some 47) _ = _
      simp only [Act.put, List.setIfInBounds_toArray, List.set_cons_zero, List.set_cons_succ, i64_w, i32_w]
      rfl
    refine pure_ (i := 25) (N := some 48) (v := ?_) (a' := ?_) #[true, true, true, true, true, true, true, true, true, true, true, true, true, true, true, true, true, true, true, true, true, true, true, true, true, true, false] rfl rfl (by kernel_rfl) (fun _ _ _ h => h) (Or.inl ⟨by rfl, ?_⟩) ?_ ?_
    rotate_left
    · intro w'
      go_simp
      with_reducible rfl
    rotate_left
    · simp only [Act.put, List.setIfInBounds_toArray, List.set_cons_zero, List.set_cons_succ, i64_w, i32_w]
      rfl
    refine pure_ (i := 26) (N := some 6) (v := ?_) (a' := ?_) #[true, true, true, true, true, true, true, true, true, true, true, true, true, true, true, true, true, true, true, true, true, true, true, true, true, true, true] rfl rfl (by kernel_rfl) (fun _ _ _ h => h) (Or.inl ⟨by rfl, ?_⟩) ?_ ?_
    rotate_left
    · intro w'
      go_simp
      with_reducible rfl
    rotate_left
    · simp only [Act.put, List.setIfInBounds_toArray, List.set_cons_zero, List.set_cons_succ, i64_w, i32_w]
      rfl
    refine done_ (by kernel_rfl) ?_

    have HZ5 := HZ5_5
    have HZ7 := HZ7_5
    have HZ9 := HZ9_5
    have HC := HC_5
    have HC7 := HC7_5
    have HC9 := HC9_5
    have HB := HB_5
    clear HZ5_5 HZ7_5 HZ9_5 HC_5 HC7_5 HC9_5 HB_5
    go_wp2
    go_ret
    exact ⟨rfl, HB.out⟩
  · have e1 : (ex != 0) = true := by simpa using he
    clear he
    have HZ5_0 := Aside0.mk (blk_below HZ5.out (below_drew (Below.refl _ _)))
    have HZ7_0 := Aside0.mk (blk_below HZ7.out (below_drew (Below.refl _ _)))
    have HZ9_0 := Aside0.mk (blk_below HZ9.out (below_drew (Below.refl _ _)))
    have HC_0 := Aside0.mk (Kd.C_below HC.out (below_drew (Below.refl _ _)))
    have HC7_0 := Aside0.mk (Kd.C_below HC7.out (below_drew (Below.refl _ _)))
    have HC9_0 := Aside0.mk (Kd.C_below HC9.out (below_drew (Below.refl _ _)))
    have HB_0 := Aside0.mk (below_drew1 HB.out)
    clear HZ5 HZ7 HZ9 HC HC7 HC9 HB
    refine start_ (n := 27) (S := fun w' => w'.cell? ⟨b5, 0, none⟩ = some (.int .i64 mk) ∧ w'.cell? ⟨b5, 1, none⟩ = some (.slice A st.length c) ∧ w'.cell? ⟨b7, 0, none⟩ = some (.int .i64 kx) ∧ w'.cell? ⟨b7, 1, none⟩ = some (.slice A7 lx.length c7) ∧ w'.cell? ⟨b9, 0, none⟩ = some (.int .i64 kx) ∧ w'.cell? ⟨b9, 1, none⟩ = some (.slice A9 lx.length c9)) (ds := []) #[false, false, false, false, false, false, false, false, false, false, false, false, false, false, false, false, false, false, false, false, false, false, false, false, false, false, false] (by kernel_rfl) rfl rfl ⟨(blk_cell HZ5_0.out 0).trans rfl, (blk_cell HZ5_0.out 1).trans rfl, (blk_cell HZ7_0.out 0).trans rfl, (blk_cell HZ7_0.out 1).trans rfl, (blk_cell HZ9_0.out 0).trans rfl, (blk_cell HZ9_0.out 1).trans rfl⟩ (fun hHeld => ?_)
    refine pure_ (i := 0) (N := some 23) (v := ?_) (a' := ?_) #[true, false, false, false, false, false, false, false, false, false, false, false, false, false, false, false, false, false, false, false, false, false, false, false, false, false, false] rfl rfl (by kernel_rfl) (fun _ _ _ h => h) (Or.inl ⟨by rfl, ?_⟩) ?_ ?_
    rotate_left
    · intro w'
      go_simp
      with_reducible rfl
    rotate_left
    · simp only [Act.put, List.setIfInBounds_toArray, List.set_cons_zero, List.set_cons_succ, i64_w, i32_w]
      rfl
    refine pure_ (i := 1) (N := some 24) (v := ?_) (a' := ?_) #[true, true, false, false, false, false, false, false, false, false, false, false, false, false, false, false, false, false, false, false, false, false, false, false, false, false, false] rfl rfl (by kernel_rfl) (fun _ _ _ h => h) (Or.inl ⟨by rfl, ?_⟩) ?_ ?_
    rotate_left
    · intro w'
      go_simp
      with_reducible rfl
    rotate_left
    · simp only [Act.put, List.setIfInBounds_toArray, List.set_cons_zero, List.set_cons_succ, i64_w, i32_w]
      rfl
    refine pure_ (i := 2) (N := some 25) (v := ?_) (a' := ?_) #[true, true, true, false, false, false, false, false, false, false, false, false, false, false, false, false, false, false, false, false, false, false, false, false, false, false, false] rfl rfl (by kernel_rfl) (fun _ _ _ h => h) (Or.inl ⟨by rfl, ?_⟩) ?_ ?_
    rotate_left
    · intro w'
      go_simp
      with_reducible rfl
    rotate_left
    · simp only [Act.put, List.setIfInBounds_toArray, List.set_cons_zero, List.set_cons_succ, i64_w, i32_w]
      rfl
    refine pure_ (i := 3) (N := some 26) (v := ?_) (a' := ?_) #[true, true, true, true, false, false, false, false, false, false, false, false, false, false, false, false, false, false, false, false, false, false, false, false, false, false, false] rfl rfl (by kernel_rfl) (fun _ _ _ h => h) (Or.inl ⟨by rfl, ?_⟩) ?_ ?_
    rotate_left
    · intro w'
      go_simp
      with_reducible rfl
    rotate_left
    · simp only [Act.put, List.setIfInBounds_toArray, List.set_cons_zero, List.set_cons_succ, i64_w, i32_w]
      rfl
    refine take_ (i := 4) (N := some 27) (v := ?_) (a' := ?_) #[true, true, true, true, true, false, false, false, false, false, false, false, false, false, false, false, false, false, false, false, false, false, false, false, false, false, false] rfl rfl (by kernel_rfl) (fun _ _ _ h => h) (Or.inl ⟨by rfl, ?_⟩) hHeld ?_ ?_
    rotate_left
    · rintro w' ⟨s0, s1, s2, s3, s4, s5⟩
      go_simp
      with_reducible rfl
    rotate_left
    · simp only [Act.put, List.setIfInBounds_toArray, List.set_cons_zero, List.set_cons_succ, i64_w, i32_w]
      rfl
    refine take_ (i := 5) (N := some 28) (v := ?_) (a' := ?_) #[true, true, true, true, true, true, false, false, false, false, false, false, false, false, false, false, false, false, false, false, false, false, false, false, false, false, false] rfl rfl (by kernel_rfl) (fun _ _ _ h => h) (Or.inl ⟨by rfl, ?_⟩) hHeld ?_ ?_
    rotate_left
    · rintro w' ⟨s0, s1, s2, s3, s4, s5⟩
      go_simp
      with_reducible rfl
    rotate_left
    · simp only [Act.put, List.setIfInBounds_toArray, List.set_cons_zero, List.set_cons_succ, i64_w, i32_w]
      rfl
    refine one_ (i := 6) (N := some 29) #[true, true, true, true, true, true, true, false, false, false, false, false, false, false, false, false, false, false, false, false, false, false, false, false, false, false, false] rfl rfl (by kernel_rfl) (by decide) (fun K hK => ?_)
    refine goes_ Try.func14 (by kernel_rfl) rfl #[.agg #[.int .i64 kx, .slice A7 lx.length c7], .agg #[.int .i64 kx, .slice A9 lx.length c9]] (by rfl) rfl rfl (by simp only [List.map_toArray, List.map_cons, List.map_nil]; rfl) ?_
    with_reducible refine (same_true A7 c7 A9 c9 kx lx _ _ _ rfl rfl HC7_0.out hc7 HC9_0.out hc9).mono ?_
    rintro e wk1 ⟨rfl, hk1⟩
    refine ⟨_, rfl, ?_⟩
    have HZ5_1 := Aside0.mk (blk_below HZ5_0.out hk1)
    have HZ7_1 := Aside0.mk (blk_below HZ7_0.out hk1)
    have HZ9_1 := Aside0.mk (blk_below HZ9_0.out hk1)
    have HC_1 := Aside0.mk (Kd.C_below HC_0.out hk1)
    have HC7_1 := Aside0.mk (Kd.C_below HC7_0.out hk1)
    have HC9_1 := Aside0.mk (Kd.C_below HC9_0.out hk1)
    have HB_1 := Aside0.mk (below_then HB_0.out HB_0.out.size hk1)
    clear HZ5_0 HZ7_0 HZ9_0 HC_0 HC7_0 HC9_0 HB_0 hk1
    refine hK.out _ _ ⟨(blk_cell HZ5_1.out 0).trans rfl, (blk_cell HZ5_1.out 1).trans rfl, (blk_cell HZ7_1.out 0).trans rfl, (blk_cell HZ7_1.out 1).trans rfl, (blk_cell HZ9_1.out 0).trans rfl, (blk_cell HZ9_1.out 1).trans rfl⟩ (fun hHeld => ?_)
    clear hK K
    refine norm_ (a' := ?_) ?_ ?_
    rotate_left
    · show Act.put _ (some 29) _ = _
      simp only [Act.put, List.setIfInBounds_toArray, List.set_cons_zero, List.set_cons_succ, i64_w, i32_w]
      rfl
    refine pure_ (i := 7) (N := some 30) (v := ?_) (a' := ?_) #[true, true, true, true, true, true, true, true, false, false, false, false, false, false, false, false, false, false, false, false, false, false, false, false, false, false, false] rfl rfl (by kernel_rfl) (fun _ _ _ h => h) (Or.inl ⟨by rfl, ?_⟩) ?_ ?_
    rotate_left
    · intro w'
      go_simp
      with_reducible rfl
    rotate_left
    · simp only [Act.put, List.setIfInBounds_toArray, List.set_cons_zero, List.set_cons_succ, i64_w, i32_w]
      rfl
    refine pure_ (i := 8) (N := some 31) (v := ?_) (a' := ?_) #[true, true, true, true, true, true, true, true, true, false, false, false, false, false, false, false, false, false, false, false, false, false, false, false, false, false, false] rfl rfl (by kernel_rfl) (fun _ _ _ h => h) (Or.inl ⟨by rfl, ?_⟩) ?_ ?_
    rotate_left
    · intro w'
      go_simp
      with_reducible rfl
    rotate_left
    · simp only [Act.put, List.setIfInBounds_toArray, List.set_cons_zero, List.set_cons_succ, i64_w, i32_w]
      rfl
    refine take_ (i := 9) (N := some 32) (v := ?_) (a' := ?_) #[true, true, true, true, true, true, true, true, true, true, false, false, false, false, false, false, false, false, false, false, false, false, false, false, false, false, false] rfl rfl (by kernel_rfl) (fun _ _ _ h => h) (Or.inl ⟨by rfl, ?_⟩) hHeld ?_ ?_
    rotate_left
    · rintro w' ⟨s0, s1, s2, s3, s4, s5⟩
      go_simp
      with_reducible rfl
    rotate_left
    · simp only [Act.put, List.setIfInBounds_toArray, List.set_cons_zero, List.set_cons_succ, i64_w, i32_w]
      rfl
    refine take_ (i := 11) (N := some 34) (v := ?_) (a' := ?_) #[true, true, true, true, true, true, true, true, true, true, false, true, false, false, false, false, false, false, false, false, false, false, false, false, false, false, false] rfl rfl (by kernel_rfl) (fun _ _ _ h => h) (Or.inl ⟨by rfl, ?_⟩) hHeld ?_ ?_
    rotate_left
    · rintro w' ⟨s0, s1, s2, s3, s4, s5⟩
      go_simp
      with_reducible rfl
    rotate_left
    · simp only [Act.put, List.setIfInBounds_toArray, List.set_cons_zero, List.set_cons_succ, i64_w, i32_w]
      rfl
    refine one_ (i := 10) (N := some 33) #[true, true, true, true, true, true, true, true, true, true, true, true, false, false, false, false, false, false, false, false, false, false, false, false, false, false, false] rfl rfl (by kernel_rfl) (by decide) (fun K hK => ?_)
    refine goes_ Try.func15 (by kernel_rfl) rfl #[.agg #[.int .i64 mk, .slice A st.length c]] (by rfl) rfl rfl (by simp only [List.map_toArray, List.map_cons, List.map_nil]; rfl) ?_
    with_reducible refine (valid_calls A c mk st _ HC_1.out hl).mono ?_
    rintro e wk2 ⟨rfl, hk2⟩
    refine ⟨_, rfl, ?_⟩
    have HZ5_2 := Aside0.mk (blk_below HZ5_1.out hk2)
    have HZ7_2 := Aside0.mk (blk_below HZ7_1.out hk2)
    have HZ9_2 := Aside0.mk (blk_below HZ9_1.out hk2)
    have HC_2 := Aside0.mk (Kd.C_below HC_1.out hk2)
    have HC7_2 := Aside0.mk (Kd.C_below HC7_1.out hk2)
    have HC9_2 := Aside0.mk (Kd.C_below HC9_1.out hk2)
    have HB_2 := Aside0.mk (below_then HB_1.out HB_1.out.size hk2)
    clear HZ5_1 HZ7_1 HZ9_1 HC_1 HC7_1 HC9_1 HB_1 hk2
    refine hK.out _ _ ⟨(blk_cell HZ5_2.out 0).trans rfl, (blk_cell HZ5_2.out 1).trans rfl, (blk_cell HZ7_2.out 0).trans rfl, (blk_cell HZ7_2.out 1).trans rfl, (blk_cell HZ9_2.out 0).trans rfl, (blk_cell HZ9_2.out 1).trans rfl⟩ (fun hHeld => ?_)
    clear hK K
    refine norm_ (a' := ?_) ?_ ?_
    rotate_left
    · show Act.put _ (some 33) _ = _
      simp only [Act.put, List.setIfInBounds_toArray, List.set_cons_zero, List.set_cons_succ, i64_w, i32_w]
      rfl
    refine one_ (i := 12) (N := some 35) #[true, true, true, true, true, true, true, true, true, true, true, true, true, false, false, false, false, false, false, false, false, false, false, false, false, false, false] rfl rfl (by kernel_rfl) (by decide) (fun K hK => ?_)
    refine goes_ Try.func16 (by kernel_rfl) rfl #[.agg #[.int .i64 mk, .slice A st.length c]] (by rfl) rfl rfl (by simp only [List.map_toArray, List.map_cons, List.map_nil]; rfl) ?_
    with_reducible refine (ref_valid_calls A c mk st _ HC_2.out hl).mono ?_
    rintro e wk3 ⟨rfl, hk3⟩
    refine ⟨_, rfl, ?_⟩
    have HZ5_3 := Aside0.mk (blk_below HZ5_2.out hk3)
    have HZ7_3 := Aside0.mk (blk_below HZ7_2.out hk3)
    have HZ9_3 := Aside0.mk (blk_below HZ9_2.out hk3)
    have HC_3 := Aside0.mk (Kd.C_below HC_2.out hk3)
    have HC7_3 := Aside0.mk (Kd.C_below HC7_2.out hk3)
    have HC9_3 := Aside0.mk (Kd.C_below HC9_2.out hk3)
    have HB_3 := Aside0.mk (below_then HB_2.out HB_2.out.size hk3)
    clear HZ5_2 HZ7_2 HZ9_2 HC_2 HC7_2 HC9_2 HB_2 hk3
    refine hK.out _ _ ⟨(blk_cell HZ5_3.out 0).trans rfl, (blk_cell HZ5_3.out 1).trans rfl, (blk_cell HZ7_3.out 0).trans rfl, (blk_cell HZ7_3.out 1).trans rfl, (blk_cell HZ9_3.out 0).trans rfl, (blk_cell HZ9_3.out 1).trans rfl⟩ (fun hHeld => ?_)
    clear hK K
    refine norm_ (a' := ?_) ?_ ?_
    rotate_left
    · show Act.put _ (some 35) _ = _
      simp only [Act.put, List.setIfInBounds_toArray, List.set_cons_zero, List.set_cons_succ, i64_w, i32_w]
      rfl
    refine pure_ (i := 13) (N := some 36) (v := ?_) (a' := ?_) #[true, true, true, true, true, true, true, true, true, true, true, true, true, true, false, false, false, false, false, false, false, false, false, false, false, false, false] rfl rfl (by kernel_rfl) (fun _ _ _ h => h) (Or.inl ⟨by rfl, ?_⟩) ?_ ?_
    rotate_left
    · intro w'
      go_simp
      with_reducible rfl
    rotate_left
    · simp only [Act.put, List.setIfInBounds_toArray, List.set_cons_zero, List.set_cons_succ, i64_w, i32_w]
      rfl
    refine pure_ (i := 14) (N := some 37) (v := ?_) (a' := ?_) #[true, true, true, true, true, true, true, true, true, true, true, true, true, true, true, false, false, false, false, false, false, false, false, false, false, false, false] rfl rfl (by kernel_rfl) (fun _ _ _ h => h) (Or.inl ⟨by rfl, ?_⟩) ?_ ?_
    rotate_left
    · intro w'
      go_simp
      with_reducible rfl
    rotate_left
    · simp only [Act.put, List.setIfInBounds_toArray, List.set_cons_zero, List.set_cons_succ, i64_w, i32_w]
      rfl
    refine pure_ (i := 15) (N := some 38) (v := ?_) (a' := ?_) #[true, true, true, true, true, true, true, true, true, true, true, true, true, true, true, true, false, false, false, false, false, false, false, false, false, false, false] rfl rfl (by kernel_rfl) (fun _ _ _ h => h) (Or.inl ⟨by rfl, ?_⟩) ?_ ?_
    rotate_left
    · intro w'
      go_simp
      with_reducible rfl
    rotate_left
    · simp only [Act.put, List.setIfInBounds_toArray, List.set_cons_zero, List.set_cons_succ, i64_w, i32_w]
      rfl
    refine pure_ (i := 16) (N := some 39) (v := ?_) (a' := ?_) #[true, true, true, true, true, true, true, true, true, true, true, true, true, true, true, true, true, false, false, false, false, false, false, false, false, false, false] rfl rfl (by kernel_rfl) (fun _ _ _ h => h) (Or.inl ⟨by rfl, ?_⟩) ?_ ?_
    rotate_left
    · intro w'
      go_simp
      with_reducible rfl
    rotate_left
    · simp only [Act.put, List.setIfInBounds_toArray, List.set_cons_zero, List.set_cons_succ, i64_w, i32_w]
      rfl
    refine pure_ (i := 17) (N := some 40) (v := ?_) (a' := ?_) #[true, true, true, true, true, true, true, true, true, true, true, true, true, true, true, true, true, true, false, false, false, false, false, false, false, false, false] rfl rfl (by kernel_rfl) (fun _ _ _ h => h) (Or.inl ⟨by rfl, ?_⟩) ?_ ?_
    rotate_left
    · intro w'
      go_simp
      with_reducible rfl
    rotate_left
    · simp only [Act.put, List.setIfInBounds_toArray, List.set_cons_zero, List.set_cons_succ, i64_w, i32_w]
      rfl
    refine pure_ (i := 18) (N := some 41) (v := ?_) (a' := ?_) #[true, true, true, true, true, true, true, true, true, true, true, true, true, true, true, true, true, true, true, false, false, false, false, false, false, false, false] rfl rfl (by kernel_rfl) (fun _ _ _ h => h) (Or.inl ⟨by rfl, ?_⟩) ?_ ?_
    rotate_left
    · intro w'
      go_simp
      with_reducible rfl
    rotate_left
    · simp only [Act.put, List.setIfInBounds_toArray, List.set_cons_zero, List.set_cons_succ, i64_w, i32_w]
      rfl
    refine pure_ (i := 19) (N := some 42) (v := undef) (a' := ?_) #[true, true, true, true, true, true, true, true, true, true, true, true, true, true, true, true, true, true, true, true, false, false, false, false, false, false, false] rfl rfl (by kernel_rfl) (fun _ _ _ h => h) (Or.inr ⟨by rfl, rfl⟩) ?_ ?_
    rotate_left
    · simp only [Act.put, List.setIfInBounds_toArray, List.set_cons_zero, List.set_cons_succ, i64_w, i32_w]
      rfl
    refine pure_ (i := 20) (N := some 43) (v := undef) (a' := ?_) #[true, true, true, true, true, true, true, true, true, true, true, true, true, true, true, true, true, true, true, true, true, false, false, false, false, false, false] rfl rfl (by kernel_rfl) (fun _ _ _ h => h) (Or.inr ⟨by rfl, rfl⟩) ?_ ?_
    rotate_left
    · simp only [Act.put, List.setIfInBounds_toArray, List.set_cons_zero, List.set_cons_succ, i64_w, i32_w]
      rfl
    refine pure_ (i := 21) (N := some 44) (v := ?_) (a' := ?_) #[true, true, true, true, true, true, true, true, true, true, true, true, true, true, true, true, true, true, true, true, true, true, false, false, false, false, false] rfl rfl (by kernel_rfl) (fun _ _ _ h => h) (Or.inl ⟨by rfl, ?_⟩) ?_ ?_
    rotate_left
    · intro w'
      go_simp
      with_reducible rfl
    rotate_left
    · simp only [Act.put, List.setIfInBounds_toArray, List.set_cons_zero, List.set_cons_succ, i64_w, i32_w]
      rfl
    refine pure_ (i := 22) (N := some 45) (v := ?_) (a' := ?_) #[true, true, true, true, true, true, true, true, true, true, true, true, true, true, true, true, true, true, true, true, true, true, true, false, false, false, false] rfl rfl (by kernel_rfl) (fun _ _ _ h => h) (Or.inl ⟨by rfl, ?_⟩) ?_ ?_
    rotate_left
    · intro w'
      go_simp
      with_reducible rfl
    rotate_left
    · simp only [Act.put, List.setIfInBounds_toArray, List.set_cons_zero, List.set_cons_succ, i64_w, i32_w]
      rfl
    refine pure_ (i := 23) (N := some 46) (v := ?_) (a' := ?_) #[true, true, true, true, true, true, true, true, true, true, true, true, true, true, true, true, true, true, true, true, true, true, true, true, false, false, false] rfl rfl (by kernel_rfl) (fun _ _ _ h => h) (Or.inl ⟨by rfl, ?_⟩) ?_ ?_
    rotate_left
    · intro w'
      go_simp
      with_reducible rfl
    rotate_left
    · simp only [Act.put, List.setIfInBounds_toArray, List.set_cons_zero, List.set_cons_succ, i64_w, i32_w]
      rfl
    refine one_ (i := 24) (N := some 47) #[true, true, true, true, true, true, true, true, true, true, true, true, true, true, true, true, true, true, true, true, true, true, true, true, true, false, false] rfl rfl (by kernel_rfl) (by decide) (fun K hK => ?_)
    refine goes_ Try.func17 (by kernel_rfl) rfl #[] (by rfl) rfl rfl (by simp only [List.map_toArray, List.map_nil]) ?_
    with_reducible refine (awake_calls _).mono ?_
    rintro e wk4 ⟨rfl, hk4⟩
    refine ⟨_, rfl, ?_⟩
    have HZ5_4 := Aside0.mk (blk_below HZ5_3.out hk4)
    have HZ7_4 := Aside0.mk (blk_below HZ7_3.out hk4)
    have HZ9_4 := Aside0.mk (blk_below HZ9_3.out hk4)
    have HC_4 := Aside0.mk (Kd.C_below HC_3.out hk4)
    have HC7_4 := Aside0.mk (Kd.C_below HC7_3.out hk4)
    have HC9_4 := Aside0.mk (Kd.C_below HC9_3.out hk4)
    have HB_4 := Aside0.mk (below_then HB_3.out HB_3.out.size hk4)
    clear HZ5_3 HZ7_3 HZ9_3 HC_3 HC7_3 HC9_3 HB_3 hk4
    refine hK.out _ _ ⟨(blk_cell HZ5_4.out 0).trans rfl, (blk_cell HZ5_4.out 1).trans rfl, (blk_cell HZ7_4.out 0).trans rfl, (blk_cell HZ7_4.out 1).trans rfl, (blk_cell HZ9_4.out 0).trans rfl, (blk_cell HZ9_4.out 1).trans rfl⟩ (fun hHeld => ?_)
    clear hK K
    refine norm_ (a' := ?_) ?_ ?_
    rotate_left
    · show Act.put _ (some 47) _ = _
      simp only [Act.put, List.setIfInBounds_toArray, List.set_cons_zero, List.set_cons_succ, i64_w, i32_w]
      rfl
    refine pure_ (i := 25) (N := some 48) (v := ?_) (a' := ?_) #[true, true, true, true, true, true, true, true, true, true, true, true, true, true, true, true, true, true, true, true, true, true, true, true, true, true, false] rfl rfl (by kernel_rfl) (fun _ _ _ h => h) (Or.inl ⟨by rfl, ?_⟩) ?_ ?_
    rotate_left
    · intro w'
      go_simp
      with_reducible rfl
    rotate_left
    · simp only [Act.put, List.setIfInBounds_toArray, List.set_cons_zero, List.set_cons_succ, i64_w, i32_w]
      rfl
    refine pure_ (i := 26) (N := some 6) (v := ?_) (a' := ?_) #[true, true, true, true, true, true, true, true, true, true, true, true, true, true, true, true, true, true, true, true, true, true, true, true, true, true, true] rfl rfl (by kernel_rfl) (fun _ _ _ h => h) (Or.inl ⟨by rfl, ?_⟩) ?_ ?_
    rotate_left
    · intro w'
      go_simp
      with_reducible rfl
    rotate_left
    · simp only [Act.put, List.setIfInBounds_toArray, List.set_cons_zero, List.set_cons_succ, i64_w, i32_w]
      rfl
    refine done_ (by kernel_rfl) ?_

    have HZ5 := HZ5_4
    have HZ7 := HZ7_4
    have HZ9 := HZ9_4
    have HC := HC_4
    have HC7 := HC7_4
    have HC9 := HC9_4
    have HB := HB_4
    clear HZ5_4 HZ7_4 HZ9_4 HC_4 HC7_4 HC9_4 HB_4
    go_wp2
    go_ret
    exact ⟨rfl, HB.out⟩
open Go.ChangeShapes Go.WideShapes Go.ChangeAt
open Go.ChangeMaps (open_string shut_string)
theorem own : ownKnob Try.prog.godebug = none := by kernel_rfl
theorem laidOut : laidOutB Try.prog = true := by kernel_rfl
def IsRow (k : IntKind) (w : World) (a : Option Addr) (len cap : Nat) (zs : List Int) : Prop :=
  (a = none ∧ len = 0 ∧ cap = 0 ∧ zs = []) ∨
  ∃ x, a = some x ∧ len ≤ cap ∧ cap ≤ maxLen ∧ zs.length = cap ∧ (∀ i, i < zs.length → w.cell? (x.add i) = some (.int k (zs.getD i 0))) ∧ ∀ n ∈ zs, (Lit.int k n).wf = true
set_option maxRecDepth 100000 in
theorem lifted (os : Os) (started : os.Started) (H : Type) (enc : TypeId × Value → H) :
    ReturnsInHanded {} Try.checked os 3 .any (Rows.coderNewSpec.pre6 enc Try.prog Try.f3 Rows.coderNewRow.domain false) (Rows.coderNewSpec.post enc Try.prog Try.f3 false true false false) := by
  refine returnsInHanded_of_change_sized (C := Try.checked) own started (by kernel_rfl) Try.func3
    (ChangeSpec.witness6 (enc := enc) (C := Try.checked) false ⟨#[], #[.int .i64 0, .int .i64 0, .agg #[.int .i64 0, .slice none 0 0]], []⟩ 8 (by kernel_rfl) (by kernel_rfl) (by kernel_rfl) (by kernel_rfl)) ?_
  intro W base args ds gs before hval0 hW hcnd hsz0 _
  have hsz : (DataW.weightsEach Try.prog (Try.f3.params.toList ++ Rows.coderNewSpec.plain.varTypes Try.prog) (ds ++ gs)).all (· ≤ reachBytes) = true := hsz0
  have hval : ∀ (j : Nat) t v, Try.f3.params[j]? = some t → args[j]? = some v → Value.okWide Try.prog W .any base t v := hval0
  have hW' := hW
  obtain ⟨p, q, hA0, hV, rfl, hfz, hnd⟩ := hW
  have hA : DataW.TrodAll enc Try.prog W 0 (fun _ => true) true Try.f3.params.toList args.toList ds p := hA0
  rw [Try.params3] at hA hval hsz
  obtain ⟨v0, vs0, d0, ds0, p0, q0, hargs, rfl, rfl, h0, r0⟩ := trodAll_cons hA
  obtain ⟨v1, vs1, d1, ds1, p1, q1, rfl, rfl, rfl, h1, r1⟩ := trodAll_cons r0
  obtain ⟨v2, vs2, d2, ds2, p2, q2, rfl, rfl, rfl, h2, r2⟩ := trodAll_cons r1
  obtain ⟨rfl, rfl, rfl⟩ := trodAll_nil r2
  obtain rfl : args = #[v0, v1, v2] := by cases args; simp_all
  obtain ⟨rfl, rfl⟩ := trodVars_none hV
  obtain ⟨a0, rfl, rfl, rfl, w0⟩ := open_int Try.underlying3 (hval 0 3 v0 rfl rfl) h0
  obtain ⟨a1, rfl, rfl, rfl, w1⟩ := open_int Try.underlying3 (hval 1 3 v1 rfl rfl) h1
  have k2 := h2
  have lt2 : ∀ x ∈ p2, x.block < W.heap.size := by obtain ⟨m, hm⟩ := k2; exact DataW.trod_lt m _ _ _ hm
  obtain ⟨cs2, rfl, csz2⟩ := okWide_struct Try.underlying24 (hval 2 24 v2 rfl rfl)
  obtain ⟨⟨x2_0, x2_1⟩, ⟨_, _, hcs2, rfl, ⟨A2_1, c2_1, rfl, l2_1, g2_1⟩⟩, ⟨w2_0, w2_1⟩⟩ := Opn.open_arg (N := 8) (fun n => ((o_struct (d := (Kd.pair (Kd.int .i64) (Kd.slice 3 (Kd.int .i64)))) Try.underlying24 (by kernel_rfl) (f_cons rfl (o_int Try.underlying3 (by kernel_rfl)) (f_one rfl (o_slice (B := 8) Try.underlying22 (by kernel_rfl) (o_int Try.underlying3 (by kernel_rfl)) (by kernel_rfl))))) : Opn.OpensTo Try.prog (n + 8) 24 _ _)) h2 hsz (j := 2) (t := 24) rfl rfl
  obtain rfl : cs2 = #[.int .i64 x2_0, .slice A2_1 x2_1.length c2_1] := by rw [← Array.toList_inj]; exact hcs2
  clear hA0 hval0 hsz0 hsz
  refine (walk W a0 w0 a1 w1 x2_0 w2_0 A2_1 c2_1 x2_1 l2_1 g2_1 w2_1).mono fun e W' ⟨he, bel⟩ => ?_
  subst he
  exact ⟨_, rfl, _, _, _, [], _, [], hW', trodAll_mk1 (shut_bool Try.underlying4 _), (trodAll_cons_mk (shut_int Try.underlying3 w0) (trodAll_cons_mk (shut_int Try.underlying3 w1) (trodAll_cons_mk (Below.trod laidOut (by kernel_rfl) (of_decide_eq_true (by kernel_rfl)) k2 bel lt2) trodAll_mk0))), rfl, bel.frame _, fun h => by cases h⟩
theorem over : Rows.coderNewRow.holds Try.pinned (OpenSpec.ofChange Rows.coderNewSpec) :=
  OpenClaim.holds_of_wide 3 Try.f3 rfl rfl rfl rfl rfl rfl rfl ⟨rfl, rfl, rfl, rfl, rfl⟩ rfl rfl rfl rfl rfl (by kernel_rfl) Try.func3 (by kernel_rfl)
    (of_decide_eq_true (by kernel_rfl)) (by unfold Func.isWrapper; first | (rw [if_pos (by decide +kernel)]; kernel_rfl) | (rw [if_neg (by decide +kernel)]; exact ⟨rfl, rfl⟩))
    (fun os started H enc _ => lifted os started H enc)
theorem proved : Rows.CoderNewSaid := over
#print axioms proved
end Go.Proofs.Ytpnmedmghncpiaa.HandCoderNew
namespace Go.Proofs.Ytpnmedmghncpiaa
/-- The row, under a short name, for the claim. -/
theorem coderNew_holds : Rows.CoderNewSaid := HandCoderNew.proved
end Go.Proofs.Ytpnmedmghncpiaa
