/- An encoder does the same as the reference's bit by bit, and is not changed by its end: for every model, list of events and place asked. -/
import Derived.Test.YtpnmedmghncpiaaPCoderShortx0
import Derived.Test.YtpnmedmghncpiaaAid
import Derived.Test.YtpnmedmghncpiaaHandAid
import Derived.Test.YtpnmedmghncpiaaCod1
import Derived.Test.YtpnmedmghncpiaaCod2
import Derived.Test.YtpnmedmghncpiaaCod3
import Derived.Test.YtpnmedmghncpiaaMod
import Derived.Test.YtpnmedmghncpiaaNewRef
import Derived.Test.YtpnmedmghncpiaaEnc
import Derived.Test.YtpnmedmghncpiaaMods
import Derived.Test.YtpnmedmghncpiaaEncAt
import Derived.Test.YtpnmedmghncpiaaPut
import Derived.Test.YtpnmedmghncpiaaEnd
import Derived.Test.YtpnmedmghncpiaaEncode
import Derived.Test.YtpnmedmghncpiaaAwake
import Derived.Test.YtpnmedmghncpiaaSame
import Derived.Test.YtpnmedmghncpiaaOpn
import Derived.Test.YtpnmedmghncpiaaRefAt
import Derived.Test.YtpnmedmghncpiaaRefPut
import Derived.Test.YtpnmedmghncpiaaRefEnd
import Derived.Test.YtpnmedmghncpiaaTwo
import Derived.Test.YtpnmedmghncpiaaRows
import Derived.WalkKit
import Derived.ProofKit
import Derived.OpenShut
import Derived.ShutString
import Derived.ChangeOld
import Derived.Lib.SmallJoins
import Derived.Below
import Derived.SizedLaws
import Derived.Test.YtpnmedmghncpiaaWSized
namespace Go.Proofs.Ytpnmedmghncpiaa.HandCoderPuts
open Go Go.RowKit Go.Proofs.Ytpnmedmghncpiaa.PCoderShort Go.Proofs.YtpnmedmghncpiaaW.PrintWords Go.Proofs.YtpnmedmghncpiaaW.PrintLast Go.Proofs.YtpnmedmghncpiaaW.PrintMore Go.Proofs.Ytpnmedmghncpiaa.Aid Go.Proofs.Ytpnmedmghncpiaa.HandAid Go.Proofs.Ytpnmedmghncpiaa.Cod1 Go.Proofs.Ytpnmedmghncpiaa.Cod2 Go.Proofs.Ytpnmedmghncpiaa.Cod3 Go.Proofs.Ytpnmedmghncpiaa.Mod Go.Proofs.Ytpnmedmghncpiaa.NewRef Go.Proofs.Ytpnmedmghncpiaa.Enc Go.Proofs.Ytpnmedmghncpiaa.Mods Go.Proofs.Ytpnmedmghncpiaa.EncAt Go.Proofs.Ytpnmedmghncpiaa.Put Go.Proofs.Ytpnmedmghncpiaa.End Go.Proofs.Ytpnmedmghncpiaa.Encode Go.Proofs.Ytpnmedmghncpiaa.Awake Go.Proofs.Ytpnmedmghncpiaa.Same Go.Proofs.Ytpnmedmghncpiaa.Opn Go.Proofs.Ytpnmedmghncpiaa.RefAt Go.Proofs.Ytpnmedmghncpiaa.RefPut Go.Proofs.Ytpnmedmghncpiaa.RefEnd Go.Proofs.Ytpnmedmghncpiaa.Two
set_option linter.unusedVariables false
set_option linter.unusedSimpArgs false
open Go.Proofs.Ytpnmedmghncpiaa
theorem drop_ev {l : List S47} {i : Nat} (h : i < l.length) : rd_T47 l (i : Int) = l[i] := by
  simp [rd_T47, List.getD_eq_getElem?_getD, List.getElem?_eq_getElem h]
set_option maxHeartbeats 8000000 in
set_option maxRecDepth 100000 in
theorem walk (w : World) (mk : Int) (h2 : (Lit.int .i64 mk).wf = true) (A : Option Addr) (c : Nat) (st : List Int) (hl : st.length ≤ c) (hC : Kd.C (Kd.int .i64) w A st.length st) (hW : st.length * 8 ≤ 140737488351232 ∧ ∀ x ∈ st, (Lit.int .i64 x).wf = true)
    (Ae : Option Addr) (ce : Nat) (l : List S47) (hle : l.length ≤ ce) (hCE : Kd.C k47 w Ae l.length l) (hWE : l.length * 16 ≤ 140737488351232 ∧ ∀ x ∈ l, (Lit.int .i64 x.f0).wf = true ∧ (Lit.int .i64 x.f1).wf = true) (asked : Int) (ha : (Lit.int .u16 asked).wf = true) :
    Calls Try.prog 5 #[.agg #[.int .i64 mk, .slice A st.length c], .slice Ae l.length ce, .int .u16 asked] w fun e w' => e = .returned (.bool true) ∧ Below w.heap.size w w' := by
  have hu := Try.underlying24
  have hu2 := Try.underlying47
  have hmax : l.length ≤ 9223372036854775807 := Kd.C_max hCE
  have hmax2 : st.length ≤ 9223372036854775807 := Kd.C_max hC
  have ha2 : 0 ≤ asked ∧ asked ≤ 65535 := by
    have h1 : (decide (IntKind.u16.min ≤ asked) && decide (asked ≤ IntKind.u16.max)) = true := ha
    rw [show IntKind.u16.min = 0 from by decide, show IntKind.u16.max = 65535 from by decide] at h1
    simpa using h1
  have HB := Aside0.mk (below_alloc (Below.refl w.heap.size w) (.cells #[.int .i64 mk, .slice A st.length c] 24))
  by_cases hbig : l.length > 5000 ∨ st.length > 16384
  · have hb2 : (l.length : Int) > 5000 ∨ ((st.length : Int) > 16384 ∧ ¬ (l.length : Int) > 5000) := by omega
    clear hbig hC hCE hW hWE h2 ha ha2
    rcases hb2 with h | ⟨h, h'⟩
    · go_enter Try.func5, Try.ntmps5
      go_wp2_with (go_at_call 17; refine (awake_calls _).mono ?_; rintro e w2 ⟨rfl, hB⟩; have HB2 := Aside0.mk (below_then HB.out HB.out.size hB); clear hB)
      go_ret
      exact ⟨rfl, HB2.out⟩
    · go_enter Try.func5, Try.ntmps5
      go_wp2_with (go_at_call 17; refine (awake_calls _).mono ?_; rintro e w2 ⟨rfl, hB⟩; have HB2 := Aside0.mk (below_then HB.out HB.out.size hB); clear hB)
      go_ret
      exact ⟨rfl, HB2.out⟩
  have h1 : ¬ (l.length : Int) > 5000 := by omega
  have h3 : ¬ (st.length : Int) > 16384 := by omega
  obtain ⟨b2, hsb2⟩ : ∃ x, w.heap.size = x := ⟨_, rfl⟩
  obtain ⟨W0, hsW0⟩ : ∃ x, w.alloc (.cells #[.int .i64 mk, .slice A st.length c] 24) = x := ⟨_, rfl⟩
  have HZ2 := Aside0.mk (show W0.heap[b2]? = some (.cells #[.int .i64 mk, .slice A st.length c] 24 (0, 0)) from hsW0 ▸ hsb2 ▸ heap_new w _)
  have HC := Aside0.mk (show Kd.C (Kd.int .i64) W0 A st.length st from hsW0 ▸ Kd.C_below hC (below_alloc (Below.refl _ _) _))
  have HCE0 := Aside0.mk hCE
  have HB := Aside0.mk (show Below w.heap.size w W0 from hsW0 ▸ HB.out)
  clear hbig hC hCE hW hWE h2 ha
  have k0 : W0.cell? ⟨b2, 0, none⟩ = some (.int .i64 mk) := (blk_cell HZ2.out 0).trans rfl
  have k1 : W0.cell? ⟨b2, 1, none⟩ = some (.slice A st.length c) := (blk_cell HZ2.out 1).trans rfl
  by_cases hm : okModel mk st
  · have HM := Aside0.mk hm
    clear hm
    go_enter Try.func5, Try.ntmps5
    go_wp2_with (fail)
    refine (new_enc A c mk st _ HC.out hl HM.out).mono ?_
    rintro e w1 ⟨g, rfl, hE1, hB1⟩
    have HZ2 := Aside0.mk (blk_below HZ2.out hB1)
    clear k0 k1
    have k0 : w1.cell? ⟨b2, 0, none⟩ = some (.int .i64 mk) := (blk_cell HZ2.out 0).trans rfl
    have k1 : w1.cell? ⟨b2, 1, none⟩ = some (.slice A st.length c) := (blk_cell HZ2.out 1).trans rfl
    have HC := Aside0.mk (Kd.C_below HC.out hB1)
    have HE1 := Aside0.mk hE1
    have HB1 := Aside0.mk hB1
    clear hE1 hB1 hsW0 hsb2
    go_wp2_with (fail)
    refine (ref_new_enc A c mk st _ HC.out hl HM.out).mono ?_
    rintro e w2 ⟨h, rfl, hE2, hB2⟩
    have HT := Aside0.mk (Two.new HB.out HE1.out HB1.out hE2 hB2 (newES_ok HM.out) (newES_ok HM.out))
    clear hE2 hB2 k0 k1 HE1 HB1 HZ2 HC HB
    go_wp2
    go_loopw [45] (fun i wr => ∃ (k : Nat) (s : ES), k ≤ l.length ∧ i = .int .i64 k ∧ Aside0 (Two w g h s s (fun _ => False) wr) ∧ Aside0 (s.out.length ≤ 4 * k)) (fun i _ => l.length - (intOf i).toNat)
    case atStart => exact ⟨0, newES mk st, Nat.zero_le _, rfl, HT, ⟨Nat.le_refl _⟩⟩
    clear HT
    case round =>
      obtain ⟨k, s0, hk, rfl, HT, HN⟩ := hrel
      have hsl : s0.out.length ≤ 20000 := by have := HN.out; omega
      by_cases hlt : k < l.length
      · have hC := Kd.C_below HCE0.out HT.out.b
        obtain ⟨ad, hA, hx0, hx1⟩ := at_T47 hC (k : Int) (by omega) (by omega)
        subst hA
        obtain ⟨x, hx⟩ : ∃ x, rd_T47 l (k : Int) = x := ⟨_, rfl⟩
        rw [hx] at hx0 hx1
        simp only [Int.toNat_natCast] at hx0 hx1
        obtain ⟨b12, hsb12⟩ : ∃ x, wr.heap.size = x := ⟨_, rfl⟩
        obtain ⟨W1, hsW1⟩ : ∃ y, wr.alloc (.cells #[.int .i64 x.f0, .int .i64 x.f1] 47) = y := ⟨_, rfl⟩
        have HT := Aside0.mk (show Two w g h s0 s0 (fun k => False ∨ k = wr.heap.size) W1.drew from (hsW1 ▸ HT.out.box _ : Two w g h s0 s0 _ W1).below (below_drew (Below.refl _ _)))
        have HB12 := Aside0.mk hsb12.symm
        have HZ12 := Aside0.mk (show W1.drew.heap[b12]? = some (.cells #[.int .i64 x.f0, .int .i64 x.f1] 47 (0, 0)) from hsW1 ▸ hsb12 ▸ heap_new wr _)
        have p0 : W1.drew.cell? ⟨b12, 0, none⟩ = some (.int .i64 x.f0) := (blk_cell HZ12.out 0).trans rfl
        have p1 : W1.drew.cell? ⟨b12, 1, none⟩ = some (.int .i64 x.f1) := (blk_cell HZ12.out 1).trans rfl
        have hsl2 : (s0.putI x.f0 x.f1).out.length ≤ 20004 := by have := (ES.putI_len s0 x.f0 x.f1).1; omega
        have HN2 : Aside0 ((s0.putI x.f0 x.f1).out.length ≤ 4 * (k + 1)) := ⟨by have := (ES.putI_len s0 x.f0 x.f1).1; have := HN.out; omega⟩
        clear hC hx
        go_wp2
        clear hsb12 hsW1 hx0 hx1
        refine start_ (n := 13) (S := fun w' => w'.cell? ⟨b12, 0, none⟩ = some (.int .i64 x.f0) ∧ w'.cell? ⟨b12, 1, none⟩ = some (.int .i64 x.f1)) (ds := []) #[false, false, false, false, false, false, false, false, false, false, false, false, false] (by kernel_rfl) rfl rfl ⟨p0, p1⟩ (fun hHeld => ?_)
        generalize W1.drew = wd at p0 p1 HT HZ12 hHeld ⊢
        refine pure_ (i := 0) (N := some 50) (v := ?_) (a' := ?_) #[true, false, false, false, false, false, false, false, false, false, false, false, false] rfl rfl (by kernel_rfl) (fun _ _ _ h => h) (Or.inl ⟨by rfl, ?_⟩) ?_ ?_
        rotate_left
        · intro w'
          go_simp
          with_reducible rfl
        rotate_left
        · simp only [Act.put, List.setIfInBounds_toArray, List.set_cons_zero, List.set_cons_succ, i64_w, i32_w]
          rfl
        refine pure_ (i := 1) (N := some 51) (v := ?_) (a' := ?_) #[true, true, false, false, false, false, false, false, false, false, false, false, false] rfl rfl (by kernel_rfl) (fun _ _ _ h => h) (Or.inl ⟨by rfl, ?_⟩) ?_ ?_
        rotate_left
        · intro w'
          go_simp
          with_reducible rfl
        rotate_left
        · simp only [Act.put, List.setIfInBounds_toArray, List.set_cons_zero, List.set_cons_succ, i64_w, i32_w]
          rfl
        refine pure_ (i := 3) (N := some 53) (v := ?_) (a' := ?_) #[true, true, false, true, false, false, false, false, false, false, false, false, false] rfl rfl (by kernel_rfl) (fun _ _ _ h => h) (Or.inl ⟨by rfl, ?_⟩) ?_ ?_
        rotate_left
        · intro w'
          go_simp
          with_reducible rfl
        rotate_left
        · simp only [Act.put, List.setIfInBounds_toArray, List.set_cons_zero, List.set_cons_succ, i64_w, i32_w]
          rfl
        refine pure_ (i := 6) (N := some 56) (v := ?_) (a' := ?_) #[true, true, false, true, false, false, true, false, false, false, false, false, false] rfl rfl (by kernel_rfl) (fun _ _ _ h => h) (Or.inl ⟨by rfl, ?_⟩) ?_ ?_
        rotate_left
        · intro w'
          go_simp
          with_reducible rfl
        rotate_left
        · simp only [Act.put, List.setIfInBounds_toArray, List.set_cons_zero, List.set_cons_succ, i64_w, i32_w]
          rfl
        refine pure_ (i := 7) (N := some 57) (v := ?_) (a' := ?_) #[true, true, false, true, false, false, true, true, false, false, false, false, false] rfl rfl (by kernel_rfl) (fun _ _ _ h => h) (Or.inl ⟨by rfl, ?_⟩) ?_ ?_
        rotate_left
        · intro w'
          go_simp
          with_reducible rfl
        rotate_left
        · simp only [Act.put, List.setIfInBounds_toArray, List.set_cons_zero, List.set_cons_succ, i64_w, i32_w]
          rfl
        refine pure_ (i := 9) (N := some 59) (v := ?_) (a' := ?_) #[true, true, false, true, false, false, true, true, false, true, false, false, false] rfl rfl (by kernel_rfl) (fun _ _ _ h => h) (Or.inl ⟨by rfl, ?_⟩) ?_ ?_
        rotate_left
        · intro w'
          go_simp
          with_reducible rfl
        rotate_left
        · simp only [Act.put, List.setIfInBounds_toArray, List.set_cons_zero, List.set_cons_succ, i64_w, i32_w]
          rfl
        refine take_ (i := 2) (N := some 52) (v := ?_) (a' := ?_) #[true, true, true, true, false, false, true, true, false, true, false, false, false] rfl rfl (by kernel_rfl) (fun _ _ _ h => h) (Or.inl ⟨by rfl, ?_⟩) hHeld ?_ ?_
        rotate_left
        · rintro w' ⟨s0, s1⟩
          go_simp
          with_reducible rfl
        rotate_left
        · simp only [Act.put, List.setIfInBounds_toArray, List.set_cons_zero, List.set_cons_succ, i64_w, i32_w]
          rfl
        refine take_ (i := 4) (N := some 54) (v := ?_) (a' := ?_) #[true, true, true, true, true, false, true, true, false, true, false, false, false] rfl rfl (by kernel_rfl) (fun _ _ _ h => h) (Or.inl ⟨by rfl, ?_⟩) hHeld ?_ ?_
        rotate_left
        · rintro w' ⟨s0, s1⟩
          go_simp
          with_reducible rfl
        rotate_left
        · simp only [Act.put, List.setIfInBounds_toArray, List.set_cons_zero, List.set_cons_succ, i64_w, i32_w]
          rfl
        refine take_ (i := 8) (N := some 58) (v := ?_) (a' := ?_) #[true, true, true, true, true, false, true, true, true, true, false, false, false] rfl rfl (by kernel_rfl) (fun _ _ _ h => h) (Or.inl ⟨by rfl, ?_⟩) hHeld ?_ ?_
        rotate_left
        · rintro w' ⟨s0, s1⟩
          go_simp
          with_reducible rfl
        rotate_left
        · simp only [Act.put, List.setIfInBounds_toArray, List.set_cons_zero, List.set_cons_succ, i64_w, i32_w]
          rfl
        refine take_ (i := 10) (N := some 60) (v := ?_) (a' := ?_) #[true, true, true, true, true, false, true, true, true, true, true, false, false] rfl rfl (by kernel_rfl) (fun _ _ _ h => h) (Or.inl ⟨by rfl, ?_⟩) hHeld ?_ ?_
        rotate_left
        · rintro w' ⟨s0, s1⟩
          go_simp
          with_reducible rfl
        rotate_left
        · simp only [Act.put, List.setIfInBounds_toArray, List.set_cons_zero, List.set_cons_succ, i64_w, i32_w]
          rfl
        refine one_ (i := 5) (N := some 55) #[true, true, true, true, true, true, true, true, true, true, true, false, false] rfl rfl (by kernel_rfl) (by decide) (fun K hK => ?_)
        refine goes_ Try.func24 (by kernel_rfl) rfl #[.pointer (some ⟨g, 0, none⟩), .int .i64 x.f0, .int .i64 x.f1] (by rfl) rfl rfl (by simp only [List.map_toArray, List.map_cons, List.map_nil]; rfl) ?_
        with_reducible refine (HT.out.put x.f0 x.f1 (by omega)).mono ?_
        rintro e w3 ⟨rfl, hT3, hF3⟩
        refine ⟨_, rfl, ?_⟩
        have HT3 := Aside0.mk hT3
        have HZ3 := Aside0.mk ((hF3 b12 (.inr HB12.out)).trans HZ12.out)
        have t0 : w3.cell? ⟨b12, 0, none⟩ = some (.int .i64 x.f0) := (blk_cell HZ3.out 0).trans rfl
        have t1 : w3.cell? ⟨b12, 1, none⟩ = some (.int .i64 x.f1) := (blk_cell HZ3.out 1).trans rfl
        clear hT3 hF3 HT
        refine hK.out _ _ ⟨t0, t1⟩ (fun hHeld => ?_)
        clear hK K
        refine norm_ (a' := ?_) ?_ ?_
        rotate_left
        · show Act.put _ (some 55) _ = _
          simp only [Act.put, List.setIfInBounds_toArray, List.set_cons_zero, List.set_cons_succ, i64_w, i32_w]
          rfl
        refine one_ (i := 11) (N := some 61) #[true, true, true, true, true, true, true, true, true, true, true, true, false] rfl rfl (by kernel_rfl) (by decide) (fun K hK => ?_)
        refine goes_ Try.func25 (by kernel_rfl) rfl #[.pointer (some ⟨h, 0, none⟩), .int .i64 x.f0, .int .i64 x.f1] (by rfl) rfl rfl (by simp only [List.map_toArray, List.map_cons, List.map_nil]; rfl) ?_
        with_reducible refine (HT3.out.rput x.f0 x.f1 (by omega)).mono ?_
        rintro e w4 ⟨rfl, hT4, hF4⟩
        refine ⟨_, rfl, ?_⟩
        have HT := Aside0.mk (hT4.less (F' := fun _ => False) (fun _ hk => hk.elim))
        have HZ4 := Aside0.mk ((hF4 b12 (.inr HB12.out)).trans HZ3.out)
        have u0 : w4.cell? ⟨b12, 0, none⟩ = some (.int .i64 x.f0) := (blk_cell HZ4.out 0).trans rfl
        have u1 : w4.cell? ⟨b12, 1, none⟩ = some (.int .i64 x.f1) := (blk_cell HZ4.out 1).trans rfl
        clear hT4 hF4 HT3 HZ3
        refine hK.out _ _ ⟨u0, u1⟩ (fun hHeld => ?_)
        clear hK K
        refine norm_ (a' := ?_) ?_ ?_
        rotate_left
        · show Act.put _ (some 61) _ = _
          simp only [Act.put, List.setIfInBounds_toArray, List.set_cons_zero, List.set_cons_succ, i64_w, i32_w]
          rfl
        refine pure_ (i := 12) (N := some 62) (v := ?_) (a' := ?_) #[true, true, true, true, true, true, true, true, true, true, true, true, true] rfl rfl (by kernel_rfl) (fun _ _ _ h => h) (Or.inl ⟨by rfl, ?_⟩) ?_ ?_
        rotate_left
        · intro w'
          go_simp
          with_reducible rfl
        rotate_left
        · simp only [Act.put, List.setIfInBounds_toArray, List.set_cons_zero, List.set_cons_succ, i64_w, i32_w]
          rfl
        refine done_ (by kernel_rfl) ?_

        clear p0 p1 t0 t1 u0 u1 HZ12 HZ4 HB12 hsl HN
        obtain ⟨s, hs⟩ : ∃ t, s0.putI x.f0 x.f1 = t := ⟨_, rfl⟩
        rw [hs] at HT HN2 hsl2
        clear hs
        by_cases hask : (k : Int) = asked
        · subst hask
          go_wp2_with (fail)
          refine (HT.out.end_ (by omega)).mono ?_
          rintro e a1 ⟨Ap1, cp1, rfl, hR, hB⟩
          have HT := Aside0.mk (Two.below HT.out hB)
          clear hB
          have Ep1 := Aside0.mk (Kd.R_reads' hR).2.2
          have lEp1 := (Kd.R_reads' hR).2.1
          clear hR
          go_wp2_with (fail)
          refine (HT.out.rend (by omega)).mono ?_
          rintro e a2 ⟨Ap2, cp2, rfl, hR, hB⟩
          have HT := Aside0.mk (Two.below HT.out hB)
          have Ep1 := Aside0.mk (Kd.C_below Ep1.out hB)
          clear hB
          have Ep2 := Aside0.mk (Kd.R_reads' hR).2.2
          have lEp2 := (Kd.R_reads' hR).2.1
          clear hR
          go_wp2_with (fail)
          refine (bytes_true Ap1 cp1 Ap2 cp2 s.end_ _ _ _ (by first | rfl | (rw [ES.end_, List.length_append]) | exact (List.length_append).symm) (by first | rfl | (rw [ES.end_, List.length_append]) | exact (List.length_append).symm) Ep1.out lEp1 Ep2.out lEp2).mono ?_
          rintro e a3 ⟨rfl, hB⟩
          have hB := hB.below
          have HT := Aside0.mk (Two.below HT.out hB)
          have Ep1 := Aside0.mk (Kd.C_below Ep1.out hB)
          have Ep2 := Aside0.mk (Kd.C_below Ep2.out hB)
          clear hB
          go_wp2_with (fail)
          refine (HT.out.model).mono ?_
          rintro e a4 ⟨Ap3, cp3, rfl, hR, hB⟩
          have HT := Aside0.mk (Two.below HT.out hB)
          have Ep1 := Aside0.mk (Kd.C_below Ep1.out hB)
          have Ep2 := Aside0.mk (Kd.C_below Ep2.out hB)
          clear hB
          have Ep3 := Aside0.mk (Kd.R_reads' hR).2.2
          have lEp3 := (Kd.R_reads' hR).2.1
          clear hR
          go_wp2_with (fail)
          refine (HT.out.rmodel).mono ?_
          rintro e a5 ⟨Ap4, cp4, rfl, hR, hB⟩
          have HT := Aside0.mk (Two.below HT.out hB)
          have Ep1 := Aside0.mk (Kd.C_below Ep1.out hB)
          have Ep2 := Aside0.mk (Kd.C_below Ep2.out hB)
          have Ep3 := Aside0.mk (Kd.C_below Ep3.out hB)
          clear hB
          have Ep4 := Aside0.mk (Kd.R_reads' hR).2.2
          have lEp4 := (Kd.R_reads' hR).2.1
          clear hR
          go_wp2_with (fail)
          refine (same_true Ap3 cp3 Ap4 cp4 s.kind s.st _ _ _ rfl rfl Ep3.out lEp3 Ep4.out lEp4).mono ?_
          rintro e a6 ⟨rfl, hB⟩
          have HT := Aside0.mk (Two.below HT.out hB)
          have Ep1 := Aside0.mk (Kd.C_below Ep1.out hB)
          have Ep2 := Aside0.mk (Kd.C_below Ep2.out hB)
          have Ep3 := Aside0.mk (Kd.C_below Ep3.out hB)
          have Ep4 := Aside0.mk (Kd.C_below Ep4.out hB)
          clear hB
          go_wp2
          go_roundw
          case rel => exact ⟨k + 1, s, by omega, by go_num, HT, HN2⟩
          case measure => simp [intOf]; omega
        · have e1 : ((k : Int) == asked) = false := by simpa using hask
          clear hask
          go_wp2
          go_roundw
          case rel => exact ⟨k + 1, s, by omega, by go_num, HT, HN2⟩
          case measure => simp [intOf]; omega
      · clear hk
        obtain ⟨s, hs⟩ : ∃ s, s = s0 := ⟨_, rfl⟩
        subst hs
        go_wp2_with (fail)
        refine (HT.out.end_ (by omega)).mono ?_
        rintro e e1 ⟨Aq1, cq1, rfl, hR, hB⟩
        have HT := Aside0.mk (Two.below HT.out hB)
        clear hB
        have Eq1 := Aside0.mk (Kd.R_reads' hR).2.2
        have lEq1 := (Kd.R_reads' hR).2.1
        clear hR
        go_wp2_with (fail)
        refine (HT.out.rend (by omega)).mono ?_
        rintro e e2 ⟨Aq2, cq2, rfl, hR, hB⟩
        have HT := Aside0.mk (Two.below HT.out hB)
        have Eq1 := Aside0.mk (Kd.C_below Eq1.out hB)
        clear hB
        have Eq2 := Aside0.mk (Kd.R_reads' hR).2.2
        have lEq2 := (Kd.R_reads' hR).2.1
        clear hR
        go_wp2_with (fail)
        refine (bytes_true Aq1 cq1 Aq2 cq2 s.end_ _ _ _ (by first | rfl | (rw [ES.end_, List.length_append]) | exact (List.length_append).symm) (by first | rfl | (rw [ES.end_, List.length_append]) | exact (List.length_append).symm) Eq1.out lEq1 Eq2.out lEq2).mono ?_
        rintro e e3 ⟨rfl, hB⟩
        have hB := hB.below
        have HT := Aside0.mk (Two.below HT.out hB)
        have Eq1 := Aside0.mk (Kd.C_below Eq1.out hB)
        have Eq2 := Aside0.mk (Kd.C_below Eq2.out hB)
        clear hB
        go_wp2_with (fail)
        refine (HT.out.end_ (by omega)).mono ?_
        rintro e e4 ⟨Aq5, cq5, rfl, hR, hB⟩
        have HT := Aside0.mk (Two.below HT.out hB)
        have Eq1 := Aside0.mk (Kd.C_below Eq1.out hB)
        have Eq2 := Aside0.mk (Kd.C_below Eq2.out hB)
        clear hB
        have Eq5 := Aside0.mk (Kd.R_reads' hR).2.2
        have lEq5 := (Kd.R_reads' hR).2.1
        clear hR
        go_wp2_with (fail)
        refine (HT.out.end_ (by omega)).mono ?_
        rintro e e5 ⟨Aq6, cq6, rfl, hR, hB⟩
        have HT := Aside0.mk (Two.below HT.out hB)
        have Eq1 := Aside0.mk (Kd.C_below Eq1.out hB)
        have Eq2 := Aside0.mk (Kd.C_below Eq2.out hB)
        have Eq5 := Aside0.mk (Kd.C_below Eq5.out hB)
        clear hB
        have Eq6 := Aside0.mk (Kd.R_reads' hR).2.2
        have lEq6 := (Kd.R_reads' hR).2.1
        clear hR
        go_wp2_with (fail)
        refine (bytes_true Aq5 cq5 Aq6 cq6 s.end_ _ _ _ (by first | rfl | (rw [ES.end_, List.length_append]) | exact (List.length_append).symm) (by first | rfl | (rw [ES.end_, List.length_append]) | exact (List.length_append).symm) Eq5.out lEq5 Eq6.out lEq6).mono ?_
        rintro e e6 ⟨rfl, hB⟩
        have hB := hB.below
        have HT := Aside0.mk (Two.below HT.out hB)
        have Eq1 := Aside0.mk (Kd.C_below Eq1.out hB)
        have Eq2 := Aside0.mk (Kd.C_below Eq2.out hB)
        have Eq5 := Aside0.mk (Kd.C_below Eq5.out hB)
        have Eq6 := Aside0.mk (Kd.C_below Eq6.out hB)
        clear hB
        go_wp2_with (fail)
        refine (HT.out.model).mono ?_
        rintro e e7 ⟨Aq3, cq3, rfl, hR, hB⟩
        have HT := Aside0.mk (Two.below HT.out hB)
        have Eq1 := Aside0.mk (Kd.C_below Eq1.out hB)
        have Eq2 := Aside0.mk (Kd.C_below Eq2.out hB)
        have Eq5 := Aside0.mk (Kd.C_below Eq5.out hB)
        have Eq6 := Aside0.mk (Kd.C_below Eq6.out hB)
        clear hB
        have Eq3 := Aside0.mk (Kd.R_reads' hR).2.2
        have lEq3 := (Kd.R_reads' hR).2.1
        clear hR
        go_wp2_with (fail)
        refine (HT.out.rmodel).mono ?_
        rintro e e8 ⟨Aq4, cq4, rfl, hR, hB⟩
        have HT := Aside0.mk (Two.below HT.out hB)
        have Eq1 := Aside0.mk (Kd.C_below Eq1.out hB)
        have Eq2 := Aside0.mk (Kd.C_below Eq2.out hB)
        have Eq5 := Aside0.mk (Kd.C_below Eq5.out hB)
        have Eq6 := Aside0.mk (Kd.C_below Eq6.out hB)
        have Eq3 := Aside0.mk (Kd.C_below Eq3.out hB)
        clear hB
        have Eq4 := Aside0.mk (Kd.R_reads' hR).2.2
        have lEq4 := (Kd.R_reads' hR).2.1
        clear hR
        go_wp2_with (fail)
        refine (same_true Aq3 cq3 Aq4 cq4 s.kind s.st _ _ _ rfl rfl Eq3.out lEq3 Eq4.out lEq4).mono ?_
        rintro e e9 ⟨rfl, hB⟩
        have HT := Aside0.mk (Two.below HT.out hB)
        have Eq1 := Aside0.mk (Kd.C_below Eq1.out hB)
        have Eq2 := Aside0.mk (Kd.C_below Eq2.out hB)
        have Eq5 := Aside0.mk (Kd.C_below Eq5.out hB)
        have Eq6 := Aside0.mk (Kd.C_below Eq6.out hB)
        have Eq3 := Aside0.mk (Kd.C_below Eq3.out hB)
        have Eq4 := Aside0.mk (Kd.C_below Eq4.out hB)
        clear hB
        go_wp2_with (fail)
        refine (awake_calls _).mono ?_
        rintro e e10 ⟨rfl, hB⟩
        have HT := Aside0.mk (Two.below HT.out hB)
        have Eq1 := Aside0.mk (Kd.C_below Eq1.out hB)
        have Eq2 := Aside0.mk (Kd.C_below Eq2.out hB)
        have Eq5 := Aside0.mk (Kd.C_below Eq5.out hB)
        have Eq6 := Aside0.mk (Kd.C_below Eq6.out hB)
        have Eq3 := Aside0.mk (Kd.C_below Eq3.out hB)
        have Eq4 := Aside0.mk (Kd.C_below Eq4.out hB)
        clear hB
        go_wp2
        go_ret
        exact ⟨rfl, HT.out.b⟩
  · have HM := Aside0.mk hm
    clear hm
    go_enter Try.func5, Try.ntmps5
    go_wp2_with (fail)
    refine (newenc_bad A c mk st _ HC.out hl HM.out).mono ?_
    rintro e w1 ⟨rfl, hB1⟩
    have HZ2 := Aside0.mk (blk_below HZ2.out hB1)
    clear k0 k1
    have k0 : w1.cell? ⟨b2, 0, none⟩ = some (.int .i64 mk) := (blk_cell HZ2.out 0).trans rfl
    have k1 : w1.cell? ⟨b2, 1, none⟩ = some (.slice A st.length c) := (blk_cell HZ2.out 1).trans rfl
    have HC := Aside0.mk (Kd.C_below HC.out hB1)
    have HB := Aside0.mk (below_then HB.out HB.out.size hB1)
    clear hB1 hsW0 hsb2
    go_wp2_with (fail)
    refine (ref_new_bad A c mk st _ HC.out hl HM.out).mono ?_
    rintro e w2 ⟨rfl, hB2⟩
    have HB := Aside0.mk (below_then HB.out HB.out.size hB2)
    clear hB2 k0 k1
    go_wp2_with (go_at_call 17; refine (awake_calls _).mono ?_; rintro e w3 ⟨rfl, hB⟩; have HB2 := Aside0.mk (below_then HB.out HB.out.size hB); clear hB)
    go_ret
    exact ⟨rfl, HB2.out⟩
open Go.ChangeShapes Go.WideShapes Go.ChangeAt
open Go.ChangeMaps (open_string shut_string)
theorem own : ownKnob Try.prog.godebug = none := by kernel_rfl
theorem laidOut : laidOutB Try.prog = true := by kernel_rfl
def IsRow (k : IntKind) (w : World) (a : Option Addr) (len cap : Nat) (zs : List Int) : Prop :=
  (a = none ∧ len = 0 ∧ cap = 0 ∧ zs = []) ∨
  ∃ x, a = some x ∧ len ≤ cap ∧ cap ≤ maxLen ∧ zs.length = cap ∧ (∀ i, i < zs.length → w.cell? (x.add i) = some (.int k (zs.getD i 0))) ∧ ∀ n ∈ zs, (Lit.int k n).wf = true
set_option maxRecDepth 100000 in
theorem lifted (os : Os) (started : os.Started) (H : Type) (enc : TypeId × Value → H) :
    ReturnsInHanded {} Try.checked os 5 .any (Rows.coderPutsSpec.pre6 enc Try.prog Try.f5 Rows.coderPutsRow.domain false) (Rows.coderPutsSpec.post enc Try.prog Try.f5 false true false false) := by
  refine returnsInHanded_of_change_sized (C := Try.checked) own started (by kernel_rfl) Try.func5
    (ChangeSpec.witness6 (enc := enc) (C := Try.checked) false ⟨#[], #[.agg #[.int .i64 0, .slice none 0 0], .slice none 0 0, .int .u16 0], []⟩ 8 (by kernel_rfl) (by kernel_rfl) (by kernel_rfl) (by kernel_rfl)) ?_
  intro W base args ds gs before hval0 hW hcnd hsz0 _
  have hsz : (DataW.weightsEach Try.prog (Try.f5.params.toList ++ Rows.coderPutsSpec.plain.varTypes Try.prog) (ds ++ gs)).all (· ≤ reachBytes) = true := hsz0
  have hval : ∀ (j : Nat) t v, Try.f5.params[j]? = some t → args[j]? = some v → Value.okWide Try.prog W .any base t v := hval0
  have hW' := hW
  obtain ⟨p, q, hA0, hV, rfl, hfz, hnd⟩ := hW
  have hA : DataW.TrodAll enc Try.prog W 0 (fun _ => true) true Try.f5.params.toList args.toList ds p := hA0
  rw [Try.params5] at hA hval hsz
  obtain ⟨v0, vs0, d0, ds0, p0, q0, hargs, rfl, rfl, h0, r0⟩ := trodAll_cons hA
  obtain ⟨v1, vs1, d1, ds1, p1, q1, rfl, rfl, rfl, h1, r1⟩ := trodAll_cons r0
  obtain ⟨v2, vs2, d2, ds2, p2, q2, rfl, rfl, rfl, h2, r2⟩ := trodAll_cons r1
  obtain ⟨rfl, rfl, rfl⟩ := trodAll_nil r2
  obtain rfl : args = #[v0, v1, v2] := by cases args; simp_all
  obtain ⟨rfl, rfl⟩ := trodVars_none hV
  have k0 := h0
  have lt0 : ∀ x ∈ p0, x.block < W.heap.size := by obtain ⟨m, hm⟩ := k0; exact DataW.trod_lt m _ _ _ hm
  obtain ⟨cs0, rfl, csz0⟩ := okWide_struct Try.underlying24 (hval 0 24 v0 rfl rfl)
  obtain ⟨⟨x0_0, x0_1⟩, ⟨_, _, hcs0, rfl, ⟨A0_1, c0_1, rfl, l0_1, g0_1⟩⟩, ⟨w0_0, w0_1⟩⟩ := Opn.open_arg (N := 8) (fun n => ((o_struct (d := (Kd.pair (Kd.int .i64) (Kd.slice 3 (Kd.int .i64)))) Try.underlying24 (by kernel_rfl) (f_cons rfl (o_int Try.underlying3 (by kernel_rfl)) (f_one rfl (o_slice (B := 8) Try.underlying22 (by kernel_rfl) (o_int Try.underlying3 (by kernel_rfl)) (by kernel_rfl))))) : Opn.OpensTo Try.prog (n + 8) 24 _ _)) h0 hsz (j := 0) (t := 24) rfl rfl
  obtain rfl : cs0 = #[.int .i64 x0_0, .slice A0_1 x0_1.length c0_1] := by rw [← Array.toList_inj]; exact hcs0
  have k1 := h1
  have lt1 : ∀ x ∈ p1, x.block < W.heap.size := by obtain ⟨m, hm⟩ := k1; exact DataW.trod_lt m _ _ _ hm
  obtain ⟨a1, len1, cap1, rfl⟩ := okWide_slice Try.underlying32 (hval 1 32 v1 rfl rfl)
  obtain ⟨x1, ⟨A1, c1, hcs1, l1, g1⟩, w1⟩ := Opn.open_arg (N := 8) (fun n => ((o_slice (B := 16) Try.underlying32 (by kernel_rfl) (show OpensTo _ _ _ k47 _ from o_iso (f := (fun x : S47 => (x.f0, x.f1))) (fun a => ⟨a.1, a.2⟩) (fun _ => rfl) (o_struct (d := (Kd.pair (Kd.int .i64) (Kd.int .i64))) Try.underlying47 (by kernel_rfl) (f_cons rfl (o_int Try.underlying3 (by kernel_rfl)) (f_one rfl (o_int Try.underlying3 (by kernel_rfl)))))) (by kernel_rfl)) : Opn.OpensTo Try.prog (n + 8) 32 _ _)) h1 hsz (j := 1) (t := 32) rfl rfl
  simp only [Value.cells, List.cons.injEq, Value.slice.injEq, and_true] at hcs1
  obtain ⟨rfl, rfl, rfl⟩ := hcs1
  obtain ⟨a2, rfl, rfl, rfl, w2⟩ := open_int Try.underlying39 (hval 2 39 v2 rfl rfl) h2
  clear hA0 hval0 hsz0 hsz
  refine (walk W x0_0 w0_0 A0_1 c0_1 x0_1 l0_1 g0_1 w0_1 _ _ x1 l1 g1 w1 a2 w2).mono fun e W' ⟨he, bel⟩ => ?_
  subst he
  exact ⟨_, rfl, _, _, _, [], _, [], hW', trodAll_mk1 (shut_bool Try.underlying4 _), (trodAll_cons_mk (Below.trod laidOut (by kernel_rfl) (of_decide_eq_true (by kernel_rfl)) k0 bel lt0) (trodAll_cons_mk (Below.trod laidOut (by kernel_rfl) (of_decide_eq_true (by kernel_rfl)) k1 bel lt1) (trodAll_cons_mk (shut_int Try.underlying39 w2) trodAll_mk0))), rfl, bel.frame _, fun h => by cases h⟩
theorem over : Rows.coderPutsRow.holds Try.pinned (OpenSpec.ofChange Rows.coderPutsSpec) :=
  OpenClaim.holds_of_wide 5 Try.f5 rfl rfl rfl rfl rfl rfl rfl ⟨rfl, rfl, rfl, rfl, rfl⟩ rfl rfl rfl rfl rfl (by kernel_rfl) Try.func5 (by kernel_rfl)
    (of_decide_eq_true (by kernel_rfl)) (by unfold Func.isWrapper; first | (rw [if_pos (by decide +kernel)]; kernel_rfl) | (rw [if_neg (by decide +kernel)]; exact ⟨rfl, rfl⟩))
    (fun os started H enc _ => lifted os started H enc)
theorem proved : Rows.CoderPutsSaid := over
#print axioms proved
end Go.Proofs.Ytpnmedmghncpiaa.HandCoderPuts
namespace Go.Proofs.Ytpnmedmghncpiaa
/-- The row, under a short name, for the claim. -/
theorem coderPuts_holds : Rows.CoderPutsSaid := HandCoderPuts.proved
end Go.Proofs.Ytpnmedmghncpiaa
