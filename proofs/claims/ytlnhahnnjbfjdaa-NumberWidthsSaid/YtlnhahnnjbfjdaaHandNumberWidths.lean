/- Width returns the reference's width: for every number. -/
import Derived.Test.YtlnhahnnjbfjdaaAid
import Derived.Test.YtlnhahnnjbfjdaaHandAid
import Derived.Test.YtlnhahnnjbfjdaaNum
import Derived.Test.YtlnhahnnjbfjdaaEvs
import Derived.Test.YtlnhahnnjbfjdaaRefEvs
import Derived.Test.YtlnhahnnjbfjdaaSane
import Derived.Test.YtlnhahnnjbfjdaaRows
import Derived.WalkKit
import Derived.ProofKit
import Derived.OpenShut
import Derived.ShutString
import Derived.ChangeOld
import Derived.Lib.SmallJoins
import Derived.Below
import Derived.SizedLaws
import Derived.Test.YtlnhahnnjbfjdaaWSized
namespace Go.Proofs.Ytlnhahnnjbfjdaa.HandNumberWidths
open Go Go.RowKit Go.Proofs.YtlnhahnnjbfjdaaW.PrintWords Go.Proofs.YtlnhahnnjbfjdaaW.PrintLast Go.Proofs.YtlnhahnnjbfjdaaW.PrintMore Go.Proofs.Ytlnhahnnjbfjdaa.Aid Go.Proofs.Ytlnhahnnjbfjdaa.HandAid Go.Proofs.Ytlnhahnnjbfjdaa.Num Go.Proofs.Ytlnhahnnjbfjdaa.Evs Go.Proofs.Ytlnhahnnjbfjdaa.RefEvs Go.Proofs.Ytlnhahnnjbfjdaa.Sane
set_option linter.unusedVariables false
set_option linter.unusedSimpArgs false
open Go.Proofs.Ytlnhahnnjbfjdaa.PNumberEvents
/-- The least k with 2^k at least n. -/
def widthOf (n : Int) : Int := if n < 1 then 0 else (Lib.bitLen (n - 1).toNat : Int)
theorem len2 (n : Int) (w : World) (h : ¬ n < 1) (h0 : -9223372036854775808 ≤ n) (h1 : n ≤ 9223372036854775807) : Calls Try.prog 47 #[.int .u64 (n - 1)] w fun e w' => e = .returned (.int .i64 (widthOf n)) ∧ w' = w := by
  unfold widthOf
  rw [if_neg h]
  exact Try.bits_Len (n - 1) w (by omega) (by omega)
theorem width_calls (n : Int) (w : World) (h0 : -9223372036854775808 ≤ n) (h1 : n ≤ 9223372036854775807) : Calls Try.prog 16 #[.int .i64 n] w fun e w' => e = .returned (.int .i64 (widthOf n)) ∧ ∃ m, w' = w.drewN m := by
  by_cases h : n < 1
  · have he : widthOf n = 0 := if_pos h
    rw [he]
    go_enter Try.func16, Try.ntmps16
    go_wp2
    go_ret
    exact ⟨rfl, 0, rfl⟩
  · go_enter Try.func16, Try.ntmps16
    go_wp2_with (go_at_call 47; refine (len2 n _ h h0 h1).mono ?_; rintro e wv ⟨rfl, rfl⟩)
    go_ret
    exact ⟨rfl, 0, rfl⟩
theorem width_at (n : Int) (j : Nat) (hj : j ≤ 62) (h : ∀ i : Nat, i < j → (2 : Int) ^ i < n) (h' : ¬ (2 : Int) ^ j < n) : widthOf n = j := by
  unfold widthOf
  have hp := pow_le' hj
  have h62 : (2 : Int) ^ 62 = 4611686018427387904 := by decide
  rcases Nat.eq_zero_or_pos j with c | c
  · subst c
    have h0 : (2 : Int) ^ 0 = 1 := by decide
    by_cases h1 : n < 1
    · rw [if_pos h1]; rfl
    · rw [if_neg h1, show n = 1 by omega]; decide
  · have h1 := h (j - 1) (by omega)
    have h2 := pow_pos' (j - 1)
    rw [if_neg (by omega)]
    obtain ⟨b1, b2, b3⟩ := Num.bitLen_spec (n - 1).toNat (by omega) (by omega)
    have e : ((n - 1).toNat : Int) = n - 1 := Int.toNat_of_nonneg (by omega)
    have c2 := pow_cast b2
    have c3 := cast_pow b3
    rw [e] at c2 c3
    have u1 : Lib.bitLen (n - 1).toNat ≤ j := by
      rcases Nat.lt_or_ge j (Lib.bitLen (n - 1).toNat) with d | d
      · have := pow_le' (show j ≤ Lib.bitLen (n - 1).toNat - 1 by omega); omega
      · exact d
    have u2 : j ≤ Lib.bitLen (n - 1).toNat := by
      rcases Nat.lt_or_ge (Lib.bitLen (n - 1).toNat) j with d | d
      · have := pow_le' (show Lib.bitLen (n - 1).toNat ≤ j - 1 by omega); omega
      · exact d
    omega
theorem width_big (n : Int) (h : 4611686018427387904 < n) (h' : n ≤ 9223372036854775807) : widthOf n = 63 := by
  unfold widthOf
  rw [if_neg (by omega)]
  obtain ⟨b1, b2, b3⟩ := Num.bitLen_spec (n - 1).toNat (by omega) (by omega)
  have e : ((n - 1).toNat : Int) = n - 1 := Int.toNat_of_nonneg (by omega)
  have c2 := pow_cast b2
  have c3 := cast_pow b3
  rw [e] at c2 c3
  have h62 : (2 : Int) ^ 62 = 4611686018427387904 := by decide
  have h63 : (2 : Int) ^ 63 = 9223372036854775808 := by decide
  have u1 : Lib.bitLen (n - 1).toNat ≤ 63 := by
    rcases Nat.lt_or_ge 63 (Lib.bitLen (n - 1).toNat) with d | d
    · have := pow_le' (show 63 ≤ Lib.bitLen (n - 1).toNat - 1 by omega); omega
    · exact d
  have u2 : 63 ≤ Lib.bitLen (n - 1).toNat := by
    rcases Nat.lt_or_ge (Lib.bitLen (n - 1).toNat) 63 with d | d
    · have := pow_le' (show Lib.bitLen (n - 1).toNat ≤ 62 by omega); omega
    · exact d
  omega
set_option maxHeartbeats 1000000 in
theorem ref_width_calls (n : Int) (w : World) (h0 : -9223372036854775808 ≤ n) (h1 : n ≤ 9223372036854775807) : Calls Try.prog 17 #[.int .i64 n] w fun e w' => e = .returned (.int .i64 (widthOf n)) ∧ ∃ m, w' = w.drewN m := by
  go_enter Try.func17, Try.ntmps17
  go_wp2
  go_loopw [3] (fun k wr => ∃ j : Nat, j ≤ 62 ∧ k = .int .i64 j ∧ Aside0 (∀ i : Nat, i < j → (2 : Int) ^ i < n) ∧ Aside0 (∃ m, wr = w.drewN m)) (fun k _ => 62 - (intOf k).toNat)
  case atStart => exact ⟨0, by omega, rfl, ⟨fun i hi => absurd hi (by omega)⟩, ⟨0, rfl⟩⟩
  case round =>
    obtain ⟨j, hj, rfl, hA, hW⟩ := hrel
    have hw : wrap64 ((2 : Int) ^ j) = 2 ^ j := wrap_id (Int.le_trans (by decide) (Int.le_of_lt (pow_pos' j))) (Int.le_trans (pow_le' hj) (by decide))
    by_cases hp : wrap64 ((2 : Int) ^ j) < n
    · by_cases h62 : j < 62
      · go_wp2
        go_roundw
        case rel => exact ⟨j + 1, by omega, by go_num, ⟨fun i hi => by
          rcases Nat.lt_or_ge i j with c | c
          · exact hA.out i c
          · rw [show i = j by omega, ← hw]; exact hp⟩, hW⟩
        case measure => simp [intOf]; omega
      · obtain rfl : j = 62 := by omega
        rw [hw] at hp
        have hp' : (4611686018427387904 : Int) < n := hp
        go_wp2
        go_ret
        refine ⟨?_, hW.out⟩
        rw [width_big n hp' h1]
        rfl
    · have hres : widthOf n = j := width_at n j hj hA.out (by rw [← hw]; exact hp)
      by_cases h62 : j < 62
      · go_wp2
        go_ret
        exact ⟨rfl, hW.out⟩
      · obtain rfl : j = 62 := by omega
        rw [hw] at hp
        have hp' : ¬ (4611686018427387904 : Int) < n := hp
        go_wp2
        go_ret
        exact ⟨rfl, hW.out⟩
theorem walk (w : World) (a0 : Int) (w0 : (Lit.int .i64 a0).wf = true) : Calls Try.prog 4 #[.int .i64 a0] w fun e w' => e = .returned (.bool true) ∧ Below w.heap.size w w' := by
  have hn := wf_i64 w0
  go_enter Try.func4, Try.ntmps4
  have HB := Aside0.mk (Below.refl w.heap.size w)
  go_wp2_with (first | (go_at_call 16; refine (width_calls a0 _ hn.1 hn.2).mono ?_; rintro e w1 ⟨rfl, m1, rfl⟩) | (go_at_call 17; refine (ref_width_calls a0 _ hn.1 hn.2).mono ?_; rintro e w2 ⟨rfl, m2, rfl⟩) | (go_at_call 15; refine (sane_calls _).mono ?_; rintro e w3 ⟨rfl, h3⟩; have n1_ := Aside0.mk h3; clear h3; have h3 := n1_; clear n1_))
  go_ret
  exact ⟨rfl, below_undrew h3.out⟩
open Go.ChangeShapes Go.WideShapes Go.ChangeAt
open Go.ChangeMaps (open_string shut_string)
theorem own : ownKnob Try.prog.godebug = none := by kernel_rfl
set_option maxRecDepth 100000 in
theorem lifted (os : Os) (started : os.Started) (H : Type) (enc : TypeId × Value → H) :
    ReturnsInHanded {} Try.checked os 4 .any (Rows.numberWidthsSpec.pre6 enc Try.prog Try.f4 Rows.numberWidthsRow.domain false) (Rows.numberWidthsSpec.post enc Try.prog Try.f4 false true false false) := by
  refine returnsInHanded_of_change_sized (C := Try.checked) own started (by kernel_rfl) Try.func4
    (ChangeSpec.witness6 (enc := enc) (C := Try.checked) false ⟨#[], #[.int .i64 0], []⟩ 8 (by kernel_rfl) (by kernel_rfl) (by kernel_rfl) (by kernel_rfl)) ?_
  intro W base args ds gs before hval0 hW hcnd hsz0 _
  have hsz : (DataW.weightsEach Try.prog (Try.f4.params.toList ++ Rows.numberWidthsSpec.plain.varTypes Try.prog) (ds ++ gs)).all (· ≤ reachBytes) = true := hsz0
  have hval : ∀ (j : Nat) t v, Try.f4.params[j]? = some t → args[j]? = some v → Value.okWide Try.prog W .any base t v := hval0
  have hW' := hW
  obtain ⟨p, q, hA0, hV, rfl, hfz, hnd⟩ := hW
  have hA : DataW.TrodAll enc Try.prog W 0 (fun _ => true) true Try.f4.params.toList args.toList ds p := hA0
  rw [Try.params4] at hA hval hsz
  obtain ⟨v0, vs0, d0, ds0, p0, q0, hargs, rfl, rfl, h0, r0⟩ := trodAll_cons hA
  obtain ⟨rfl, rfl, rfl⟩ := trodAll_nil r0
  obtain rfl : args = #[v0] := by cases args; simp_all
  obtain ⟨rfl, rfl⟩ := trodVars_none hV
  obtain ⟨a0, rfl, rfl, rfl, w0⟩ := open_int Try.underlying3 (hval 0 3 v0 rfl rfl) h0
  clear hA0 hval0 hsz0 hsz
  refine (walk W a0 w0).mono fun e W' ⟨he, bel⟩ => ?_
  subst he
  exact ⟨_, rfl, _, _, _, [], _, [], hW', trodAll_mk1 (shut_bool Try.underlying4 _), (trodAll_cons_mk (shut_int Try.underlying3 w0) trodAll_mk0), rfl, bel.frame _, fun h => by cases h⟩
theorem over : Rows.numberWidthsRow.holds Try.pinned (OpenSpec.ofChange Rows.numberWidthsSpec) :=
  OpenClaim.holds_of_wide 4 Try.f4 rfl rfl rfl rfl rfl rfl rfl ⟨rfl, rfl, rfl, rfl, rfl⟩ rfl rfl rfl rfl rfl (by kernel_rfl) Try.func4 (by kernel_rfl)
    (of_decide_eq_true (by kernel_rfl)) (by unfold Func.isWrapper; first | (rw [if_pos (by decide +kernel)]; kernel_rfl) | (rw [if_neg (by decide +kernel)]; exact ⟨rfl, rfl⟩))
    (fun os started H enc _ => lifted os started H enc)
theorem proved : Rows.NumberWidthsSaid := over
#print axioms proved
end Go.Proofs.Ytlnhahnnjbfjdaa.HandNumberWidths
namespace Go.Proofs.Ytlnhahnnjbfjdaa
/-- The row, under a short name, for the claim. -/
theorem numberWidths_holds : Rows.NumberWidthsSaid := HandNumberWidths.proved
end Go.Proofs.Ytlnhahnnjbfjdaa
