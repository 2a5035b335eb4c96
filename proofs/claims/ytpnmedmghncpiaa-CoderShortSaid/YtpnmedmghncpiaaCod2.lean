import Derived.Test.YtpnmedmghncpiaaAid
import Derived.Test.YtpnmedmghncpiaaHandAid
import Derived.Test.YtpnmedmghncpiaaCod1
-- needs: Aid HandAid Cod1
import Derived.Laws.CopyOwn
import Derived.Deep.MidRow
namespace Go.Proofs.Ytpnmedmghncpiaa.Cod2
open Go Go.RowKit Go.Proofs.YtpnmedmghncpiaaW.PrintWords Go.Proofs.YtpnmedmghncpiaaW.PrintLast Go.Proofs.YtpnmedmghncpiaaW.PrintMore Go.Proofs.Ytpnmedmghncpiaa.Aid Go.Proofs.Ytpnmedmghncpiaa.HandAid Go.Proofs.Ytpnmedmghncpiaa.Cod1
set_option linter.unusedVariables false
set_option linter.unusedSimpArgs false
attribute [local go_sem] max2_int min2_int max_two min_two
theorem unlikely_calls (k : Nat) (w : World) (hk : k < 32) : Calls Try.prog 61 #[.int .i64 k] w fun e w' => e = .returned (.int .i64 (qv k)) ∧ w = w' := by
  go_enter Try.func61, Try.ntmps61
  go_wp2
  go_loop [3, 4] (fun q i => ∃ j : Nat, j ≤ k ∧ q = .int .i64 (qv j) ∧ i = .int .i64 j) (fun _ i => k - (intOf i).toNat)
  case atStart => exact ⟨0, by omega, rfl, rfl⟩
  case round =>
    obtain ⟨j, hj, rfl, rfl⟩ := hrel
    have hq := qv_range j
    by_cases hlt : j < k
    · go_wp2
      go_round
      case rel => exact ⟨j + 1, by omega, rfl, by go_num⟩
      case measure => simp [intOf]; omega
    · obtain rfl : k = j := by omega
      go_wp2
      go_ret
      exact ⟨rfl, rfl⟩
theorem unlikelyI (i : Int) (w : World) (h0 : 0 ≤ i) (h1 : i < 32) : Calls Try.prog 61 #[.int .i64 i] w fun e w' => e = .returned (.int .i64 (qv i.toNat)) ∧ w = w' := by
  obtain ⟨k, rfl⟩ : ∃ k : Nat, i = (k : Int) := ⟨i.toNat, by omega⟩
  exact unlikely_calls k w (by omega)
set_option maxHeartbeats 1000000 in
theorem ref_likely (kind s : Int) (w : World) (hs : okState kind s) : Calls Try.prog 32 #[.int .i64 kind, .int .i64 s] w fun e w' => e = .returned (.int .i64 (likely kind s)) ∧ w = w' := by
  rcases hs with ⟨rfl, h0, h1⟩ | ⟨rfl, h0, h1⟩
  · unfold likely
    rw [if_neg (by omega)]
    have hq := qv_range (s % 32).toNat
    by_cases c : s ≥ 32
    · rw [if_pos c, show s - 32 = s % 32 by omega]
      go_enter Try.func32, Try.ntmps32
      go_wp2_with (go_at_call 61; with_reducible refine (unlikelyI (s % 32) _ (by omega) (by omega)).mono ?_; rintro e w' ⟨rfl, rfl⟩)
      go_ret
      exact ⟨rfl, rfl⟩
    · rw [if_neg c, show s.toNat = (s % 32).toNat by omega]
      go_enter Try.func32, Try.ntmps32
      go_wp2_with (go_at_call 61; with_reducible refine (unlikelyI (s % 32) _ (by omega) (by omega)).mono ?_; rintro e w' ⟨rfl, rfl⟩)
      go_ret
      exact ⟨rfl, rfl⟩
  · have hd : 0 ≤ s / 256 ∧ s / 256 ≤ 255 := by omega
    have hm : 0 ≤ s % 256 ∧ s % 256 ≤ 255 := by omega
    have hw1 : 0 ≤ (2 * (s % 256) + 1) * 4096 / (2 * (s / 256) + 2 * (s % 256) + 2) := Int.ediv_nonneg (by omega) (by omega)
    go_enter Try.func32, Try.ntmps32
    go_wp2
    all_goals
      go_ret
      refine ⟨ret_int ?_, rfl⟩
      unfold likely
      rw [if_pos rfl]
      repeat' split
      all_goals omega
set_option maxHeartbeats 1000000 in
theorem ref_after (kind s bit : Int) (w : World) (hs : okState kind s) (hb : bit = 0 ∨ bit = 1) : Calls Try.prog 33 #[.int .i64 kind, .int .i64 s, .int .i64 bit] w fun e w' => e = .returned (.int .i64 (after kind s bit)) ∧ Below w.heap.size w w' := by
  rcases hs with ⟨rfl, h0, h1⟩ | ⟨rfl, h0, h1⟩
  · have hd : 0 ≤ s / 32 ∧ s / 32 ≤ 1 := by omega
    have hm : 0 ≤ s % 32 ∧ s % 32 ≤ 31 := by omega
    rcases hb with rfl | rfl
    all_goals
      go_enter Try.func33, Try.ntmps33
      go_wp2
      all_goals
        go_ret
        refine ⟨ret_int ?_, Below.refl _ _⟩
        simp only [beq_iff_eq, beq_eq_false_iff_ne, ne_eq] at *
        unfold after
        rw [if_neg (by omega)]
        repeat' split
        all_goals omega
  · have hd : 0 ≤ s / 256 ∧ s / 256 ≤ 255 := by omega
    have hm : 0 ≤ s % 256 ∧ s % 256 ≤ 255 := by omega
    rcases hb with rfl | rfl
    all_goals
      go_enter Try.func33, Try.ntmps33
      go_wp2
      all_goals
        go_ret
        refine ⟨ret_int ?_, ?_⟩
        · simp only [beq_iff_eq, beq_eq_false_iff_ne, ne_eq] at *
          unfold after
          rw [if_pos rfl]
          repeat' split
          all_goals omega
        · repeat (first | (refine Below.setCell ?_ (Nat.le_refl _) _) | exact below_alloc (Below.refl _ _) _)
/-! ### the interval -/
/-- Where a chance cuts the interval. -/
def midOf (low high p : Int) : Int := low + (high - low) / 4096 * p + (high - low) % 4096 * p / 4096
theorem mid_range (low high p : Int) (h : low ≤ high) (h1 : 1 ≤ p) (h2 : p ≤ 4095) : low ≤ midOf low high p ∧ (low < high → midOf low high p < high) ∧ midOf low high p ≤ high := by
  have ha : (high - low) / 4096 * p ≤ (high - low) / 4096 * 4095 := Int.mul_le_mul_of_nonneg_left (by omega) (by omega)
  have hb : (high - low) % 4096 * p ≤ (high - low) % 4096 * 4095 := Int.mul_le_mul_of_nonneg_left (by omega) (by omega)
  have hc : 0 ≤ (high - low) / 4096 * p := Int.mul_nonneg (by omega) (by omega)
  have hd : 0 ≤ (high - low) % 4096 * p := Int.mul_nonneg (by omega) (by omega)
  unfold midOf
  refine ⟨by omega, fun h => by omega, by omega⟩
end Go.Proofs.Ytpnmedmghncpiaa.Cod2
