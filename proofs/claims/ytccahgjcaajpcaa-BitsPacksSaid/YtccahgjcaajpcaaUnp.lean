import Derived.Test.YtccahgjcaajpcaaAid
import Derived.Test.YtccahgjcaajpcaaHandAid
-- needs: Aid HandAid
namespace Go.Proofs.Ytccahgjcaajpcaa.Unp
open Go Go.RowKit Go.Proofs.YtccahgjcaajpcaaW.PrintWords Go.Proofs.YtccahgjcaajpcaaW.PrintLast Go.Proofs.YtccahgjcaajpcaaW.PrintMore Go.Proofs.Ytccahgjcaajpcaa.Aid Go.Proofs.Ytccahgjcaajpcaa.HandAid
set_option linter.unusedVariables false
def unpackUpTo (b : List Int) (n : Nat) : List Int := (List.range n).map fun (i : Nat) => bitOf b (i : Int)
/-- What Unpack has made when j bits are written. -/
def unpart (b : List Int) (n j : Nat) : List Int := (List.range n).map fun (i : Nat) => if i < j then bitOf b (i : Int) else 0
theorem unpart_len (b : List Int) (n j : Nat) : (unpart b n j).length = n := by simp [unpart]
theorem unpart_zero (b : List Int) (n : Nat) : unpart b n 0 = List.replicate n 0 := by
  apply List.ext_getElem
  · simp [unpart]
  intro j h1 h2
  simp [unpart]
theorem unpart_all (b : List Int) (n : Nat) : unpart b n n = unpackUpTo b n := by
  unfold unpart unpackUpTo
  apply List.map_congr_left
  intro j hj
  rw [List.mem_range] at hj
  rw [if_pos hj]
theorem unpart_step (b : List Int) (n j : Nat) (h : j < n) : (unpart b n j).set j (bitOf b (j : Int)) = unpart b n (j + 1) := by
  refine set_range_map _ _ _ _ h ?_ ?_
  · rw [if_pos (by omega)]
  · intro i h1 h2
    by_cases c : i < j
    · rw [if_pos c, if_pos (by omega)]
    · rw [if_neg c, if_neg (by omega)]
theorem unpack_bad (A0 : Option Addr) (c0 : Nat) (b : List Int) (n : Int) (w : World) (hl : b.length ≤ 1000000000000) (h : n < 0 ∨ 8 * b.length < n) :
    Calls Try.prog 23 #[.slice A0 b.length c0, .int .i64 n] w fun e w' => e = .returned (.tuple #[.slice none 0 0, .int .i64 (if n < 0 then 2 else 6)]) ∧ w = w' := by
  by_cases h0 : n < 0
  · rw [if_pos h0]
    go_enter Try.func23, Try.ntmps23
    go_wp2
    go_ret2
    exact ⟨rfl, rfl⟩
  · rw [if_neg h0]
    have h1 : n > 8 * (b.length : Int) := by omega
    go_enter Try.func23, Try.ntmps23
    go_wp2
    go_ret2
    exact ⟨rfl, rfl⟩
set_option maxHeartbeats 1000000 in
theorem unpack_calls (A0 : Option Addr) (c0 : Nat) (b : List Int) (n : Nat) (w : World) (hC : Kd.C (Kd.int .u8) w A0 b.length b) (hb : Bytes b) (hl : b.length ≤ 1000000000000) (h1 : n ≤ 8 * b.length) :
    Calls Try.prog 23 #[.slice A0 b.length c0, .int .i64 n] w fun e w' => ∃ A c, e = .returned (.tuple #[.slice A n c, .int .i64 0]) ∧ Kd.R (Kd.int .u8) 5 w' w.heap.size (fun _ => True) (.slice A n c) (unpackUpTo b n) ∧ Below w.heap.size w w' := by
  have HC0 := Aside0.mk hC
  have hn0 : ¬ (n : Int) < 0 := by omega
  have hn1 : ¬ (n : Int) > 8 * (b.length : Int) := by omega
  clear hC
  go_enter Try.func23, Try.ntmps23
  go_wp2_with ((with_reducible refine gate_dst (N := 18) rfl ?_); refine Kd.R_make (Kd.int .u8) _ 5 rfl (N := 18) rfl 22 _ _ rfl (n : Int) rfl rfl Try.underlying22 (.int .u8 0) 1 infoU8 rfl (by decide) (by omega) 0 (ok := fun _ => True) (okp := fun _ => True) rfl (fun _ hk => hk) trivial (by omega) (by omega) (Below.refl _ _) (Nat.le_refl _) ?_; intro v146 w7 ho8 hb hg_ hnew_; rw [show ((n : Int)).toNat = n from Int.toNat_natCast n, ← unpart_zero b] at ho8; obtain ⟨A1, c1, he8⟩ := Kd.R_slice ho8; rw [unpart_len] at he8; subst he8; have HO := Aside0.mk (Kd.R_lower ho8 (Nat.le_refl _)); have HB := Aside0.mk hb; clear ho8 hb hg_ hnew_)
  go_loopw [21] (fun i wr => ∃ j : Nat, j ≤ n ∧ i = .int .i64 j ∧ Aside0 (Kd.R (Kd.int .u8) 5 wr w.heap.size (fun _ => True) (.slice A1 n c1) (unpart b n j)) ∧ Aside0 (Below w.heap.size w wr)) (fun i _ => n - (intOf i).toNat)
  case atStart => exact ⟨0, by omega, rfl, HO, HB⟩
  case round =>
    obtain ⟨j, hj, rfl, hR, hB⟩ := hrel
    clear HO HB
    by_cases hlt : j < n
    · obtain ⟨ad, rfl, hd⟩ := Kd.at_int (Kd.C_below HC0.out hB.out) ((j : Int) / 8) (by omega) (by omega)
      rw [show ((j : Int) / 8).toNat = j / 8 by omega] at hd
      obtain ⟨g, cap, hg0, hg1, hg2, hcells⟩ := Kd.R_form hR.out (by rw [unpart_len]; omega)
      rw [unpart_len] at hg0
      injection hg0 with hA hn' hc'
      subst hA hc'
      have hR' : Aside0 (Kd.R (Kd.int .u8) 5 wr w.heap.size (fun _ => True) (.slice (some ⟨g, 0, none⟩) (unpart b n j).length c1) (unpart b n j)) := ⟨by rw [unpart_len]; exact hR.out⟩
      obtain ⟨hcell, hfz⟩ := Kd.R_cell (enc := Value.int .u8) (h1 := fun _ => rfl) (0 : Int) hR'.out (j : Int) (by omega) (by rw [unpart_len]; omega)
      simp only [Int.toNat_natCast] at hcell hfz
      have hbr := bytes_rdI hb (i := (j : Int) / 8) (by omega) (by omega)
      have he : Go.bits .and .u8 (rd b ((j : Int) / 8) / 2 ^ (7 - j % 8)) 1 = bitOf b (j : Int) := by
        rw [show 7 - j % 8 = (7 - (j : Int) % 8).toNat by omega]
        exact and_one (Int.ediv_nonneg hbr.1 (Int.pow_nonneg (by decide))) (Int.lt_of_le_of_lt (Int.ediv_le_self _ hbr.1) (by omega))
      have hput := Kd.R_put (enc := Value.int .u8) (h1 := fun _ => rfl) hR'.out (j : Int) (bitOf b (j : Int))
      simp only [Int.toNat_natCast] at hput
      rw [unpart_step b n j hlt, unpart_len] at hput
      have HP := Aside0.mk hput
      clear hcells hput hR'
      go_wp2
      go_roundw
      case rel => exact ⟨j + 1, by omega, by go_num, ⟨HP.out.1⟩, ⟨hB.out.setCell hg1 _⟩⟩
      case measure => simp [intOf]; omega
    · obtain rfl : n = j := by omega
      go_wp2
      go_ret2
      exact ⟨A1, c1, rfl, by rw [← unpart_all]; exact hR.out, hB.out⟩
end Go.Proofs.Ytccahgjcaajpcaa.Unp
