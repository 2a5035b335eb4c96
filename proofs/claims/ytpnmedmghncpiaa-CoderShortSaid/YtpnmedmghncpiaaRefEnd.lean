import Derived.Test.YtpnmedmghncpiaaPCoderShortx2
import Derived.Test.YtpnmedmghncpiaaAid
import Derived.Test.YtpnmedmghncpiaaHandAid
import Derived.Test.YtpnmedmghncpiaaCod1
import Derived.Test.YtpnmedmghncpiaaCod2
import Derived.Test.YtpnmedmghncpiaaCod3
import Derived.Test.YtpnmedmghncpiaaMod
import Derived.Test.YtpnmedmghncpiaaEnc
import Derived.Test.YtpnmedmghncpiaaMods
import Derived.Test.YtpnmedmghncpiaaEncAt
import Derived.Test.YtpnmedmghncpiaaPut
import Derived.Test.YtpnmedmghncpiaaEnd
import Derived.Test.YtpnmedmghncpiaaEncode
import Derived.Test.YtpnmedmghncpiaaRefAt
import Derived.Test.YtpnmedmghncpiaaRefPut
-- needs: Aid HandAid Cod1 Cod2 Cod3 Mod Enc Mods EncAt Put End Encode RefAt RefPut
-- print: incunableref02_Whole
namespace Go.Proofs.Ytpnmedmghncpiaa.RefEnd
open Go Go.RowKit Go.Proofs.YtpnmedmghncpiaaW.PrintWords Go.Proofs.YtpnmedmghncpiaaW.PrintLast Go.Proofs.YtpnmedmghncpiaaW.PrintMore Go.Proofs.Ytpnmedmghncpiaa.Aid Go.Proofs.Ytpnmedmghncpiaa.HandAid Go.Proofs.Ytpnmedmghncpiaa.Cod1 Go.Proofs.Ytpnmedmghncpiaa.Cod2 Go.Proofs.Ytpnmedmghncpiaa.Cod3 Go.Proofs.Ytpnmedmghncpiaa.Mod Go.Proofs.Ytpnmedmghncpiaa.Enc Go.Proofs.Ytpnmedmghncpiaa.Mods Go.Proofs.Ytpnmedmghncpiaa.EncAt Go.Proofs.Ytpnmedmghncpiaa.Put Go.Proofs.Ytpnmedmghncpiaa.End Go.Proofs.Ytpnmedmghncpiaa.Encode Go.Proofs.Ytpnmedmghncpiaa.RefAt Go.Proofs.Ytpnmedmghncpiaa.RefPut Go.Proofs.Ytpnmedmghncpiaa.PCoderShort
set_option linter.unusedVariables false
set_option linter.unusedSimpArgs false
/-- The highest k bytes, as a number. -/
def topOf (high : Int) (k : Nat) : Int := if k = 0 then high / 4294967296 * 4294967296 else if k = 1 then high / 16777216 * 16777216 else if k = 2 then high / 65536 * 65536 else if k = 3 then high / 256 * 256 else high
set_option maxHeartbeats 4000000 in
set_option maxRecDepth 100000 in
theorem iend_calls (low high : Int) (w : World) (hl0 : 0 ≤ low) (hlh : low ≤ high) (hh : high ≤ 4294967295) :
    Calls Try.prog 45 #[.agg #[.int .u64 low, .int .u64 high]] w (EndPost w (endOf low high)) := by
  have hh0 : 0 ≤ high := by omega
  go_enter Try.func45, Try.ntmps45
  go_wp2
  go_loopg [3, 4] 5 (fun d o n wr => ∃ (k : Nat), k ≤ 4 ∧ Aside0 (k + d = 5) ∧ n = .int .u64 (topOf high k) ∧ ∃ A c, o = .slice A k c ∧ Aside0 (k ≤ endN low high) ∧ Aside0 (wr.heap[w.heap.size]? = some (.cells #[.int .u64 low, .int .u64 high] 83 (0, 0))) ∧ Aside0 (Kd.R (Kd.int .u8) 5 wr w.heap.size (fun _ => True) (.slice A k c) ((hiBytes high).take k)) ∧ Aside0 (Below w.heap.size w wr))
  case atStart => exact ⟨0, by omega, ⟨by omega⟩, by (show Value.int IntKind.u64 0 = _; rw [show topOf high 0 = 0 from (by unfold topOf; rw [if_pos rfl]; omega)]), none, 0, rfl, ⟨Nat.zero_le _⟩, ⟨heap_new w _⟩, ⟨Kd.R_nil _ _ _ _ _⟩, ⟨below_alloc (Below.refl _ _) _⟩⟩
  case round =>
    obtain ⟨k, hk, HD, rfl, A3, c3, rfl, HK, HZ, HR4, HB4⟩ := hrel
    have k0 : wr.cell? ⟨w.heap.size, 0, none⟩ = some (.int .u64 low) := (blk_cell HZ.out 0).trans rfl
    have k1 : wr.cell? ⟨w.heap.size, 1, none⟩ = some (.int .u64 high) := (blk_cell HZ.out 1).trans rfl
    have hcase : k = 0 ∨ k = 1 ∨ k = 2 ∨ k = 3 ∨ k = 4 := by omega
    rcases hcase with rfl | rfl | rfl | rfl | rfl
    · rw [show topOf high 0 = high / 4294967296 * 4294967296 from rfl]
      by_cases ct : high / 4294967296 * 4294967296 < low
      · have HN : 1 ≤ endN low high := by
          have := HK.out
          unfold endN at this ⊢
          repeat' split
          all_goals (first | omega | (split at this <;> omega))
        have hle := HB4.out.size
        have hbl := blk_lt HZ.out
        go_wp2_with (at_builtin; refine Kd.R_append (Kd.int .u8) (w0 := w) w.heap.size (by rfl) (.tmp 14) (.tmp 20) 34 5 (.int .u8 0) 1 rfl Try.underlying34 infoU8 rfl (by decide) (by decide) (.slice A3 0 c3) ((hiBytes high).take 0) (high / 16777216) [.int .u8 (high / 16777216)] (fun _ => True) (fun _ => False) rfl rfl rfl (fun _ h => h.elim) (fun _ _ => trivial) HR4.out HB4.out hle (by simp [hiBytes]) ?_; intro v8 w8 hR8 hB8 hg8 hat8; obtain ⟨A8, c8, hv8⟩ := Kd.R_slice hR8; rw [show ((hiBytes high).take 0 ++ [high / 16777216]).length = 1 by simp [hiBytes]] at hv8; subst hv8; have HR8 := Aside0.mk (show Kd.R (Kd.int .u8) 5 w8 w.heap.size (fun _ => True) (.slice A8 1 c8) ((hiBytes high).take 1) from by simpa [hiBytes] using hR8); have HZ8 := Aside0.mk (blk_grown HZ.out hg8 (Kd.R_ne HR4.out HZ.out (by decide))); have k0 : w8.cell? ⟨w.heap.size, 0, none⟩ = some (.int .u64 low) := (blk_cell HZ8.out 0).trans rfl; have k1 : w8.cell? ⟨w.heap.size, 1, none⟩ = some (.int .u64 high) := (blk_cell HZ8.out 1).trans rfl; have HB8 := Aside0.mk hB8; clear hR8 hB8 hg8 hat8)
        go_roundg 4
        case measure => have := HD.out; omega
        case rel => exact ⟨1, by omega, ⟨by omega⟩, by (rw [show topOf high 1 = high / 16777216 * 16777216 from rfl]; congr 1; omega), A8, c8, rfl, ⟨HN⟩, HZ8, HR8, HB8⟩
      · have hEN : endN low high = 0 := by
          have := HK.out
          unfold endN at this ⊢
          repeat' split
          all_goals (first | rfl | omega | (split at this <;> omega))
        have hend : endOf low high = (hiBytes high).take 0 := by unfold endOf; rw [hEN]
        have HEND := Aside0.mk hend
        clear hEN hend
        go_wp2
        go_ret
        refine ⟨A3, c3, ?_, ?_, HB4.out⟩
        · rw [HEND.out]; simp [hiBytes]
        · have := HR4.out
          rw [HEND.out]
          simp [hiBytes] at this ⊢
          exact this
    · rw [show topOf high 1 = high / 16777216 * 16777216 from rfl]
      by_cases ct : high / 16777216 * 16777216 < low
      · have HN : 2 ≤ endN low high := by
          have := HK.out
          unfold endN at this ⊢
          repeat' split
          all_goals (first | omega | (split at this <;> omega))
        have hle := HB4.out.size
        have hbl := blk_lt HZ.out
        go_wp2_with (at_builtin; refine Kd.R_append (Kd.int .u8) (w0 := w) w.heap.size (by rfl) (.tmp 14) (.tmp 20) 34 5 (.int .u8 0) 1 rfl Try.underlying34 infoU8 rfl (by decide) (by decide) (.slice A3 1 c3) ((hiBytes high).take 1) (high / 65536 % 256) [.int .u8 (high / 65536 % 256)] (fun _ => True) (fun _ => False) rfl rfl rfl (fun _ h => h.elim) (fun _ _ => trivial) HR4.out HB4.out hle (by simp [hiBytes]) ?_; intro v8 w8 hR8 hB8 hg8 hat8; obtain ⟨A8, c8, hv8⟩ := Kd.R_slice hR8; rw [show ((hiBytes high).take 1 ++ [high / 65536 % 256]).length = 2 by simp [hiBytes]] at hv8; subst hv8; have HR8 := Aside0.mk (show Kd.R (Kd.int .u8) 5 w8 w.heap.size (fun _ => True) (.slice A8 2 c8) ((hiBytes high).take 2) from by simpa [hiBytes] using hR8); have HZ8 := Aside0.mk (blk_grown HZ.out hg8 (Kd.R_ne HR4.out HZ.out (by decide))); have k0 : w8.cell? ⟨w.heap.size, 0, none⟩ = some (.int .u64 low) := (blk_cell HZ8.out 0).trans rfl; have k1 : w8.cell? ⟨w.heap.size, 1, none⟩ = some (.int .u64 high) := (blk_cell HZ8.out 1).trans rfl; have HB8 := Aside0.mk hB8; clear hR8 hB8 hg8 hat8)
        go_roundg 3
        case measure => have := HD.out; omega
        case rel => exact ⟨2, by omega, ⟨by omega⟩, by (rw [show topOf high 2 = high / 65536 * 65536 from rfl]; congr 1; omega), A8, c8, rfl, ⟨HN⟩, HZ8, HR8, HB8⟩
      · have hEN : endN low high = 1 := by
          have := HK.out
          unfold endN at this ⊢
          repeat' split
          all_goals (first | rfl | omega | (split at this <;> omega))
        have hend : endOf low high = (hiBytes high).take 1 := by unfold endOf; rw [hEN]
        have HEND := Aside0.mk hend
        clear hEN hend
        go_wp2
        go_ret
        refine ⟨A3, c3, ?_, ?_, HB4.out⟩
        · rw [HEND.out]; simp [hiBytes]
        · have := HR4.out
          rw [HEND.out]
          simp [hiBytes] at this ⊢
          exact this
    · rw [show topOf high 2 = high / 65536 * 65536 from rfl]
      by_cases ct : high / 65536 * 65536 < low
      · have HN : 3 ≤ endN low high := by
          have := HK.out
          unfold endN at this ⊢
          repeat' split
          all_goals (first | omega | (split at this <;> omega))
        have hle := HB4.out.size
        have hbl := blk_lt HZ.out
        go_wp2_with (at_builtin; refine Kd.R_append (Kd.int .u8) (w0 := w) w.heap.size (by rfl) (.tmp 14) (.tmp 20) 34 5 (.int .u8 0) 1 rfl Try.underlying34 infoU8 rfl (by decide) (by decide) (.slice A3 2 c3) ((hiBytes high).take 2) (high / 256 % 256) [.int .u8 (high / 256 % 256)] (fun _ => True) (fun _ => False) rfl rfl rfl (fun _ h => h.elim) (fun _ _ => trivial) HR4.out HB4.out hle (by simp [hiBytes]) ?_; intro v8 w8 hR8 hB8 hg8 hat8; obtain ⟨A8, c8, hv8⟩ := Kd.R_slice hR8; rw [show ((hiBytes high).take 2 ++ [high / 256 % 256]).length = 3 by simp [hiBytes]] at hv8; subst hv8; have HR8 := Aside0.mk (show Kd.R (Kd.int .u8) 5 w8 w.heap.size (fun _ => True) (.slice A8 3 c8) ((hiBytes high).take 3) from by simpa [hiBytes] using hR8); have HZ8 := Aside0.mk (blk_grown HZ.out hg8 (Kd.R_ne HR4.out HZ.out (by decide))); have k0 : w8.cell? ⟨w.heap.size, 0, none⟩ = some (.int .u64 low) := (blk_cell HZ8.out 0).trans rfl; have k1 : w8.cell? ⟨w.heap.size, 1, none⟩ = some (.int .u64 high) := (blk_cell HZ8.out 1).trans rfl; have HB8 := Aside0.mk hB8; clear hR8 hB8 hg8 hat8)
        go_roundg 2
        case measure => have := HD.out; omega
        case rel => exact ⟨3, by omega, ⟨by omega⟩, by (rw [show topOf high 3 = high / 256 * 256 from rfl]; congr 1; omega), A8, c8, rfl, ⟨HN⟩, HZ8, HR8, HB8⟩
      · have hEN : endN low high = 2 := by
          have := HK.out
          unfold endN at this ⊢
          repeat' split
          all_goals (first | rfl | omega | (split at this <;> omega))
        have hend : endOf low high = (hiBytes high).take 2 := by unfold endOf; rw [hEN]
        have HEND := Aside0.mk hend
        clear hEN hend
        go_wp2
        go_ret
        refine ⟨A3, c3, ?_, ?_, HB4.out⟩
        · rw [HEND.out]; simp [hiBytes]
        · have := HR4.out
          rw [HEND.out]
          simp [hiBytes] at this ⊢
          exact this
    · rw [show topOf high 3 = high / 256 * 256 from rfl]
      by_cases ct : high / 256 * 256 < low
      · have HN : 4 ≤ endN low high := by
          have := HK.out
          unfold endN at this ⊢
          repeat' split
          all_goals (first | omega | (split at this <;> omega))
        have hle := HB4.out.size
        have hbl := blk_lt HZ.out
        go_wp2_with (at_builtin; refine Kd.R_append (Kd.int .u8) (w0 := w) w.heap.size (by rfl) (.tmp 14) (.tmp 20) 34 5 (.int .u8 0) 1 rfl Try.underlying34 infoU8 rfl (by decide) (by decide) (.slice A3 3 c3) ((hiBytes high).take 3) (high % 256) [.int .u8 (high % 256)] (fun _ => True) (fun _ => False) rfl rfl rfl (fun _ h => h.elim) (fun _ _ => trivial) HR4.out HB4.out hle (by simp [hiBytes]) ?_; intro v8 w8 hR8 hB8 hg8 hat8; obtain ⟨A8, c8, hv8⟩ := Kd.R_slice hR8; rw [show ((hiBytes high).take 3 ++ [high % 256]).length = 4 by simp [hiBytes]] at hv8; subst hv8; have HR8 := Aside0.mk (show Kd.R (Kd.int .u8) 5 w8 w.heap.size (fun _ => True) (.slice A8 4 c8) ((hiBytes high).take 4) from by simpa [hiBytes] using hR8); have HZ8 := Aside0.mk (blk_grown HZ.out hg8 (Kd.R_ne HR4.out HZ.out (by decide))); have k0 : w8.cell? ⟨w.heap.size, 0, none⟩ = some (.int .u64 low) := (blk_cell HZ8.out 0).trans rfl; have k1 : w8.cell? ⟨w.heap.size, 1, none⟩ = some (.int .u64 high) := (blk_cell HZ8.out 1).trans rfl; have HB8 := Aside0.mk hB8; clear hR8 hB8 hg8 hat8)
        go_roundg 1
        case measure => have := HD.out; omega
        case rel => exact ⟨4, by omega, ⟨by omega⟩, by (rw [show topOf high 4 = high from rfl]; congr 1; omega), A8, c8, rfl, ⟨HN⟩, HZ8, HR8, HB8⟩
      · have hEN : endN low high = 3 := by
          have := HK.out
          unfold endN at this ⊢
          repeat' split
          all_goals (first | rfl | omega | (split at this <;> omega))
        have hend : endOf low high = (hiBytes high).take 3 := by unfold endOf; rw [hEN]
        have HEND := Aside0.mk hend
        clear hEN hend
        go_wp2
        go_ret
        refine ⟨A3, c3, ?_, ?_, HB4.out⟩
        · rw [HEND.out]; simp [hiBytes]
        · have := HR4.out
          rw [HEND.out]
          simp [hiBytes] at this ⊢
          exact this
    · rw [show topOf high 4 = high from rfl]
      by_cases ct : high < low
      · exact absurd ct (by omega)
      · have hEN : endN low high = 4 := by
          have := HK.out
          unfold endN at this ⊢
          repeat' split
          all_goals (first | rfl | omega | (split at this <;> omega))
        have hend : endOf low high = (hiBytes high).take 4 := by unfold endOf; rw [hEN]
        have HEND := Aside0.mk hend
        clear hEN hend
        go_wp2
        go_ret
        refine ⟨A3, c3, ?_, ?_, HB4.out⟩
        · rw [HEND.out]; simp [hiBytes]
        · have := HR4.out
          rw [HEND.out]
          simp [hiBytes] at this ⊢
          exact this
theorem ref_end_nil (w : World) : Calls Try.prog 27 #[.pointer none] w fun e w' => e = .returned (.slice none 0 0) ∧ w = w' := by
  go_enter Try.func27, Try.ntmps27
  go_wp2
  go_ret
  exact ⟨rfl, rfl⟩
set_option maxHeartbeats 4000000 in
set_option maxRecDepth 100000 in
theorem ref_end_row (w : World) (S : Nat → Prop) (g : Nat) (kind : Int) (A : Option Addr) (c : Nat) (st : List Int) (low high : Int) (vo : Value) (out : List Int) (hE : RefRow w S g kind A c st low high vo out) (hl0 : 0 ≤ low) (hlh : low ≤ high) (hh : high ≤ 4294967295) (hlen : out.length ≤ 1099511627880) :
    Calls Try.prog 27 #[.pointer (some ⟨g, 0, none⟩)] w (EndPost w (out ++ endOf low high)) := by
  have HE := Aside0.mk hE
  obtain ⟨Ao, co, hvo⟩ := Kd.R_slice hE.o
  subst hvo
  have hee : (endOf low high).length ≤ 4 := by simp only [endOf, hiBytes, List.length_take, List.length_cons, List.length_nil]; omega
  have p4 : w.drew.cell? ⟨g, 4, none⟩ = some (.slice Ao out.length co) := hE.c4
  have p2 : w.drew.cell? ⟨g, 2, none⟩ = some (.int .u64 low) := hE.c2
  have p3 : w.drew.cell? ⟨g, 3, none⟩ = some (.int .u64 high) := hE.c3
  have HB1 : Aside0 (Below w.heap.size w (w.drew.alloc (.cells #[] 5))) := ⟨below_alloc (below_drew (Below.refl _ _)) _⟩
  have HR1 : Aside0 (Kd.R (Kd.int .u8) 5 (w.drew.alloc (.cells #[] 5)) w.heap.size (fun _ => True) (.slice (some ⟨w.drew.heap.size, 0, none⟩) 0 0) []) := ⟨Kd.R_of_own (enc := Value.int .u8) (World.ownsRow_lit w.drew #[] 0 (Nat.le_refl _) (by decide) rfl) (fun _ _ => trivial)⟩
  have HCo := Aside0.mk (Kd.R_reads' (hE.drew.below (below_alloc (Below.refl _ _) (.cells #[] 5))).o).2.2
  have hu := Try.underlying83
  clear hE
  go_enter Try.func27, Try.ntmps27
  go_wp2
  refine start_ (n := 13) (S := fun w' => w'.cell? ⟨g, 4, none⟩ = some (.slice Ao out.length co) ∧ w'.cell? ⟨g, 2, none⟩ = some (.int .u64 low) ∧ w'.cell? ⟨g, 3, none⟩ = some (.int .u64 high)) (ds := []) #[false, false, false, false, false, false, false, false, false, false, false, false, false] (by kernel_rfl) rfl rfl ⟨p4, p2, p3⟩ (fun hHeld => ?_)
  generalize w.drew = wd at p4 p2 p3 HR1 HB1 HCo hHeld ⊢
  refine pure_ (i := 1) (N := some 6) (v := ?_) (a' := ?_) #[false, true, false, false, false, false, false, false, false, false, false, false, false] rfl rfl (by kernel_rfl) (fun _ _ _ h => h) (Or.inl ⟨by rfl, ?_⟩) ?_ ?_
  rotate_left
  · intro w'
    go_simp
    with_reducible rfl
  rotate_left
  · simp only [Act.put, List.setIfInBounds_toArray, List.set_cons_zero, List.set_cons_succ, i64_w, i32_w]
    rfl
  refine pure_ (i := 2) (N := some 7) (v := ?_) (a' := ?_) #[false, true, true, false, false, false, false, false, false, false, false, false, false] rfl rfl (by kernel_rfl) (fun _ _ _ h => h) (Or.inl ⟨by rfl, ?_⟩) ?_ ?_
  rotate_left
  · intro w'
    go_simp
    with_reducible rfl
  rotate_left
  · simp only [Act.put, List.setIfInBounds_toArray, List.set_cons_zero, List.set_cons_succ, i64_w, i32_w]
    rfl
  refine pure_ (i := 3) (N := some 8) (v := ?_) (a' := ?_) #[false, true, true, true, false, false, false, false, false, false, false, false, false] rfl rfl (by kernel_rfl) (fun _ _ _ h => h) (Or.inl ⟨by rfl, ?_⟩) ?_ ?_
  rotate_left
  · intro w'
    go_simp
    with_reducible rfl
  rotate_left
  · simp only [Act.put, List.setIfInBounds_toArray, List.set_cons_zero, List.set_cons_succ, i64_w, i32_w]
    rfl
  refine pure_ (i := 6) (N := some 11) (v := ?_) (a' := ?_) #[false, true, true, true, false, false, true, false, false, false, false, false, false] rfl rfl (by kernel_rfl) (fun _ _ _ h => h) (Or.inl ⟨by rfl, ?_⟩) ?_ ?_
  rotate_left
  · intro w'
    go_simp
    with_reducible rfl
  rotate_left
  · simp only [Act.put, List.setIfInBounds_toArray, List.set_cons_zero, List.set_cons_succ, i64_w, i32_w]
    rfl
  refine pure_ (i := 7) (N := some 12) (v := ?_) (a' := ?_) #[false, true, true, true, false, false, true, true, false, false, false, false, false] rfl rfl (by kernel_rfl) (fun _ _ _ h => h) (Or.inl ⟨by rfl, ?_⟩) ?_ ?_
  rotate_left
  · intro w'
    go_simp
    with_reducible rfl
  rotate_left
  · simp only [Act.put, List.setIfInBounds_toArray, List.set_cons_zero, List.set_cons_succ, i64_w, i32_w]
    rfl
  refine pure_ (i := 8) (N := some 13) (v := ?_) (a' := ?_) #[false, true, true, true, false, false, true, true, true, false, false, false, false] rfl rfl (by kernel_rfl) (fun _ _ _ h => h) (Or.inl ⟨by rfl, ?_⟩) ?_ ?_
  rotate_left
  · intro w'
    go_simp
    with_reducible rfl
  rotate_left
  · simp only [Act.put, List.setIfInBounds_toArray, List.set_cons_zero, List.set_cons_succ, i64_w, i32_w]
    rfl
  refine take_ (i := 4) (N := some 9) (v := ?_) (a' := ?_) #[false, true, true, true, true, false, true, true, true, false, false, false, false] rfl rfl (by kernel_rfl) (fun _ _ _ h => h) (Or.inl ⟨by rfl, ?_⟩) hHeld ?_ ?_
  rotate_left
  · rintro w' ⟨s0, s1, s2⟩
    go_simp
    with_reducible rfl
  rotate_left
  · simp only [Act.put, List.setIfInBounds_toArray, List.set_cons_zero, List.set_cons_succ, i64_w, i32_w]
    rfl
  refine take_ (i := 9) (N := some 14) (v := ?_) (a' := ?_) #[false, true, true, true, true, false, true, true, true, true, false, false, false] rfl rfl (by kernel_rfl) (fun _ _ _ h => h) (Or.inl ⟨by rfl, ?_⟩) hHeld ?_ ?_
  rotate_left
  · rintro w' ⟨s0, s1, s2⟩
    go_simp
    with_reducible rfl
  rotate_left
  · simp only [Act.put, List.setIfInBounds_toArray, List.set_cons_zero, List.set_cons_succ, i64_w, i32_w]
    rfl
  refine one_ (i := 0) (N := some 5) #[true, true, true, true, true, false, true, true, true, true, false, false, false] rfl rfl (by kernel_rfl) (by decide) (fun K hK => ?_)
  refine value_ (w1 := ?_) (v := ?_) (by rfl) rfl ?_ ?_
  rotate_left 2
  · go_simp
    constructor
    · rfl
    · rfl
  refine hK.out _ _ ⟨pw_cell_below (below_alloc (Below.refl _ _) _) p4, pw_cell_below (below_alloc (Below.refl _ _) _) p2, pw_cell_below (below_alloc (Below.refl _ _) _) p3⟩ (fun hHeld => ?_)
  clear hK K
  refine norm_ (a' := ?_) ?_ ?_
  rotate_left
  · show Act.put _ (some 5) _ = _
    simp only [Act.put, List.setIfInBounds_toArray, List.set_cons_zero, List.set_cons_succ, i64_w, i32_w]
    rfl
  refine one_ (i := 5) (N := some 10) #[true, true, true, true, true, true, true, true, true, true, false, false, false] rfl rfl (by kernel_rfl) (by decide) (fun K hK => ?_)
  refine Kd.R_append_rows_step (Kd.int .u8) (w0 := w) w.heap.size (by rfl) (.tmp 5) (.tmp 9) 34 5 (.int .u8 0) 1 rfl Try.underlying34 infoU8 rfl (by decide) (by omega) (.slice (some ⟨wd.heap.size, 0, none⟩) 0 0) [] out _ _ _ (fun _ => True) (fun _ => False) rfl rfl HR1.out HCo.out (fun _ _ h => h) (fun _ h => h.elim) (fun _ _ => trivial) HB1.out HB1.out.size (by simp only [List.length_nil]; omega) ?_
  intro v3 w3 hR3 hB3 hg3 hat3
  rw [List.nil_append] at hR3
  obtain ⟨A3, c3, rfl⟩ := Kd.R_slice hR3
  have HR3 := Aside0.mk hR3
  have HB3 := Aside0.mk hB3
  have HE3 := Aside0.mk (HE.out.below hB3)
  clear hR3 hB3 hg3 hat3
  refine hK.out _ _ ⟨HE3.out.c4, HE3.out.c2, HE3.out.c3⟩ (fun hHeld => ?_)
  clear hK K
  refine norm_ (a' := ?_) ?_ ?_
  rotate_left
  · show Act.put _ (some 10) _ = _
    simp only [Act.put, List.setIfInBounds_toArray, List.set_cons_zero, List.set_cons_succ, i64_w, i32_w]
    rfl
  refine one_ (i := 10) (N := some 15) #[true, true, true, true, true, true, true, true, true, true, true, false, false] rfl rfl (by kernel_rfl) (by decide) (fun K hK => ?_)
  refine goes_ Try.func45 (by kernel_rfl) rfl #[.agg #[.int .u64 low, .int .u64 high]] (by rfl) rfl rfl (by simp only [List.map_toArray, List.map_cons, List.map_nil]; rfl) ?_
  with_reducible refine (iend_calls low high _ hl0 hlh hh).mono ?_
  rintro e w7 ⟨A7, c7, rfl, hR7, hB7⟩
  refine ⟨_, rfl, ?_⟩
  have HR7 := Aside0.mk (Kd.R_below HR3.out hB7)
  have HC7 := Aside0.mk (Kd.R_reads' hR7).2.2
  have HB7 := Aside0.mk (below_then HB3.out HB3.out.size hB7)
  have HE7 := Aside0.mk (HE.out.below HB7.out)
  clear hR7 hB7
  refine hK.out _ _ ⟨HE7.out.c4, HE7.out.c2, HE7.out.c3⟩ (fun hHeld => ?_)
  clear hK K
  refine norm_ (a' := ?_) ?_ ?_
  rotate_left
  · show Act.put _ (some 15) _ = _
    simp only [Act.put, List.setIfInBounds_toArray, List.set_cons_zero, List.set_cons_succ, i64_w, i32_w]
    rfl
  refine one_ (i := 11) (N := some 16) #[true, true, true, true, true, true, true, true, true, true, true, true, false] rfl rfl (by kernel_rfl) (by decide) (fun K hK => ?_)
  refine Kd.R_append_rows_step (Kd.int .u8) (w0 := w) w.heap.size (by rfl) (.tmp 10) (.tmp 15) 34 5 (.int .u8 0) 1 rfl Try.underlying34 infoU8 rfl (by decide) (by omega) (.slice A3 out.length c3) out (endOf low high) _ _ _ (fun _ => True) (fun _ => False) rfl rfl HR7.out HC7.out (fun _ _ h => h) (fun _ h => h.elim) (fun _ _ => trivial) HB7.out HB7.out.size (by omega) ?_
  intro v9 w9 hR9 hB9 hg9 hat9
  obtain ⟨A9, c9, rfl⟩ := Kd.R_slice hR9
  have HR9 := Aside0.mk hR9
  have HB9 := Aside0.mk hB9
  have HE9 := Aside0.mk (HE.out.below hB9)
  clear hR9 hB9 hg9 hat9
  refine hK.out _ _ ⟨HE9.out.c4, HE9.out.c2, HE9.out.c3⟩ (fun hHeld => ?_)
  clear hK K
  refine norm_ (a' := ?_) ?_ ?_
  rotate_left
  · show Act.put _ (some 16) _ = _
    simp only [Act.put, List.setIfInBounds_toArray, List.set_cons_zero, List.set_cons_succ, i64_w, i32_w]
    rfl
  refine pure_ (i := 12) (N := some 2) (v := ?_) (a' := ?_) #[true, true, true, true, true, true, true, true, true, true, true, true, true] rfl rfl (by kernel_rfl) (fun _ _ _ h => h) (Or.inl ⟨by rfl, ?_⟩) ?_ ?_
  rotate_left
  · intro w'
    go_simp
    with_reducible rfl
  rotate_left
  · simp only [Act.put, List.setIfInBounds_toArray, List.set_cons_zero, List.set_cons_succ, i64_w, i32_w]
    rfl
  refine done_ (by kernel_rfl) ?_

  go_wp2
  go_ret
  exact ⟨A9, c9, by first | rfl | (rw [List.length_append]; rfl) | simp, HR9.out, HB9.out⟩
theorem ref_end_calls (w : World) (S : Nat → Prop) (g : Nat) (s : ES) (hE : RefAt w S g s) (hok : s.ok) (hlen : s.out.length ≤ 1099511627880) :
    Calls Try.prog 27 #[.pointer (some ⟨g, 0, none⟩)] w (EndPost w s.end_) := by
  obtain ⟨A, c, vo, hR⟩ := hE
  exact ref_end_row w S g s.kind A c s.st s.low s.high vo s.out hR hok.l hok.lh hok.h hlen
theorem ref_put_calls (w : World) (S : Nat → Prop) (g : Nat) (s : ES) (i bit : Int) (hE : RefAt w S g s) (hok : s.ok) (hlen : s.out.length ≤ 1099511627776) :
    Calls Try.prog 25 #[.pointer (some ⟨g, 0, none⟩), .int .i64 i, .int .i64 bit] w fun e w' => e = .returned (.int .i64 (s.err i bit)) ∧ RefAt w' (fun k => (S k ∨ w.heap.size ≤ k) ∧ k < w'.heap.size) g (s.putI i bit) ∧ Mods w w' S := by
  obtain ⟨A, c, vo, hR⟩ := hE
  by_cases hg : s.good i bit = true
  · have e1 : s.err i bit = 0 := if_pos hg
    have e2 : s.putI i bit = s.put i.toNat bit := if_pos hg
    rw [e1, e2]
    simp only [ES.good, Bool.and_eq_true, Bool.or_eq_true, decide_eq_true_eq] at hg
    obtain ⟨⟨h0, h1⟩, hb⟩ := hg
    obtain ⟨j, rfl⟩ : ∃ j : Nat, i = (j : Int) := ⟨i.toNat, by omega⟩
    rw [Int.toNat_natCast]
    have hj : j < s.st.length := by omega
    obtain ⟨b, rfl, _⟩ := hR.cell hj
    have hc := ES.cut_ hok hj (bit := bit)
    have hI : PutInv s.out (cutL s.low (s.mid j) bit) (cutH s.high (s.mid j) bit) 4 (cutL s.low (s.mid j) bit) (cutH s.high (s.mid j) bit) s.out := ⟨hc.1, hc.2.1, hc.2.2, by rw [show (256 : Int) ^ 4 = 4294967296 from rfl]; omega, rfl, rfl, Nat.le_refl _⟩
    have key : Calls Try.prog 25 #[.pointer (some ⟨g, 0, none⟩), .int .i64 j, .int .i64 bit] w (RefPost w S g s.kind s.st s.low s.high (s.mid j) s.out j bit) := by
      rcases hb with rfl | rfl
      · exact ref_row0 w S g s.kind b c s.st s.low s.high (s.mid j) vo s.out j hR hj hok.m.2.1 (ES.at_ hok hj) hok.l hok.lh hok.h rfl hI hlen
      · exact ref_row1 w S g s.kind b c s.st s.low s.high (s.mid j) vo s.out j hR hj hok.m.2.1 (ES.at_ hok hj) hok.l hok.lh hok.h rfl hI hlen
    refine key.mono ?_
    rintro e w' ⟨he, ⟨l, h, out1, hE', ho, hn⟩, hk⟩
    refine ⟨he, ?_, hk⟩
    have hE2 : RefAt w' (fun k => S k ∨ w.heap.size ≤ k) g (s.put j bit) := by
      obtain ⟨A', c', vo', h'⟩ := hE'
      refine ⟨A', c', vo', ?_⟩
      have hn' : s.norm j bit = (out1.drop s.out.length, l, h) := by
        show normE 4 _ _ = _
        rw [ho, List.drop_left, ← hn]
      simp only [ES.put]
      rw [show (s.norm j bit).2.1 = l by rw [hn'], show (s.norm j bit).2.2 = h by rw [hn'], show s.out ++ (s.norm j bit).1 = out1 from ho.symm]
      exact h'
    exact hE2.bound
  · have e1 : s.err i bit = 2 := if_neg hg
    have e2 : s.putI i bit = s := if_neg hg
    rw [e1, e2]
    have hbad : i < 0 ∨ (s.st.length : Int) ≤ i ∨ (bit ≠ 0 ∧ bit ≠ 1) := by
      simp only [ES.good, Bool.and_eq_true, Bool.or_eq_true, decide_eq_true_eq] at hg
      omega
    refine (ref_put_arg w g A s.st.length c i bit hR.c1 hbad).mono ?_
    rintro e w' ⟨rfl, rfl⟩
    exact ⟨rfl, ⟨A, c, vo, hR.bound.mono (fun k hk => ⟨.inl hk.1, hk.2⟩)⟩, Mods.refl _ _⟩
/-- What a Model answers: a copy. -/
def ModelPost (w : World) (kind : Int) (st : List Int) (e : Ending) (w' : World) : Prop := ∃ A c, e = .returned (.agg #[.int .i64 kind, .slice A st.length c]) ∧ Kd.R (Kd.int .i64) 3 w' w.heap.size (fun _ => True) (.slice A st.length c) st ∧ Below w.heap.size w w'
set_option maxRecDepth 100000 in
theorem model_calls (w : World) (S : Nat → Prop) (g : Nat) (s : ES) (hE : EncAt w S g s) (hok : s.ok) :
    Calls Try.prog 28 #[.pointer (some ⟨g, 0, none⟩)] w (ModelPost w s.kind s.st) := by
  obtain ⟨A, c, vo, hR⟩ := hE
  have HE := Aside0.mk (hR.below (below_alloc (Below.refl _ _) (.cells #[.int .i64 0, .slice none 0 0] 24)))
  have HB := Aside0.mk (below_alloc (Below.refl w.heap.size w) (.cells #[.int .i64 0, .slice none 0 0] 24))
  have HZ := Aside0.mk (heap_new w (.cells #[.int .i64 0, .slice none 0 0] 24))
  have hu := Try.underlying24
  have h2 := HE.out.real
  have k0 := HE.out.iv.k
  have k1 := HE.out.iv.s
  have hl := hok.m.2.1
  obtain ⟨hn, hc, hC⟩ := Kd.R_reads' HE.out.s
  have HC := Aside0.mk hC
  obtain ⟨b2, hb2⟩ : ∃ b2, w.heap.size = b2 := ⟨_, rfl⟩
  have HSZ := Aside0.mk hb2
  rw [hb2] at HZ
  clear hR hn hC
  go_enter Try.func28, Try.ntmps28
  go_wp2_with (first
    | (go_at_call 49; refine (enc_none _ _ _ h2).mono ?_; rintro e w' ⟨rfl, rfl⟩)
    | (go_at_call 57; refine (clone_calls A c s.kind s.st _ HC.out hc (by omega)).mono ?_; rintro e w4 ⟨A4, c4, rfl, hR4, hB4⟩; have HR4 := Aside0.mk (Kd.R_lower hR4 HB.out.size); have HB4 := Aside0.mk (below_then HB.out HB.out.size hB4); have HZ4 := Aside0.mk (blk_below HZ.out hB4); have z0 : w4.cell? ⟨b2, 0, none⟩ = some (.int .i64 0) := (blk_cell HZ4.out 0).trans rfl; have z1 : w4.cell? ⟨b2, 1, none⟩ = some (.slice none 0 0) := (blk_cell HZ4.out 1).trans rfl; have zf0 := blk_frozen HZ4.out 0; have zf1 := blk_frozen HZ4.out 1; clear hR4 hB4))
  have hz2 : (w4.setCell ⟨b2, 0, none⟩ (.int .i64 s.kind)).heap[b2]? = some (.cells #[.int .i64 s.kind, .slice none 0 0] 24 (0, 0)) := blk_put (cs := #[.int .i64 0, .slice none 0 0]) HZ4.out 0 _ rfl
  refine bodyPost_ret (results_cell_row rfl _ _ b2 24 #[.int .i64 s.kind, .slice A4 s.st.length c4] (0, 0) _ rfl (blk_put (cs := #[.int .i64 s.kind, .slice none 0 0]) hz2 1 _ rfl) Try.underlying24 rfl (by kernel_rfl)) rfl ?_
  have hwb : w.heap.size ≤ b2 := by rw [HSZ.out]; exact Nat.le_refl _
  exact ⟨A4, c4, rfl, Kd.R_set (Kd.R_set HR4.out HZ4.out (by decide) _ _) hz2 (by decide) _ _, (HB4.out.setCell hwb _).setCell hwb _⟩
set_option maxRecDepth 100000 in
theorem ref_model_calls (w : World) (S : Nat → Prop) (g : Nat) (s : ES) (hE : RefAt w S g s) (hok : s.ok) :
    Calls Try.prog 29 #[.pointer (some ⟨g, 0, none⟩)] w (ModelPost w s.kind s.st) := by
  obtain ⟨A, c, vo, hR⟩ := hE
  have HE := Aside0.mk (hR.below (below_alloc (Below.refl _ _) (.cells #[.int .i64 0, .slice none 0 0] 24)))
  have HB := Aside0.mk (below_alloc (Below.refl w.heap.size w) (.cells #[.int .i64 0, .slice none 0 0] 24))
  have HZ := Aside0.mk (heap_new w (.cells #[.int .i64 0, .slice none 0 0] 24))
  have hu := Try.underlying24
  have k0 := HE.out.c0
  have k1 := HE.out.c1
  have hl := hok.m.2.1
  obtain ⟨hn, hc, hC⟩ := Kd.R_reads' HE.out.s
  have HC := Aside0.mk hC
  obtain ⟨b2, hb2⟩ : ∃ b2, w.heap.size = b2 := ⟨_, rfl⟩
  have HSZ := Aside0.mk hb2
  rw [hb2] at HZ
  clear hR hn hC
  go_enter Try.func29, Try.ntmps29
  go_wp2_with (go_at_call 18; refine (copy_calls A c s.kind s.st _ HC.out hc (by omega)).mono ?_; rintro e w4 ⟨A4, c4, rfl, hR4, hB4⟩; have HR4 := Aside0.mk (Kd.R_lower hR4 HB.out.size); have HB4 := Aside0.mk (below_then HB.out HB.out.size hB4); have HZ4 := Aside0.mk (blk_below HZ.out hB4); have z0 : w4.cell? ⟨b2, 0, none⟩ = some (.int .i64 0) := (blk_cell HZ4.out 0).trans rfl; have z1 : w4.cell? ⟨b2, 1, none⟩ = some (.slice none 0 0) := (blk_cell HZ4.out 1).trans rfl; have zf0 := blk_frozen HZ4.out 0; have zf1 := blk_frozen HZ4.out 1; clear hR4 hB4)
  have hz2 : (w4.setCell ⟨b2, 0, none⟩ (.int .i64 s.kind)).heap[b2]? = some (.cells #[.int .i64 s.kind, .slice none 0 0] 24 (0, 0)) := blk_put (cs := #[.int .i64 0, .slice none 0 0]) HZ4.out 0 _ rfl
  refine bodyPost_ret (results_cell_row rfl _ _ b2 24 #[.int .i64 s.kind, .slice A4 s.st.length c4] (0, 0) _ rfl (blk_put (cs := #[.int .i64 s.kind, .slice none 0 0]) hz2 1 _ rfl) Try.underlying24 rfl (by kernel_rfl)) rfl ?_
  have hwb : w.heap.size ≤ b2 := by rw [HSZ.out]; exact Nat.le_refl _
  exact ⟨A4, c4, rfl, Kd.R_set (Kd.R_set HR4.out HZ4.out (by decide) _ _) hz2 (by decide) _ _, (HB4.out.setCell hwb _).setCell hwb _⟩
theorem ref_new_bad (A : Option Addr) (c : Nat) (kind : Int) (st : List Int) (w : World) (hC : Kd.C (Kd.int .i64) w A st.length st) (hc : st.length ≤ c) (hm : ¬ okModel kind st) :
    Calls Try.prog 23 #[.agg #[.int .i64 kind, .slice A st.length c]] w fun e w' => e = .returned (.tuple #[.pointer none, .int .i64 10]) ∧ Below w.heap.size w w' := by
  have HC := Aside0.mk hC
  have hv := ref_valid_calls A c kind st
  rw [decide_eq_false hm] at hv
  have HV := Aside0.mk hv
  clear hC hv
  have hb0 := Aside0.mk (below_alloc (Below.refl w.heap.size w) (.cells #[.int .i64 kind, .slice A st.length c] 24))
  go_enter Try.func23, Try.ntmps23
  go_wp2_with (go_at_call 16; refine (HV.out _ (Kd.C_below HC.out hb0.out) hc).mono ?_; rintro e w1 ⟨rfl, hB⟩; have HB := Aside0.mk (below_then hb0.out hb0.out.size hB); clear hB)
  go_ret2
  exact ⟨rfl, HB.out⟩
set_option maxRecDepth 100000 in
theorem ref_new_enc (A : Option Addr) (c : Nat) (kind : Int) (st : List Int) (w : World) (hC : Kd.C (Kd.int .i64) w A st.length st) (hc : st.length ≤ c) (hm : okModel kind st) :
    Calls Try.prog 23 #[.agg #[.int .i64 kind, .slice A st.length c]] w fun e w' => ∃ g, e = .returned (.tuple #[.pointer (some ⟨g, 0, none⟩), .int .i64 0]) ∧ RefAt w' (Since w.heap.size w') g (newES kind st) ∧ Below w.heap.size w w' := by
  have HC := Aside0.mk hC
  have hv := ref_valid_calls A c kind st
  rw [decide_eq_true hm] at hv
  have HV := Aside0.mk hv
  have hl := hm.2.1
  have hu := Try.underlying24
  clear hC hv hm
  have hb0 := Aside0.mk (below_alloc (Below.refl w.heap.size w) (.cells #[.int .i64 kind, .slice A st.length c] 24))
  have hq0 : Aside0 ((w.alloc (.cells #[.int .i64 kind, .slice A st.length c] 24)).heap[w.heap.size]? = some (.cells #[.int .i64 kind, .slice A st.length c] 24 (0, 0))) := ⟨heap_new _ _⟩
  go_enter Try.func23, Try.ntmps23
  go_wp2_with (first
    | (go_at_call 16; refine (HV.out _ (Kd.C_below HC.out hb0.out) hc).mono ?_; rintro e w1 ⟨rfl, hB⟩; have HB := Aside0.mk (below_then hb0.out hb0.out.size hB); have hq1 : Aside0 (w1.heap[w.heap.size]? = some (.cells #[.int .i64 kind, .slice A st.length c] 24 (0, 0))) := ⟨(hB.block _ (blk_lt hq0.out)).trans hq0.out⟩; have k0 : w1.cell? ⟨w.heap.size, 0, none⟩ = some (.int .i64 kind) := (blk_cell hq1.out 0).trans rfl; have k1 : w1.cell? ⟨w.heap.size, 1, none⟩ = some (.slice A st.length c) := (blk_cell hq1.out 1).trans rfl; clear hB)
    | (go_at_call 18; refine (copy_calls A c kind st _ (Kd.C_below HC.out HB.out) hc (by omega)).mono ?_; rintro e w2 ⟨A2, c2, rfl, hR, hB⟩; have HB2 := Aside0.mk (below_then HB.out HB.out.size hB); have HR := Aside0.mk (Kd.R_lower hR HB.out.size); clear hR hB)
    | (go_at_call 48; refine (incunableref02_Whole.calls 0 4294967295 _ rfl).mono ?_; rintro e w3 ⟨rfl, hB⟩; have HB3 := Aside0.mk (below_then HB2.out HB2.out.size hB); have HR3 := Aside0.mk (Kd.R_below HR.out hB); clear hB))
  go_ret2
  refine ⟨w3.heap.size, rfl, ⟨A2, c2, .slice none 0 0, heap_new w3 (.cells (ref5 kind (.slice A2 st.length c2) 0 4294967295 (.slice none 0 0)) 85), ?_, Kd.R_nil _ _ _ _ _, ⟨HB3.out.size, by simp⟩⟩, below_alloc HB3.out _⟩
  exact Kd.R_lower (Kd.R_mono (Kd.R_alloc (Kd.R_bound HR3.out) _) (fun k hk => ⟨hk.2.1, by have := hk.2.2.1; simp; omega⟩)) (Nat.zero_le _)
end Go.Proofs.Ytpnmedmghncpiaa.RefEnd
