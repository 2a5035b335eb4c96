import Derived.Test.YtpnmedmghncpiaaAid
import Derived.Test.YtpnmedmghncpiaaHandAid
import Derived.Test.YtpnmedmghncpiaaCod1
import Derived.Test.YtpnmedmghncpiaaCod2
import Derived.Test.YtpnmedmghncpiaaCod3
import Derived.Test.YtpnmedmghncpiaaMod
import Derived.Test.YtpnmedmghncpiaaEnc
import Derived.Test.YtpnmedmghncpiaaMods
import Derived.Test.YtpnmedmghncpiaaEncAt
import Derived.Test.YtpnmedmghncpiaaPut
import Derived.Test.YtpnmedmghncpiaaEnd
import Derived.Test.YtpnmedmghncpiaaEncode
-- needs: Aid HandAid Cod1 Cod2 Cod3 Mod Enc Mods EncAt Put End Encode
namespace Go.Proofs.Ytpnmedmghncpiaa.Awake
open Go Go.RowKit Go.Proofs.YtpnmedmghncpiaaW.PrintWords Go.Proofs.YtpnmedmghncpiaaW.PrintLast Go.Proofs.YtpnmedmghncpiaaW.PrintMore Go.Proofs.Ytpnmedmghncpiaa.Aid Go.Proofs.Ytpnmedmghncpiaa.HandAid Go.Proofs.Ytpnmedmghncpiaa.Cod1 Go.Proofs.Ytpnmedmghncpiaa.Cod2 Go.Proofs.Ytpnmedmghncpiaa.Cod3 Go.Proofs.Ytpnmedmghncpiaa.Mod Go.Proofs.Ytpnmedmghncpiaa.Enc Go.Proofs.Ytpnmedmghncpiaa.Mods Go.Proofs.Ytpnmedmghncpiaa.EncAt Go.Proofs.Ytpnmedmghncpiaa.Put Go.Proofs.Ytpnmedmghncpiaa.End Go.Proofs.Ytpnmedmghncpiaa.Encode Go.Proofs.Ytpnmedmghncpiaa.PCoderShort
set_option linter.unusedVariables false
set_option linter.unusedSimpArgs false
theorem new01 (w : World) : Calls Try.prog 12 #[.int .i64 0, .int .i64 1] w fun e w' => ∃ A c, e = .returned (.tuple #[.agg #[.int .i64 0, .slice A 1 c], .int .i64 0]) ∧ Kd.R (Kd.int .i64) 3 w' w.heap.size (fun _ => True) (.slice A 1 c) [0] ∧ Below w.heap.size w w' := by
  have h := new_calls 0 1 w
  rw [show newModel 0 1 = (0, [0], 0) by decide] at h
  exact h
theorem ev_row (w : World) (x : S47) : Kd.C k47 (w.alloc (.cells #[.int .i64 x.f0, .int .i64 x.f1] 47)) (some ⟨w.heap.size, 0, none⟩) 1 [x] := by
  refine ⟨rfl, by decide, fun _ => ⟨_, rfl, fun j p hj => ?_⟩⟩
  obtain rfl : j = 0 := by
    have := (List.getElem?_eq_some_iff.1 hj).1
    simp at this
    omega
  obtain rfl : x = p := by simpa using hj
  refine ⟨_, rfl, k47_mk _ x, fun i u hi => ?_⟩
  rw [Nat.zero_mul, Nat.zero_add, add_plain, cell_new]
  simpa using hi
def r0 : List Int × Int × List Int × Int := ([255], 0, [1], 0)
def r1 : List Int × Int × List Int × Int := ([], 0, [32], 0)
theorem enc0 : encodeR 0 [0] [⟨0, 0⟩] = r0 := by decide +kernel
theorem enc1 : encodeR 0 [0] [⟨0, 1⟩] = r1 := by decide +kernel
theorem encode0 (A : Option Addr) (c : Nat) (Ae : Option Addr) (w : World) (hC : Kd.C (Kd.int .i64) w A 1 [0]) (hc : 1 ≤ c) (hCe : Kd.C k47 w Ae 1 [⟨0, 0⟩]) :
    Calls Try.prog 19 #[.agg #[.int .i64 0, .slice A 1 c], .slice Ae 1 1] w fun e w' => ∃ A1 c1 A2 c2, e = .returned (.tuple #[.slice A1 1 c1, .agg #[.int .i64 0, .slice A2 1 c2], .int .i64 0]) ∧ Kd.R (Kd.int .u8) 5 w' w.heap.size (fun _ => True) (.slice A1 1 c1) [255] ∧ Below w.heap.size w w' := by
  have h := encode_calls A c 0 [0] Ae 1 [⟨0, 0⟩] w hC hc hCe (Nat.le_refl _)
  rw [enc0] at h
  refine h.mono ?_
  rintro e w' ⟨A1, c1, A2, c2, he, h1, _, hb⟩
  exact ⟨A1, c1, A2, c2, he, h1, hb⟩
theorem encode1 (A : Option Addr) (c : Nat) (Ae : Option Addr) (w : World) (hC : Kd.C (Kd.int .i64) w A 1 [0]) (hc : 1 ≤ c) (hCe : Kd.C k47 w Ae 1 [⟨0, 1⟩]) :
    Calls Try.prog 19 #[.agg #[.int .i64 0, .slice A 1 c], .slice Ae 1 1] w fun e w' => ∃ A1 c1 A2 c2, e = .returned (.tuple #[.slice A1 0 c1, .agg #[.int .i64 0, .slice A2 1 c2], .int .i64 0]) ∧ Below w.heap.size w w' := by
  have h := encode_calls A c 0 [0] Ae 1 [⟨0, 1⟩] w hC hc hCe (Nat.le_refl _)
  rw [enc1] at h
  refine h.mono ?_
  rintro e w' ⟨A1, c1, A2, c2, he, _, _, hb⟩
  exact ⟨A1, c1, A2, c2, he, hb⟩
set_option maxHeartbeats 2000000 in
set_option maxRecDepth 100000 in
theorem awake_calls (w : World) : Calls Try.prog 17 #[] w fun e w' => e = .returned (.bool true) ∧ Below w.heap.size w w' := by
  have hu := Try.underlying24
  have hu2 := Try.underlying47
  go_enter Try.func17, Try.ntmps17
  go_wp2_with (fail)
  refine (new01 _).mono ?_
  rintro e w1 ⟨A, c, rfl, hR1, hB1⟩
  have HB1 := Aside0.mk hB1
  obtain ⟨hn, hc, hC1⟩ := Kd.R_reads' hR1
  have HC1 := Aside0.mk hC1
  obtain ⟨b1, hb1⟩ : ∃ b1, w1.heap.size = b1 := ⟨_, rfl⟩
  have HB2 := Aside0.mk (below_alloc (below_alloc (Below.refl w1.heap.size w1) (.cells #[.int .i64 0, .slice A 1 c] 24)) (.cells #[.int .i64 0, .int .i64 0] 47))
  have HZ1 := Aside0.mk (show (w1.alloc (.cells #[.int .i64 0, .slice A 1 c] 24)).heap[b1]? = some (.cells #[.int .i64 0, .slice A 1 c] 24 (0, 0)) from hb1 ▸ heap_new w1 _)
  have HZ2 := Aside0.mk (blk_alloc HZ1.out (.cells #[.int .i64 0, .int .i64 0] 47))
  have hev := ev_row (w1.alloc (.cells #[.int .i64 0, .slice A 1 c] 24)) ⟨0, 0⟩
  rw [World.size_alloc, hb1] at hev
  have HEV := Aside0.mk hev
  clear hR1 hB1 hC1 hn hev
  go_wp2_with (fail)
  refine (encode0 A c _ _ (Kd.C_below HC1.out HB2.out) hc HEV.out).mono ?_
  rintro e w2 ⟨A1, c1, A2, c2, rfl, hR2, hB2⟩
  have HB3 := Aside0.mk (below_then HB2.out HB2.out.size hB2)
  have HZ3 := Aside0.mk (blk_below HZ2.out hB2)
  obtain ⟨gb, cap, hv, _, hlt, _⟩ := Kd.R_form hR2 (by decide)
  injection hv with hA1 hn1 hcap
  clear hn1
  subst hA1 hcap
  have HX := Aside0.mk (Kd.R_cell (0 : Int) hR2 0 (by decide) (by decide)).1
  have HLT := Aside0.mk hlt
  obtain ⟨b2, hb2⟩ : ∃ b2, w2.heap.size = b2 := ⟨_, rfl⟩
  have k0 : (w2.alloc (.cells #[.int .i64 0, .slice A2 1 c2] 24)).cell? ⟨b1, 0, none⟩ = some (.int .i64 0) := (blk_cell (blk_alloc HZ3.out _) 0).trans rfl
  have k1 : (w2.alloc (.cells #[.int .i64 0, .slice A2 1 c2] 24)).cell? ⟨b1, 1, none⟩ = some (.slice A 1 c) := (blk_cell (blk_alloc HZ3.out _) 1).trans rfl
  have hk : b1 ≠ b2 := by have := blk_lt HZ3.out; omega
  have HB4 := Aside0.mk (below_alloc (below_alloc (Below.refl w2.heap.size w2) (.cells #[.int .i64 0, .slice A2 1 c2] 24)) (.cells #[.int .i64 0, .int .i64 1] 47))
  have hev := ev_row (w2.alloc (.cells #[.int .i64 0, .slice A2 1 c2] 24)) ⟨0, 1⟩
  rw [World.size_alloc, hb2] at hev
  have HEV2 := Aside0.mk hev
  clear hR2 hB2 hlt hev HEV
  go_wp2_with (fail)
  refine (encode1 A c _ _ (Kd.C_below (Kd.C_below HC1.out HB3.out) HB4.out) hc HEV2.out).mono ?_
  rintro e w3 ⟨A3, c3, A4, c4, rfl, hB5⟩
  have HB5 := Aside0.mk (below_then HB4.out HB4.out.size hB5)
  have hx : w3.cell? ⟨gb, 0, none⟩ = some (.int .u8 255) := pw_cell_below HB5.out HX.out
  have hgl : gb < w3.heap.size := Nat.lt_of_lt_of_le HLT.out HB5.out.size
  clear hB5 k0 k1 hk
  go_wp2
  go_ret
  refine ⟨rfl, ?_⟩
  exact below_alloc (below_then (below_then HB1.out HB1.out.size HB3.out) (Nat.le_trans HB1.out.size HB3.out.size) HB5.out) _
end Go.Proofs.Ytpnmedmghncpiaa.Awake
