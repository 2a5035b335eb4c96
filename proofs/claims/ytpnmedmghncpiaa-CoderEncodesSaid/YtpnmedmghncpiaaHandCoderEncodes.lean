/- The code of events, with its end, and the model behind them are the reference's: for every model and list of events. -/
import Derived.Test.YtpnmedmghncpiaaPCoderShortx0
import Derived.Test.YtpnmedmghncpiaaAid
import Derived.Test.YtpnmedmghncpiaaHandAid
import Derived.Test.YtpnmedmghncpiaaCod1
import Derived.Test.YtpnmedmghncpiaaCod2
import Derived.Test.YtpnmedmghncpiaaCod3
import Derived.Test.YtpnmedmghncpiaaMod
import Derived.Test.YtpnmedmghncpiaaNewRef
import Derived.Test.YtpnmedmghncpiaaEnc
import Derived.Test.YtpnmedmghncpiaaMods
import Derived.Test.YtpnmedmghncpiaaEncAt
import Derived.Test.YtpnmedmghncpiaaPut
import Derived.Test.YtpnmedmghncpiaaEnd
import Derived.Test.YtpnmedmghncpiaaEncode
import Derived.Test.YtpnmedmghncpiaaAwake
import Derived.Test.YtpnmedmghncpiaaSame
import Derived.Test.YtpnmedmghncpiaaOpn
import Derived.Test.YtpnmedmghncpiaaRefAt
import Derived.Test.YtpnmedmghncpiaaRefPut
import Derived.Test.YtpnmedmghncpiaaRefEnd
import Derived.Test.YtpnmedmghncpiaaRefEncode
import Derived.Test.YtpnmedmghncpiaaRows
import Derived.WalkKit
import Derived.ProofKit
import Derived.OpenShut
import Derived.ShutString
import Derived.ChangeOld
import Derived.Lib.SmallJoins
import Derived.Below
import Derived.SizedLaws
import Derived.Test.YtpnmedmghncpiaaWSized
namespace Go.Proofs.Ytpnmedmghncpiaa.HandCoderEncodes
open Go Go.RowKit Go.Proofs.Ytpnmedmghncpiaa.PCoderShort Go.Proofs.YtpnmedmghncpiaaW.PrintWords Go.Proofs.YtpnmedmghncpiaaW.PrintLast Go.Proofs.YtpnmedmghncpiaaW.PrintMore Go.Proofs.Ytpnmedmghncpiaa.Aid Go.Proofs.Ytpnmedmghncpiaa.HandAid Go.Proofs.Ytpnmedmghncpiaa.Cod1 Go.Proofs.Ytpnmedmghncpiaa.Cod2 Go.Proofs.Ytpnmedmghncpiaa.Cod3 Go.Proofs.Ytpnmedmghncpiaa.Mod Go.Proofs.Ytpnmedmghncpiaa.NewRef Go.Proofs.Ytpnmedmghncpiaa.Enc Go.Proofs.Ytpnmedmghncpiaa.Mods Go.Proofs.Ytpnmedmghncpiaa.EncAt Go.Proofs.Ytpnmedmghncpiaa.Put Go.Proofs.Ytpnmedmghncpiaa.End Go.Proofs.Ytpnmedmghncpiaa.Encode Go.Proofs.Ytpnmedmghncpiaa.Awake Go.Proofs.Ytpnmedmghncpiaa.Same Go.Proofs.Ytpnmedmghncpiaa.Opn Go.Proofs.Ytpnmedmghncpiaa.RefAt Go.Proofs.Ytpnmedmghncpiaa.RefPut Go.Proofs.Ytpnmedmghncpiaa.RefEnd Go.Proofs.Ytpnmedmghncpiaa.RefEncode
set_option linter.unusedVariables false
set_option linter.unusedSimpArgs false
open Go.Proofs.Ytpnmedmghncpiaa
set_option maxHeartbeats 4000000 in
set_option maxRecDepth 100000 in
theorem walk (w : World) (mk : Int) (h2 : (Lit.int .i64 mk).wf = true) (A : Option Addr) (c : Nat) (st : List Int) (hl : st.length ≤ c) (hC : Kd.C (Kd.int .i64) w A st.length st) (hW : st.length * 8 ≤ 140737488351232 ∧ ∀ x ∈ st, (Lit.int .i64 x).wf = true)
    (Ae : Option Addr) (ce : Nat) (l : List S47) (hle : l.length ≤ ce) (hCE : Kd.C k47 w Ae l.length l) (hWE : l.length * 16 ≤ 140737488351232 ∧ ∀ x ∈ l, (Lit.int .i64 x.f0).wf = true ∧ (Lit.int .i64 x.f1).wf = true) :
    Calls Try.prog 4 #[.agg #[.int .i64 mk, .slice A st.length c], .slice Ae l.length ce] w fun e w' => e = .returned (.bool true) ∧ Below w.heap.size w w' := by
  have hu := Try.underlying24
  have hu2 := Try.underlying47
  have hmax : l.length ≤ 9223372036854775807 := Kd.C_max hCE
  have hmax2 : st.length ≤ 9223372036854775807 := Kd.C_max hC
  have HB := Aside0.mk (below_alloc (Below.refl w.heap.size w) (.cells #[.int .i64 mk, .slice A st.length c] 24))
  by_cases hbig : l.length > 20000 ∨ st.length > 16384
  · have hb2 : (l.length : Int) > 20000 ∨ ((st.length : Int) > 16384 ∧ ¬ (l.length : Int) > 20000) := by omega
    clear hbig hC hCE hW hWE h2
    rcases hb2 with h | ⟨h, h'⟩
    · go_enter Try.func4, Try.ntmps4
      go_wp2_with (go_at_call 17; refine (awake_calls _).mono ?_; rintro e w2 ⟨rfl, hB⟩; have HB2 := Aside0.mk (below_then HB.out HB.out.size hB); clear hB)
      go_ret
      exact ⟨rfl, HB2.out⟩
    · go_enter Try.func4, Try.ntmps4
      go_wp2_with (go_at_call 17; refine (awake_calls _).mono ?_; rintro e w2 ⟨rfl, hB⟩; have HB2 := Aside0.mk (below_then HB.out HB.out.size hB); clear hB)
      go_ret
      exact ⟨rfl, HB2.out⟩
  · have h1 : ¬ (l.length : Int) > 20000 := by omega
    have h3 : ¬ (st.length : Int) > 16384 := by omega
    have hn : st.length ≤ 16384 := by omega
    obtain ⟨rb, rk, rs, re, hr⟩ : ∃ rb rk rs re, encodeR mk st l = (rb, rk, rs, re) := ⟨_, _, _, _, rfl⟩
    have HE : ∀ (W : World) (_ : Kd.C (Kd.int .i64) W A st.length st), Kd.C k47 W Ae l.length l → Aside0 (Calls Try.prog 19 #[.agg #[.int .i64 mk, .slice A st.length c], .slice Ae l.length ce] W (EncodePost W (rb, rk, rs, re))) := fun W h h' => ⟨by have := encode_calls A c mk st Ae ce l W h hl h' hle; rw [hr] at this; exact this⟩
    have HF : ∀ (W : World) (_ : Kd.C (Kd.int .i64) W A st.length st), Kd.C k47 W Ae l.length l → Aside0 (Calls Try.prog 20 #[.agg #[.int .i64 mk, .slice A st.length c], .slice Ae l.length ce] W (EncodePost W (rb, rk, rs, re))) := fun W h h' => ⟨by have := ref_encode_calls A c mk st Ae ce l W h hl h' hle; rw [hr] at this; exact this⟩
    obtain ⟨b2, hsb2⟩ : ∃ x, w.heap.size = x := ⟨_, rfl⟩
    obtain ⟨W0, hsW0⟩ : ∃ x, w.alloc (.cells #[.int .i64 mk, .slice A st.length c] 24) = x := ⟨_, rfl⟩
    have HZ2 := Aside0.mk (show W0.heap[b2]? = some (.cells #[.int .i64 mk, .slice A st.length c] 24 (0, 0)) from hsW0 ▸ hsb2 ▸ heap_new w _)
    have HC := Aside0.mk (show Kd.C (Kd.int .i64) W0 A st.length st from hsW0 ▸ Kd.C_below hC (below_alloc (Below.refl _ _) _))
    have HCE := Aside0.mk (show Kd.C k47 W0 Ae l.length l from hsW0 ▸ Kd.C_below hCE (below_alloc (Below.refl _ _) _))
    have HB := Aside0.mk (show Below w.heap.size w W0 from hsW0 ▸ HB.out)
    clear hbig hC hCE hW hWE h2 hr
    go_enter Try.func4, Try.ntmps4
    have kHZ2_0 : W0.cell? ⟨b2, 0, none⟩ = some (.int .i64 mk) := (blk_cell HZ2.out 0).trans rfl
    have kHZ2_1 : W0.cell? ⟨b2, 1, none⟩ = some (.slice A st.length c) := (blk_cell HZ2.out 1).trans rfl
    go_wp2_with (fail)
    refine (copy_calls A c mk st _ HC.out hl (by omega)).mono ?_
    rintro e q1 ⟨A5, c5, rfl, hR, hB⟩
    clear hsW0 hsb2 kHZ2_0 kHZ2_1
    have HZ2 := Aside0.mk (blk_below HZ2.out hB)
    have HC := Aside0.mk (Kd.C_below HC.out hB)
    have HCE := Aside0.mk (Kd.C_below HCE.out hB)
    have HB := Aside0.mk (below_then HB.out HB.out.size hB)
    clear hB
    have HC5 := Aside0.mk (Kd.R_reads' hR).2.2
    have hc5 := (Kd.R_reads' hR).2.1
    clear hR
    obtain ⟨b5, hsb5⟩ : ∃ x_, q1.heap.size = x_ := ⟨_, rfl⟩
    obtain ⟨q2, hsq2⟩ : ∃ x_, q1.alloc (.cells #[.int .i64 mk, .slice A5 st.length c5] 24) = x_ := ⟨_, rfl⟩
    have hB : Below q1.heap.size q1 q2 := hsq2 ▸ below_alloc (Below.refl _ _) _
    have HN := Aside0.mk (show q2.heap[b5]? = some (.cells #[.int .i64 mk, .slice A5 st.length c5] 24 (0, 0)) from hsq2 ▸ hsb5 ▸ heap_new q1 _)
    have HZ2 := Aside0.mk (blk_below HZ2.out hB)
    have HC := Aside0.mk (Kd.C_below HC.out hB)
    have HCE := Aside0.mk (Kd.C_below HCE.out hB)
    have HC5 := Aside0.mk (Kd.C_below HC5.out hB)
    have HB := Aside0.mk (below_then HB.out HB.out.size hB)
    have HZ5 := HN
    clear HN hB
    have kHZ2_0 : q2.cell? ⟨b2, 0, none⟩ = some (.int .i64 mk) := (blk_cell HZ2.out 0).trans rfl
    have kHZ2_1 : q2.cell? ⟨b2, 1, none⟩ = some (.slice A st.length c) := (blk_cell HZ2.out 1).trans rfl
    have kHZ5_0 : q2.cell? ⟨b5, 0, none⟩ = some (.int .i64 mk) := (blk_cell HZ5.out 0).trans rfl
    have kHZ5_1 : q2.cell? ⟨b5, 1, none⟩ = some (.slice A5 st.length c5) := (blk_cell HZ5.out 1).trans rfl
    go_wp2_with (fail)
    refine ((HE _ HC.out HCE.out).out).mono ?_
    rintro e q3 ⟨A6, c6, A7, c7, rfl, hR6, hR7, hB⟩
    clear hsb5 hsq2 kHZ2_0 kHZ2_1 kHZ5_0 kHZ5_1
    have HZ2 := Aside0.mk (blk_below HZ2.out hB)
    have HZ5 := Aside0.mk (blk_below HZ5.out hB)
    have HC := Aside0.mk (Kd.C_below HC.out hB)
    have HCE := Aside0.mk (Kd.C_below HCE.out hB)
    have HC5 := Aside0.mk (Kd.C_below HC5.out hB)
    have HB := Aside0.mk (below_then HB.out HB.out.size hB)
    clear hB
    have HC6 := Aside0.mk (Kd.R_reads' hR6).2.2
    have HC7 := Aside0.mk (Kd.R_reads' hR7).2.2
    have hc6 := (Kd.R_reads' hR6).2.1
    have hc7 := (Kd.R_reads' hR7).2.1
    clear hR6 hR7
    obtain ⟨b7, hsb7⟩ : ∃ x_, q3.heap.size = x_ := ⟨_, rfl⟩
    obtain ⟨q4, hsq4⟩ : ∃ x_, q3.alloc (.cells #[.int .i64 rk, .slice A7 rs.length c7] 24) = x_ := ⟨_, rfl⟩
    have hB : Below q3.heap.size q3 q4 := hsq4 ▸ below_alloc (Below.refl _ _) _
    have HN := Aside0.mk (show q4.heap[b7]? = some (.cells #[.int .i64 rk, .slice A7 rs.length c7] 24 (0, 0)) from hsq4 ▸ hsb7 ▸ heap_new q3 _)
    have HZ2 := Aside0.mk (blk_below HZ2.out hB)
    have HZ5 := Aside0.mk (blk_below HZ5.out hB)
    have HC := Aside0.mk (Kd.C_below HC.out hB)
    have HCE := Aside0.mk (Kd.C_below HCE.out hB)
    have HC5 := Aside0.mk (Kd.C_below HC5.out hB)
    have HC6 := Aside0.mk (Kd.C_below HC6.out hB)
    have HC7 := Aside0.mk (Kd.C_below HC7.out hB)
    have HB := Aside0.mk (below_then HB.out HB.out.size hB)
    have HZ7 := HN
    clear HN hB
    have kHZ2_0 : q4.cell? ⟨b2, 0, none⟩ = some (.int .i64 mk) := (blk_cell HZ2.out 0).trans rfl
    have kHZ2_1 : q4.cell? ⟨b2, 1, none⟩ = some (.slice A st.length c) := (blk_cell HZ2.out 1).trans rfl
    have kHZ5_0 : q4.cell? ⟨b5, 0, none⟩ = some (.int .i64 mk) := (blk_cell HZ5.out 0).trans rfl
    have kHZ5_1 : q4.cell? ⟨b5, 1, none⟩ = some (.slice A5 st.length c5) := (blk_cell HZ5.out 1).trans rfl
    have kHZ7_0 : q4.cell? ⟨b7, 0, none⟩ = some (.int .i64 rk) := (blk_cell HZ7.out 0).trans rfl
    have kHZ7_1 : q4.cell? ⟨b7, 1, none⟩ = some (.slice A7 rs.length c7) := (blk_cell HZ7.out 1).trans rfl
    go_wp2_with (fail)
    refine ((HF _ HC.out HCE.out).out).mono ?_
    rintro e q5 ⟨A9, c9, A10, c10, rfl, hR9, hR10, hB⟩
    clear hsb7 hsq4 kHZ2_0 kHZ2_1 kHZ5_0 kHZ5_1 kHZ7_0 kHZ7_1
    have HZ2 := Aside0.mk (blk_below HZ2.out hB)
    have HZ5 := Aside0.mk (blk_below HZ5.out hB)
    have HZ7 := Aside0.mk (blk_below HZ7.out hB)
    have HC := Aside0.mk (Kd.C_below HC.out hB)
    have HCE := Aside0.mk (Kd.C_below HCE.out hB)
    have HC5 := Aside0.mk (Kd.C_below HC5.out hB)
    have HC6 := Aside0.mk (Kd.C_below HC6.out hB)
    have HC7 := Aside0.mk (Kd.C_below HC7.out hB)
    have HB := Aside0.mk (below_then HB.out HB.out.size hB)
    clear hB
    have HC9 := Aside0.mk (Kd.R_reads' hR9).2.2
    have HC10 := Aside0.mk (Kd.R_reads' hR10).2.2
    have hc9 := (Kd.R_reads' hR9).2.1
    have hc10 := (Kd.R_reads' hR10).2.1
    clear hR9 hR10
    obtain ⟨b10, hsb10⟩ : ∃ x_, q5.heap.size = x_ := ⟨_, rfl⟩
    obtain ⟨q6, hsq6⟩ : ∃ x_, q5.alloc (.cells #[.int .i64 rk, .slice A10 rs.length c10] 24) = x_ := ⟨_, rfl⟩
    have hB : Below q5.heap.size q5 q6 := hsq6 ▸ below_alloc (Below.refl _ _) _
    have HN := Aside0.mk (show q6.heap[b10]? = some (.cells #[.int .i64 rk, .slice A10 rs.length c10] 24 (0, 0)) from hsq6 ▸ hsb10 ▸ heap_new q5 _)
    have HZ2 := Aside0.mk (blk_below HZ2.out hB)
    have HZ5 := Aside0.mk (blk_below HZ5.out hB)
    have HZ7 := Aside0.mk (blk_below HZ7.out hB)
    have HC := Aside0.mk (Kd.C_below HC.out hB)
    have HCE := Aside0.mk (Kd.C_below HCE.out hB)
    have HC5 := Aside0.mk (Kd.C_below HC5.out hB)
    have HC6 := Aside0.mk (Kd.C_below HC6.out hB)
    have HC7 := Aside0.mk (Kd.C_below HC7.out hB)
    have HC9 := Aside0.mk (Kd.C_below HC9.out hB)
    have HC10 := Aside0.mk (Kd.C_below HC10.out hB)
    have HB := Aside0.mk (below_then HB.out HB.out.size hB)
    have HZ10 := HN
    clear HN hB
    have kHZ2_0 : q6.cell? ⟨b2, 0, none⟩ = some (.int .i64 mk) := (blk_cell HZ2.out 0).trans rfl
    have kHZ2_1 : q6.cell? ⟨b2, 1, none⟩ = some (.slice A st.length c) := (blk_cell HZ2.out 1).trans rfl
    have kHZ5_0 : q6.cell? ⟨b5, 0, none⟩ = some (.int .i64 mk) := (blk_cell HZ5.out 0).trans rfl
    have kHZ5_1 : q6.cell? ⟨b5, 1, none⟩ = some (.slice A5 st.length c5) := (blk_cell HZ5.out 1).trans rfl
    have kHZ7_0 : q6.cell? ⟨b7, 0, none⟩ = some (.int .i64 rk) := (blk_cell HZ7.out 0).trans rfl
    have kHZ7_1 : q6.cell? ⟨b7, 1, none⟩ = some (.slice A7 rs.length c7) := (blk_cell HZ7.out 1).trans rfl
    have kHZ10_0 : q6.cell? ⟨b10, 0, none⟩ = some (.int .i64 rk) := (blk_cell HZ10.out 0).trans rfl
    have kHZ10_1 : q6.cell? ⟨b10, 1, none⟩ = some (.slice A10 rs.length c10) := (blk_cell HZ10.out 1).trans rfl
    go_wp2_with (fail)
    refine (bytes_true A6 c6 A9 c9 rb _ _ _ rfl rfl HC6.out hc6 HC9.out hc9).mono ?_
    rintro e q7 ⟨rfl, hB⟩
    have hB := hB.below
    clear hsb10 hsq6 kHZ10_0 kHZ10_1 kHZ2_0 kHZ2_1 kHZ5_0 kHZ5_1 kHZ7_0 kHZ7_1
    have HZ2 := Aside0.mk (blk_below HZ2.out hB)
    have HZ5 := Aside0.mk (blk_below HZ5.out hB)
    have HZ7 := Aside0.mk (blk_below HZ7.out hB)
    have HZ10 := Aside0.mk (blk_below HZ10.out hB)
    have HC := Aside0.mk (Kd.C_below HC.out hB)
    have HCE := Aside0.mk (Kd.C_below HCE.out hB)
    have HC5 := Aside0.mk (Kd.C_below HC5.out hB)
    have HC6 := Aside0.mk (Kd.C_below HC6.out hB)
    have HC7 := Aside0.mk (Kd.C_below HC7.out hB)
    have HC9 := Aside0.mk (Kd.C_below HC9.out hB)
    have HC10 := Aside0.mk (Kd.C_below HC10.out hB)
    have HB := Aside0.mk (below_then HB.out HB.out.size hB)
    clear hB
    have kHZ2_0 : q7.cell? ⟨b2, 0, none⟩ = some (.int .i64 mk) := (blk_cell HZ2.out 0).trans rfl
    have kHZ2_1 : q7.cell? ⟨b2, 1, none⟩ = some (.slice A st.length c) := (blk_cell HZ2.out 1).trans rfl
    have kHZ5_0 : q7.cell? ⟨b5, 0, none⟩ = some (.int .i64 mk) := (blk_cell HZ5.out 0).trans rfl
    have kHZ5_1 : q7.cell? ⟨b5, 1, none⟩ = some (.slice A5 st.length c5) := (blk_cell HZ5.out 1).trans rfl
    have kHZ7_0 : q7.cell? ⟨b7, 0, none⟩ = some (.int .i64 rk) := (blk_cell HZ7.out 0).trans rfl
    have kHZ7_1 : q7.cell? ⟨b7, 1, none⟩ = some (.slice A7 rs.length c7) := (blk_cell HZ7.out 1).trans rfl
    have kHZ10_0 : q7.cell? ⟨b10, 0, none⟩ = some (.int .i64 rk) := (blk_cell HZ10.out 0).trans rfl
    have kHZ10_1 : q7.cell? ⟨b10, 1, none⟩ = some (.slice A10 rs.length c10) := (blk_cell HZ10.out 1).trans rfl
    go_wp2_with (fail)
    refine (same_true A7 c7 A10 c10 rk rs _ _ _ rfl rfl HC7.out hc7 HC10.out hc10).mono ?_
    rintro e q8 ⟨rfl, hB⟩
    clear kHZ10_0 kHZ10_1 kHZ2_0 kHZ2_1 kHZ5_0 kHZ5_1 kHZ7_0 kHZ7_1
    have HZ2 := Aside0.mk (blk_below HZ2.out hB)
    have HZ5 := Aside0.mk (blk_below HZ5.out hB)
    have HZ7 := Aside0.mk (blk_below HZ7.out hB)
    have HZ10 := Aside0.mk (blk_below HZ10.out hB)
    have HC := Aside0.mk (Kd.C_below HC.out hB)
    have HCE := Aside0.mk (Kd.C_below HCE.out hB)
    have HC5 := Aside0.mk (Kd.C_below HC5.out hB)
    have HC6 := Aside0.mk (Kd.C_below HC6.out hB)
    have HC7 := Aside0.mk (Kd.C_below HC7.out hB)
    have HC9 := Aside0.mk (Kd.C_below HC9.out hB)
    have HC10 := Aside0.mk (Kd.C_below HC10.out hB)
    have HB := Aside0.mk (below_then HB.out HB.out.size hB)
    clear hB
    have kHZ2_0 : q8.cell? ⟨b2, 0, none⟩ = some (.int .i64 mk) := (blk_cell HZ2.out 0).trans rfl
    have kHZ2_1 : q8.cell? ⟨b2, 1, none⟩ = some (.slice A st.length c) := (blk_cell HZ2.out 1).trans rfl
    have kHZ5_0 : q8.cell? ⟨b5, 0, none⟩ = some (.int .i64 mk) := (blk_cell HZ5.out 0).trans rfl
    have kHZ5_1 : q8.cell? ⟨b5, 1, none⟩ = some (.slice A5 st.length c5) := (blk_cell HZ5.out 1).trans rfl
    have kHZ7_0 : q8.cell? ⟨b7, 0, none⟩ = some (.int .i64 rk) := (blk_cell HZ7.out 0).trans rfl
    have kHZ7_1 : q8.cell? ⟨b7, 1, none⟩ = some (.slice A7 rs.length c7) := (blk_cell HZ7.out 1).trans rfl
    have kHZ10_0 : q8.cell? ⟨b10, 0, none⟩ = some (.int .i64 rk) := (blk_cell HZ10.out 0).trans rfl
    have kHZ10_1 : q8.cell? ⟨b10, 1, none⟩ = some (.slice A10 rs.length c10) := (blk_cell HZ10.out 1).trans rfl
    go_wp2_with (fail)
    refine (same_true A c A5 c5 mk st _ _ _ rfl rfl HC.out hl HC5.out hc5).mono ?_
    rintro e q9 ⟨rfl, hB⟩
    clear kHZ10_0 kHZ10_1 kHZ2_0 kHZ2_1 kHZ5_0 kHZ5_1 kHZ7_0 kHZ7_1
    have HZ2 := Aside0.mk (blk_below HZ2.out hB)
    have HZ5 := Aside0.mk (blk_below HZ5.out hB)
    have HZ7 := Aside0.mk (blk_below HZ7.out hB)
    have HZ10 := Aside0.mk (blk_below HZ10.out hB)
    have HC := Aside0.mk (Kd.C_below HC.out hB)
    have HCE := Aside0.mk (Kd.C_below HCE.out hB)
    have HC5 := Aside0.mk (Kd.C_below HC5.out hB)
    have HC6 := Aside0.mk (Kd.C_below HC6.out hB)
    have HC7 := Aside0.mk (Kd.C_below HC7.out hB)
    have HC9 := Aside0.mk (Kd.C_below HC9.out hB)
    have HC10 := Aside0.mk (Kd.C_below HC10.out hB)
    have HB := Aside0.mk (below_then HB.out HB.out.size hB)
    clear hB
    have kHZ2_0 : q9.cell? ⟨b2, 0, none⟩ = some (.int .i64 mk) := (blk_cell HZ2.out 0).trans rfl
    have kHZ2_1 : q9.cell? ⟨b2, 1, none⟩ = some (.slice A st.length c) := (blk_cell HZ2.out 1).trans rfl
    have kHZ5_0 : q9.cell? ⟨b5, 0, none⟩ = some (.int .i64 mk) := (blk_cell HZ5.out 0).trans rfl
    have kHZ5_1 : q9.cell? ⟨b5, 1, none⟩ = some (.slice A5 st.length c5) := (blk_cell HZ5.out 1).trans rfl
    have kHZ7_0 : q9.cell? ⟨b7, 0, none⟩ = some (.int .i64 rk) := (blk_cell HZ7.out 0).trans rfl
    have kHZ7_1 : q9.cell? ⟨b7, 1, none⟩ = some (.slice A7 rs.length c7) := (blk_cell HZ7.out 1).trans rfl
    have kHZ10_0 : q9.cell? ⟨b10, 0, none⟩ = some (.int .i64 rk) := (blk_cell HZ10.out 0).trans rfl
    have kHZ10_1 : q9.cell? ⟨b10, 1, none⟩ = some (.slice A10 rs.length c10) := (blk_cell HZ10.out 1).trans rfl
    go_wp2_with (fail)
    refine (awake_calls _).mono ?_
    rintro e q10 ⟨rfl, hB⟩
    clear kHZ10_0 kHZ10_1 kHZ2_0 kHZ2_1 kHZ5_0 kHZ5_1 kHZ7_0 kHZ7_1
    have HZ2 := Aside0.mk (blk_below HZ2.out hB)
    have HZ5 := Aside0.mk (blk_below HZ5.out hB)
    have HZ7 := Aside0.mk (blk_below HZ7.out hB)
    have HZ10 := Aside0.mk (blk_below HZ10.out hB)
    have HC := Aside0.mk (Kd.C_below HC.out hB)
    have HCE := Aside0.mk (Kd.C_below HCE.out hB)
    have HC5 := Aside0.mk (Kd.C_below HC5.out hB)
    have HC6 := Aside0.mk (Kd.C_below HC6.out hB)
    have HC7 := Aside0.mk (Kd.C_below HC7.out hB)
    have HC9 := Aside0.mk (Kd.C_below HC9.out hB)
    have HC10 := Aside0.mk (Kd.C_below HC10.out hB)
    have HB := Aside0.mk (below_then HB.out HB.out.size hB)
    clear hB
    go_wp2
    go_ret
    exact ⟨rfl, HB.out⟩
open Go.ChangeShapes Go.WideShapes Go.ChangeAt
open Go.ChangeMaps (open_string shut_string)
theorem own : ownKnob Try.prog.godebug = none := by kernel_rfl
theorem laidOut : laidOutB Try.prog = true := by kernel_rfl
def IsRow (k : IntKind) (w : World) (a : Option Addr) (len cap : Nat) (zs : List Int) : Prop :=
  (a = none ∧ len = 0 ∧ cap = 0 ∧ zs = []) ∨
  ∃ x, a = some x ∧ len ≤ cap ∧ cap ≤ maxLen ∧ zs.length = cap ∧ (∀ i, i < zs.length → w.cell? (x.add i) = some (.int k (zs.getD i 0))) ∧ ∀ n ∈ zs, (Lit.int k n).wf = true
set_option maxRecDepth 100000 in
theorem lifted (os : Os) (started : os.Started) (H : Type) (enc : TypeId × Value → H) :
    ReturnsInHanded {} Try.checked os 4 .any (Rows.coderEncodesSpec.pre6 enc Try.prog Try.f4 Rows.coderEncodesRow.domain false) (Rows.coderEncodesSpec.post enc Try.prog Try.f4 false true false false) := by
  refine returnsInHanded_of_change_sized (C := Try.checked) own started (by kernel_rfl) Try.func4
    (ChangeSpec.witness6 (enc := enc) (C := Try.checked) false ⟨#[], #[.agg #[.int .i64 0, .slice none 0 0], .slice none 0 0], []⟩ 8 (by kernel_rfl) (by kernel_rfl) (by kernel_rfl) (by kernel_rfl)) ?_
  intro W base args ds gs before hval0 hW hcnd hsz0 _
  have hsz : (DataW.weightsEach Try.prog (Try.f4.params.toList ++ Rows.coderEncodesSpec.plain.varTypes Try.prog) (ds ++ gs)).all (· ≤ reachBytes) = true := hsz0
  have hval : ∀ (j : Nat) t v, Try.f4.params[j]? = some t → args[j]? = some v → Value.okWide Try.prog W .any base t v := hval0
  have hW' := hW
  obtain ⟨p, q, hA0, hV, rfl, hfz, hnd⟩ := hW
  have hA : DataW.TrodAll enc Try.prog W 0 (fun _ => true) true Try.f4.params.toList args.toList ds p := hA0
  rw [Try.params4] at hA hval hsz
  obtain ⟨v0, vs0, d0, ds0, p0, q0, hargs, rfl, rfl, h0, r0⟩ := trodAll_cons hA
  obtain ⟨v1, vs1, d1, ds1, p1, q1, rfl, rfl, rfl, h1, r1⟩ := trodAll_cons r0
  obtain ⟨rfl, rfl, rfl⟩ := trodAll_nil r1
  obtain rfl : args = #[v0, v1] := by cases args; simp_all
  obtain ⟨rfl, rfl⟩ := trodVars_none hV
  have k0 := h0
  have lt0 : ∀ x ∈ p0, x.block < W.heap.size := by obtain ⟨m, hm⟩ := k0; exact DataW.trod_lt m _ _ _ hm
  obtain ⟨cs0, rfl, csz0⟩ := okWide_struct Try.underlying24 (hval 0 24 v0 rfl rfl)
  obtain ⟨⟨x0_0, x0_1⟩, ⟨_, _, hcs0, rfl, ⟨A0_1, c0_1, rfl, l0_1, g0_1⟩⟩, ⟨w0_0, w0_1⟩⟩ := Opn.open_arg (N := 8) (fun n => ((o_struct (d := (Kd.pair (Kd.int .i64) (Kd.slice 3 (Kd.int .i64)))) Try.underlying24 (by kernel_rfl) (f_cons rfl (o_int Try.underlying3 (by kernel_rfl)) (f_one rfl (o_slice (B := 8) Try.underlying22 (by kernel_rfl) (o_int Try.underlying3 (by kernel_rfl)) (by kernel_rfl))))) : Opn.OpensTo Try.prog (n + 8) 24 _ _)) h0 hsz (j := 0) (t := 24) rfl rfl
  obtain rfl : cs0 = #[.int .i64 x0_0, .slice A0_1 x0_1.length c0_1] := by rw [← Array.toList_inj]; exact hcs0
  have k1 := h1
  have lt1 : ∀ x ∈ p1, x.block < W.heap.size := by obtain ⟨m, hm⟩ := k1; exact DataW.trod_lt m _ _ _ hm
  obtain ⟨a1, len1, cap1, rfl⟩ := okWide_slice Try.underlying32 (hval 1 32 v1 rfl rfl)
  obtain ⟨x1, ⟨A1, c1, hcs1, l1, g1⟩, w1⟩ := Opn.open_arg (N := 8) (fun n => ((o_slice (B := 16) Try.underlying32 (by kernel_rfl) (show OpensTo _ _ _ k47 _ from o_iso (f := (fun x : S47 => (x.f0, x.f1))) (fun a => ⟨a.1, a.2⟩) (fun _ => rfl) (o_struct (d := (Kd.pair (Kd.int .i64) (Kd.int .i64))) Try.underlying47 (by kernel_rfl) (f_cons rfl (o_int Try.underlying3 (by kernel_rfl)) (f_one rfl (o_int Try.underlying3 (by kernel_rfl)))))) (by kernel_rfl)) : Opn.OpensTo Try.prog (n + 8) 32 _ _)) h1 hsz (j := 1) (t := 32) rfl rfl
  simp only [Value.cells, List.cons.injEq, Value.slice.injEq, and_true] at hcs1
  obtain ⟨rfl, rfl, rfl⟩ := hcs1
  clear hA0 hval0 hsz0 hsz
  refine (walk W x0_0 w0_0 A0_1 c0_1 x0_1 l0_1 g0_1 w0_1 _ _ x1 l1 g1 w1).mono fun e W' ⟨he, bel⟩ => ?_
  subst he
  exact ⟨_, rfl, _, _, _, [], _, [], hW', trodAll_mk1 (shut_bool Try.underlying4 _), (trodAll_cons_mk (Below.trod laidOut (by kernel_rfl) (of_decide_eq_true (by kernel_rfl)) k0 bel lt0) (trodAll_cons_mk (Below.trod laidOut (by kernel_rfl) (of_decide_eq_true (by kernel_rfl)) k1 bel lt1) trodAll_mk0)), rfl, bel.frame _, fun h => by cases h⟩
theorem over : Rows.coderEncodesRow.holds Try.pinned (OpenSpec.ofChange Rows.coderEncodesSpec) :=
  OpenClaim.holds_of_wide 4 Try.f4 rfl rfl rfl rfl rfl rfl rfl ⟨rfl, rfl, rfl, rfl, rfl⟩ rfl rfl rfl rfl rfl (by kernel_rfl) Try.func4 (by kernel_rfl)
    (of_decide_eq_true (by kernel_rfl)) (by unfold Func.isWrapper; first | (rw [if_pos (by decide +kernel)]; kernel_rfl) | (rw [if_neg (by decide +kernel)]; exact ⟨rfl, rfl⟩))
    (fun os started H enc _ => lifted os started H enc)
theorem proved : Rows.CoderEncodesSaid := over
#print axioms proved
end Go.Proofs.Ytpnmedmghncpiaa.HandCoderEncodes
namespace Go.Proofs.Ytpnmedmghncpiaa
/-- The row, under a short name, for the claim. -/
theorem coderEncodes_holds : Rows.CoderEncodesSaid := HandCoderEncodes.proved
end Go.Proofs.Ytpnmedmghncpiaa
