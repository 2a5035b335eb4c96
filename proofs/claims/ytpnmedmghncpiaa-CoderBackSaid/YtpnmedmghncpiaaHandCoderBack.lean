/- Events that are encoded come back, with the model behind them, also with zeros behind the code: for every model, list of events and number of zeros. -/
import Derived.Test.YtpnmedmghncpiaaPCoderShortx0
import Derived.Test.YtpnmedmghncpiaaAid
import Derived.Test.YtpnmedmghncpiaaHandAid
import Derived.Test.YtpnmedmghncpiaaCod1
import Derived.Test.YtpnmedmghncpiaaCod2
import Derived.Test.YtpnmedmghncpiaaCod3
import Derived.Test.YtpnmedmghncpiaaMod
import Derived.Test.YtpnmedmghncpiaaNewRef
import Derived.Test.YtpnmedmghncpiaaEnc
import Derived.Test.YtpnmedmghncpiaaMods
import Derived.Test.YtpnmedmghncpiaaEncAt
import Derived.Test.YtpnmedmghncpiaaPut
import Derived.Test.YtpnmedmghncpiaaEnd
import Derived.Test.YtpnmedmghncpiaaEncode
import Derived.Test.YtpnmedmghncpiaaAwake
import Derived.Test.YtpnmedmghncpiaaSame
import Derived.Test.YtpnmedmghncpiaaOpn
import Derived.Test.YtpnmedmghncpiaaDec
import Derived.Test.YtpnmedmghncpiaaGet
import Derived.Test.YtpnmedmghncpiaaDecNew
import Derived.Test.YtpnmedmghncpiaaDcd
import Derived.Test.YtpnmedmghncpiaaBack
import Derived.Test.YtpnmedmghncpiaaSplit
import Derived.Test.YtpnmedmghncpiaaRows
import Derived.WalkKit
import Derived.ProofKit
import Derived.OpenShut
import Derived.ShutString
import Derived.ChangeOld
import Derived.Lib.SmallJoins
import Derived.Below
import Derived.SizedLaws
import Derived.Test.YtpnmedmghncpiaaWSized
namespace Go.Proofs.Ytpnmedmghncpiaa.HandCoderBack
open Go Go.RowKit Go.Proofs.Ytpnmedmghncpiaa.PCoderShort Go.Proofs.YtpnmedmghncpiaaW.PrintWords Go.Proofs.YtpnmedmghncpiaaW.PrintLast Go.Proofs.YtpnmedmghncpiaaW.PrintMore Go.Proofs.Ytpnmedmghncpiaa.Aid Go.Proofs.Ytpnmedmghncpiaa.HandAid Go.Proofs.Ytpnmedmghncpiaa.Cod1 Go.Proofs.Ytpnmedmghncpiaa.Cod2 Go.Proofs.Ytpnmedmghncpiaa.Cod3 Go.Proofs.Ytpnmedmghncpiaa.Mod Go.Proofs.Ytpnmedmghncpiaa.NewRef Go.Proofs.Ytpnmedmghncpiaa.Enc Go.Proofs.Ytpnmedmghncpiaa.Mods Go.Proofs.Ytpnmedmghncpiaa.EncAt Go.Proofs.Ytpnmedmghncpiaa.Put Go.Proofs.Ytpnmedmghncpiaa.End Go.Proofs.Ytpnmedmghncpiaa.Encode Go.Proofs.Ytpnmedmghncpiaa.Awake Go.Proofs.Ytpnmedmghncpiaa.Same Go.Proofs.Ytpnmedmghncpiaa.Opn Go.Proofs.Ytpnmedmghncpiaa.Dec Go.Proofs.Ytpnmedmghncpiaa.Get Go.Proofs.Ytpnmedmghncpiaa.DecNew Go.Proofs.Ytpnmedmghncpiaa.Dcd Go.Proofs.Ytpnmedmghncpiaa.Back Go.Proofs.Ytpnmedmghncpiaa.Split
set_option linter.unusedVariables false
set_option linter.unusedSimpArgs false
open Go.Proofs.Ytpnmedmghncpiaa
theorem below_go {w0 W W' : World} (h : Below w0.heap.size w0 W) (k : Below W.heap.size W W') : Below w0.heap.size w0 W' := below_then h h.size k
theorem bytes_zeros {l : List Int} (h : Bytes l) (z : Nat) : Bytes (l ++ List.replicate z 0) := by
  intro x hx
  rcases List.mem_append.1 hx with hx | hx
  · exact h x hx
  · rw [List.eq_of_mem_replicate hx]
    exact ⟨Int.le_refl _, by decide⟩
set_option maxHeartbeats 1600000 in
set_option maxRecDepth 100000 in
theorem walk (w : World) (mk : Int) (h2 : (Lit.int .i64 mk).wf = true) (A : Option Addr) (c : Nat) (st : List Int) (hl : st.length ≤ c) (hC : Kd.C (Kd.int .i64) w A st.length st) (hW : st.length * 8 ≤ 140737488351232 ∧ ∀ x ∈ st, (Lit.int .i64 x).wf = true)
    (Ae : Option Addr) (ce : Nat) (l : List S47) (hle : l.length ≤ ce) (hCE : Kd.C k47 w Ae l.length l) (hWE : l.length * 16 ≤ 140737488351232 ∧ ∀ x ∈ l, (Lit.int .i64 x.f0).wf = true ∧ (Lit.int .i64 x.f1).wf = true) (z : Int) (hz : (Lit.int .u8 z).wf = true) :
    Calls Try.prog 10 #[.agg #[.int .i64 mk, .slice A st.length c], .slice Ae l.length ce, .int .u8 z] w fun e w' => e = .returned (.bool true) ∧ Below w.heap.size w w' := by
  have hu := Try.underlying24
  have hmax : l.length ≤ 9223372036854775807 := Kd.C_max hCE
  have hmax2 : st.length ≤ 9223372036854775807 := Kd.C_max hC
  have hz2 := wf_u8 hz
  have HB := Aside0.mk (below_alloc (Below.refl w.heap.size w) (.cells #[.int .i64 mk, .slice A st.length c] 24))
  by_cases hbig : l.length > 20000 ∨ st.length > 16384
  · have hb2 : (l.length : Int) > 20000 ∨ ((st.length : Int) > 16384 ∧ ¬ (l.length : Int) > 20000) := by omega
    clear hbig hC hCE hW hWE h2 hz hz2
    rcases hb2 with h | ⟨h, h'⟩
    · go_enter Try.func10, Try.ntmps10
      go_wp2_with (go_at_call 17; refine (awake_calls _).mono ?_; rintro e w9 ⟨rfl, hB9⟩; have HB9 := Aside0.mk (below_then HB.out HB.out.size hB9); clear hB9)
      go_ret
      exact ⟨rfl, HB9.out⟩
    · go_enter Try.func10, Try.ntmps10
      go_wp2_with (go_at_call 17; refine (awake_calls _).mono ?_; rintro e w9 ⟨rfl, hB9⟩; have HB9 := Aside0.mk (below_then HB.out HB.out.size hB9); clear hB9)
      go_ret
      exact ⟨rfl, HB9.out⟩
  · have h1 : ¬ (l.length : Int) > 20000 := by omega
    have h3 : ¬ (st.length : Int) > 16384 := by omega
    have hn : st.length ≤ 16384 := by omega
    obtain ⟨rb, rk, rs, re, hr⟩ : ∃ rb rk rs re, encodeR mk st l = (rb, rk, rs, re) := ⟨_, _, _, _, rfl⟩
    have HE : ∀ (W : World) (_ : Kd.C (Kd.int .i64) W A st.length st), Kd.C k47 W Ae l.length l → Aside0 (Calls Try.prog 19 #[.agg #[.int .i64 mk, .slice A st.length c], .slice Ae l.length ce] W (EncodePost W (rb, rk, rs, re))) := fun W h h' => ⟨by have := encode_calls A c mk st Ae ce l W h hl h' hle; rw [hr] at this; exact this⟩
    have HRR := Aside0.mk hr
    have HLB := Aside0.mk (show rb.length ≤ 80004 by have h := encode_len mk st l; rw [hr] at h; exact Nat.le_trans h (by omega))
    obtain ⟨b2, hsb2⟩ : ∃ x, w.heap.size = x := ⟨_, rfl⟩
    obtain ⟨W0, hsW0⟩ : ∃ x, w.alloc (.cells #[.int .i64 mk, .slice A st.length c] 24) = x := ⟨_, rfl⟩
    have HZ2 := Aside0.mk (show W0.heap[b2]? = some (.cells #[.int .i64 mk, .slice A st.length c] 24 (0, 0)) from hsW0 ▸ hsb2 ▸ heap_new w _)
    have HC := Aside0.mk (show Kd.C (Kd.int .i64) W0 A st.length st from hsW0 ▸ Kd.C_below hC (below_alloc (Below.refl _ _) _))
    have HCE := Aside0.mk (show Kd.C k47 W0 Ae l.length l from hsW0 ▸ Kd.C_below hCE (below_alloc (Below.refl _ _) _))
    have HB := Aside0.mk (show Below w.heap.size w W0 from hsW0 ▸ HB.out)
    clear hbig hC hCE hW hWE h2 hr hz
    obtain ⟨m9, rfl⟩ : ∃ m : Nat, z = (m : Int) := ⟨z.toNat, by omega⟩
    have hm9 : m9 ≤ 255 := by omega
    go_enter Try.func10, Try.ntmps10
    have kHZ2_0 : W0.cell? ⟨b2, 0, none⟩ = some (.int .i64 mk) := (blk_cell HZ2.out 0).trans rfl
    have kHZ2_1 : W0.cell? ⟨b2, 1, none⟩ = some (.slice A st.length c) := (blk_cell HZ2.out 1).trans rfl
    go_wp2_with (fail)
    refine ((HE _ HC.out HCE.out).out).mono ?_
    rintro e q1 ⟨A6, c6, A7, c7, rfl, hR6, hR7, hB⟩
    clear hsW0 hsb2 kHZ2_0 kHZ2_1
    have HZ2 := Aside0.mk (blk_below HZ2.out hB)
    have HC := Aside0.mk (Kd.C_below HC.out hB)
    have HCE := Aside0.mk (Kd.C_below HCE.out hB)
    have HB := Aside0.mk (below_then HB.out HB.out.size hB)
    clear hB
    have HCB := Aside0.mk (Kd.R_reads' hR6).2.2
    have HCR := Aside0.mk (Kd.R_reads' hR7).2.2
    have hc6 := (Kd.R_reads' hR6).2.1
    have hc7 := (Kd.R_reads' hR7).2.1
    clear hR6 hR7
    obtain ⟨b8, hsb8⟩ : ∃ x_, q1.heap.size = x_ := ⟨_, rfl⟩
    obtain ⟨q2, hsq2⟩ : ∃ x_, q1.alloc (.cells #[.int .i64 rk, .slice A7 rs.length c7] 24) = x_ := ⟨_, rfl⟩
    have hB : Below q1.heap.size q1 q2 := hsq2 ▸ below_alloc (Below.refl _ _) _
    have HN := Aside0.mk (show q2.heap[b8]? = some (.cells #[.int .i64 rk, .slice A7 rs.length c7] 24 (0, 0)) from hsq2 ▸ hsb8 ▸ heap_new q1 _)
    have HZ2 := Aside0.mk (blk_below HZ2.out hB)
    have HC := Aside0.mk (Kd.C_below HC.out hB)
    have HCE := Aside0.mk (Kd.C_below HCE.out hB)
    have HCB := Aside0.mk (Kd.C_below HCB.out hB)
    have HCR := Aside0.mk (Kd.C_below HCR.out hB)
    have HB := Aside0.mk (below_then HB.out HB.out.size hB)
    have HZ8 := HN
    clear HN hB
    by_cases her : re = 0
    · subst her
      have HEV := Aside0.mk (show ∀ x ∈ l, x.f1 = 0 ∨ x.f1 = 1 from ev_good HRR.out)
      have kHZ2_0 : q2.cell? ⟨b2, 0, none⟩ = some (.int .i64 mk) := (blk_cell HZ2.out 0).trans rfl
      have kHZ2_1 : q2.cell? ⟨b2, 1, none⟩ = some (.slice A st.length c) := (blk_cell HZ2.out 1).trans rfl
      have kHZ8_0 : q2.cell? ⟨b8, 0, none⟩ = some (.int .i64 rk) := (blk_cell HZ8.out 0).trans rfl
      have kHZ8_1 : q2.cell? ⟨b8, 1, none⟩ = some (.slice A7 rs.length c7) := (blk_cell HZ8.out 1).trans rfl
      go_wp2_with (fail)
      refine (split_calls Ae ce l _ HCE.out hle (by omega) HEV.out).mono ?_
      rintro e r1 ⟨A10, c10, A11, c11, rfl, hR10, hR11, hB⟩
      clear hsb8 hsq2 kHZ2_0 kHZ2_1 kHZ8_0 kHZ8_1
      have HZ2 := Aside0.mk (blk_below HZ2.out hB)
      have HZ8 := Aside0.mk (blk_below HZ8.out hB)
      have HC := Aside0.mk (Kd.C_below HC.out hB)
      have HCE := Aside0.mk (Kd.C_below HCE.out hB)
      have HCB := Aside0.mk (Kd.C_below HCB.out hB)
      have HCR := Aside0.mk (Kd.C_below HCR.out hB)
      have HB := Aside0.mk (below_then HB.out HB.out.size hB)
      clear hB
      have HCX := Aside0.mk (Kd.R_reads' hR10).2.2
      have HCT := Aside0.mk (Kd.R_reads' hR11).2.2
      have hc10 := (Kd.R_reads' hR10).2.1
      have hc11 := (Kd.R_reads' hR11).2.1
      clear hR10 hR11
      go_wp2
      obtain ⟨b51, hs51⟩ : ∃ x, r1.heap.size = x := ⟨_, rfl⟩
      obtain ⟨w1, hw1⟩ : ∃ x, r1.alloc (.cells #[.int .i64 0, .int .i64 m9] 3) = x := ⟨_, rfl⟩
      have hB : Below r1.heap.size r1 w1 := hw1 ▸ below_alloc (Below.refl _ _) _
      have HZ51 := Aside0.mk (show w1.heap[b51]? = some (.cells #[.int .i64 0, .int .i64 m9] 3 (0, 0)) from hw1 ▸ hs51 ▸ heap_new _ _)
      have HZ2 := Aside0.mk (blk_below HZ2.out hB)
      have HZ8 := Aside0.mk (blk_below HZ8.out hB)
      have HC := Aside0.mk (Kd.C_below HC.out hB)
      have HCE := Aside0.mk (Kd.C_below HCE.out hB)
      have HCB := Aside0.mk (Kd.C_below HCB.out hB)
      have HCR := Aside0.mk (Kd.C_below HCR.out hB)
      have HCX := Aside0.mk (Kd.C_below HCX.out hB)
      have HCT := Aside0.mk (Kd.C_below HCT.out hB)
      have HB := Aside0.mk (below_then HB.out HB.out.size hB)
      rw [hs51, hw1]
      clear hB hs51 hw1
      go_loopw [53] (fun i wr => ∃ (k : Nat), k ≤ 2 ∧ i = .int .i64 k ∧ Aside0 (Below w1.heap.size w1 wr)) (fun i _ => 3 - (intOf i).toNat)
      case atStart => exact ⟨0, by omega, rfl, ⟨Below.refl _ _⟩⟩
      case round =>
        obtain ⟨k, hk, rfl, HBL⟩ := hrel
        by_cases hlt : k < 2
        · have hx : ∃ m : Nat, wr.cell? ⟨b51, k, none⟩ = some (.int .i64 m) ∧ m ≤ 255 := by
            have h51 := blk_below HZ51.out HBL.out
            rcases (show k = 0 ∨ k = 1 by omega) with rfl | rfl
            · exact ⟨0, (blk_cell h51 0).trans rfl, by omega⟩
            · exact ⟨m9, (blk_cell h51 1).trans rfl, hm9⟩
          obtain ⟨m, hx, hm⟩ := hx
          have HZ2 := Aside0.mk (blk_below HZ2.out HBL.out)
          have HZ8 := Aside0.mk (blk_below HZ8.out HBL.out)
          have HC := Aside0.mk (Kd.C_below HC.out HBL.out)
          have HCE := Aside0.mk (Kd.C_below HCE.out HBL.out)
          have HCB := Aside0.mk (Kd.C_below HCB.out HBL.out)
          have HCR := Aside0.mk (Kd.C_below HCR.out HBL.out)
          have HCX := Aside0.mk (Kd.C_below HCX.out HBL.out)
          have HCT := Aside0.mk (Kd.C_below HCT.out HBL.out)
          have HB := Aside0.mk (below_then HB.out HB.out.size HBL.out)
          have HBY : Aside0 (Bytes (rb ++ List.replicate m 0)) := ⟨bytes_zeros (by have h := encode_bytes mk st l; rw [HRR.out] at h; exact h) m⟩
          obtain ⟨nb, hn0, hn4, hde⟩ := decode_encode mk st l rb rk rs HRR.out m HBY.out
          have HDE := Aside0.mk hde
          have hrbl : rb.length ≤ 80004 := HLB.out
          have HR1 : Aside0 (Kd.R (Kd.int .u8) 5 (wr.alloc (.cells #[] 5)) wr.heap.size (fun _ => True) (.slice (some ⟨wr.heap.size, 0, none⟩) 0 0) []) := ⟨Kd.R_of_own (enc := Value.int .u8) (World.ownsRow_lit wr #[] 0 (Nat.le_refl _) (by decide) rfl) (fun _ _ => trivial)⟩
          have HB1 := Aside0.mk (below_alloc (Below.refl wr.heap.size wr) (.cells #[] 5))
          have HCB1 := Aside0.mk (Kd.C_below HCB.out HB1.out)
          clear hde
          go_wp2_with (first
            | (at_builtin; refine Kd.R_append_rows (Kd.int .u8) (w0 := wr) wr.heap.size (by rfl) (.tmp 57) (.tmp 58) 34 5 (.int .u8 0) 1 rfl Try.underlying34 infoU8 rfl (by decide) (by omega) (.slice (some ⟨wr.heap.size, 0, none⟩) 0 0) [] rb _ _ _ (fun _ => True) (fun _ => False) rfl rfl HR1.out HCB1.out (fun _ _ h => h) (fun _ h => h.elim) (fun _ _ => trivial) HB1.out HB1.out.size (by simp only [List.length_nil]; omega) ?_; intro v3 w3 hR3 hB3 hg3 hat3; rw [List.nil_append] at hR3; obtain ⟨A3, c3, hv3⟩ := Kd.R_slice hR3; subst hv3; have HR3 := Aside0.mk hR3; have HB3 := Aside0.mk hB3; clear hR3 hB3 hg3 hat3)
            | (at_builtin; refine Kd.R_append_zeros (Kd.int .u8) (w0 := wr) wr.heap.size (by rfl) (.tmp 59) (.tmp 60) 34 3 5 (.int .u8 0) 1 rfl Try.underlying34 Try.underlying3 infoU8 rfl (by decide) (by omega) (.slice A3 rb.length c3) rb 0 (m : Int) (fun _ => True) rfl rfl rfl (fun _ _ => trivial) HR3.out (by omega) HB3.out HB3.out.size (by rw [Int.toNat_natCast]; omega) ?_; intro v4 w4 hR4 hB4 hg4 hat4; rw [Int.toNat_natCast] at hR4; obtain ⟨A4, c4, hv4⟩ := Kd.R_slice hR4; subst hv4; have HCN := Aside0.mk (Kd.R_reads' hR4).2.2; have hc4 := (Kd.R_reads' hR4).2.1; have HB4 := Aside0.mk hB4; have k40 : w4.cell? ⟨b2, 0, none⟩ = some (.int .i64 mk) := (blk_cell (blk_below HZ2.out hB4) 0).trans rfl; have k41 : w4.cell? ⟨b2, 1, none⟩ = some (.slice A st.length c) := (blk_cell (blk_below HZ2.out hB4) 1).trans rfl; clear hR4 hB4 hg4 hat4))
          have HZ2 := Aside0.mk (blk_below HZ2.out HB4.out)
          have HZ8 := Aside0.mk (blk_below HZ8.out HB4.out)
          have HC := Aside0.mk (Kd.C_below HC.out HB4.out)
          have HCE := Aside0.mk (Kd.C_below HCE.out HB4.out)
          have HCB := Aside0.mk (Kd.C_below HCB.out HB4.out)
          have HCR := Aside0.mk (Kd.C_below HCR.out HB4.out)
          have HCX := Aside0.mk (Kd.C_below HCX.out HB4.out)
          have HCT := Aside0.mk (Kd.C_below HCT.out HB4.out)
          have HBL := Aside0.mk (below_go HBL.out HB4.out)
          have HB := Aside0.mk (below_then HB.out HB.out.size HB4.out)
          have hdd := decode_calls A c mk st A4 c4 (rb ++ List.replicate m 0) A10 c10 (l.map (·.f0)) w4 HC.out hl HCN.out hc4 HCX.out hc10 HBY.out (by have := HLB.out; rw [List.length_append, List.length_replicate]; omega)
          rw [HDE.out, List.length_append, List.length_replicate, List.length_map] at hdd
          have HDD := Aside0.mk hdd
          clear HR1 HB1 HCB1 HR3 HB3 hx hdd
          refine (HDD.out).mono ?_
          rintro e s1 hD
          obtain ⟨A15, c15, A16, c16, he, hR15, hR16, hB⟩ := hD
          subst he
          clear HB4 k40 k41
          have HZ2 := Aside0.mk (blk_below HZ2.out hB)
          have HZ8 := Aside0.mk (blk_below HZ8.out hB)
          have HC := Aside0.mk (Kd.C_below HC.out hB)
          have HCE := Aside0.mk (Kd.C_below HCE.out hB)
          have HCB := Aside0.mk (Kd.C_below HCB.out hB)
          have HCR := Aside0.mk (Kd.C_below HCR.out hB)
          have HCX := Aside0.mk (Kd.C_below HCX.out hB)
          have HCT := Aside0.mk (Kd.C_below HCT.out hB)
          have HBL := Aside0.mk (below_go HBL.out hB)
          have HB := Aside0.mk (below_then HB.out HB.out.size hB)
          clear hB
          have HC15 := Aside0.mk (Kd.R_reads' hR15).2.2
          have HC16 := Aside0.mk (Kd.R_reads' hR16).2.2
          have hc15 := (Kd.R_reads' hR15).2.1
          have hc16 := (Kd.R_reads' hR16).2.1
          clear hR15 hR16
          obtain ⟨b16, hsb16⟩ : ∃ x_, s1.heap.size = x_ := ⟨_, rfl⟩
          obtain ⟨s2, hss2⟩ : ∃ x_, s1.alloc (.cells #[.int .i64 rk, .slice A16 rs.length c16] 24) = x_ := ⟨_, rfl⟩
          have hB : Below s1.heap.size s1 s2 := hss2 ▸ below_alloc (Below.refl _ _) _
          have HN := Aside0.mk (show s2.heap[b16]? = some (.cells #[.int .i64 rk, .slice A16 rs.length c16] 24 (0, 0)) from hss2 ▸ hsb16 ▸ heap_new s1 _)
          have HZ2 := Aside0.mk (blk_below HZ2.out hB)
          have HZ8 := Aside0.mk (blk_below HZ8.out hB)
          have HC := Aside0.mk (Kd.C_below HC.out hB)
          have HCE := Aside0.mk (Kd.C_below HCE.out hB)
          have HCB := Aside0.mk (Kd.C_below HCB.out hB)
          have HCR := Aside0.mk (Kd.C_below HCR.out hB)
          have HCX := Aside0.mk (Kd.C_below HCX.out hB)
          have HCT := Aside0.mk (Kd.C_below HCT.out hB)
          have HBL := Aside0.mk (below_go HBL.out hB)
          have HC15 := Aside0.mk (Kd.C_below HC15.out hB)
          have HC16 := Aside0.mk (Kd.C_below HC16.out hB)
          have HB := Aside0.mk (below_then HB.out HB.out.size hB)
          have HZ16 := HN
          clear HN hB
          have kHZ2_0 : s2.cell? ⟨b2, 0, none⟩ = some (.int .i64 mk) := (blk_cell HZ2.out 0).trans rfl
          have kHZ2_1 : s2.cell? ⟨b2, 1, none⟩ = some (.slice A st.length c) := (blk_cell HZ2.out 1).trans rfl
          have kHZ8_0 : s2.cell? ⟨b8, 0, none⟩ = some (.int .i64 rk) := (blk_cell HZ8.out 0).trans rfl
          have kHZ8_1 : s2.cell? ⟨b8, 1, none⟩ = some (.slice A7 rs.length c7) := (blk_cell HZ8.out 1).trans rfl
          have kHZ16_0 : s2.cell? ⟨b16, 0, none⟩ = some (.int .i64 rk) := (blk_cell HZ16.out 0).trans rfl
          have kHZ16_1 : s2.cell? ⟨b16, 1, none⟩ = some (.slice A16 rs.length c16) := (blk_cell HZ16.out 1).trans rfl
          go_wp2_with (fail)
          refine (bytes_true A15 c15 A11 c11 (l.map (·.f1)) _ _ _ (by simp) (by simp) HC15.out hc15 HCT.out hc11).mono ?_
          rintro e s3 ⟨rfl, hB⟩
          have hB := hB.below
          clear hsb16 hss2 kHZ16_0 kHZ16_1 kHZ2_0 kHZ2_1 kHZ8_0 kHZ8_1
          have HZ2 := Aside0.mk (blk_below HZ2.out hB)
          have HZ8 := Aside0.mk (blk_below HZ8.out hB)
          have HZ16 := Aside0.mk (blk_below HZ16.out hB)
          have HC := Aside0.mk (Kd.C_below HC.out hB)
          have HCE := Aside0.mk (Kd.C_below HCE.out hB)
          have HCB := Aside0.mk (Kd.C_below HCB.out hB)
          have HCR := Aside0.mk (Kd.C_below HCR.out hB)
          have HCX := Aside0.mk (Kd.C_below HCX.out hB)
          have HCT := Aside0.mk (Kd.C_below HCT.out hB)
          have HBL := Aside0.mk (below_go HBL.out hB)
          have HC15 := Aside0.mk (Kd.C_below HC15.out hB)
          have HC16 := Aside0.mk (Kd.C_below HC16.out hB)
          have HB := Aside0.mk (below_then HB.out HB.out.size hB)
          clear hB
          have kHZ2_0 : s3.cell? ⟨b2, 0, none⟩ = some (.int .i64 mk) := (blk_cell HZ2.out 0).trans rfl
          have kHZ2_1 : s3.cell? ⟨b2, 1, none⟩ = some (.slice A st.length c) := (blk_cell HZ2.out 1).trans rfl
          have kHZ8_0 : s3.cell? ⟨b8, 0, none⟩ = some (.int .i64 rk) := (blk_cell HZ8.out 0).trans rfl
          have kHZ8_1 : s3.cell? ⟨b8, 1, none⟩ = some (.slice A7 rs.length c7) := (blk_cell HZ8.out 1).trans rfl
          have kHZ16_0 : s3.cell? ⟨b16, 0, none⟩ = some (.int .i64 rk) := (blk_cell HZ16.out 0).trans rfl
          have kHZ16_1 : s3.cell? ⟨b16, 1, none⟩ = some (.slice A16 rs.length c16) := (blk_cell HZ16.out 1).trans rfl
          go_wp2_with (fail)
          refine (same_true A16 c16 A7 c7 rk rs _ _ _ rfl rfl HC16.out hc16 HCR.out hc7).mono ?_
          rintro e s4 ⟨rfl, hB⟩
          clear kHZ16_0 kHZ16_1 kHZ2_0 kHZ2_1 kHZ8_0 kHZ8_1
          have HZ2 := Aside0.mk (blk_below HZ2.out hB)
          have HZ8 := Aside0.mk (blk_below HZ8.out hB)
          have HZ16 := Aside0.mk (blk_below HZ16.out hB)
          have HC := Aside0.mk (Kd.C_below HC.out hB)
          have HCE := Aside0.mk (Kd.C_below HCE.out hB)
          have HCB := Aside0.mk (Kd.C_below HCB.out hB)
          have HCR := Aside0.mk (Kd.C_below HCR.out hB)
          have HCX := Aside0.mk (Kd.C_below HCX.out hB)
          have HCT := Aside0.mk (Kd.C_below HCT.out hB)
          have HBL := Aside0.mk (below_go HBL.out hB)
          have HC15 := Aside0.mk (Kd.C_below HC15.out hB)
          have HC16 := Aside0.mk (Kd.C_below HC16.out hB)
          have HB := Aside0.mk (below_then HB.out HB.out.size hB)
          clear hB
          go_wp2
          go_roundw
          case rel => exact ⟨k + 1, by omega, by go_num, HBL⟩
          case measure => simp [intOf]; omega
        · have HB := Aside0.mk (below_then HB.out HB.out.size HBL.out)
          go_wp2_with (go_at_call 17; refine (awake_calls _).mono ?_; rintro e w9 ⟨rfl, hB9⟩; have HB9 := Aside0.mk (below_then HB.out HB.out.size hB9); clear hB9)
          go_ret
          exact ⟨rfl, HB9.out⟩
    · have hb0 : rb = [] := by
        have h := encode_err mk st l (by rw [HRR.out]; exact her)
        rw [HRR.out] at h
        exact h
      subst hb0
      go_wp2_with (go_at_call 17; refine (awake_calls _).mono ?_; rintro e w9 ⟨rfl, hB9⟩; have HB9 := Aside0.mk (below_then HB.out HB.out.size hB9); clear hB9)
      go_ret
      exact ⟨rfl, HB9.out⟩
open Go.ChangeShapes Go.WideShapes Go.ChangeAt
open Go.ChangeMaps (open_string shut_string)
theorem own : ownKnob Try.prog.godebug = none := by kernel_rfl
theorem laidOut : laidOutB Try.prog = true := by kernel_rfl
def IsRow (k : IntKind) (w : World) (a : Option Addr) (len cap : Nat) (zs : List Int) : Prop :=
  (a = none ∧ len = 0 ∧ cap = 0 ∧ zs = []) ∨
  ∃ x, a = some x ∧ len ≤ cap ∧ cap ≤ maxLen ∧ zs.length = cap ∧ (∀ i, i < zs.length → w.cell? (x.add i) = some (.int k (zs.getD i 0))) ∧ ∀ n ∈ zs, (Lit.int k n).wf = true
set_option maxRecDepth 100000 in
theorem lifted (os : Os) (started : os.Started) (H : Type) (enc : TypeId × Value → H) :
    ReturnsInHanded {} Try.checked os 10 .any (Rows.coderBackSpec.pre6 enc Try.prog Try.f10 Rows.coderBackRow.domain false) (Rows.coderBackSpec.post enc Try.prog Try.f10 false true false false) := by
  refine returnsInHanded_of_change_sized (C := Try.checked) own started (by kernel_rfl) Try.func10
    (ChangeSpec.witness6 (enc := enc) (C := Try.checked) false ⟨#[], #[.agg #[.int .i64 0, .slice none 0 0], .slice none 0 0, .int .u8 0], []⟩ 8 (by kernel_rfl) (by kernel_rfl) (by kernel_rfl) (by kernel_rfl)) ?_
  intro W base args ds gs before hval0 hW hcnd hsz0 _
  have hsz : (DataW.weightsEach Try.prog (Try.f10.params.toList ++ Rows.coderBackSpec.plain.varTypes Try.prog) (ds ++ gs)).all (· ≤ reachBytes) = true := hsz0
  have hval : ∀ (j : Nat) t v, Try.f10.params[j]? = some t → args[j]? = some v → Value.okWide Try.prog W .any base t v := hval0
  have hW' := hW
  obtain ⟨p, q, hA0, hV, rfl, hfz, hnd⟩ := hW
  have hA : DataW.TrodAll enc Try.prog W 0 (fun _ => true) true Try.f10.params.toList args.toList ds p := hA0
  rw [Try.params10] at hA hval hsz
  obtain ⟨v0, vs0, d0, ds0, p0, q0, hargs, rfl, rfl, h0, r0⟩ := trodAll_cons hA
  obtain ⟨v1, vs1, d1, ds1, p1, q1, rfl, rfl, rfl, h1, r1⟩ := trodAll_cons r0
  obtain ⟨v2, vs2, d2, ds2, p2, q2, rfl, rfl, rfl, h2, r2⟩ := trodAll_cons r1
  obtain ⟨rfl, rfl, rfl⟩ := trodAll_nil r2
  obtain rfl : args = #[v0, v1, v2] := by cases args; simp_all
  obtain ⟨rfl, rfl⟩ := trodVars_none hV
  have k0 := h0
  have lt0 : ∀ x ∈ p0, x.block < W.heap.size := by obtain ⟨m, hm⟩ := k0; exact DataW.trod_lt m _ _ _ hm
  obtain ⟨cs0, rfl, csz0⟩ := okWide_struct Try.underlying24 (hval 0 24 v0 rfl rfl)
  obtain ⟨⟨x0_0, x0_1⟩, ⟨_, _, hcs0, rfl, ⟨A0_1, c0_1, rfl, l0_1, g0_1⟩⟩, ⟨w0_0, w0_1⟩⟩ := Opn.open_arg (N := 8) (fun n => ((o_struct (d := (Kd.pair (Kd.int .i64) (Kd.slice 3 (Kd.int .i64)))) Try.underlying24 (by kernel_rfl) (f_cons rfl (o_int Try.underlying3 (by kernel_rfl)) (f_one rfl (o_slice (B := 8) Try.underlying22 (by kernel_rfl) (o_int Try.underlying3 (by kernel_rfl)) (by kernel_rfl))))) : Opn.OpensTo Try.prog (n + 8) 24 _ _)) h0 hsz (j := 0) (t := 24) rfl rfl
  obtain rfl : cs0 = #[.int .i64 x0_0, .slice A0_1 x0_1.length c0_1] := by rw [← Array.toList_inj]; exact hcs0
  have k1 := h1
  have lt1 : ∀ x ∈ p1, x.block < W.heap.size := by obtain ⟨m, hm⟩ := k1; exact DataW.trod_lt m _ _ _ hm
  obtain ⟨a1, len1, cap1, rfl⟩ := okWide_slice Try.underlying32 (hval 1 32 v1 rfl rfl)
  obtain ⟨x1, ⟨A1, c1, hcs1, l1, g1⟩, w1⟩ := Opn.open_arg (N := 8) (fun n => ((o_slice (B := 16) Try.underlying32 (by kernel_rfl) (show OpensTo _ _ _ k47 _ from o_iso (f := (fun x : S47 => (x.f0, x.f1))) (fun a => ⟨a.1, a.2⟩) (fun _ => rfl) (o_struct (d := (Kd.pair (Kd.int .i64) (Kd.int .i64))) Try.underlying47 (by kernel_rfl) (f_cons rfl (o_int Try.underlying3 (by kernel_rfl)) (f_one rfl (o_int Try.underlying3 (by kernel_rfl)))))) (by kernel_rfl)) : Opn.OpensTo Try.prog (n + 8) 32 _ _)) h1 hsz (j := 1) (t := 32) rfl rfl
  simp only [Value.cells, List.cons.injEq, Value.slice.injEq, and_true] at hcs1
  obtain ⟨rfl, rfl, rfl⟩ := hcs1
  obtain ⟨a2, rfl, rfl, rfl, w2⟩ := open_int Try.underlying5 (hval 2 5 v2 rfl rfl) h2
  clear hA0 hval0 hsz0 hsz
  refine (walk W x0_0 w0_0 A0_1 c0_1 x0_1 l0_1 g0_1 w0_1 _ _ x1 l1 g1 w1 a2 w2).mono fun e W' ⟨he, bel⟩ => ?_
  subst he
  exact ⟨_, rfl, _, _, _, [], _, [], hW', trodAll_mk1 (shut_bool Try.underlying4 _), (trodAll_cons_mk (Below.trod laidOut (by kernel_rfl) (of_decide_eq_true (by kernel_rfl)) k0 bel lt0) (trodAll_cons_mk (Below.trod laidOut (by kernel_rfl) (of_decide_eq_true (by kernel_rfl)) k1 bel lt1) (trodAll_cons_mk (shut_int Try.underlying5 w2) trodAll_mk0))), rfl, bel.frame _, fun h => by cases h⟩
theorem over : Rows.coderBackRow.holds Try.pinned (OpenSpec.ofChange Rows.coderBackSpec) :=
  OpenClaim.holds_of_wide 10 Try.f10 rfl rfl rfl rfl rfl rfl rfl ⟨rfl, rfl, rfl, rfl, rfl⟩ rfl rfl rfl rfl rfl (by kernel_rfl) Try.func10 (by kernel_rfl)
    (of_decide_eq_true (by kernel_rfl)) (by unfold Func.isWrapper; first | (rw [if_pos (by decide +kernel)]; kernel_rfl) | (rw [if_neg (by decide +kernel)]; exact ⟨rfl, rfl⟩))
    (fun os started H enc _ => lifted os started H enc)
theorem proved : Rows.CoderBackSaid := over
#print axioms proved
end Go.Proofs.Ytpnmedmghncpiaa.HandCoderBack
namespace Go.Proofs.Ytpnmedmghncpiaa
/-- The row, under a short name, for the claim. -/
theorem coderBack_holds : Rows.CoderBackSaid := HandCoderBack.proved
end Go.Proofs.Ytpnmedmghncpiaa
