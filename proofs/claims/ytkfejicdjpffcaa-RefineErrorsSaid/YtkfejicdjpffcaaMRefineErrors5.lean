import Derived.Test.YtkfejicdjpffcaaMRefineErrors2
import Derived.Test.YtkfejicdjpffcaaMRefineErrors3
import Derived.Test.YtkfejicdjpffcaaMRefineErrors4
import Derived.Laws.ResultCell
import Derived.Test.YtkfejicdjpffcaaMRefineErrors1
import Derived.Test.YtkfejicdjpffcaaMRefineErrors0
set_option linter.unusedVariables false
set_option linter.unusedSimpArgs false
namespace Go.Proofs.Ytkfejicdjpffcaa.Rrw
open Go Go.RowKit YtkfejicdjpffcaaW PrintWords PrintLast PrintMore U Aid HandAid Cod1 Cod2 Cod3 Ytkfejicdjpffcaa.Mod NewRef Enc Mods EncAt Put End Snc Dec Get DecNew RefAt RDec RDecNew Isk Pse Rpx Rva Rfl Rcx Rty Rev Rdv
set_option maxHeartbeats 8000000 in
set_option maxRecDepth 100000 in
theorem rrow_calls (w0 V : World) (S T : Nat → Prop) (B gd gr : Nat) (s : DS) (base t dx dy : Int) (ty : Bool) (kd W H : Int) (AB : Option Addr) (nB cB : Nat) (P : List Int) (RW RH : Int) (AR : Option Addr) (cR : Nat) (RP : List Int) (y : Nat)
 (hZ : ∀ V, Mods w0 V (fun k => S k ∨ T k) → V.heap[gr]? = some (.cells (regc t dx dy ty kd W H (.slice AB nB cB) RW RH (.slice AR RP.length cR)) 109 (0, 0)))
 (hA : ∀ V, Mods w0 V (fun k => S k ∨ T k) → Kd.C (Kd.int .u8) V AR RP.length RP) (hcR : RP.length ≤ cR) (hS : ∀ k, S k → k < w0.heap.size) (hST : ∀ k, T k → ¬ S k)
 (hX : GX DecAt w0 S T B gd s (.slice AB nB cB) P V) (hL : P.length = nB) (hb : Bm W H P) (hbr : Bm RW RH RP) (ht : t = 0 ∨ t = 1) (hdx : -200 ≤ dx ∧ dx ≤ 200) (hdy : -200 ≤ dy ∧ dy ≤ 200) (hbase : 0 ≤ base ∧ base ≤ 8192) (hyH : (y : Int) < H) (q : RQ) (hq : q = ⟨t, dx, dy, ty, W, H, RW, RH, RP, base⟩) (R : DS × List Int × Int) (hR : rowH q (y : Int) s P = R) :
 Calls Try.prog 82 #[.pointer (some ⟨gr, 0, none⟩), .pointer (some ⟨gd, 0, none⟩), .int .i64 base, .int .i64 (y : Int)] V fun e V' => e = .returned (.int .i64 R.2.2) ∧ GX DecAt w0 S T B gd R.1 (.slice AB nB cB) R.2.1 V' := by
 have HZ := Za hZ
 have HS := Za hS
 have HST := Za hST
 have HX0 := Za hX
 have HL0 := Za hL
 have HBM0 := Za hb
 have HBM := Za hb
 have HBR := Za hbr
 have HT := Za ht
 have HREG := Za (show ∀ V (s2 : DS) P2, GX DecAt w0 S T B gd s2 (.slice AB nB cB) P2 V → P2.length = nB → Bm W H P2 → Reg V gr t dx dy ty kd W H AB cB P2 RW RH AR cR RP from fun V s2 P2 hG hl hb2 => by
  subst hl
  exact ⟨hZ V hG.m, (Kd.R_reads' hG.p).2.2, (Kd.R_reads' hG.p).2.1, hA V hG.m, hcR, hb2, hbr, ht, by omega, by omega⟩)
 have HQF := Za (show ∀ x y, q.flat x y = flatP RW RH RP (x - dx) (y - dy) from fun x y => by rw [hq]; rfl)
 have HQC := Za (show ∀ P2 x y, q.base + q.ctx P2 x y = base + ctxP t dx dy W H P2 RW RH RP x y from fun P2 x y => by rw [hq]; rfl)
 have HQI := Za (show ∀ x y : Int, (y * q.W + x).toNat = (y * W + x).toNat from fun x y => by rw [hq])
 have hq1 : q.ty = ty := by rw [hq]
 have hq2 : q.W = W := by rw [hq]
 have hq3 : q.base + ctxs q.t = base + ctxs t := by rw [hq]
 unfold rowH at hR
 rw [hq1, hq2, hq3] at hR
 have hu1 := Try.underlying109
 have hu2 := Try.underlying107
 have hu3 := Try.underlying23
 have hcx := ctxs_range t
 have hyb : (y : Int) ≤ 200 := by have := hb.h; omega
 have z0 : V.cell? ⟨gr, 0, none⟩ = some (.int .i64 t) := (Zc (hZ V hX.m) 0).trans rfl
 have z3 : V.cell? ⟨gr, 3, none⟩ = some (.bool ty) := (Zc (hZ V hX.m) 3).trans rfl
 have z5 : V.cell? ⟨gr, 5, none⟩ = some (.int .i64 W) := (Zc (hZ V hX.m) 5).trans rfl
 clear hZ hA hS hST hX hL hb hbr ht hq hq1 hq2 hq3
 cases ty
 · rw [if_neg (by decide)] at hR
   have HR := Za (show rowD q (y : Int) 0 (W.toNat - 0) 0 s P = R from hR)
   clear hR
   go_enter Try.func82, Try.ntmps82
   go_wp2_with (fail)
   clear z0 z3 z5
   have hw := HBM.out.w
   have hh := HBM.out.h
   clear HBM
   go_loopw [45] (fun i wr => ∃ (m : Nat) (s2 : DS) (P2 : List Int), m ≤ W.toNat ∧ i = .int .i64 m ∧ Aside0 (rowD q (y : Int) 0 (W.toNat - m) m s2 P2 = R) ∧ Aside0 (P2.length = nB) ∧ Aside0 (Bm W H P2) ∧ Aside0 (GX DecAt w0 S T B gd s2 (.slice AB nB cB) P2 wr)) (fun i _ => W.toNat - (intOf i).toNat)
   case atStart => exact ⟨0, _, _, Nat.zero_le _, rfl, HR, HL0, HBM0, HX0⟩
   clear HR HL0 HBM0 HX0
   case round =>
    obtain ⟨m, s2, P2, hm, rfl, HX, HL, HBM2, HQ⟩ := hrel
    by_cases hltm : m < W.toNat
    · have hltm2 : (m : Int) < W := by omega
      have hat := HBM2.out.at_ (x := (m : Int)) (y := (y : Int)) (by omega) (by omega) hltm2 hyH
      obtain ⟨yw, hyw⟩ : ∃ z, (y : Int) * W = z := ⟨_, rfl⟩
      rw [hyw] at hat
      obtain ⟨ix, hix⟩ : ∃ ix : Nat, yw + (m : Int) = ix := ⟨(yw + m).toNat, by omega⟩
      rw [hix] at hat
      have hixl : ix < P2.length := by omega
      have hyw0 : 0 ≤ yw ∧ yw ≤ 40000 := ⟨hat.1, hat.2.1⟩
      have hix0 : (ix : Int) ≤ 9223372036854775807 := by omega
      have hixn : ix < nB := by have := HL.out; omega
      have hixn2 : (ix : Int) < nB := by omega
      obtain ⟨gp, cP, hv, hT, hgl⟩ := HQ.out.form (by omega)
      injection hv with hv1 hv2 hv3
      subst hv1 hv3
      have HTG := Za hT
      have c5 : wr.cell? ⟨gr, 5, none⟩ = some (.int .i64 W) := (Zc (HZ.out _ HQ.out.m) 5).trans rfl
      clear hv2 hT hgl hat
      go_wp2_with (fail)
      clear c5
      refine ((HREG.out _ s2 _ HQ.out HL.out HBM2.out).flat (m : Int) (y : Int) (by omega) (by omega)).mono ?_
      rintro e X0 ⟨rfl, hb⟩
      have HQ := Za (HQ.out.below hb)
      clear hb
      have hfp := flatP_01 HBR.out ((m : Int) - dx) ((y : Int) - dy)
      obtain ⟨⟨fc, is⟩, hF⟩ : ∃ r, flatP RW RH RP ((m : Int) - dx) ((y : Int) - dy) = r := ⟨_, rfl⟩
      rw [hF] at hfp ⊢
      have HF := Za (show q.flat (m : Int) (y : Int) = (fc, is) by rw [HQF.out, hF])
      clear hF
      simp only at hfp ⊢
      have hX := HX.out
      rw [show W.toNat - m = (W.toNat - (m + 1)) + 1 by omega] at hX
      unfold rowD at hX
      rw [if_neg (show ¬ ((0 : Int) = 1 ∧ (q.flat (m : Int) (y : Int)).2 = true) by simp), HQC.out, HQI.out, hyw, hix, Int.toNat_natCast] at hX
      have hcr := ctxP_range HBM2.out HBR.out t dx dy (m : Int) (y : Int) HT.out
      obtain ⟨⟨s3, bt, er⟩, hg⟩ : ∃ r, s2.getI (base + ctxP t dx dy W H P2 RW RH RP (m : Int) (y : Int)) = r := ⟨_, rfl⟩
      have hbt : 0 ≤ bt ∧ bt ≤ 1 := by have := bit_range s2 (base + ctxP t dx dy W H P2 RW RH RP (m : Int) (y : Int)); rw [hg] at this; exact this
      rw [hg] at hX
      simp only at hX
      have HG := Za hg
      have HX2 := Za hX
      clear hX hg
      go_wp2_with (fail)
      refine ((HREG.out _ s2 _ HQ.out HL.out HBM2.out).context (m : Int) (y : Int) (by omega) (by omega)).mono ?_
      rintro e X1 ⟨rfl, hb⟩
      have HQ := Za (HQ.out.below hb)
      clear hb
      go_wp2_with (fail)
      refine (HQ.out.get HS.out HST.out (base + ctxP t dx dy W H P2 RW RH RP (m : Int) (y : Int)) (by first | rfl | (rw [wrap_id] <;> omega))).mono ?_
      rintro e X2 ⟨rfl, hq⟩
      rw [HG.out] at hq ⊢
      simp only at hq ⊢
      have HQ := Za hq
      clear hq HG hcr
      have hX := HX2.out
      clear HX2
      by_cases her : er = 0
      · rw [if_pos her] at hX
        have e1 : (er != 0) = false := by simp [her]
        have HX2 := Za hX
        clear hX her
        have c7 : X2.cell? ⟨gr, 7, none⟩ = some (.slice (some ⟨gp, 0, none⟩) nB cB) := (Zc (HZ.out _ HQ.out.m) 7).trans rfl
        have hce := HQ.out.cell HL.out.symm ix hixl
        have hfz := hce.2
        have hcv := hce.1
        clear hce
        go_wp2_with (fail)
        refine ⟨⟨m + 1, s3, P2.set ix bt, by omega, by go_num, HX2, ⟨by rw [List.length_set]; exact HL.out⟩, ⟨bm_set HBM2.out _ (by omega)⟩, ⟨?_⟩⟩, by simp [intOf]; omega⟩
        have hf := HQ.out.set HL.out.symm HST.out HTG.out ix bt
        first | exact hf | (rw [show bt % 256 = bt by omega]; exact hf) | (rw [show IntKind.wrap .u8 bt = bt by simp [IntKind.wrap, IntKind.bits, IntKind.signed]; omega]; exact hf)
      · rw [if_neg her] at hX
        have e1 : (er != 0) = true := bne_iff_ne.mpr her
        subst hX
        clear her
        go_wp2_with (fail)
        go_ret
        exact ⟨rfl, HQ.out⟩
    · have hX := HX.out
      rw [show W.toNat - m = 0 by omega] at hX
      simp only [rowD] at hX
      subst hX
      go_wp2_with (fail)
      go_ret
      exact ⟨rfl, HQ.out⟩
 · rw [if_pos rfl] at hR
   obtain ⟨⟨s1, bh, er1⟩, hg⟩ : ∃ r, s.getI (base + ctxs t) = r := ⟨_, rfl⟩
   have hbh : 0 ≤ bh ∧ bh ≤ 1 := by have := bit_range s (base + ctxs t); rw [hg] at this; exact this
   rw [hg] at hR
   simp only at hR
   have HG1 := Za hg
   have HR1 := Za hR
   clear hg hR
   go_enter Try.func82, Try.ntmps82
   go_wp2_with (fail)
   refine (refine_contexts.calls t (ctxs t) _ (contexts_eq t)).mono ?_
   rintro e V1 ⟨rfl, hb⟩
   have HX0 := Za (HX0.out.below hb)
   clear hb z0 z3 z5
   go_wp2_with (fail)
   refine (HX0.out.get HS.out HST.out (base + ctxs t) (by first | rfl | omega | (rw [wrap_id] <;> omega))).mono ?_
   rintro e V2 ⟨rfl, hx⟩
   rw [HG1.out] at hx ⊢
   simp only at hx ⊢
   have HX0 := Za hx
   have z5 : V2.cell? ⟨gr, 5, none⟩ = some (.int .i64 W) := (Zc (HZ.out _ hx.m) 5).trans rfl
   have hR := HR1.out
   clear hx HG1 HR1
   by_cases her : er1 = 0
   · rw [if_pos her] at hR
     have e1 : (er1 != 0) = false := by simp [her]
     clear her
     have h01 : bh = 0 ∨ bh = 1 := by omega
     rcases h01 with rfl | rfl
     · have HR := Za (show rowD q (y : Int) 0 (W.toNat - 0) 0 s1 P = R from hR)
       clear hR
       go_wp2_with (fail)
       clear z5
       have hw := HBM.out.w
       have hh := HBM.out.h
       clear HBM
       go_loopw [45] (fun i wr => ∃ (m : Nat) (s2 : DS) (P2 : List Int), m ≤ W.toNat ∧ i = .int .i64 m ∧ Aside0 (rowD q (y : Int) 0 (W.toNat - m) m s2 P2 = R) ∧ Aside0 (P2.length = nB) ∧ Aside0 (Bm W H P2) ∧ Aside0 (GX DecAt w0 S T B gd s2 (.slice AB nB cB) P2 wr)) (fun i _ => W.toNat - (intOf i).toNat)
       case atStart => exact ⟨0, _, _, Nat.zero_le _, rfl, HR, HL0, HBM0, HX0⟩
       clear HR HL0 HBM0 HX0
       case round =>
        obtain ⟨m, s2, P2, hm, rfl, HX, HL, HBM2, HQ⟩ := hrel
        by_cases hltm : m < W.toNat
        · have hltm2 : (m : Int) < W := by omega
          have hat := HBM2.out.at_ (x := (m : Int)) (y := (y : Int)) (by omega) (by omega) hltm2 hyH
          obtain ⟨yw, hyw⟩ : ∃ z, (y : Int) * W = z := ⟨_, rfl⟩
          rw [hyw] at hat
          obtain ⟨ix, hix⟩ : ∃ ix : Nat, yw + (m : Int) = ix := ⟨(yw + m).toNat, by omega⟩
          rw [hix] at hat
          have hixl : ix < P2.length := by omega
          have hyw0 : 0 ≤ yw ∧ yw ≤ 40000 := ⟨hat.1, hat.2.1⟩
          have hix0 : (ix : Int) ≤ 9223372036854775807 := by omega
          have hixn : ix < nB := by have := HL.out; omega
          have hixn2 : (ix : Int) < nB := by omega
          obtain ⟨gp, cP, hv, hT, hgl⟩ := HQ.out.form (by omega)
          injection hv with hv1 hv2 hv3
          subst hv1 hv3
          have HTG := Za hT
          have c5 : wr.cell? ⟨gr, 5, none⟩ = some (.int .i64 W) := (Zc (HZ.out _ HQ.out.m) 5).trans rfl
          clear hv2 hT hgl hat
          go_wp2_with (fail)
          clear c5
          refine ((HREG.out _ s2 _ HQ.out HL.out HBM2.out).flat (m : Int) (y : Int) (by omega) (by omega)).mono ?_
          rintro e X0 ⟨rfl, hb⟩
          have HQ := Za (HQ.out.below hb)
          clear hb
          have hfp := flatP_01 HBR.out ((m : Int) - dx) ((y : Int) - dy)
          obtain ⟨⟨fc, is⟩, hF⟩ : ∃ r, flatP RW RH RP ((m : Int) - dx) ((y : Int) - dy) = r := ⟨_, rfl⟩
          rw [hF] at hfp ⊢
          have HF := Za (show q.flat (m : Int) (y : Int) = (fc, is) by rw [HQF.out, hF])
          clear hF
          simp only at hfp ⊢
          have hX := HX.out
          rw [show W.toNat - m = (W.toNat - (m + 1)) + 1 by omega] at hX
          unfold rowD at hX
          rw [if_neg (show ¬ ((0 : Int) = 1 ∧ (q.flat (m : Int) (y : Int)).2 = true) by simp), HQC.out, HQI.out, hyw, hix, Int.toNat_natCast] at hX
          have hcr := ctxP_range HBM2.out HBR.out t dx dy (m : Int) (y : Int) HT.out
          obtain ⟨⟨s3, bt, er⟩, hg⟩ : ∃ r, s2.getI (base + ctxP t dx dy W H P2 RW RH RP (m : Int) (y : Int)) = r := ⟨_, rfl⟩
          have hbt : 0 ≤ bt ∧ bt ≤ 1 := by have := bit_range s2 (base + ctxP t dx dy W H P2 RW RH RP (m : Int) (y : Int)); rw [hg] at this; exact this
          rw [hg] at hX
          simp only at hX
          have HG := Za hg
          have HX2 := Za hX
          clear hX hg
          go_wp2_with (fail)
          refine ((HREG.out _ s2 _ HQ.out HL.out HBM2.out).context (m : Int) (y : Int) (by omega) (by omega)).mono ?_
          rintro e X1 ⟨rfl, hb⟩
          have HQ := Za (HQ.out.below hb)
          clear hb
          go_wp2_with (fail)
          refine (HQ.out.get HS.out HST.out (base + ctxP t dx dy W H P2 RW RH RP (m : Int) (y : Int)) (by first | rfl | (rw [wrap_id] <;> omega))).mono ?_
          rintro e X2 ⟨rfl, hq⟩
          rw [HG.out] at hq ⊢
          simp only at hq ⊢
          have HQ := Za hq
          clear hq HG hcr
          have hX := HX2.out
          clear HX2
          by_cases her : er = 0
          · rw [if_pos her] at hX
            have e1 : (er != 0) = false := by simp [her]
            have HX2 := Za hX
            clear hX her
            have c7 : X2.cell? ⟨gr, 7, none⟩ = some (.slice (some ⟨gp, 0, none⟩) nB cB) := (Zc (HZ.out _ HQ.out.m) 7).trans rfl
            have hce := HQ.out.cell HL.out.symm ix hixl
            have hfz := hce.2
            have hcv := hce.1
            clear hce
            go_wp2_with (fail)
            refine ⟨⟨m + 1, s3, P2.set ix bt, by omega, by go_num, HX2, ⟨by rw [List.length_set]; exact HL.out⟩, ⟨bm_set HBM2.out _ (by omega)⟩, ⟨?_⟩⟩, by simp [intOf]; omega⟩
            have hf := HQ.out.set HL.out.symm HST.out HTG.out ix bt
            first | exact hf | (rw [show bt % 256 = bt by omega]; exact hf) | (rw [show IntKind.wrap .u8 bt = bt by simp [IntKind.wrap, IntKind.bits, IntKind.signed]; omega]; exact hf)
          · rw [if_neg her] at hX
            have e1 : (er != 0) = true := bne_iff_ne.mpr her
            subst hX
            clear her
            go_wp2_with (fail)
            go_ret
            exact ⟨rfl, HQ.out⟩
        · have hX := HX.out
          rw [show W.toNat - m = 0 by omega] at hX
          simp only [rowD] at hX
          subst hX
          go_wp2_with (fail)
          go_ret
          exact ⟨rfl, HQ.out⟩
     · have HR := Za (show rowD q (y : Int) 1 (W.toNat - 0) 0 s1 P = R from hR)
       clear hR
       go_wp2_with (fail)
       clear z5
       have hw := HBM.out.w
       have hh := HBM.out.h
       clear HBM
       go_loopw [45] (fun i wr => ∃ (m : Nat) (s2 : DS) (P2 : List Int), m ≤ W.toNat ∧ i = .int .i64 m ∧ Aside0 (rowD q (y : Int) 1 (W.toNat - m) m s2 P2 = R) ∧ Aside0 (P2.length = nB) ∧ Aside0 (Bm W H P2) ∧ Aside0 (GX DecAt w0 S T B gd s2 (.slice AB nB cB) P2 wr)) (fun i _ => W.toNat - (intOf i).toNat)
       case atStart => exact ⟨0, _, _, Nat.zero_le _, rfl, HR, HL0, HBM0, HX0⟩
       clear HR HL0 HBM0 HX0
       case round =>
        obtain ⟨m, s2, P2, hm, rfl, HX, HL, HBM2, HQ⟩ := hrel
        by_cases hltm : m < W.toNat
        · have hltm2 : (m : Int) < W := by omega
          have hat := HBM2.out.at_ (x := (m : Int)) (y := (y : Int)) (by omega) (by omega) hltm2 hyH
          obtain ⟨yw, hyw⟩ : ∃ z, (y : Int) * W = z := ⟨_, rfl⟩
          rw [hyw] at hat
          obtain ⟨ix, hix⟩ : ∃ ix : Nat, yw + (m : Int) = ix := ⟨(yw + m).toNat, by omega⟩
          rw [hix] at hat
          have hixl : ix < P2.length := by omega
          have hyw0 : 0 ≤ yw ∧ yw ≤ 40000 := ⟨hat.1, hat.2.1⟩
          have hix0 : (ix : Int) ≤ 9223372036854775807 := by omega
          have hixn : ix < nB := by have := HL.out; omega
          have hixn2 : (ix : Int) < nB := by omega
          obtain ⟨gp, cP, hv, hT, hgl⟩ := HQ.out.form (by omega)
          injection hv with hv1 hv2 hv3
          subst hv1 hv3
          have HTG := Za hT
          have c5 : wr.cell? ⟨gr, 5, none⟩ = some (.int .i64 W) := (Zc (HZ.out _ HQ.out.m) 5).trans rfl
          clear hv2 hT hgl hat
          go_wp2_with (fail)
          clear c5
          refine ((HREG.out _ s2 _ HQ.out HL.out HBM2.out).flat (m : Int) (y : Int) (by omega) (by omega)).mono ?_
          rintro e X0 ⟨rfl, hb⟩
          have HQ := Za (HQ.out.below hb)
          clear hb
          have hfp := flatP_01 HBR.out ((m : Int) - dx) ((y : Int) - dy)
          obtain ⟨⟨fc, is⟩, hF⟩ : ∃ r, flatP RW RH RP ((m : Int) - dx) ((y : Int) - dy) = r := ⟨_, rfl⟩
          rw [hF] at hfp ⊢
          have HF := Za (show q.flat (m : Int) (y : Int) = (fc, is) by rw [HQF.out, hF])
          clear hF
          simp only at hfp ⊢
          cases is
          · have hX := HX.out
            rw [show W.toNat - m = (W.toNat - (m + 1)) + 1 by omega] at hX
            unfold rowD at hX
            rw [if_neg (show ¬ ((1 : Int) = 1 ∧ (q.flat (m : Int) (y : Int)).2 = true) by rw [HF.out]; simp), HQC.out, HQI.out, hyw, hix, Int.toNat_natCast] at hX
            have hcr := ctxP_range HBM2.out HBR.out t dx dy (m : Int) (y : Int) HT.out
            obtain ⟨⟨s3, bt, er⟩, hg⟩ : ∃ r, s2.getI (base + ctxP t dx dy W H P2 RW RH RP (m : Int) (y : Int)) = r := ⟨_, rfl⟩
            have hbt : 0 ≤ bt ∧ bt ≤ 1 := by have := bit_range s2 (base + ctxP t dx dy W H P2 RW RH RP (m : Int) (y : Int)); rw [hg] at this; exact this
            rw [hg] at hX
            simp only at hX
            have HG := Za hg
            have HX2 := Za hX
            clear hX hg
            go_wp2_with (fail)
            refine ((HREG.out _ s2 _ HQ.out HL.out HBM2.out).context (m : Int) (y : Int) (by omega) (by omega)).mono ?_
            rintro e X1 ⟨rfl, hb⟩
            have HQ := Za (HQ.out.below hb)
            clear hb
            go_wp2_with (fail)
            refine (HQ.out.get HS.out HST.out (base + ctxP t dx dy W H P2 RW RH RP (m : Int) (y : Int)) (by first | rfl | (rw [wrap_id] <;> omega))).mono ?_
            rintro e X2 ⟨rfl, hq⟩
            rw [HG.out] at hq ⊢
            simp only at hq ⊢
            have HQ := Za hq
            clear hq HG hcr
            have hX := HX2.out
            clear HX2
            by_cases her : er = 0
            · rw [if_pos her] at hX
              have e1 : (er != 0) = false := by simp [her]
              have HX2 := Za hX
              clear hX her
              have c7 : X2.cell? ⟨gr, 7, none⟩ = some (.slice (some ⟨gp, 0, none⟩) nB cB) := (Zc (HZ.out _ HQ.out.m) 7).trans rfl
              have hce := HQ.out.cell HL.out.symm ix hixl
              have hfz := hce.2
              have hcv := hce.1
              clear hce
              go_wp2_with (fail)
              refine ⟨⟨m + 1, s3, P2.set ix bt, by omega, by go_num, HX2, ⟨by rw [List.length_set]; exact HL.out⟩, ⟨bm_set HBM2.out _ (by omega)⟩, ⟨?_⟩⟩, by simp [intOf]; omega⟩
              have hf := HQ.out.set HL.out.symm HST.out HTG.out ix bt
              first | exact hf | (rw [show bt % 256 = bt by omega]; exact hf) | (rw [show IntKind.wrap .u8 bt = bt by simp [IntKind.wrap, IntKind.bits, IntKind.signed]; omega]; exact hf)
            · rw [if_neg her] at hX
              have e1 : (er != 0) = true := bne_iff_ne.mpr her
              subst hX
              clear her
              go_wp2_with (fail)
              go_ret
              exact ⟨rfl, HQ.out⟩
          · have hX := HX.out
            rw [show W.toNat - m = (W.toNat - (m + 1)) + 1 by omega] at hX
            unfold rowD at hX
            rw [if_pos (show (1 : Int) = 1 ∧ (q.flat (m : Int) (y : Int)).2 = true from ⟨rfl, by rw [HF.out]⟩), HF.out, HQI.out, hyw, hix, Int.toNat_natCast] at hX
            simp only at hX
            have HX2 := Za hX
            clear hX
            have c7 : X0.cell? ⟨gr, 7, none⟩ = some (.slice (some ⟨gp, 0, none⟩) nB cB) := (Zc (HZ.out _ HQ.out.m) 7).trans rfl
            have hce := HQ.out.cell HL.out.symm ix hixl
            have hfz := hce.2
            have hcv := hce.1
            clear hce
            go_wp2_with (fail)
            exact ⟨⟨m + 1, s2, P2.set ix fc, by omega, by go_num, HX2, ⟨by rw [List.length_set]; exact HL.out⟩, ⟨bm_set HBM2.out _ hfp⟩, ⟨HQ.out.set HL.out.symm HST.out HTG.out ix fc⟩⟩, by simp [intOf]; omega⟩
        · have hX := HX.out
          rw [show W.toNat - m = 0 by omega] at hX
          simp only [rowD] at hX
          subst hX
          go_wp2_with (fail)
          go_ret
          exact ⟨rfl, HQ.out⟩
   · rw [if_neg her] at hR
     have e1 : (er1 != 0) = true := bne_iff_ne.mpr her
     subst hR
     clear her
     go_wp2_with (fail)
     go_ret
     exact ⟨rfl, HX0.out⟩
end Go.Proofs.Ytkfejicdjpffcaa.Rrw
namespace Go.Proofs.Ytkfejicdjpffcaa.Rmk
open Go Go.RowKit YtkfejicdjpffcaaW PrintWords PrintLast PrintMore Aid HandAid
/-- A made slice of bytes. -/
def zcells (n : Nat) : Array Value := madeCells (Value.int .u8 0).cells n
theorem make_step {oi : Oper} {a : Act} (W : World) (x y : Operand) (ho : oi.op = .makeSlice 29 x y) (m : Int) (n : Nat) (hx : a.eval x = .int .i64 m) (hy : a.eval y = .int .i64 m) (hm : m = n) (hn : n ≤ 1000000) :
 (execOp a.eval oi).run Try.prog W = .ok (.value (.slice (some ⟨W.heap.size, 0, none⟩) n n)) (W.alloc (.cells (zcells n) 5)) := by
 subst hm
 obtain ⟨i, hi, hz⟩ := Option.map_eq_some_iff.1 infoU8
 simp only [Prod.mk.injEq] at hz
 obtain ⟨hz0, hz1, hz2⟩ := hz
 have hr := run_make (P := Try.prog) W 29 5 i (.int .u8 0) Try.underlying29 hi hz0 .i64 .i64 (n : Int) (n : Int) (by omega) (by omega) (by rw [hz2]; omega) (by omega)
 rw [Int.toNat_natCast, hz1, Nat.mul_one] at hr
 simp [execOp, ho, hx, hy, hr, zcells]
theorem made_row (W : World) (B n : Nat) (hB : B ≤ W.heap.size) (hn : n ≤ 1000000) : Kd.R (Kd.int .u8) 5 (W.alloc (.cells (zcells n) 5)) B (fun k => k = W.heap.size) (.slice (some ⟨W.heap.size, 0, none⟩) n n) (List.replicate n 0) := by
 refine ⟨fun k hk => ?_, (zcells n).toList, ?_, ?_⟩
 · simpa [Value.ownBlock] using hk.symm
 · have h2 := World.ownsRow_lit (base := B) (e := 5) (size := 1) W (zcells n) n hB (by simp only [maxLen]; omega) (by simp [zcells, size_madeCells])
   rw [List.length_replicate]
   exact h2
 · have h3 := Kd.reps_made (R := fun (p : Int) (c : List Value) => c = [.int .u8 p]) (z := .int .u8 0) (size := 1) (z0 := (0 : Int)) rfl (by decide) rfl n
   rw [Nat.mul_one] at h3
   exact h3
end Go.Proofs.Ytkfejicdjpffcaa.Rmk
namespace Go.Proofs.Ytkfejicdjpffcaa.Rgt
open Go Go.RowKit YtkfejicdjpffcaaW PrintWords PrintLast PrintMore U Aid HandAid Cod1 Cod2 Cod3 Ytkfejicdjpffcaa.Mod NewRef Enc Mods EncAt Put End Snc Dec Get DecNew RefAt RDec RDecNew Isk Pse Rpx Rva Rfl Rcx Rty Rev Rdv Rrw Rmk
/-- What Get answers: a bitmap, its pixels in a row of its own, an error. -/
def GPost (At : World → (Nat → Prop) → Nat → DS → Prop) (w : World) (S : Nat → Prop) (gd : Nat) (R : DS × (Int × Int × List Int) × Int) (e : Ending) (W : World) : Prop :=
 ∃ A c, e = .returned (.tuple #[.agg #[.int .i64 R.2.1.1, .int .i64 R.2.1.2.1, .slice A R.2.1.2.2.length c], .int .i64 R.2.2]) ∧ Kd.R (Kd.int .u8) 5 W w.heap.size (fun _ => True) (.slice A R.2.1.2.2.length c) R.2.1.2.2 ∧ IS At w S gd R.1 W
theorem zset3 {W : World} {b : Nat} {u v z : Value} (h : W.heap[b]? = some (.cells #[u, v, z] 31 (0, 0))) (p q r : Value) :
 (((W.setCell ⟨b, 0, none⟩ p).setCell ⟨b, 1, none⟩ q).setCell ⟨b, 2, none⟩ r).heap[b]? = some (.cells #[p, q, r] 31 (0, 0)) := by simpa using blk_set (blk_set (blk_set h 0 p) 1 q) 2 r
theorem GPost.bad {At : World → (Nat → Prop) → Nat → DS → Prop} [AtL At] {w W : World} {S : Nat → Prop} {gd : Nat} {s : DS} {b : Nat} (err : Int) (h : IS At w S gd s W) (hS : ∀ k, S k → k < w.heap.size) (hb : w.heap.size ≤ b) : GPost At w S gd (s, (0, 0, []), err) (.returned (.tuple #[.agg #[.int .i64 0, .int .i64 0, .slice none 0 0], .int .i64 err])) (((W.setCell ⟨b, 0, none⟩ (.int .i64 0)).setCell ⟨b, 1, none⟩ (.int .i64 0)).setCell ⟨b, 2, none⟩ (.slice none 0 0)) :=
 ⟨none, 0, rfl, Kd.R_nil _ _ _ w.heap.size (fun _ => True), ((h.set hS _ hb _).set hS _ hb _).set hS _ hb _⟩
theorem gret36 {W : World} {b : Nat} {x y err : Int} {A : Option Addr} {n c : Nat} {tmps : Array Value} (hz : W.heap[b]? = some (.cells #[.int .i64 x, .int .i64 y, .slice A n c] 31 (0, 0))) (h2 : tmps.getD 12 undef = .pointer (some ⟨b, 0, none⟩)) (h3 : tmps.getD 13 undef = .int .i64 err) :
 (results Try.f36 tmps).run Try.prog W = .ok (.tuple #[.agg #[.int .i64 x, .int .i64 y, .slice A n c], .int .i64 err]) W := by
 have y0 : W.cell? ⟨b, 0, none⟩ = some (.int .i64 x) := (Zc hz 0).trans rfl
 have y1 : W.cell? ⟨b, 1, none⟩ = some (.int .i64 y) := (Zc hz 1).trans rfl
 have y2 : W.cell? ⟨b, 2, none⟩ = some (.slice A n c) := (Zc hz 2).trans rfl
 have hu := Try.underlying31
 rw [results_cell_tmp rfl, h2, h3]
 go_simp
set_option maxHeartbeats 2000000 in
set_option maxRecDepth 100000 in
theorem rget_none (w : World) (base t dx dy : Int) (ty : Bool) (kd W H : Int) (RW RH : Int) (AR : Option Addr) (n cR : Nat) :
 Calls Try.prog 36 #[.pointer none, .int .i64 base, .agg #[.int .i64 t, .int .i64 dx, .int .i64 dy, .bool ty, .int .i64 kd], .int .i64 W, .int .i64 H, .agg #[.int .i64 RW, .int .i64 RH, .slice AR n cR]] w fun e w' => e = .returned (.tuple #[.agg #[.int .i64 0, .int .i64 0, .slice none 0 0], .int .i64 7]) ∧ Below w.heap.size w w' := by
 have hu3 := Try.underlying23
 have hu4 := Try.underlying31
 obtain ⟨b12, hb12⟩ : ∃ x, w.heap.size + 1 + 1 = x := ⟨_, rfl⟩
 obtain ⟨W1, hW1⟩ : ∃ x, ((w.alloc (.cells #[.int .i64 t, .int .i64 dx, .int .i64 dy, .bool ty, .int .i64 kd] 23)).alloc (.cells #[.int .i64 RW, .int .i64 RH, .slice AR n cR] 31)).alloc (.cells #[.int .i64 0, .int .i64 0, .slice none 0 0] 31) = x := ⟨_, rfl⟩
 have HB1 := Za (show Below w.heap.size w W1 from hW1 ▸ b1' (b1' (b1' (Below.refl _ _) _) _) _)
 have HZ12 := Za (show W1.heap[b12]? = some (.cells #[.int .i64 0, .int .i64 0, .slice none 0 0] 31 (0, 0)) by
  have h := heap_new ((w.alloc (.cells #[.int .i64 t, .int .i64 dx, .int .i64 dy, .bool ty, .int .i64 kd] 23)).alloc (.cells #[.int .i64 RW, .int .i64 RH, .slice AR n cR] 31)) (.cells #[.int .i64 0, .int .i64 0, .slice none 0 0] 31)
  rw [World.size_alloc, World.size_alloc, hb12, hW1] at h
  exact h)
 have HGE := Za (show w.heap.size ≤ b12 by omega)
 have m0 : W1.cell? ⟨b12, 0, none⟩ = some (.int .i64 0) := (Zc HZ12.out 0).trans rfl
 have m1 : W1.cell? ⟨b12, 1, none⟩ = some (.int .i64 0) := (Zc HZ12.out 1).trans rfl
 have m2 : W1.cell? ⟨b12, 2, none⟩ = some (.slice none 0 0) := (Zc HZ12.out 2).trans rfl
 have k0 := Zf HZ12.out 0
 have k1 := Zf HZ12.out 1
 have k2 := Zf HZ12.out 2
 have HZW := Za (zset3 HZ12.out (.int .i64 0) (.int .i64 0) (.slice none 0 0))
 go_enter Try.func36, Try.ntmps36
 go_wp2_with (fail)
 refine (get_nil _ (-1)).mono ?_
 rintro e w2 ⟨rfl, rfl⟩
 go_wp2_with (fail)
 exact bodyPost_ret (gret36 HZW.out rfl rfl) rfl ⟨rfl, ((HB1.out.setCell HGE.out _).setCell HGE.out _).setCell HGE.out _⟩
set_option maxHeartbeats 8000000 in
set_option maxRecDepth 100000 in
theorem rfget_calls (w : World) (S : Nat → Prop) (gd : Nat) (s : DS) (base t dx dy : Int) (ty : Bool) (kd W H : Int) (RW RH : Int) (AR : Option Addr) (cR : Nat) (RP : List Int) (hE : DecAt w S gd s) (hS : ∀ k, S k → k < w.heap.size) (hok : s.ok) (hdx : -9223372036854775808 ≤ dx ∧ dx ≤ 9223372036854775807) (hdy : -9223372036854775808 ≤ dy ∧ dy ≤ 9223372036854775807) (hA : ∀ V, Mods w V S → Kd.C (Kd.int .u8) V AR RP.length RP) (hcR : RP.length ≤ cR) (hbR : Bytes RP) (q : RQ) (hq : q = ⟨t, dx, dy, ty, W, H, RW, RH, RP, base⟩) (R : DS × (Int × Int × List Int) × Int) (hR : getD q kd s = R) :
 Calls Try.prog 36 #[.pointer (some ⟨gd, 0, none⟩), .int .i64 base, .agg #[.int .i64 t, .int .i64 dx, .int .i64 dy, .bool ty, .int .i64 kd], .int .i64 W, .int .i64 H, .agg #[.int .i64 RW, .int .i64 RH, .slice AR RP.length cR]] w (GPost DecAt w S gd R) := by
 have HA := Za hA
 have HS := Za hS
 have HbR := Za hbR
 have HE := Za hE
 have HQQ := Za hq
 have hst : s.st.length ≤ 8192 := hok.m.2.1
 have hmR : RP.length ≤ 9223372036854775807 := Kd.C_max (hA w (Mods.refl w S))
 have HOK := Za hok
 unfold getD at hR
 have hE1 : getErr q kd s.st.length = if okO t dx dy kd = true then (if okS W H = true ∧ okB RW RH RP = true then (if okF s.st.length base t = true then 0 else 2) else 30) else 2 := by rw [hq]; rfl
 have hq1 : q.W = W := by rw [hq]
 have hq2 : q.H = H := by rw [hq]
 rw [hE1, hq1, hq2] at hR
 have HR := Za hR
 have hu1 := Try.underlying109
 have hu2 := Try.underlying107
 have hu3 := Try.underlying23
 have hu4 := Try.underlying31
 have hu5 := Try.underlying45
 clear hA hS hbR hE hok hR hE1 hq hq1 hq2
 go_enter Try.func36, Try.ntmps36
 go_wp2_with (fail)
 obtain ⟨b12, hb12⟩ : ∃ x, w.heap.size + 1 + 1 = x := ⟨_, rfl⟩
 obtain ⟨b11, hb11⟩ : ∃ x, w.heap.size + 1 = x := ⟨_, rfl⟩
 obtain ⟨b8, hb8⟩ : ∃ x, w.heap.size = x := ⟨_, rfl⟩
 obtain ⟨W1, hW1⟩ : ∃ x, ((w.alloc (.cells #[.int .i64 t, .int .i64 dx, .int .i64 dy, .bool ty, .int .i64 kd] 23)).alloc (.cells #[.int .i64 RW, .int .i64 RH, .slice AR RP.length cR] 31)).alloc (.cells #[.int .i64 0, .int .i64 0, .slice none 0 0] 31) = x := ⟨_, rfl⟩
 have HB1 := Za (show Below w.heap.size w W1 from hW1 ▸ b1' (b1' (b1' (Below.refl _ _) _) _) _)
 have HZ12 := Za (show W1.heap[b12]? = some (.cells #[.int .i64 0, .int .i64 0, .slice none 0 0] 31 (0, 0)) by
  have h := heap_new ((w.alloc (.cells #[.int .i64 t, .int .i64 dx, .int .i64 dy, .bool ty, .int .i64 kd] 23)).alloc (.cells #[.int .i64 RW, .int .i64 RH, .slice AR RP.length cR] 31)) (.cells #[.int .i64 0, .int .i64 0, .slice none 0 0] 31)
  rw [World.size_alloc, World.size_alloc, hb12, hW1] at h
  exact h)
 have HZ11 := Za (show W1.heap[b11]? = some (.cells #[.int .i64 RW, .int .i64 RH, .slice AR RP.length cR] 31 (0, 0)) by
  have h := heap_new (w.alloc (.cells #[.int .i64 t, .int .i64 dx, .int .i64 dy, .bool ty, .int .i64 kd] 23)) (.cells #[.int .i64 RW, .int .i64 RH, .slice AR RP.length cR] 31)
  rw [World.size_alloc, hb11] at h
  rw [← hW1]
  exact k3' h _)
 have HZ8 := Za (show W1.heap[b8]? = some (.cells #[.int .i64 t, .int .i64 dx, .int .i64 dy, .bool ty, .int .i64 kd] 23 (0, 0)) by
  have h := heap_new w (.cells #[.int .i64 t, .int .i64 dx, .int .i64 dy, .bool ty, .int .i64 kd] 23)
  rw [hb8] at h
  rw [← hW1]
  exact k3' (k3' h _) _)
 have HGE := Za (show w.heap.size ≤ b8 ∧ w.heap.size ≤ b11 ∧ w.heap.size ≤ b12 by omega)
 have HB12 := Za (show w.heap.size ≤ b12 ∧ b12 < W1.heap.size from ⟨by omega, blk_lt HZ12.out⟩)
 rw [hb12, hb11, hb8, hW1]
 clear hb12 hb11 hb8 hW1
 have hp1 := get_calls W1 S gd s (-1) (HE.out.below HB1.out) (fun k hk => Nat.lt_of_lt_of_le (HS.out k hk) HB1.out.size) HOK.out
 rw [getI_neg] at hp1
 refine hp1.mono ?_
 rintro e W2 ⟨rfl, hD, hM⟩
 have HD := Za hD
 have HM2 := Za ((Mods.of_below HB1.out S).then_ hM (fun k hk => .inl hk))
 have HS1 := Za hM.size
 have HZ8 := Za (blk_mods HZ8.out hM (fun hk => by have := HS.out _ hk; have := HGE.out; omega))
 have HZ11 := Za (blk_mods HZ11.out hM (fun hk => by have := HS.out _ hk; have := HGE.out; omega))
 have HZ12 := Za (blk_mods HZ12.out hM (fun hk => by have := HS.out _ hk; have := HGE.out; omega))
 have HIS := Za (show ∀ V, Below W2.heap.size W2 V → IS DecAt w S gd s V from fun V hV => ⟨HD.out.below hV, HM2.out.below hV, HOK.out⟩)
 have HD2 := Za (Below.refl W2.heap.size W2)
 clear hD hM hp1 HE
 have q80 : W2.cell? ⟨b8, 0, none⟩ = some (.int .i64 t) := (Zc (Zd HZ8.out HD2.out) 0).trans rfl
 have q81 : W2.cell? ⟨b8, 1, none⟩ = some (.int .i64 dx) := (Zc (Zd HZ8.out HD2.out) 1).trans rfl
 have q82 : W2.cell? ⟨b8, 2, none⟩ = some (.int .i64 dy) := (Zc (Zd HZ8.out HD2.out) 2).trans rfl
 have q83 : W2.cell? ⟨b8, 3, none⟩ = some (.bool ty) := (Zc (Zd HZ8.out HD2.out) 3).trans rfl
 have q84 : W2.cell? ⟨b8, 4, none⟩ = some (.int .i64 kd) := (Zc (Zd HZ8.out HD2.out) 4).trans rfl
 simp only
 go_wp2_with (fail)
 refine (refine_Valid.calls t dx dy ty kd _ _ (valid_eq t dx dy ty kd hdx hdy)).mono ?_
 rintro e W3 ⟨rfl, hb⟩
 have HD3 := Za hb
 clear hb q80 q81 q82 q83 q84
 obtain ⟨vo, hvo⟩ : ∃ x, okO t dx dy kd = x := ⟨_, rfl⟩
 have hR := HR.out
 clear HR
 rw [hvo] at hR ⊢
 cases vo
 · rw [if_neg (show ¬ (false = true) by decide), if_neg (show ¬ ((2 : Int) = 0) by decide)] at hR
   subst hR
   clear hvo
   have m0 : W3.cell? ⟨b12, 0, none⟩ = some (.int .i64 0) := (Zc (Zd HZ12.out HD3.out) 0).trans rfl
   have m1 : W3.cell? ⟨b12, 1, none⟩ = some (.int .i64 0) := (Zc (Zd HZ12.out HD3.out) 1).trans rfl
   have m2 : W3.cell? ⟨b12, 2, none⟩ = some (.slice none 0 0) := (Zc (Zd HZ12.out HD3.out) 2).trans rfl
   have k0 := Zf (Zd HZ12.out HD3.out) 0
   have k1 := Zf (Zd HZ12.out HD3.out) 1
   have k2 := Zf (Zd HZ12.out HD3.out) 2
   have HZW := Za (zset3 (Zd HZ12.out HD3.out) (.int .i64 0) (.int .i64 0) (.slice none 0 0))
   have hP := GPost.bad (At := DecAt) (w := w) (S := S) (gd := gd) (s := s) (b := b12) 2 (HIS.out _ HD3.out) HS.out HB12.out.1
   go_wp2_with (fail)
   exact bodyPost_ret (gret36 HZW.out rfl rfl) rfl hP
 rw [if_pos (show true = true from rfl)] at hR
 have hoo := okO_iff.1 hvo
 have HOO := Za hoo
 have HR := Za hR
 have HT := Za hoo.1
 clear hvo hR hoo
 go_wp2_with (fail)
 obtain ⟨⟨n1, n2, n3, n4⟩, hEv, hn4⟩ := bnew_ev W H
 obtain ⟨K1, hK1⟩ := Ev.rounds hEv
 refine (bitmap_New.calls K1 W H 0 n1 n2 n3 n4 _ hK1).mono ?_
 rintro e W4 ⟨v2, rfl, hv2, hb⟩
 obtain ⟨Av, cv, rfl⟩ := Kd.R_slice hv2
 have HD4 := Za (below_then HD3.out HD3.out.size hb)
 simp only at hn4
 clear hv2 hb hK1 hEv
 obtain ⟨W4a, hW4a⟩ : ∃ x, W4.alloc (.cells #[.int .i64 n1, .int .i64 n2, .slice Av n3.length cv] 31) = x := ⟨_, rfl⟩
 have HD4a := Za (show Below W2.heap.size W2 W4a from hW4a ▸ b1' HD4.out _)
 obtain ⟨vs, hvs⟩ : ∃ x, okS W H = x := ⟨_, rfl⟩
 have hR := HR.out
 clear HR
 rw [hvs] at hR hn4
 cases vs
 · have e1 : (n4 != 0) = true := by
     rw [if_neg (by decide)] at hn4
     apply bne_iff_ne.mpr
     split at hn4 <;> omega
   rw [if_neg (show ¬ (false = true ∧ okB RW RH RP = true) by simp), if_neg (show ¬ ((30 : Int) = 0) by decide)] at hR
   subst hR
   clear hvs hn4
   have m0 : W4a.cell? ⟨b12, 0, none⟩ = some (.int .i64 0) := (Zc (Zd HZ12.out HD4a.out) 0).trans rfl
   have m1 : W4a.cell? ⟨b12, 1, none⟩ = some (.int .i64 0) := (Zc (Zd HZ12.out HD4a.out) 1).trans rfl
   have m2 : W4a.cell? ⟨b12, 2, none⟩ = some (.slice none 0 0) := (Zc (Zd HZ12.out HD4a.out) 2).trans rfl
   have k0 := Zf (Zd HZ12.out HD4a.out) 0
   have k1 := Zf (Zd HZ12.out HD4a.out) 1
   have k2 := Zf (Zd HZ12.out HD4a.out) 2
   have HZW := Za (zset3 (Zd HZ12.out HD4a.out) (.int .i64 0) (.int .i64 0) (.slice none 0 0))
   have hP := GPost.bad (At := DecAt) (w := w) (S := S) (gd := gd) (s := s) (b := b12) 30 (HIS.out _ HD4a.out) HS.out HB12.out.1
   go_wp2_with (fail)
   exact bodyPost_ret (gret36 HZW.out rfl rfl) rfl hP
 have hsz := okS_iff.1 hvs
 have HBN := Za (bm_new hvs)
 rw [if_pos (show true = true from rfl)] at hn4
 subst hn4
 have har := area hsz.1 hsz.2.1 hsz.2.2.1 hsz.2.2.2.1
 clear hvs
 have HR := Za hR
 clear hR
 have q110 : W4a.cell? ⟨b11, 0, none⟩ = some (.int .i64 RW) := (Zc (Zd HZ11.out HD4a.out) 0).trans rfl
 have q111 : W4a.cell? ⟨b11, 1, none⟩ = some (.int .i64 RH) := (Zc (Zd HZ11.out HD4a.out) 1).trans rfl
 have q112 : W4a.cell? ⟨b11, 2, none⟩ = some (.slice AR RP.length cR) := (Zc (Zd HZ11.out HD4a.out) 2).trans rfl
 go_wp2_with (fail)
 clear hW4a
 obtain ⟨K2, hK2⟩ := Ev.rounds (bvalid_ev RW RH RP hmR)
 refine (bitmap_Valid.calls K2 RW RH AR cR RP _ _ (HA.out _ (HM2.out.below HD4a.out)) hcR hK2).mono ?_
 rintro e W5 ⟨rfl, hb⟩
 have HD5 := Za (below_drew (below_then HD4a.out HD4a.out.size hb))
 have HD5' := Za (below_then HD4a.out HD4a.out.size hb)
 clear hb hK2 q110 q111 q112
 obtain ⟨vr, hvr⟩ : ∃ x, okB RW RH RP = x := ⟨_, rfl⟩
 have hR := HR.out
 clear HR
 rw [hvr] at hR ⊢
 cases vr
 · rw [if_neg (show ¬ (True ∧ false = true) by simp), if_neg (show ¬ ((30 : Int) = 0) by decide)] at hR
   subst hR
   clear hvr
   have m0 : W5.cell? ⟨b12, 0, none⟩ = some (.int .i64 0) := (Zc (Zd HZ12.out HD5'.out) 0).trans rfl
   have m1 : W5.cell? ⟨b12, 1, none⟩ = some (.int .i64 0) := (Zc (Zd HZ12.out HD5'.out) 1).trans rfl
   have m2 : W5.cell? ⟨b12, 2, none⟩ = some (.slice none 0 0) := (Zc (Zd HZ12.out HD5'.out) 2).trans rfl
   have k0 := Zf (Zd HZ12.out HD5'.out) 0
   have k1 := Zf (Zd HZ12.out HD5'.out) 1
   have k2 := Zf (Zd HZ12.out HD5'.out) 2
   have HZW := Za (zset3 (Zd HZ12.out HD5'.out) (.int .i64 0) (.int .i64 0) (.slice none 0 0))
   have hP := GPost.bad (At := DecAt) (w := w) (S := S) (gd := gd) (s := s) (b := b12) 30 (HIS.out _ HD5'.out) HS.out HB12.out.1
   go_wp2_with (fail)
   exact bodyPost_ret (gret36 HZW.out rfl rfl) rfl hP
 have HBR := Za (okB_bm HbR.out hvr).1
 clear hvr
 rw [if_pos (show True ∧ true = true from ⟨trivial, rfl⟩)] at hR
 obtain ⟨FT, hFT⟩ : ∃ x, okF s.st.length base t = x := ⟨_, rfl⟩
 rw [hFT] at hR
 have HR := Za hR
 have HFF := Za hFT
 clear hR hFT
 go_wp2_with (fail)
 refine start_ (n := 6) (S := fun w' => w'.cell? ⟨b8, 0, none⟩ = some (.int .i64 t) ∧ w'.cell? ⟨b8, 1, none⟩ = some (.int .i64 dx) ∧ w'.cell? ⟨b8, 2, none⟩ = some (.int .i64 dy) ∧ w'.cell? ⟨b8, 3, none⟩ = some (.bool ty) ∧ w'.cell? ⟨b8, 4, none⟩ = some (.int .i64 kd)) (ds := []) (B' 6 0) (by kernel_rfl) rfl rfl ⟨(Zc (Zd HZ8.out HD5.out) 0).trans rfl, (Zc (Zd HZ8.out HD5.out) 1).trans rfl, (Zc (Zd HZ8.out HD5.out) 2).trans rfl, (Zc (Zd HZ8.out HD5.out) 3).trans rfl, (Zc (Zd HZ8.out HD5.out) 4).trans rfl⟩ (fun hHeld => ?_)
 refine u' 0 48 (B' 6 1) ?_ rfl rfl ?_ ?_ ?_ ?_; rotate_left; (intro w'; go_simp; with_reducible rfl); rotate_left; (simp only [Act.put, p1', p2', p3', w1', w2']; rfl)
 refine u' 2 50 (B' 6 5) ?_ rfl rfl ?_ ?_ ?_ ?_; rotate_left; (intro w'; go_simp; with_reducible rfl); rotate_left; (simp only [Act.put, p1', p2', p3', w1', w2']; rfl)
 refine t' 3 51 (B' 6 13) ?_ rfl rfl ?_ hHeld ?_ ?_ ?_; rotate_left; (rintro w' ⟨s0, s1, s2, s3, s4⟩; go_simp; with_reducible rfl); rotate_left; (simp only [Act.put, p1', p2', p3', w1', w2']; rfl)
 refine one_ (i := 1) (N := some 49) (B' 6 15) rfl rfl (by kernel_rfl) (by decide) (fun K hK => ?_)
 refine goes_ Try.func81 (by kernel_rfl) rfl #[.pointer (some ⟨gd, 0, none⟩)] (by rfl) rfl rfl (by simp only [List.map_toArray, List.map_cons, List.map_nil]; rfl) ?_
 with_reducible refine (dec_model_calls _ _ _ _ (HD.out.below HD5.out) HOK.out).mono ?_
 rintro e W6 ⟨A6, c6, rfl, hM6, hb⟩
 refine ⟨_, rfl, ?_⟩
 have HD6 := Za (below_then HD5.out HD5.out.size hb)
 have hc6 := (Kd.R_reads' hM6).2.1
 have HM6 := Za (Kd.R_reads' hM6).2.2
 clear hb hM6
 refine hK.out _ _ ⟨(Zc (Zd HZ8.out HD6.out) 0).trans rfl, (Zc (Zd HZ8.out HD6.out) 1).trans rfl, (Zc (Zd HZ8.out HD6.out) 2).trans rfl, (Zc (Zd HZ8.out HD6.out) 3).trans rfl, (Zc (Zd HZ8.out HD6.out) 4).trans rfl⟩ (fun hHeld => ?_)
 clear hK K
 refine n' ?_ ?_ ?_; rotate_left; (show Act.put _ (some 49) _ = _; simp only [Act.put, p1', p2', p3', w1', w2']; rfl)
 refine one_ (i := 4) (N := some 52) (B' 6 31) rfl rfl (by kernel_rfl) (by decide) (fun K hK => ?_)
 refine goes_ Try.func57 (by kernel_rfl) rfl #[.agg #[.int .i64 s.kind, .slice A6 s.st.length c6], .int .i64 base, .agg #[.int .i64 t, .int .i64 dx, .int .i64 dy, .bool ty, .int .i64 kd]] (by rfl) rfl rfl (by simp only [List.map_toArray, List.map_cons, List.map_nil]; rfl) ?_
 with_reducible refine (Hsm.fits_calls s.kind A6 c6 s.st hst base t dx dy ty kd FT HFF.out _).mono ?_
 rintro e W7 ⟨rfl, hb⟩
 refine ⟨_, rfl, ?_⟩
 have HD7 := Za (below_then HD6.out HD6.out.size hb)
 clear hb
 refine hK.out _ _ ⟨(Zc (Zd HZ8.out HD7.out) 0).trans rfl, (Zc (Zd HZ8.out HD7.out) 1).trans rfl, (Zc (Zd HZ8.out HD7.out) 2).trans rfl, (Zc (Zd HZ8.out HD7.out) 3).trans rfl, (Zc (Zd HZ8.out HD7.out) 4).trans rfl⟩ (fun hHeld => ?_)
 clear hK K
 refine n' ?_ ?_ ?_; rotate_left; (show Act.put _ (some 52) _ = _; simp only [Act.put, p1', p2', p3', w1', w2']; rfl)
 refine u' 5 53 (B' 6 63) ?_ rfl rfl ?_ ?_ ?_ ?_; rotate_left; (intro w'; go_simp; with_reducible rfl); rotate_left; (simp only [Act.put, p1', p2', p3', w1', w2']; rfl)
 refine done_ (by kernel_rfl) ?_
 have hR := HR.out
 clear HR
 cases FT
 · rw [if_neg (show ¬ (false = true) by decide), if_neg (show ¬ ((2 : Int) = 0) by decide)] at hR
   subst hR
   have m0 : W7.cell? ⟨b12, 0, none⟩ = some (.int .i64 0) := (Zc (Zd HZ12.out HD7.out) 0).trans rfl
   have m1 : W7.cell? ⟨b12, 1, none⟩ = some (.int .i64 0) := (Zc (Zd HZ12.out HD7.out) 1).trans rfl
   have m2 : W7.cell? ⟨b12, 2, none⟩ = some (.slice none 0 0) := (Zc (Zd HZ12.out HD7.out) 2).trans rfl
   have k0 := Zf (Zd HZ12.out HD7.out) 0
   have k1 := Zf (Zd HZ12.out HD7.out) 1
   have k2 := Zf (Zd HZ12.out HD7.out) 2
   have HZW := Za (zset3 (Zd HZ12.out HD7.out) (.int .i64 0) (.int .i64 0) (.slice none 0 0))
   have hP := GPost.bad (At := DecAt) (w := w) (S := S) (gd := gd) (s := s) (b := b12) 2 (HIS.out _ HD7.out) HS.out HB12.out.1
   go_wp2_with (fail)
   exact bodyPost_ret (gret36 HZW.out rfl rfl) rfl hP
 rw [if_pos (show true = true from rfl), if_pos (show (0 : Int) = 0 from rfl)] at hR
 have hff := okF_iff.1 HFF.out
 obtain ⟨nP, hnp⟩ : ∃ n, (W * H).toNat = n := ⟨_, rfl⟩
 rw [hnp] at hR
 have hwh : W * H = (nP : Int) := by omega
 rw [hnp] at HBN
 have HR := Za hR
 have HNP := Za (show wrap64 (W * H) = (nP : Int) by rw [hwh, wrap_id] <;> omega)
 have hnP : nP ≤ 1000000 := by omega
 clear hR hnp hwh
 go_wp2_with (fail)
 have HW7d := Za (show w.heap.size ≤ W7.drew.heap.size ∧ Below W2.heap.size W2 W7.drew from ⟨Nat.le_trans HM2.out.size (below_drew HD7.out).size, below_drew HD7.out⟩)
 refine start_ (n := 10) (S := fun w' => w'.cell? ⟨b8, 0, none⟩ = some (.int .i64 t) ∧ w'.cell? ⟨b8, 1, none⟩ = some (.int .i64 dx) ∧ w'.cell? ⟨b8, 2, none⟩ = some (.int .i64 dy) ∧ w'.cell? ⟨b8, 3, none⟩ = some (.bool ty) ∧ w'.cell? ⟨b8, 4, none⟩ = some (.int .i64 kd) ∧ w'.cell? ⟨b11, 0, none⟩ = some (.int .i64 RW) ∧ w'.cell? ⟨b11, 1, none⟩ = some (.int .i64 RH) ∧ w'.cell? ⟨b11, 2, none⟩ = some (.slice AR RP.length cR)) (ds := []) (B' 10 0) (by kernel_rfl) rfl rfl ⟨(Zc (Zd HZ8.out HW7d.out.2) 0).trans rfl, (Zc (Zd HZ8.out HW7d.out.2) 1).trans rfl, (Zc (Zd HZ8.out HW7d.out.2) 2).trans rfl, (Zc (Zd HZ8.out HW7d.out.2) 3).trans rfl, (Zc (Zd HZ8.out HW7d.out.2) 4).trans rfl, (Zc (Zd HZ11.out HW7d.out.2) 0).trans rfl, (Zc (Zd HZ11.out HW7d.out.2) 1).trans rfl, (Zc (Zd HZ11.out HW7d.out.2) 2).trans rfl⟩ (fun hHeld => ?_)
 refine u' 1 56 (B' 10 2) ?_ rfl rfl ?_ ?_ ?_ ?_; rotate_left; (intro w'; go_simp; with_reducible rfl); rotate_left; (simp only [Act.put, p1', p2', p3', w1', w2']; rfl)
 refine u' 2 57 (B' 10 6) ?_ rfl rfl ?_ ?_ ?_ ?_; rotate_left; (intro w'; go_simp; with_reducible rfl); rotate_left; (simp only [Act.put, p1', p2', p3', w1', w2']; rfl)
 refine u' 3 58 (B' 10 14) ?_ rfl rfl ?_ ?_ ?_ ?_; rotate_left; (intro w'; go_simp; with_reducible rfl); rotate_left; (simp only [Act.put, p1', p2', p3', w1', w2']; rfl)
 refine u' 4 59 (B' 10 30) ?_ rfl rfl ?_ ?_ ?_ ?_; rotate_left; (intro w'; go_simp; with_reducible rfl); rotate_left; (simp only [Act.put, p1', p2', p3', w1', w2']; rfl)
 refine u' 5 60 (B' 10 62) ?_ rfl rfl ?_ ?_ ?_ ?_; rotate_left; (intro w'; go_simp; with_reducible rfl); rotate_left; (simp only [Act.put, p1', p2', p3', w1', w2']; rfl)
 refine t' 0 55 (B' 10 63) ?_ rfl rfl ?_ hHeld ?_ ?_ ?_; rotate_left; (rintro w' ⟨s0, s1, s2, s3, s4, s5, s6, s7⟩; go_simp; with_reducible rfl); rotate_left; (simp only [Act.put, p1', p2', p3', w1', w2']; rfl)
 refine t' 7 62 (B' 10 191) ?_ rfl rfl ?_ hHeld ?_ ?_ ?_; rotate_left; (rintro w' ⟨s0, s1, s2, s3, s4, s5, s6, s7⟩; go_simp; with_reducible rfl); rotate_left; (simp only [Act.put, p1', p2', p3', w1', w2']; rfl)
 refine one_ (i := 6) (N := some 61) (B' 10 255) rfl rfl (by kernel_rfl) (by decide) (fun K hK => ?_)
 refine value_ (w1 := ?_) (v := ?_) (by rfl) rfl ?_ ?_
 rotate_left 2
 · refine make_step _ (.tmp 60) (.tmp 60) ?_ (wrap64 (W * H)) nP ?_ ?_ HNP.out hnP <;> rfl
 obtain ⟨gp, hgp⟩ : ∃ x, W7.drew.heap.size = x := ⟨_, rfl⟩
 obtain ⟨W8, hW8⟩ : ∃ x, W7.drew.alloc (.cells (zcells nP) 5) = x := ⟨_, rfl⟩
 have HROW := Za (show Kd.R (Kd.int .u8) 5 W8 w.heap.size (fun k => k = gp) (.slice (some ⟨gp, 0, none⟩) nP nP) (List.replicate nP 0) from hW8 ▸ hgp ▸ made_row W7.drew w.heap.size nP HW7d.out.1 hnP)
 have HD8 := Za (show Below W2.heap.size W2 W8 from hW8 ▸ b1' HW7d.out.2 _)
 have HGP := Za (show W7.drew.heap.size ≤ gp ∧ gp < W8.heap.size from ⟨by omega, by rw [← hW8, World.size_alloc]; omega⟩)
 rw [hgp, hW8]
 clear hW8 hgp
 refine hK.out _ _ ⟨(Zc (Zd HZ8.out HD8.out) 0).trans rfl, (Zc (Zd HZ8.out HD8.out) 1).trans rfl, (Zc (Zd HZ8.out HD8.out) 2).trans rfl, (Zc (Zd HZ8.out HD8.out) 3).trans rfl, (Zc (Zd HZ8.out HD8.out) 4).trans rfl, (Zc (Zd HZ11.out HD8.out) 0).trans rfl, (Zc (Zd HZ11.out HD8.out) 1).trans rfl, (Zc (Zd HZ11.out HD8.out) 2).trans rfl⟩ (fun hHeld => ?_)
 clear hK K
 refine n' ?_ ?_ ?_; rotate_left; (show Act.put _ (some 61) _ = _; simp only [Act.put, p1', p2', p3', w1', w2']; rfl)
 refine one_ (i := 8) (N := some 63) (B' 10 511) rfl rfl (by kernel_rfl) (by decide) (fun K hK => ?_)
 refine goes_ Try.func58 (by kernel_rfl) rfl #[.agg #[.int .i64 t, .int .i64 dx, .int .i64 dy, .bool ty, .int .i64 kd], .int .i64 W, .int .i64 H, .slice (some ⟨gp, 0, none⟩) nP nP, .agg #[.int .i64 RW, .int .i64 RH, .slice AR RP.length cR]] (by rfl) rfl rfl (by simp only [List.map_toArray, List.map_cons, List.map_nil]; rfl) ?_
 with_reducible refine (newRegion_calls _ t dx dy ty kd W H _ RW RH _ (some ⟨gp, 0, none⟩) nP nP AR RP.length cR rfl rfl).mono ?_
 rintro e W9 ⟨gr, rfl, hgr, hZg, hb⟩
 refine ⟨_, rfl, ?_⟩
 have HD9 := Za (below_then HD8.out HD8.out.size hb)
 have HROW := Za (Kd.R_below HROW.out hb)
 have HGR := Za hgr
 have HZG := Za hZg
 clear hb hgr hZg
 refine hK.out _ _ ⟨(Zc (Zd HZ8.out HD9.out) 0).trans rfl, (Zc (Zd HZ8.out HD9.out) 1).trans rfl, (Zc (Zd HZ8.out HD9.out) 2).trans rfl, (Zc (Zd HZ8.out HD9.out) 3).trans rfl, (Zc (Zd HZ8.out HD9.out) 4).trans rfl, (Zc (Zd HZ11.out HD9.out) 0).trans rfl, (Zc (Zd HZ11.out HD9.out) 1).trans rfl, (Zc (Zd HZ11.out HD9.out) 2).trans rfl⟩ (fun hHeld => ?_)
 clear hK K
 refine n' ?_ ?_ ?_; rotate_left; (show Act.put _ (some 63) _ = _; simp only [Act.put, p1', p2', p3', w1', w2']; rfl)
 refine u' 9 18 (B' 10 1023) ?_ rfl rfl ?_ ?_ ?_ ?_; rotate_left; (intro w'; go_simp; with_reducible rfl); rotate_left; (simp only [Act.put, p1', p2', p3', w1', w2']; rfl)
 refine done_ (by kernel_rfl) ?_
 have HW12 := Za (Nat.le_trans HM2.out.size HD9.out.size)
 obtain ⟨T, hT⟩ : ∃ T : Nat → Prop, (fun k => k = gp) = T := ⟨_, rfl⟩
 have HT2 := Za (show ∀ k, T k → k = gp from hT ▸ fun k hk => hk)
 have hgp1 : W2.heap.size ≤ gp := Nat.le_trans HW7d.out.2.size HGP.out.1
 have hwg : w.heap.size ≤ gp := Nat.le_trans HM2.out.size hgp1
 have HST := Za (show ∀ k, T k → ¬ S k from fun k hk hs => by have := HT2.out k hk; have := HS.out k hs; omega)
 have HS9 := Za (show ∀ k, S k → k < W9.heap.size from fun k hk => Nat.lt_of_lt_of_le (HS.out k hk) HW12.out)
 have HX := Za (show GX DecAt W9 S T w.heap.size gd s (.slice (some ⟨gp, 0, none⟩) nP nP) (List.replicate nP 0) W9 from ⟨HD.out.below HD9.out, hT ▸ HROW.out, Mods.refl _ _, HOK.out⟩)
 have HM9 := Za (show ∀ V, Mods W9 V (fun k => S k ∨ T k) → Mods w V S from fun V hV => (HM2.out.below HD9.out).then_ hV (fun k hk => hk.imp id (fun h => by rw [HT2.out k h]; exact hwg)))
 have HNO := Za (show ∀ b, w.heap.size ≤ b → b ≠ gp → ¬ (S b ∨ T b) from fun b h1 h2 hk => hk.elim (fun h => by have := HS.out b h; omega) (fun h => h2 (HT2.out b h)))
 have HZ12 := Za (show ∀ V, Mods W9 V (fun k => S k ∨ T k) → V.heap[b12]? = some (.cells #[.int .i64 0, .int .i64 0, .slice none 0 0] 31 (0, 0)) from fun V hV => blk_mods (Zd HZ12.out HD9.out) hV (HNO.out _ HB12.out.1 (by have := HB12.out.2; have := HS1.out; omega)))
 have HZG := Za (show ∀ V, Mods W9 V (fun k => S k ∨ T k) → V.heap[gr]? = some (.cells (regc t dx dy ty kd W H (.slice (some ⟨gp, 0, none⟩) nP nP) RW RH (.slice AR RP.length cR)) 109 (0, 0)) from fun V hV => blk_mods HZG.out hV (HNO.out _ (by have := HGR.out; have := HGP.out.2; omega) (by have := HGR.out; have := HGP.out.2; omega)))
 obtain ⟨R1, hR1⟩ : ∃ x, rowsD q H.toNat 0 s (List.replicate nP 0) = x := ⟨_, rfl⟩
 have hR := HR.out
 rw [hR1] at hR
 have HR1 := Za (show rowsD q (H.toNat - 0) 0 s (List.replicate nP 0) = R1 from hR1)
 have HR := Za hR
 have HL0 := Za (show (List.replicate nP (0 : Int)).length = nP from List.length_replicate)
 clear hR hR1 hT HROW hwg HD3 HD4 HD4a HD5 HD5' HD6 HD7 HD8 HM6
 go_wp2_with (fail)
 go_loopw [65] (fun j wr => ∃ (k : Nat) (s1 : DS) (P1 : List Int), k ≤ H.toNat ∧ j = .int .i64 k ∧ Aside0 (rowsD q (H.toNat - k) k s1 P1 = R1) ∧ Aside0 (P1.length = nP) ∧ Aside0 (Bm W H P1) ∧ Aside0 (GX DecAt W9 S T w.heap.size gd s1 (.slice (some ⟨gp, 0, none⟩) nP nP) P1 wr)) (fun j _ => H.toNat - (intOf j).toNat)
 case atStart => exact ⟨0, s, _, Nat.zero_le _, rfl, HR1, HL0, HBN, HX⟩
 clear HR1 HL0 HBN HX
 case round =>
  obtain ⟨k, s1, P1, hk, rfl, HX1, HL, HBM, HX⟩ := hrel
  by_cases hlt : k < H.toNat
  · have hltk : (k : Int) < H := by omega
    have hX := HX1.out
    rw [show H.toNat - k = (H.toNat - (k + 1)) + 1 by omega] at hX
    unfold rowsD at hX
    obtain ⟨⟨s3, P3, er⟩, hrr⟩ : ∃ r, rowH q (k : Int) s1 P1 = r := ⟨_, rfl⟩
    have hl3 := (rowH_len q (k : Int) s1 P1).1
    have hb3 := rowH_bm q (by rw [HQQ.out]; exact HBR.out) (k : Int) s1 P1 (by rw [HQQ.out]; exact HBM.out)
    rw [hrr] at hX hl3 hb3
    simp only at hX hl3 hb3
    have HX2 := Za hX
    have HRR := Za hrr
    have HL3 := Za (hl3.trans HL.out)
    have HB3 := Za (show Bm W H P3 by rw [HQQ.out] at hb3; exact hb3)
    clear hX hrr hl3 hb3 HX1
    go_wp2_with (fail)
    refine (rrow_calls W9 wr S T w.heap.size gd gr s1 base t dx dy ty kd W H (some ⟨gp, 0, none⟩) nP nP P1 RW RH AR cR RP k HZG.out (fun V hV => HA.out V (HM9.out V hV)) hcR HS9.out HST.out HX.out HL.out HBM.out HBR.out HT.out (by have := HOO.out; omega) (by have := HOO.out; omega) ⟨hff.1, by have := ctxs_range t; omega⟩ hltk q HQQ.out _ HRR.out).mono ?_
    rintro e V2 ⟨rfl, hx⟩
    have HX := Za hx
    clear hx HRR
    have hX := HX2.out
    clear HX2
    simp only
    by_cases her : er = 0
    · rw [if_pos her] at hX
      have e1 : (er != 0) = false := by simp [her]
      have HX2 := Za hX
      clear hX her
      go_wp2_with (fail)
      exact ⟨⟨k + 1, s3, P3, by omega, by go_num, HX2, HL3, HB3, HX⟩, by simp [intOf]; omega⟩
    · rw [if_neg her] at hX
      have e1 : (er != 0) = true := bne_iff_ne.mpr her
      have hR := HR.out
      rw [← hX] at hR
      simp only at hR
      rw [if_neg her] at hR
      subst hR
      have hz := HZ12.out _ HX.out.m
      have m0 : V2.cell? ⟨b12, 0, none⟩ = some (.int .i64 0) := (Zc hz 0).trans rfl
      have m1 : V2.cell? ⟨b12, 1, none⟩ = some (.int .i64 0) := (Zc hz 1).trans rfl
      have m2 : V2.cell? ⟨b12, 2, none⟩ = some (.slice none 0 0) := (Zc hz 2).trans rfl
      have k0 := Zf hz 0
      have k1 := Zf hz 1
      have k2 := Zf hz 2
      have HZW := Za (zset3 hz (.int .i64 0) (.int .i64 0) (.slice none 0 0))
      have hP := GPost.bad (At := DecAt) (w := w) (S := S) (gd := gd) (s := s3) (b := b12) er ⟨HX.out.d, HM9.out _ HX.out.m, HX.out.ok⟩ HS.out HB12.out.1
      clear hX her hz
      go_wp2_with (fail)
      exact bodyPost_ret (gret36 HZW.out rfl rfl) rfl hP
  · have hX := HX1.out
    rw [show H.toNat - k = 0 by omega] at hX
    simp only [rowsD] at hX
    have hR := HR.out
    rw [← hX] at hR
    simp only [if_true] at hR
    subst hR
    have hz := HZ12.out _ HX.out.m
    have m0 : wr.cell? ⟨b12, 0, none⟩ = some (.int .i64 0) := (Zc hz 0).trans rfl
    have m1 : wr.cell? ⟨b12, 1, none⟩ = some (.int .i64 0) := (Zc hz 1).trans rfl
    have m2 : wr.cell? ⟨b12, 2, none⟩ = some (.slice none 0 0) := (Zc hz 2).trans rfl
    have k0 := Zf hz 0
    have k1 := Zf hz 1
    have k2 := Zf hz 2
    have HZW := Za (zset3 hz (.int .i64 W) (.int .i64 H) (.slice (some ⟨gp, 0, none⟩) nP nP))
    have c7 : wr.cell? ⟨gr, 7, none⟩ = some (.slice (some ⟨gp, 0, none⟩) nP nP) := (Zc (HZG.out _ HX.out.m) 7).trans rfl
    have hP : GPost DecAt w S gd (s1, (W, H, P1), 0) (.returned (.tuple #[.agg #[.int .i64 W, .int .i64 H, .slice (some ⟨gp, 0, none⟩) nP nP], .int .i64 0])) (((wr.setCell ⟨b12, 0, none⟩ (.int .i64 W)).setCell ⟨b12, 1, none⟩ (.int .i64 H)).setCell ⟨b12, 2, none⟩ (.slice (some ⟨gp, 0, none⟩) nP nP)) := by
     have hne : ∀ k, T k → k ≠ b12 := fun k hk he => by have := HT2.out k hk; have := HB12.out.2; have := HS1.out; omega
     have hp := Kd.R_far (p := ⟨b12, 2, none⟩) (Kd.R_far (p := ⟨b12, 1, none⟩) (Kd.R_far (p := ⟨b12, 0, none⟩) HX.out.p hne (.int .i64 W)) hne (.int .i64 H)) hne (.slice (some ⟨gp, 0, none⟩) nP nP)
     have hl := HL.out
     refine ⟨some ⟨gp, 0, none⟩, nP, by rw [show P1.length = nP from hl], by rw [show P1.length = nP from hl]; exact Kd.R_mono hp (fun _ _ => trivial), ?_⟩
     exact (((⟨HX.out.d, HM9.out _ HX.out.m, HX.out.ok⟩ : IS DecAt w S gd s1 wr).set HS.out _ HB12.out.1 _).set HS.out _ HB12.out.1 _).set HS.out _ HB12.out.1 _
    clear hX hz
    go_wp2_with (fail)
    exact bodyPost_ret (gret36 HZW.out rfl rfl) rfl hP
end Go.Proofs.Ytkfejicdjpffcaa.Rgt
namespace Go.Proofs.Ytkfejicdjpffcaa.Rrg
open Go Go.RowKit YtkfejicdjpffcaaW PrintWords PrintLast PrintMore U Aid HandAid Cod1 Cod2 Cod3 Ytkfejicdjpffcaa.Mod NewRef Enc Mods EncAt Put End Snc Dec Get DecNew RefAt RDec RDecNew Isk Pse Rpx Rva Rfl Rcx Rty Rev Rdv Rrw Rmk Rgt
theorem gret38 {W : World} {b : Nat} {x y err : Int} {A : Option Addr} {n c : Nat} {tmps : Array Value} (hz : W.heap[b]? = some (.cells #[.int .i64 x, .int .i64 y, .slice A n c] 31 (0, 0))) (h2 : tmps.getD 12 undef = .pointer (some ⟨b, 0, none⟩)) (h3 : tmps.getD 13 undef = .int .i64 err) :
 (results Try.f38 tmps).run Try.prog W = .ok (.tuple #[.agg #[.int .i64 x, .int .i64 y, .slice A n c], .int .i64 err]) W := by
 have y0 : W.cell? ⟨b, 0, none⟩ = some (.int .i64 x) := (Zc hz 0).trans rfl
 have y1 : W.cell? ⟨b, 1, none⟩ = some (.int .i64 y) := (Zc hz 1).trans rfl
 have y2 : W.cell? ⟨b, 2, none⟩ = some (.slice A n c) := (Zc hz 2).trans rfl
 have hu := Try.underlying31
 rw [results_cell_tmp rfl, h2, h3]
 go_simp
theorem asked_get (t dx dy : Int) (ty : Bool) (kd W H : Int) (RW RH : Int) (RP : List Int) (base kind : Int) (st : List Int) (hn : st.length ≤ 8192) : incunableref08_asked.f t dx dy ty kd (okS W H && okB RW RH RP) base kind st = some (getErr ⟨t, dx, dy, ty, W, H, RW, RH, RP, base⟩ kd st.length) := by
 rw [asked_eq t dx dy ty kd _ base kind st hn]
 unfold getErr
 simp only [Bool.and_eq_true]
set_option maxHeartbeats 8000000 in
set_option maxRecDepth 100000 in
theorem refget_calls (w : World) (S : Nat → Prop) (gd : Nat) (s : DS) (base t dx dy : Int) (ty : Bool) (kd W H : Int) (RW RH : Int) (AR : Option Addr) (cR : Nat) (RP : List Int) (hE : RDecAt w S gd s) (hS : ∀ k, S k → k < w.heap.size) (hok : s.ok) (hA : ∀ V, Mods w V S → Kd.C (Kd.int .u8) V AR RP.length RP) (hcR : RP.length ≤ cR) (hbR : Bytes RP) (q : RQ) (hq : q = ⟨t, dx, dy, ty, W, H, RW, RH, RP, base⟩) (R : DS × (Int × Int × List Int) × Int) (hR : getD q kd s = R) :
 Calls Try.prog 38 #[.pointer (some ⟨gd, 0, none⟩), .int .i64 base, .agg #[.int .i64 t, .int .i64 dx, .int .i64 dy, .bool ty, .int .i64 kd], .int .i64 W, .int .i64 H, .agg #[.int .i64 RW, .int .i64 RH, .slice AR RP.length cR]] w (GPost RDecAt w S gd R) := by
 have HA := Za hA
 have HS := Za hS
 have HbR := Za hbR
 have HE := Za hE
 have HQQ := Za hq
 have HQF := Za (show ∀ x y, q.flat x y = flatP RW RH RP (x - dx) (y - dy) from fun x y => by rw [hq]; rfl)
 have HQC := Za (show ∀ P2 x y, q.base + q.ctx P2 x y = base + ctxP t dx dy W H P2 RW RH RP x y from fun P2 x y => by rw [hq]; rfl)
 have HQI := Za (show ∀ x y : Int, (y * q.W + x).toNat = (y * W + x).toNat from fun x y => by rw [hq])
 have hst : s.st.length ≤ 8192 := hok.m.2.1
 have hmR : RP.length ≤ 9223372036854775807 := Kd.C_max (hA w (Mods.refl w S))
 have HOK := Za hok
 obtain ⟨ER, hER⟩ : ∃ x, getErr q kd s.st.length = x := ⟨_, rfl⟩
 have hask := asked_get t dx dy ty kd W H RW RH RP base s.kind s.st hst
 rw [← hq, hER] at hask
 have HER := Za hER
 have hq1 : q.W = W := by rw [hq]
 have hq2 : q.H = H := by rw [hq]
 unfold getD at hR
 rw [hER, hq1, hq2] at hR
 have HR := Za hR
 obtain ⟨vs, hvs⟩ : ∃ x, okS W H = x := ⟨_, rfl⟩
 obtain ⟨vr, hvr⟩ : ∃ x, okB RW RH RP = x := ⟨_, rfl⟩
 rw [hvs, hvr] at hask
 have HVS := Za hvs
 have HIR0 := Za (show ∀ V, Mods w V S → Calls Try.prog 22 #[.agg #[.int .i64 RW, .int .i64 RH, .slice AR RP.length cR]] V fun e V' => e = .returned (.bool vr) ∧ Below V.heap.size V V' from fun V hV => by
  obtain ⟨K1, hK1⟩ := Ev.rounds (isbitmap_ev RW RH RP hmR)
  rw [hvr] at hK1
  exact incunableref06_IsBitmap.calls K1 RW RH AR cR RP _ _ (hA _ hV) hcR hK1)
 have hu1 := Try.underlying125
 have hu3 := Try.underlying23
 have hu4 := Try.underlying31
 have hu5 := Try.underlying45
 obtain ⟨A, c, vo, hRR⟩ := hE
 have HRR0 := Za hRR
 clear hRR hA hS hbR hok hR hER hq hvs hvr hq1 hq2
 go_enter Try.func38, Try.ntmps38
 go_wp2_with (fail)
 obtain ⟨b12, hb12⟩ : ∃ x, w.heap.size + 1 + 1 = x := ⟨_, rfl⟩
 obtain ⟨b11, hb11⟩ : ∃ x, w.heap.size + 1 = x := ⟨_, rfl⟩
 obtain ⟨b8, hb8⟩ : ∃ x, w.heap.size = x := ⟨_, rfl⟩
 obtain ⟨W1, hW1⟩ : ∃ x, ((w.alloc (.cells #[.int .i64 t, .int .i64 dx, .int .i64 dy, .bool ty, .int .i64 kd] 23)).alloc (.cells #[.int .i64 RW, .int .i64 RH, .slice AR RP.length cR] 31)).alloc (.cells #[.int .i64 0, .int .i64 0, .slice none 0 0] 31) = x := ⟨_, rfl⟩
 have HB1 := Za (show Below w.heap.size w W1 from hW1 ▸ b1' (b1' (b1' (Below.refl _ _) _) _) _)
 have HZ12 := Za (show W1.heap[b12]? = some (.cells #[.int .i64 0, .int .i64 0, .slice none 0 0] 31 (0, 0)) by
  have h := heap_new ((w.alloc (.cells #[.int .i64 t, .int .i64 dx, .int .i64 dy, .bool ty, .int .i64 kd] 23)).alloc (.cells #[.int .i64 RW, .int .i64 RH, .slice AR RP.length cR] 31)) (.cells #[.int .i64 0, .int .i64 0, .slice none 0 0] 31)
  rw [World.size_alloc, World.size_alloc, hb12, hW1] at h
  exact h)
 have HZ11 := Za (show W1.heap[b11]? = some (.cells #[.int .i64 RW, .int .i64 RH, .slice AR RP.length cR] 31 (0, 0)) by
  have h := heap_new (w.alloc (.cells #[.int .i64 t, .int .i64 dx, .int .i64 dy, .bool ty, .int .i64 kd] 23)) (.cells #[.int .i64 RW, .int .i64 RH, .slice AR RP.length cR] 31)
  rw [World.size_alloc, hb11] at h
  rw [← hW1]
  exact k3' h _)
 have HZ8 := Za (show W1.heap[b8]? = some (.cells #[.int .i64 t, .int .i64 dx, .int .i64 dy, .bool ty, .int .i64 kd] 23 (0, 0)) by
  have h := heap_new w (.cells #[.int .i64 t, .int .i64 dx, .int .i64 dy, .bool ty, .int .i64 kd] 23)
  rw [hb8] at h
  rw [← hW1]
  exact k3' (k3' h _) _)
 have HGE := Za (show w.heap.size ≤ b8 ∧ w.heap.size ≤ b11 ∧ w.heap.size ≤ b12 by omega)
 have HLT := Za (show b8 < W1.heap.size ∧ b11 < W1.heap.size ∧ b12 < W1.heap.size from ⟨blk_lt HZ8.out, blk_lt HZ11.out, blk_lt HZ12.out⟩)
 rw [hb12, hb11, hb8, hW1]
 clear hb12 hb11 hb8 hW1
 have HIR := Za (show ∀ V, Below W1.heap.size W1 V → Calls Try.prog 22 #[.agg #[.int .i64 RW, .int .i64 RH, .slice AR RP.length cR]] V fun e V' => e = .returned (.bool vr) ∧ Below V.heap.size V V' from fun V hV => HIR0.out V ((Mods.of_below HB1.out S).below hV))
 have HIS := Za (show ∀ V, Below W1.heap.size W1 V → IS RDecAt w S gd s V from fun V hV => ⟨HE.out.below (below_then HB1.out HB1.out.size hV), (Mods.of_below HB1.out S).below hV, HOK.out⟩)
 have HRR := Za (HRR0.out.below HB1.out)
 have HD0 := Za (below_drew (Below.refl W1.heap.size W1))
 clear HIR0 HRR0
 cases vs
 · rw [Bool.false_and] at hask
   have HAS := Za hask
   clear hask
   refine start_ (n := 15) (S := fun w' => w'.cell? ⟨b8, 0, none⟩ = some (.int .i64 t) ∧ w'.cell? ⟨b8, 1, none⟩ = some (.int .i64 dx) ∧ w'.cell? ⟨b8, 2, none⟩ = some (.int .i64 dy) ∧ w'.cell? ⟨b8, 3, none⟩ = some (.bool ty) ∧ w'.cell? ⟨b8, 4, none⟩ = some (.int .i64 kd) ∧ w'.cell? ⟨b11, 0, none⟩ = some (.int .i64 RW) ∧ w'.cell? ⟨b11, 1, none⟩ = some (.int .i64 RH) ∧ w'.cell? ⟨b11, 2, none⟩ = some (.slice AR RP.length cR) ∧ w'.cell? ⟨gd, 0, none⟩ = some (.int .i64 s.kind) ∧ w'.cell? ⟨gd, 1, none⟩ = some (.slice A s.st.length c)) (ds := []) (B' 15 0) (by kernel_rfl) rfl rfl ⟨(Zc (Zd HZ8.out HD0.out) 0).trans rfl, (Zc (Zd HZ8.out HD0.out) 1).trans rfl, (Zc (Zd HZ8.out HD0.out) 2).trans rfl, (Zc (Zd HZ8.out HD0.out) 3).trans rfl, (Zc (Zd HZ8.out HD0.out) 4).trans rfl, (Zc (Zd HZ11.out HD0.out) 0).trans rfl, (Zc (Zd HZ11.out HD0.out) 1).trans rfl, (Zc (Zd HZ11.out HD0.out) 2).trans rfl, (HRR.out.below HD0.out).c0, (HRR.out.below HD0.out).c1⟩ (fun hHeld => ?_)
   refine u' 1 30 (B' 15 2) ?_ rfl rfl ?_ ?_ ?_ ?_; rotate_left; (intro w'; go_simp; with_reducible rfl); rotate_left; (simp only [Act.put, p1', p2', p3', w1', w2']; rfl)
   refine u' 2 31 (B' 15 6) ?_ rfl rfl ?_ ?_ ?_ ?_; rotate_left; (intro w'; go_simp; with_reducible rfl); rotate_left; (simp only [Act.put, p1', p2', p3', w1', w2']; rfl)
   refine u' 8 37 (B' 15 262) ?_ rfl rfl ?_ ?_ ?_ ?_; rotate_left; (intro w'; go_simp; with_reducible rfl); rotate_left; (simp only [Act.put, p1', p2', p3', w1', w2']; rfl)
   refine u' 9 38 (B' 15 774) ?_ rfl rfl ?_ ?_ ?_ ?_; rotate_left; (intro w'; go_simp; with_reducible rfl); rotate_left; (simp only [Act.put, p1', p2', p3', w1', w2']; rfl)
   refine u' 10 39 (B' 15 1798) ?_ rfl rfl ?_ ?_ ?_ ?_; rotate_left; (intro w'; go_simp; with_reducible rfl); rotate_left; (simp only [Act.put, p1', p2', p3', w1', w2']; rfl)
   refine u' 11 40 (B' 15 3846) ?_ rfl rfl ?_ ?_ ?_ ?_; rotate_left; (intro w'; go_simp; with_reducible rfl); rotate_left; (simp only [Act.put, p1', p2', p3', w1', w2']; rfl)
   refine t' 0 29 (B' 15 3847) ?_ rfl rfl ?_ hHeld ?_ ?_ ?_; rotate_left; (rintro w' ⟨s0, s1, s2, s3, s4, s5, s6, s7, s8, s9⟩; go_simp; with_reducible rfl); rotate_left; (simp only [Act.put, p1', p2', p3', w1', w2']; rfl)
   refine t' 12 41 (B' 15 7943) ?_ rfl rfl ?_ hHeld ?_ ?_ ?_; rotate_left; (rintro w' ⟨s0, s1, s2, s3, s4, s5, s6, s7, s8, s9⟩; go_simp; with_reducible rfl); rotate_left; (simp only [Act.put, p1', p2', p3', w1', w2']; rfl)
   refine one_ (i := 3) (N := some 32) (B' 15 7951) rfl rfl (by kernel_rfl) (by decide) (fun K hK => ?_)
   refine goes_ Try.func49 (by kernel_rfl) rfl #[.int .i64 W, .int .i64 H] (by rfl) rfl rfl (by simp only [List.map_toArray, List.map_cons, List.map_nil]; rfl) ?_
   with_reducible refine (incunableref06_IsSize.calls W H false _ (by rw [issize_eq, HVS.out])).mono ?_
   rintro e X1 ⟨rfl, hdr⟩
   refine ⟨_, rfl, ?_⟩
   have HD1 := Za (below_then HD0.out HD0.out.size hdr.below)
   clear hdr
   refine hK.out _ _ ⟨(Zc (Zd HZ8.out HD1.out) 0).trans rfl, (Zc (Zd HZ8.out HD1.out) 1).trans rfl, (Zc (Zd HZ8.out HD1.out) 2).trans rfl, (Zc (Zd HZ8.out HD1.out) 3).trans rfl, (Zc (Zd HZ8.out HD1.out) 4).trans rfl, (Zc (Zd HZ11.out HD1.out) 0).trans rfl, (Zc (Zd HZ11.out HD1.out) 1).trans rfl, (Zc (Zd HZ11.out HD1.out) 2).trans rfl, (HRR.out.below HD1.out).c0, (HRR.out.below HD1.out).c1⟩ (fun hHeld => ?_)
   clear hK K
   refine n' ?_ ?_ ?_; rotate_left; (show Act.put _ (some 32) _ = _; simp only [Act.put, p1', p2', p3', w1', w2']; rfl)
   refine u' 4 33 (B' 15 7967) ?_ rfl rfl ?_ ?_ ?_ ?_; rotate_left; (intro w'; go_simp; with_reducible rfl); rotate_left; (simp only [Act.put, p1', p2', p3', w1', w2']; rfl)
   refine pure_ (i := 5) (N := some 34) (v := undef) (a' := ?_) (B' 15 7999) rfl rfl (by kernel_rfl) (fun _ _ _ h => h) (Or.inr ⟨by rfl, rfl⟩) ?_ ?_
   rotate_left
   · simp only [Act.put, p1', p2', p3', w1', w2']
     rfl
   refine pure_ (i := 6) (N := some 35) (v := undef) (a' := ?_) (B' 15 8063) rfl rfl (by kernel_rfl) (fun _ _ _ h => h) (Or.inr ⟨by rfl, rfl⟩) ?_ ?_
   rotate_left
   · simp only [Act.put, p1', p2', p3', w1', w2']
     rfl
   refine u' 7 36 (B' 15 8191) ?_ rfl rfl ?_ ?_ ?_ ?_; rotate_left; (intro w'; go_simp; with_reducible rfl); rotate_left; (simp only [Act.put, p1', p2', p3', w1', w2']; rfl)
   refine one_ (i := 13) (N := some 42) (B' 15 16383) rfl rfl (by kernel_rfl) (by decide) (fun K hK => ?_)
   refine goes_ Try.func68 (by kernel_rfl) rfl #[.agg #[.int .i64 t, .int .i64 dx, .int .i64 dy, .bool ty, .int .i64 kd], .bool false, .int .i64 base, .agg #[.int .i64 s.kind, .slice A s.st.length c]] (by rfl) rfl rfl (by simp only [List.map_toArray, List.map_cons, List.map_nil]; rfl) ?_
   with_reducible refine (Hsm.asked_calls t dx dy ty kd false base s.kind A c s.st hst ER (Option.some.inj ((asked_eq t dx dy ty kd false base s.kind s.st hst).symm.trans HAS.out)) _).mono ?_
   rintro e X3 ⟨rfl, hb⟩
   refine ⟨_, rfl, ?_⟩
   have HD3 := Za (below_then HD1.out HD1.out.size hb)
   clear hb
   refine hK.out _ _ ⟨(Zc (Zd HZ8.out HD3.out) 0).trans rfl, (Zc (Zd HZ8.out HD3.out) 1).trans rfl, (Zc (Zd HZ8.out HD3.out) 2).trans rfl, (Zc (Zd HZ8.out HD3.out) 3).trans rfl, (Zc (Zd HZ8.out HD3.out) 4).trans rfl, (Zc (Zd HZ11.out HD3.out) 0).trans rfl, (Zc (Zd HZ11.out HD3.out) 1).trans rfl, (Zc (Zd HZ11.out HD3.out) 2).trans rfl, (HRR.out.below HD3.out).c0, (HRR.out.below HD3.out).c1⟩ (fun hHeld => ?_)
   clear hK K
   refine n' ?_ ?_ ?_; rotate_left; (show Act.put _ (some 42) _ = _; simp only [Act.put, p1', p2', p3', w1', w2']; rfl)
   refine u' 14 14 (B' 15 32767) ?_ rfl rfl ?_ ?_ ?_ ?_; rotate_left; (intro w'; go_simp; with_reducible rfl); rotate_left; (simp only [Act.put, p1', p2', p3', w1', w2']; rfl)
   refine done_ (by kernel_rfl) ?_
   have hbad : ER ≠ 0 := fun h => by have hz := getErr_zero (q := q) (kd := kd) (n := s.st.length) (HER.out.trans h); rw [HQQ.out] at hz; have := hz.2.1.symm.trans HVS.out; exact absurd this (by decide)
   have e1 : (ER != 0) = true := bne_iff_ne.mpr hbad
   have hR := HR.out
   rw [if_neg hbad] at hR
   subst hR
   clear hbad
   have hz := Zd HZ12.out HD3.out
   have m0 : X3.cell? ⟨b12, 0, none⟩ = some (.int .i64 0) := (Zc hz 0).trans rfl
   have m1 : X3.cell? ⟨b12, 1, none⟩ = some (.int .i64 0) := (Zc hz 1).trans rfl
   have m2 : X3.cell? ⟨b12, 2, none⟩ = some (.slice none 0 0) := (Zc hz 2).trans rfl
   have k0 := Zf hz 0
   have k1 := Zf hz 1
   have k2 := Zf hz 2
   have HZW := Za (zset3 hz (.int .i64 0) (.int .i64 0) (.slice none 0 0))
   have hP := GPost.bad (At := RDecAt) (w := w) (S := S) (gd := gd) (s := s) (b := b12) ER (HIS.out _ HD3.out) HS.out HGE.out.2.2
   clear hz
   go_wp2_with (fail)
   exact bodyPost_ret (gret38 HZW.out rfl rfl) rfl hP
 rw [Bool.true_and] at hask
 have HAS := Za hask
 clear hask
 refine start_ (n := 15) (S := fun w' => w'.cell? ⟨b8, 0, none⟩ = some (.int .i64 t) ∧ w'.cell? ⟨b8, 1, none⟩ = some (.int .i64 dx) ∧ w'.cell? ⟨b8, 2, none⟩ = some (.int .i64 dy) ∧ w'.cell? ⟨b8, 3, none⟩ = some (.bool ty) ∧ w'.cell? ⟨b8, 4, none⟩ = some (.int .i64 kd) ∧ w'.cell? ⟨b11, 0, none⟩ = some (.int .i64 RW) ∧ w'.cell? ⟨b11, 1, none⟩ = some (.int .i64 RH) ∧ w'.cell? ⟨b11, 2, none⟩ = some (.slice AR RP.length cR) ∧ w'.cell? ⟨gd, 0, none⟩ = some (.int .i64 s.kind) ∧ w'.cell? ⟨gd, 1, none⟩ = some (.slice A s.st.length c)) (ds := []) (B' 15 0) (by kernel_rfl) rfl rfl ⟨(Zc (Zd HZ8.out HD0.out) 0).trans rfl, (Zc (Zd HZ8.out HD0.out) 1).trans rfl, (Zc (Zd HZ8.out HD0.out) 2).trans rfl, (Zc (Zd HZ8.out HD0.out) 3).trans rfl, (Zc (Zd HZ8.out HD0.out) 4).trans rfl, (Zc (Zd HZ11.out HD0.out) 0).trans rfl, (Zc (Zd HZ11.out HD0.out) 1).trans rfl, (Zc (Zd HZ11.out HD0.out) 2).trans rfl, (HRR.out.below HD0.out).c0, (HRR.out.below HD0.out).c1⟩ (fun hHeld => ?_)
 refine u' 1 30 (B' 15 2) ?_ rfl rfl ?_ ?_ ?_ ?_; rotate_left; (intro w'; go_simp; with_reducible rfl); rotate_left; (simp only [Act.put, p1', p2', p3', w1', w2']; rfl)
 refine u' 2 31 (B' 15 6) ?_ rfl rfl ?_ ?_ ?_ ?_; rotate_left; (intro w'; go_simp; with_reducible rfl); rotate_left; (simp only [Act.put, p1', p2', p3', w1', w2']; rfl)
 refine u' 8 37 (B' 15 262) ?_ rfl rfl ?_ ?_ ?_ ?_; rotate_left; (intro w'; go_simp; with_reducible rfl); rotate_left; (simp only [Act.put, p1', p2', p3', w1', w2']; rfl)
 refine u' 9 38 (B' 15 774) ?_ rfl rfl ?_ ?_ ?_ ?_; rotate_left; (intro w'; go_simp; with_reducible rfl); rotate_left; (simp only [Act.put, p1', p2', p3', w1', w2']; rfl)
 refine u' 10 39 (B' 15 1798) ?_ rfl rfl ?_ ?_ ?_ ?_; rotate_left; (intro w'; go_simp; with_reducible rfl); rotate_left; (simp only [Act.put, p1', p2', p3', w1', w2']; rfl)
 refine u' 11 40 (B' 15 3846) ?_ rfl rfl ?_ ?_ ?_ ?_; rotate_left; (intro w'; go_simp; with_reducible rfl); rotate_left; (simp only [Act.put, p1', p2', p3', w1', w2']; rfl)
 refine t' 0 29 (B' 15 3847) ?_ rfl rfl ?_ hHeld ?_ ?_ ?_; rotate_left; (rintro w' ⟨s0, s1, s2, s3, s4, s5, s6, s7, s8, s9⟩; go_simp; with_reducible rfl); rotate_left; (simp only [Act.put, p1', p2', p3', w1', w2']; rfl)
 refine t' 12 41 (B' 15 7943) ?_ rfl rfl ?_ hHeld ?_ ?_ ?_; rotate_left; (rintro w' ⟨s0, s1, s2, s3, s4, s5, s6, s7, s8, s9⟩; go_simp; with_reducible rfl); rotate_left; (simp only [Act.put, p1', p2', p3', w1', w2']; rfl)
 refine one_ (i := 3) (N := some 32) (B' 15 7951) rfl rfl (by kernel_rfl) (by decide) (fun K hK => ?_)
 refine goes_ Try.func49 (by kernel_rfl) rfl #[.int .i64 W, .int .i64 H] (by rfl) rfl rfl (by simp only [List.map_toArray, List.map_cons, List.map_nil]; rfl) ?_
 with_reducible refine (incunableref06_IsSize.calls W H true _ (by rw [issize_eq, HVS.out])).mono ?_
 rintro e X1 ⟨rfl, hdr⟩
 refine ⟨_, rfl, ?_⟩
 have HD1 := Za (below_then HD0.out HD0.out.size hdr.below)
 clear hdr
 refine hK.out _ _ ⟨(Zc (Zd HZ8.out HD1.out) 0).trans rfl, (Zc (Zd HZ8.out HD1.out) 1).trans rfl, (Zc (Zd HZ8.out HD1.out) 2).trans rfl, (Zc (Zd HZ8.out HD1.out) 3).trans rfl, (Zc (Zd HZ8.out HD1.out) 4).trans rfl, (Zc (Zd HZ11.out HD1.out) 0).trans rfl, (Zc (Zd HZ11.out HD1.out) 1).trans rfl, (Zc (Zd HZ11.out HD1.out) 2).trans rfl, (HRR.out.below HD1.out).c0, (HRR.out.below HD1.out).c1⟩ (fun hHeld => ?_)
 clear hK K
 refine n' ?_ ?_ ?_; rotate_left; (show Act.put _ (some 32) _ = _; simp only [Act.put, p1', p2', p3', w1', w2']; rfl)
 refine u' 4 33 (B' 15 7967) ?_ rfl rfl ?_ ?_ ?_ ?_; rotate_left; (intro w'; go_simp; with_reducible rfl); rotate_left; (simp only [Act.put, p1', p2', p3', w1', w2']; rfl)
 refine t' 5 34 (B' 15 7999) ?_ rfl rfl ?_ hHeld ?_ ?_ ?_; rotate_left; (rintro w' ⟨s0, s1, s2, s3, s4, s5, s6, s7, s8, s9⟩; go_simp; with_reducible rfl); rotate_left; (simp only [Act.put, p1', p2', p3', w1', w2']; rfl)
 refine one_ (i := 6) (N := some 35) (B' 15 8063) rfl rfl (by kernel_rfl) (by decide) (fun K hK => ?_)
 refine goes_ Try.func22 (by kernel_rfl) rfl #[.agg #[.int .i64 RW, .int .i64 RH, .slice AR RP.length cR]] (by rfl) rfl rfl (by simp only [List.map_toArray, List.map_cons, List.map_nil]; rfl) ?_
 with_reducible refine (HIR.out _ HD1.out).mono ?_
 rintro e X2 ⟨rfl, hb⟩
 refine ⟨_, rfl, ?_⟩
 have HD2 := Za (below_then HD1.out HD1.out.size hb)
 clear hb
 refine hK.out _ _ ⟨(Zc (Zd HZ8.out HD2.out) 0).trans rfl, (Zc (Zd HZ8.out HD2.out) 1).trans rfl, (Zc (Zd HZ8.out HD2.out) 2).trans rfl, (Zc (Zd HZ8.out HD2.out) 3).trans rfl, (Zc (Zd HZ8.out HD2.out) 4).trans rfl, (Zc (Zd HZ11.out HD2.out) 0).trans rfl, (Zc (Zd HZ11.out HD2.out) 1).trans rfl, (Zc (Zd HZ11.out HD2.out) 2).trans rfl, (HRR.out.below HD2.out).c0, (HRR.out.below HD2.out).c1⟩ (fun hHeld => ?_)
 clear hK K
 refine n' ?_ ?_ ?_; rotate_left; (show Act.put _ (some 35) _ = _; simp only [Act.put, p1', p2', p3', w1', w2']; rfl)
 refine u' 7 36 (B' 15 8191) ?_ rfl rfl ?_ ?_ ?_ ?_; rotate_left; (intro w'; go_simp; with_reducible rfl); rotate_left; (simp only [Act.put, p1', p2', p3', w1', w2']; rfl)
 refine one_ (i := 13) (N := some 42) (B' 15 16383) rfl rfl (by kernel_rfl) (by decide) (fun K hK => ?_)
 refine goes_ Try.func68 (by kernel_rfl) rfl #[.agg #[.int .i64 t, .int .i64 dx, .int .i64 dy, .bool ty, .int .i64 kd], .bool vr, .int .i64 base, .agg #[.int .i64 s.kind, .slice A s.st.length c]] (by rfl) rfl rfl (by simp only [List.map_toArray, List.map_cons, List.map_nil]; rfl) ?_
 with_reducible refine (Hsm.asked_calls t dx dy ty kd vr base s.kind A c s.st hst ER (Option.some.inj ((asked_eq t dx dy ty kd vr base s.kind s.st hst).symm.trans HAS.out)) _).mono ?_
 rintro e X3 ⟨rfl, hb⟩
 refine ⟨_, rfl, ?_⟩
 have HD3 := Za (below_then HD2.out HD2.out.size hb)
 clear hb
 refine hK.out _ _ ⟨(Zc (Zd HZ8.out HD3.out) 0).trans rfl, (Zc (Zd HZ8.out HD3.out) 1).trans rfl, (Zc (Zd HZ8.out HD3.out) 2).trans rfl, (Zc (Zd HZ8.out HD3.out) 3).trans rfl, (Zc (Zd HZ8.out HD3.out) 4).trans rfl, (Zc (Zd HZ11.out HD3.out) 0).trans rfl, (Zc (Zd HZ11.out HD3.out) 1).trans rfl, (Zc (Zd HZ11.out HD3.out) 2).trans rfl, (HRR.out.below HD3.out).c0, (HRR.out.below HD3.out).c1⟩ (fun hHeld => ?_)
 clear hK K
 refine n' ?_ ?_ ?_; rotate_left; (show Act.put _ (some 42) _ = _; simp only [Act.put, p1', p2', p3', w1', w2']; rfl)
 refine u' 14 14 (B' 15 32767) ?_ rfl rfl ?_ ?_ ?_ ?_; rotate_left; (intro w'; go_simp; with_reducible rfl); rotate_left; (simp only [Act.put, p1', p2', p3', w1', w2']; rfl)
 refine done_ (by kernel_rfl) ?_
 by_cases hE0 : ER = 0
 · have e1 : (ER != 0) = false := by simp [hE0]
   have hz := getErr_zero (q := q) (kd := kd) (n := s.st.length) (HER.out.trans hE0)
   have hR := HR.out
   rw [if_pos hE0] at hR
   have HR := Za hR
   rw [HQQ.out] at hz
   have hoo := okO_iff.1 hz.1
   have HBR := Za (okB_bm HbR.out hz.2.2.1).1
   have HBN := Za (bm_new hz.2.1)
   have hsz := okS_iff.1 hz.2.1
   simp only at hsz
   have har := area hsz.1 hsz.2.1 hsz.2.2.1 hsz.2.2.2.1
   have HT := Za hoo.1
   have HOO := Za hoo
   have hff := okF_iff.1 hz.2.2.2
   simp only at hff
   have hcx := ctxs_range t
   clear hR hz hE0 hoo
   obtain ⟨nP, hnp⟩ : ∃ n, (W * H).toNat = n := ⟨_, rfl⟩
   have hR := HR.out
   rw [hnp] at hR
   have HR := Za hR
   have hwh : W * H = (nP : Int) := by omega
   simp only at HBN
   rw [hnp] at HBN
   have hnP : nP ≤ 1000000 := by omega
   have hnPi : (nP : Int) ≤ 8192 := by omega
   clear hR hnp
   have q0 : X3.cell? ⟨b8, 0, none⟩ = some (.int .i64 t) := (Zc (Zd HZ8.out HD3.out) 0).trans rfl
   go_wp2_with (fail)
   refine (incunableref08_size.calls t (ctxs t + 1) _ (size_eq t)).mono ?_
   rintro e W8 ⟨rfl, hdr⟩
   have HD8 := Za (below_then HD3.out HD3.out.size hdr.below)
   clear q0 hdr
   have hu6 : Try.prog.underlying 29 = _ := Try.underlying29
   go_wp2_with (with_reducible refine gate_dst (N := 58) rfl ?_; refine Kd.event_run rfl (make_step _ (.tmp 57) (.tmp 57) rfl (nP : Int) nP rfl rfl rfl hnP) ?_; (obtain ⟨gp, hgp⟩ : ∃ x, W8.heap.size = x := ⟨_, rfl⟩); (obtain ⟨W8a, hW8a⟩ : ∃ x, W8.alloc (.cells (zcells nP) 5) = x := ⟨_, rfl⟩); have HROW := Za (show Kd.R (Kd.int .u8) 5 W8a w.heap.size (fun k => k = gp) (.slice (some ⟨gp, 0, none⟩) nP nP) (List.replicate nP 0) from hW8a ▸ hgp ▸ made_row W8 w.heap.size nP (Nat.le_trans HB1.out.size HD8.out.size) hnP); have HD8a := Za (show Below W1.heap.size W1 W8a from hW8a ▸ b1' HD8.out _); have HGP := Za (show W1.heap.size ≤ gp ∧ gp < W8a.heap.size from ⟨by have := HD8.out.size; omega, by rw [← hW8a, World.size_alloc]; omega⟩); rw [hgp, hW8a]; clear hgp hW8a; obtain ⟨b16, hb16⟩ : ∃ x, W8a.heap.size = x := ⟨_, rfl⟩; (obtain ⟨W9, hW9⟩ : ∃ x, W8a.alloc (.cells #[.int .i64 W, .int .i64 H, .slice (some ⟨gp, 0, none⟩) nP nP] 31) = x := ⟨_, rfl⟩); have HD9 := Za (show Below W1.heap.size W1 W9 from hW9 ▸ b1' HD8a.out _); have HROW := Za (show Kd.R (Kd.int .u8) 5 W9 w.heap.size (fun k => k = gp) (.slice (some ⟨gp, 0, none⟩) nP nP) (List.replicate nP 0) from hW9 ▸ Kd.R_below HROW.out (b1' (Below.refl _ _) _)); have HZ16 := Za (show W9.heap[b16]? = some (.cells #[.int .i64 W, .int .i64 H, .slice (some ⟨gp, 0, none⟩) nP nP] 31 (0, 0)) from hW9 ▸ hb16 ▸ heap_new W8a _); have HG16 := Za (show gp < b16 ∧ W1.heap.size ≤ b16 from ⟨by have := HGP.out; omega, by have := HD8a.out.size; omega⟩))
   clear hW9 hb16
   have HW19 := Za (Nat.le_trans HB1.out.size HD9.out.size)
   obtain ⟨T, hT⟩ : ∃ T : Nat → Prop, (fun k => k = gp) = T := ⟨_, rfl⟩
   have HT2 := Za (show ∀ k, T k → k = gp from hT ▸ fun k hk => hk)
   have HTG := Za (show T gp from hT ▸ rfl)
   have hwg : w.heap.size ≤ gp := Nat.le_trans HB1.out.size HGP.out.1
   have HST := Za (show ∀ k, T k → ¬ S k from fun k hk hs => by have := HT2.out k hk; have := HS.out k hs; omega)
   have HS9 := Za (show ∀ k, S k → k < W9.heap.size from fun k hk => Nat.lt_of_lt_of_le (HS.out k hk) HW19.out)
   have HX := Za (show GX RDecAt W9 S T w.heap.size gd s (.slice (some ⟨gp, 0, none⟩) nP nP) (List.replicate nP 0) W9 from ⟨HE.out.below (below_then HB1.out HB1.out.size HD9.out), hT ▸ HROW.out, Mods.refl _ _, HOK.out⟩)
   have HM9 := Za (show ∀ V, Mods W9 V (fun k => S k ∨ T k) → Mods w V S from fun V hV => ((Mods.of_below HB1.out S).below HD9.out).then_ hV (fun k hk => hk.imp id (fun h => by rw [HT2.out k h]; exact hwg)))
   have HNO := Za (show ∀ b, w.heap.size ≤ b → b ≠ gp → ¬ (S b ∨ T b) from fun b h1 h2 hk => hk.elim (fun h => by have := HS.out b h; omega) (fun h => h2 (HT2.out b h)))
   have HZ12 := Za (show ∀ V, Mods W9 V (fun k => S k ∨ T k) → V.heap[b12]? = some (.cells #[.int .i64 0, .int .i64 0, .slice none 0 0] 31 (0, 0)) from fun V hV => blk_mods (Zd HZ12.out HD9.out) hV (HNO.out _ HGE.out.2.2 (by have := HLT.out.2.2; have := HGP.out.1; omega)))
   have HZ8 := Za (show ∀ V, Mods W9 V (fun k => S k ∨ T k) → V.heap[b8]? = some (.cells #[.int .i64 t, .int .i64 dx, .int .i64 dy, .bool ty, .int .i64 kd] 23 (0, 0)) from fun V hV => blk_mods (Zd HZ8.out HD9.out) hV (HNO.out _ HGE.out.1 (by have := HLT.out.1; have := HGP.out.1; omega)))
   have HZ11 := Za (show ∀ V, Mods W9 V (fun k => S k ∨ T k) → V.heap[b11]? = some (.cells #[.int .i64 RW, .int .i64 RH, .slice AR RP.length cR] 31 (0, 0)) from fun V hV => blk_mods (Zd HZ11.out HD9.out) hV (HNO.out _ HGE.out.2.1 (by have := HLT.out.2.1; have := HGP.out.1; omega)))
   have HZ16 := Za (show ∀ V, Mods W9 V (fun k => S k ∨ T k) → V.heap[b16]? = some (.cells #[.int .i64 W, .int .i64 H, .slice (some ⟨gp, 0, none⟩) nP nP] 31 (0, 0)) from fun V hV => blk_mods HZ16.out hV (HNO.out _ (Nat.le_trans HB1.out.size HG16.out.2) (by have := HG16.out.1; omega)))
   have HAL := Za (show ∀ V, Mods w V S → ∀ x y, (-100000 ≤ x ∧ x ≤ 100000) → (-100000 ≤ y ∧ y ≤ 100000) → Calls Try.prog 41 #[.agg #[.int .i64 t, .int .i64 dx, .int .i64 dy, .bool ty, .int .i64 kd], .agg #[.int .i64 RW, .int .i64 RH, .slice AR RP.length cR], .int .i64 x, .int .i64 y] V fun e V' => e = .returned (.tuple #[.int .u8 (flatP RW RH RP (x - dx) (y - dy)).1, .bool (flatP RW RH RP (x - dx) (y - dy)).2]) ∧ Below V.heap.size V V' from fun V hV x y hx hy => by
    obtain ⟨K1, hK1⟩ := Ev.rounds (alike_ev HBR.out t dx dy ty kd x y hx hy (by have := HOO.out; omega) (by have := HOO.out; omega))
    exact incunableref08_Alike.calls K1 t dx dy ty kd RW RH AR cR RP x y _ _ V (HA.out V hV) hcR hK1)
   have HCT := Za (show ∀ V (s2 : DS) P2, GX RDecAt W9 S T w.heap.size gd s2 (.slice (some ⟨gp, 0, none⟩) nP nP) P2 V → P2.length = nP → Bm W H P2 → ∀ x y, (-100000 ≤ x ∧ x ≤ 100000) → (-100000 ≤ y ∧ y ≤ 100000) → Calls Try.prog 40 #[.agg #[.int .i64 t, .int .i64 dx, .int .i64 dy, .bool ty, .int .i64 kd], .agg #[.int .i64 W, .int .i64 H, .slice (some ⟨gp, 0, none⟩) nP nP], .agg #[.int .i64 RW, .int .i64 RH, .slice AR RP.length cR], .int .i64 x, .int .i64 y] V fun e V' => e = .returned (.int .i64 (ctxP t dx dy W H P2 RW RH RP x y)) ∧ Below V.heap.size V V' from fun V s2 P2 hG hl hb2 x y hx hy => by
    subst hl
    obtain ⟨K1, hK1⟩ := Ev.rounds (context_ev hb2 HBR.out t dx dy ty kd x y hx hy (by have := HOO.out; omega) (by have := HOO.out; omega))
    exact incunableref08_Context.calls K1 t dx dy ty kd W H (some ⟨gp, 0, none⟩) P2.length P2 RW RH AR cR RP x y _ V (Kd.R_reads' hG.p).2.2 (Nat.le_refl _) (HA.out V (HM9.out V hG.m)) hcR hK1)
   obtain ⟨R1, hR1⟩ : ∃ x, rowsD q H.toNat 0 s (List.replicate nP 0) = x := ⟨_, rfl⟩
   have hR := HR.out
   rw [hR1] at hR
   have HR1 := Za (show rowsD q (H.toNat - 0) 0 s (List.replicate nP 0) = R1 from hR1)
   have HR := Za hR
   have HL0 := Za (show (List.replicate nP (0 : Int)).length = nP from List.length_replicate)
   have hw : 0 ≤ W ∧ W ≤ 200 := ⟨hsz.1, hsz.2.1⟩
   have hh : 0 ≤ H ∧ H ≤ 200 := ⟨hsz.2.2.1, hsz.2.2.2.1⟩
   clear hR hR1 hT HROW hwg HD1 HD2 HD3 HD8 HD8a HRR HIR HAS hwh hsz har
   go_wp2_with (fail)
   go_loopw [17] (fun j wr => ∃ (k : Nat) (s1 : DS) (P1 : List Int), k ≤ H.toNat ∧ j = .int .i64 k ∧ Aside0 (rowsD q (H.toNat - k) k s1 P1 = R1) ∧ Aside0 (P1.length = nP) ∧ Aside0 (Bm W H P1) ∧ Aside0 (GX RDecAt W9 S T w.heap.size gd s1 (.slice (some ⟨gp, 0, none⟩) nP nP) P1 wr)) (fun j _ => H.toNat - (intOf j).toNat)
   case atStart => exact ⟨0, s, _, Nat.zero_le _, rfl, HR1, HL0, HBN, HX⟩
   clear HR1 HL0 HBN HX
   case round =>
    obtain ⟨k, s1, P1, hk, rfl, HX1, HL1, HBM1, HQ1⟩ := hrel
    by_cases hlt : k < H.toNat
    · have hltk : (k : Int) < H := by omega
      have hX := HX1.out
      rw [show H.toNat - k = (H.toNat - (k + 1)) + 1 by omega] at hX
      unfold rowsD at hX
      obtain ⟨Rh, hrr⟩ : ∃ r, rowH q (k : Int) s1 P1 = r := ⟨_, rfl⟩
      rw [hrr] at hX
      have HHD := Za hX
      have HRF := Za (show ∀ er : Int, er ≠ 0 → ∀ {sx : DS} {Px : List Int}, (if er = 0 then rowsD q (H.toNat - (k + 1)) (k + 1) sx Px else (sx, Px, er)) = R1 → (sx, ((0 : Int), (0 : Int), ([] : List Int)), er) = R from fun er her sx Px h => by
       have hR := HR.out
       rw [if_neg her] at h
       rw [← h] at hR
       simp only at hR
       rw [if_neg her] at hR
       exact hR)
      have HRN := Za (show ∀ {sx : DS} {Px : List Int}, (if True then rowsD q (H.toNat - (k + 1)) (k + 1) sx Px else (sx, Px, 0)) = R1 → rowsD q (H.toNat - (k + 1)) (k + 1) sx Px = R1 from fun h => by rw [if_pos trivial] at h; exact h)
      unfold rowH at hrr
      have hq1 : q.ty = ty := by rw [HQQ.out]
      have hq2 : q.W = W := by rw [HQQ.out]
      have hq3 : q.base + ctxs q.t = base + ctxs t := by rw [HQQ.out]
      rw [hq1, hq2, hq3] at hrr
      have z3 : wr.cell? ⟨b8, 3, none⟩ = some (.bool ty) := (Zc (HZ8.out _ HQ1.out.m) 3).trans rfl
      clear hX HX1 hq1 hq2 hq3
      cases ty
      · rw [if_neg (by decide)] at hrr
        have HRH := Za (show rowD q (k : Int) 0 (W.toNat - 0) 0 s1 P1 = Rh from hrr)
        clear hrr
        go_wp2_with (fail)
        clear z3
        obtain ⟨V, hV⟩ : ∃ V, V = wr := ⟨_, rfl⟩
        subst hV
        go_loopw [21] (fun i wr => ∃ (m : Nat) (s2 : DS) (P2 : List Int), m ≤ W.toNat ∧ i = .int .i64 m ∧ Aside0 (rowD q (k : Int) 0 (W.toNat - m) m s2 P2 = Rh) ∧ Aside0 (P2.length = nP) ∧ Aside0 (Bm W H P2) ∧ Aside0 (GX RDecAt W9 S T w.heap.size gd s2 (.slice (some ⟨gp, 0, none⟩) nP nP) P2 wr)) (fun i _ => W.toNat - (intOf i).toNat)
        case atStart => exact ⟨0, _, _, Nat.zero_le _, rfl, HRH, HL1, HBM1, HQ1⟩
        clear HRH HL1 HBM1 HQ1
        case round =>
         obtain ⟨m, s2, P2, hm, rfl, HX, HL, HBM2, HQ⟩ := hrel
         by_cases hltm : m < W.toNat
         · have hltm2 : (m : Int) < W := by omega
           have hat := HBM2.out.at_ (x := (m : Int)) (y := (k : Int)) (by omega) (by omega) hltm2 hltk
           obtain ⟨yw, hyw⟩ : ∃ z, (k : Int) * W = z := ⟨_, rfl⟩
           rw [hyw] at hat
           obtain ⟨ix, hix⟩ : ∃ ix : Nat, yw + (m : Int) = ix := ⟨(yw + m).toNat, by omega⟩
           rw [hix] at hat
           have hixl : ix < P2.length := by omega
           have hyw0 : 0 ≤ yw ∧ yw ≤ 40000 := ⟨hat.1, hat.2.1⟩
           have hix0 : (ix : Int) ≤ 9223372036854775807 := by omega
           have hixn : ix < nP := by have := HL.out; omega
           have hixn2 : (ix : Int) < nP := by omega
           clear hat
           have q80 : wr.cell? ⟨b8, 0, none⟩ = some (.int .i64 t) := (Zc (HZ8.out _ HQ.out.m) 0).trans rfl
           have q81 : wr.cell? ⟨b8, 1, none⟩ = some (.int .i64 dx) := (Zc (HZ8.out _ HQ.out.m) 1).trans rfl
           have q82 : wr.cell? ⟨b8, 2, none⟩ = some (.int .i64 dy) := (Zc (HZ8.out _ HQ.out.m) 2).trans rfl
           have q83 : wr.cell? ⟨b8, 3, none⟩ = some (.bool false) := (Zc (HZ8.out _ HQ.out.m) 3).trans rfl
           have q84 : wr.cell? ⟨b8, 4, none⟩ = some (.int .i64 kd) := (Zc (HZ8.out _ HQ.out.m) 4).trans rfl
           have q110 : wr.cell? ⟨b11, 0, none⟩ = some (.int .i64 RW) := (Zc (HZ11.out _ HQ.out.m) 0).trans rfl
           have q111 : wr.cell? ⟨b11, 1, none⟩ = some (.int .i64 RH) := (Zc (HZ11.out _ HQ.out.m) 1).trans rfl
           have q112 : wr.cell? ⟨b11, 2, none⟩ = some (.slice AR RP.length cR) := (Zc (HZ11.out _ HQ.out.m) 2).trans rfl
           go_wp2_with (fail)
           refine (HAL.out _ (HM9.out _ HQ.out.m) (m : Int) (k : Int) (by omega) (by omega)).mono ?_
           rintro e X0 ⟨rfl, hb⟩
           have HQ := Za (HQ.out.below hb)
           clear hb q80 q81 q82 q83 q84 q110 q111 q112
           have hfp := flatP_01 HBR.out ((m : Int) - dx) ((k : Int) - dy)
           obtain ⟨⟨fc, is⟩, hF⟩ : ∃ r, flatP RW RH RP ((m : Int) - dx) ((k : Int) - dy) = r := ⟨_, rfl⟩
           rw [hF] at hfp ⊢
           have HF := Za (show q.flat (m : Int) (k : Int) = (fc, is) by rw [HQF.out, hF])
           clear hF
           simp only at hfp ⊢
           have hX := HX.out
           rw [show W.toNat - m = (W.toNat - (m + 1)) + 1 by omega] at hX
           unfold rowD at hX
           rw [if_neg (show ¬ ((0 : Int) = 1 ∧ (q.flat (m : Int) (k : Int)).2 = true) by simp), HQC.out, HQI.out, hyw, hix, Int.toNat_natCast] at hX
           have hcr := ctxP_range HBM2.out HBR.out t dx dy (m : Int) (k : Int) HT.out
           obtain ⟨⟨s3, bt, er⟩, hg⟩ : ∃ r, s2.getI (base + ctxP t dx dy W H P2 RW RH RP (m : Int) (k : Int)) = r := ⟨_, rfl⟩
           have hbt : 0 ≤ bt ∧ bt ≤ 1 := by have := bit_range s2 (base + ctxP t dx dy W H P2 RW RH RP (m : Int) (k : Int)); rw [hg] at this; exact this
           rw [hg] at hX
           simp only at hX
           have HG := Za hg
           have HX2 := Za hX
           clear hX hg
           have q80 : X0.cell? ⟨b8, 0, none⟩ = some (.int .i64 t) := (Zc (HZ8.out _ HQ.out.m) 0).trans rfl
           have q81 : X0.cell? ⟨b8, 1, none⟩ = some (.int .i64 dx) := (Zc (HZ8.out _ HQ.out.m) 1).trans rfl
           have q82 : X0.cell? ⟨b8, 2, none⟩ = some (.int .i64 dy) := (Zc (HZ8.out _ HQ.out.m) 2).trans rfl
           have q83 : X0.cell? ⟨b8, 3, none⟩ = some (.bool false) := (Zc (HZ8.out _ HQ.out.m) 3).trans rfl
           have q84 : X0.cell? ⟨b8, 4, none⟩ = some (.int .i64 kd) := (Zc (HZ8.out _ HQ.out.m) 4).trans rfl
           have q160 : X0.cell? ⟨b16, 0, none⟩ = some (.int .i64 W) := (Zc (HZ16.out _ HQ.out.m) 0).trans rfl
           have q161 : X0.cell? ⟨b16, 1, none⟩ = some (.int .i64 H) := (Zc (HZ16.out _ HQ.out.m) 1).trans rfl
           have q162 : X0.cell? ⟨b16, 2, none⟩ = some (.slice (some ⟨gp, 0, none⟩) nP nP) := (Zc (HZ16.out _ HQ.out.m) 2).trans rfl
           have q110 : X0.cell? ⟨b11, 0, none⟩ = some (.int .i64 RW) := (Zc (HZ11.out _ HQ.out.m) 0).trans rfl
           have q111 : X0.cell? ⟨b11, 1, none⟩ = some (.int .i64 RH) := (Zc (HZ11.out _ HQ.out.m) 1).trans rfl
           have q112 : X0.cell? ⟨b11, 2, none⟩ = some (.slice AR RP.length cR) := (Zc (HZ11.out _ HQ.out.m) 2).trans rfl
           go_wp2_with (fail)
           refine (HCT.out _ s2 P2 HQ.out HL.out HBM2.out (m : Int) (k : Int) (by omega) (by omega)).mono ?_
           rintro e X1 ⟨rfl, hb⟩
           have HQ := Za (HQ.out.below hb)
           clear hb q80 q81 q82 q83 q84 q160 q161 q162 q110 q111 q112
           go_wp2_with (fail)
           refine (HQ.out.rget HS9.out HST.out (base + ctxP t dx dy W H P2 RW RH RP (m : Int) (k : Int)) (by first | rfl | (rw [wrap_id] <;> omega))).mono ?_
           rintro e X2 ⟨rfl, hq⟩
           rw [HG.out] at hq ⊢
           simp only at hq ⊢
           have HQ := Za hq
           clear hq HG hcr
           have hX := HX2.out
           clear HX2
           by_cases her : er = 0
           · rw [if_pos her] at hX
             have e1 : (er != 0) = false := by simp [her]
             have HX2 := Za hX
             clear hX her
             have c162 : X2.cell? ⟨b16, 2, none⟩ = some (.slice (some ⟨gp, 0, none⟩) nP nP) := (Zc (HZ16.out _ HQ.out.m) 2).trans rfl
             have hce := HQ.out.cell HL.out.symm ix hixl
             have hfz := hce.2
             have hcv := hce.1
             clear hce
             go_wp2_with (fail)
             refine ⟨⟨m + 1, s3, P2.set ix bt, by omega, by go_num, HX2, ⟨by rw [List.length_set]; exact HL.out⟩, ⟨bm_set HBM2.out _ (by omega)⟩, ⟨?_⟩⟩, by simp [intOf]; omega⟩
             have hf := HQ.out.set HL.out.symm HST.out HTG.out ix bt
             first | exact hf | (rw [show bt % 256 = bt by omega]; exact hf) | (rw [show IntKind.wrap .u8 bt = bt by simp [IntKind.wrap, IntKind.bits, IntKind.signed]; omega]; exact hf)
           · rw [if_neg her] at hX
             have e1 : (er != 0) = true := bne_iff_ne.mpr her
             have hq := HHD.out
             rw [← hX] at hq
             simp only at hq
             have hR := HRF.out er her hq
             subst hR
             clear her hX hq
             have hz := HZ12.out _ HQ.out.m
             have m0 : X2.cell? ⟨b12, 0, none⟩ = some (.int .i64 0) := (Zc hz 0).trans rfl
             have m1 : X2.cell? ⟨b12, 1, none⟩ = some (.int .i64 0) := (Zc hz 1).trans rfl
             have m2 : X2.cell? ⟨b12, 2, none⟩ = some (.slice none 0 0) := (Zc hz 2).trans rfl
             have k0 := Zf hz 0
             have k1 := Zf hz 1
             have k2 := Zf hz 2
             have HZW := Za (zset3 hz (.int .i64 0) (.int .i64 0) (.slice none 0 0))
             have hP := GPost.bad (At := RDecAt) (w := w) (S := S) (gd := gd) (s := s3) (b := b12) er ⟨HQ.out.d, HM9.out _ HQ.out.m, HQ.out.ok⟩ HS.out HGE.out.2.2
             clear hz
             go_wp2_with (fail)
             exact bodyPost_ret (gret38 HZW.out rfl rfl) rfl hP
         · have hX := HX.out
           rw [show W.toNat - m = 0 by omega] at hX
           simp only [rowD] at hX
           have hq := HHD.out
           rw [← hX] at hq
           simp only at hq
           have HX2 := Za (HRN.out hq)
           clear hX hq
           go_wp2_with (fail)
           exact ⟨⟨k + 1, s2, P2, by omega, by go_num, HX2, HL, HBM2, HQ⟩, by simp [intOf]; omega⟩
      · rw [if_pos rfl] at hrr
        obtain ⟨⟨s1b, bh, er1⟩, hg⟩ : ∃ r, s1.getI (base + ctxs t) = r := ⟨_, rfl⟩
        have hbh : 0 ≤ bh ∧ bh ≤ 1 := by have := bit_range s1 (base + ctxs t); rw [hg] at this; exact this
        rw [hg] at hrr
        simp only at hrr
        have HG1 := Za hg
        have HRR1 := Za hrr
        clear hg hrr
        go_wp2_with (fail)
        refine (HQ1.out.rget HS9.out HST.out (base + ctxs t) (by first | rfl | omega | (rw [wrap_id] <;> omega))).mono ?_
        rintro e V2 ⟨rfl, hx⟩
        rw [HG1.out] at hx ⊢
        simp only at hx ⊢
        have HQ1 := Za hx
        have hrr := HRR1.out
        clear hx HG1 HRR1 z3
        by_cases her : er1 = 0
        · rw [if_pos her] at hrr
          have e1 : (er1 != 0) = false := by simp [her]
          clear her
          have h01 : bh = 0 ∨ bh = 1 := by omega
          rcases h01 with rfl | rfl
          · have HRH := Za (show rowD q (k : Int) 0 (W.toNat - 0) 0 s1b P1 = Rh from hrr)
            clear hrr
            go_wp2_with (fail)
            go_loopw [21] (fun i wr => ∃ (m : Nat) (s2 : DS) (P2 : List Int), m ≤ W.toNat ∧ i = .int .i64 m ∧ Aside0 (rowD q (k : Int) 0 (W.toNat - m) m s2 P2 = Rh) ∧ Aside0 (P2.length = nP) ∧ Aside0 (Bm W H P2) ∧ Aside0 (GX RDecAt W9 S T w.heap.size gd s2 (.slice (some ⟨gp, 0, none⟩) nP nP) P2 wr)) (fun i _ => W.toNat - (intOf i).toNat)
            case atStart => exact ⟨0, _, _, Nat.zero_le _, rfl, HRH, HL1, HBM1, HQ1⟩
            clear HRH HL1 HBM1 HQ1
            case round =>
             obtain ⟨m, s2, P2, hm, rfl, HX, HL, HBM2, HQ⟩ := hrel
             by_cases hltm : m < W.toNat
             · have hltm2 : (m : Int) < W := by omega
               have hat := HBM2.out.at_ (x := (m : Int)) (y := (k : Int)) (by omega) (by omega) hltm2 hltk
               obtain ⟨yw, hyw⟩ : ∃ z, (k : Int) * W = z := ⟨_, rfl⟩
               rw [hyw] at hat
               obtain ⟨ix, hix⟩ : ∃ ix : Nat, yw + (m : Int) = ix := ⟨(yw + m).toNat, by omega⟩
               rw [hix] at hat
               have hixl : ix < P2.length := by omega
               have hyw0 : 0 ≤ yw ∧ yw ≤ 40000 := ⟨hat.1, hat.2.1⟩
               have hix0 : (ix : Int) ≤ 9223372036854775807 := by omega
               have hixn : ix < nP := by have := HL.out; omega
               have hixn2 : (ix : Int) < nP := by omega
               clear hat
               have q80 : wr.cell? ⟨b8, 0, none⟩ = some (.int .i64 t) := (Zc (HZ8.out _ HQ.out.m) 0).trans rfl
               have q81 : wr.cell? ⟨b8, 1, none⟩ = some (.int .i64 dx) := (Zc (HZ8.out _ HQ.out.m) 1).trans rfl
               have q82 : wr.cell? ⟨b8, 2, none⟩ = some (.int .i64 dy) := (Zc (HZ8.out _ HQ.out.m) 2).trans rfl
               have q83 : wr.cell? ⟨b8, 3, none⟩ = some (.bool true) := (Zc (HZ8.out _ HQ.out.m) 3).trans rfl
               have q84 : wr.cell? ⟨b8, 4, none⟩ = some (.int .i64 kd) := (Zc (HZ8.out _ HQ.out.m) 4).trans rfl
               have q110 : wr.cell? ⟨b11, 0, none⟩ = some (.int .i64 RW) := (Zc (HZ11.out _ HQ.out.m) 0).trans rfl
               have q111 : wr.cell? ⟨b11, 1, none⟩ = some (.int .i64 RH) := (Zc (HZ11.out _ HQ.out.m) 1).trans rfl
               have q112 : wr.cell? ⟨b11, 2, none⟩ = some (.slice AR RP.length cR) := (Zc (HZ11.out _ HQ.out.m) 2).trans rfl
               go_wp2_with (fail)
               refine (HAL.out _ (HM9.out _ HQ.out.m) (m : Int) (k : Int) (by omega) (by omega)).mono ?_
               rintro e X0 ⟨rfl, hb⟩
               have HQ := Za (HQ.out.below hb)
               clear hb q80 q81 q82 q83 q84 q110 q111 q112
               have hfp := flatP_01 HBR.out ((m : Int) - dx) ((k : Int) - dy)
               obtain ⟨⟨fc, is⟩, hF⟩ : ∃ r, flatP RW RH RP ((m : Int) - dx) ((k : Int) - dy) = r := ⟨_, rfl⟩
               rw [hF] at hfp ⊢
               have HF := Za (show q.flat (m : Int) (k : Int) = (fc, is) by rw [HQF.out, hF])
               clear hF
               simp only at hfp ⊢
               have hX := HX.out
               rw [show W.toNat - m = (W.toNat - (m + 1)) + 1 by omega] at hX
               unfold rowD at hX
               rw [if_neg (show ¬ ((0 : Int) = 1 ∧ (q.flat (m : Int) (k : Int)).2 = true) by simp), HQC.out, HQI.out, hyw, hix, Int.toNat_natCast] at hX
               have hcr := ctxP_range HBM2.out HBR.out t dx dy (m : Int) (k : Int) HT.out
               obtain ⟨⟨s3, bt, er⟩, hg⟩ : ∃ r, s2.getI (base + ctxP t dx dy W H P2 RW RH RP (m : Int) (k : Int)) = r := ⟨_, rfl⟩
               have hbt : 0 ≤ bt ∧ bt ≤ 1 := by have := bit_range s2 (base + ctxP t dx dy W H P2 RW RH RP (m : Int) (k : Int)); rw [hg] at this; exact this
               rw [hg] at hX
               simp only at hX
               have HG := Za hg
               have HX2 := Za hX
               clear hX hg
               have q80 : X0.cell? ⟨b8, 0, none⟩ = some (.int .i64 t) := (Zc (HZ8.out _ HQ.out.m) 0).trans rfl
               have q81 : X0.cell? ⟨b8, 1, none⟩ = some (.int .i64 dx) := (Zc (HZ8.out _ HQ.out.m) 1).trans rfl
               have q82 : X0.cell? ⟨b8, 2, none⟩ = some (.int .i64 dy) := (Zc (HZ8.out _ HQ.out.m) 2).trans rfl
               have q83 : X0.cell? ⟨b8, 3, none⟩ = some (.bool true) := (Zc (HZ8.out _ HQ.out.m) 3).trans rfl
               have q84 : X0.cell? ⟨b8, 4, none⟩ = some (.int .i64 kd) := (Zc (HZ8.out _ HQ.out.m) 4).trans rfl
               have q160 : X0.cell? ⟨b16, 0, none⟩ = some (.int .i64 W) := (Zc (HZ16.out _ HQ.out.m) 0).trans rfl
               have q161 : X0.cell? ⟨b16, 1, none⟩ = some (.int .i64 H) := (Zc (HZ16.out _ HQ.out.m) 1).trans rfl
               have q162 : X0.cell? ⟨b16, 2, none⟩ = some (.slice (some ⟨gp, 0, none⟩) nP nP) := (Zc (HZ16.out _ HQ.out.m) 2).trans rfl
               have q110 : X0.cell? ⟨b11, 0, none⟩ = some (.int .i64 RW) := (Zc (HZ11.out _ HQ.out.m) 0).trans rfl
               have q111 : X0.cell? ⟨b11, 1, none⟩ = some (.int .i64 RH) := (Zc (HZ11.out _ HQ.out.m) 1).trans rfl
               have q112 : X0.cell? ⟨b11, 2, none⟩ = some (.slice AR RP.length cR) := (Zc (HZ11.out _ HQ.out.m) 2).trans rfl
               go_wp2_with (fail)
               refine (HCT.out _ s2 P2 HQ.out HL.out HBM2.out (m : Int) (k : Int) (by omega) (by omega)).mono ?_
               rintro e X1 ⟨rfl, hb⟩
               have HQ := Za (HQ.out.below hb)
               clear hb q80 q81 q82 q83 q84 q160 q161 q162 q110 q111 q112
               go_wp2_with (fail)
               refine (HQ.out.rget HS9.out HST.out (base + ctxP t dx dy W H P2 RW RH RP (m : Int) (k : Int)) (by first | rfl | (rw [wrap_id] <;> omega))).mono ?_
               rintro e X2 ⟨rfl, hq⟩
               rw [HG.out] at hq ⊢
               simp only at hq ⊢
               have HQ := Za hq
               clear hq HG hcr
               have hX := HX2.out
               clear HX2
               by_cases her : er = 0
               · rw [if_pos her] at hX
                 have e1 : (er != 0) = false := by simp [her]
                 have HX2 := Za hX
                 clear hX her
                 have c162 : X2.cell? ⟨b16, 2, none⟩ = some (.slice (some ⟨gp, 0, none⟩) nP nP) := (Zc (HZ16.out _ HQ.out.m) 2).trans rfl
                 have hce := HQ.out.cell HL.out.symm ix hixl
                 have hfz := hce.2
                 have hcv := hce.1
                 clear hce
                 go_wp2_with (fail)
                 refine ⟨⟨m + 1, s3, P2.set ix bt, by omega, by go_num, HX2, ⟨by rw [List.length_set]; exact HL.out⟩, ⟨bm_set HBM2.out _ (by omega)⟩, ⟨?_⟩⟩, by simp [intOf]; omega⟩
                 have hf := HQ.out.set HL.out.symm HST.out HTG.out ix bt
                 first | exact hf | (rw [show bt % 256 = bt by omega]; exact hf) | (rw [show IntKind.wrap .u8 bt = bt by simp [IntKind.wrap, IntKind.bits, IntKind.signed]; omega]; exact hf)
               · rw [if_neg her] at hX
                 have e1 : (er != 0) = true := bne_iff_ne.mpr her
                 have hq := HHD.out
                 rw [← hX] at hq
                 simp only at hq
                 have hR := HRF.out er her hq
                 subst hR
                 clear her hX hq
                 have hz := HZ12.out _ HQ.out.m
                 have m0 : X2.cell? ⟨b12, 0, none⟩ = some (.int .i64 0) := (Zc hz 0).trans rfl
                 have m1 : X2.cell? ⟨b12, 1, none⟩ = some (.int .i64 0) := (Zc hz 1).trans rfl
                 have m2 : X2.cell? ⟨b12, 2, none⟩ = some (.slice none 0 0) := (Zc hz 2).trans rfl
                 have k0 := Zf hz 0
                 have k1 := Zf hz 1
                 have k2 := Zf hz 2
                 have HZW := Za (zset3 hz (.int .i64 0) (.int .i64 0) (.slice none 0 0))
                 have hP := GPost.bad (At := RDecAt) (w := w) (S := S) (gd := gd) (s := s3) (b := b12) er ⟨HQ.out.d, HM9.out _ HQ.out.m, HQ.out.ok⟩ HS.out HGE.out.2.2
                 clear hz
                 go_wp2_with (fail)
                 exact bodyPost_ret (gret38 HZW.out rfl rfl) rfl hP
             · have hX := HX.out
               rw [show W.toNat - m = 0 by omega] at hX
               simp only [rowD] at hX
               have hq := HHD.out
               rw [← hX] at hq
               simp only at hq
               have HX2 := Za (HRN.out hq)
               clear hX hq
               go_wp2_with (fail)
               exact ⟨⟨k + 1, s2, P2, by omega, by go_num, HX2, HL, HBM2, HQ⟩, by simp [intOf]; omega⟩
          · have HRH := Za (show rowD q (k : Int) 1 (W.toNat - 0) 0 s1b P1 = Rh from hrr)
            clear hrr
            go_wp2_with (fail)
            go_loopw [21] (fun i wr => ∃ (m : Nat) (s2 : DS) (P2 : List Int), m ≤ W.toNat ∧ i = .int .i64 m ∧ Aside0 (rowD q (k : Int) 1 (W.toNat - m) m s2 P2 = Rh) ∧ Aside0 (P2.length = nP) ∧ Aside0 (Bm W H P2) ∧ Aside0 (GX RDecAt W9 S T w.heap.size gd s2 (.slice (some ⟨gp, 0, none⟩) nP nP) P2 wr)) (fun i _ => W.toNat - (intOf i).toNat)
            case atStart => exact ⟨0, _, _, Nat.zero_le _, rfl, HRH, HL1, HBM1, HQ1⟩
            clear HRH HL1 HBM1 HQ1
            case round =>
             obtain ⟨m, s2, P2, hm, rfl, HX, HL, HBM2, HQ⟩ := hrel
             by_cases hltm : m < W.toNat
             · have hltm2 : (m : Int) < W := by omega
               have hat := HBM2.out.at_ (x := (m : Int)) (y := (k : Int)) (by omega) (by omega) hltm2 hltk
               obtain ⟨yw, hyw⟩ : ∃ z, (k : Int) * W = z := ⟨_, rfl⟩
               rw [hyw] at hat
               obtain ⟨ix, hix⟩ : ∃ ix : Nat, yw + (m : Int) = ix := ⟨(yw + m).toNat, by omega⟩
               rw [hix] at hat
               have hixl : ix < P2.length := by omega
               have hyw0 : 0 ≤ yw ∧ yw ≤ 40000 := ⟨hat.1, hat.2.1⟩
               have hix0 : (ix : Int) ≤ 9223372036854775807 := by omega
               have hixn : ix < nP := by have := HL.out; omega
               have hixn2 : (ix : Int) < nP := by omega
               clear hat
               have q80 : wr.cell? ⟨b8, 0, none⟩ = some (.int .i64 t) := (Zc (HZ8.out _ HQ.out.m) 0).trans rfl
               have q81 : wr.cell? ⟨b8, 1, none⟩ = some (.int .i64 dx) := (Zc (HZ8.out _ HQ.out.m) 1).trans rfl
               have q82 : wr.cell? ⟨b8, 2, none⟩ = some (.int .i64 dy) := (Zc (HZ8.out _ HQ.out.m) 2).trans rfl
               have q83 : wr.cell? ⟨b8, 3, none⟩ = some (.bool true) := (Zc (HZ8.out _ HQ.out.m) 3).trans rfl
               have q84 : wr.cell? ⟨b8, 4, none⟩ = some (.int .i64 kd) := (Zc (HZ8.out _ HQ.out.m) 4).trans rfl
               have q110 : wr.cell? ⟨b11, 0, none⟩ = some (.int .i64 RW) := (Zc (HZ11.out _ HQ.out.m) 0).trans rfl
               have q111 : wr.cell? ⟨b11, 1, none⟩ = some (.int .i64 RH) := (Zc (HZ11.out _ HQ.out.m) 1).trans rfl
               have q112 : wr.cell? ⟨b11, 2, none⟩ = some (.slice AR RP.length cR) := (Zc (HZ11.out _ HQ.out.m) 2).trans rfl
               go_wp2_with (fail)
               refine (HAL.out _ (HM9.out _ HQ.out.m) (m : Int) (k : Int) (by omega) (by omega)).mono ?_
               rintro e X0 ⟨rfl, hb⟩
               have HQ := Za (HQ.out.below hb)
               clear hb q80 q81 q82 q83 q84 q110 q111 q112
               have hfp := flatP_01 HBR.out ((m : Int) - dx) ((k : Int) - dy)
               obtain ⟨⟨fc, is⟩, hF⟩ : ∃ r, flatP RW RH RP ((m : Int) - dx) ((k : Int) - dy) = r := ⟨_, rfl⟩
               rw [hF] at hfp ⊢
               have HF := Za (show q.flat (m : Int) (k : Int) = (fc, is) by rw [HQF.out, hF])
               clear hF
               simp only at hfp ⊢
               cases is
               · have hX := HX.out
                 rw [show W.toNat - m = (W.toNat - (m + 1)) + 1 by omega] at hX
                 unfold rowD at hX
                 rw [if_neg (show ¬ ((1 : Int) = 1 ∧ (q.flat (m : Int) (k : Int)).2 = true) by rw [HF.out]; simp), HQC.out, HQI.out, hyw, hix, Int.toNat_natCast] at hX
                 have hcr := ctxP_range HBM2.out HBR.out t dx dy (m : Int) (k : Int) HT.out
                 obtain ⟨⟨s3, bt, er⟩, hg⟩ : ∃ r, s2.getI (base + ctxP t dx dy W H P2 RW RH RP (m : Int) (k : Int)) = r := ⟨_, rfl⟩
                 have hbt : 0 ≤ bt ∧ bt ≤ 1 := by have := bit_range s2 (base + ctxP t dx dy W H P2 RW RH RP (m : Int) (k : Int)); rw [hg] at this; exact this
                 rw [hg] at hX
                 simp only at hX
                 have HG := Za hg
                 have HX2 := Za hX
                 clear hX hg
                 have q80 : X0.cell? ⟨b8, 0, none⟩ = some (.int .i64 t) := (Zc (HZ8.out _ HQ.out.m) 0).trans rfl
                 have q81 : X0.cell? ⟨b8, 1, none⟩ = some (.int .i64 dx) := (Zc (HZ8.out _ HQ.out.m) 1).trans rfl
                 have q82 : X0.cell? ⟨b8, 2, none⟩ = some (.int .i64 dy) := (Zc (HZ8.out _ HQ.out.m) 2).trans rfl
                 have q83 : X0.cell? ⟨b8, 3, none⟩ = some (.bool true) := (Zc (HZ8.out _ HQ.out.m) 3).trans rfl
                 have q84 : X0.cell? ⟨b8, 4, none⟩ = some (.int .i64 kd) := (Zc (HZ8.out _ HQ.out.m) 4).trans rfl
                 have q160 : X0.cell? ⟨b16, 0, none⟩ = some (.int .i64 W) := (Zc (HZ16.out _ HQ.out.m) 0).trans rfl
                 have q161 : X0.cell? ⟨b16, 1, none⟩ = some (.int .i64 H) := (Zc (HZ16.out _ HQ.out.m) 1).trans rfl
                 have q162 : X0.cell? ⟨b16, 2, none⟩ = some (.slice (some ⟨gp, 0, none⟩) nP nP) := (Zc (HZ16.out _ HQ.out.m) 2).trans rfl
                 have q110 : X0.cell? ⟨b11, 0, none⟩ = some (.int .i64 RW) := (Zc (HZ11.out _ HQ.out.m) 0).trans rfl
                 have q111 : X0.cell? ⟨b11, 1, none⟩ = some (.int .i64 RH) := (Zc (HZ11.out _ HQ.out.m) 1).trans rfl
                 have q112 : X0.cell? ⟨b11, 2, none⟩ = some (.slice AR RP.length cR) := (Zc (HZ11.out _ HQ.out.m) 2).trans rfl
                 go_wp2_with (fail)
                 refine (HCT.out _ s2 P2 HQ.out HL.out HBM2.out (m : Int) (k : Int) (by omega) (by omega)).mono ?_
                 rintro e X1 ⟨rfl, hb⟩
                 have HQ := Za (HQ.out.below hb)
                 clear hb q80 q81 q82 q83 q84 q160 q161 q162 q110 q111 q112
                 go_wp2_with (fail)
                 refine (HQ.out.rget HS9.out HST.out (base + ctxP t dx dy W H P2 RW RH RP (m : Int) (k : Int)) (by first | rfl | (rw [wrap_id] <;> omega))).mono ?_
                 rintro e X2 ⟨rfl, hq⟩
                 rw [HG.out] at hq ⊢
                 simp only at hq ⊢
                 have HQ := Za hq
                 clear hq HG hcr
                 have hX := HX2.out
                 clear HX2
                 by_cases her : er = 0
                 · rw [if_pos her] at hX
                   have e1 : (er != 0) = false := by simp [her]
                   have HX2 := Za hX
                   clear hX her
                   have c162 : X2.cell? ⟨b16, 2, none⟩ = some (.slice (some ⟨gp, 0, none⟩) nP nP) := (Zc (HZ16.out _ HQ.out.m) 2).trans rfl
                   have hce := HQ.out.cell HL.out.symm ix hixl
                   have hfz := hce.2
                   have hcv := hce.1
                   clear hce
                   go_wp2_with (fail)
                   refine ⟨⟨m + 1, s3, P2.set ix bt, by omega, by go_num, HX2, ⟨by rw [List.length_set]; exact HL.out⟩, ⟨bm_set HBM2.out _ (by omega)⟩, ⟨?_⟩⟩, by simp [intOf]; omega⟩
                   have hf := HQ.out.set HL.out.symm HST.out HTG.out ix bt
                   first | exact hf | (rw [show bt % 256 = bt by omega]; exact hf) | (rw [show IntKind.wrap .u8 bt = bt by simp [IntKind.wrap, IntKind.bits, IntKind.signed]; omega]; exact hf)
                 · rw [if_neg her] at hX
                   have e1 : (er != 0) = true := bne_iff_ne.mpr her
                   have hq := HHD.out
                   rw [← hX] at hq
                   simp only at hq
                   have hR := HRF.out er her hq
                   subst hR
                   clear her hX hq
                   have hz := HZ12.out _ HQ.out.m
                   have m0 : X2.cell? ⟨b12, 0, none⟩ = some (.int .i64 0) := (Zc hz 0).trans rfl
                   have m1 : X2.cell? ⟨b12, 1, none⟩ = some (.int .i64 0) := (Zc hz 1).trans rfl
                   have m2 : X2.cell? ⟨b12, 2, none⟩ = some (.slice none 0 0) := (Zc hz 2).trans rfl
                   have k0 := Zf hz 0
                   have k1 := Zf hz 1
                   have k2 := Zf hz 2
                   have HZW := Za (zset3 hz (.int .i64 0) (.int .i64 0) (.slice none 0 0))
                   have hP := GPost.bad (At := RDecAt) (w := w) (S := S) (gd := gd) (s := s3) (b := b12) er ⟨HQ.out.d, HM9.out _ HQ.out.m, HQ.out.ok⟩ HS.out HGE.out.2.2
                   clear hz
                   go_wp2_with (fail)
                   exact bodyPost_ret (gret38 HZW.out rfl rfl) rfl hP
               · have hX := HX.out
                 rw [show W.toNat - m = (W.toNat - (m + 1)) + 1 by omega] at hX
                 unfold rowD at hX
                 rw [if_pos (show (1 : Int) = 1 ∧ (q.flat (m : Int) (k : Int)).2 = true from ⟨rfl, by rw [HF.out]⟩), HF.out, HQI.out, hyw, hix, Int.toNat_natCast] at hX
                 simp only at hX
                 have HX2 := Za hX
                 clear hX
                 have c162 : X0.cell? ⟨b16, 2, none⟩ = some (.slice (some ⟨gp, 0, none⟩) nP nP) := (Zc (HZ16.out _ HQ.out.m) 2).trans rfl
                 have hce := HQ.out.cell HL.out.symm ix hixl
                 have hfz := hce.2
                 have hcv := hce.1
                 clear hce
                 go_wp2_with (fail)
                 exact ⟨⟨m + 1, s2, P2.set ix fc, by omega, by go_num, HX2, ⟨by rw [List.length_set]; exact HL.out⟩, ⟨bm_set HBM2.out _ hfp⟩, ⟨HQ.out.set HL.out.symm HST.out HTG.out ix fc⟩⟩, by simp [intOf]; omega⟩
             · have hX := HX.out
               rw [show W.toNat - m = 0 by omega] at hX
               simp only [rowD] at hX
               have hq := HHD.out
               rw [← hX] at hq
               simp only at hq
               have HX2 := Za (HRN.out hq)
               clear hX hq
               go_wp2_with (fail)
               exact ⟨⟨k + 1, s2, P2, by omega, by go_num, HX2, HL, HBM2, HQ⟩, by simp [intOf]; omega⟩
        · rw [if_neg her] at hrr
          have e1 : (er1 != 0) = true := bne_iff_ne.mpr her
          have hq := HHD.out
          rw [← hrr] at hq
          simp only at hq
          have hR := HRF.out er1 her hq
          subst hR
          have HQ := HQ1
          clear her hrr hq
          have hz := HZ12.out _ HQ.out.m
          have m0 : V2.cell? ⟨b12, 0, none⟩ = some (.int .i64 0) := (Zc hz 0).trans rfl
          have m1 : V2.cell? ⟨b12, 1, none⟩ = some (.int .i64 0) := (Zc hz 1).trans rfl
          have m2 : V2.cell? ⟨b12, 2, none⟩ = some (.slice none 0 0) := (Zc hz 2).trans rfl
          have k0 := Zf hz 0
          have k1 := Zf hz 1
          have k2 := Zf hz 2
          have HZW := Za (zset3 hz (.int .i64 0) (.int .i64 0) (.slice none 0 0))
          have hP := GPost.bad (At := RDecAt) (w := w) (S := S) (gd := gd) (s := s1b) (b := b12) er1 ⟨HQ.out.d, HM9.out _ HQ.out.m, HQ.out.ok⟩ HS.out HGE.out.2.2
          clear hz
          go_wp2_with (fail)
          exact bodyPost_ret (gret38 HZW.out rfl rfl) rfl hP
    · have hX := HX1.out
      rw [show H.toNat - k = 0 by omega] at hX
      simp only [rowsD] at hX
      have hR := HR.out
      rw [← hX] at hR
      simp only [if_true] at hR
      subst hR
      have hz := HZ12.out _ HQ1.out.m
      have m0 : wr.cell? ⟨b12, 0, none⟩ = some (.int .i64 0) := (Zc hz 0).trans rfl
      have m1 : wr.cell? ⟨b12, 1, none⟩ = some (.int .i64 0) := (Zc hz 1).trans rfl
      have m2 : wr.cell? ⟨b12, 2, none⟩ = some (.slice none 0 0) := (Zc hz 2).trans rfl
      have k0 := Zf hz 0
      have k1 := Zf hz 1
      have k2 := Zf hz 2
      have HZW := Za (zset3 hz (.int .i64 W) (.int .i64 H) (.slice (some ⟨gp, 0, none⟩) nP nP))
      have q160 : wr.cell? ⟨b16, 0, none⟩ = some (.int .i64 W) := (Zc (HZ16.out _ HQ1.out.m) 0).trans rfl
      have q161 : wr.cell? ⟨b16, 1, none⟩ = some (.int .i64 H) := (Zc (HZ16.out _ HQ1.out.m) 1).trans rfl
      have q162 : wr.cell? ⟨b16, 2, none⟩ = some (.slice (some ⟨gp, 0, none⟩) nP nP) := (Zc (HZ16.out _ HQ1.out.m) 2).trans rfl
      have hP : GPost RDecAt w S gd (s1, (W, H, P1), 0) (.returned (.tuple #[.agg #[.int .i64 W, .int .i64 H, .slice (some ⟨gp, 0, none⟩) nP nP], .int .i64 0])) (((wr.setCell ⟨b12, 0, none⟩ (.int .i64 W)).setCell ⟨b12, 1, none⟩ (.int .i64 H)).setCell ⟨b12, 2, none⟩ (.slice (some ⟨gp, 0, none⟩) nP nP)) := by
       have hne : ∀ k, T k → k ≠ b12 := fun k hk he => by have := HT2.out k hk; have := HLT.out.2.2; have := HGP.out.1; omega
       have hp := Kd.R_far (p := ⟨b12, 2, none⟩) (Kd.R_far (p := ⟨b12, 1, none⟩) (Kd.R_far (p := ⟨b12, 0, none⟩) HQ1.out.p hne (.int .i64 W)) hne (.int .i64 H)) hne (.slice (some ⟨gp, 0, none⟩) nP nP)
       have hl := HL1.out
       refine ⟨some ⟨gp, 0, none⟩, nP, by rw [show P1.length = nP from hl], by rw [show P1.length = nP from hl]; exact Kd.R_mono hp (fun _ _ => trivial), ?_⟩
       exact (((⟨HQ1.out.d, HM9.out _ HQ1.out.m, HQ1.out.ok⟩ : IS RDecAt w S gd s1 wr).set HS.out _ HGE.out.2.2 _).set HS.out _ HGE.out.2.2 _).set HS.out _ HGE.out.2.2 _
      clear hX hz
      go_wp2_with (fail)
      exact bodyPost_ret (gret38 HZW.out rfl rfl) rfl hP
 · have hbad : ER ≠ 0 := hE0
   have e1 : (ER != 0) = true := bne_iff_ne.mpr hbad
   have hR := HR.out
   rw [if_neg hbad] at hR
   subst hR
   clear hbad
   have hz := Zd HZ12.out HD3.out
   have m0 : X3.cell? ⟨b12, 0, none⟩ = some (.int .i64 0) := (Zc hz 0).trans rfl
   have m1 : X3.cell? ⟨b12, 1, none⟩ = some (.int .i64 0) := (Zc hz 1).trans rfl
   have m2 : X3.cell? ⟨b12, 2, none⟩ = some (.slice none 0 0) := (Zc hz 2).trans rfl
   have k0 := Zf hz 0
   have k1 := Zf hz 1
   have k2 := Zf hz 2
   have HZW := Za (zset3 hz (.int .i64 0) (.int .i64 0) (.slice none 0 0))
   have hP := GPost.bad (At := RDecAt) (w := w) (S := S) (gd := gd) (s := s) (b := b12) ER (HIS.out _ HD3.out) HS.out HGE.out.2.2
   clear hz
   go_wp2_with (fail)
   exact bodyPost_ret (gret38 HZW.out rfl rfl) rfl hP
end Go.Proofs.Ytkfejicdjpffcaa.Rrg
namespace Go.Proofs.Ytkfejicdjpffcaa.Rde
open Go Go.RowKit YtkfejicdjpffcaaW PrintWords PrintLast PrintMore U Aid HandAid Cod1 Cod2 Cod3 Ytkfejicdjpffcaa.Mod NewRef Enc Mods EncAt Put End Snc Dec Get DecNew RefAt RDec RDecNew Isk Pse Pwk Rpx Rva Rfl Rcx Rty Rev Ren Rdv Rrw Rmk Rgt Rrg
/-- What Decode answers. -/
def decB (q : RQ) (kd : Int) (code : List Int) : (Int × Int × List Int) × Int := if okO q.t q.dx q.dy kd = true then ((getD q kd (newDS kd (List.replicate (ctxs q.t + 1).toNat 0) code)).2.1, (getD q kd (newDS kd (List.replicate (ctxs q.t + 1).toNat 0) code)).2.2) else ((0, 0, []), 2)
def DPost (w : World) (R : (Int × Int × List Int) × Int) (e : Ending) (W : World) : Prop :=
 ∃ A c, e = .returned (.tuple #[.agg #[.int .i64 R.1.1, .int .i64 R.1.2.1, .slice A R.1.2.2.length c], .int .i64 R.2]) ∧ Kd.R (Kd.int .u8) 5 W w.heap.size (fun _ => True) (.slice A R.1.2.2.length c) R.1.2.2 ∧ Below w.heap.size w W
theorem DPost.bad {w W : World} {b : Nat} (err : Int) (h : Below w.heap.size w W) (hb : w.heap.size ≤ b) : DPost w ((0, 0, []), err) (.returned (.tuple #[.agg #[.int .i64 0, .int .i64 0, .slice none 0 0], .int .i64 err])) (((W.setCell ⟨b, 0, none⟩ (.int .i64 0)).setCell ⟨b, 1, none⟩ (.int .i64 0)).setCell ⟨b, 2, none⟩ (.slice none 0 0)) :=
 ⟨none, 0, rfl, Kd.R_nil _ _ _ w.heap.size (fun _ => True), ((h.setCell hb _).setCell hb _).setCell hb _⟩
theorem row_from {α : Type} {d : Kd α} {e : Nat} {W : World} {base : Nat} {ok : Nat → Prop} {v : Value} {xs : List α} (h : Kd.R d e W base ok v xs) : Kd.R d e W base (fun k => base ≤ k ∧ ok k) v xs := Kd.R_mono (Kd.R_bound h) (fun k hk => ⟨hk.2.1, hk.1⟩)
theorem dret19 {W : World} {b : Nat} {x y err : Int} {A : Option Addr} {n c : Nat} {tmps : Array Value} (hz : W.heap[b]? = some (.cells #[.int .i64 x, .int .i64 y, .slice A n c] 31 (0, 0))) (h2 : tmps.getD 10 undef = .pointer (some ⟨b, 0, none⟩)) (h3 : tmps.getD 11 undef = .int .i64 err) :
 (results Try.f19 tmps).run Try.prog W = .ok (.tuple #[.agg #[.int .i64 x, .int .i64 y, .slice A n c], .int .i64 err]) W := by
 have y0 : W.cell? ⟨b, 0, none⟩ = some (.int .i64 x) := (Zc hz 0).trans rfl
 have y1 : W.cell? ⟨b, 1, none⟩ = some (.int .i64 y) := (Zc hz 1).trans rfl
 have y2 : W.cell? ⟨b, 2, none⟩ = some (.slice A n c) := (Zc hz 2).trans rfl
 have hu := Try.underlying31
 rw [results_cell_tmp rfl, h2, h3]
 go_simp
set_option maxHeartbeats 4000000 in
set_option maxRecDepth 100000 in
theorem rdecode_calls (w : World) (t dx dy : Int) (ty : Bool) (kd : Int) (AC : Option Addr) (cC : Nat) (code : List Int) (W H : Int) (RW RH : Int) (AR : Option Addr) (cR : Nat) (RP : List Int) (hdx : -9223372036854775808 ≤ dx ∧ dx ≤ 9223372036854775807) (hdy : -9223372036854775808 ≤ dy ∧ dy ≤ 9223372036854775807) (hC : Kd.C (Kd.int .u8) w AC code.length code) (hcC : code.length ≤ cC) (hbC : Bytes code) (hlen : code.length ≤ 1099511627776) (hA : Kd.C (Kd.int .u8) w AR RP.length RP) (hcR : RP.length ≤ cR) (hbR : Bytes RP) (R : (Int × Int × List Int) × Int) (hR : decB ⟨t, dx, dy, ty, W, H, RW, RH, RP, 0⟩ kd code = R) :
 Calls Try.prog 19 #[.agg #[.int .i64 t, .int .i64 dx, .int .i64 dy, .bool ty, .int .i64 kd], .slice AC code.length cC, .int .i64 W, .int .i64 H, .agg #[.int .i64 RW, .int .i64 RH, .slice AR RP.length cR]] w (DPost w R) := by
 have HC := Za hC
 have HA := Za hA
 have HbC := Za hbC
 have HbR := Za hbR
 have hmR : RP.length ≤ 9223372036854775807 := Kd.C_max hA
 obtain ⟨q, hq⟩ : ∃ q : RQ, q = ⟨t, dx, dy, ty, W, H, RW, RH, RP, 0⟩ := ⟨_, rfl⟩
 rw [← hq] at hR
 have HQQ := Za hq
 unfold decB at hR
 have e1 : okO q.t q.dx q.dy kd = okO t dx dy kd := by rw [hq]
 have e4 : ctxs q.t = ctxs t := by rw [hq]
 rw [e1, e4] at hR
 have HR := Za hR
 have hu3 := Try.underlying23
 have hu4 := Try.underlying31
 have hu5 := Try.underlying45
 clear hC hA hbC hbR hR hq e1 e4
 go_enter Try.func19, Try.ntmps19
 go_wp2_with (fail)
 obtain ⟨b10, hb10⟩ : ∃ x, w.heap.size + 1 + 1 = x := ⟨_, rfl⟩
 obtain ⟨b9, hb9⟩ : ∃ x, w.heap.size + 1 = x := ⟨_, rfl⟩
 obtain ⟨b5, hb5⟩ : ∃ x, w.heap.size = x := ⟨_, rfl⟩
 obtain ⟨W1, hW1⟩ : ∃ x, ((w.alloc (.cells #[.int .i64 t, .int .i64 dx, .int .i64 dy, .bool ty, .int .i64 kd] 23)).alloc (.cells #[.int .i64 RW, .int .i64 RH, .slice AR RP.length cR] 31)).alloc (.cells #[.int .i64 0, .int .i64 0, .slice none 0 0] 31) = x := ⟨_, rfl⟩
 have HB1 := Za (show Below w.heap.size w W1 from hW1 ▸ b1' (b1' (b1' (Below.refl _ _) _) _) _)
 have HZ10 := Za (show W1.heap[b10]? = some (.cells #[.int .i64 0, .int .i64 0, .slice none 0 0] 31 (0, 0)) by
  have h := heap_new ((w.alloc (.cells #[.int .i64 t, .int .i64 dx, .int .i64 dy, .bool ty, .int .i64 kd] 23)).alloc (.cells #[.int .i64 RW, .int .i64 RH, .slice AR RP.length cR] 31)) (.cells #[.int .i64 0, .int .i64 0, .slice none 0 0] 31)
  rw [World.size_alloc, World.size_alloc, hb10, hW1] at h
  exact h)
 have HZ9 := Za (show W1.heap[b9]? = some (.cells #[.int .i64 RW, .int .i64 RH, .slice AR RP.length cR] 31 (0, 0)) by
  have h := heap_new (w.alloc (.cells #[.int .i64 t, .int .i64 dx, .int .i64 dy, .bool ty, .int .i64 kd] 23)) (.cells #[.int .i64 RW, .int .i64 RH, .slice AR RP.length cR] 31)
  rw [World.size_alloc, hb9] at h
  rw [← hW1]
  exact k3' h _)
 have HZ5 := Za (show W1.heap[b5]? = some (.cells #[.int .i64 t, .int .i64 dx, .int .i64 dy, .bool ty, .int .i64 kd] 23 (0, 0)) by
  have h := heap_new w (.cells #[.int .i64 t, .int .i64 dx, .int .i64 dy, .bool ty, .int .i64 kd] 23)
  rw [hb5] at h
  rw [← hW1]
  exact k3' (k3' h _) _)
 have HG10 := Za (show w.heap.size ≤ b10 ∧ b10 < W1.heap.size from ⟨by omega, blk_lt HZ10.out⟩)
 rw [hb10, hb9, hb5, hW1]
 have HD1 := Za (Below.refl W1.heap.size W1)
 clear hb10 hb9 hb5 hW1
 refine (refine_Valid.calls t dx dy ty kd _ _ (valid_eq t dx dy ty kd hdx hdy)).mono ?_
 rintro e W3 ⟨rfl, hb⟩
 have HD3 := Za hb
 clear hb
 have hR := HR.out
 clear HR
 obtain ⟨vo, hvo⟩ : ∃ x, okO t dx dy kd = x := ⟨_, rfl⟩
 rw [hvo] at hR ⊢
 cases vo
 · rw [if_neg (show ¬ (false = true) by decide)] at hR
   subst hR
   clear hvo
   have hz := Zd HZ10.out HD3.out
   have m0 : W3.cell? ⟨b10, 0, none⟩ = some (.int .i64 0) := (Zc hz 0).trans rfl
   have m1 : W3.cell? ⟨b10, 1, none⟩ = some (.int .i64 0) := (Zc hz 1).trans rfl
   have m2 : W3.cell? ⟨b10, 2, none⟩ = some (.slice none 0 0) := (Zc hz 2).trans rfl
   have k0 := Zf hz 0
   have k1 := Zf hz 1
   have k2 := Zf hz 2
   have HZW := Za (zset3 hz (.int .i64 0) (.int .i64 0) (.slice none 0 0))
   have hP := DPost.bad (w := w) (b := b10) 2 (below_then HB1.out HB1.out.size HD3.out) HG10.out.1
   clear hz
   go_wp2_with (fail)
   exact bodyPost_ret (dret19 HZW.out rfl rfl) rfl hP
 rw [if_pos (show true = true from rfl)] at hR
 have hk := (okO_iff.1 hvo).2.1
 have HVO := Za hvo
 have HMO := Za (model_eq t dx dy ty kd hvo)
 have HK := Za (stN_ok t kd hk)
 clear hvo hk
 generalize List.replicate (ctxs t + 1).toNat (0 : Int) = st at hR HMO HK
 have HR := Za hR
 clear hR
 have q50 : W3.cell? ⟨b5, 0, none⟩ = some (.int .i64 t) := (Zc (Zd HZ5.out HD3.out) 0).trans rfl
 have q51 : W3.cell? ⟨b5, 1, none⟩ = some (.int .i64 dx) := (Zc (Zd HZ5.out HD3.out) 1).trans rfl
 have q52 : W3.cell? ⟨b5, 2, none⟩ = some (.int .i64 dy) := (Zc (Zd HZ5.out HD3.out) 2).trans rfl
 have q53 : W3.cell? ⟨b5, 3, none⟩ = some (.bool ty) := (Zc (Zd HZ5.out HD3.out) 3).trans rfl
 have q54 : W3.cell? ⟨b5, 4, none⟩ = some (.int .i64 kd) := (Zc (Zd HZ5.out HD3.out) 4).trans rfl
 go_wp2_with (fail)
 refine (refine_model.calls t dx dy ty kd kd st _ HMO.out).mono ?_
 rintro e W4 ⟨v, rfl, hRv, hb⟩
 obtain ⟨Am, cm, rfl⟩ := Kd.R_slice hRv
 have HD4 := Za (below_then HD3.out HD3.out.size hb)
 have hcm := (Kd.R_reads' hRv).2.1
 have HCM := Za (Kd.R_reads' hRv).2.2
 clear hRv hb q50 q51 q52 q53 q54
 go_wp2_with (fail)
 refine (new_dec Am cm kd st AC cC code _ HCM.out hcm HK.out (Kd.C_below HC.out (below_then HB1.out HB1.out.size HD4.out)) hcC HbC.out hlen).mono ?_
 rintro e W5 ⟨g, rfl, hE, hb⟩
 have HD5 := Za (below_then HD4.out HD4.out.size hb)
 have HE := Za hE
 have HSI := Za (show ∀ k, Since W4.heap.size W5 k → W1.heap.size ≤ k from fun k hk => Nat.le_trans HD4.out.size hk.1)
 have HSL := Za (show ∀ k, Since W4.heap.size W5 k → k < W5.heap.size from fun k hk => hk.2)
 have HBV := Za (show ∀ V, Mods W5 V (Since W4.heap.size W5) → Below W1.heap.size W1 V from fun V hV => below_mods HD5.out hV HSI.out HD5.out.size)
 generalize Since W4.heap.size W5 = S at HE HSI HSL HBV
 clear hE hb HCM hcm
 have q50 : W5.cell? ⟨b5, 0, none⟩ = some (.int .i64 t) := (Zc (Zd HZ5.out HD5.out) 0).trans rfl
 have q51 : W5.cell? ⟨b5, 1, none⟩ = some (.int .i64 dx) := (Zc (Zd HZ5.out HD5.out) 1).trans rfl
 have q52 : W5.cell? ⟨b5, 2, none⟩ = some (.int .i64 dy) := (Zc (Zd HZ5.out HD5.out) 2).trans rfl
 have q53 : W5.cell? ⟨b5, 3, none⟩ = some (.bool ty) := (Zc (Zd HZ5.out HD5.out) 3).trans rfl
 have q54 : W5.cell? ⟨b5, 4, none⟩ = some (.int .i64 kd) := (Zc (Zd HZ5.out HD5.out) 4).trans rfl
 have q90 : W5.cell? ⟨b9, 0, none⟩ = some (.int .i64 RW) := (Zc (Zd HZ9.out HD5.out) 0).trans rfl
 have q91 : W5.cell? ⟨b9, 1, none⟩ = some (.int .i64 RH) := (Zc (Zd HZ9.out HD5.out) 1).trans rfl
 have q92 : W5.cell? ⟨b9, 2, none⟩ = some (.slice AR RP.length cR) := (Zc (Zd HZ9.out HD5.out) 2).trans rfl
 go_wp2_with (fail)
 refine (rfget_calls W5 S g (newDS kd st code) 0 t dx dy ty kd W H RW RH AR cR RP HE.out HSL.out (newDS_ok HK.out HbC.out hlen) hdx hdy (fun V hV => Kd.C_below HA.out (below_then HB1.out HB1.out.size (HBV.out V hV))) hcR HbR.out q HQQ.out _ rfl).mono ?_
 rintro e W6 ⟨A6, c6, rfl, hR6, hI6⟩
 clear q50 q51 q52 q53 q54 q90 q91 q92 HE
 have HB6 := Za (HBV.out _ hI6.m)
 have hR := HR.out
 clear HR
 obtain ⟨⟨s6, ⟨x6, y6, P6⟩, e6⟩, hg6⟩ : ∃ r, getD q kd (newDS kd st code) = r := ⟨_, rfl⟩
 rw [hg6] at hR6 hR ⊢
 simp only at hR6 hR ⊢
 subst hR
 have HR6 := Za (Kd.R_lower hR6 (Nat.le_trans HB1.out.size HD5.out.size))
 have HNE := Za (show ∀ k, W5.heap.size ≤ k → k ≠ b10 from fun k hk he => by have := HG10.out.2; have := HD5.out.size; omega)
 have hR6b := row_from hR6
 clear hg6 hI6
 have hz := Zd HZ10.out HB6.out
 have m0 : W6.cell? ⟨b10, 0, none⟩ = some (.int .i64 0) := (Zc hz 0).trans rfl
 have m1 : W6.cell? ⟨b10, 1, none⟩ = some (.int .i64 0) := (Zc hz 1).trans rfl
 have m2 : W6.cell? ⟨b10, 2, none⟩ = some (.slice none 0 0) := (Zc hz 2).trans rfl
 have k0 := Zf hz 0
 have k1 := Zf hz 1
 have k2 := Zf hz 2
 have HZW := Za (zset3 hz (.int .i64 x6) (.int .i64 y6) (.slice A6 P6.length c6))
 have hP : DPost w ((x6, y6, P6), e6) (.returned (.tuple #[.agg #[.int .i64 x6, .int .i64 y6, .slice A6 P6.length c6], .int .i64 e6])) (((W6.setCell ⟨b10, 0, none⟩ (.int .i64 x6)).setCell ⟨b10, 1, none⟩ (.int .i64 y6)).setCell ⟨b10, 2, none⟩ (.slice A6 P6.length c6)) :=
  ⟨A6, c6, rfl, Kd.R_mono (Kd.R_lower (Kd.R_far (p := ⟨b10, 2, none⟩) (Kd.R_far (p := ⟨b10, 1, none⟩) (Kd.R_far (p := ⟨b10, 0, none⟩) hR6b (fun k hk => HNE.out k hk.1) (.int .i64 x6)) (fun k hk => HNE.out k hk.1) (.int .i64 y6)) (fun k hk => HNE.out k hk.1) (.slice A6 P6.length c6)) (Nat.le_trans HB1.out.size HD5.out.size)) (fun _ _ => trivial), (((below_then HB1.out HB1.out.size HB6.out).setCell HG10.out.1 _).setCell HG10.out.1 _).setCell HG10.out.1 _⟩
 clear hz hR6 hR6b
 go_wp2_with (fail)
 exact bodyPost_ret (dret19 HZW.out rfl rfl) rfl hP
end Go.Proofs.Ytkfejicdjpffcaa.Rde
namespace Go.Proofs.Ytkfejicdjpffcaa.Rbk
open Go Go.RowKit YtkfejicdjpffcaaW PrintWords PrintLast PrintMore U Aid HandAid Cod1 Cod2 Cod3 Ytkfejicdjpffcaa.Mod NewRef Enc Mods EncAt Put End Snc Dec Get DecNew Isk Pse Bkp Rpx Rva Rev Ren Rdv Rde
/-- The first n pixels are told. -/
structure Agr (P Pk : List Int) (n : Int) : Prop where
 l : Pk.length = P.length
 a : ∀ i : Int, 0 ≤ i → i < n → rd Pk i = rd P i
theorem rd_set_eq {l : List Int} {i : Nat} (h : i < l.length) (v : Int) : rd (l.set i v) (i : Int) = v := by
 rw [rd_at (by rw [List.length_set]; exact h)]
 simp
theorem rd_set_ne {l : List Int} {i : Nat} {j : Int} (h0 : 0 ≤ j) (hne : j ≠ (i : Int)) (v : Int) : rd (l.set i v) j = rd l j := by
 obtain ⟨k, rfl⟩ : ∃ k : Nat, j = (k : Int) := ⟨j.toNat, by omega⟩
 unfold rd
 rw [Int.toNat_natCast, List.getD_eq_getElem?_getD, List.getD_eq_getElem?_getD, List.getElem?_set]
 rw [if_neg (by omega)]
theorem Agr.set {P Pk : List Int} {n : Nat} (h : Agr P Pk (n : Int)) (hn : n < P.length) {v : Int} (hv : v = rd P (n : Int)) : Agr P (Pk.set n v) ((n : Int) + 1) := by
 refine ⟨by rw [List.length_set]; exact h.l, fun i h0 hi => ?_⟩
 by_cases c : i = (n : Int)
 · rw [c, rd_set_eq (by rw [h.l]; exact hn), hv]
 · rw [rd_set_ne h0 c]
   exact h.a i h0 (by omega)
theorem Agr.eq {P Pk : List Int} (h : Agr P Pk (P.length : Int)) : Pk = P := by
 apply List.ext_getElem h.l
 intro i h1 h2
 have := h.a (i : Int) (by omega) (by omega)
 rw [rd_at h1, rd_at h2] at this
 exact this
theorem px_agr {W H : Int} {P Pk : List Int} {n : Int} (hW : 0 ≤ W) (h : Agr P Pk n) (x y : Int) (hi : 0 ≤ x → 0 ≤ y → x < W → y < H → y * W + x < n) : px W H Pk x y = px W H P x y := by
 unfold px
 by_cases c : 0 ≤ x ∧ 0 ≤ y ∧ x < W ∧ y < H
 · rw [if_pos c, if_pos c]
   have := Int.mul_nonneg c.2.1 hW
   exact h.a _ (by omega) (hi c.1 c.2.1 c.2.2.1 c.2.2.2)
 · rw [if_neg c, if_neg c]
def behind (d : S127) : Prop := d.f1 = -1 ∨ (d.f1 = 0 ∧ d.f0 = -1)
theorem behind_news (t : Int) : ∀ d ∈ news t, behind d := by
 unfold news behind
 split <;> simp
theorem ctxN_agr {W H : Int} {P Pk : List Int} (hW : 0 ≤ W) (x y : Int) (hx : 0 ≤ x) (h : Agr P Pk (y * W + x)) : ∀ (l : List S127) (n : Int), (∀ d ∈ l, behind d) → ctxN W H Pk x y l n = ctxN W H P x y l n
 | [], n, _ => rfl
 | d :: l, n, hl => by
   simp only [ctxN]
   have e : px W H Pk (x + d.f0) (y + d.f1) = px W H P (x + d.f0) (y + d.f1) := by
    refine px_agr hW h _ _ (fun h1 h2 h3 h4 => ?_)
    rcases hl d List.mem_cons_self with hb | ⟨hb1, hb2⟩
    · rw [hb, Int.add_mul]
      omega
    · rw [hb1, hb2, Int.add_zero]
      omega
   rw [e]
   exact ctxN_agr hW x y hx h l _ (fun d hd => hl d (List.mem_cons_of_mem _ hd))
theorem ctx_agr (q : RQ) {P Pk : List Int} (hW : 0 ≤ q.W) (x y : Int) (hx : 0 ≤ x) (h : Agr P Pk (y * q.W + x)) : q.ctx Pk x y = q.ctx P x y := by
 unfold RQ.ctx ctxP
 rw [ctxN_agr hW x y hx h (news q.t) 0 (behind_news q.t)]
theorem rowP_spec (dx dy W H : Int) (P : List Int) (RW RH : Int) (RP : List Int) (y : Int) : ∀ (d i : Nat), rowP dx dy W H P RW RH RP y d i = true → ∀ m : Nat, i ≤ m → m < i + d → (flatP RW RH RP ((m : Int) - dx) (y - dy)).2 = true → px W H P m y = (flatP RW RH RP ((m : Int) - dx) (y - dy)).1
 | 0, i, _, m, h1, h2, _ => by omega
 | d + 1, i, h, m, h1, h2, hf => by
   unfold rowP at h
   by_cases c : (flatP RW RH RP ((i : Int) - dx) (y - dy)).2 = true
   · rw [if_pos c] at h
     by_cases c2 : px W H P i y = (flatP RW RH RP ((i : Int) - dx) (y - dy)).1
     · rw [if_pos c2] at h
       by_cases e : m = i
       · rw [e]; exact c2
       · exact rowP_spec dx dy W H P RW RH RP y d (i + 1) h m (by omega) (by omega) hf
     · rw [if_neg c2] at h
       exact absurd h (by decide)
   · rw [if_neg c] at h
     by_cases e : m = i
     · rw [e] at hf
       exact absurd hf c
     · exact rowP_spec dx dy W H P RW RH RP y d (i + 1) h m (by omega) (by omega) hf
theorem px_in {W H : Int} {P : List Int} {x y : Int} (h0 : 0 ≤ x) (h1 : 0 ≤ y) (h2 : x < W) (h3 : y < H) : px W H P x y = rd P (y * W + x) := by
 unfold px
 rw [if_pos ⟨h0, h1, h2, h3⟩]
theorem fol_row (q : RQ) {P : List Int} (b : Bm q.W q.H P) (y : Nat) (hy : (y : Int) < q.H) (typ : Bool) (ht : typ = true → rowP q.dx q.dy q.W q.H P q.RW q.RH q.RP y q.W.toNat 0 = true) (rest : List S72) (e : DS) :
 ∀ (d i : Nat) (s : DS) (Pk : List Int), i + d = q.W.toNat → Agr P Pk ((y : Int) * q.W + i) → Fol s (evX q P y typ d i ++ rest) e → ∃ s2 Pk2, Fol s2 rest e ∧ rowD q y (bit1 typ) d i s Pk = (s2, Pk2, 0) ∧ Agr P Pk2 ((y : Int) * q.W + q.W)
 | 0, i, s, Pk, h, ha, hf => by
   have hw := b.w
   refine ⟨s, Pk, hf, rfl, ?_⟩
   rw [show q.W = (i : Int) by omega] at ha ⊢
   exact ha
 | d + 1, i, s, Pk, h, ha, hf => by
   have hw := b.w
   have hat := b.at_ (x := (i : Int)) (y := (y : Int)) (by omega) (by omega) (by omega) hy
   obtain ⟨ix, hix⟩ : ∃ ix : Nat, (y : Int) * q.W + i = ix := ⟨((y : Int) * q.W + i).toNat, by omega⟩
   have hpx := px_in (W := q.W) (H := q.H) (P := P) (x := (i : Int)) (y := (y : Int)) (by omega) (by omega) (by omega) hy
   have hcx := ctx_agr q (P := P) (Pk := Pk) hw.1 (i : Int) (y : Int) (by omega) ha
   unfold rowD
   unfold evX at hf
   rw [hix] at ha hpx hat ⊢
   rw [Int.toNat_natCast]
   have hnx : ∀ v, v = rd P (ix : Int) → Agr P (Pk.set ix v) ((y : Int) * q.W + ((i + 1 : Nat) : Int)) := fun v hv => by
    have := ha.set (by omega) hv
    rw [show (y : Int) * q.W + ((i + 1 : Nat) : Int) = (ix : Int) + 1 by omega]
    exact this
   by_cases c : typ = true ∧ (q.flat i y).2 = true
   · rw [if_pos c] at hf
     have c1 : bit1 typ = 1 := by rw [c.1]; rfl
     rw [if_pos ⟨c1, c.2⟩]
     have hv := rowP_spec _ _ _ _ _ _ _ _ _ _ _ (ht c.1) i (Nat.zero_le _) (by omega) c.2
     exact fol_row q b y hy typ ht rest e d (i + 1) s _ (by omega) (hnx _ (by rw [← hpx]; exact hv.symm)) hf
   · rw [if_neg c] at hf
     have c2 : ¬ (bit1 typ = 1 ∧ (q.flat i y).2 = true) := fun hc => c ⟨by cases typ; exact absurd hc.1 (by decide); rfl, hc.2⟩
     rw [if_neg c2, hcx]
     rw [List.cons_append] at hf
     obtain ⟨s1, hg, hf⟩ := hf
     simp only at hg
     rw [hg]
     simp only [if_true]
     exact fol_row q b y hy typ ht rest e d (i + 1) s1 _ (by omega) (hnx _ hpx) hf
theorem fol_rows (q : RQ) {P : List Int} (b : Bm q.W q.H P) (rest : List S72) (e : DS) :
 ∀ (d j : Nat) (s : DS) (Pk : List Int), j + d = q.H.toNat → Agr P Pk ((j : Int) * q.W) → Fol s (evY q P d j ++ rest) e → ∃ s2 Pk2, Fol s2 rest e ∧ rowsD q d j s Pk = (s2, Pk2, 0) ∧ Agr P Pk2 (q.H * q.W)
 | 0, j, s, Pk, h, ha, hf => by
   have hh := b.h
   refine ⟨s, Pk, hf, rfl, ?_⟩
   rw [show q.H = (j : Int) by omega]
   exact ha
 | d + 1, j, s, Pk, h, ha, hf => by
   have hh := b.h
   unfold evY at hf
   rw [List.append_assoc, List.append_assoc] at hf
   have hstep : ∀ s1 (typ : Bool), (typ = true → rowP q.dx q.dy q.W q.H P q.RW q.RH q.RP j q.W.toNat 0 = true) → Fol s1 (evX q P j typ q.W.toNat 0 ++ (evY q P d (j + 1) ++ rest)) e → rowH q j s Pk = rowD q j (bit1 typ) q.W.toNat 0 s1 Pk → ∃ s2 Pk2, Fol s2 rest e ∧ rowsD q (d + 1) j s Pk = (s2, Pk2, 0) ∧ Agr P Pk2 (q.H * q.W) := by
    intro s1 typ ht hf1 hrow
    obtain ⟨s2, Pk2, hf2, hr2, ha2⟩ := fol_row q b j (by omega) typ ht _ e q.W.toNat 0 s1 Pk (by omega) (by rw [show (j : Int) * q.W + ((0 : Nat) : Int) = (j : Int) * q.W by omega]; exact ha) hf1
    unfold rowsD
    rw [hrow, hr2]
    simp only [if_true]
    exact fol_rows q b rest e d (j + 1) s2 Pk2 (by omega) (by rw [show ((j + 1 : Nat) : Int) = (j : Int) + 1 by omega, Int.add_mul, Int.one_mul]; exact ha2) hf2
   unfold evH at hf
   by_cases c : q.ty = true
   · rw [if_pos c, List.cons_append, List.nil_append] at hf
     obtain ⟨s1, hg, hf⟩ := hf
     simp only at hg
     refine hstep s1 (q.typ P j) (fun ht => ?_) hf ?_
     · unfold RQ.typ at ht
       rw [Bool.and_eq_true] at ht
       exact ht.2
     · unfold rowH
       rw [if_pos c, hg]
       simp only [if_true]
   · rw [if_neg c, List.nil_append] at hf
     have ct : q.typ P j = false := by
      unfold RQ.typ
      rw [show q.ty = false by simpa using c]
      rfl
     rw [ct] at hf
     refine hstep s false (fun ht => absurd ht (by decide)) hf ?_
     unfold rowH
     rw [if_neg c]
     rfl
/-- A region whose events a decoder tells is the region that is told. -/
theorem getD_fol (q : RQ) (kd : Int) {P : List Int} (b : Bm q.W q.H P) {s e : DS} {rest : List S72} (h0 : getErr q kd s.st.length = 0) (hf : Fol s (evR q P ++ rest) e) : ∃ s2, Fol s2 rest e ∧ getD q kd s = (s2, (q.W, q.H, P), 0) := by
 have hl : (List.replicate (q.W * q.H).toNat (0 : Int)).length = P.length := by
  rw [List.length_replicate]
  have := b.n
  omega
 obtain ⟨s2, Pk2, hf2, hr2, ha2⟩ := fol_rows q b rest e q.H.toNat 0 s (List.replicate (q.W * q.H).toNat 0) (by omega) ⟨hl, fun i h1 h2 => by rw [show (((0 : Nat) : Int)) * q.W = 0 from Int.zero_mul _] at h2; omega⟩ hf
 have hP : Pk2 = P := by
  have hn := b.n
  rw [Int.mul_comm] at hn
  rw [← hn] at ha2
  exact ha2.eq
 refine ⟨s2, hf2, ?_⟩
 unfold getD
 rw [if_pos h0, hr2]
 simp only [if_true]
 rw [hP]
/-- What is encoded comes back. -/
theorem dec_enc (q : RQ) (kd : Int) {P : List Int} (hbase : q.base = 0) (ho : okO q.t q.dx q.dy kd = true) (hP : Bytes P) (hR : Bytes q.RP) (hb : okB q.W q.H P = true) (hr : okB q.RW q.RH q.RP = true) (hby : Bytes (encB q kd P).1) : decB q kd (encB q kd P).1 = ((q.W, q.H, P), 0) := by
 have hoo := okO_iff.1 ho
 have b := (okB_bm hP hb).1
 have br := (okB_bm hR hr).1
 have hst := stN_ok q.t kd hoo.2.1
 have hfit : okF (List.replicate (ctxs q.t + 1).toNat (0 : Int)).length q.base q.t = true := by rw [hbase]; exact stN_fits q.t
 have hgood := evY_good b br hoo.1 hfit q.H.toNat 0
 have he : encB q kd P = ((putsI (newES kd (List.replicate (ctxs q.t + 1).toNat 0)) (evR q P)).end_, 0) := by
  unfold encB
  rw [if_pos ho, if_pos ⟨hb, hr⟩]
 rw [he] at hby ⊢
 simp only at hby ⊢
 have hpe : putsE (newES kd (List.replicate (ctxs q.t + 1).toNat 0)) (evR q P) = (putsI (newES kd (List.replicate (ctxs q.t + 1).toNat 0)) (evR q P), 0) := putsI_E _ _ hgood
 obtain ⟨d', hf, _⟩ := back_fol (kind := kd) (st := List.replicate (ctxs q.t + 1).toNat 0) (l := evR q P) hst (by rw [hpe]) (code := (putsI (newES kd (List.replicate (ctxs q.t + 1).toNat 0)) (evR q P)).end_) hby (by rw [hpe])
 have hge : getErr q kd (newDS kd (List.replicate (ctxs q.t + 1).toNat 0) (putsI (newES kd (List.replicate (ctxs q.t + 1).toNat 0)) (evR q P)).end_).st.length = 0 := by
  unfold getErr
  unfold okB at hb
  rw [Bool.and_eq_true, Bool.and_eq_true] at hb
  rw [if_pos ho, if_pos ⟨hb.1.1, hr⟩]
  exact if_pos hfit
 obtain ⟨s2, _, hg⟩ := getD_fol q kd b (rest := []) hge (by rw [List.append_nil]; exact hf)
 unfold decB
 rw [if_pos ho, hg]
end Go.Proofs.Ytkfejicdjpffcaa.Rbk
namespace Go.Proofs.Ytkfejicdjpffcaa.Cby
open Go Go.RowKit YtkfejicdjpffcaaW PrintWords PrintLast PrintMore U Aid HandAid Cod1 Cod2 Cod3 Ytkfejicdjpffcaa.Mod NewRef Enc Mods EncAt Put End Snc Dec Get DecNew Isk Pse Bkp Rpx Rva Rev Ren Rdv Rde Rbk
theorem norm_bytes : ∀ (d : Nat) (l h : Int), 0 ≤ l → l ≤ h → h ≤ 4294967295 → Bytes (normE d l h).1
 | 0, _, _, _, _, _ => fun x hx => absurd hx List.not_mem_nil
 | d + 1, l, h, h0, h1, h2 => by
   unfold normE
   split
   · intro x hx
     rcases List.mem_cons.1 hx with rfl | hx
     · omega
     · exact norm_bytes d _ _ (by omega) (by omega) (by omega) x hx
   · exact fun x hx => absurd hx List.not_mem_nil
theorem endOf_bytes (low high : Int) (h0 : 0 ≤ high) (h1 : high ≤ 4294967295) : Bytes (endOf low high) := by
 intro x hx
 have hx := List.mem_of_mem_take hx
 simp only [hiBytes, List.mem_cons, List.not_mem_nil, or_false] at hx
 rcases hx with rfl | rfl | rfl | rfl <;> omega
theorem endOf_len (low high : Int) : (endOf low high).length ≤ 4 := Nat.le_trans (List.length_take_le' _ _) (Nat.le_refl _)
theorem putsI_bytes : ∀ (l : List S72) (s : ES), s.ok → Bytes s.out → Bytes (putsI s l).out
 | [], s, _, h => h
 | x :: l, s, hok, h => by
   rw [putsI_cons]
   refine putsI_bytes l _ (ES.putI_ok hok _ _) ?_
   unfold ES.putI
   split
   · rename_i hg
     simp only [ES.good, Bool.and_eq_true, Bool.or_eq_true, decide_eq_true_eq] at hg
     have hc := ES.cut_ hok (i := x.f0.toNat) (by omega) (bit := x.f1)
     intro y hy
     rcases List.mem_append.1 hy with hy | hy
     · exact h y hy
     · exact norm_bytes 4 _ _ hc.1 hc.2.1 hc.2.2 y hy
   · exact h
theorem codeI_bytes (s : ES) (l : List S72) (hok : s.ok) (hb : Bytes s.out) : Bytes (putsI s l).end_ ∧ (putsI s l).end_.length ≤ s.out.length + 4 * l.length + 4 := by
 have h := putsI_ok l s hok
 have e : (putsI s l).end_ = (putsI s l).out ++ endOf (putsI s l).low (putsI s l).high := rfl
 rw [e]
 constructor
 · intro y hy
   rcases List.mem_append.1 hy with hy | hy
   · exact putsI_bytes l s hok hb y hy
   · exact endOf_bytes _ _ (by have := h.l; have := h.lh; omega) h.h y hy
 · rw [List.length_append]
   have := putsI_out l s
   have := endOf_len (putsI s l).low (putsI s l).high
   omega
/-- A region's code is of bytes, and not long. -/
theorem encB_bytes (q : RQ) (kd : Int) {P : List Int} (hP : Bytes P) : Bytes (encB q kd P).1 ∧ (encB q kd P).1.length ≤ 200000 := by
 unfold encB
 by_cases ho : okO q.t q.dx q.dy kd = true
 · rw [if_pos ho]
   by_cases hb : okB q.W q.H P = true ∧ okB q.RW q.RH q.RP = true
   · rw [if_pos hb]
     have b := (okB_bm hP hb.1).1
     have h := codeI_bytes (newES kd (List.replicate (ctxs q.t + 1).toNat 0)) (evR q P) (newES_ok (stN_ok q.t kd (okO_iff.1 ho).2.1)) (fun x hx => absurd hx List.not_mem_nil)
     have hl := evR_len q P b.w.2 b.h.2
     refine ⟨h.1, ?_⟩
     have h2 := h.2
     have h3 : (newES kd (List.replicate (ctxs q.t + 1).toNat 0)).out.length = 0 := rfl
     show (putsI (newES kd (List.replicate (ctxs q.t + 1).toNat 0)) (evR q P)).end_.length ≤ 200000
     omega
   · rw [if_neg hb]
     exact ⟨fun x hx => absurd hx List.not_mem_nil, Nat.zero_le _⟩
 · rw [if_neg ho]
   exact ⟨fun x hx => absurd hx List.not_mem_nil, Nat.zero_le _⟩
end Go.Proofs.Ytkfejicdjpffcaa.Cby
namespace Go.Proofs.Ytkfejicdjpffcaa.Raw
open Go Go.RowKit YtkfejicdjpffcaaW PrintWords PrintLast PrintMore U Aid HandAid Cod1 Cod2 Cod3 Ytkfejicdjpffcaa.Mod NewRef Enc Mods EncAt Put End Snc Dec Get DecNew Isk Pse Bkp Rpx Rva Rev Ren Rdv Rmk Rde Rbk Cby
def aq : RQ := ⟨0, 0, 0, true, 2, 2, 0, 0, [], 0⟩
def aP : List Int := List.replicate 4 0
theorem aP_bytes : Bytes aP := fun x hx => by rw [List.eq_of_mem_replicate hx]; decide
theorem nil_bytes : Bytes [] := fun x hx => absurd hx List.not_mem_nil
set_option maxHeartbeats 2000000 in
set_option maxRecDepth 100000 in
theorem awake_calls (w : World) : Calls Try.prog 15 #[] w fun e w' => e = .returned (.bool true) ∧ Below w.heap.size w w' := by
 have hu3 := Try.underlying23
 have hu4 := Try.underlying31
 have hok : okO aq.t aq.dx aq.dy 0 = true := by decide
 have hokb : okB aq.W aq.H aP = true := by decide
 have hokr : okB aq.RW aq.RH aq.RP = true := by decide
 obtain ⟨⟨code, er⟩, he⟩ : ∃ r, encB aq 0 aP = r := ⟨_, rfl⟩
 have hby := encB_bytes aq 0 aP_bytes
 have hbk := dec_enc aq 0 rfl hok aP_bytes nil_bytes hokb hokr hby.1
 have her : (encB aq 0 aP).2 = 0 := by unfold encB; rw [if_pos hok, if_pos ⟨hokb, hokr⟩]
 rw [he] at hby hbk her
 simp only at hby hbk her
 subst her
 have HENC := Za (show ∀ V (A : Option Addr), Kd.C (Kd.int .u8) V A 4 aP → Calls Try.prog 16 #[.agg #[.int .i64 0, .int .i64 0, .int .i64 0, .bool true, .int .i64 0], .agg #[.int .i64 2, .int .i64 2, .slice A 4 4], .agg #[.int .i64 0, .int .i64 0, .slice none 0 0]] V (EBytes V (code, 0)) from fun V A hC => rencode_calls V 0 0 0 true 0 2 2 A 4 aP 0 0 none 0 [] (by decide) (by decide) hC (Nat.le_refl _) (Kd.C_nil _ _) (Nat.le_refl _) aP_bytes nil_bytes _ he)
 have HDEC := Za (show ∀ V (A : Option Addr) (c : Nat), Kd.C (Kd.int .u8) V A code.length code → code.length ≤ c → Calls Try.prog 19 #[.agg #[.int .i64 0, .int .i64 0, .int .i64 0, .bool true, .int .i64 0], .slice A code.length c, .int .i64 2, .int .i64 2, .agg #[.int .i64 0, .int .i64 0, .slice none 0 0]] V (DPost V ((2, 2, aP), 0)) from fun V A c hC hc => rdecode_calls V 0 0 0 true 0 A c code 2 2 0 0 none 0 [] (by decide) (by decide) hC hc hby.1 (by have := hby.2; omega) (Kd.C_nil _ _) (Nat.le_refl _) nil_bytes _ hbk)
 clear hok hokb hokr he hby hbk
 go_enter Try.func15, Try.ntmps15
 go_wp2_with ((with_reducible refine gate_dst (N := 9) rfl ?_); refine Kd.event_run (v := .slice (some ⟨w.heap.size, 0, none⟩) 4 4) (w1 := w.alloc (.cells (zcells 4) 5)) rfl (make_step w (.const (.int .i64 4)) (.const (.int .i64 4)) rfl (4 : Int) (4 : Nat) rfl rfl rfl (by decide)) ?_; (obtain ⟨gp, hgp⟩ : ∃ x, w.heap.size = x := ⟨_, rfl⟩); (obtain ⟨W1, hW1⟩ : ∃ x, w.alloc (.cells (zcells 4) 5) = x := ⟨_, rfl⟩); have HROW := Za (show Kd.R (Kd.int .u8) 5 W1 w.heap.size (fun k => k = gp) (.slice (some ⟨gp, 0, none⟩) 4 4) aP by rw [← hW1, ← hgp]; exact made_row w w.heap.size 4 (Nat.le_refl _) (by decide)); have HB1 := Za (show Below w.heap.size w W1 from hW1 ▸ b1' (Below.refl _ _) _); rw [hgp, hW1]; clear hgp hW1)
 obtain ⟨b2, hb2⟩ : ∃ x, W1.heap.size + 1 = x := ⟨_, rfl⟩
 obtain ⟨b1, hb1⟩ : ∃ x, W1.heap.size = x := ⟨_, rfl⟩
 obtain ⟨W3, hW3⟩ : ∃ x, ((W1.alloc (.cells #[.int .i64 2, .int .i64 2, .slice (some ⟨gp, 0, none⟩) 4 4] 31)).alloc (.cells #[.int .i64 0, .int .i64 0, .int .i64 0, .bool true, .int .i64 0] 23)) = x := ⟨_, rfl⟩
 have HB3 := Za (show Below w.heap.size w W3 from hW3 ▸ b1' (b1' HB1.out _) _)
 have HZ2 := Za (show W3.heap[b2]? = some (.cells #[.int .i64 0, .int .i64 0, .int .i64 0, .bool true, .int .i64 0] 23 (0, 0)) by
  have h := heap_new (W1.alloc (.cells #[.int .i64 2, .int .i64 2, .slice (some ⟨gp, 0, none⟩) 4 4] 31)) (.cells #[.int .i64 0, .int .i64 0, .int .i64 0, .bool true, .int .i64 0] 23)
  rw [World.size_alloc, hb2, hW3] at h
  exact h)
 have HZ1 := Za (show W3.heap[b1]? = some (.cells #[.int .i64 2, .int .i64 2, .slice (some ⟨gp, 0, none⟩) 4 4] 31 (0, 0)) by
  have h := heap_new W1 (.cells #[.int .i64 2, .int .i64 2, .slice (some ⟨gp, 0, none⟩) 4 4] 31)
  rw [hb1] at h
  rw [← hW3]
  exact k3' h _)
 have HC := Za (show Kd.C (Kd.int .u8) W3 (some ⟨gp, 0, none⟩) 4 aP from Kd.C_below (Kd.R_reads' HROW.out).2.2 (hW3 ▸ b1' (b1' (Below.refl _ _) _) _))
 rw [hb2, hb1, hW3]
 clear hb2 hb1 hW3 HROW
 refine (HENC.out _ _ HC.out).mono ?_
 rintro e W4 ⟨A4, c4, rfl, hR4, hb⟩
 have HB4 := Za hb
 have hc4 := (Kd.R_reads' hR4).2.1
 have HC4 := Za (Kd.R_reads' hR4).2.2
 clear hR4 hb
 have q0 : W4.cell? ⟨b2, 0, none⟩ = some (.int .i64 0) := (Zc (Zd HZ2.out HB4.out) 0).trans rfl
 have q1 : W4.cell? ⟨b2, 1, none⟩ = some (.int .i64 0) := (Zc (Zd HZ2.out HB4.out) 1).trans rfl
 have q2 : W4.cell? ⟨b2, 2, none⟩ = some (.int .i64 0) := (Zc (Zd HZ2.out HB4.out) 2).trans rfl
 have q3 : W4.cell? ⟨b2, 3, none⟩ = some (.bool true) := (Zc (Zd HZ2.out HB4.out) 3).trans rfl
 have q4 : W4.cell? ⟨b2, 4, none⟩ = some (.int .i64 0) := (Zc (Zd HZ2.out HB4.out) 4).trans rfl
 simp only at hc4 HC4 ⊢
 go_wp2_with (fail)
 refine (HDEC.out _ _ _ HC4.out hc4).mono ?_
 rintro e W5 ⟨A5, c5, rfl, hR5, hb⟩
 have HB5 := Za (below_then HB4.out HB4.out.size hb)
 have hc5 := (Kd.R_reads' hR5).2.1
 have HC5 := Za (Kd.R_reads' hR5).2.2
 clear hR5 hb q0 q1 q2 q3 q4 HC4 hc4
 have e5 : ((aP.length : Nat) : Int) = 4 := rfl
 obtain ⟨b5, hb5⟩ : ∃ x, W5.heap.size = x := ⟨_, rfl⟩
 obtain ⟨W6, hW6⟩ : ∃ x, W5.alloc (.cells #[.int .i64 2, .int .i64 2, .slice A5 aP.length c5] 31) = x := ⟨_, rfl⟩
 have HB6 := Za (show Below W3.heap.size W3 W6 from hW6 ▸ b1' HB5.out _)
 have HZ5 := Za (show W6.heap[b5]? = some (.cells #[.int .i64 2, .int .i64 2, .slice A5 aP.length c5] 31 (0, 0)) from hW6 ▸ hb5 ▸ heap_new W5 _)
 have HC6 := Za (show Kd.C (Kd.int .u8) W6 A5 aP.length aP from Kd.C_below HC5.out (hW6 ▸ b1' (Below.refl _ _) _))
 simp only at hc5 ⊢
 generalize hap : aP.length = nP at *
 go_wp2_with (fail)
 clear hW6 hb5
 refine (refine_Size.calls 1 129 0 _ (by rw [psize_eq]; rfl)).mono ?_
 rintro e W7 ⟨rfl, hb⟩
 have HB7 := Za (below_then HB6.out HB6.out.size hb)
 have HZ5 := Za (Zd HZ5.out hb)
 have HC7 := Za (Kd.C_below HC6.out hb)
 clear hb
 have p0 : W7.cell? ⟨b5, 0, none⟩ = some (.int .i64 2) := (Zc HZ5.out 0).trans rfl
 have p1 : W7.cell? ⟨b5, 1, none⟩ = some (.int .i64 2) := (Zc HZ5.out 1).trans rfl
 have p2 : W7.cell? ⟨b5, 2, none⟩ = some (.slice A5 nP c5) := (Zc HZ5.out 2).trans rfl
 have r0 : W7.cell? ⟨b1, 0, none⟩ = some (.int .i64 2) := (Zc (Zd HZ1.out HB7.out) 0).trans rfl
 have r1 : W7.cell? ⟨b1, 1, none⟩ = some (.int .i64 2) := (Zc (Zd HZ1.out HB7.out) 1).trans rfl
 have r2 : W7.cell? ⟨b1, 2, none⟩ = some (.slice (some ⟨gp, 0, none⟩) 4 4) := (Zc (Zd HZ1.out HB7.out) 2).trans rfl
 go_wp2_with (fail)
 obtain ⟨K1, hK1⟩ := Ev.rounds (same_ev 2 2 aP (by decide))
 subst hap
 refine (incunableref06_SameBitmap.calls K1 2 2 A5 c5 aP 2 2 (some ⟨gp, 0, none⟩) 4 aP true _ HC7.out hc5 (Kd.C_below HC.out HB7.out) (Nat.le_refl _) hK1).mono ?_
 rintro e W8 ⟨rfl, hb⟩
 have HB8 := Za (below_then (below_then HB3.out HB3.out.size HB7.out) (Nat.le_trans HB3.out.size HB7.out.size) hb)
 clear hb p0 p1 p2 r0 r1 r2
 go_wp2_with (fail)
 go_ret
 exact ⟨rfl, HB8.out⟩
end Go.Proofs.Ytkfejicdjpffcaa.Raw
namespace Go.Proofs.Ytkfejicdjpffcaa.Len
open Go Go.RowKit YtkfejicdjpffcaaW PrintWords PrintLast PrintMore U Aid HandAid Cod1 Cod2 Cod3 Ytkfejicdjpffcaa.Mod NewRef Enc Mods EncAt Put End Snc Dec Get DecNew RefAt RefPut RefEnd RDec RDecNew Isk Pse Pwk Bkp Rpx Rva Rfl Rcx Rty Rev Rpt Rrp Ren Rdv Rrw Rmk Rgt Rrg Rde Rbk Cby Raw
theorem same_bytes_loop (l : List Int) (hn : l.length ≤ 9223372036854775807) : ∀ (d i : Nat), i + d = l.length → Ev (fun k => incunableref02_SameBytes.l0 k l l (l.length : Int) (i : Int)) true
 | 0, i, h => by
   refine ev_succ ?_
   simp only [incunableref02_SameBytes.l0]
   exact ev_neg (by omega) (Ev.now _)
 | d + 1, i, h => by
   refine ev_succ ?_
   simp only [incunableref02_SameBytes.l0]
   refine ev_pos (by omega) (ev_pos (by omega) (ev_pos (by omega) ?_))
   rw [wrap_id (n := (i : Int) + 1) (by omega) (by omega)]
   have := same_bytes_loop l hn d (i + 1) (by omega)
   rw [show ((i + 1 : Nat) : Int) = (i : Int) + 1 by omega] at this
   exact ev_pos (by omega) (ev_pos trivial this)
theorem same_bytes_ev (l : List Int) (hn : l.length ≤ 9223372036854775807) : Ev (fun k => incunableref02_SameBytes.f k l l) true := by
 unfold incunableref02_SameBytes.f
 exact ev_pos rfl (same_bytes_loop l hn l.length 0 (by omega))
theorem SB (A1 : Option Addr) (c1 : Nat) (A2 : Option Addr) (c2 : Nat) (l : List Int) (W : World) (h1 : Kd.C (Kd.int .u8) W A1 l.length l) (hc1 : l.length ≤ c1) (h2 : Kd.C (Kd.int .u8) W A2 l.length l) (hc2 : l.length ≤ c2) :
 Calls Try.prog 18 #[.slice A1 l.length c1, .slice A2 l.length c2] W fun e W' => e = .returned (.bool true) ∧ Below W.heap.size W W' := by
 obtain ⟨K, hK⟩ := Ev.rounds (same_bytes_ev l (Kd.C_max h1))
 exact (incunableref02_SameBytes.calls K A1 c1 l A2 c2 l true W h1 hc1 h2 hc2 hK).mono fun e W' h => ⟨h.1, h.2.below⟩
end Go.Proofs.Ytkfejicdjpffcaa.Len
namespace Go.Proofs.Ytkfejicdjpffcaa.Rct
open Go Go.RowKit YtkfejicdjpffcaaW PrintWords PrintLast PrintMore U Aid HandAid Cod1 Cod2 Cod3 Ytkfejicdjpffcaa.Mod NewRef Enc Mods EncAt Put End Snc Dec Get DecNew RefAt RefPut RefEnd RDec RDecNew Isk Pse Pwk Bkp Rpx Rva Rfl Rcx Rty Rev Rpt Rrp Ren Rdv Rrw Rmk Rgt Rrg Rde Rbk Cby Raw
theorem rput_none (w : World) (base t dx dy : Int) (ty : Bool) (kd W H : Int) (AB : Option Addr) (nB cB : Nat) (RW RH : Int) (AR : Option Addr) (nR cR : Nat) :
 Calls Try.prog 25 #[.pointer none, .int .i64 base, .agg #[.int .i64 t, .int .i64 dx, .int .i64 dy, .bool ty, .int .i64 kd], .agg #[.int .i64 W, .int .i64 H, .slice AB nB cB], .agg #[.int .i64 RW, .int .i64 RH, .slice AR nR cR]] w fun e w' => e = .returned (.int .i64 7) ∧ Below w.heap.size w w' := by
 have hu3 := Try.underlying23
 have hu4 := Try.underlying31
 go_enter Try.func25, Try.ntmps25
 go_wp2_with (fail)
 refine (enc_put_nil _ (-1) 0).mono ?_
 rintro e w2 ⟨rfl, rfl⟩
 go_wp2_with (fail)
 go_ret
 exact ⟨rfl, b1' (b1' (b1' (Below.refl _ _) _) _) _⟩
end Go.Proofs.Ytkfejicdjpffcaa.Rct
namespace Go.Proofs.Ytkfejicdjpffcaa.Rmi
open Go Go.RowKit YtkfejicdjpffcaaW PrintWords PrintLast PrintMore Aid HandAid
/-- A made slice of numbers. -/
def zcellsI (n : Nat) : Array Value := madeCells (Value.int .i64 0).cells n
theorem infoI : (Try.prog.info? 3).map (fun i => (i.zero, i.size, i.bytes)) = some (some (.int .i64 0), 1, 8) := by kernel_rfl
theorem make_stepI {oi : Oper} {a : Act} (W : World) (x y : Operand) (ho : oi.op = .makeSlice 43 x y) (m : Int) (n : Nat) (hx : a.eval x = .int .i64 m) (hy : a.eval y = .int .i64 m) (hm : m = n) (hn : n ≤ 1000000) :
 (execOp a.eval oi).run Try.prog W = .ok (.value (.slice (some ⟨W.heap.size, 0, none⟩) n n)) (W.alloc (.cells (zcellsI n) 3)) := by
 subst hm
 obtain ⟨i, hi, hz⟩ := Option.map_eq_some_iff.1 infoI
 simp only [Prod.mk.injEq] at hz
 obtain ⟨hz0, hz1, hz2⟩ := hz
 have hr := run_make (P := Try.prog) W 43 3 i (.int .i64 0) Try.underlying43 hi hz0 .i64 .i64 (n : Int) (n : Int) (by omega) (by omega) (by rw [hz2]; omega) (by omega)
 rw [Int.toNat_natCast, hz1, Nat.mul_one] at hr
 simp [execOp, ho, hx, hy, hr, zcellsI]
theorem made_rowI (W : World) (B n : Nat) (hB : B ≤ W.heap.size) (hn : n ≤ 1000000) : Kd.R (Kd.int .i64) 3 (W.alloc (.cells (zcellsI n) 3)) B (fun k => k = W.heap.size) (.slice (some ⟨W.heap.size, 0, none⟩) n n) (List.replicate n 0) := by
 refine ⟨fun k hk => ?_, (zcellsI n).toList, ?_, ?_⟩
 · simpa [Value.ownBlock] using hk.symm
 · have h2 := World.ownsRow_lit (base := B) (e := 3) (size := 1) W (zcellsI n) n hB (by simp only [maxLen]; omega) (by simp [zcellsI, size_madeCells])
   rw [List.length_replicate]
   exact h2
 · have h3 := Kd.reps_made (R := fun (p : Int) (c : List Value) => c = [.int .i64 p]) (z := .int .i64 0) (size := 1) (z0 := (0 : Int)) rfl (by decide) rfl n
   rw [Nat.mul_one] at h3
   exact h3
end Go.Proofs.Ytkfejicdjpffcaa.Rmi
namespace Go.Proofs.Ytkfejicdjpffcaa.Ler
open Go Go.RowKit YtkfejicdjpffcaaW PrintWords PrintLast PrintMore U Aid HandAid Cod1 Cod2 Cod3 Ytkfejicdjpffcaa.Mod NewRef Enc Mods EncAt Put End Snc Dec Get DecNew RefAt RefPut RefEnd RDec RDecNew Isk Pse Pwk Bkp Rpx Rva Rfl Rcx Rty Rev Rpt Rrp Ren Rdv Rrw Rmk Rgt Rrg Rde Rbk Cby Raw Opn Len Rct Rmi
set_option maxHeartbeats 8000000 in
set_option maxRecDepth 100000 in
theorem errors_walk (w : World) (t : Int) (h0 : (Lit.int .i64 t).wf = true) (dx : Int) (h1 : (Lit.int .i64 dx).wf = true) (dy : Int) (h2 : (Lit.int .i64 dy).wf = true) (ty : Bool) (kd : Int) (h4 : (Lit.int .i64 kd).wf = true) (W : Int) (h5 : (Lit.int .i64 W).wf = true) (H : Int) (h6 : (Lit.int .i64 H).wf = true) (AB : Option Addr) (cB : Nat) (P : List Int) (hcB : P.length ≤ cB) (hB : Kd.C (Kd.int .u8) w AB P.length P) (hwP : P.length * 1 ≤ 140737488351232 ∧ ∀ x ∈ P, (Lit.int .u8 x).wf = true) (RW : Int) (h8 : (Lit.int .i64 RW).wf = true) (RH : Int) (h9 : (Lit.int .i64 RH).wf = true) (AR : Option Addr) (cR : Nat) (RP : List Int) (hcR : RP.length ≤ cR) (hA : Kd.C (Kd.int .u8) w AR RP.length RP) (hwR : RP.length * 1 ≤ 140737488351232 ∧ ∀ x ∈ RP, (Lit.int .u8 x).wf = true) (base : Int) (hbase : (Lit.int .i64 base).wf = true) (n : Int) (hn : (Lit.int .i64 n).wf = true) :
 Calls Try.prog 8 #[.agg #[.int .i64 t, .int .i64 dx, .int .i64 dy, .bool ty, .int .i64 kd], .agg #[.int .i64 W, .int .i64 H, .slice AB P.length cB], .agg #[.int .i64 RW, .int .i64 RH, .slice AR RP.length cR], .int .i64 base, .int .i64 n] w fun e w' => e = .returned (.bool true) ∧ Below w.heap.size w w' := by
 have hu3 := Try.underlying23
 have hu4 := Try.underlying31
 have hu5 := Try.underlying45
 have HB := Za hB
 have HA := Za hA
 have HbP := Za (bytes_of hwP.2)
 have HbR := Za (bytes_of hwR.2)
 have HW := Za (And.intro (wf_i64 h1) (wf_i64 h2))
 have hbd := wf_i64 hn
 clear h0 h1 h2 h4 h5 h6 h8 h9 hB hA hwP hwR hn
 by_cases hne : n < 0 ∨ n > 2000
 · have h4 : n < 0 ∨ (¬ n < 0 ∧ n > 2000) := by omega
   clear hne
   rcases h4 with h | ⟨h, h'⟩
   all_goals
    go_enter Try.func8, Try.ntmps8
    go_wp2_with (fail)
    refine (Raw.awake_calls _).mono ?_
    rintro e W9 ⟨rfl, hb⟩
    have HD9 := Za (below_then (b1' (b1' (b1' (Below.refl w.heap.size w) (.cells #[.int .i64 t, .int .i64 dx, .int .i64 dy, .bool ty, .int .i64 kd] 23)) (.cells #[.int .i64 W, .int .i64 H, .slice AB P.length cB] 31)) (.cells #[.int .i64 RW, .int .i64 RH, .slice AR RP.length cR] 31)) (b1' (b1' (b1' (Below.refl w.heap.size w) (.cells #[.int .i64 t, .int .i64 dx, .int .i64 dy, .bool ty, .int .i64 kd] 23)) (.cells #[.int .i64 W, .int .i64 H, .slice AB P.length cB] 31)) (.cells #[.int .i64 RW, .int .i64 RH, .slice AR RP.length cR] 31)).size hb)
    go_wp2_with (fail)
    go_ret
    exact ⟨rfl, HD9.out⟩
 obtain ⟨nn, rfl⟩ : ∃ nn : Nat, n = (nn : Int) := ⟨n.toNat, by omega⟩
 have hn1 : ¬ (nn : Int) < 0 := by omega
 have hn2 : ¬ (nn : Int) > 2000 := by omega
 have hnn : nn ≤ 1000000 := by omega
 have hlr : (List.replicate nn (0 : Int)).length = nn := List.length_replicate
 have hm : okModel 0 (List.replicate nn 0) := by
  have h := new_ok 0 (nn : Int) (by unfold newModel; rw [if_pos ⟨.inl rfl, by omega, by omega⟩])
  unfold newModel at h
  rw [if_pos ⟨.inl rfl, by omega, by omega⟩, Int.toNat_natCast] at h
  exact h
 have hz0 : Bytes (List.replicate 2000 (0 : Int)) := fun x hx => by rw [List.eq_of_mem_replicate hx]; decide
 have HND := Za (show ∀ V (A Ac : Option Addr), Kd.C (Kd.int .i64) V A nn (List.replicate nn 0) → Kd.C (Kd.int .u8) V Ac 2000 (List.replicate 2000 0) → Calls Try.prog 34 #[.agg #[.int .i64 0, .slice A nn nn], .slice Ac 2000 2000] V (NewDecPost V 0 (List.replicate nn 0) (List.replicate 2000 0)) from fun V A Ac h1 h2 => by
  have h := new_dec A nn 0 (List.replicate nn 0) Ac 2000 (List.replicate 2000 0) V (by rw [hlr]; exact h1) (by omega) hm (by rw [List.length_replicate]; exact h2) (by rw [List.length_replicate]; exact Nat.le_refl _) hz0 (by rw [List.length_replicate]; decide)
  rw [hlr, List.length_replicate] at h
  exact h)
 have HRND := Za (show ∀ V (A Ac : Option Addr), Kd.C (Kd.int .i64) V A nn (List.replicate nn 0) → Kd.C (Kd.int .u8) V Ac 2000 (List.replicate 2000 0) → Calls Try.prog 37 #[.agg #[.int .i64 0, .slice A nn nn], .slice Ac 2000 2000] V (RNewDecPost V 0 (List.replicate nn 0) (List.replicate 2000 0)) from fun V A Ac h1 h2 => by
  have h := rnew_dec A nn 0 (List.replicate nn 0) Ac 2000 (List.replicate 2000 0) V (by rw [hlr]; exact h1) (by omega) hm (by rw [List.length_replicate]; exact h2) (by rw [List.length_replicate]; exact Nat.le_refl _) hz0 (by rw [List.length_replicate]; decide)
  rw [hlr, List.length_replicate] at h
  exact h)
 have HNE := Za (show ∀ V (A : Option Addr), Kd.C (Kd.int .i64) V A nn (List.replicate nn 0) → Calls Try.prog 23 #[.agg #[.int .i64 0, .slice A nn nn]] V fun e w' => ∃ g, e = .returned (.tuple #[.pointer (some ⟨g, 0, none⟩), .int .i64 0]) ∧ EncAt w' (Since V.heap.size w') g (newES 0 (List.replicate nn 0)) ∧ Below V.heap.size V w' from fun V A h1 => by
  have h := new_enc A nn 0 (List.replicate nn 0) V (by rw [hlr]; exact h1) (by omega) hm
  rw [hlr] at h
  exact h)
 have HRNE := Za (show ∀ V (A : Option Addr), Kd.C (Kd.int .i64) V A nn (List.replicate nn 0) → Calls Try.prog 24 #[.agg #[.int .i64 0, .slice A nn nn]] V fun e w' => ∃ g, e = .returned (.tuple #[.pointer (some ⟨g, 0, none⟩), .int .i64 0]) ∧ RefAt w' (Since V.heap.size w') g (newES 0 (List.replicate nn 0)) ∧ Below V.heap.size V w' from fun V A h1 => by
  have h := ref_new_enc A nn 0 (List.replicate nn 0) V (by rw [hlr]; exact h1) (by omega) hm
  rw [hlr] at h
  exact h)
 have HOKE := Za (newES_ok hm)
 have HOKD := Za (newDS_ok hm hz0 (by rw [List.length_replicate]; decide))
 obtain ⟨sE, hsE⟩ : ∃ s, newES 0 (List.replicate nn 0) = s := ⟨_, rfl⟩
 obtain ⟨sD, hsD⟩ : ∃ s, newDS 0 (List.replicate nn 0) (List.replicate 2000 0) = s := ⟨_, rfl⟩
 have hout : sE.out.length ≤ 1000000000 := by rw [← hsE]; show (0 : Nat) ≤ _; omega
 obtain ⟨q, hq⟩ : ∃ q : RQ, q = ⟨t, dx, dy, ty, W, H, RW, RH, RP, base⟩ := ⟨_, rfl⟩
 obtain ⟨⟨s1, er⟩, hput⟩ : ∃ r, putR q kd P sE = r := ⟨_, rfl⟩
 obtain ⟨⟨s2, ⟨x2, y2, P2⟩, er2⟩, hget⟩ : ∃ r, getD q kd sD = r := ⟨_, rfl⟩
 have hlo : s1.out.length ≤ 1099511627880 := by
  have h : (putR q kd P sE).1.out.length ≤ 1000000000 + 4 * 40200 := by
   unfold putR
   split
   · rename_i hz
     have hz := putErr_zero hz
     have hbm := (okB_bm HbP.out hz.2.1).1
     have h1 := putsI_out (evR q P) sE
     have h2 := evR_len q P hbm.w.2 hbm.h.2
     show (putsI sE (evR q P)).out.length ≤ _
     omega
   · show sE.out.length ≤ _
     omega
  rw [hput] at h
  simp only at h
  omega
 have HLO := Za hlo
 rw [hsE] at HNE HRNE HOKE
 have HND2 := HND
 have HPQ := Za hput
 have HGQ := Za hget
 have HQ := Za hq
 have HSD := Za hsD
 have HOUT := Za hout
 rw [hsD] at HOKD
 have HHM := Za hlr
 clear hlo hput hget hq hsD hsE hout hm hz0 hlr HND2 hbd hne
 go_enter Try.func8, Try.ntmps8
 go_wp2_with (
  (with_reducible refine gate_dst (N := 34) rfl ?_)
  obtain ⟨b7, hb7⟩ : ∃ x, w.heap.size + 1 + 1 = x := ⟨_, rfl⟩
  obtain ⟨b6, hb6⟩ : ∃ x, w.heap.size + 1 = x := ⟨_, rfl⟩
  obtain ⟨b5, hb5⟩ : ∃ x, w.heap.size = x := ⟨_, rfl⟩
  obtain ⟨W1, hW1⟩ : ∃ x, (((w.alloc (.cells #[.int .i64 t, .int .i64 dx, .int .i64 dy, .bool ty, .int .i64 kd] 23)).alloc (.cells #[.int .i64 W, .int .i64 H, .slice AB P.length cB] 31)).alloc (.cells #[.int .i64 RW, .int .i64 RH, .slice AR RP.length cR] 31)) = x := ⟨_, rfl⟩
  have HB1 := Za (show Below w.heap.size w W1 from hW1 ▸ (b1' (b1' (b1' (Below.refl _ _) _) _) _))
  have HZb5 := Za (show W1.heap[b5]? = some (.cells #[.int .i64 t, .int .i64 dx, .int .i64 dy, .bool ty, .int .i64 kd] 23 (0, 0)) by
   have h := heap_new w (.cells #[.int .i64 t, .int .i64 dx, .int .i64 dy, .bool ty, .int .i64 kd] 23)
   rw [hb5] at h
   rw [← hW1]
   exact (k3' (k3' h _) _))
  have HZb6 := Za (show W1.heap[b6]? = some (.cells #[.int .i64 W, .int .i64 H, .slice AB P.length cB] 31 (0, 0)) by
   have h := heap_new (w.alloc (.cells #[.int .i64 t, .int .i64 dx, .int .i64 dy, .bool ty, .int .i64 kd] 23)) (.cells #[.int .i64 W, .int .i64 H, .slice AB P.length cB] 31)
   rw [World.size_alloc, hb6] at h
   rw [← hW1]
   exact (k3' h _))
  have HZb7 := Za (show W1.heap[b7]? = some (.cells #[.int .i64 RW, .int .i64 RH, .slice AR RP.length cR] 31 (0, 0)) by
   have h := heap_new ((w.alloc (.cells #[.int .i64 t, .int .i64 dx, .int .i64 dy, .bool ty, .int .i64 kd] 23)).alloc (.cells #[.int .i64 W, .int .i64 H, .slice AB P.length cB] 31)) (.cells #[.int .i64 RW, .int .i64 RH, .slice AR RP.length cR] 31)
   rw [World.size_alloc, World.size_alloc, hb7] at h
   rw [← hW1]
   exact h)
  rw [hb7, hb6, hb5, hW1]
  have HD1 := Za (Below.refl W1.heap.size W1)
  clear hb5 hb6 hb7 hW1
  refine Kd.event_run (v := .slice (some ⟨W1.heap.size, 0, none⟩) nn nn) rfl (make_stepI W1 (.tmp 33) (.tmp 33) rfl (nn : Int) nn rfl rfl rfl hnn) ?_
  obtain ⟨gm, hgm⟩ : ∃ x, W1.heap.size = x := ⟨_, rfl⟩
  obtain ⟨W2, hW2⟩ : ∃ x, W1.alloc (.cells (zcellsI nn) 3) = x := ⟨_, rfl⟩
  obtain ⟨b11, hb11⟩ : ∃ x, W2.heap.size = x := ⟨_, rfl⟩
  obtain ⟨W3, hW3⟩ : ∃ x, W2.alloc (.cells #[.int .i64 0, .slice (some ⟨gm, 0, none⟩) nn nn] 45) = x := ⟨_, rfl⟩
  have HB3 := Za (show Below W1.heap.size W1 W3 from hW3 ▸ hW2 ▸ b1' (b1' (Below.refl _ _) _) _)
  have HC0 := Za (show Kd.C (Kd.int .i64) W2 (some ⟨gm, 0, none⟩) nn (List.replicate nn 0) by
   have h := (Kd.R_reads' (made_rowI W1 0 nn (Nat.zero_le _) hnn)).2.2
   rw [hW2, hgm, List.length_replicate] at h
   exact h)
  have HCM := Za (show ∀ V, Below W3.heap.size W3 V → Kd.C (Kd.int .i64) V (some ⟨gm, 0, none⟩) nn (List.replicate nn 0) from fun V hV => Kd.C_below (Kd.C_below HC0.out (hW3 ▸ b1' (Below.refl _ _) _)) hV)
  have HZ11 := Za (show W3.heap[b11]? = some (.cells #[.int .i64 0, .slice (some ⟨gm, 0, none⟩) nn nn] 45 (0, 0)) from hW3 ▸ hb11 ▸ heap_new W2 _)
  have hs1 : W1.heap.size ≤ W3.heap.size := HB3.out.size
  have p0 : W3.cell? ⟨b11, 0, none⟩ = some (.int .i64 0) := (Zc HZ11.out 0).trans rfl
  have p1 : W3.cell? ⟨b11, 1, none⟩ = some (.slice (some ⟨gm, 0, none⟩) nn nn) := (Zc HZ11.out 1).trans rfl
  rw [hgm, hW2]
  clear hgm)
 clear hW2 hW3 hb11
 have HD := Za (Below.refl W3.heap.size W3)
 refine (HNE.out _ _ (HCM.out _ HD.out)).mono ?_
 rintro e W4 ⟨g1, rfl, hE, hb⟩
 have HD := Za hb
 obtain ⟨S1, hS1⟩ : ∃ S, Since W3.heap.size W4 = S := ⟨_, rfl⟩
 have HS1 := Za (show ∀ k, S1 k → W3.heap.size ≤ k ∧ k < W4.heap.size from hS1 ▸ fun k hk => hk)
 have HE1 := Za (show EncAt W4 S1 g1 sE from hS1 ▸ hE)
 have hsz4 : W3.heap.size ≤ W4.heap.size := hb.size
 have HDd := Za (below_drew HD.out)
 clear hE hb hS1
 clear p0 p1
 go_wp2_with (fail)
 refine start_ (n := 8) (S := fun w' => w'.cell? ⟨b11, 0, none⟩ = some (.int .i64 0) ∧ w'.cell? ⟨b11, 1, none⟩ = some (.slice (some ⟨gm, 0, none⟩) nn nn)) (ds := []) (B' 8 0) (by kernel_rfl) rfl rfl ⟨(Zc (Zd HZ11.out HDd.out) 0).trans rfl, (Zc (Zd HZ11.out HDd.out) 1).trans rfl⟩ (fun hHeld => ?_)
 refine t' 0 42 (B' 8 1) ?_ rfl rfl ?_ hHeld ?_ ?_ ?_; rotate_left; (rintro w' ⟨s0, s1⟩; go_simp; with_reducible rfl); rotate_left; (simp only [Act.put, p1', p2', p3', w1', w2']; rfl)
 refine one_ (i := 1) (N := some 43) (B' 8 3) rfl rfl (by kernel_rfl) (by decide) (fun K hK => ?_)
 refine value_ (w1 := ?_) (v := ?_) (by rfl) rfl ?_ ?_
 rotate_left 2
 · refine make_step _ (.const (.int .i64 2000)) (.const (.int .i64 2000)) ?_ (2000 : Int) (2000 : Nat) ?_ ?_ rfl (by decide) <;> rfl
 obtain ⟨gc, hgc⟩ : ∃ x, W4.drew.heap.size = x := ⟨_, rfl⟩
 obtain ⟨Wc, hWc⟩ : ∃ x, W4.drew.alloc (.cells (zcells 2000) 5) = x := ⟨_, rfl⟩
 have HROW := Za (show Kd.C (Kd.int .u8) Wc (some ⟨gc, 0, none⟩) 2000 (List.replicate 2000 0) by have h := (Kd.R_reads' (made_row W4.drew 0 2000 (Nat.zero_le _) (by decide))).2.2; rw [hWc, hgc, List.length_replicate] at h; exact h)
 have hbc : Below W4.heap.size W4 Wc := hWc ▸ b1' (below_drew (Below.refl _ _)) _
 have HDC := Za (below_then HD.out HD.out.size hbc)
 have HBC := Za hbc
 have HE1 := Za (HE1.out.below hbc)
 have hszc := hbc.size
 rw [hgc, hWc]
 clear hgc hWc hbc
 refine hK.out _ _ ⟨(Zc (Zd HZ11.out HDC.out) 0).trans rfl, (Zc (Zd HZ11.out HDC.out) 1).trans rfl⟩ (fun hHeld => ?_)
 clear hK K
 refine n' ?_ ?_ ?_; rotate_left; (show Act.put _ (some 43) _ = _; simp only [Act.put, p1', p2', p3', w1', w2']; rfl)
 refine one_ (i := 2) (N := some 44) (B' 8 7) rfl rfl (by kernel_rfl) (by decide) (fun K hK => ?_)
 refine goes_ Try.func34 (by kernel_rfl) rfl #[.agg #[.int .i64 0, .slice (some ⟨gm, 0, none⟩) nn nn], .slice (some ⟨gc, 0, none⟩) 2000 2000] (by rfl) rfl rfl (by simp only [List.map_toArray, List.map_cons, List.map_nil]; rfl) ?_
 with_reducible refine (HND.out _ _ _ (HCM.out _ HDC.out) HROW.out).mono ?_
 rintro e W5 ⟨g2, rfl, hE, hb⟩
 refine ⟨_, rfl, ?_⟩
 have HD := Za (below_then HDC.out HDC.out.size hb)
 have HE1 := Za (HE1.out.below hb)
 obtain ⟨S2, hS2⟩ : ∃ S, Since Wc.heap.size W5 = S := ⟨_, rfl⟩
 have HS2 := Za (show ∀ k, S2 k → W4.heap.size ≤ k ∧ k < W5.heap.size from hS2 ▸ fun k hk => ⟨Nat.le_trans hszc hk.1, hk.2⟩)
 have HE2 := Za (show DecAt W5 S2 g2 sD by rw [← HSD.out, ← hS2]; exact hE)
 have hsz5 : W4.heap.size ≤ W5.heap.size := Nat.le_trans hszc hb.size
 clear hE hb hS2 hszc HROW HBC
 refine hK.out _ _ ⟨(Zc (Zd HZ11.out HD.out) 0).trans rfl, (Zc (Zd HZ11.out HD.out) 1).trans rfl⟩ (fun hHeld => ?_)
 clear hK K
 refine n' ?_ ?_ ?_; rotate_left; (show Act.put _ (some 44) _ = _; simp only [Act.put, p1', p2', p3', w1', w2']; rfl)
 refine u' 3 41 (B' 8 15) ?_ rfl rfl ?_ ?_ ?_ ?_; rotate_left; (intro w'; go_simp; with_reducible rfl); rotate_left; (simp only [Act.put, p1', p2', p3', w1', w2']; rfl)
 refine u' 4 45 (B' 8 31) ?_ rfl rfl ?_ ?_ ?_ ?_; rotate_left; (intro w'; go_simp; with_reducible rfl); rotate_left; (simp only [Act.put, p1', p2', p3', w1', w2']; rfl)
 refine u' 5 46 (B' 8 63) ?_ rfl rfl ?_ ?_ ?_ ?_; rotate_left; (intro w'; go_simp; with_reducible rfl); rotate_left; (simp only [Act.put, p1', p2', p3', w1', w2']; rfl)
 refine u' 6 14 (B' 8 127) ?_ rfl rfl ?_ ?_ ?_ ?_; rotate_left; (intro w'; go_simp; with_reducible rfl); rotate_left; (simp only [Act.put, p1', p2', p3', w1', w2']; rfl)
 refine u' 7 15 (B' 8 255) ?_ rfl rfl ?_ ?_ ?_ ?_; rotate_left; (intro w'; go_simp; with_reducible rfl); rotate_left; (simp only [Act.put, p1', p2', p3', w1', w2']; rfl)
 refine done_ (by kernel_rfl) ?_
 have p0 : W5.cell? ⟨b11, 0, none⟩ = some (.int .i64 0) := (Zc (Zd HZ11.out HD.out) 0).trans rfl
 have p1 : W5.cell? ⟨b11, 1, none⟩ = some (.slice (some ⟨gm, 0, none⟩) nn nn) := (Zc (Zd HZ11.out HD.out) 1).trans rfl
 go_wp2_with (fail)
 clear p0 p1
 refine (HRNE.out _ _ (HCM.out _ HD.out)).mono ?_
 rintro e W6 ⟨g3, rfl, hE, hb⟩
 have HD := Za (below_then HD.out HD.out.size hb)
 have HE1 := Za (HE1.out.below hb)
 have HE2 := Za (HE2.out.below hb)
 obtain ⟨S3, hS3⟩ : ∃ S, Since W5.heap.size W6 = S := ⟨_, rfl⟩
 have HS3 := Za (show ∀ k, S3 k → W5.heap.size ≤ k ∧ k < W6.heap.size from hS3 ▸ fun k hk => hk)
 have HE3 := Za (show RefAt W6 S3 g3 sE from hS3 ▸ hE)
 have hsz6 : W5.heap.size ≤ W6.heap.size := hb.size
 have HDd := Za (below_drew HD.out)
 clear hE hb hS3
 go_wp2_with (fail)
 refine start_ (n := 8) (S := fun w' => w'.cell? ⟨b11, 0, none⟩ = some (.int .i64 0) ∧ w'.cell? ⟨b11, 1, none⟩ = some (.slice (some ⟨gm, 0, none⟩) nn nn)) (ds := []) (B' 8 0) (by kernel_rfl) rfl rfl ⟨(Zc (Zd HZ11.out HDd.out) 0).trans rfl, (Zc (Zd HZ11.out HDd.out) 1).trans rfl⟩ (fun hHeld => ?_)
 refine t' 0 53 (B' 8 1) ?_ rfl rfl ?_ hHeld ?_ ?_ ?_; rotate_left; (rintro w' ⟨s0, s1⟩; go_simp; with_reducible rfl); rotate_left; (simp only [Act.put, p1', p2', p3', w1', w2']; rfl)
 refine one_ (i := 1) (N := some 54) (B' 8 3) rfl rfl (by kernel_rfl) (by decide) (fun K hK => ?_)
 refine value_ (w1 := ?_) (v := ?_) (by rfl) rfl ?_ ?_
 rotate_left 2
 · refine make_step _ (.const (.int .i64 2000)) (.const (.int .i64 2000)) ?_ (2000 : Int) (2000 : Nat) ?_ ?_ rfl (by decide) <;> rfl
 obtain ⟨gc, hgc⟩ : ∃ x, W6.drew.heap.size = x := ⟨_, rfl⟩
 obtain ⟨Wc, hWc⟩ : ∃ x, W6.drew.alloc (.cells (zcells 2000) 5) = x := ⟨_, rfl⟩
 have HROW := Za (show Kd.C (Kd.int .u8) Wc (some ⟨gc, 0, none⟩) 2000 (List.replicate 2000 0) by have h := (Kd.R_reads' (made_row W6.drew 0 2000 (Nat.zero_le _) (by decide))).2.2; rw [hWc, hgc, List.length_replicate] at h; exact h)
 have hbc : Below W6.heap.size W6 Wc := hWc ▸ b1' (below_drew (Below.refl _ _)) _
 have HDC := Za (below_then HD.out HD.out.size hbc)
 have HBC := Za hbc
 have HE1 := Za (HE1.out.below hbc)
 have HE2 := Za (HE2.out.below hbc)
 have HE3 := Za (HE3.out.below hbc)
 have hszc := hbc.size
 rw [hgc, hWc]
 clear hgc hWc hbc
 refine hK.out _ _ ⟨(Zc (Zd HZ11.out HDC.out) 0).trans rfl, (Zc (Zd HZ11.out HDC.out) 1).trans rfl⟩ (fun hHeld => ?_)
 clear hK K
 refine n' ?_ ?_ ?_; rotate_left; (show Act.put _ (some 54) _ = _; simp only [Act.put, p1', p2', p3', w1', w2']; rfl)
 refine one_ (i := 2) (N := some 55) (B' 8 7) rfl rfl (by kernel_rfl) (by decide) (fun K hK => ?_)
 refine goes_ Try.func37 (by kernel_rfl) rfl #[.agg #[.int .i64 0, .slice (some ⟨gm, 0, none⟩) nn nn], .slice (some ⟨gc, 0, none⟩) 2000 2000] (by rfl) rfl rfl (by simp only [List.map_toArray, List.map_cons, List.map_nil]; rfl) ?_
 with_reducible refine (HRND.out _ _ _ (HCM.out _ HDC.out) HROW.out).mono ?_
 rintro e W7 ⟨g4, rfl, hE, hb⟩
 refine ⟨_, rfl, ?_⟩
 have HD := Za (below_then HDC.out HDC.out.size hb)
 have HE1 := Za (HE1.out.below hb)
 have HE2 := Za (HE2.out.below hb)
 have HE3 := Za (HE3.out.below hb)
 obtain ⟨S4, hS4⟩ : ∃ S, Since Wc.heap.size W7 = S := ⟨_, rfl⟩
 have HS4 := Za (show ∀ k, S4 k → W6.heap.size ≤ k ∧ k < W7.heap.size from hS4 ▸ fun k hk => ⟨Nat.le_trans hszc hk.1, hk.2⟩)
 have HE4 := Za (show RDecAt W7 S4 g4 sD by rw [← HSD.out, ← hS4]; exact hE)
 have hsz7 : W6.heap.size ≤ W7.heap.size := Nat.le_trans hszc hb.size
 clear hE hb hS4 hszc HROW HBC
 refine hK.out _ _ ⟨(Zc (Zd HZ11.out HD.out) 0).trans rfl, (Zc (Zd HZ11.out HD.out) 1).trans rfl⟩ (fun hHeld => ?_)
 clear hK K
 refine n' ?_ ?_ ?_; rotate_left; (show Act.put _ (some 55) _ = _; simp only [Act.put, p1', p2', p3', w1', w2']; rfl)
 refine u' 3 52 (B' 8 15) ?_ rfl rfl ?_ ?_ ?_ ?_; rotate_left; (intro w'; go_simp; with_reducible rfl); rotate_left; (simp only [Act.put, p1', p2', p3', w1', w2']; rfl)
 refine u' 4 56 (B' 8 31) ?_ rfl rfl ?_ ?_ ?_ ?_; rotate_left; (intro w'; go_simp; with_reducible rfl); rotate_left; (simp only [Act.put, p1', p2', p3', w1', w2']; rfl)
 refine u' 5 57 (B' 8 63) ?_ rfl rfl ?_ ?_ ?_ ?_; rotate_left; (intro w'; go_simp; with_reducible rfl); rotate_left; (simp only [Act.put, p1', p2', p3', w1', w2']; rfl)
 refine u' 6 18 (B' 8 127) ?_ rfl rfl ?_ ?_ ?_ ?_; rotate_left; (intro w'; go_simp; with_reducible rfl); rotate_left; (simp only [Act.put, p1', p2', p3', w1', w2']; rfl)
 refine u' 7 19 (B' 8 255) ?_ rfl rfl ?_ ?_ ?_ ?_; rotate_left; (intro w'; go_simp; with_reducible rfl); rotate_left; (simp only [Act.put, p1', p2', p3', w1', w2']; rfl)
 refine done_ (by kernel_rfl) ?_
 have HOLD := Za (show ∀ (U V : World) (S : Nat → Prop), Below W1.heap.size W1 U → Mods U V S → (∀ k, S k → W1.heap.size ≤ k) → W1.heap.size ≤ U.heap.size → Below W1.heap.size W1 V from fun U V S hU hV hS hs => below_mods hU hV hS hs)
 have HPUT := Za (show ∀ V, EncAt V S1 g1 sE → Below W1.heap.size W1 V → (∀ k, S1 k → k < V.heap.size) → Calls Try.prog 25 #[.pointer (some ⟨g1, 0, none⟩), .int .i64 base, .agg #[.int .i64 t, .int .i64 dx, .int .i64 dy, .bool ty, .int .i64 kd], .agg #[.int .i64 W, .int .i64 H, .slice AB P.length cB], .agg #[.int .i64 RW, .int .i64 RH, .slice AR RP.length cR]] V fun e V' => e = .returned (.int .i64 er) ∧ PW EncAt V S1 g1 s1 V' from fun V hE hb hS => rput_calls V S1 g1 sE base t dx dy ty kd W H AB cB P RW RH AR cR RP hE hS HOKE.out HOUT.out HW.out.1 HW.out.2 (fun U hU => Kd.C_below HB.out (below_then HB1.out HB1.out.size (HOLD.out _ _ _ hb hU (fun k hk => Nat.le_trans hs1 (HS1.out k hk).1) hb.size))) hcB (fun U hU => Kd.C_below HA.out (below_then HB1.out HB1.out.size (HOLD.out _ _ _ hb hU (fun k hk => Nat.le_trans hs1 (HS1.out k hk).1) hb.size))) hcR HbP.out HbR.out q HQ.out (s1, er) HPQ.out)
 have HRPUT := Za (show ∀ V, RefAt V S3 g3 sE → Below W1.heap.size W1 V → (∀ k, S3 k → k < V.heap.size) → Calls Try.prog 27 #[.pointer (some ⟨g3, 0, none⟩), .int .i64 base, .agg #[.int .i64 t, .int .i64 dx, .int .i64 dy, .bool ty, .int .i64 kd], .agg #[.int .i64 W, .int .i64 H, .slice AB P.length cB], .agg #[.int .i64 RW, .int .i64 RH, .slice AR RP.length cR]] V fun e V' => e = .returned (.int .i64 er) ∧ PW RefAt V S3 g3 s1 V' from fun V hE hb hS => refput_calls V S3 g3 sE base t dx dy ty kd W H AB cB P RW RH AR cR RP hE hS HOKE.out HOUT.out (fun U hU => Kd.C_below HB.out (below_then HB1.out HB1.out.size (HOLD.out _ _ _ hb hU (fun k hk => Nat.le_trans hs1 (Nat.le_trans (by omega) (HS3.out k hk).1)) hb.size))) hcB (fun U hU => Kd.C_below HA.out (below_then HB1.out HB1.out.size (HOLD.out _ _ _ hb hU (fun k hk => Nat.le_trans hs1 (Nat.le_trans (by omega) (HS3.out k hk).1)) hb.size))) hcR HbP.out HbR.out q HQ.out (s1, er) HPQ.out)
 have hdr : Below W7.heap.size W7 W7.drew := below_drew (Below.refl _ _)
 have HO0 := Za (show Below W1.heap.size W1 W7.drew from below_drew (below_then HB3.out HB3.out.size HD.out))
 have HE1 := Za (HE1.out.below hdr)
 have HE2 := Za (HE2.out.below hdr)
 have HE3 := Za (HE3.out.below hdr)
 have HE4 := Za (HE4.out.below hdr)
 have hszd : W7.drew.heap.size = W7.heap.size := rfl
 have hszd2 : W7.heap.size ≤ W7.drew.heap.size := hdr.size
 clear hszd hdr
 go_wp2_with (fail)
 refine start_ (n := 21) (S := fun w' => w'.cell? ⟨b5, 0, none⟩ = some (.int .i64 t) ∧ w'.cell? ⟨b5, 1, none⟩ = some (.int .i64 dx) ∧ w'.cell? ⟨b5, 2, none⟩ = some (.int .i64 dy) ∧ w'.cell? ⟨b5, 3, none⟩ = some (.bool ty) ∧ w'.cell? ⟨b5, 4, none⟩ = some (.int .i64 kd) ∧ w'.cell? ⟨b6, 0, none⟩ = some (.int .i64 W) ∧ w'.cell? ⟨b6, 1, none⟩ = some (.int .i64 H) ∧ w'.cell? ⟨b6, 2, none⟩ = some (.slice AB P.length cB) ∧ w'.cell? ⟨b7, 0, none⟩ = some (.int .i64 RW) ∧ w'.cell? ⟨b7, 1, none⟩ = some (.int .i64 RH) ∧ w'.cell? ⟨b7, 2, none⟩ = some (.slice AR RP.length cR)) (ds := []) (B' 21 0) (by kernel_rfl) rfl rfl ⟨(Zc (Zd HZb5.out HO0.out) 0).trans rfl, (Zc (Zd HZb5.out HO0.out) 1).trans rfl, (Zc (Zd HZb5.out HO0.out) 2).trans rfl, (Zc (Zd HZb5.out HO0.out) 3).trans rfl, (Zc (Zd HZb5.out HO0.out) 4).trans rfl, (Zc (Zd HZb6.out HO0.out) 0).trans rfl, (Zc (Zd HZb6.out HO0.out) 1).trans rfl, (Zc (Zd HZb6.out HO0.out) 2).trans rfl, (Zc (Zd HZb7.out HO0.out) 0).trans rfl, (Zc (Zd HZb7.out HO0.out) 1).trans rfl, (Zc (Zd HZb7.out HO0.out) 2).trans rfl⟩ (fun hHeld => ?_)
 refine u' 0 58 (B' 21 1) ?_ rfl rfl ?_ ?_ ?_ ?_; rotate_left; (intro w'; go_simp; with_reducible rfl); rotate_left; (simp only [Act.put, p1', p2', p3', w1', w2']; rfl)
 refine u' 1 59 (B' 21 3) ?_ rfl rfl ?_ ?_ ?_ ?_; rotate_left; (intro w'; go_simp; with_reducible rfl); rotate_left; (simp only [Act.put, p1', p2', p3', w1', w2']; rfl)
 refine u' 6 64 (B' 21 67) ?_ rfl rfl ?_ ?_ ?_ ?_; rotate_left; (intro w'; go_simp; with_reducible rfl); rotate_left; (simp only [Act.put, p1', p2', p3', w1', w2']; rfl)
 refine u' 7 65 (B' 21 195) ?_ rfl rfl ?_ ?_ ?_ ?_; rotate_left; (intro w'; go_simp; with_reducible rfl); rotate_left; (simp only [Act.put, p1', p2', p3', w1', w2']; rfl)
 refine t' 2 60 (B' 21 199) ?_ rfl rfl ?_ hHeld ?_ ?_ ?_; rotate_left; (rintro w' ⟨s0, s1, s2, s3, s4, s5, s6, s7, s8, s9, s10⟩; go_simp; with_reducible rfl); rotate_left; (simp only [Act.put, p1', p2', p3', w1', w2']; rfl)
 refine t' 3 61 (B' 21 207) ?_ rfl rfl ?_ hHeld ?_ ?_ ?_; rotate_left; (rintro w' ⟨s0, s1, s2, s3, s4, s5, s6, s7, s8, s9, s10⟩; go_simp; with_reducible rfl); rotate_left; (simp only [Act.put, p1', p2', p3', w1', w2']; rfl)
 refine t' 4 62 (B' 21 223) ?_ rfl rfl ?_ hHeld ?_ ?_ ?_; rotate_left; (rintro w' ⟨s0, s1, s2, s3, s4, s5, s6, s7, s8, s9, s10⟩; go_simp; with_reducible rfl); rotate_left; (simp only [Act.put, p1', p2', p3', w1', w2']; rfl)
 refine t' 8 66 (B' 21 479) ?_ rfl rfl ?_ hHeld ?_ ?_ ?_; rotate_left; (rintro w' ⟨s0, s1, s2, s3, s4, s5, s6, s7, s8, s9, s10⟩; go_simp; with_reducible rfl); rotate_left; (simp only [Act.put, p1', p2', p3', w1', w2']; rfl)
 refine t' 9 67 (B' 21 991) ?_ rfl rfl ?_ hHeld ?_ ?_ ?_; rotate_left; (rintro w' ⟨s0, s1, s2, s3, s4, s5, s6, s7, s8, s9, s10⟩; go_simp; with_reducible rfl); rotate_left; (simp only [Act.put, p1', p2', p3', w1', w2']; rfl)
 refine t' 10 68 (B' 21 2015) ?_ rfl rfl ?_ hHeld ?_ ?_ ?_; rotate_left; (rintro w' ⟨s0, s1, s2, s3, s4, s5, s6, s7, s8, s9, s10⟩; go_simp; with_reducible rfl); rotate_left; (simp only [Act.put, p1', p2', p3', w1', w2']; rfl)
 refine one_ (i := 5) (N := some 63) (B' 21 2047) rfl rfl (by kernel_rfl) (by decide) (fun K hK => ?_)
 refine goes_ Try.func25 (by kernel_rfl) rfl #[.pointer (some ⟨g1, 0, none⟩), .int .i64 base, .agg #[.int .i64 t, .int .i64 dx, .int .i64 dy, .bool ty, .int .i64 kd], .agg #[.int .i64 W, .int .i64 H, .slice AB P.length cB], .agg #[.int .i64 RW, .int .i64 RH, .slice AR RP.length cR]] (by rfl) rfl rfl (by simp only [List.map_toArray, List.map_cons, List.map_nil]; rfl) ?_
 with_reducible refine (HPUT.out _ HE1.out HO0.out (fun k hk => Nat.lt_of_lt_of_le (HS1.out k hk).2 (by omega))).mono ?_
 rintro e V1 ⟨rfl, hP⟩
 refine ⟨_, rfl, ?_⟩
 have HP1 := Za hP
 have HO1 := Za (HOLD.out _ _ _ HO0.out hP.m (fun k hk => Nat.le_trans hs1 (HS1.out k hk).1) (Nat.le_trans hs1 (by omega)))
 have HE2 := Za (DecAt.kept HE2.out hP.m (fun k hk h => by have := HS2.out k hk; have := HS1.out k h; omega))
 have HE3 := Za (RefAt.kept HE3.out hP.m (fun k hk h => by have := HS3.out k hk; have := HS1.out k h; omega))
 have HE4 := Za (RDecAt.kept HE4.out hP.m (fun k hk h => by have := HS4.out k hk; have := HS1.out k h; omega))
 have hv1 := hP.m.size
 clear hP
 refine hK.out _ _ ⟨(Zc (Zd HZb5.out HO1.out) 0).trans rfl, (Zc (Zd HZb5.out HO1.out) 1).trans rfl, (Zc (Zd HZb5.out HO1.out) 2).trans rfl, (Zc (Zd HZb5.out HO1.out) 3).trans rfl, (Zc (Zd HZb5.out HO1.out) 4).trans rfl, (Zc (Zd HZb6.out HO1.out) 0).trans rfl, (Zc (Zd HZb6.out HO1.out) 1).trans rfl, (Zc (Zd HZb6.out HO1.out) 2).trans rfl, (Zc (Zd HZb7.out HO1.out) 0).trans rfl, (Zc (Zd HZb7.out HO1.out) 1).trans rfl, (Zc (Zd HZb7.out HO1.out) 2).trans rfl⟩ (fun hHeld => ?_)
 clear hK K
 refine n' ?_ ?_ ?_; rotate_left; (show Act.put _ (some 63) _ = _; simp only [Act.put, p1', p2', p3', w1', w2']; rfl)
 refine one_ (i := 11) (N := some 69) (B' 21 4095) rfl rfl (by kernel_rfl) (by decide) (fun K hK => ?_)
 refine goes_ Try.func27 (by kernel_rfl) rfl #[.pointer (some ⟨g3, 0, none⟩), .int .i64 base, .agg #[.int .i64 t, .int .i64 dx, .int .i64 dy, .bool ty, .int .i64 kd], .agg #[.int .i64 W, .int .i64 H, .slice AB P.length cB], .agg #[.int .i64 RW, .int .i64 RH, .slice AR RP.length cR]] (by rfl) rfl rfl (by simp only [List.map_toArray, List.map_cons, List.map_nil]; rfl) ?_
 with_reducible refine (HRPUT.out _ HE3.out HO1.out (fun k hk => Nat.lt_of_lt_of_le (HS3.out k hk).2 (by omega))).mono ?_
 rintro e V2 ⟨rfl, hP⟩
 refine ⟨_, rfl, ?_⟩
 have HP2 := Za hP
 have HO2 := Za (HOLD.out _ _ _ HO1.out hP.m (fun k hk => Nat.le_trans hs1 (Nat.le_trans (by omega) (HS3.out k hk).1)) (Nat.le_trans hs1 (by omega)))
 have HE2 := Za (DecAt.kept HE2.out hP.m (fun k hk h => by have := HS2.out k hk; have := HS3.out k h; omega))
 have HE1 := Za (EncAt.kept HP1.out.e hP.m (fun k hk h => by have := HS3.out k h; rcases hk.1 with h1 | h1; (have := HS1.out k h1; omega); omega))
 have HE4 := Za (RDecAt.kept HE4.out hP.m (fun k hk h => by have := HS4.out k hk; have := HS3.out k h; omega))
 have hv2 := hP.m.size
 clear hP
 refine hK.out _ _ ⟨(Zc (Zd HZb5.out HO2.out) 0).trans rfl, (Zc (Zd HZb5.out HO2.out) 1).trans rfl, (Zc (Zd HZb5.out HO2.out) 2).trans rfl, (Zc (Zd HZb5.out HO2.out) 3).trans rfl, (Zc (Zd HZb5.out HO2.out) 4).trans rfl, (Zc (Zd HZb6.out HO2.out) 0).trans rfl, (Zc (Zd HZb6.out HO2.out) 1).trans rfl, (Zc (Zd HZb6.out HO2.out) 2).trans rfl, (Zc (Zd HZb7.out HO2.out) 0).trans rfl, (Zc (Zd HZb7.out HO2.out) 1).trans rfl, (Zc (Zd HZb7.out HO2.out) 2).trans rfl⟩ (fun hHeld => ?_)
 clear hK K
 refine n' ?_ ?_ ?_; rotate_left; (show Act.put _ (some 69) _ = _; simp only [Act.put, p1', p2', p3', w1', w2']; rfl)
 refine u' 12 70 (B' 21 8191) ?_ rfl rfl ?_ ?_ ?_ ?_; rotate_left; (intro w'; go_simp; with_reducible rfl); rotate_left; (simp only [Act.put, p1', p2', p3', w1', w2']; rfl)
 refine u' 13 71 (B' 21 16383) ?_ rfl rfl ?_ ?_ ?_ ?_; rotate_left; (intro w'; go_simp; with_reducible rfl); rotate_left; (simp only [Act.put, p1', p2', p3', w1', w2']; rfl)
 refine u' 14 72 (B' 21 32767) ?_ rfl rfl ?_ ?_ ?_ ?_; rotate_left; (intro w'; go_simp; with_reducible rfl); rotate_left; (simp only [Act.put, p1', p2', p3', w1', w2']; rfl)
 refine u' 16 74 (B' 21 98303) ?_ rfl rfl ?_ ?_ ?_ ?_; rotate_left; (intro w'; go_simp; with_reducible rfl); rotate_left; (simp only [Act.put, p1', p2', p3', w1', w2']; rfl)
 refine one_ (i := 15) (N := some 73) (B' 21 131071) rfl rfl (by kernel_rfl) (by decide) (fun K hK => ?_)
 refine goes_ Try.func29 (by kernel_rfl) rfl #[.pointer (some ⟨g1, 0, none⟩)] (by rfl) rfl rfl (by simp only [List.map_toArray, List.map_cons, List.map_nil]; rfl) ?_
 with_reducible refine (end_calls _ _ _ _ HE1.out HP1.out.ok HLO.out).mono ?_
 rintro e V3 ⟨A3, c3, rfl, hR3, hb⟩
 refine ⟨_, rfl, ?_⟩
 have HO3 := Za (below_then HO2.out HO2.out.size hb)
 have HE2 := Za (HE2.out.below hb)
 have HE4 := Za (HE4.out.below hb)
 have HE3 := Za (HP2.out.e.below hb)
 have hc3 := (Kd.R_reads' hR3).2.1
 have HC3 := Za (Kd.R_reads' hR3).2.2
 have hv3 := hb.size
 clear hR3 hb
 refine hK.out _ _ ⟨(Zc (Zd HZb5.out HO3.out) 0).trans rfl, (Zc (Zd HZb5.out HO3.out) 1).trans rfl, (Zc (Zd HZb5.out HO3.out) 2).trans rfl, (Zc (Zd HZb5.out HO3.out) 3).trans rfl, (Zc (Zd HZb5.out HO3.out) 4).trans rfl, (Zc (Zd HZb6.out HO3.out) 0).trans rfl, (Zc (Zd HZb6.out HO3.out) 1).trans rfl, (Zc (Zd HZb6.out HO3.out) 2).trans rfl, (Zc (Zd HZb7.out HO3.out) 0).trans rfl, (Zc (Zd HZb7.out HO3.out) 1).trans rfl, (Zc (Zd HZb7.out HO3.out) 2).trans rfl⟩ (fun hHeld => ?_)
 clear hK K
 refine n' ?_ ?_ ?_; rotate_left; (show Act.put _ (some 73) _ = _; simp only [Act.put, p1', p2', p3', w1', w2']; rfl)
 refine one_ (i := 17) (N := some 75) (B' 21 262143) rfl rfl (by kernel_rfl) (by decide) (fun K hK => ?_)
 refine goes_ Try.func30 (by kernel_rfl) rfl #[.pointer (some ⟨g3, 0, none⟩)] (by rfl) rfl rfl (by simp only [List.map_toArray, List.map_cons, List.map_nil]; rfl) ?_
 with_reducible refine (ref_end_calls _ _ _ _ HE3.out HP2.out.ok HLO.out).mono ?_
 rintro e V4 ⟨A4, c4, rfl, hR4, hb⟩
 refine ⟨_, rfl, ?_⟩
 have HO4 := Za (below_then HO3.out HO3.out.size hb)
 have HE2 := Za (HE2.out.below hb)
 have HE4 := Za (HE4.out.below hb)
 have HC3 := Za (Kd.C_below HC3.out hb)
 have hc4 := (Kd.R_reads' hR4).2.1
 have HC4 := Za (Kd.R_reads' hR4).2.2
 have hv4 := hb.size
 clear hR4 hb
 refine hK.out _ _ ⟨(Zc (Zd HZb5.out HO4.out) 0).trans rfl, (Zc (Zd HZb5.out HO4.out) 1).trans rfl, (Zc (Zd HZb5.out HO4.out) 2).trans rfl, (Zc (Zd HZb5.out HO4.out) 3).trans rfl, (Zc (Zd HZb5.out HO4.out) 4).trans rfl, (Zc (Zd HZb6.out HO4.out) 0).trans rfl, (Zc (Zd HZb6.out HO4.out) 1).trans rfl, (Zc (Zd HZb6.out HO4.out) 2).trans rfl, (Zc (Zd HZb7.out HO4.out) 0).trans rfl, (Zc (Zd HZb7.out HO4.out) 1).trans rfl, (Zc (Zd HZb7.out HO4.out) 2).trans rfl⟩ (fun hHeld => ?_)
 clear hK K
 refine n' ?_ ?_ ?_; rotate_left; (show Act.put _ (some 75) _ = _; simp only [Act.put, p1', p2', p3', w1', w2']; rfl)
 refine one_ (i := 18) (N := some 76) (B' 21 524287) rfl rfl (by kernel_rfl) (by decide) (fun K hK => ?_)
 refine goes_ Try.func18 (by kernel_rfl) rfl #[.slice A3 s1.end_.length c3, .slice A4 s1.end_.length c4] (by rfl) rfl rfl (by simp only [List.map_toArray, List.map_cons, List.map_nil]; rfl) ?_
 with_reducible refine (Len.SB A3 c3 A4 c4 s1.end_ _ HC3.out hc3 HC4.out hc4).mono ?_
 rintro e V5 ⟨rfl, hb⟩
 refine ⟨_, rfl, ?_⟩
 have HO5 := Za (below_then HO4.out HO4.out.size hb)
 have HE2 := Za (HE2.out.below hb)
 have HE4 := Za (HE4.out.below hb)
 have hv5 := hb.size
 clear hb
 refine hK.out _ _ ⟨(Zc (Zd HZb5.out HO5.out) 0).trans rfl, (Zc (Zd HZb5.out HO5.out) 1).trans rfl, (Zc (Zd HZb5.out HO5.out) 2).trans rfl, (Zc (Zd HZb5.out HO5.out) 3).trans rfl, (Zc (Zd HZb5.out HO5.out) 4).trans rfl, (Zc (Zd HZb6.out HO5.out) 0).trans rfl, (Zc (Zd HZb6.out HO5.out) 1).trans rfl, (Zc (Zd HZb6.out HO5.out) 2).trans rfl, (Zc (Zd HZb7.out HO5.out) 0).trans rfl, (Zc (Zd HZb7.out HO5.out) 1).trans rfl, (Zc (Zd HZb7.out HO5.out) 2).trans rfl⟩ (fun hHeld => ?_)
 clear hK K
 refine n' ?_ ?_ ?_; rotate_left; (show Act.put _ (some 76) _ = _; simp only [Act.put, p1', p2', p3', w1', w2']; rfl)
 refine u' 19 77 (B' 21 1048575) ?_ rfl rfl ?_ ?_ ?_ ?_; rotate_left; (intro w'; go_simp; with_reducible rfl); rotate_left; (simp only [Act.put, p1', p2', p3', w1', w2']; rfl)
 refine u' 20 78 (B' 21 2097151) ?_ rfl rfl ?_ ?_ ?_ ?_; rotate_left; (intro w'; go_simp; with_reducible rfl); rotate_left; (simp only [Act.put, p1', p2', p3', w1', w2']; rfl)
 refine done_ (by kernel_rfl) ?_
 clear HE1 HE3 HP1 HP2 HO0 HO1 HO2 HO3 HO4 HC3 HC4 HPUT HRPUT
 have qb50 : V5.cell? ⟨b5, 0, none⟩ = some (.int .i64 t) := (Zc (Zd HZb5.out HO5.out) 0).trans rfl
 have qb51 : V5.cell? ⟨b5, 1, none⟩ = some (.int .i64 dx) := (Zc (Zd HZb5.out HO5.out) 1).trans rfl
 have qb52 : V5.cell? ⟨b5, 2, none⟩ = some (.int .i64 dy) := (Zc (Zd HZb5.out HO5.out) 2).trans rfl
 have qb53 : V5.cell? ⟨b5, 3, none⟩ = some (.bool ty) := (Zc (Zd HZb5.out HO5.out) 3).trans rfl
 have qb54 : V5.cell? ⟨b5, 4, none⟩ = some (.int .i64 kd) := (Zc (Zd HZb5.out HO5.out) 4).trans rfl
 have qb60 : V5.cell? ⟨b6, 0, none⟩ = some (.int .i64 W) := (Zc (Zd HZb6.out HO5.out) 0).trans rfl
 have qb61 : V5.cell? ⟨b6, 1, none⟩ = some (.int .i64 H) := (Zc (Zd HZb6.out HO5.out) 1).trans rfl
 have qb62 : V5.cell? ⟨b6, 2, none⟩ = some (.slice AB P.length cB) := (Zc (Zd HZb6.out HO5.out) 2).trans rfl
 have qb70 : V5.cell? ⟨b7, 0, none⟩ = some (.int .i64 RW) := (Zc (Zd HZb7.out HO5.out) 0).trans rfl
 have qb71 : V5.cell? ⟨b7, 1, none⟩ = some (.int .i64 RH) := (Zc (Zd HZb7.out HO5.out) 1).trans rfl
 have qb72 : V5.cell? ⟨b7, 2, none⟩ = some (.slice AR RP.length cR) := (Zc (Zd HZb7.out HO5.out) 2).trans rfl
 go_wp2_with (fail)
 refine (rfget_calls V5 S2 g2 sD base t dx dy ty kd W H RW RH AR cR RP HE2.out (fun k hk => by have := HS2.out k hk; omega) HOKD.out HW.out.1 HW.out.2 (fun U hU => Kd.C_below HA.out (below_then HB1.out HB1.out.size (HOLD.out _ _ _ HO5.out hU (fun k hk => by have := HS2.out k hk; omega) HO5.out.size))) hcR HbR.out q HQ.out _ HGQ.out).mono ?_
 rintro e V6 ⟨A6, c6, rfl, hR6, hI⟩
 have HO6 := Za (HOLD.out _ _ _ HO5.out hI.m (fun k hk => by have := HS2.out k hk; omega) HO5.out.size)
 have HE4 := Za (RDecAt.kept HE4.out hI.m (fun k hk h => by have := HS4.out k hk; have := HS2.out k h; omega))
 have hv6 := hI.m.size
 simp only at hR6 ⊢
 have HR6 := Za (row_from hR6)
 have hc6 := (Kd.R_reads' hR6).2.1
 clear hI hR6 qb50 qb51 qb52 qb53 qb54 qb60 qb61 qb62 qb70 qb71 qb72
 obtain ⟨b20, hb20⟩ : ∃ x, V6.heap.size = x := ⟨_, rfl⟩
 obtain ⟨V7, hV7⟩ : ∃ x, V6.alloc (.cells #[.int .i64 x2, .int .i64 y2, .slice A6 P2.length c6] 31) = x := ⟨_, rfl⟩
 have hb7 : Below V6.heap.size V6 V7 := hV7 ▸ b1' (Below.refl _ _) _
 have HO7 := Za (below_then HO6.out HO6.out.size hb7)
 have HE4 := Za (HE4.out.below hb7)
 have HR7 := Za (Kd.R_below HR6.out hb7)
 have HZ20 := Za (show V7.heap[b20]? = some (.cells #[.int .i64 x2, .int .i64 y2, .slice A6 P2.length c6] 31 (0, 0)) from hV7 ▸ hb20 ▸ heap_new V6 _)
 have h20 : V6.heap.size ≤ b20 ∧ b20 < V7.heap.size := ⟨by omega, blk_lt HZ20.out⟩
 have hv7 := hb7.size
 clear hb7
 have qb50 : V7.cell? ⟨b5, 0, none⟩ = some (.int .i64 t) := (Zc (Zd HZb5.out HO7.out) 0).trans rfl
 have qb51 : V7.cell? ⟨b5, 1, none⟩ = some (.int .i64 dx) := (Zc (Zd HZb5.out HO7.out) 1).trans rfl
 have qb52 : V7.cell? ⟨b5, 2, none⟩ = some (.int .i64 dy) := (Zc (Zd HZb5.out HO7.out) 2).trans rfl
 have qb53 : V7.cell? ⟨b5, 3, none⟩ = some (.bool ty) := (Zc (Zd HZb5.out HO7.out) 3).trans rfl
 have qb54 : V7.cell? ⟨b5, 4, none⟩ = some (.int .i64 kd) := (Zc (Zd HZb5.out HO7.out) 4).trans rfl
 have qb60 : V7.cell? ⟨b6, 0, none⟩ = some (.int .i64 W) := (Zc (Zd HZb6.out HO7.out) 0).trans rfl
 have qb61 : V7.cell? ⟨b6, 1, none⟩ = some (.int .i64 H) := (Zc (Zd HZb6.out HO7.out) 1).trans rfl
 have qb62 : V7.cell? ⟨b6, 2, none⟩ = some (.slice AB P.length cB) := (Zc (Zd HZb6.out HO7.out) 2).trans rfl
 have qb70 : V7.cell? ⟨b7, 0, none⟩ = some (.int .i64 RW) := (Zc (Zd HZb7.out HO7.out) 0).trans rfl
 have qb71 : V7.cell? ⟨b7, 1, none⟩ = some (.int .i64 RH) := (Zc (Zd HZb7.out HO7.out) 1).trans rfl
 have qb72 : V7.cell? ⟨b7, 2, none⟩ = some (.slice AR RP.length cR) := (Zc (Zd HZb7.out HO7.out) 2).trans rfl
 go_wp2_with (fail)
 clear hV7 hb20
 refine (refget_calls V7 S4 g4 sD base t dx dy ty kd W H RW RH AR cR RP HE4.out (fun k hk => by have := HS4.out k hk; omega) HOKD.out (fun U hU => Kd.C_below HA.out (below_then HB1.out HB1.out.size (HOLD.out _ _ _ HO7.out hU (fun k hk => by have := HS4.out k hk; omega) HO7.out.size))) hcR HbR.out q HQ.out _ HGQ.out).mono ?_
 rintro e V8 ⟨A8, c8, rfl, hR8, hI⟩
 have HO8 := Za (HOLD.out _ _ _ HO7.out hI.m (fun k hk => by have := HS4.out k hk; omega) HO7.out.size)
 have HR7 := Za (Kd.R_kept HR7.out hI.m.kept (fun k hk h => by have := HS4.out k h; have := hk.1; omega))
 have HZ20 := Za (blk_mods HZ20.out hI.m (fun h => by have := HS4.out _ h; omega))
 simp only at hR8 ⊢
 have HR8 := Za hR8
 have hc8 := (Kd.R_reads' hR8).2.1
 clear hI hR8 qb50 qb51 qb52 qb53 qb54 qb60 qb61 qb62 qb70 qb71 qb72
 obtain ⟨b22, hb22⟩ : ∃ x, V8.heap.size = x := ⟨_, rfl⟩
 obtain ⟨V9, hV9⟩ : ∃ x, V8.alloc (.cells #[.int .i64 x2, .int .i64 y2, .slice A8 P2.length c8] 31) = x := ⟨_, rfl⟩
 have hb9 : Below V8.heap.size V8 V9 := hV9 ▸ b1' (Below.refl _ _) _
 have HO9 := Za (below_then HO8.out HO8.out.size hb9)
 have HC6 := Za (Kd.C_below (Kd.R_reads' HR7.out).2.2 hb9)
 have HC8 := Za (Kd.C_below (Kd.R_reads' HR8.out).2.2 hb9)
 have HZ20 := Za (Zd HZ20.out hb9)
 have HZ22 := Za (show V9.heap[b22]? = some (.cells #[.int .i64 x2, .int .i64 y2, .slice A8 P2.length c8] 31 (0, 0)) from hV9 ▸ hb22 ▸ heap_new V8 _)
 clear hb9
 have qb50 : V9.cell? ⟨b5, 0, none⟩ = some (.int .i64 t) := (Zc (Zd HZb5.out HO9.out) 0).trans rfl
 have qb51 : V9.cell? ⟨b5, 1, none⟩ = some (.int .i64 dx) := (Zc (Zd HZb5.out HO9.out) 1).trans rfl
 have qb52 : V9.cell? ⟨b5, 2, none⟩ = some (.int .i64 dy) := (Zc (Zd HZb5.out HO9.out) 2).trans rfl
 have qb53 : V9.cell? ⟨b5, 3, none⟩ = some (.bool ty) := (Zc (Zd HZb5.out HO9.out) 3).trans rfl
 have qb54 : V9.cell? ⟨b5, 4, none⟩ = some (.int .i64 kd) := (Zc (Zd HZb5.out HO9.out) 4).trans rfl
 have qb60 : V9.cell? ⟨b6, 0, none⟩ = some (.int .i64 W) := (Zc (Zd HZb6.out HO9.out) 0).trans rfl
 have qb61 : V9.cell? ⟨b6, 1, none⟩ = some (.int .i64 H) := (Zc (Zd HZb6.out HO9.out) 1).trans rfl
 have qb62 : V9.cell? ⟨b6, 2, none⟩ = some (.slice AB P.length cB) := (Zc (Zd HZb6.out HO9.out) 2).trans rfl
 have qb70 : V9.cell? ⟨b7, 0, none⟩ = some (.int .i64 RW) := (Zc (Zd HZb7.out HO9.out) 0).trans rfl
 have qb71 : V9.cell? ⟨b7, 1, none⟩ = some (.int .i64 RH) := (Zc (Zd HZb7.out HO9.out) 1).trans rfl
 have qb72 : V9.cell? ⟨b7, 2, none⟩ = some (.slice AR RP.length cR) := (Zc (Zd HZb7.out HO9.out) 2).trans rfl
 go_wp2_with (fail)
 clear hV9 hb22
 refine (rget_none _ base t dx dy ty kd W H RW RH AR RP.length cR).mono ?_
 rintro e V10 ⟨rfl, hb⟩
 have HO10 := Za (below_then HO9.out HO9.out.size hb)
 have HC6 := Za (Kd.C_below HC6.out hb)
 have HC8 := Za (Kd.C_below HC8.out hb)
 have HZ20 := Za (Zd HZ20.out hb)
 have HZ22 := Za (Zd HZ22.out hb)
 clear hb qb50 qb51 qb52 qb53 qb54 qb60 qb61 qb62 qb70 qb71 qb72
 have hb11 : Below V10.heap.size V10 (V10.alloc (.cells #[.int .i64 0, .int .i64 0, .slice none 0 0] 31)) := b1' (Below.refl _ _) _
 have HO11 := Za (below_then HO10.out HO10.out.size hb11)
 have HC6 := Za (Kd.C_below HC6.out hb11)
 have HC8 := Za (Kd.C_below HC8.out hb11)
 have HZ20 := Za (Zd HZ20.out hb11)
 have HZ22 := Za (Zd HZ22.out hb11)
 clear hb11
 have p0 : (V10.alloc (.cells #[.int .i64 0, .int .i64 0, .slice none 0 0] 31)).cell? ⟨b20, 0, none⟩ = some (.int .i64 x2) := (Zc HZ20.out 0).trans rfl
 have p1 : (V10.alloc (.cells #[.int .i64 0, .int .i64 0, .slice none 0 0] 31)).cell? ⟨b20, 1, none⟩ = some (.int .i64 y2) := (Zc HZ20.out 1).trans rfl
 have p2 : (V10.alloc (.cells #[.int .i64 0, .int .i64 0, .slice none 0 0] 31)).cell? ⟨b20, 2, none⟩ = some (.slice A6 P2.length c6) := (Zc HZ20.out 2).trans rfl
 have r0 : (V10.alloc (.cells #[.int .i64 0, .int .i64 0, .slice none 0 0] 31)).cell? ⟨b22, 0, none⟩ = some (.int .i64 x2) := (Zc HZ22.out 0).trans rfl
 have r1 : (V10.alloc (.cells #[.int .i64 0, .int .i64 0, .slice none 0 0] 31)).cell? ⟨b22, 1, none⟩ = some (.int .i64 y2) := (Zc HZ22.out 1).trans rfl
 have r2 : (V10.alloc (.cells #[.int .i64 0, .int .i64 0, .slice none 0 0] 31)).cell? ⟨b22, 2, none⟩ = some (.slice A8 P2.length c8) := (Zc HZ22.out 2).trans rfl
 go_wp2_with (fail)
 obtain ⟨K1, hK1⟩ := Ev.rounds (same_ev x2 y2 P2 (Kd.C_max HC6.out))
 refine (incunableref06_SameBitmap.calls K1 x2 y2 A6 c6 P2 x2 y2 A8 c8 P2 true _ HC6.out hc6 HC8.out hc8 hK1).mono ?_
 rintro e V12 ⟨rfl, hb⟩
 have HO12 := Za (below_then HO11.out HO11.out.size hb)
 clear hb hK1 p0 p1 p2 r0 r1 r2
 have qb50 : V12.cell? ⟨b5, 0, none⟩ = some (.int .i64 t) := (Zc (Zd HZb5.out HO12.out) 0).trans rfl
 have qb51 : V12.cell? ⟨b5, 1, none⟩ = some (.int .i64 dx) := (Zc (Zd HZb5.out HO12.out) 1).trans rfl
 have qb52 : V12.cell? ⟨b5, 2, none⟩ = some (.int .i64 dy) := (Zc (Zd HZb5.out HO12.out) 2).trans rfl
 have qb53 : V12.cell? ⟨b5, 3, none⟩ = some (.bool ty) := (Zc (Zd HZb5.out HO12.out) 3).trans rfl
 have qb54 : V12.cell? ⟨b5, 4, none⟩ = some (.int .i64 kd) := (Zc (Zd HZb5.out HO12.out) 4).trans rfl
 have qb60 : V12.cell? ⟨b6, 0, none⟩ = some (.int .i64 W) := (Zc (Zd HZb6.out HO12.out) 0).trans rfl
 have qb61 : V12.cell? ⟨b6, 1, none⟩ = some (.int .i64 H) := (Zc (Zd HZb6.out HO12.out) 1).trans rfl
 have qb62 : V12.cell? ⟨b6, 2, none⟩ = some (.slice AB P.length cB) := (Zc (Zd HZb6.out HO12.out) 2).trans rfl
 have qb70 : V12.cell? ⟨b7, 0, none⟩ = some (.int .i64 RW) := (Zc (Zd HZb7.out HO12.out) 0).trans rfl
 have qb71 : V12.cell? ⟨b7, 1, none⟩ = some (.int .i64 RH) := (Zc (Zd HZb7.out HO12.out) 1).trans rfl
 have qb72 : V12.cell? ⟨b7, 2, none⟩ = some (.slice AR RP.length cR) := (Zc (Zd HZb7.out HO12.out) 2).trans rfl
 go_wp2_with (fail)
 refine (rput_none _ base t dx dy ty kd W H AB P.length cB RW RH AR RP.length cR).mono ?_
 rintro e V13 ⟨rfl, hb⟩
 have HO13 := Za (below_then HO12.out HO12.out.size hb)
 clear hb qb50 qb51 qb52 qb53 qb54 qb60 qb61 qb62 qb70 qb71 qb72
 go_wp2_with (fail)
 refine (Raw.awake_calls _).mono ?_
 rintro e V14 ⟨rfl, hb⟩
 have HO14 := Za (below_then HO13.out HO13.out.size hb)
 clear hb
 go_wp2_with (fail)
 go_ret
 exact ⟨rfl, below_then HB1.out HB1.out.size HO14.out⟩
end Go.Proofs.Ytkfejicdjpffcaa.Ler
