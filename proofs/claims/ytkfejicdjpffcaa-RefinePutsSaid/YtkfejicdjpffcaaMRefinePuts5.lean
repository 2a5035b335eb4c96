import Derived.Test.YtkfejicdjpffcaaMRefinePuts2
import Derived.Test.YtkfejicdjpffcaaMRefinePuts3
import Derived.Test.YtkfejicdjpffcaaMRefinePuts4
import Derived.Laws.ResultCell
import Derived.Test.YtkfejicdjpffcaaMRefinePuts1
import Derived.Test.YtkfejicdjpffcaaMRefinePuts0
set_option linter.unusedVariables false
set_option linter.unusedSimpArgs false
namespace Go.Proofs.Ytkfejicdjpffcaa.Rrw
open Go Go.RowKit YtkfejicdjpffcaaW PrintWords PrintLast PrintMore U Aid HandAid Cod1 Cod2 Cod3 Ytkfejicdjpffcaa.Mod NewRef Enc Mods EncAt Put End Snc Dec Get DecNew RefAt RDec RDecNew Isk Pse Rpx Rva Rfl Rcx Rty Rev Rdv
set_option maxHeartbeats 8000000 in
set_option maxRecDepth 100000 in
theorem rrow_calls (w0 V : World) (S T : Nat → Prop) (B gd gr : Nat) (s : DS) (base t dx dy : Int) (ty : Bool) (kd W H : Int) (AB : Option Addr) (nB cB : Nat) (P : List Int) (RW RH : Int) (AR : Option Addr) (cR : Nat) (RP : List Int) (y : Nat)
 (hZ : ∀ V, Mods w0 V (fun k => S k ∨ T k) → V.heap[gr]? = some (.cells (regc t dx dy ty kd W H (.slice AB nB cB) RW RH (.slice AR RP.length cR)) 109 (0, 0)))
 (hA : ∀ V, Mods w0 V (fun k => S k ∨ T k) → Kd.C (Kd.int .u8) V AR RP.length RP) (hcR : RP.length ≤ cR) (hS : ∀ k, S k → k < w0.heap.size) (hST : ∀ k, T k → ¬ S k)
 (hX : GX DecAt w0 S T B gd s (.slice AB nB cB) P V) (hL : P.length = nB) (hb : Bm W H P) (hbr : Bm RW RH RP) (ht : t = 0 ∨ t = 1) (hdx : -200 ≤ dx ∧ dx ≤ 200) (hdy : -200 ≤ dy ∧ dy ≤ 200) (hbase : 0 ≤ base ∧ base ≤ 8192) (hyH : (y : Int) < H) (q : RQ) (hq : q = ⟨t, dx, dy, ty, W, H, RW, RH, RP, base⟩) (R : DS × List Int × Int) (hR : rowH q (y : Int) s P = R) :
 Calls Try.prog 82 #[.pointer (some ⟨gr, 0, none⟩), .pointer (some ⟨gd, 0, none⟩), .int .i64 base, .int .i64 (y : Int)] V fun e V' => e = .returned (.int .i64 R.2.2) ∧ GX DecAt w0 S T B gd R.1 (.slice AB nB cB) R.2.1 V' := by
 have HZ := A' hZ
 have HS := A' hS
 have HST := A' hST
 have HX0 := A' hX
 have HL0 := A' hL
 have HBM0 := A' hb
 have HBM := A' hb
 have HBR := A' hbr
 have HT := A' ht
 have HREG := A' (show ∀ V (s2 : DS) P2, GX DecAt w0 S T B gd s2 (.slice AB nB cB) P2 V → P2.length = nB → Bm W H P2 → Reg V gr t dx dy ty kd W H AB cB P2 RW RH AR cR RP from fun V s2 P2 hG hl hb2 => by
  subst hl
  exact ⟨hZ V hG.m, (Kd.R_reads' hG.p).2.2, (Kd.R_reads' hG.p).2.1, hA V hG.m, hcR, hb2, hbr, ht, by omega, by omega⟩)
 have HQF := A' (show ∀ x y, q.flat x y = flatP RW RH RP (x - dx) (y - dy) from fun x y => by rw [hq]; rfl)
 have HQC := A' (show ∀ P2 x y, q.base + q.ctx P2 x y = base + ctxP t dx dy W H P2 RW RH RP x y from fun P2 x y => by rw [hq]; rfl)
 have HQI := A' (show ∀ x y : Int, (y * q.W + x).toNat = (y * W + x).toNat from fun x y => by rw [hq])
 have hq1 : q.ty = ty := by rw [hq]
 have hq2 : q.W = W := by rw [hq]
 have hq3 : q.base + ctxs q.t = base + ctxs t := by rw [hq]
 unfold rowH at hR
 rw [hq1, hq2, hq3] at hR
 have hu1 := Try.underlying109
 have hu2 := Try.underlying107
 have hu3 := Try.underlying23
 have hcx := ctxs_range t
 have hyb : (y : Int) ≤ 200 := by have := hb.h; omega
 have z0 : V.cell? ⟨gr, 0, none⟩ = some (.int .i64 t) := (blk_cell (hZ V hX.m) 0).trans rfl
 have z3 : V.cell? ⟨gr, 3, none⟩ = some (.bool ty) := (blk_cell (hZ V hX.m) 3).trans rfl
 have z5 : V.cell? ⟨gr, 5, none⟩ = some (.int .i64 W) := (blk_cell (hZ V hX.m) 5).trans rfl
 clear hZ hA hS hST hX hL hb hbr ht hq hq1 hq2 hq3
 cases ty
 · rw [if_neg (by decide)] at hR
   have HR := A' (show rowD q (y : Int) 0 (W.toNat - 0) 0 s P = R from hR)
   clear hR
   go_enter Try.func82, Try.ntmps82
   go_wp2_with (fail)
   clear z0 z3 z5
   have hw := HBM.out.w
   have hh := HBM.out.h
   clear HBM
   go_loopw [45] (fun i wr => ∃ (m : Nat) (s2 : DS) (P2 : List Int), m ≤ W.toNat ∧ i = .int .i64 m ∧ Aside0 (rowD q (y : Int) 0 (W.toNat - m) m s2 P2 = R) ∧ Aside0 (P2.length = nB) ∧ Aside0 (Bm W H P2) ∧ Aside0 (GX DecAt w0 S T B gd s2 (.slice AB nB cB) P2 wr)) (fun i _ => W.toNat - (intOf i).toNat)
   case atStart => exact ⟨0, _, _, Nat.zero_le _, rfl, HR, HL0, HBM0, HX0⟩
   clear HR HL0 HBM0 HX0
   case round =>
    obtain ⟨m, s2, P2, hm, rfl, HX, HL, HBM2, HQ⟩ := hrel
    by_cases hltm : m < W.toNat
    · have hltm2 : (m : Int) < W := by omega
      have hat := HBM2.out.at_ (x := (m : Int)) (y := (y : Int)) (by omega) (by omega) hltm2 hyH
      obtain ⟨yw, hyw⟩ : ∃ z, (y : Int) * W = z := ⟨_, rfl⟩
      rw [hyw] at hat
      obtain ⟨ix, hix⟩ : ∃ ix : Nat, yw + (m : Int) = ix := ⟨(yw + m).toNat, by omega⟩
      rw [hix] at hat
      have hixl : ix < P2.length := by omega
      have hyw0 : 0 ≤ yw ∧ yw ≤ 40000 := ⟨hat.1, hat.2.1⟩
      have hix0 : (ix : Int) ≤ 9223372036854775807 := by omega
      have hixn : ix < nB := by have := HL.out; omega
      have hixn2 : (ix : Int) < nB := by omega
      obtain ⟨gp, cP, hv, hT, hgl⟩ := HQ.out.form (by omega)
      injection hv with hv1 hv2 hv3
      subst hv1 hv3
      have HTG := A' hT
      have c5 : wr.cell? ⟨gr, 5, none⟩ = some (.int .i64 W) := (blk_cell (HZ.out _ HQ.out.m) 5).trans rfl
      clear hv2 hT hgl hat
      go_wp2_with (fail)
      clear c5
      refine ((HREG.out _ s2 _ HQ.out HL.out HBM2.out).flat (m : Int) (y : Int) (by omega) (by omega)).mono ?_
      rintro e X0 ⟨rfl, hb⟩
      have HQ := A' (HQ.out.below hb)
      clear hb
      have hfp := flatP_01 HBR.out ((m : Int) - dx) ((y : Int) - dy)
      obtain ⟨⟨fc, is⟩, hF⟩ : ∃ r, flatP RW RH RP ((m : Int) - dx) ((y : Int) - dy) = r := ⟨_, rfl⟩
      rw [hF] at hfp ⊢
      have HF := A' (show q.flat (m : Int) (y : Int) = (fc, is) by rw [HQF.out, hF])
      clear hF
      simp only at hfp ⊢
      have hX := HX.out
      rw [show W.toNat - m = (W.toNat - (m + 1)) + 1 by omega] at hX
      unfold rowD at hX
      rw [if_neg (show ¬ ((0 : Int) = 1 ∧ (q.flat (m : Int) (y : Int)).2 = true) by simp), HQC.out, HQI.out, hyw, hix, Int.toNat_natCast] at hX
      have hcr := ctxP_range HBM2.out HBR.out t dx dy (m : Int) (y : Int) HT.out
      obtain ⟨⟨s3, bt, er⟩, hg⟩ : ∃ r, s2.getI (base + ctxP t dx dy W H P2 RW RH RP (m : Int) (y : Int)) = r := ⟨_, rfl⟩
      have hbt : 0 ≤ bt ∧ bt ≤ 1 := by have := bit_range s2 (base + ctxP t dx dy W H P2 RW RH RP (m : Int) (y : Int)); rw [hg] at this; exact this
      rw [hg] at hX
      simp only at hX
      have HG := A' hg
      have HX2 := A' hX
      clear hX hg
      go_wp2_with (fail)
      refine ((HREG.out _ s2 _ HQ.out HL.out HBM2.out).context (m : Int) (y : Int) (by omega) (by omega)).mono ?_
      rintro e X1 ⟨rfl, hb⟩
      have HQ := A' (HQ.out.below hb)
      clear hb
      go_wp2_with (fail)
      refine (HQ.out.get HS.out HST.out (base + ctxP t dx dy W H P2 RW RH RP (m : Int) (y : Int)) (by first | rfl | (rw [wrap_id] <;> omega))).mono ?_
      rintro e X2 ⟨rfl, hq⟩
      rw [HG.out] at hq ⊢
      simp only at hq ⊢
      have HQ := A' hq
      clear hq HG hcr
      have hX := HX2.out
      clear HX2
      by_cases her : er = 0
      · rw [if_pos her] at hX
        have e1 : (er != 0) = false := by simp [her]
        have HX2 := A' hX
        clear hX her
        have c7 : X2.cell? ⟨gr, 7, none⟩ = some (.slice (some ⟨gp, 0, none⟩) nB cB) := (blk_cell (HZ.out _ HQ.out.m) 7).trans rfl
        have hce := HQ.out.cell HL.out.symm ix hixl
        have hfz := hce.2
        have hcv := hce.1
        clear hce
        go_wp2_with (fail)
        refine ⟨⟨m + 1, s3, P2.set ix bt, by omega, by go_num, HX2, ⟨by rw [List.length_set]; exact HL.out⟩, ⟨bm_set HBM2.out _ (by omega)⟩, ⟨?_⟩⟩, by simp [intOf]; omega⟩
        have hf := HQ.out.set HL.out.symm HST.out HTG.out ix bt
        first | exact hf | (rw [show bt % 256 = bt by omega]; exact hf) | (rw [show IntKind.wrap .u8 bt = bt by simp [IntKind.wrap, IntKind.bits, IntKind.signed]; omega]; exact hf)
      · rw [if_neg her] at hX
        have e1 : (er != 0) = true := bne_iff_ne.mpr her
        subst hX
        clear her
        go_wp2_with (fail)
        go_ret
        exact ⟨rfl, HQ.out⟩
    · have hX := HX.out
      rw [show W.toNat - m = 0 by omega] at hX
      simp only [rowD] at hX
      subst hX
      go_wp2_with (fail)
      go_ret
      exact ⟨rfl, HQ.out⟩
 · rw [if_pos rfl] at hR
   obtain ⟨⟨s1, bh, er1⟩, hg⟩ : ∃ r, s.getI (base + ctxs t) = r := ⟨_, rfl⟩
   have hbh : 0 ≤ bh ∧ bh ≤ 1 := by have := bit_range s (base + ctxs t); rw [hg] at this; exact this
   rw [hg] at hR
   simp only at hR
   have HG1 := A' hg
   have HR1 := A' hR
   clear hg hR
   go_enter Try.func82, Try.ntmps82
   go_wp2_with (fail)
   refine (refine_contexts.calls t (ctxs t) _ (contexts_eq t)).mono ?_
   rintro e V1 ⟨rfl, hb⟩
   have HX0 := A' (HX0.out.below hb)
   clear hb z0 z3 z5
   go_wp2_with (fail)
   refine (HX0.out.get HS.out HST.out (base + ctxs t) (by first | rfl | omega | (rw [wrap_id] <;> omega))).mono ?_
   rintro e V2 ⟨rfl, hx⟩
   rw [HG1.out] at hx ⊢
   simp only at hx ⊢
   have HX0 := A' hx
   have z5 : V2.cell? ⟨gr, 5, none⟩ = some (.int .i64 W) := (blk_cell (HZ.out _ hx.m) 5).trans rfl
   have hR := HR1.out
   clear hx HG1 HR1
   by_cases her : er1 = 0
   · rw [if_pos her] at hR
     have e1 : (er1 != 0) = false := by simp [her]
     clear her
     have h01 : bh = 0 ∨ bh = 1 := by omega
     rcases h01 with rfl | rfl
     · have HR := A' (show rowD q (y : Int) 0 (W.toNat - 0) 0 s1 P = R from hR)
       clear hR
       go_wp2_with (fail)
       clear z5
       have hw := HBM.out.w
       have hh := HBM.out.h
       clear HBM
       go_loopw [45] (fun i wr => ∃ (m : Nat) (s2 : DS) (P2 : List Int), m ≤ W.toNat ∧ i = .int .i64 m ∧ Aside0 (rowD q (y : Int) 0 (W.toNat - m) m s2 P2 = R) ∧ Aside0 (P2.length = nB) ∧ Aside0 (Bm W H P2) ∧ Aside0 (GX DecAt w0 S T B gd s2 (.slice AB nB cB) P2 wr)) (fun i _ => W.toNat - (intOf i).toNat)
       case atStart => exact ⟨0, _, _, Nat.zero_le _, rfl, HR, HL0, HBM0, HX0⟩
       clear HR HL0 HBM0 HX0
       case round =>
        obtain ⟨m, s2, P2, hm, rfl, HX, HL, HBM2, HQ⟩ := hrel
        by_cases hltm : m < W.toNat
        · have hltm2 : (m : Int) < W := by omega
          have hat := HBM2.out.at_ (x := (m : Int)) (y := (y : Int)) (by omega) (by omega) hltm2 hyH
          obtain ⟨yw, hyw⟩ : ∃ z, (y : Int) * W = z := ⟨_, rfl⟩
          rw [hyw] at hat
          obtain ⟨ix, hix⟩ : ∃ ix : Nat, yw + (m : Int) = ix := ⟨(yw + m).toNat, by omega⟩
          rw [hix] at hat
          have hixl : ix < P2.length := by omega
          have hyw0 : 0 ≤ yw ∧ yw ≤ 40000 := ⟨hat.1, hat.2.1⟩
          have hix0 : (ix : Int) ≤ 9223372036854775807 := by omega
          have hixn : ix < nB := by have := HL.out; omega
          have hixn2 : (ix : Int) < nB := by omega
          obtain ⟨gp, cP, hv, hT, hgl⟩ := HQ.out.form (by omega)
          injection hv with hv1 hv2 hv3
          subst hv1 hv3
          have HTG := A' hT
          have c5 : wr.cell? ⟨gr, 5, none⟩ = some (.int .i64 W) := (blk_cell (HZ.out _ HQ.out.m) 5).trans rfl
          clear hv2 hT hgl hat
          go_wp2_with (fail)
          clear c5
          refine ((HREG.out _ s2 _ HQ.out HL.out HBM2.out).flat (m : Int) (y : Int) (by omega) (by omega)).mono ?_
          rintro e X0 ⟨rfl, hb⟩
          have HQ := A' (HQ.out.below hb)
          clear hb
          have hfp := flatP_01 HBR.out ((m : Int) - dx) ((y : Int) - dy)
          obtain ⟨⟨fc, is⟩, hF⟩ : ∃ r, flatP RW RH RP ((m : Int) - dx) ((y : Int) - dy) = r := ⟨_, rfl⟩
          rw [hF] at hfp ⊢
          have HF := A' (show q.flat (m : Int) (y : Int) = (fc, is) by rw [HQF.out, hF])
          clear hF
          simp only at hfp ⊢
          have hX := HX.out
          rw [show W.toNat - m = (W.toNat - (m + 1)) + 1 by omega] at hX
          unfold rowD at hX
          rw [if_neg (show ¬ ((0 : Int) = 1 ∧ (q.flat (m : Int) (y : Int)).2 = true) by simp), HQC.out, HQI.out, hyw, hix, Int.toNat_natCast] at hX
          have hcr := ctxP_range HBM2.out HBR.out t dx dy (m : Int) (y : Int) HT.out
          obtain ⟨⟨s3, bt, er⟩, hg⟩ : ∃ r, s2.getI (base + ctxP t dx dy W H P2 RW RH RP (m : Int) (y : Int)) = r := ⟨_, rfl⟩
          have hbt : 0 ≤ bt ∧ bt ≤ 1 := by have := bit_range s2 (base + ctxP t dx dy W H P2 RW RH RP (m : Int) (y : Int)); rw [hg] at this; exact this
          rw [hg] at hX
          simp only at hX
          have HG := A' hg
          have HX2 := A' hX
          clear hX hg
          go_wp2_with (fail)
          refine ((HREG.out _ s2 _ HQ.out HL.out HBM2.out).context (m : Int) (y : Int) (by omega) (by omega)).mono ?_
          rintro e X1 ⟨rfl, hb⟩
          have HQ := A' (HQ.out.below hb)
          clear hb
          go_wp2_with (fail)
          refine (HQ.out.get HS.out HST.out (base + ctxP t dx dy W H P2 RW RH RP (m : Int) (y : Int)) (by first | rfl | (rw [wrap_id] <;> omega))).mono ?_
          rintro e X2 ⟨rfl, hq⟩
          rw [HG.out] at hq ⊢
          simp only at hq ⊢
          have HQ := A' hq
          clear hq HG hcr
          have hX := HX2.out
          clear HX2
          by_cases her : er = 0
          · rw [if_pos her] at hX
            have e1 : (er != 0) = false := by simp [her]
            have HX2 := A' hX
            clear hX her
            have c7 : X2.cell? ⟨gr, 7, none⟩ = some (.slice (some ⟨gp, 0, none⟩) nB cB) := (blk_cell (HZ.out _ HQ.out.m) 7).trans rfl
            have hce := HQ.out.cell HL.out.symm ix hixl
            have hfz := hce.2
            have hcv := hce.1
            clear hce
            go_wp2_with (fail)
            refine ⟨⟨m + 1, s3, P2.set ix bt, by omega, by go_num, HX2, ⟨by rw [List.length_set]; exact HL.out⟩, ⟨bm_set HBM2.out _ (by omega)⟩, ⟨?_⟩⟩, by simp [intOf]; omega⟩
            have hf := HQ.out.set HL.out.symm HST.out HTG.out ix bt
            first | exact hf | (rw [show bt % 256 = bt by omega]; exact hf) | (rw [show IntKind.wrap .u8 bt = bt by simp [IntKind.wrap, IntKind.bits, IntKind.signed]; omega]; exact hf)
          · rw [if_neg her] at hX
            have e1 : (er != 0) = true := bne_iff_ne.mpr her
            subst hX
            clear her
            go_wp2_with (fail)
            go_ret
            exact ⟨rfl, HQ.out⟩
        · have hX := HX.out
          rw [show W.toNat - m = 0 by omega] at hX
          simp only [rowD] at hX
          subst hX
          go_wp2_with (fail)
          go_ret
          exact ⟨rfl, HQ.out⟩
     · have HR := A' (show rowD q (y : Int) 1 (W.toNat - 0) 0 s1 P = R from hR)
       clear hR
       go_wp2_with (fail)
       clear z5
       have hw := HBM.out.w
       have hh := HBM.out.h
       clear HBM
       go_loopw [45] (fun i wr => ∃ (m : Nat) (s2 : DS) (P2 : List Int), m ≤ W.toNat ∧ i = .int .i64 m ∧ Aside0 (rowD q (y : Int) 1 (W.toNat - m) m s2 P2 = R) ∧ Aside0 (P2.length = nB) ∧ Aside0 (Bm W H P2) ∧ Aside0 (GX DecAt w0 S T B gd s2 (.slice AB nB cB) P2 wr)) (fun i _ => W.toNat - (intOf i).toNat)
       case atStart => exact ⟨0, _, _, Nat.zero_le _, rfl, HR, HL0, HBM0, HX0⟩
       clear HR HL0 HBM0 HX0
       case round =>
        obtain ⟨m, s2, P2, hm, rfl, HX, HL, HBM2, HQ⟩ := hrel
        by_cases hltm : m < W.toNat
        · have hltm2 : (m : Int) < W := by omega
          have hat := HBM2.out.at_ (x := (m : Int)) (y := (y : Int)) (by omega) (by omega) hltm2 hyH
          obtain ⟨yw, hyw⟩ : ∃ z, (y : Int) * W = z := ⟨_, rfl⟩
          rw [hyw] at hat
          obtain ⟨ix, hix⟩ : ∃ ix : Nat, yw + (m : Int) = ix := ⟨(yw + m).toNat, by omega⟩
          rw [hix] at hat
          have hixl : ix < P2.length := by omega
          have hyw0 : 0 ≤ yw ∧ yw ≤ 40000 := ⟨hat.1, hat.2.1⟩
          have hix0 : (ix : Int) ≤ 9223372036854775807 := by omega
          have hixn : ix < nB := by have := HL.out; omega
          have hixn2 : (ix : Int) < nB := by omega
          obtain ⟨gp, cP, hv, hT, hgl⟩ := HQ.out.form (by omega)
          injection hv with hv1 hv2 hv3
          subst hv1 hv3
          have HTG := A' hT
          have c5 : wr.cell? ⟨gr, 5, none⟩ = some (.int .i64 W) := (blk_cell (HZ.out _ HQ.out.m) 5).trans rfl
          clear hv2 hT hgl hat
          go_wp2_with (fail)
          clear c5
          refine ((HREG.out _ s2 _ HQ.out HL.out HBM2.out).flat (m : Int) (y : Int) (by omega) (by omega)).mono ?_
          rintro e X0 ⟨rfl, hb⟩
          have HQ := A' (HQ.out.below hb)
          clear hb
          have hfp := flatP_01 HBR.out ((m : Int) - dx) ((y : Int) - dy)
          obtain ⟨⟨fc, is⟩, hF⟩ : ∃ r, flatP RW RH RP ((m : Int) - dx) ((y : Int) - dy) = r := ⟨_, rfl⟩
          rw [hF] at hfp ⊢
          have HF := A' (show q.flat (m : Int) (y : Int) = (fc, is) by rw [HQF.out, hF])
          clear hF
          simp only at hfp ⊢
          cases is
          · have hX := HX.out
            rw [show W.toNat - m = (W.toNat - (m + 1)) + 1 by omega] at hX
            unfold rowD at hX
            rw [if_neg (show ¬ ((1 : Int) = 1 ∧ (q.flat (m : Int) (y : Int)).2 = true) by rw [HF.out]; simp), HQC.out, HQI.out, hyw, hix, Int.toNat_natCast] at hX
            have hcr := ctxP_range HBM2.out HBR.out t dx dy (m : Int) (y : Int) HT.out
            obtain ⟨⟨s3, bt, er⟩, hg⟩ : ∃ r, s2.getI (base + ctxP t dx dy W H P2 RW RH RP (m : Int) (y : Int)) = r := ⟨_, rfl⟩
            have hbt : 0 ≤ bt ∧ bt ≤ 1 := by have := bit_range s2 (base + ctxP t dx dy W H P2 RW RH RP (m : Int) (y : Int)); rw [hg] at this; exact this
            rw [hg] at hX
            simp only at hX
            have HG := A' hg
            have HX2 := A' hX
            clear hX hg
            go_wp2_with (fail)
            refine ((HREG.out _ s2 _ HQ.out HL.out HBM2.out).context (m : Int) (y : Int) (by omega) (by omega)).mono ?_
            rintro e X1 ⟨rfl, hb⟩
            have HQ := A' (HQ.out.below hb)
            clear hb
            go_wp2_with (fail)
            refine (HQ.out.get HS.out HST.out (base + ctxP t dx dy W H P2 RW RH RP (m : Int) (y : Int)) (by first | rfl | (rw [wrap_id] <;> omega))).mono ?_
            rintro e X2 ⟨rfl, hq⟩
            rw [HG.out] at hq ⊢
            simp only at hq ⊢
            have HQ := A' hq
            clear hq HG hcr
            have hX := HX2.out
            clear HX2
            by_cases her : er = 0
            · rw [if_pos her] at hX
              have e1 : (er != 0) = false := by simp [her]
              have HX2 := A' hX
              clear hX her
              have c7 : X2.cell? ⟨gr, 7, none⟩ = some (.slice (some ⟨gp, 0, none⟩) nB cB) := (blk_cell (HZ.out _ HQ.out.m) 7).trans rfl
              have hce := HQ.out.cell HL.out.symm ix hixl
              have hfz := hce.2
              have hcv := hce.1
              clear hce
              go_wp2_with (fail)
              refine ⟨⟨m + 1, s3, P2.set ix bt, by omega, by go_num, HX2, ⟨by rw [List.length_set]; exact HL.out⟩, ⟨bm_set HBM2.out _ (by omega)⟩, ⟨?_⟩⟩, by simp [intOf]; omega⟩
              have hf := HQ.out.set HL.out.symm HST.out HTG.out ix bt
              first | exact hf | (rw [show bt % 256 = bt by omega]; exact hf) | (rw [show IntKind.wrap .u8 bt = bt by simp [IntKind.wrap, IntKind.bits, IntKind.signed]; omega]; exact hf)
            · rw [if_neg her] at hX
              have e1 : (er != 0) = true := bne_iff_ne.mpr her
              subst hX
              clear her
              go_wp2_with (fail)
              go_ret
              exact ⟨rfl, HQ.out⟩
          · have hX := HX.out
            rw [show W.toNat - m = (W.toNat - (m + 1)) + 1 by omega] at hX
            unfold rowD at hX
            rw [if_pos (show (1 : Int) = 1 ∧ (q.flat (m : Int) (y : Int)).2 = true from ⟨rfl, by rw [HF.out]⟩), HF.out, HQI.out, hyw, hix, Int.toNat_natCast] at hX
            simp only at hX
            have HX2 := A' hX
            clear hX
            have c7 : X0.cell? ⟨gr, 7, none⟩ = some (.slice (some ⟨gp, 0, none⟩) nB cB) := (blk_cell (HZ.out _ HQ.out.m) 7).trans rfl
            have hce := HQ.out.cell HL.out.symm ix hixl
            have hfz := hce.2
            have hcv := hce.1
            clear hce
            go_wp2_with (fail)
            exact ⟨⟨m + 1, s2, P2.set ix fc, by omega, by go_num, HX2, ⟨by rw [List.length_set]; exact HL.out⟩, ⟨bm_set HBM2.out _ hfp⟩, ⟨HQ.out.set HL.out.symm HST.out HTG.out ix fc⟩⟩, by simp [intOf]; omega⟩
        · have hX := HX.out
          rw [show W.toNat - m = 0 by omega] at hX
          simp only [rowD] at hX
          subst hX
          go_wp2_with (fail)
          go_ret
          exact ⟨rfl, HQ.out⟩
   · rw [if_neg her] at hR
     have e1 : (er1 != 0) = true := bne_iff_ne.mpr her
     subst hR
     clear her
     go_wp2_with (fail)
     go_ret
     exact ⟨rfl, HX0.out⟩
end Go.Proofs.Ytkfejicdjpffcaa.Rrw
namespace Go.Proofs.Ytkfejicdjpffcaa.Rmk
open Go Go.RowKit YtkfejicdjpffcaaW PrintWords PrintLast PrintMore Aid HandAid
/-- A made slice of bytes. -/
def zcells (n : Nat) : Array Value := madeCells (Value.int .u8 0).cells n
theorem make_step {oi : Oper} {a : Act} (W : World) (x y : Operand) (ho : oi.op = .makeSlice 29 x y) (m : Int) (n : Nat) (hx : a.eval x = .int .i64 m) (hy : a.eval y = .int .i64 m) (hm : m = n) (hn : n ≤ 1000000) :
 (execOp a.eval oi).run Try.prog W = .ok (.value (.slice (some ⟨W.heap.size, 0, none⟩) n n)) (W.alloc (.cells (zcells n) 5)) := by
 subst hm
 obtain ⟨i, hi, hz⟩ := Option.map_eq_some_iff.1 infoU8
 simp only [Prod.mk.injEq] at hz
 obtain ⟨hz0, hz1, hz2⟩ := hz
 have hr := run_make (P := Try.prog) W 29 5 i (.int .u8 0) Try.underlying29 hi hz0 .i64 .i64 (n : Int) (n : Int) (by omega) (by omega) (by rw [hz2]; omega) (by omega)
 rw [Int.toNat_natCast, hz1, Nat.mul_one] at hr
 simp [execOp, ho, hx, hy, hr, zcells]
theorem made_row (W : World) (B n : Nat) (hB : B ≤ W.heap.size) (hn : n ≤ 1000000) : Kd.R (Kd.int .u8) 5 (W.alloc (.cells (zcells n) 5)) B (fun k => k = W.heap.size) (.slice (some ⟨W.heap.size, 0, none⟩) n n) (List.replicate n 0) := by
 refine ⟨fun k hk => ?_, (zcells n).toList, ?_, ?_⟩
 · simpa [Value.ownBlock] using hk.symm
 · have h2 := World.ownsRow_lit (base := B) (e := 5) (size := 1) W (zcells n) n hB (by simp only [maxLen]; omega) (by simp [zcells, size_madeCells])
   rw [List.length_replicate]
   exact h2
 · have h3 := Kd.reps_made (R := fun (p : Int) (c : List Value) => c = [.int .u8 p]) (z := .int .u8 0) (size := 1) (z0 := (0 : Int)) rfl (by decide) rfl n
   rw [Nat.mul_one] at h3
   exact h3
end Go.Proofs.Ytkfejicdjpffcaa.Rmk
namespace Go.Proofs.Ytkfejicdjpffcaa.Rgt
open Go Go.RowKit YtkfejicdjpffcaaW PrintWords PrintLast PrintMore U Aid HandAid Cod1 Cod2 Cod3 Ytkfejicdjpffcaa.Mod NewRef Enc Mods EncAt Put End Snc Dec Get DecNew RefAt RDec RDecNew Isk Pse Rpx Rva Rfl Rcx Rty Rev Rdv Rrw Rmk
/-- What Get answers: a bitmap, its pixels in a row of its own, an error. -/
def GPost (At : World → (Nat → Prop) → Nat → DS → Prop) (w : World) (S : Nat → Prop) (gd : Nat) (R : DS × (Int × Int × List Int) × Int) (e : Ending) (W : World) : Prop :=
 ∃ A c, e = .returned (.tuple #[.agg #[.int .i64 R.2.1.1, .int .i64 R.2.1.2.1, .slice A R.2.1.2.2.length c], .int .i64 R.2.2]) ∧ Kd.R (Kd.int .u8) 5 W w.heap.size (fun _ => True) (.slice A R.2.1.2.2.length c) R.2.1.2.2 ∧ IS At w S gd R.1 W
theorem zset3 {W : World} {b : Nat} {u v z : Value} (h : W.heap[b]? = some (.cells #[u, v, z] 31 (0, 0))) (p q r : Value) :
 (((W.setCell ⟨b, 0, none⟩ p).setCell ⟨b, 1, none⟩ q).setCell ⟨b, 2, none⟩ r).heap[b]? = some (.cells #[p, q, r] 31 (0, 0)) := by simpa using blk_set (blk_set (blk_set h 0 p) 1 q) 2 r
theorem GPost.bad {At : World → (Nat → Prop) → Nat → DS → Prop} [AtL At] {w W : World} {S : Nat → Prop} {gd : Nat} {s : DS} {b : Nat} (err : Int) (h : IS At w S gd s W) (hS : ∀ k, S k → k < w.heap.size) (hb : w.heap.size ≤ b) : GPost At w S gd (s, (0, 0, []), err) (.returned (.tuple #[.agg #[.int .i64 0, .int .i64 0, .slice none 0 0], .int .i64 err])) (((W.setCell ⟨b, 0, none⟩ (.int .i64 0)).setCell ⟨b, 1, none⟩ (.int .i64 0)).setCell ⟨b, 2, none⟩ (.slice none 0 0)) :=
 ⟨none, 0, rfl, Kd.R_nil _ _ _ w.heap.size (fun _ => True), ((h.set hS _ hb _).set hS _ hb _).set hS _ hb _⟩
theorem gret36 {W : World} {b : Nat} {x y err : Int} {A : Option Addr} {n c : Nat} {tmps : Array Value} (hz : W.heap[b]? = some (.cells #[.int .i64 x, .int .i64 y, .slice A n c] 31 (0, 0))) (h2 : tmps.getD 12 undef = .pointer (some ⟨b, 0, none⟩)) (h3 : tmps.getD 13 undef = .int .i64 err) :
 (results Try.f36 tmps).run Try.prog W = .ok (.tuple #[.agg #[.int .i64 x, .int .i64 y, .slice A n c], .int .i64 err]) W := by
 have y0 : W.cell? ⟨b, 0, none⟩ = some (.int .i64 x) := (blk_cell hz 0).trans rfl
 have y1 : W.cell? ⟨b, 1, none⟩ = some (.int .i64 y) := (blk_cell hz 1).trans rfl
 have y2 : W.cell? ⟨b, 2, none⟩ = some (.slice A n c) := (blk_cell hz 2).trans rfl
 have hu := Try.underlying31
 rw [results_cell_tmp rfl, h2, h3]
 go_simp
set_option maxHeartbeats 8000000 in
set_option maxRecDepth 100000 in
theorem rfget_calls (w : World) (S : Nat → Prop) (gd : Nat) (s : DS) (base t dx dy : Int) (ty : Bool) (kd W H : Int) (RW RH : Int) (AR : Option Addr) (cR : Nat) (RP : List Int) (hE : DecAt w S gd s) (hS : ∀ k, S k → k < w.heap.size) (hok : s.ok) (hdx : -9223372036854775808 ≤ dx ∧ dx ≤ 9223372036854775807) (hdy : -9223372036854775808 ≤ dy ∧ dy ≤ 9223372036854775807) (hA : ∀ V, Mods w V S → Kd.C (Kd.int .u8) V AR RP.length RP) (hcR : RP.length ≤ cR) (hbR : Bytes RP) (q : RQ) (hq : q = ⟨t, dx, dy, ty, W, H, RW, RH, RP, base⟩) (R : DS × (Int × Int × List Int) × Int) (hR : getD q kd s = R) :
 Calls Try.prog 36 #[.pointer (some ⟨gd, 0, none⟩), .int .i64 base, .agg #[.int .i64 t, .int .i64 dx, .int .i64 dy, .bool ty, .int .i64 kd], .int .i64 W, .int .i64 H, .agg #[.int .i64 RW, .int .i64 RH, .slice AR RP.length cR]] w (GPost DecAt w S gd R) := by
 have HA := A' hA
 have HS := A' hS
 have HbR := A' hbR
 have HE := A' hE
 have HQQ := A' hq
 have hst : s.st.length ≤ 8192 := hok.m.2.1
 have hmR : RP.length ≤ 9223372036854775807 := Kd.C_max (hA w (Mods.refl w S))
 have HOK := A' hok
 unfold getD at hR
 have hE1 : getErr q kd s.st.length = if okO t dx dy kd = true then (if okS W H = true ∧ okB RW RH RP = true then (if okF s.st.length base t = true then 0 else 2) else 30) else 2 := by rw [hq]; rfl
 have hq1 : q.W = W := by rw [hq]
 have hq2 : q.H = H := by rw [hq]
 rw [hE1, hq1, hq2] at hR
 have HR := A' hR
 have hu1 := Try.underlying109
 have hu2 := Try.underlying107
 have hu3 := Try.underlying23
 have hu4 := Try.underlying31
 have hu5 := Try.underlying45
 clear hA hS hbR hE hok hR hE1 hq hq1 hq2
 go_enter Try.func36, Try.ntmps36
 go_wp2_with (fail)
 obtain ⟨b12, hb12⟩ : ∃ x, w.heap.size + 1 + 1 = x := ⟨_, rfl⟩
 obtain ⟨b11, hb11⟩ : ∃ x, w.heap.size + 1 = x := ⟨_, rfl⟩
 obtain ⟨b8, hb8⟩ : ∃ x, w.heap.size = x := ⟨_, rfl⟩
 obtain ⟨W1, hW1⟩ : ∃ x, ((w.alloc (.cells #[.int .i64 t, .int .i64 dx, .int .i64 dy, .bool ty, .int .i64 kd] 23)).alloc (.cells #[.int .i64 RW, .int .i64 RH, .slice AR RP.length cR] 31)).alloc (.cells #[.int .i64 0, .int .i64 0, .slice none 0 0] 31) = x := ⟨_, rfl⟩
 have HB1 := A' (show Below w.heap.size w W1 from hW1 ▸ below_alloc (below_alloc (below_alloc (Below.refl _ _) _) _) _)
 have HZ12 := A' (show W1.heap[b12]? = some (.cells #[.int .i64 0, .int .i64 0, .slice none 0 0] 31 (0, 0)) by
  have h := heap_new ((w.alloc (.cells #[.int .i64 t, .int .i64 dx, .int .i64 dy, .bool ty, .int .i64 kd] 23)).alloc (.cells #[.int .i64 RW, .int .i64 RH, .slice AR RP.length cR] 31)) (.cells #[.int .i64 0, .int .i64 0, .slice none 0 0] 31)
  rw [World.size_alloc, World.size_alloc, hb12, hW1] at h
  exact h)
 have HZ11 := A' (show W1.heap[b11]? = some (.cells #[.int .i64 RW, .int .i64 RH, .slice AR RP.length cR] 31 (0, 0)) by
  have h := heap_new (w.alloc (.cells #[.int .i64 t, .int .i64 dx, .int .i64 dy, .bool ty, .int .i64 kd] 23)) (.cells #[.int .i64 RW, .int .i64 RH, .slice AR RP.length cR] 31)
  rw [World.size_alloc, hb11] at h
  rw [← hW1]
  exact blk_alloc h _)
 have HZ8 := A' (show W1.heap[b8]? = some (.cells #[.int .i64 t, .int .i64 dx, .int .i64 dy, .bool ty, .int .i64 kd] 23 (0, 0)) by
  have h := heap_new w (.cells #[.int .i64 t, .int .i64 dx, .int .i64 dy, .bool ty, .int .i64 kd] 23)
  rw [hb8] at h
  rw [← hW1]
  exact blk_alloc (blk_alloc h _) _)
 have HGE := A' (show w.heap.size ≤ b8 ∧ w.heap.size ≤ b11 ∧ w.heap.size ≤ b12 by omega)
 have HB12 := A' (show w.heap.size ≤ b12 ∧ b12 < W1.heap.size from ⟨by omega, blk_lt HZ12.out⟩)
 rw [hb12, hb11, hb8, hW1]
 clear hb12 hb11 hb8 hW1
 have hp1 := get_calls W1 S gd s (-1) (HE.out.below HB1.out) (fun k hk => Nat.lt_of_lt_of_le (HS.out k hk) HB1.out.size) HOK.out
 rw [getI_neg] at hp1
 refine hp1.mono ?_
 rintro e W2 ⟨rfl, hD, hM⟩
 have HD := A' hD
 have HM2 := A' ((Mods.of_below HB1.out S).then_ hM (fun k hk => .inl hk))
 have HS1 := A' hM.size
 have HZ8 := A' (blk_mods HZ8.out hM (fun hk => by have := HS.out _ hk; have := HGE.out; omega))
 have HZ11 := A' (blk_mods HZ11.out hM (fun hk => by have := HS.out _ hk; have := HGE.out; omega))
 have HZ12 := A' (blk_mods HZ12.out hM (fun hk => by have := HS.out _ hk; have := HGE.out; omega))
 have HIS := A' (show ∀ V, Below W2.heap.size W2 V → IS DecAt w S gd s V from fun V hV => ⟨HD.out.below hV, HM2.out.below hV, HOK.out⟩)
 have HD2 := A' (Below.refl W2.heap.size W2)
 clear hD hM hp1 HE
 have q80 : W2.cell? ⟨b8, 0, none⟩ = some (.int .i64 t) := (blk_cell (blk_below HZ8.out HD2.out) 0).trans rfl
 have q81 : W2.cell? ⟨b8, 1, none⟩ = some (.int .i64 dx) := (blk_cell (blk_below HZ8.out HD2.out) 1).trans rfl
 have q82 : W2.cell? ⟨b8, 2, none⟩ = some (.int .i64 dy) := (blk_cell (blk_below HZ8.out HD2.out) 2).trans rfl
 have q83 : W2.cell? ⟨b8, 3, none⟩ = some (.bool ty) := (blk_cell (blk_below HZ8.out HD2.out) 3).trans rfl
 have q84 : W2.cell? ⟨b8, 4, none⟩ = some (.int .i64 kd) := (blk_cell (blk_below HZ8.out HD2.out) 4).trans rfl
 simp only
 go_wp2_with (fail)
 refine (refine_Valid.calls t dx dy ty kd _ _ (valid_eq t dx dy ty kd hdx hdy)).mono ?_
 rintro e W3 ⟨rfl, hb⟩
 have HD3 := A' hb
 clear hb q80 q81 q82 q83 q84
 obtain ⟨vo, hvo⟩ : ∃ x, okO t dx dy kd = x := ⟨_, rfl⟩
 have hR := HR.out
 clear HR
 rw [hvo] at hR ⊢
 cases vo
 · rw [if_neg (show ¬ (false = true) by decide), if_neg (show ¬ ((2 : Int) = 0) by decide)] at hR
   subst hR
   clear hvo
   have m0 : W3.cell? ⟨b12, 0, none⟩ = some (.int .i64 0) := (blk_cell (blk_below HZ12.out HD3.out) 0).trans rfl
   have m1 : W3.cell? ⟨b12, 1, none⟩ = some (.int .i64 0) := (blk_cell (blk_below HZ12.out HD3.out) 1).trans rfl
   have m2 : W3.cell? ⟨b12, 2, none⟩ = some (.slice none 0 0) := (blk_cell (blk_below HZ12.out HD3.out) 2).trans rfl
   have k0 := blk_frozen (blk_below HZ12.out HD3.out) 0
   have k1 := blk_frozen (blk_below HZ12.out HD3.out) 1
   have k2 := blk_frozen (blk_below HZ12.out HD3.out) 2
   have HZW := A' (zset3 (blk_below HZ12.out HD3.out) (.int .i64 0) (.int .i64 0) (.slice none 0 0))
   have hP := GPost.bad (At := DecAt) (w := w) (S := S) (gd := gd) (s := s) (b := b12) 2 (HIS.out _ HD3.out) HS.out HB12.out.1
   go_wp2_with (fail)
   exact bodyPost_ret (gret36 HZW.out rfl rfl) rfl hP
 rw [if_pos (show true = true from rfl)] at hR
 have hoo := okO_iff.1 hvo
 have HOO := A' hoo
 have HR := A' hR
 have HT := A' hoo.1
 clear hvo hR hoo
 go_wp2_with (fail)
 obtain ⟨⟨n1, n2, n3, n4⟩, hEv, hn4⟩ := bnew_ev W H
 obtain ⟨K1, hK1⟩ := Ev.rounds hEv
 refine (bitmap_New.calls K1 W H 0 n1 n2 n3 n4 _ hK1).mono ?_
 rintro e W4 ⟨v2, rfl, hv2, hb⟩
 obtain ⟨Av, cv, rfl⟩ := Kd.R_slice hv2
 have HD4 := A' (below_then HD3.out HD3.out.size hb)
 simp only at hn4
 clear hv2 hb hK1 hEv
 obtain ⟨W4a, hW4a⟩ : ∃ x, W4.alloc (.cells #[.int .i64 n1, .int .i64 n2, .slice Av n3.length cv] 31) = x := ⟨_, rfl⟩
 have HD4a := A' (show Below W2.heap.size W2 W4a from hW4a ▸ below_alloc HD4.out _)
 obtain ⟨vs, hvs⟩ : ∃ x, okS W H = x := ⟨_, rfl⟩
 have hR := HR.out
 clear HR
 rw [hvs] at hR hn4
 cases vs
 · have e1 : (n4 != 0) = true := by
     rw [if_neg (by decide)] at hn4
     apply bne_iff_ne.mpr
     split at hn4 <;> omega
   rw [if_neg (show ¬ (false = true ∧ okB RW RH RP = true) by simp), if_neg (show ¬ ((30 : Int) = 0) by decide)] at hR
   subst hR
   clear hvs hn4
   have m0 : W4a.cell? ⟨b12, 0, none⟩ = some (.int .i64 0) := (blk_cell (blk_below HZ12.out HD4a.out) 0).trans rfl
   have m1 : W4a.cell? ⟨b12, 1, none⟩ = some (.int .i64 0) := (blk_cell (blk_below HZ12.out HD4a.out) 1).trans rfl
   have m2 : W4a.cell? ⟨b12, 2, none⟩ = some (.slice none 0 0) := (blk_cell (blk_below HZ12.out HD4a.out) 2).trans rfl
   have k0 := blk_frozen (blk_below HZ12.out HD4a.out) 0
   have k1 := blk_frozen (blk_below HZ12.out HD4a.out) 1
   have k2 := blk_frozen (blk_below HZ12.out HD4a.out) 2
   have HZW := A' (zset3 (blk_below HZ12.out HD4a.out) (.int .i64 0) (.int .i64 0) (.slice none 0 0))
   have hP := GPost.bad (At := DecAt) (w := w) (S := S) (gd := gd) (s := s) (b := b12) 30 (HIS.out _ HD4a.out) HS.out HB12.out.1
   go_wp2_with (fail)
   exact bodyPost_ret (gret36 HZW.out rfl rfl) rfl hP
 have hsz := okS_iff.1 hvs
 have HBN := A' (bm_new hvs)
 rw [if_pos (show true = true from rfl)] at hn4
 subst hn4
 have har := area hsz.1 hsz.2.1 hsz.2.2.1 hsz.2.2.2.1
 clear hvs
 have HR := A' hR
 clear hR
 have q110 : W4a.cell? ⟨b11, 0, none⟩ = some (.int .i64 RW) := (blk_cell (blk_below HZ11.out HD4a.out) 0).trans rfl
 have q111 : W4a.cell? ⟨b11, 1, none⟩ = some (.int .i64 RH) := (blk_cell (blk_below HZ11.out HD4a.out) 1).trans rfl
 have q112 : W4a.cell? ⟨b11, 2, none⟩ = some (.slice AR RP.length cR) := (blk_cell (blk_below HZ11.out HD4a.out) 2).trans rfl
 go_wp2_with (fail)
 clear hW4a
 obtain ⟨K2, hK2⟩ := Ev.rounds (bvalid_ev RW RH RP hmR)
 refine (bitmap_Valid.calls K2 RW RH AR cR RP _ _ (HA.out _ (HM2.out.below HD4a.out)) hcR hK2).mono ?_
 rintro e W5 ⟨rfl, hb⟩
 have HD5 := A' (below_drew (below_then HD4a.out HD4a.out.size hb))
 have HD5' := A' (below_then HD4a.out HD4a.out.size hb)
 clear hb hK2 q110 q111 q112
 obtain ⟨vr, hvr⟩ : ∃ x, okB RW RH RP = x := ⟨_, rfl⟩
 have hR := HR.out
 clear HR
 rw [hvr] at hR ⊢
 cases vr
 · rw [if_neg (show ¬ (True ∧ false = true) by simp), if_neg (show ¬ ((30 : Int) = 0) by decide)] at hR
   subst hR
   clear hvr
   have m0 : W5.cell? ⟨b12, 0, none⟩ = some (.int .i64 0) := (blk_cell (blk_below HZ12.out HD5'.out) 0).trans rfl
   have m1 : W5.cell? ⟨b12, 1, none⟩ = some (.int .i64 0) := (blk_cell (blk_below HZ12.out HD5'.out) 1).trans rfl
   have m2 : W5.cell? ⟨b12, 2, none⟩ = some (.slice none 0 0) := (blk_cell (blk_below HZ12.out HD5'.out) 2).trans rfl
   have k0 := blk_frozen (blk_below HZ12.out HD5'.out) 0
   have k1 := blk_frozen (blk_below HZ12.out HD5'.out) 1
   have k2 := blk_frozen (blk_below HZ12.out HD5'.out) 2
   have HZW := A' (zset3 (blk_below HZ12.out HD5'.out) (.int .i64 0) (.int .i64 0) (.slice none 0 0))
   have hP := GPost.bad (At := DecAt) (w := w) (S := S) (gd := gd) (s := s) (b := b12) 30 (HIS.out _ HD5'.out) HS.out HB12.out.1
   go_wp2_with (fail)
   exact bodyPost_ret (gret36 HZW.out rfl rfl) rfl hP
 have HBR := A' (okB_bm HbR.out hvr).1
 clear hvr
 rw [if_pos (show True ∧ true = true from ⟨trivial, rfl⟩)] at hR
 obtain ⟨FT, hFT⟩ : ∃ x, okF s.st.length base t = x := ⟨_, rfl⟩
 rw [hFT] at hR
 have HR := A' hR
 have HFF := A' hFT
 clear hR hFT
 go_wp2_with (fail)
 refine start_ (n := 6) (S := fun w' => w'.cell? ⟨b8, 0, none⟩ = some (.int .i64 t) ∧ w'.cell? ⟨b8, 1, none⟩ = some (.int .i64 dx) ∧ w'.cell? ⟨b8, 2, none⟩ = some (.int .i64 dy) ∧ w'.cell? ⟨b8, 3, none⟩ = some (.bool ty) ∧ w'.cell? ⟨b8, 4, none⟩ = some (.int .i64 kd)) (ds := []) #[false, false, false, false, false, false] (by kernel_rfl) rfl rfl ⟨(blk_cell (blk_below HZ8.out HD5.out) 0).trans rfl, (blk_cell (blk_below HZ8.out HD5.out) 1).trans rfl, (blk_cell (blk_below HZ8.out HD5.out) 2).trans rfl, (blk_cell (blk_below HZ8.out HD5.out) 3).trans rfl, (blk_cell (blk_below HZ8.out HD5.out) 4).trans rfl⟩ (fun hHeld => ?_)
 refine u' 0 48 (B' 6 1) ?_ rfl rfl (by kernel_rfl) (fun _ _ _ h => h) (.inl ⟨by rfl, ?_⟩) ?_ ?_ ?_; rotate_left; (intro w'; go_simp; with_reducible rfl); rotate_left; (simp only [Act.put, p1', p2', p3', i64_w, i32_w]; rfl)
 refine u' 2 50 (B' 6 5) ?_ rfl rfl (by kernel_rfl) (fun _ _ _ h => h) (.inl ⟨by rfl, ?_⟩) ?_ ?_ ?_; rotate_left; (intro w'; go_simp; with_reducible rfl); rotate_left; (simp only [Act.put, p1', p2', p3', i64_w, i32_w]; rfl)
 refine t' 3 51 (B' 6 13) ?_ rfl rfl (by kernel_rfl) (fun _ _ _ h => h) (.inl ⟨by rfl, ?_⟩) hHeld ?_ ?_ ?_; rotate_left; (rintro w' ⟨s0, s1, s2, s3, s4⟩; go_simp; with_reducible rfl); rotate_left; (simp only [Act.put, p1', p2', p3', i64_w, i32_w]; rfl)
 refine one_ (i := 1) (N := some 49) (B' 6 15) rfl rfl (by kernel_rfl) (by decide) (fun K hK => ?_)
 refine goes_ Try.func81 (by kernel_rfl) rfl #[.pointer (some ⟨gd, 0, none⟩)] (by rfl) rfl rfl (by simp only [List.map_toArray, List.map_cons, List.map_nil]; rfl) ?_
 with_reducible refine (dec_model_calls _ _ _ _ (HD.out.below HD5.out) HOK.out).mono ?_
 rintro e W6 ⟨A6, c6, rfl, hM6, hb⟩
 refine ⟨_, rfl, ?_⟩
 have HD6 := A' (below_then HD5.out HD5.out.size hb)
 have hc6 := (Kd.R_reads' hM6).2.1
 have HM6 := A' (Kd.R_reads' hM6).2.2
 clear hb hM6
 refine hK.out _ _ ⟨(blk_cell (blk_below HZ8.out HD6.out) 0).trans rfl, (blk_cell (blk_below HZ8.out HD6.out) 1).trans rfl, (blk_cell (blk_below HZ8.out HD6.out) 2).trans rfl, (blk_cell (blk_below HZ8.out HD6.out) 3).trans rfl, (blk_cell (blk_below HZ8.out HD6.out) 4).trans rfl⟩ (fun hHeld => ?_)
 clear hK K
 refine norm_ (a' := ?_) ?_ ?_; rotate_left; (show Act.put _ (some 49) _ = _; simp only [Act.put, p1', p2', p3', i64_w, i32_w]; rfl)
 refine one_ (i := 4) (N := some 52) (B' 6 31) rfl rfl (by kernel_rfl) (by decide) (fun K hK => ?_)
 refine goes_ Try.func57 (by kernel_rfl) rfl #[.agg #[.int .i64 s.kind, .slice A6 s.st.length c6], .int .i64 base, .agg #[.int .i64 t, .int .i64 dx, .int .i64 dy, .bool ty, .int .i64 kd]] (by rfl) rfl rfl (by simp only [List.map_toArray, List.map_cons, List.map_nil]; rfl) ?_
 with_reducible refine (Hsm.fits_calls s.kind A6 c6 s.st hst base t dx dy ty kd FT HFF.out _).mono ?_
 rintro e W7 ⟨rfl, hb⟩
 refine ⟨_, rfl, ?_⟩
 have HD7 := A' (below_then HD6.out HD6.out.size hb)
 clear hb
 refine hK.out _ _ ⟨(blk_cell (blk_below HZ8.out HD7.out) 0).trans rfl, (blk_cell (blk_below HZ8.out HD7.out) 1).trans rfl, (blk_cell (blk_below HZ8.out HD7.out) 2).trans rfl, (blk_cell (blk_below HZ8.out HD7.out) 3).trans rfl, (blk_cell (blk_below HZ8.out HD7.out) 4).trans rfl⟩ (fun hHeld => ?_)
 clear hK K
 refine norm_ (a' := ?_) ?_ ?_; rotate_left; (show Act.put _ (some 52) _ = _; simp only [Act.put, p1', p2', p3', i64_w, i32_w]; rfl)
 refine u' 5 53 (B' 6 63) ?_ rfl rfl (by kernel_rfl) (fun _ _ _ h => h) (.inl ⟨by rfl, ?_⟩) ?_ ?_ ?_; rotate_left; (intro w'; go_simp; with_reducible rfl); rotate_left; (simp only [Act.put, p1', p2', p3', i64_w, i32_w]; rfl)
 refine done_ (by kernel_rfl) ?_
 have hR := HR.out
 clear HR
 cases FT
 · rw [if_neg (show ¬ (false = true) by decide), if_neg (show ¬ ((2 : Int) = 0) by decide)] at hR
   subst hR
   have m0 : W7.cell? ⟨b12, 0, none⟩ = some (.int .i64 0) := (blk_cell (blk_below HZ12.out HD7.out) 0).trans rfl
   have m1 : W7.cell? ⟨b12, 1, none⟩ = some (.int .i64 0) := (blk_cell (blk_below HZ12.out HD7.out) 1).trans rfl
   have m2 : W7.cell? ⟨b12, 2, none⟩ = some (.slice none 0 0) := (blk_cell (blk_below HZ12.out HD7.out) 2).trans rfl
   have k0 := blk_frozen (blk_below HZ12.out HD7.out) 0
   have k1 := blk_frozen (blk_below HZ12.out HD7.out) 1
   have k2 := blk_frozen (blk_below HZ12.out HD7.out) 2
   have HZW := A' (zset3 (blk_below HZ12.out HD7.out) (.int .i64 0) (.int .i64 0) (.slice none 0 0))
   have hP := GPost.bad (At := DecAt) (w := w) (S := S) (gd := gd) (s := s) (b := b12) 2 (HIS.out _ HD7.out) HS.out HB12.out.1
   go_wp2_with (fail)
   exact bodyPost_ret (gret36 HZW.out rfl rfl) rfl hP
 rw [if_pos (show true = true from rfl), if_pos (show (0 : Int) = 0 from rfl)] at hR
 have hff := okF_iff.1 HFF.out
 obtain ⟨nP, hnp⟩ : ∃ n, (W * H).toNat = n := ⟨_, rfl⟩
 rw [hnp] at hR
 have hwh : W * H = (nP : Int) := by omega
 rw [hnp] at HBN
 have HR := A' hR
 have HNP := A' (show wrap64 (W * H) = (nP : Int) by rw [hwh, wrap_id] <;> omega)
 have hnP : nP ≤ 1000000 := by omega
 clear hR hnp hwh
 go_wp2_with (fail)
 have HW7d := A' (show w.heap.size ≤ W7.drew.heap.size ∧ Below W2.heap.size W2 W7.drew from ⟨Nat.le_trans HM2.out.size (below_drew HD7.out).size, below_drew HD7.out⟩)
 refine start_ (n := 10) (S := fun w' => w'.cell? ⟨b8, 0, none⟩ = some (.int .i64 t) ∧ w'.cell? ⟨b8, 1, none⟩ = some (.int .i64 dx) ∧ w'.cell? ⟨b8, 2, none⟩ = some (.int .i64 dy) ∧ w'.cell? ⟨b8, 3, none⟩ = some (.bool ty) ∧ w'.cell? ⟨b8, 4, none⟩ = some (.int .i64 kd) ∧ w'.cell? ⟨b11, 0, none⟩ = some (.int .i64 RW) ∧ w'.cell? ⟨b11, 1, none⟩ = some (.int .i64 RH) ∧ w'.cell? ⟨b11, 2, none⟩ = some (.slice AR RP.length cR)) (ds := []) #[false, false, false, false, false, false, false, false, false, false] (by kernel_rfl) rfl rfl ⟨(blk_cell (blk_below HZ8.out HW7d.out.2) 0).trans rfl, (blk_cell (blk_below HZ8.out HW7d.out.2) 1).trans rfl, (blk_cell (blk_below HZ8.out HW7d.out.2) 2).trans rfl, (blk_cell (blk_below HZ8.out HW7d.out.2) 3).trans rfl, (blk_cell (blk_below HZ8.out HW7d.out.2) 4).trans rfl, (blk_cell (blk_below HZ11.out HW7d.out.2) 0).trans rfl, (blk_cell (blk_below HZ11.out HW7d.out.2) 1).trans rfl, (blk_cell (blk_below HZ11.out HW7d.out.2) 2).trans rfl⟩ (fun hHeld => ?_)
 refine u' 1 56 (B' 10 2) ?_ rfl rfl (by kernel_rfl) (fun _ _ _ h => h) (.inl ⟨by rfl, ?_⟩) ?_ ?_ ?_; rotate_left; (intro w'; go_simp; with_reducible rfl); rotate_left; (simp only [Act.put, p1', p2', p3', i64_w, i32_w]; rfl)
 refine u' 2 57 (B' 10 6) ?_ rfl rfl (by kernel_rfl) (fun _ _ _ h => h) (.inl ⟨by rfl, ?_⟩) ?_ ?_ ?_; rotate_left; (intro w'; go_simp; with_reducible rfl); rotate_left; (simp only [Act.put, p1', p2', p3', i64_w, i32_w]; rfl)
 refine u' 3 58 (B' 10 14) ?_ rfl rfl (by kernel_rfl) (fun _ _ _ h => h) (.inl ⟨by rfl, ?_⟩) ?_ ?_ ?_; rotate_left; (intro w'; go_simp; with_reducible rfl); rotate_left; (simp only [Act.put, p1', p2', p3', i64_w, i32_w]; rfl)
 refine u' 4 59 (B' 10 30) ?_ rfl rfl (by kernel_rfl) (fun _ _ _ h => h) (.inl ⟨by rfl, ?_⟩) ?_ ?_ ?_; rotate_left; (intro w'; go_simp; with_reducible rfl); rotate_left; (simp only [Act.put, p1', p2', p3', i64_w, i32_w]; rfl)
 refine u' 5 60 (B' 10 62) ?_ rfl rfl (by kernel_rfl) (fun _ _ _ h => h) (.inl ⟨by rfl, ?_⟩) ?_ ?_ ?_; rotate_left; (intro w'; go_simp; with_reducible rfl); rotate_left; (simp only [Act.put, p1', p2', p3', i64_w, i32_w]; rfl)
 refine t' 0 55 (B' 10 63) ?_ rfl rfl (by kernel_rfl) (fun _ _ _ h => h) (.inl ⟨by rfl, ?_⟩) hHeld ?_ ?_ ?_; rotate_left; (rintro w' ⟨s0, s1, s2, s3, s4, s5, s6, s7⟩; go_simp; with_reducible rfl); rotate_left; (simp only [Act.put, p1', p2', p3', i64_w, i32_w]; rfl)
 refine t' 7 62 (B' 10 191) ?_ rfl rfl (by kernel_rfl) (fun _ _ _ h => h) (.inl ⟨by rfl, ?_⟩) hHeld ?_ ?_ ?_; rotate_left; (rintro w' ⟨s0, s1, s2, s3, s4, s5, s6, s7⟩; go_simp; with_reducible rfl); rotate_left; (simp only [Act.put, p1', p2', p3', i64_w, i32_w]; rfl)
 refine one_ (i := 6) (N := some 61) (B' 10 255) rfl rfl (by kernel_rfl) (by decide) (fun K hK => ?_)
 refine value_ (w1 := ?_) (v := ?_) (by rfl) rfl ?_ ?_
 rotate_left 2
 · refine make_step _ (.tmp 60) (.tmp 60) ?_ (wrap64 (W * H)) nP ?_ ?_ HNP.out hnP <;> rfl
 obtain ⟨gp, hgp⟩ : ∃ x, W7.drew.heap.size = x := ⟨_, rfl⟩
 obtain ⟨W8, hW8⟩ : ∃ x, W7.drew.alloc (.cells (zcells nP) 5) = x := ⟨_, rfl⟩
 have HROW := A' (show Kd.R (Kd.int .u8) 5 W8 w.heap.size (fun k => k = gp) (.slice (some ⟨gp, 0, none⟩) nP nP) (List.replicate nP 0) from hW8 ▸ hgp ▸ made_row W7.drew w.heap.size nP HW7d.out.1 hnP)
 have HD8 := A' (show Below W2.heap.size W2 W8 from hW8 ▸ below_alloc HW7d.out.2 _)
 have HGP := A' (show W7.drew.heap.size ≤ gp ∧ gp < W8.heap.size from ⟨by omega, by rw [← hW8, World.size_alloc]; omega⟩)
 rw [hgp, hW8]
 clear hW8 hgp
 refine hK.out _ _ ⟨(blk_cell (blk_below HZ8.out HD8.out) 0).trans rfl, (blk_cell (blk_below HZ8.out HD8.out) 1).trans rfl, (blk_cell (blk_below HZ8.out HD8.out) 2).trans rfl, (blk_cell (blk_below HZ8.out HD8.out) 3).trans rfl, (blk_cell (blk_below HZ8.out HD8.out) 4).trans rfl, (blk_cell (blk_below HZ11.out HD8.out) 0).trans rfl, (blk_cell (blk_below HZ11.out HD8.out) 1).trans rfl, (blk_cell (blk_below HZ11.out HD8.out) 2).trans rfl⟩ (fun hHeld => ?_)
 clear hK K
 refine norm_ (a' := ?_) ?_ ?_; rotate_left; (show Act.put _ (some 61) _ = _; simp only [Act.put, p1', p2', p3', i64_w, i32_w]; rfl)
 refine one_ (i := 8) (N := some 63) (B' 10 511) rfl rfl (by kernel_rfl) (by decide) (fun K hK => ?_)
 refine goes_ Try.func58 (by kernel_rfl) rfl #[.agg #[.int .i64 t, .int .i64 dx, .int .i64 dy, .bool ty, .int .i64 kd], .int .i64 W, .int .i64 H, .slice (some ⟨gp, 0, none⟩) nP nP, .agg #[.int .i64 RW, .int .i64 RH, .slice AR RP.length cR]] (by rfl) rfl rfl (by simp only [List.map_toArray, List.map_cons, List.map_nil]; rfl) ?_
 with_reducible refine (newRegion_calls _ t dx dy ty kd W H _ RW RH _ (some ⟨gp, 0, none⟩) nP nP AR RP.length cR rfl rfl).mono ?_
 rintro e W9 ⟨gr, rfl, hgr, hZg, hb⟩
 refine ⟨_, rfl, ?_⟩
 have HD9 := A' (below_then HD8.out HD8.out.size hb)
 have HROW := A' (Kd.R_below HROW.out hb)
 have HGR := A' hgr
 have HZG := A' hZg
 clear hb hgr hZg
 refine hK.out _ _ ⟨(blk_cell (blk_below HZ8.out HD9.out) 0).trans rfl, (blk_cell (blk_below HZ8.out HD9.out) 1).trans rfl, (blk_cell (blk_below HZ8.out HD9.out) 2).trans rfl, (blk_cell (blk_below HZ8.out HD9.out) 3).trans rfl, (blk_cell (blk_below HZ8.out HD9.out) 4).trans rfl, (blk_cell (blk_below HZ11.out HD9.out) 0).trans rfl, (blk_cell (blk_below HZ11.out HD9.out) 1).trans rfl, (blk_cell (blk_below HZ11.out HD9.out) 2).trans rfl⟩ (fun hHeld => ?_)
 clear hK K
 refine norm_ (a' := ?_) ?_ ?_; rotate_left; (show Act.put _ (some 63) _ = _; simp only [Act.put, p1', p2', p3', i64_w, i32_w]; rfl)
 refine u' 9 18 (B' 10 1023) ?_ rfl rfl (by kernel_rfl) (fun _ _ _ h => h) (.inl ⟨by rfl, ?_⟩) ?_ ?_ ?_; rotate_left; (intro w'; go_simp; with_reducible rfl); rotate_left; (simp only [Act.put, p1', p2', p3', i64_w, i32_w]; rfl)
 refine done_ (by kernel_rfl) ?_
 have HW12 := A' (Nat.le_trans HM2.out.size HD9.out.size)
 obtain ⟨T, hT⟩ : ∃ T : Nat → Prop, (fun k => k = gp) = T := ⟨_, rfl⟩
 have HT2 := A' (show ∀ k, T k → k = gp from hT ▸ fun k hk => hk)
 have hgp1 : W2.heap.size ≤ gp := Nat.le_trans HW7d.out.2.size HGP.out.1
 have hwg : w.heap.size ≤ gp := Nat.le_trans HM2.out.size hgp1
 have HST := A' (show ∀ k, T k → ¬ S k from fun k hk hs => by have := HT2.out k hk; have := HS.out k hs; omega)
 have HS9 := A' (show ∀ k, S k → k < W9.heap.size from fun k hk => Nat.lt_of_lt_of_le (HS.out k hk) HW12.out)
 have HX := A' (show GX DecAt W9 S T w.heap.size gd s (.slice (some ⟨gp, 0, none⟩) nP nP) (List.replicate nP 0) W9 from ⟨HD.out.below HD9.out, hT ▸ HROW.out, Mods.refl _ _, HOK.out⟩)
 have HM9 := A' (show ∀ V, Mods W9 V (fun k => S k ∨ T k) → Mods w V S from fun V hV => (HM2.out.below HD9.out).then_ hV (fun k hk => hk.imp id (fun h => by rw [HT2.out k h]; exact hwg)))
 have HNO := A' (show ∀ b, w.heap.size ≤ b → b ≠ gp → ¬ (S b ∨ T b) from fun b h1 h2 hk => hk.elim (fun h => by have := HS.out b h; omega) (fun h => h2 (HT2.out b h)))
 have HZ12 := A' (show ∀ V, Mods W9 V (fun k => S k ∨ T k) → V.heap[b12]? = some (.cells #[.int .i64 0, .int .i64 0, .slice none 0 0] 31 (0, 0)) from fun V hV => blk_mods (blk_below HZ12.out HD9.out) hV (HNO.out _ HB12.out.1 (by have := HB12.out.2; have := HS1.out; omega)))
 have HZG := A' (show ∀ V, Mods W9 V (fun k => S k ∨ T k) → V.heap[gr]? = some (.cells (regc t dx dy ty kd W H (.slice (some ⟨gp, 0, none⟩) nP nP) RW RH (.slice AR RP.length cR)) 109 (0, 0)) from fun V hV => blk_mods HZG.out hV (HNO.out _ (by have := HGR.out; have := HGP.out.2; omega) (by have := HGR.out; have := HGP.out.2; omega)))
 obtain ⟨R1, hR1⟩ : ∃ x, rowsD q H.toNat 0 s (List.replicate nP 0) = x := ⟨_, rfl⟩
 have hR := HR.out
 rw [hR1] at hR
 have HR1 := A' (show rowsD q (H.toNat - 0) 0 s (List.replicate nP 0) = R1 from hR1)
 have HR := A' hR
 have HL0 := A' (show (List.replicate nP (0 : Int)).length = nP from List.length_replicate)
 clear hR hR1 hT HROW hwg HD3 HD4 HD4a HD5 HD5' HD6 HD7 HD8 HM6
 go_wp2_with (fail)
 go_loopw [65] (fun j wr => ∃ (k : Nat) (s1 : DS) (P1 : List Int), k ≤ H.toNat ∧ j = .int .i64 k ∧ Aside0 (rowsD q (H.toNat - k) k s1 P1 = R1) ∧ Aside0 (P1.length = nP) ∧ Aside0 (Bm W H P1) ∧ Aside0 (GX DecAt W9 S T w.heap.size gd s1 (.slice (some ⟨gp, 0, none⟩) nP nP) P1 wr)) (fun j _ => H.toNat - (intOf j).toNat)
 case atStart => exact ⟨0, s, _, Nat.zero_le _, rfl, HR1, HL0, HBN, HX⟩
 clear HR1 HL0 HBN HX
 case round =>
  obtain ⟨k, s1, P1, hk, rfl, HX1, HL, HBM, HX⟩ := hrel
  by_cases hlt : k < H.toNat
  · have hltk : (k : Int) < H := by omega
    have hX := HX1.out
    rw [show H.toNat - k = (H.toNat - (k + 1)) + 1 by omega] at hX
    unfold rowsD at hX
    obtain ⟨⟨s3, P3, er⟩, hrr⟩ : ∃ r, rowH q (k : Int) s1 P1 = r := ⟨_, rfl⟩
    have hl3 := (rowH_len q (k : Int) s1 P1).1
    have hb3 := rowH_bm q (by rw [HQQ.out]; exact HBR.out) (k : Int) s1 P1 (by rw [HQQ.out]; exact HBM.out)
    rw [hrr] at hX hl3 hb3
    simp only at hX hl3 hb3
    have HX2 := A' hX
    have HRR := A' hrr
    have HL3 := A' (hl3.trans HL.out)
    have HB3 := A' (show Bm W H P3 by rw [HQQ.out] at hb3; exact hb3)
    clear hX hrr hl3 hb3 HX1
    go_wp2_with (fail)
    refine (rrow_calls W9 wr S T w.heap.size gd gr s1 base t dx dy ty kd W H (some ⟨gp, 0, none⟩) nP nP P1 RW RH AR cR RP k HZG.out (fun V hV => HA.out V (HM9.out V hV)) hcR HS9.out HST.out HX.out HL.out HBM.out HBR.out HT.out (by have := HOO.out; omega) (by have := HOO.out; omega) ⟨hff.1, by have := ctxs_range t; omega⟩ hltk q HQQ.out _ HRR.out).mono ?_
    rintro e V2 ⟨rfl, hx⟩
    have HX := A' hx
    clear hx HRR
    have hX := HX2.out
    clear HX2
    simp only
    by_cases her : er = 0
    · rw [if_pos her] at hX
      have e1 : (er != 0) = false := by simp [her]
      have HX2 := A' hX
      clear hX her
      go_wp2_with (fail)
      exact ⟨⟨k + 1, s3, P3, by omega, by go_num, HX2, HL3, HB3, HX⟩, by simp [intOf]; omega⟩
    · rw [if_neg her] at hX
      have e1 : (er != 0) = true := bne_iff_ne.mpr her
      have hR := HR.out
      rw [← hX] at hR
      simp only at hR
      rw [if_neg her] at hR
      subst hR
      have hz := HZ12.out _ HX.out.m
      have m0 : V2.cell? ⟨b12, 0, none⟩ = some (.int .i64 0) := (blk_cell hz 0).trans rfl
      have m1 : V2.cell? ⟨b12, 1, none⟩ = some (.int .i64 0) := (blk_cell hz 1).trans rfl
      have m2 : V2.cell? ⟨b12, 2, none⟩ = some (.slice none 0 0) := (blk_cell hz 2).trans rfl
      have k0 := blk_frozen hz 0
      have k1 := blk_frozen hz 1
      have k2 := blk_frozen hz 2
      have HZW := A' (zset3 hz (.int .i64 0) (.int .i64 0) (.slice none 0 0))
      have hP := GPost.bad (At := DecAt) (w := w) (S := S) (gd := gd) (s := s3) (b := b12) er ⟨HX.out.d, HM9.out _ HX.out.m, HX.out.ok⟩ HS.out HB12.out.1
      clear hX her hz
      go_wp2_with (fail)
      exact bodyPost_ret (gret36 HZW.out rfl rfl) rfl hP
  · have hX := HX1.out
    rw [show H.toNat - k = 0 by omega] at hX
    simp only [rowsD] at hX
    have hR := HR.out
    rw [← hX] at hR
    simp only [if_true] at hR
    subst hR
    have hz := HZ12.out _ HX.out.m
    have m0 : wr.cell? ⟨b12, 0, none⟩ = some (.int .i64 0) := (blk_cell hz 0).trans rfl
    have m1 : wr.cell? ⟨b12, 1, none⟩ = some (.int .i64 0) := (blk_cell hz 1).trans rfl
    have m2 : wr.cell? ⟨b12, 2, none⟩ = some (.slice none 0 0) := (blk_cell hz 2).trans rfl
    have k0 := blk_frozen hz 0
    have k1 := blk_frozen hz 1
    have k2 := blk_frozen hz 2
    have HZW := A' (zset3 hz (.int .i64 W) (.int .i64 H) (.slice (some ⟨gp, 0, none⟩) nP nP))
    have c7 : wr.cell? ⟨gr, 7, none⟩ = some (.slice (some ⟨gp, 0, none⟩) nP nP) := (blk_cell (HZG.out _ HX.out.m) 7).trans rfl
    have hP : GPost DecAt w S gd (s1, (W, H, P1), 0) (.returned (.tuple #[.agg #[.int .i64 W, .int .i64 H, .slice (some ⟨gp, 0, none⟩) nP nP], .int .i64 0])) (((wr.setCell ⟨b12, 0, none⟩ (.int .i64 W)).setCell ⟨b12, 1, none⟩ (.int .i64 H)).setCell ⟨b12, 2, none⟩ (.slice (some ⟨gp, 0, none⟩) nP nP)) := by
     have hne : ∀ k, T k → k ≠ b12 := fun k hk he => by have := HT2.out k hk; have := HB12.out.2; have := HS1.out; omega
     have hp := Kd.R_far (p := ⟨b12, 2, none⟩) (Kd.R_far (p := ⟨b12, 1, none⟩) (Kd.R_far (p := ⟨b12, 0, none⟩) HX.out.p hne (.int .i64 W)) hne (.int .i64 H)) hne (.slice (some ⟨gp, 0, none⟩) nP nP)
     have hl := HL.out
     refine ⟨some ⟨gp, 0, none⟩, nP, by rw [show P1.length = nP from hl], by rw [show P1.length = nP from hl]; exact Kd.R_mono hp (fun _ _ => trivial), ?_⟩
     exact (((⟨HX.out.d, HM9.out _ HX.out.m, HX.out.ok⟩ : IS DecAt w S gd s1 wr).set HS.out _ HB12.out.1 _).set HS.out _ HB12.out.1 _).set HS.out _ HB12.out.1 _
    clear hX hz
    go_wp2_with (fail)
    exact bodyPost_ret (gret36 HZW.out rfl rfl) rfl hP
end Go.Proofs.Ytkfejicdjpffcaa.Rgt
namespace Go.Proofs.Ytkfejicdjpffcaa.Rrg
open Go Go.RowKit YtkfejicdjpffcaaW PrintWords PrintLast PrintMore U Aid HandAid Cod1 Cod2 Cod3 Ytkfejicdjpffcaa.Mod NewRef Enc Mods EncAt Put End Snc Dec Get DecNew RefAt RDec RDecNew Isk Pse Rpx Rva Rfl Rcx Rty Rev Rdv Rrw Rmk Rgt
end Go.Proofs.Ytkfejicdjpffcaa.Rrg
namespace Go.Proofs.Ytkfejicdjpffcaa.Rde
open Go Go.RowKit YtkfejicdjpffcaaW PrintWords PrintLast PrintMore U Aid HandAid Cod1 Cod2 Cod3 Ytkfejicdjpffcaa.Mod NewRef Enc Mods EncAt Put End Snc Dec Get DecNew RefAt RDec RDecNew Isk Pse Pwk Rpx Rva Rfl Rcx Rty Rev Ren Rdv Rrw Rmk Rgt Rrg
/-- What Decode answers. -/
def decB (q : RQ) (kd : Int) (code : List Int) : (Int × Int × List Int) × Int := if okO q.t q.dx q.dy kd = true then ((getD q kd (newDS kd (List.replicate (ctxs q.t + 1).toNat 0) code)).2.1, (getD q kd (newDS kd (List.replicate (ctxs q.t + 1).toNat 0) code)).2.2) else ((0, 0, []), 2)
def DPost (w : World) (R : (Int × Int × List Int) × Int) (e : Ending) (W : World) : Prop :=
 ∃ A c, e = .returned (.tuple #[.agg #[.int .i64 R.1.1, .int .i64 R.1.2.1, .slice A R.1.2.2.length c], .int .i64 R.2]) ∧ Kd.R (Kd.int .u8) 5 W w.heap.size (fun _ => True) (.slice A R.1.2.2.length c) R.1.2.2 ∧ Below w.heap.size w W
theorem DPost.bad {w W : World} {b : Nat} (err : Int) (h : Below w.heap.size w W) (hb : w.heap.size ≤ b) : DPost w ((0, 0, []), err) (.returned (.tuple #[.agg #[.int .i64 0, .int .i64 0, .slice none 0 0], .int .i64 err])) (((W.setCell ⟨b, 0, none⟩ (.int .i64 0)).setCell ⟨b, 1, none⟩ (.int .i64 0)).setCell ⟨b, 2, none⟩ (.slice none 0 0)) :=
 ⟨none, 0, rfl, Kd.R_nil _ _ _ w.heap.size (fun _ => True), ((h.setCell hb _).setCell hb _).setCell hb _⟩
theorem row_from {α : Type} {d : Kd α} {e : Nat} {W : World} {base : Nat} {ok : Nat → Prop} {v : Value} {xs : List α} (h : Kd.R d e W base ok v xs) : Kd.R d e W base (fun k => base ≤ k ∧ ok k) v xs := Kd.R_mono (Kd.R_bound h) (fun k hk => ⟨hk.2.1, hk.1⟩)
theorem dret19 {W : World} {b : Nat} {x y err : Int} {A : Option Addr} {n c : Nat} {tmps : Array Value} (hz : W.heap[b]? = some (.cells #[.int .i64 x, .int .i64 y, .slice A n c] 31 (0, 0))) (h2 : tmps.getD 10 undef = .pointer (some ⟨b, 0, none⟩)) (h3 : tmps.getD 11 undef = .int .i64 err) :
 (results Try.f19 tmps).run Try.prog W = .ok (.tuple #[.agg #[.int .i64 x, .int .i64 y, .slice A n c], .int .i64 err]) W := by
 have y0 : W.cell? ⟨b, 0, none⟩ = some (.int .i64 x) := (blk_cell hz 0).trans rfl
 have y1 : W.cell? ⟨b, 1, none⟩ = some (.int .i64 y) := (blk_cell hz 1).trans rfl
 have y2 : W.cell? ⟨b, 2, none⟩ = some (.slice A n c) := (blk_cell hz 2).trans rfl
 have hu := Try.underlying31
 rw [results_cell_tmp rfl, h2, h3]
 go_simp
set_option maxHeartbeats 4000000 in
set_option maxRecDepth 100000 in
theorem rdecode_calls (w : World) (t dx dy : Int) (ty : Bool) (kd : Int) (AC : Option Addr) (cC : Nat) (code : List Int) (W H : Int) (RW RH : Int) (AR : Option Addr) (cR : Nat) (RP : List Int) (hdx : -9223372036854775808 ≤ dx ∧ dx ≤ 9223372036854775807) (hdy : -9223372036854775808 ≤ dy ∧ dy ≤ 9223372036854775807) (hC : Kd.C (Kd.int .u8) w AC code.length code) (hcC : code.length ≤ cC) (hbC : Bytes code) (hlen : code.length ≤ 1099511627776) (hA : Kd.C (Kd.int .u8) w AR RP.length RP) (hcR : RP.length ≤ cR) (hbR : Bytes RP) (R : (Int × Int × List Int) × Int) (hR : decB ⟨t, dx, dy, ty, W, H, RW, RH, RP, 0⟩ kd code = R) :
 Calls Try.prog 19 #[.agg #[.int .i64 t, .int .i64 dx, .int .i64 dy, .bool ty, .int .i64 kd], .slice AC code.length cC, .int .i64 W, .int .i64 H, .agg #[.int .i64 RW, .int .i64 RH, .slice AR RP.length cR]] w (DPost w R) := by
 have HC := A' hC
 have HA := A' hA
 have HbC := A' hbC
 have HbR := A' hbR
 have hmR : RP.length ≤ 9223372036854775807 := Kd.C_max hA
 obtain ⟨q, hq⟩ : ∃ q : RQ, q = ⟨t, dx, dy, ty, W, H, RW, RH, RP, 0⟩ := ⟨_, rfl⟩
 rw [← hq] at hR
 have HQQ := A' hq
 unfold decB at hR
 have e1 : okO q.t q.dx q.dy kd = okO t dx dy kd := by rw [hq]
 have e4 : ctxs q.t = ctxs t := by rw [hq]
 rw [e1, e4] at hR
 have HR := A' hR
 have hu3 := Try.underlying23
 have hu4 := Try.underlying31
 have hu5 := Try.underlying45
 clear hC hA hbC hbR hR hq e1 e4
 go_enter Try.func19, Try.ntmps19
 go_wp2_with (fail)
 obtain ⟨b10, hb10⟩ : ∃ x, w.heap.size + 1 + 1 = x := ⟨_, rfl⟩
 obtain ⟨b9, hb9⟩ : ∃ x, w.heap.size + 1 = x := ⟨_, rfl⟩
 obtain ⟨b5, hb5⟩ : ∃ x, w.heap.size = x := ⟨_, rfl⟩
 obtain ⟨W1, hW1⟩ : ∃ x, ((w.alloc (.cells #[.int .i64 t, .int .i64 dx, .int .i64 dy, .bool ty, .int .i64 kd] 23)).alloc (.cells #[.int .i64 RW, .int .i64 RH, .slice AR RP.length cR] 31)).alloc (.cells #[.int .i64 0, .int .i64 0, .slice none 0 0] 31) = x := ⟨_, rfl⟩
 have HB1 := A' (show Below w.heap.size w W1 from hW1 ▸ below_alloc (below_alloc (below_alloc (Below.refl _ _) _) _) _)
 have HZ10 := A' (show W1.heap[b10]? = some (.cells #[.int .i64 0, .int .i64 0, .slice none 0 0] 31 (0, 0)) by
  have h := heap_new ((w.alloc (.cells #[.int .i64 t, .int .i64 dx, .int .i64 dy, .bool ty, .int .i64 kd] 23)).alloc (.cells #[.int .i64 RW, .int .i64 RH, .slice AR RP.length cR] 31)) (.cells #[.int .i64 0, .int .i64 0, .slice none 0 0] 31)
  rw [World.size_alloc, World.size_alloc, hb10, hW1] at h
  exact h)
 have HZ9 := A' (show W1.heap[b9]? = some (.cells #[.int .i64 RW, .int .i64 RH, .slice AR RP.length cR] 31 (0, 0)) by
  have h := heap_new (w.alloc (.cells #[.int .i64 t, .int .i64 dx, .int .i64 dy, .bool ty, .int .i64 kd] 23)) (.cells #[.int .i64 RW, .int .i64 RH, .slice AR RP.length cR] 31)
  rw [World.size_alloc, hb9] at h
  rw [← hW1]
  exact blk_alloc h _)
 have HZ5 := A' (show W1.heap[b5]? = some (.cells #[.int .i64 t, .int .i64 dx, .int .i64 dy, .bool ty, .int .i64 kd] 23 (0, 0)) by
  have h := heap_new w (.cells #[.int .i64 t, .int .i64 dx, .int .i64 dy, .bool ty, .int .i64 kd] 23)
  rw [hb5] at h
  rw [← hW1]
  exact blk_alloc (blk_alloc h _) _)
 have HG10 := A' (show w.heap.size ≤ b10 ∧ b10 < W1.heap.size from ⟨by omega, blk_lt HZ10.out⟩)
 rw [hb10, hb9, hb5, hW1]
 have HD1 := A' (Below.refl W1.heap.size W1)
 clear hb10 hb9 hb5 hW1
 refine (refine_Valid.calls t dx dy ty kd _ _ (valid_eq t dx dy ty kd hdx hdy)).mono ?_
 rintro e W3 ⟨rfl, hb⟩
 have HD3 := A' hb
 clear hb
 have hR := HR.out
 clear HR
 obtain ⟨vo, hvo⟩ : ∃ x, okO t dx dy kd = x := ⟨_, rfl⟩
 rw [hvo] at hR ⊢
 cases vo
 · rw [if_neg (show ¬ (false = true) by decide)] at hR
   subst hR
   clear hvo
   have hz := blk_below HZ10.out HD3.out
   have m0 : W3.cell? ⟨b10, 0, none⟩ = some (.int .i64 0) := (blk_cell hz 0).trans rfl
   have m1 : W3.cell? ⟨b10, 1, none⟩ = some (.int .i64 0) := (blk_cell hz 1).trans rfl
   have m2 : W3.cell? ⟨b10, 2, none⟩ = some (.slice none 0 0) := (blk_cell hz 2).trans rfl
   have k0 := blk_frozen hz 0
   have k1 := blk_frozen hz 1
   have k2 := blk_frozen hz 2
   have HZW := A' (zset3 hz (.int .i64 0) (.int .i64 0) (.slice none 0 0))
   have hP := DPost.bad (w := w) (b := b10) 2 (below_then HB1.out HB1.out.size HD3.out) HG10.out.1
   clear hz
   go_wp2_with (fail)
   exact bodyPost_ret (dret19 HZW.out rfl rfl) rfl hP
 rw [if_pos (show true = true from rfl)] at hR
 have hk := (okO_iff.1 hvo).2.1
 have HVO := A' hvo
 have HMO := A' (model_eq t dx dy ty kd hvo)
 have HK := A' (stN_ok t kd hk)
 clear hvo hk
 generalize List.replicate (ctxs t + 1).toNat (0 : Int) = st at hR HMO HK
 have HR := A' hR
 clear hR
 have q50 : W3.cell? ⟨b5, 0, none⟩ = some (.int .i64 t) := (blk_cell (blk_below HZ5.out HD3.out) 0).trans rfl
 have q51 : W3.cell? ⟨b5, 1, none⟩ = some (.int .i64 dx) := (blk_cell (blk_below HZ5.out HD3.out) 1).trans rfl
 have q52 : W3.cell? ⟨b5, 2, none⟩ = some (.int .i64 dy) := (blk_cell (blk_below HZ5.out HD3.out) 2).trans rfl
 have q53 : W3.cell? ⟨b5, 3, none⟩ = some (.bool ty) := (blk_cell (blk_below HZ5.out HD3.out) 3).trans rfl
 have q54 : W3.cell? ⟨b5, 4, none⟩ = some (.int .i64 kd) := (blk_cell (blk_below HZ5.out HD3.out) 4).trans rfl
 go_wp2_with (fail)
 refine (refine_model.calls t dx dy ty kd kd st _ HMO.out).mono ?_
 rintro e W4 ⟨v, rfl, hRv, hb⟩
 obtain ⟨Am, cm, rfl⟩ := Kd.R_slice hRv
 have HD4 := A' (below_then HD3.out HD3.out.size hb)
 have hcm := (Kd.R_reads' hRv).2.1
 have HCM := A' (Kd.R_reads' hRv).2.2
 clear hRv hb q50 q51 q52 q53 q54
 go_wp2_with (fail)
 refine (new_dec Am cm kd st AC cC code _ HCM.out hcm HK.out (Kd.C_below HC.out (below_then HB1.out HB1.out.size HD4.out)) hcC HbC.out hlen).mono ?_
 rintro e W5 ⟨g, rfl, hE, hb⟩
 have HD5 := A' (below_then HD4.out HD4.out.size hb)
 have HE := A' hE
 have HSI := A' (show ∀ k, Since W4.heap.size W5 k → W1.heap.size ≤ k from fun k hk => Nat.le_trans HD4.out.size hk.1)
 have HSL := A' (show ∀ k, Since W4.heap.size W5 k → k < W5.heap.size from fun k hk => hk.2)
 have HBV := A' (show ∀ V, Mods W5 V (Since W4.heap.size W5) → Below W1.heap.size W1 V from fun V hV => below_mods HD5.out hV HSI.out HD5.out.size)
 generalize Since W4.heap.size W5 = S at HE HSI HSL HBV
 clear hE hb HCM hcm
 have q50 : W5.cell? ⟨b5, 0, none⟩ = some (.int .i64 t) := (blk_cell (blk_below HZ5.out HD5.out) 0).trans rfl
 have q51 : W5.cell? ⟨b5, 1, none⟩ = some (.int .i64 dx) := (blk_cell (blk_below HZ5.out HD5.out) 1).trans rfl
 have q52 : W5.cell? ⟨b5, 2, none⟩ = some (.int .i64 dy) := (blk_cell (blk_below HZ5.out HD5.out) 2).trans rfl
 have q53 : W5.cell? ⟨b5, 3, none⟩ = some (.bool ty) := (blk_cell (blk_below HZ5.out HD5.out) 3).trans rfl
 have q54 : W5.cell? ⟨b5, 4, none⟩ = some (.int .i64 kd) := (blk_cell (blk_below HZ5.out HD5.out) 4).trans rfl
 have q90 : W5.cell? ⟨b9, 0, none⟩ = some (.int .i64 RW) := (blk_cell (blk_below HZ9.out HD5.out) 0).trans rfl
 have q91 : W5.cell? ⟨b9, 1, none⟩ = some (.int .i64 RH) := (blk_cell (blk_below HZ9.out HD5.out) 1).trans rfl
 have q92 : W5.cell? ⟨b9, 2, none⟩ = some (.slice AR RP.length cR) := (blk_cell (blk_below HZ9.out HD5.out) 2).trans rfl
 go_wp2_with (fail)
 refine (rfget_calls W5 S g (newDS kd st code) 0 t dx dy ty kd W H RW RH AR cR RP HE.out HSL.out (newDS_ok HK.out HbC.out hlen) hdx hdy (fun V hV => Kd.C_below HA.out (below_then HB1.out HB1.out.size (HBV.out V hV))) hcR HbR.out q HQQ.out _ rfl).mono ?_
 rintro e W6 ⟨A6, c6, rfl, hR6, hI6⟩
 clear q50 q51 q52 q53 q54 q90 q91 q92 HE
 have HB6 := A' (HBV.out _ hI6.m)
 have hR := HR.out
 clear HR
 obtain ⟨⟨s6, ⟨x6, y6, P6⟩, e6⟩, hg6⟩ : ∃ r, getD q kd (newDS kd st code) = r := ⟨_, rfl⟩
 rw [hg6] at hR6 hR ⊢
 simp only at hR6 hR ⊢
 subst hR
 have HR6 := A' (Kd.R_lower hR6 (Nat.le_trans HB1.out.size HD5.out.size))
 have HNE := A' (show ∀ k, W5.heap.size ≤ k → k ≠ b10 from fun k hk he => by have := HG10.out.2; have := HD5.out.size; omega)
 have hR6b := row_from hR6
 clear hg6 hI6
 have hz := blk_below HZ10.out HB6.out
 have m0 : W6.cell? ⟨b10, 0, none⟩ = some (.int .i64 0) := (blk_cell hz 0).trans rfl
 have m1 : W6.cell? ⟨b10, 1, none⟩ = some (.int .i64 0) := (blk_cell hz 1).trans rfl
 have m2 : W6.cell? ⟨b10, 2, none⟩ = some (.slice none 0 0) := (blk_cell hz 2).trans rfl
 have k0 := blk_frozen hz 0
 have k1 := blk_frozen hz 1
 have k2 := blk_frozen hz 2
 have HZW := A' (zset3 hz (.int .i64 x6) (.int .i64 y6) (.slice A6 P6.length c6))
 have hP : DPost w ((x6, y6, P6), e6) (.returned (.tuple #[.agg #[.int .i64 x6, .int .i64 y6, .slice A6 P6.length c6], .int .i64 e6])) (((W6.setCell ⟨b10, 0, none⟩ (.int .i64 x6)).setCell ⟨b10, 1, none⟩ (.int .i64 y6)).setCell ⟨b10, 2, none⟩ (.slice A6 P6.length c6)) :=
  ⟨A6, c6, rfl, Kd.R_mono (Kd.R_lower (Kd.R_far (p := ⟨b10, 2, none⟩) (Kd.R_far (p := ⟨b10, 1, none⟩) (Kd.R_far (p := ⟨b10, 0, none⟩) hR6b (fun k hk => HNE.out k hk.1) (.int .i64 x6)) (fun k hk => HNE.out k hk.1) (.int .i64 y6)) (fun k hk => HNE.out k hk.1) (.slice A6 P6.length c6)) (Nat.le_trans HB1.out.size HD5.out.size)) (fun _ _ => trivial), (((below_then HB1.out HB1.out.size HB6.out).setCell HG10.out.1 _).setCell HG10.out.1 _).setCell HG10.out.1 _⟩
 clear hz hR6 hR6b
 go_wp2_with (fail)
 exact bodyPost_ret (dret19 HZW.out rfl rfl) rfl hP
end Go.Proofs.Ytkfejicdjpffcaa.Rde
namespace Go.Proofs.Ytkfejicdjpffcaa.Rbk
open Go Go.RowKit YtkfejicdjpffcaaW PrintWords PrintLast PrintMore U Aid HandAid Cod1 Cod2 Cod3 Ytkfejicdjpffcaa.Mod NewRef Enc Mods EncAt Put End Snc Dec Get DecNew Isk Pse Bkp Rpx Rva Rev Ren Rdv Rde
/-- The first n pixels are told. -/
structure Agr (P Pk : List Int) (n : Int) : Prop where
 l : Pk.length = P.length
 a : ∀ i : Int, 0 ≤ i → i < n → rd Pk i = rd P i
theorem rd_set_eq {l : List Int} {i : Nat} (h : i < l.length) (v : Int) : rd (l.set i v) (i : Int) = v := by
 rw [rd_at (by rw [List.length_set]; exact h)]
 simp
theorem rd_set_ne {l : List Int} {i : Nat} {j : Int} (h0 : 0 ≤ j) (hne : j ≠ (i : Int)) (v : Int) : rd (l.set i v) j = rd l j := by
 obtain ⟨k, rfl⟩ : ∃ k : Nat, j = (k : Int) := ⟨j.toNat, by omega⟩
 unfold rd
 rw [Int.toNat_natCast, List.getD_eq_getElem?_getD, List.getD_eq_getElem?_getD, List.getElem?_set]
 rw [if_neg (by omega)]
theorem Agr.set {P Pk : List Int} {n : Nat} (h : Agr P Pk (n : Int)) (hn : n < P.length) {v : Int} (hv : v = rd P (n : Int)) : Agr P (Pk.set n v) ((n : Int) + 1) := by
 refine ⟨by rw [List.length_set]; exact h.l, fun i h0 hi => ?_⟩
 by_cases c : i = (n : Int)
 · rw [c, rd_set_eq (by rw [h.l]; exact hn), hv]
 · rw [rd_set_ne h0 c]
   exact h.a i h0 (by omega)
theorem Agr.eq {P Pk : List Int} (h : Agr P Pk (P.length : Int)) : Pk = P := by
 apply List.ext_getElem h.l
 intro i h1 h2
 have := h.a (i : Int) (by omega) (by omega)
 rw [rd_at h1, rd_at h2] at this
 exact this
theorem px_agr {W H : Int} {P Pk : List Int} {n : Int} (hW : 0 ≤ W) (h : Agr P Pk n) (x y : Int) (hi : 0 ≤ x → 0 ≤ y → x < W → y < H → y * W + x < n) : px W H Pk x y = px W H P x y := by
 unfold px
 by_cases c : 0 ≤ x ∧ 0 ≤ y ∧ x < W ∧ y < H
 · rw [if_pos c, if_pos c]
   have := Int.mul_nonneg c.2.1 hW
   exact h.a _ (by omega) (hi c.1 c.2.1 c.2.2.1 c.2.2.2)
 · rw [if_neg c, if_neg c]
def behind (d : S127) : Prop := d.f1 = -1 ∨ (d.f1 = 0 ∧ d.f0 = -1)
theorem behind_news (t : Int) : ∀ d ∈ news t, behind d := by
 unfold news behind
 split <;> simp
theorem ctxN_agr {W H : Int} {P Pk : List Int} (hW : 0 ≤ W) (x y : Int) (hx : 0 ≤ x) (h : Agr P Pk (y * W + x)) : ∀ (l : List S127) (n : Int), (∀ d ∈ l, behind d) → ctxN W H Pk x y l n = ctxN W H P x y l n
 | [], n, _ => rfl
 | d :: l, n, hl => by
   simp only [ctxN]
   have e : px W H Pk (x + d.f0) (y + d.f1) = px W H P (x + d.f0) (y + d.f1) := by
    refine px_agr hW h _ _ (fun h1 h2 h3 h4 => ?_)
    rcases hl d List.mem_cons_self with hb | ⟨hb1, hb2⟩
    · rw [hb, Int.add_mul]
      omega
    · rw [hb1, hb2, Int.add_zero]
      omega
   rw [e]
   exact ctxN_agr hW x y hx h l _ (fun d hd => hl d (List.mem_cons_of_mem _ hd))
theorem ctx_agr (q : RQ) {P Pk : List Int} (hW : 0 ≤ q.W) (x y : Int) (hx : 0 ≤ x) (h : Agr P Pk (y * q.W + x)) : q.ctx Pk x y = q.ctx P x y := by
 unfold RQ.ctx ctxP
 rw [ctxN_agr hW x y hx h (news q.t) 0 (behind_news q.t)]
theorem rowP_spec (dx dy W H : Int) (P : List Int) (RW RH : Int) (RP : List Int) (y : Int) : ∀ (d i : Nat), rowP dx dy W H P RW RH RP y d i = true → ∀ m : Nat, i ≤ m → m < i + d → (flatP RW RH RP ((m : Int) - dx) (y - dy)).2 = true → px W H P m y = (flatP RW RH RP ((m : Int) - dx) (y - dy)).1
 | 0, i, _, m, h1, h2, _ => by omega
 | d + 1, i, h, m, h1, h2, hf => by
   unfold rowP at h
   by_cases c : (flatP RW RH RP ((i : Int) - dx) (y - dy)).2 = true
   · rw [if_pos c] at h
     by_cases c2 : px W H P i y = (flatP RW RH RP ((i : Int) - dx) (y - dy)).1
     · rw [if_pos c2] at h
       by_cases e : m = i
       · rw [e]; exact c2
       · exact rowP_spec dx dy W H P RW RH RP y d (i + 1) h m (by omega) (by omega) hf
     · rw [if_neg c2] at h
       exact absurd h (by decide)
   · rw [if_neg c] at h
     by_cases e : m = i
     · rw [e] at hf
       exact absurd hf c
     · exact rowP_spec dx dy W H P RW RH RP y d (i + 1) h m (by omega) (by omega) hf
theorem px_in {W H : Int} {P : List Int} {x y : Int} (h0 : 0 ≤ x) (h1 : 0 ≤ y) (h2 : x < W) (h3 : y < H) : px W H P x y = rd P (y * W + x) := by
 unfold px
 rw [if_pos ⟨h0, h1, h2, h3⟩]
theorem fol_row (q : RQ) {P : List Int} (b : Bm q.W q.H P) (y : Nat) (hy : (y : Int) < q.H) (typ : Bool) (ht : typ = true → rowP q.dx q.dy q.W q.H P q.RW q.RH q.RP y q.W.toNat 0 = true) (rest : List S72) (e : DS) :
 ∀ (d i : Nat) (s : DS) (Pk : List Int), i + d = q.W.toNat → Agr P Pk ((y : Int) * q.W + i) → Fol s (evX q P y typ d i ++ rest) e → ∃ s2 Pk2, Fol s2 rest e ∧ rowD q y (bit1 typ) d i s Pk = (s2, Pk2, 0) ∧ Agr P Pk2 ((y : Int) * q.W + q.W)
 | 0, i, s, Pk, h, ha, hf => by
   have hw := b.w
   refine ⟨s, Pk, hf, rfl, ?_⟩
   rw [show q.W = (i : Int) by omega] at ha ⊢
   exact ha
 | d + 1, i, s, Pk, h, ha, hf => by
   have hw := b.w
   have hat := b.at_ (x := (i : Int)) (y := (y : Int)) (by omega) (by omega) (by omega) hy
   obtain ⟨ix, hix⟩ : ∃ ix : Nat, (y : Int) * q.W + i = ix := ⟨((y : Int) * q.W + i).toNat, by omega⟩
   have hpx := px_in (W := q.W) (H := q.H) (P := P) (x := (i : Int)) (y := (y : Int)) (by omega) (by omega) (by omega) hy
   have hcx := ctx_agr q (P := P) (Pk := Pk) hw.1 (i : Int) (y : Int) (by omega) ha
   unfold rowD
   unfold evX at hf
   rw [hix] at ha hpx hat ⊢
   rw [Int.toNat_natCast]
   have hnx : ∀ v, v = rd P (ix : Int) → Agr P (Pk.set ix v) ((y : Int) * q.W + ((i + 1 : Nat) : Int)) := fun v hv => by
    have := ha.set (by omega) hv
    rw [show (y : Int) * q.W + ((i + 1 : Nat) : Int) = (ix : Int) + 1 by omega]
    exact this
   by_cases c : typ = true ∧ (q.flat i y).2 = true
   · rw [if_pos c] at hf
     have c1 : bit1 typ = 1 := by rw [c.1]; rfl
     rw [if_pos ⟨c1, c.2⟩]
     have hv := rowP_spec _ _ _ _ _ _ _ _ _ _ _ (ht c.1) i (Nat.zero_le _) (by omega) c.2
     exact fol_row q b y hy typ ht rest e d (i + 1) s _ (by omega) (hnx _ (by rw [← hpx]; exact hv.symm)) hf
   · rw [if_neg c] at hf
     have c2 : ¬ (bit1 typ = 1 ∧ (q.flat i y).2 = true) := fun hc => c ⟨by cases typ; exact absurd hc.1 (by decide); rfl, hc.2⟩
     rw [if_neg c2, hcx]
     rw [List.cons_append] at hf
     obtain ⟨s1, hg, hf⟩ := hf
     simp only at hg
     rw [hg]
     simp only [if_true]
     exact fol_row q b y hy typ ht rest e d (i + 1) s1 _ (by omega) (hnx _ hpx) hf
theorem fol_rows (q : RQ) {P : List Int} (b : Bm q.W q.H P) (rest : List S72) (e : DS) :
 ∀ (d j : Nat) (s : DS) (Pk : List Int), j + d = q.H.toNat → Agr P Pk ((j : Int) * q.W) → Fol s (evY q P d j ++ rest) e → ∃ s2 Pk2, Fol s2 rest e ∧ rowsD q d j s Pk = (s2, Pk2, 0) ∧ Agr P Pk2 (q.H * q.W)
 | 0, j, s, Pk, h, ha, hf => by
   have hh := b.h
   refine ⟨s, Pk, hf, rfl, ?_⟩
   rw [show q.H = (j : Int) by omega]
   exact ha
 | d + 1, j, s, Pk, h, ha, hf => by
   have hh := b.h
   unfold evY at hf
   rw [List.append_assoc, List.append_assoc] at hf
   have hstep : ∀ s1 (typ : Bool), (typ = true → rowP q.dx q.dy q.W q.H P q.RW q.RH q.RP j q.W.toNat 0 = true) → Fol s1 (evX q P j typ q.W.toNat 0 ++ (evY q P d (j + 1) ++ rest)) e → rowH q j s Pk = rowD q j (bit1 typ) q.W.toNat 0 s1 Pk → ∃ s2 Pk2, Fol s2 rest e ∧ rowsD q (d + 1) j s Pk = (s2, Pk2, 0) ∧ Agr P Pk2 (q.H * q.W) := by
    intro s1 typ ht hf1 hrow
    obtain ⟨s2, Pk2, hf2, hr2, ha2⟩ := fol_row q b j (by omega) typ ht _ e q.W.toNat 0 s1 Pk (by omega) (by rw [show (j : Int) * q.W + ((0 : Nat) : Int) = (j : Int) * q.W by omega]; exact ha) hf1
    unfold rowsD
    rw [hrow, hr2]
    simp only [if_true]
    exact fol_rows q b rest e d (j + 1) s2 Pk2 (by omega) (by rw [show ((j + 1 : Nat) : Int) = (j : Int) + 1 by omega, Int.add_mul, Int.one_mul]; exact ha2) hf2
   unfold evH at hf
   by_cases c : q.ty = true
   · rw [if_pos c, List.cons_append, List.nil_append] at hf
     obtain ⟨s1, hg, hf⟩ := hf
     simp only at hg
     refine hstep s1 (q.typ P j) (fun ht => ?_) hf ?_
     · unfold RQ.typ at ht
       rw [Bool.and_eq_true] at ht
       exact ht.2
     · unfold rowH
       rw [if_pos c, hg]
       simp only [if_true]
   · rw [if_neg c, List.nil_append] at hf
     have ct : q.typ P j = false := by
      unfold RQ.typ
      rw [show q.ty = false by simpa using c]
      rfl
     rw [ct] at hf
     refine hstep s false (fun ht => absurd ht (by decide)) hf ?_
     unfold rowH
     rw [if_neg c]
     rfl
/-- A region whose events a decoder tells is the region that is told. -/
theorem getD_fol (q : RQ) (kd : Int) {P : List Int} (b : Bm q.W q.H P) {s e : DS} {rest : List S72} (h0 : getErr q kd s.st.length = 0) (hf : Fol s (evR q P ++ rest) e) : ∃ s2, Fol s2 rest e ∧ getD q kd s = (s2, (q.W, q.H, P), 0) := by
 have hl : (List.replicate (q.W * q.H).toNat (0 : Int)).length = P.length := by
  rw [List.length_replicate]
  have := b.n
  omega
 obtain ⟨s2, Pk2, hf2, hr2, ha2⟩ := fol_rows q b rest e q.H.toNat 0 s (List.replicate (q.W * q.H).toNat 0) (by omega) ⟨hl, fun i h1 h2 => by rw [show (((0 : Nat) : Int)) * q.W = 0 from Int.zero_mul _] at h2; omega⟩ hf
 have hP : Pk2 = P := by
  have hn := b.n
  rw [Int.mul_comm] at hn
  rw [← hn] at ha2
  exact ha2.eq
 refine ⟨s2, hf2, ?_⟩
 unfold getD
 rw [if_pos h0, hr2]
 simp only [if_true]
 rw [hP]
/-- What is encoded comes back. -/
theorem dec_enc (q : RQ) (kd : Int) {P : List Int} (hbase : q.base = 0) (ho : okO q.t q.dx q.dy kd = true) (hP : Bytes P) (hR : Bytes q.RP) (hb : okB q.W q.H P = true) (hr : okB q.RW q.RH q.RP = true) (hby : Bytes (encB q kd P).1) : decB q kd (encB q kd P).1 = ((q.W, q.H, P), 0) := by
 have hoo := okO_iff.1 ho
 have b := (okB_bm hP hb).1
 have br := (okB_bm hR hr).1
 have hst := stN_ok q.t kd hoo.2.1
 have hfit : okF (List.replicate (ctxs q.t + 1).toNat (0 : Int)).length q.base q.t = true := by rw [hbase]; exact stN_fits q.t
 have hgood := evY_good b br hoo.1 hfit q.H.toNat 0
 have he : encB q kd P = ((putsI (newES kd (List.replicate (ctxs q.t + 1).toNat 0)) (evR q P)).end_, 0) := by
  unfold encB
  rw [if_pos ho, if_pos ⟨hb, hr⟩]
 rw [he] at hby ⊢
 simp only at hby ⊢
 have hpe : putsE (newES kd (List.replicate (ctxs q.t + 1).toNat 0)) (evR q P) = (putsI (newES kd (List.replicate (ctxs q.t + 1).toNat 0)) (evR q P), 0) := putsI_E _ _ hgood
 obtain ⟨d', hf, _⟩ := back_fol (kind := kd) (st := List.replicate (ctxs q.t + 1).toNat 0) (l := evR q P) hst (by rw [hpe]) (code := (putsI (newES kd (List.replicate (ctxs q.t + 1).toNat 0)) (evR q P)).end_) hby (by rw [hpe])
 have hge : getErr q kd (newDS kd (List.replicate (ctxs q.t + 1).toNat 0) (putsI (newES kd (List.replicate (ctxs q.t + 1).toNat 0)) (evR q P)).end_).st.length = 0 := by
  unfold getErr
  unfold okB at hb
  rw [Bool.and_eq_true, Bool.and_eq_true] at hb
  rw [if_pos ho, if_pos ⟨hb.1.1, hr⟩]
  exact if_pos hfit
 obtain ⟨s2, _, hg⟩ := getD_fol q kd b (rest := []) hge (by rw [List.append_nil]; exact hf)
 unfold decB
 rw [if_pos ho, hg]
end Go.Proofs.Ytkfejicdjpffcaa.Rbk
namespace Go.Proofs.Ytkfejicdjpffcaa.Cby
open Go Go.RowKit YtkfejicdjpffcaaW PrintWords PrintLast PrintMore U Aid HandAid Cod1 Cod2 Cod3 Ytkfejicdjpffcaa.Mod NewRef Enc Mods EncAt Put End Snc Dec Get DecNew Isk Pse Bkp Rpx Rva Rev Ren Rdv Rde Rbk
theorem norm_bytes : ∀ (d : Nat) (l h : Int), 0 ≤ l → l ≤ h → h ≤ 4294967295 → Bytes (normE d l h).1
 | 0, _, _, _, _, _ => fun x hx => absurd hx List.not_mem_nil
 | d + 1, l, h, h0, h1, h2 => by
   unfold normE
   split
   · intro x hx
     rcases List.mem_cons.1 hx with rfl | hx
     · omega
     · exact norm_bytes d _ _ (by omega) (by omega) (by omega) x hx
   · exact fun x hx => absurd hx List.not_mem_nil
theorem endOf_bytes (low high : Int) (h0 : 0 ≤ high) (h1 : high ≤ 4294967295) : Bytes (endOf low high) := by
 intro x hx
 have hx := List.mem_of_mem_take hx
 simp only [hiBytes, List.mem_cons, List.not_mem_nil, or_false] at hx
 rcases hx with rfl | rfl | rfl | rfl <;> omega
theorem endOf_len (low high : Int) : (endOf low high).length ≤ 4 := Nat.le_trans (List.length_take_le' _ _) (Nat.le_refl _)
theorem putsI_bytes : ∀ (l : List S72) (s : ES), s.ok → Bytes s.out → Bytes (putsI s l).out
 | [], s, _, h => h
 | x :: l, s, hok, h => by
   rw [putsI_cons]
   refine putsI_bytes l _ (ES.putI_ok hok _ _) ?_
   unfold ES.putI
   split
   · rename_i hg
     simp only [ES.good, Bool.and_eq_true, Bool.or_eq_true, decide_eq_true_eq] at hg
     have hc := ES.cut_ hok (i := x.f0.toNat) (by omega) (bit := x.f1)
     intro y hy
     rcases List.mem_append.1 hy with hy | hy
     · exact h y hy
     · exact norm_bytes 4 _ _ hc.1 hc.2.1 hc.2.2 y hy
   · exact h
theorem codeI_bytes (s : ES) (l : List S72) (hok : s.ok) (hb : Bytes s.out) : Bytes (putsI s l).end_ ∧ (putsI s l).end_.length ≤ s.out.length + 4 * l.length + 4 := by
 have h := putsI_ok l s hok
 have e : (putsI s l).end_ = (putsI s l).out ++ endOf (putsI s l).low (putsI s l).high := rfl
 rw [e]
 constructor
 · intro y hy
   rcases List.mem_append.1 hy with hy | hy
   · exact putsI_bytes l s hok hb y hy
   · exact endOf_bytes _ _ (by have := h.l; have := h.lh; omega) h.h y hy
 · rw [List.length_append]
   have := putsI_out l s
   have := endOf_len (putsI s l).low (putsI s l).high
   omega
/-- A region's code is of bytes, and not long. -/
theorem encB_bytes (q : RQ) (kd : Int) {P : List Int} (hP : Bytes P) : Bytes (encB q kd P).1 ∧ (encB q kd P).1.length ≤ 200000 := by
 unfold encB
 by_cases ho : okO q.t q.dx q.dy kd = true
 · rw [if_pos ho]
   by_cases hb : okB q.W q.H P = true ∧ okB q.RW q.RH q.RP = true
   · rw [if_pos hb]
     have b := (okB_bm hP hb.1).1
     have h := codeI_bytes (newES kd (List.replicate (ctxs q.t + 1).toNat 0)) (evR q P) (newES_ok (stN_ok q.t kd (okO_iff.1 ho).2.1)) (fun x hx => absurd hx List.not_mem_nil)
     have hl := evR_len q P b.w.2 b.h.2
     refine ⟨h.1, ?_⟩
     have h2 := h.2
     have h3 : (newES kd (List.replicate (ctxs q.t + 1).toNat 0)).out.length = 0 := rfl
     show (putsI (newES kd (List.replicate (ctxs q.t + 1).toNat 0)) (evR q P)).end_.length ≤ 200000
     omega
   · rw [if_neg hb]
     exact ⟨fun x hx => absurd hx List.not_mem_nil, Nat.zero_le _⟩
 · rw [if_neg ho]
   exact ⟨fun x hx => absurd hx List.not_mem_nil, Nat.zero_le _⟩
end Go.Proofs.Ytkfejicdjpffcaa.Cby
namespace Go.Proofs.Ytkfejicdjpffcaa.Raw
open Go Go.RowKit YtkfejicdjpffcaaW PrintWords PrintLast PrintMore U Aid HandAid Cod1 Cod2 Cod3 Ytkfejicdjpffcaa.Mod NewRef Enc Mods EncAt Put End Snc Dec Get DecNew Isk Pse Bkp Rpx Rva Rev Ren Rdv Rmk Rde Rbk Cby
def aq : RQ := ⟨0, 0, 0, true, 2, 2, 0, 0, [], 0⟩
def aP : List Int := List.replicate 4 0
theorem aP_bytes : Bytes aP := fun x hx => by rw [List.eq_of_mem_replicate hx]; decide
theorem nil_bytes : Bytes [] := fun x hx => absurd hx List.not_mem_nil
set_option maxHeartbeats 2000000 in
set_option maxRecDepth 100000 in
theorem awake_calls (w : World) : Calls Try.prog 15 #[] w fun e w' => e = .returned (.bool true) ∧ Below w.heap.size w w' := by
 have hu3 := Try.underlying23
 have hu4 := Try.underlying31
 have hok : okO aq.t aq.dx aq.dy 0 = true := by decide
 have hokb : okB aq.W aq.H aP = true := by decide
 have hokr : okB aq.RW aq.RH aq.RP = true := by decide
 obtain ⟨⟨code, er⟩, he⟩ : ∃ r, encB aq 0 aP = r := ⟨_, rfl⟩
 have hby := encB_bytes aq 0 aP_bytes
 have hbk := dec_enc aq 0 rfl hok aP_bytes nil_bytes hokb hokr hby.1
 have her : (encB aq 0 aP).2 = 0 := by unfold encB; rw [if_pos hok, if_pos ⟨hokb, hokr⟩]
 rw [he] at hby hbk her
 simp only at hby hbk her
 subst her
 have HENC := A' (show ∀ V (A : Option Addr), Kd.C (Kd.int .u8) V A 4 aP → Calls Try.prog 16 #[.agg #[.int .i64 0, .int .i64 0, .int .i64 0, .bool true, .int .i64 0], .agg #[.int .i64 2, .int .i64 2, .slice A 4 4], .agg #[.int .i64 0, .int .i64 0, .slice none 0 0]] V (EBytes V (code, 0)) from fun V A hC => rencode_calls V 0 0 0 true 0 2 2 A 4 aP 0 0 none 0 [] (by decide) (by decide) hC (Nat.le_refl _) (Kd.C_nil _ _) (Nat.le_refl _) aP_bytes nil_bytes _ he)
 have HDEC := A' (show ∀ V (A : Option Addr) (c : Nat), Kd.C (Kd.int .u8) V A code.length code → code.length ≤ c → Calls Try.prog 19 #[.agg #[.int .i64 0, .int .i64 0, .int .i64 0, .bool true, .int .i64 0], .slice A code.length c, .int .i64 2, .int .i64 2, .agg #[.int .i64 0, .int .i64 0, .slice none 0 0]] V (DPost V ((2, 2, aP), 0)) from fun V A c hC hc => rdecode_calls V 0 0 0 true 0 A c code 2 2 0 0 none 0 [] (by decide) (by decide) hC hc hby.1 (by have := hby.2; omega) (Kd.C_nil _ _) (Nat.le_refl _) nil_bytes _ hbk)
 clear hok hokb hokr he hby hbk
 go_enter Try.func15, Try.ntmps15
 go_wp2_with ((with_reducible refine gate_dst (N := 9) rfl ?_); refine Kd.event_run (v := .slice (some ⟨w.heap.size, 0, none⟩) 4 4) (w1 := w.alloc (.cells (zcells 4) 5)) rfl (make_step w (.const (.int .i64 4)) (.const (.int .i64 4)) rfl (4 : Int) (4 : Nat) rfl rfl rfl (by decide)) ?_; (obtain ⟨gp, hgp⟩ : ∃ x, w.heap.size = x := ⟨_, rfl⟩); (obtain ⟨W1, hW1⟩ : ∃ x, w.alloc (.cells (zcells 4) 5) = x := ⟨_, rfl⟩); have HROW := A' (show Kd.R (Kd.int .u8) 5 W1 w.heap.size (fun k => k = gp) (.slice (some ⟨gp, 0, none⟩) 4 4) aP by rw [← hW1, ← hgp]; exact made_row w w.heap.size 4 (Nat.le_refl _) (by decide)); have HB1 := A' (show Below w.heap.size w W1 from hW1 ▸ below_alloc (Below.refl _ _) _); rw [hgp, hW1]; clear hgp hW1)
 obtain ⟨b2, hb2⟩ : ∃ x, W1.heap.size + 1 = x := ⟨_, rfl⟩
 obtain ⟨b1, hb1⟩ : ∃ x, W1.heap.size = x := ⟨_, rfl⟩
 obtain ⟨W3, hW3⟩ : ∃ x, ((W1.alloc (.cells #[.int .i64 2, .int .i64 2, .slice (some ⟨gp, 0, none⟩) 4 4] 31)).alloc (.cells #[.int .i64 0, .int .i64 0, .int .i64 0, .bool true, .int .i64 0] 23)) = x := ⟨_, rfl⟩
 have HB3 := A' (show Below w.heap.size w W3 from hW3 ▸ below_alloc (below_alloc HB1.out _) _)
 have HZ2 := A' (show W3.heap[b2]? = some (.cells #[.int .i64 0, .int .i64 0, .int .i64 0, .bool true, .int .i64 0] 23 (0, 0)) by
  have h := heap_new (W1.alloc (.cells #[.int .i64 2, .int .i64 2, .slice (some ⟨gp, 0, none⟩) 4 4] 31)) (.cells #[.int .i64 0, .int .i64 0, .int .i64 0, .bool true, .int .i64 0] 23)
  rw [World.size_alloc, hb2, hW3] at h
  exact h)
 have HZ1 := A' (show W3.heap[b1]? = some (.cells #[.int .i64 2, .int .i64 2, .slice (some ⟨gp, 0, none⟩) 4 4] 31 (0, 0)) by
  have h := heap_new W1 (.cells #[.int .i64 2, .int .i64 2, .slice (some ⟨gp, 0, none⟩) 4 4] 31)
  rw [hb1] at h
  rw [← hW3]
  exact blk_alloc h _)
 have HC := A' (show Kd.C (Kd.int .u8) W3 (some ⟨gp, 0, none⟩) 4 aP from Kd.C_below (Kd.R_reads' HROW.out).2.2 (hW3 ▸ below_alloc (below_alloc (Below.refl _ _) _) _))
 rw [hb2, hb1, hW3]
 clear hb2 hb1 hW3 HROW
 refine (HENC.out _ _ HC.out).mono ?_
 rintro e W4 ⟨A4, c4, rfl, hR4, hb⟩
 have HB4 := A' hb
 have hc4 := (Kd.R_reads' hR4).2.1
 have HC4 := A' (Kd.R_reads' hR4).2.2
 clear hR4 hb
 have q0 : W4.cell? ⟨b2, 0, none⟩ = some (.int .i64 0) := (blk_cell (blk_below HZ2.out HB4.out) 0).trans rfl
 have q1 : W4.cell? ⟨b2, 1, none⟩ = some (.int .i64 0) := (blk_cell (blk_below HZ2.out HB4.out) 1).trans rfl
 have q2 : W4.cell? ⟨b2, 2, none⟩ = some (.int .i64 0) := (blk_cell (blk_below HZ2.out HB4.out) 2).trans rfl
 have q3 : W4.cell? ⟨b2, 3, none⟩ = some (.bool true) := (blk_cell (blk_below HZ2.out HB4.out) 3).trans rfl
 have q4 : W4.cell? ⟨b2, 4, none⟩ = some (.int .i64 0) := (blk_cell (blk_below HZ2.out HB4.out) 4).trans rfl
 simp only at hc4 HC4 ⊢
 go_wp2_with (fail)
 refine (HDEC.out _ _ _ HC4.out hc4).mono ?_
 rintro e W5 ⟨A5, c5, rfl, hR5, hb⟩
 have HB5 := A' (below_then HB4.out HB4.out.size hb)
 have hc5 := (Kd.R_reads' hR5).2.1
 have HC5 := A' (Kd.R_reads' hR5).2.2
 clear hR5 hb q0 q1 q2 q3 q4 HC4 hc4
 have e5 : ((aP.length : Nat) : Int) = 4 := rfl
 obtain ⟨b5, hb5⟩ : ∃ x, W5.heap.size = x := ⟨_, rfl⟩
 obtain ⟨W6, hW6⟩ : ∃ x, W5.alloc (.cells #[.int .i64 2, .int .i64 2, .slice A5 aP.length c5] 31) = x := ⟨_, rfl⟩
 have HB6 := A' (show Below W3.heap.size W3 W6 from hW6 ▸ below_alloc HB5.out _)
 have HZ5 := A' (show W6.heap[b5]? = some (.cells #[.int .i64 2, .int .i64 2, .slice A5 aP.length c5] 31 (0, 0)) from hW6 ▸ hb5 ▸ heap_new W5 _)
 have HC6 := A' (show Kd.C (Kd.int .u8) W6 A5 aP.length aP from Kd.C_below HC5.out (hW6 ▸ below_alloc (Below.refl _ _) _))
 simp only at hc5 ⊢
 generalize hap : aP.length = nP at *
 go_wp2_with (fail)
 clear hW6 hb5
 refine (refine_Size.calls 1 129 0 _ (by rw [psize_eq]; rfl)).mono ?_
 rintro e W7 ⟨rfl, hb⟩
 have HB7 := A' (below_then HB6.out HB6.out.size hb)
 have HZ5 := A' (blk_below HZ5.out hb)
 have HC7 := A' (Kd.C_below HC6.out hb)
 clear hb
 have p0 : W7.cell? ⟨b5, 0, none⟩ = some (.int .i64 2) := (blk_cell HZ5.out 0).trans rfl
 have p1 : W7.cell? ⟨b5, 1, none⟩ = some (.int .i64 2) := (blk_cell HZ5.out 1).trans rfl
 have p2 : W7.cell? ⟨b5, 2, none⟩ = some (.slice A5 nP c5) := (blk_cell HZ5.out 2).trans rfl
 have r0 : W7.cell? ⟨b1, 0, none⟩ = some (.int .i64 2) := (blk_cell (blk_below HZ1.out HB7.out) 0).trans rfl
 have r1 : W7.cell? ⟨b1, 1, none⟩ = some (.int .i64 2) := (blk_cell (blk_below HZ1.out HB7.out) 1).trans rfl
 have r2 : W7.cell? ⟨b1, 2, none⟩ = some (.slice (some ⟨gp, 0, none⟩) 4 4) := (blk_cell (blk_below HZ1.out HB7.out) 2).trans rfl
 go_wp2_with (fail)
 obtain ⟨K1, hK1⟩ := Ev.rounds (same_ev 2 2 aP (by decide))
 subst hap
 refine (incunableref06_SameBitmap.calls K1 2 2 A5 c5 aP 2 2 (some ⟨gp, 0, none⟩) 4 aP true _ HC7.out hc5 (Kd.C_below HC.out HB7.out) (Nat.le_refl _) hK1).mono ?_
 rintro e W8 ⟨rfl, hb⟩
 have HB8 := A' (below_then (below_then HB3.out HB3.out.size HB7.out) (Nat.le_trans HB3.out.size HB7.out.size) hb)
 clear hb p0 p1 p2 r0 r1 r2
 go_wp2_with (fail)
 go_ret
 exact ⟨rfl, HB8.out⟩
end Go.Proofs.Ytkfejicdjpffcaa.Raw
namespace Go.Proofs.Ytkfejicdjpffcaa.Len
open Go Go.RowKit YtkfejicdjpffcaaW PrintWords PrintLast PrintMore U Aid HandAid Cod1 Cod2 Cod3 Ytkfejicdjpffcaa.Mod NewRef Enc Mods EncAt Put End Snc Dec Get DecNew RefAt RefPut RefEnd RDec RDecNew Isk Pse Pwk Bkp Rpx Rva Rfl Rcx Rty Rev Rpt Rrp Ren Rdv Rrw Rmk Rgt Rrg Rde Rbk Cby Raw
theorem same_bytes_loop (l : List Int) (hn : l.length ≤ 9223372036854775807) : ∀ (d i : Nat), i + d = l.length → Ev (fun k => incunableref02_SameBytes.l0 k l l (l.length : Int) (i : Int)) true
 | 0, i, h => by
   refine ev_succ ?_
   simp only [incunableref02_SameBytes.l0]
   exact ev_neg (by omega) (Ev.now _)
 | d + 1, i, h => by
   refine ev_succ ?_
   simp only [incunableref02_SameBytes.l0]
   refine ev_pos (by omega) (ev_pos (by omega) (ev_pos (by omega) ?_))
   rw [wrap_id (n := (i : Int) + 1) (by omega) (by omega)]
   have := same_bytes_loop l hn d (i + 1) (by omega)
   rw [show ((i + 1 : Nat) : Int) = (i : Int) + 1 by omega] at this
   exact ev_pos (by omega) (ev_pos trivial this)
theorem same_bytes_ev (l : List Int) (hn : l.length ≤ 9223372036854775807) : Ev (fun k => incunableref02_SameBytes.f k l l) true := by
 unfold incunableref02_SameBytes.f
 exact ev_pos rfl (same_bytes_loop l hn l.length 0 (by omega))
theorem SB (A1 : Option Addr) (c1 : Nat) (A2 : Option Addr) (c2 : Nat) (l : List Int) (W : World) (h1 : Kd.C (Kd.int .u8) W A1 l.length l) (hc1 : l.length ≤ c1) (h2 : Kd.C (Kd.int .u8) W A2 l.length l) (hc2 : l.length ≤ c2) :
 Calls Try.prog 18 #[.slice A1 l.length c1, .slice A2 l.length c2] W fun e W' => e = .returned (.bool true) ∧ Below W.heap.size W W' := by
 obtain ⟨K, hK⟩ := Ev.rounds (same_bytes_ev l (Kd.C_max h1))
 exact (incunableref02_SameBytes.calls K A1 c1 l A2 c2 l true W h1 hc1 h2 hc2 hK).mono fun e W' h => ⟨h.1, h.2.below⟩
end Go.Proofs.Ytkfejicdjpffcaa.Len
namespace Go.Proofs.Ytkfejicdjpffcaa.Rmi
open Go Go.RowKit YtkfejicdjpffcaaW PrintWords PrintLast PrintMore Aid HandAid
/-- A made slice of numbers. -/
def zcellsI (n : Nat) : Array Value := madeCells (Value.int .i64 0).cells n
theorem infoI : (Try.prog.info? 3).map (fun i => (i.zero, i.size, i.bytes)) = some (some (.int .i64 0), 1, 8) := by kernel_rfl
theorem make_stepI {oi : Oper} {a : Act} (W : World) (x y : Operand) (ho : oi.op = .makeSlice 43 x y) (m : Int) (n : Nat) (hx : a.eval x = .int .i64 m) (hy : a.eval y = .int .i64 m) (hm : m = n) (hn : n ≤ 1000000) :
 (execOp a.eval oi).run Try.prog W = .ok (.value (.slice (some ⟨W.heap.size, 0, none⟩) n n)) (W.alloc (.cells (zcellsI n) 3)) := by
 subst hm
 obtain ⟨i, hi, hz⟩ := Option.map_eq_some_iff.1 infoI
 simp only [Prod.mk.injEq] at hz
 obtain ⟨hz0, hz1, hz2⟩ := hz
 have hr := run_make (P := Try.prog) W 43 3 i (.int .i64 0) Try.underlying43 hi hz0 .i64 .i64 (n : Int) (n : Int) (by omega) (by omega) (by rw [hz2]; omega) (by omega)
 rw [Int.toNat_natCast, hz1, Nat.mul_one] at hr
 simp [execOp, ho, hx, hy, hr, zcellsI]
theorem made_rowI (W : World) (B n : Nat) (hB : B ≤ W.heap.size) (hn : n ≤ 1000000) : Kd.R (Kd.int .i64) 3 (W.alloc (.cells (zcellsI n) 3)) B (fun k => k = W.heap.size) (.slice (some ⟨W.heap.size, 0, none⟩) n n) (List.replicate n 0) := by
 refine ⟨fun k hk => ?_, (zcellsI n).toList, ?_, ?_⟩
 · simpa [Value.ownBlock] using hk.symm
 · have h2 := World.ownsRow_lit (base := B) (e := 3) (size := 1) W (zcellsI n) n hB (by simp only [maxLen]; omega) (by simp [zcellsI, size_madeCells])
   rw [List.length_replicate]
   exact h2
 · have h3 := Kd.reps_made (R := fun (p : Int) (c : List Value) => c = [.int .i64 p]) (z := .int .i64 0) (size := 1) (z0 := (0 : Int)) rfl (by decide) rfl n
   rw [Nat.mul_one] at h3
   exact h3
end Go.Proofs.Ytkfejicdjpffcaa.Rmi
namespace Go.Proofs.Ytkfejicdjpffcaa.Two
open Go Go.RowKit YtkfejicdjpffcaaW PrintWords PrintLast PrintMore Aid HandAid Cod1 Cod2 Cod3 Ytkfejicdjpffcaa.Mod Enc Mods EncAt Put End Snc RefAt RefPut RefEnd
/-- The program's encoder (at g, in the state s) and the reference's (at h, in the state t) side by side; F: blocks that are neither's. -/
structure Two (w : World) (g h : Nat) (s t : ES) (F : Nat → Prop) (W : World) : Prop where
 ex : ∃ S1 S2 : Nat → Prop, EncAt W S1 g s ∧ RefAt W S2 h t ∧ (∀ k, S1 k → w.heap.size ≤ k ∧ k < W.heap.size) ∧ (∀ k, S2 k → w.heap.size ≤ k ∧ k < W.heap.size) ∧ (∀ k, S1 k → ¬ S2 k) ∧ (∀ k, F k → ¬ S1 k ∧ ¬ S2 k ∧ k < W.heap.size)
 b : Below w.heap.size w W
 sok : s.ok
 tok : t.ok
section
variable {w W W' : World} {g h : Nat} {s t : ES} {F F' : Nat → Prop}
theorem Two.below (H : Two w g h s t F W) (hb : Below W.heap.size W W') : Two w g h s t F W' := by
 obtain ⟨⟨S1, S2, h1, h2, h3, h4, h5, h6⟩, b, sok, tok⟩ := H
 exact ⟨⟨S1, S2, h1.below hb, h2.below hb, fun k hk => ⟨(h3 k hk).1, Nat.lt_of_lt_of_le (h3 k hk).2 hb.size⟩, fun k hk => ⟨(h4 k hk).1, Nat.lt_of_lt_of_le (h4 k hk).2 hb.size⟩, h5, fun k hk => ⟨(h6 k hk).1, (h6 k hk).2.1, Nat.lt_of_lt_of_le (h6 k hk).2.2 hb.size⟩⟩, below_then b b.size hb, sok, tok⟩
theorem Two.less (H : Two w g h s t F W) (hF : ∀ k, F' k → F k) : Two w g h s t F' W := by
 obtain ⟨⟨S1, S2, h1, h2, h3, h4, h5, h6⟩, b, sok, tok⟩ := H
 exact ⟨⟨S1, S2, h1, h2, h3, h4, h5, fun k hk => h6 k (hF k hk)⟩, b, sok, tok⟩
/-- A new block is neither's. -/
theorem Two.box (H : Two w g h s t F W) (o : Obj) : Two w g h s t (fun k => F k ∨ k = W.heap.size) (W.alloc o) := by
 obtain ⟨⟨S1, S2, h1, h2, h3, h4, h5, h6⟩, b, sok, tok⟩ := H
 have hb : Below W.heap.size W (W.alloc o) := below_alloc (Below.refl _ _) o
 refine ⟨⟨S1, S2, h1.below hb, h2.below hb, fun k hk => ⟨(h3 k hk).1, Nat.lt_of_lt_of_le (h3 k hk).2 hb.size⟩, fun k hk => ⟨(h4 k hk).1, Nat.lt_of_lt_of_le (h4 k hk).2 hb.size⟩, h5, fun k hk => ?_⟩, below_then b b.size hb, sok, tok⟩
 rcases hk with hk | rfl
 · exact ⟨(h6 k hk).1, (h6 k hk).2.1, Nat.lt_of_lt_of_le (h6 k hk).2.2 hb.size⟩
 · exact ⟨fun hk => by have := (h3 _ hk).2; omega, fun hk => by have := (h4 _ hk).2; omega, by simp⟩
theorem Two.put (H : Two w g h s t F W) (i bit : Int) (hlen : s.out.length ≤ 1099511627776) :
 Calls Try.prog 28 #[.pointer (some ⟨g, 0, none⟩), .int .i64 i, .int .i64 bit] W fun e W' => e = .returned (.int .i64 (s.err i bit)) ∧ Two w g h (s.putI i bit) t F W' ∧ ∀ k, F k → W'.heap[k]? = W.heap[k]? := by
 obtain ⟨⟨S1, S2, h1, h2, h3, h4, h5, h6⟩, b, sok, tok⟩ := H
 refine (put_calls W S1 g s i bit h1 sok hlen).mono ?_
 rintro e W' ⟨he, hE, hM⟩
 refine ⟨he, ⟨⟨_, S2, hE, h2.kept hM (fun k hk hk1 => h5 k hk1 hk), fun k hk => ⟨?_, hk.2⟩, fun k hk => ⟨(h4 k hk).1, Nat.lt_of_lt_of_le (h4 k hk).2 hM.size⟩, fun k hk hk2 => ?_, fun k hk => ⟨fun hk1 => ?_, (h6 k hk).2.1, Nat.lt_of_lt_of_le (h6 k hk).2.2 hM.size⟩⟩, below_mods b hM (fun k hk => (h3 k hk).1) b.size, ES.putI_ok sok _ _, tok⟩, fun k hk => hM.block k (h6 k hk).2.2 (h6 k hk).1⟩
 · rcases hk.1 with hk | hk
   · exact (h3 k hk).1
   · exact Nat.le_trans b.size hk
 · rcases hk.1 with hk | hk
   · exact h5 k hk hk2
   · have := (h4 k hk2).2
     omega
 · rcases hk1.1 with hk1 | hk1
   · exact (h6 k hk).1 hk1
   · have := (h6 k hk).2.2
     omega
theorem Two.rput (H : Two w g h s t F W) (i bit : Int) (hlen : t.out.length ≤ 1099511627776) :
 Calls Try.prog 26 #[.pointer (some ⟨h, 0, none⟩), .int .i64 i, .int .i64 bit] W fun e W' => e = .returned (.int .i64 (t.err i bit)) ∧ Two w g h s (t.putI i bit) F W' ∧ ∀ k, F k → W'.heap[k]? = W.heap[k]? := by
 obtain ⟨⟨S1, S2, h1, h2, h3, h4, h5, h6⟩, b, sok, tok⟩ := H
 refine (ref_put_calls W S2 h t i bit h2 tok hlen).mono ?_
 rintro e W' ⟨he, hE, hM⟩
 refine ⟨he, ⟨⟨S1, _, h1.kept hM (fun k hk hk1 => h5 k hk hk1), hE, fun k hk => ⟨(h3 k hk).1, Nat.lt_of_lt_of_le (h3 k hk).2 hM.size⟩, fun k hk => ⟨?_, hk.2⟩, fun k hk hk2 => ?_, fun k hk => ⟨(h6 k hk).1, fun hk1 => ?_, Nat.lt_of_lt_of_le (h6 k hk).2.2 hM.size⟩⟩, below_mods b hM (fun k hk => (h4 k hk).1) b.size, sok, ES.putI_ok tok _ _⟩, fun k hk => hM.block k (h6 k hk).2.2 (h6 k hk).2.1⟩
 · rcases hk.1 with hk | hk
   · exact (h4 k hk).1
   · exact Nat.le_trans b.size hk
 · rcases hk2.1 with hk2 | hk2
   · exact h5 k hk hk2
   · have := (h3 k hk).2
     omega
 · rcases hk1.1 with hk1 | hk1
   · exact (h6 k hk).2.1 hk1
   · have := (h6 k hk).2.2
     omega
theorem Two.end_ (H : Two w g h s t F W) (hlen : s.out.length ≤ 1099511627880) : Calls Try.prog 29 #[.pointer (some ⟨g, 0, none⟩)] W (EndPost W s.end_) := by
 obtain ⟨⟨S1, S2, h1, h2, h3, h4, h5, h6⟩, b, sok, tok⟩ := H
 exact end_calls W S1 g s h1 sok hlen
theorem Two.rend (H : Two w g h s t F W) (hlen : t.out.length ≤ 1099511627880) : Calls Try.prog 30 #[.pointer (some ⟨h, 0, none⟩)] W (EndPost W t.end_) := by
 obtain ⟨⟨S1, S2, h1, h2, h3, h4, h5, h6⟩, b, sok, tok⟩ := H
 exact ref_end_calls W S2 h t h2 tok hlen
theorem Two.model (H : Two w g h s t F W) : Calls Try.prog 32 #[.pointer (some ⟨g, 0, none⟩)] W (ModelPost W s.kind s.st) := by
 obtain ⟨⟨S1, S2, h1, h2, h3, h4, h5, h6⟩, b, sok, tok⟩ := H
 exact model_calls W S1 g s h1 sok
theorem Two.rmodel (H : Two w g h s t F W) : Calls Try.prog 33 #[.pointer (some ⟨h, 0, none⟩)] W (ModelPost W t.kind t.st) := by
 obtain ⟨⟨S1, S2, h1, h2, h3, h4, h5, h6⟩, b, sok, tok⟩ := H
 exact ref_model_calls W S2 h t h2 tok
theorem Two.new {W1 W2 : World} (hb : Below w.heap.size w W) (h1 : EncAt W1 (Since W.heap.size W1) g s) (hb1 : Below W.heap.size W W1) (h2 : RefAt W2 (Since W1.heap.size W2) h t) (hb2 : Below W1.heap.size W1 W2) (sok : s.ok) (tok : t.ok) : Two w g h s t (fun _ => False) W2 :=
 ⟨⟨_, _, h1.below hb2, h2, fun k hk => ⟨Nat.le_trans hb.size hk.1, Nat.lt_of_lt_of_le hk.2 hb2.size⟩, fun k hk => ⟨Nat.le_trans (Nat.le_trans hb.size hb1.size) hk.1, hk.2⟩, fun k hk hk2 => by have := hk.2; have := hk2.1; omega, fun k hk => hk.elim⟩, below_then (below_then hb hb.size hb1) (Nat.le_trans hb.size hb1.size) hb2, sok, tok⟩
end
end Go.Proofs.Ytkfejicdjpffcaa.Two
namespace Go.Proofs.Ytkfejicdjpffcaa.Lpb
open Go Go.RowKit YtkfejicdjpffcaaW PrintWords PrintLast PrintMore U Aid HandAid Cod1 Cod2 Cod3 Ytkfejicdjpffcaa.Mod NewRef Enc Mods EncAt Put End Snc Dec Get DecNew RefAt RefPut RefEnd Isk Pse Pwk Bkp Rpx Rva Rev Rpt Rrp Ren Rdv Rmk Rgt Rde Rbk Cby Two
section
variable {w W W' : World} {g h : Nat} {s t : ES} {F F' : Nat → Prop}
/-- The program's encoder codes a region. -/
theorem pput (H : Two w g h s t F W) (base ot dx dy : Int) (ty : Bool) (kd BW BH : Int) (AB : Option Addr) (cB : Nat) (P : List Int) (RW RH : Int) (AR : Option Addr) (cR : Nat) (RP : List Int) (hlen : s.out.length ≤ 1000000000) (hdx : -9223372036854775808 ≤ dx ∧ dx ≤ 9223372036854775807) (hdy : -9223372036854775808 ≤ dy ∧ dy ≤ 9223372036854775807) (hB : ∀ V, Below w.heap.size w V → Kd.C (Kd.int .u8) V AB P.length P) (hcB : P.length ≤ cB) (hA : ∀ V, Below w.heap.size w V → Kd.C (Kd.int .u8) V AR RP.length RP) (hcR : RP.length ≤ cR) (hbP : Bytes P) (hbR : Bytes RP) (q : RQ) (hq : q = ⟨ot, dx, dy, ty, BW, BH, RW, RH, RP, base⟩) (R : ES × Int) (hR : putR q kd P s = R) :
 Calls Try.prog 25 #[.pointer (some ⟨g, 0, none⟩), .int .i64 base, .agg #[.int .i64 ot, .int .i64 dx, .int .i64 dy, .bool ty, .int .i64 kd], .agg #[.int .i64 BW, .int .i64 BH, .slice AB P.length cB], .agg #[.int .i64 RW, .int .i64 RH, .slice AR RP.length cR]] W fun e W' => e = .returned (.int .i64 R.2) ∧ Two w g h R.1 t F W' ∧ ∀ k, F k → W'.heap[k]? = W.heap[k]? := by
 obtain ⟨⟨S1, S2, h1, h2, h3, h4, h5, h6⟩, b, sok, tok⟩ := H
 have hold : ∀ V, Mods W V S1 → Below w.heap.size w V := fun V hV => below_mods b hV (fun k hk => (h3 k hk).1) b.size
 refine (rput_calls W S1 g s base ot dx dy ty kd BW BH AB cB P RW RH AR cR RP h1 (fun k hk => (h3 k hk).2) sok hlen hdx hdy (fun V hV => hB V (hold V hV)) hcB (fun V hV => hA V (hold V hV)) hcR hbP hbR q hq R hR).mono ?_
 rintro e W' ⟨he, hE, hM, hok'⟩
 refine ⟨he, ⟨⟨_, S2, hE, h2.kept hM (fun k hk hk1 => h5 k hk1 hk), fun k hk => ⟨?_, hk.2⟩, fun k hk => ⟨(h4 k hk).1, Nat.lt_of_lt_of_le (h4 k hk).2 hM.size⟩, fun k hk hk2 => ?_, fun k hk => ⟨fun hk1 => ?_, (h6 k hk).2.1, Nat.lt_of_lt_of_le (h6 k hk).2.2 hM.size⟩⟩, below_mods b hM (fun k hk => (h3 k hk).1) b.size, hok', tok⟩, fun k hk => hM.block k (h6 k hk).2.2 (h6 k hk).1⟩
 · rcases hk.1 with hk | hk
   · exact (h3 k hk).1
   · exact Nat.le_trans b.size hk
 · rcases hk.1 with hk | hk
   · exact h5 k hk hk2
   · have := (h4 k hk2).2
     omega
 · rcases hk1.1 with hk1 | hk1
   · exact (h6 k hk).1 hk1
   · have := (h6 k hk).2.2
     omega
/-- The reference's encoder codes a region. -/
theorem refput (H : Two w g h s t F W) (base ot dx dy : Int) (ty : Bool) (kd BW BH : Int) (AB : Option Addr) (cB : Nat) (P : List Int) (RW RH : Int) (AR : Option Addr) (cR : Nat) (RP : List Int) (hlen : t.out.length ≤ 1000000000) (hB : ∀ V, Below w.heap.size w V → Kd.C (Kd.int .u8) V AB P.length P) (hcB : P.length ≤ cB) (hA : ∀ V, Below w.heap.size w V → Kd.C (Kd.int .u8) V AR RP.length RP) (hcR : RP.length ≤ cR) (hbP : Bytes P) (hbR : Bytes RP) (q : RQ) (hq : q = ⟨ot, dx, dy, ty, BW, BH, RW, RH, RP, base⟩) (R : ES × Int) (hR : putR q kd P t = R) :
 Calls Try.prog 27 #[.pointer (some ⟨h, 0, none⟩), .int .i64 base, .agg #[.int .i64 ot, .int .i64 dx, .int .i64 dy, .bool ty, .int .i64 kd], .agg #[.int .i64 BW, .int .i64 BH, .slice AB P.length cB], .agg #[.int .i64 RW, .int .i64 RH, .slice AR RP.length cR]] W fun e W' => e = .returned (.int .i64 R.2) ∧ Two w g h s R.1 F W' ∧ ∀ k, F k → W'.heap[k]? = W.heap[k]? := by
 obtain ⟨⟨S1, S2, h1, h2, h3, h4, h5, h6⟩, b, sok, tok⟩ := H
 have hold : ∀ V, Mods W V S2 → Below w.heap.size w V := fun V hV => below_mods b hV (fun k hk => (h4 k hk).1) b.size
 refine (refput_calls W S2 h t base ot dx dy ty kd BW BH AB cB P RW RH AR cR RP h2 (fun k hk => (h4 k hk).2) tok hlen (fun V hV => hB V (hold V hV)) hcB (fun V hV => hA V (hold V hV)) hcR hbP hbR q hq R hR).mono ?_
 rintro e W' ⟨he, hE, hM, hok'⟩
 refine ⟨he, ⟨⟨S1, _, h1.kept hM (fun k hk hk1 => h5 k hk hk1), hE, fun k hk => ⟨(h3 k hk).1, Nat.lt_of_lt_of_le (h3 k hk).2 hM.size⟩, fun k hk => ⟨?_, hk.2⟩, fun k hk hk2 => ?_, fun k hk => ⟨(h6 k hk).1, fun hk1 => ?_, Nat.lt_of_lt_of_le (h6 k hk).2.2 hM.size⟩⟩, below_mods b hM (fun k hk => (h4 k hk).1) b.size, sok, hok'⟩, fun k hk => hM.block k (h6 k hk).2.2 (h6 k hk).2.1⟩
 · rcases hk.1 with hk | hk
   · exact (h4 k hk).1
   · exact Nat.le_trans b.size hk
 · rcases hk2.1 with hk2 | hk2
   · exact h5 k hk hk2
   · have := (h3 k hk).2
     omega
 · rcases hk1.1 with hk1 | hk1
   · exact (h6 k hk).2.1 hk1
   · have := (h6 k hk).2.2
     omega
end
/-- The events of a bit and a region. -/
def evO (mk : S31 → RQ) (l : List S31) (bits : List Bool) (k : Nat) : List S72 := ⟨0, bit1 (rdOf false bits (k : Int))⟩ :: evR (mk (rd_T31 l (k : Int))) (rd_T31 l (k : Int)).f2
/-- .. of d of them, from number k on. -/
def evI (mk : S31 → RQ) (l : List S31) (bits : List Bool) : Nat → Nat → List S72
 | 0, _ => []
 | d + 1, k => evO mk l bits k ++ evI mk l bits d (k + 1)
theorem evI_snoc (mk : S31 → RQ) (l : List S31) (bits : List Bool) : ∀ (d k : Nat), evI mk l bits (d + 1) k = evI mk l bits d k ++ evO mk l bits (k + d)
 | 0, k => by
   show evO mk l bits k ++ [] = [] ++ evO mk l bits (k + 0)
   rw [List.append_nil, List.nil_append, Nat.add_zero]
 | d + 1, k => by
   have h := evI_snoc mk l bits d (k + 1)
   have e1 : evI mk l bits (d + 1 + 1) k = evO mk l bits k ++ evI mk l bits (d + 1) (k + 1) := rfl
   have e2 : evI mk l bits (d + 1) k = evO mk l bits k ++ evI mk l bits d (k + 1) := rfl
   rw [e1, e2, h, List.append_assoc, show k + 1 + d = k + (d + 1) by omega]
theorem evI_good {mk : S31 → RQ} {l : List S31} {bits : List Bool} {n : Nat} (hn : 0 < n) : ∀ (d k : Nat), (∀ j, k ≤ j → j < k + d → (evR (mk (rd_T31 l (j : Int))) (rd_T31 l (j : Int)).f2).all (goodL n) = true) → (evI mk l bits d k).all (goodL n) = true
 | 0, k, _ => rfl
 | d + 1, k, h => by
   unfold evI evO
   rw [List.all_append, List.all_cons, h k (Nat.le_refl _) (by omega), evI_good hn d (k + 1) (fun j h1 h2 => h j (by omega) (by omega)), Bool.and_true, Bool.and_true, goodL_iff]
   refine ⟨Int.le_refl _, by show (0 : Int) < n; omega, ?_⟩
   show bit1 _ = 0 ∨ bit1 _ = 1
   unfold bit1
   split
   · exact .inr rfl
   · exact .inl rfl
theorem same_ints_loop (l : List Int) (hn : l.length ≤ 9223372036854775807) : ∀ (d i : Nat), i + d = l.length → Ev (fun k => incunableref02_SameInts.l0 k l l (l.length : Int) (i : Int)) true
 | 0, i, h => by
   refine ev_succ ?_
   simp only [incunableref02_SameInts.l0]
   exact ev_neg (by omega) (Ev.now _)
 | d + 1, i, h => by
   refine ev_succ ?_
   simp only [incunableref02_SameInts.l0]
   refine ev_pos (by omega) (ev_pos (by omega) (ev_pos (by omega) ?_))
   rw [wrap_id (n := (i : Int) + 1) (by omega) (by omega)]
   have := same_ints_loop l hn d (i + 1) (by omega)
   rw [show ((i + 1 : Nat) : Int) = (i : Int) + 1 by omega] at this
   exact ev_pos (by omega) (ev_pos trivial this)
theorem same_model_ev (kind : Int) (l : List Int) (hn : l.length ≤ 9223372036854775807) : Ev (fun k => incunableref02_Same.f k kind l kind l) true := by
 unfold incunableref02_Same.f
 refine ev_pos rfl (ev_bind (a := true) ?_ (Ev.now _))
 unfold incunableref02_SameInts.f
 exact ev_pos rfl (same_ints_loop l hn l.length 0 (by omega))
end Go.Proofs.Ytkfejicdjpffcaa.Lpb
namespace Go.Proofs.Ytkfejicdjpffcaa.Lpu
open Go Go.RowKit YtkfejicdjpffcaaW PrintWords PrintLast PrintMore U Aid HandAid Cod1 Cod2 Cod3 Ytkfejicdjpffcaa.Mod NewRef Enc Mods EncAt Put End Snc Dec Get DecNew RefAt RefPut RefEnd RDec RDecNew Isk Pse Pwk Bkp Rpx Rva Rfl Rcx Rty Rev Rpt Rrp Ren Rdv Rrw Rmk Rgt Rrg Rde Rbk Cby Raw Opn Len Rmi Two Lpb
theorem rdT_mem {l : List S31} {i : Nat} (h : i < l.length) : rd_T31 l (i : Int) ∈ l := by
 have e : rd_T31 l (i : Int) = l[i] := by simp [rd_T31, List.getD_eq_getElem?_getD, List.getElem?_eq_getElem h]
 rw [e]
 exact List.getElem_mem h
theorem rowsD_len (q : RQ) : ∀ (d j : Nat) (s : DS) (P : List Int), (rowsD q d j s P).1.st.length = s.st.length
 | 0, j, s, P => rfl
 | d + 1, j, s, P => by
   unfold rowsD
   split
   · exact (rowsD_len q d (j + 1) _ _).trans (rowH_len q j s P).2
   · exact (rowH_len q j s P).2
theorem getD_len (q : RQ) (kd : Int) (s : DS) : (getD q kd s).1.st.length = s.st.length := by
 unfold getD
 split
 · split
   · exact rowsD_len q _ _ _ _
   · exact rowsD_len q _ _ _ _
 · rfl
theorem zset2 {W : World} {b : Nat} {u v : Value} (h : W.heap[b]? = some (.cells #[u, v] 45 (0, 0))) (p q : Value) :
 ((W.setCell ⟨b, 0, none⟩ p).setCell ⟨b, 1, none⟩ q).heap[b]? = some (.cells #[p, q] 45 (0, 0)) := by simpa using blk_set (blk_set h 0 p) 1 q
set_option maxHeartbeats 8000000 in
set_option maxRecDepth 100000 in
theorem puts_walk (w : World) (t : Int) (h0 : (Lit.int .i64 t).wf = true) (dx : Int) (h1 : (Lit.int .i64 dx).wf = true) (dy : Int) (h2 : (Lit.int .i64 dy).wf = true) (ty : Bool) (kd : Int) (h4 : (Lit.int .i64 kd).wf = true) (AL : Option Addr) (cL : Nat) (l : List S31) (hcL : l.length ≤ cL) (hL : Kd.C k31 w AL l.length l) (hwL : ∀ x ∈ l, Bytes x.f2) (RW : Int) (h8 : (Lit.int .i64 RW).wf = true) (RH : Int) (h9 : (Lit.int .i64 RH).wf = true) (AR : Option Addr) (cR : Nat) (RP : List Int) (hcR : RP.length ≤ cR) (hA : Kd.C (Kd.int .u8) w AR RP.length RP) (hwR : RP.length * 1 ≤ 140737488351232 ∧ ∀ x ∈ RP, (Lit.int .u8 x).wf = true) (base : Int) (hbase : (Lit.int .i64 base).wf = true) (AI : Option Addr) (cI : Nat) (bits : List Bool) (hcI : bits.length ≤ cI) (hI : Kd.C Kd.bool w AI bits.length bits) :
 Calls Try.prog 7 #[.agg #[.int .i64 t, .int .i64 dx, .int .i64 dy, .bool ty, .int .i64 kd], .slice AL l.length cL, .agg #[.int .i64 RW, .int .i64 RH, .slice AR RP.length cR], .int .i64 base, .slice AI bits.length cI] w fun e w' => e = .returned (.bool true) ∧ Below w.heap.size w w' := by
 have hu3 := Try.underlying23
 have hu4 := Try.underlying31
 have hu5 := Try.underlying45
 have HA := A' hA
 have HL := A' hL
 have HI := A' hI
 have HbR := A' (bytes_of hwR.2)
 have HbL := A' hwL
 have HW := A' (And.intro (wf_i64 h1) (wf_i64 h2))
 have hmR : RP.length ≤ 9223372036854775807 := Kd.C_max hA
 have hmL : l.length ≤ 9223372036854775807 := Kd.C_max hL
 have hmI : bits.length ≤ 9223372036854775807 := Kd.C_max hI
 clear h0 h1 h2 h4 h8 h9 hA hwR hL hI hwL hbase
 go_enter Try.func7, Try.ntmps7
 go_wp2_with (fail)
 obtain ⟨b7, hb7⟩ : ∃ x, w.heap.size + 1 = x := ⟨_, rfl⟩
 obtain ⟨b5, hb5⟩ : ∃ x, w.heap.size = x := ⟨_, rfl⟩
 obtain ⟨W1, hW1⟩ : ∃ x, ((w.alloc (.cells #[.int .i64 t, .int .i64 dx, .int .i64 dy, .bool ty, .int .i64 kd] 23)).alloc (.cells #[.int .i64 RW, .int .i64 RH, .slice AR RP.length cR] 31)) = x := ⟨_, rfl⟩
 have HB1 := A' (show Below w.heap.size w W1 from hW1 ▸ (below_alloc (below_alloc (Below.refl _ _) _) _))
 have HZb5 := A' (show W1.heap[b5]? = some (.cells #[.int .i64 t, .int .i64 dx, .int .i64 dy, .bool ty, .int .i64 kd] 23 (0, 0)) by
  have h := heap_new w (.cells #[.int .i64 t, .int .i64 dx, .int .i64 dy, .bool ty, .int .i64 kd] 23)
  rw [hb5] at h
  rw [← hW1]
  exact (blk_alloc h _))
 have HZb7 := A' (show W1.heap[b7]? = some (.cells #[.int .i64 RW, .int .i64 RH, .slice AR RP.length cR] 31 (0, 0)) by
  have h := heap_new (w.alloc (.cells #[.int .i64 t, .int .i64 dx, .int .i64 dy, .bool ty, .int .i64 kd] 23)) (.cells #[.int .i64 RW, .int .i64 RH, .slice AR RP.length cR] 31)
  rw [World.size_alloc, hb7] at h
  rw [← hW1]
  exact h)
 rw [hb7, hb5, hW1]
 have HD1 := A' (Below.refl W1.heap.size W1)
 clear hb5 hb7 hW1
 refine (Hsm.rvalid_calls t dx dy ty kd _).mono ?_
 rintro e W3 ⟨rfl, hb⟩
 have HD3 := A' hb
 clear hb
 obtain ⟨vo, hvo⟩ : ∃ z, okO t dx dy kd = z := ⟨_, rfl⟩
 rw [hvo]
 cases vo
 · clear hvo
   go_wp2_with (fail)
   refine (Raw.awake_calls _).mono ?_
   rintro e W9 ⟨rfl, hb⟩
   have HD9 := A' (below_then HD3.out HD3.out.size hb)
   clear hb
   go_wp2_with (fail)
   go_ret
   exact ⟨rfl, below_then HB1.out HB1.out.size HD9.out⟩
 have HOO := A' hvo
 clear hvo
 have qb70 : W3.cell? ⟨b7, 0, none⟩ = some (.int .i64 RW) := (blk_cell (blk_below HZb7.out HD3.out) 0).trans rfl
 have qb71 : W3.cell? ⟨b7, 1, none⟩ = some (.int .i64 RH) := (blk_cell (blk_below HZb7.out HD3.out) 1).trans rfl
 have qb72 : W3.cell? ⟨b7, 2, none⟩ = some (.slice AR RP.length cR) := (blk_cell (blk_below HZb7.out HD3.out) 2).trans rfl
 go_wp2_with (fail)
 obtain ⟨K1, hK1⟩ := Ev.rounds (isbitmap_ev RW RH RP hmR)
 refine (incunableref06_IsBitmap.calls K1 RW RH AR cR RP _ _ (Kd.C_below HA.out (below_then HB1.out HB1.out.size HD3.out)) hcR hK1).mono ?_
 rintro e W4 ⟨rfl, hb⟩
 have HD4 := A' (below_then HD3.out HD3.out.size hb)
 clear hb hK1 qb70 qb71 qb72
 obtain ⟨vr, hvr⟩ : ∃ z, okB RW RH RP = z := ⟨_, rfl⟩
 rw [hvr]
 cases vr
 · clear hvr
   go_wp2_with (fail)
   refine (Raw.awake_calls _).mono ?_
   rintro e W9 ⟨rfl, hb⟩
   have HD9 := A' (below_then HD4.out HD4.out.size hb)
   clear hb
   go_wp2_with (fail)
   go_ret
   exact ⟨rfl, below_then HB1.out HB1.out.size HD9.out⟩
 have HVR := A' hvr
 have HBR := A' (okB_bm HbR.out hvr).1
 clear hvr
 by_cases hin : base < 1 ∨ base > 3000 ∨ (l.length : Int) > 6 ∨ (bits.length : Int) < l.length
 · have h4 : base < 1 ∨ (¬ base < 1 ∧ base > 3000) ∨ (¬ base < 1 ∧ ¬ base > 3000 ∧ (l.length : Int) > 6) ∨ (¬ base < 1 ∧ ¬ base > 3000 ∧ ¬ (l.length : Int) > 6 ∧ (bits.length : Int) < l.length) := by omega
   clear hin
   rcases h4 with h | ⟨h, h'⟩ | ⟨h, h', h''⟩ | ⟨h, h', h'', h3⟩
   all_goals
    go_wp2_with (fail)
    refine (Raw.awake_calls _).mono ?_
    rintro e W9 ⟨rfl, hb⟩
    have HD9 := A' (below_then HD4.out HD4.out.size hb)
    clear hb
    go_wp2_with (fail)
    go_ret
    exact ⟨rfl, below_then HB1.out HB1.out.size HD9.out⟩
 have hb1 : ¬ base < 1 := by omega
 have hb2 : ¬ base > 3000 := by omega
 have hl6 : ¬ (l.length : Int) > 6 := by omega
 have hbl : ¬ (bits.length : Int) < l.length := by omega
 clear hin
 have HT := A' (okO_iff.1 HOO.out).1
 have HKD := A' (okO_iff.1 HOO.out).2.1
 have hcx := ctxs_range t
 have qb50 : W4.cell? ⟨b5, 0, none⟩ = some (.int .i64 t) := (blk_cell (blk_below HZb5.out HD4.out) 0).trans rfl
 have qb51 : W4.cell? ⟨b5, 1, none⟩ = some (.int .i64 dx) := (blk_cell (blk_below HZb5.out HD4.out) 1).trans rfl
 have qb52 : W4.cell? ⟨b5, 2, none⟩ = some (.int .i64 dy) := (blk_cell (blk_below HZb5.out HD4.out) 2).trans rfl
 have qb53 : W4.cell? ⟨b5, 3, none⟩ = some (.bool ty) := (blk_cell (blk_below HZb5.out HD4.out) 3).trans rfl
 have qb54 : W4.cell? ⟨b5, 4, none⟩ = some (.int .i64 kd) := (blk_cell (blk_below HZb5.out HD4.out) 4).trans rfl
 go_wp2_with (fail)
 refine (incunableref08_Size.calls t (ctxs t + 1) 0 _ (by rw [rsize_eq, if_pos HT.out])).mono ?_
 rintro e W5 ⟨rfl, hdr⟩
 have HD5 := A' (below_then HD4.out HD4.out.size hdr.below)
 clear hdr qb50 qb51 qb52 qb53 qb54
 obtain ⟨nn, hnn0⟩ : ∃ nn : Nat, base + (ctxs t + 1) = nn := ⟨(base + (ctxs t + 1)).toNat, by omega⟩
 have hnn : nn ≤ 1000000 := by omega
 have hnn1 : nn ≤ 8192 := by omega
 have hnp : 0 < nn := by omega
 have HNN := A' (show wrap64 (base + (ctxs t + 1)) = (nn : Int) by rw [hnn0, wrap_id] <;> omega)
 have HNN0 := A' hnn0
 clear hnn0
 have p0 : W5.drew.cell? ⟨b5, 4, none⟩ = some (.int .i64 kd) := (blk_cell (blk_below HZb5.out (below_drew HD5.out)) 4).trans rfl
 go_wp2_with (fail)
 refine start_ (n := 9) (S := fun w' => w'.cell? ⟨b5, 4, none⟩ = some (.int .i64 kd)) (ds := [8]) #[false, false, false, false, false, false, false, false, false] (by kernel_rfl) rfl rfl (p0) (fun hHeld => ?_)
 refine u' 0 64 (B' 9 1) ?_ rfl rfl (by kernel_rfl) (fun _ _ _ h => h) (.inl ⟨by rfl, ?_⟩) ?_ ?_ ?_; rotate_left; (intro w'; go_simp; with_reducible rfl); rotate_left; (simp only [Act.put, p1', p2', p3', i64_w, i32_w]; rfl)
 refine u' 2 66 (B' 9 5) ?_ rfl rfl (by kernel_rfl) (fun _ _ _ h => h) (.inl ⟨by rfl, ?_⟩) ?_ ?_ ?_; rotate_left; (intro w'; go_simp; with_reducible rfl); rotate_left; (simp only [Act.put, p1', p2', p3', i64_w, i32_w]; rfl)
 refine u' 3 67 (B' 9 13) ?_ rfl rfl (by kernel_rfl) (fun _ _ _ h => h) (.inl ⟨by rfl, ?_⟩) ?_ ?_ ?_; rotate_left; (intro w'; go_simp; with_reducible rfl); rotate_left; (simp only [Act.put, p1', p2', p3', i64_w, i32_w]; rfl)
 refine u' 4 68 (B' 9 29) ?_ rfl rfl (by kernel_rfl) (fun _ _ _ h => h) (.inl ⟨by rfl, ?_⟩) ?_ ?_ ?_; rotate_left; (intro w'; go_simp; with_reducible rfl); rotate_left; (simp only [Act.put, p1', p2', p3', i64_w, i32_w]; rfl)
 refine t' 1 65 (B' 9 31) ?_ rfl rfl (by kernel_rfl) (fun _ _ _ h => h) (.inl ⟨by rfl, ?_⟩) hHeld ?_ ?_ ?_; rotate_left; (intro w' s0; go_simp; with_reducible rfl); rotate_left; (simp only [Act.put, p1', p2', p3', i64_w, i32_w]; rfl)
 refine join_ (σ := Nat × Nat) 1 (B' 9 255) (fun s => [(69, .slice (some ⟨s.1, 0, none⟩) nn nn), (70, .agg #[.int .i64 kd, .slice (some ⟨s.1, 0, none⟩) nn nn]), (13, .pointer (some ⟨s.2, 0, none⟩))]) (fun s w' => w'.heap[s.2]? = some (.cells #[.int .i64 0, .slice none 0 0] 45 (0, 0)) ∧ Kd.R (Kd.int .i64) 3 w' 0 (fun _ => True) (.slice (some ⟨s.1, 0, none⟩) nn nn) (List.replicate nn 0) ∧ Below W5.drew.heap.size W5.drew w' ∧ W5.drew.heap.size ≤ s.2) ?_ ?_
 rotate_left
 · intro hCont
   refine two_ (i := 5) (j := 7) (Ni := some 69) (Nj := some 13) (B' 9 63) (B' 9 159) rfl rfl rfl rfl (by kernel_rfl) (by decide) (by decide) (fun K hK => ?_) (fun K hK => ?_)
   · skip
     refine value_ (w1 := W5.drew.alloc (.cells (zcellsI nn) 3)) (v := .slice (some ⟨W5.drew.heap.size, 0, none⟩) nn nn) (by rfl) rfl ?_ ?_
     · refine make_stepI _ (.tmp 68) (.tmp 68) ?_ (wrap64 (base + (ctxs t + 1))) nn ?_ ?_ HNN.out hnn <;> rfl
     obtain ⟨wk, hwk⟩ : ∃ x, W5.drew.alloc (.cells (zcellsI nn) 3) = x := ⟨_, rfl⟩
     have hk : Below W5.drew.heap.size W5.drew wk := hwk ▸ below_alloc (Below.refl _ _) _
     have hrow : Kd.R (Kd.int .i64) 3 wk 0 (fun _ => True) (.slice (some ⟨W5.drew.heap.size, 0, none⟩) nn nn) (List.replicate nn 0) := by have h := made_rowI W5.drew 0 nn (Nat.zero_le _) hnn; rw [hwk] at h; exact Kd.R_mono h (fun _ _ => trivial)
     have hlt : W5.drew.heap.size < wk.heap.size := by rw [← hwk]; simp
     rw [hwk]
     clear hwk
     refine hK.out _ _ (pw_cell_below hk p0) (fun hHeld => ?_)
     clear hK K
     refine norm_ (a' := ?_) ?_ ?_; rotate_left; (show Act.put _ (some 69) _ = _; simp only [Act.put, p1', p2', p3', i64_w, i32_w]; rfl)
     refine u' 6 70 (B' 9 127) ?_ rfl rfl (by kernel_rfl) (fun _ _ _ h => h) (.inl ⟨by rfl, ?_⟩) ?_ ?_ ?_; rotate_left; (intro w'; go_simp; with_reducible rfl); rotate_left; (simp only [Act.put, p1', p2', p3', i64_w, i32_w]; rfl)
     refine one_ (i := 7) (N := some 13) (B' 9 255) rfl rfl (by kernel_rfl) (by decide) (fun K hK => ?_)
     refine value_ (w1 := ?_) (v := ?_) (by rfl) rfl ?_ ?_
     rotate_left 2
     · go_simp
       constructor
       · rfl
       · rfl
     refine hK.out _ _ (pw_cell_below (below_alloc (Below.refl _ _) _) (pw_cell_below hk p0)) (fun hHeld => ?_)
     clear hK K
     refine norm_ (a' := ?_) ?_ ?_; rotate_left; (show Act.put _ (some 13) _ = _; simp only [Act.put, p1', p2', p3', i64_w, i32_w]; rfl)
     exact norm_ (by first | (simp only [putAll, Act.put, List.setIfInBounds_toArray, List.set_cons_zero, List.set_cons_succ]; done) | (simp only [putAll, Act.put, List.setIfInBounds_toArray, List.set_cons_zero, List.set_cons_succ]; rfl)) (hCont (W5.drew.heap.size, wk.heap.size) _ ⟨blk_new _ _, Kd.R_below hrow (below_alloc (Below.refl _ _) _), below_alloc hk _, hk.size⟩)
   · skip
     refine value_ (w1 := ?_) (v := ?_) (by rfl) rfl ?_ ?_
     rotate_left 2
     · go_simp
       constructor
       · rfl
       · rfl
     refine hK.out _ _ (pw_cell_below (below_alloc (Below.refl _ _) _) p0) (fun hHeld => ?_)
     clear hK K
     refine norm_ (a' := ?_) ?_ ?_; rotate_left; (show Act.put _ (some 13) _ = _; simp only [Act.put, p1', p2', p3', i64_w, i32_w]; rfl)
     refine one_ (i := 5) (N := some 69) (B' 9 191) rfl rfl (by kernel_rfl) (by decide) (fun K hK => ?_)
     obtain ⟨gk, hgk⟩ : ∃ x, (W5.drew.alloc (.cells #[.int .i64 0, .slice none 0 0] 45)).heap.size = x := ⟨_, rfl⟩
     refine value_ (w1 := (W5.drew.alloc (.cells #[.int .i64 0, .slice none 0 0] 45)).alloc (.cells (zcellsI nn) 3)) (v := .slice (some ⟨gk, 0, none⟩) nn nn) (by rfl) rfl ?_ ?_
     · rw [← hgk]; refine make_stepI _ (.tmp 68) (.tmp 68) ?_ (wrap64 (base + (ctxs t + 1))) nn ?_ ?_ HNN.out hnn <;> rfl
     obtain ⟨wk, hwk⟩ : ∃ x, (W5.drew.alloc (.cells #[.int .i64 0, .slice none 0 0] 45)).alloc (.cells (zcellsI nn) 3) = x := ⟨_, rfl⟩
     have hk : Below (W5.drew.alloc (.cells #[.int .i64 0, .slice none 0 0] 45)).heap.size (W5.drew.alloc (.cells #[.int .i64 0, .slice none 0 0] 45)) wk := hwk ▸ below_alloc (Below.refl _ _) _
     have hrow : Kd.R (Kd.int .i64) 3 wk 0 (fun _ => True) (.slice (some ⟨gk, 0, none⟩) nn nn) (List.replicate nn 0) := by have h := made_rowI (W5.drew.alloc (.cells #[.int .i64 0, .slice none 0 0] 45)) 0 nn (Nat.zero_le _) hnn; rw [hwk, hgk] at h; exact Kd.R_mono h (fun _ _ => trivial)
     have hlt : (W5.drew.alloc (.cells #[.int .i64 0, .slice none 0 0] 45)).heap.size < wk.heap.size := by rw [← hwk]; simp
     rw [hwk]
     clear hwk
     refine hK.out _ _ (pw_cell_below hk (pw_cell_below (below_alloc (Below.refl _ _) _) p0)) (fun hHeld => ?_)
     clear hK K
     refine norm_ (a' := ?_) ?_ ?_; rotate_left; (show Act.put _ (some 69) _ = _; simp only [Act.put, p1', p2', p3', i64_w, i32_w]; rfl)
     refine u' 6 70 (B' 9 255) ?_ rfl rfl (by kernel_rfl) (fun _ _ _ h => h) (.inl ⟨by rfl, ?_⟩) ?_ ?_ ?_; rotate_left; (intro w'; go_simp; with_reducible rfl); rotate_left; (simp only [Act.put, p1', p2', p3', i64_w, i32_w]; rfl)
     exact norm_ (by first | (simp only [putAll, Act.put, List.setIfInBounds_toArray, List.set_cons_zero, List.set_cons_succ]; done) | (simp only [putAll, Act.put, List.setIfInBounds_toArray, List.set_cons_zero, List.set_cons_succ]; rfl)) (hCont (gk, W5.drew.heap.size) _ ⟨blk_below (blk_new _ _) hk, hrow, below_then (below_alloc (Below.refl _ _) _) (by simp) hk, Nat.le_refl _⟩)
 rintro ⟨gm, b13⟩ w5 ⟨hq, hrow, hqb, hqs⟩
 have t0 := pw_cell_below hqb p0
 have hHeld : w5.cell? ⟨b5, 4, none⟩ = some (.int .i64 kd) := t0
 have z0 : w5.cell? ⟨b13, 0, none⟩ = some (.int .i64 0) := (blk_cell hq 0).trans rfl
 have z1 : w5.cell? ⟨b13, 1, none⟩ = some (.slice none 0 0) := (blk_cell hq 1).trans rfl
 have zf0 := blk_frozen hq 0
 have zf1 := blk_frozen hq 1
 have HQ13 := A' hq
 have HROW := A' hrow
 have HQB := A' hqb
 have HQS := A' hqs
 clear hq hrow hqb hqs
 refine norm_ (a' := ?_) ?_ ?_
 rotate_left
 · simp only [putAll, Act.put, List.setIfInBounds_toArray, List.set_cons_zero, List.set_cons_succ]
   rfl
 refine last_ (i := 8) (N := none) (B' 9 511) rfl rfl (by kernel_rfl) (by decide) (fun K hK => ?_)
 refine skip_ (w1 := ?_) (by rfl) rfl ?_ ?_
 rotate_left
 · go_simp
   rfl
 refine hK.out _ _ ?_
 clear hK K
 refine done_ (by kernel_rfl) ?_
 obtain ⟨W6, hW6⟩ : ∃ z, (w5.setCell ⟨b13, 0, none⟩ (.int .i64 kd)).setCell ⟨b13, 1, none⟩ (.slice (some ⟨gm, 0, none⟩) nn nn) = z := ⟨_, rfl⟩
 have HZ13 := A' (show W6.heap[b13]? = some (.cells #[.int .i64 kd, .slice (some ⟨gm, 0, none⟩) nn nn] 45 (0, 0)) from hW6 ▸ zset2 HQ13.out _ _)
 have h13 : (w5.setCell ⟨b13, 0, none⟩ (.int .i64 kd)).heap[b13]? = some (.cells #[.int .i64 kd, .slice none 0 0] 45 (0, 0)) := by simpa using blk_set HQ13.out 0 (.int .i64 kd)
 have HCM := A' (show ∀ V, Below W6.heap.size W6 V → Kd.C (Kd.int .i64) V (some ⟨gm, 0, none⟩) nn (List.replicate nn 0) from fun V hV => by
  have h := Kd.R_set (Kd.R_set HROW.out HQ13.out (by decide) 0 (.int .i64 kd)) h13 (by decide) 1 (.slice (some ⟨gm, 0, none⟩) nn nn)
  have h2 := (Kd.R_reads' h).2.2
  rw [List.length_replicate, hW6] at h2
  exact Kd.C_below h2 hV)
 have HD6 := A' (show Below W1.heap.size W1 W6 from hW6 ▸ ((below_then (below_drew HD5.out) (below_drew HD5.out).size HQB.out).setCell (Nat.le_trans (below_drew HD5.out).size HQS.out) _).setCell (Nat.le_trans (below_drew HD5.out).size HQS.out) _)
 rw [hW6]
 have p0 : W6.cell? ⟨b13, 0, none⟩ = some (.int .i64 kd) := (blk_cell HZ13.out 0).trans rfl
 have p1 : W6.cell? ⟨b13, 1, none⟩ = some (.slice (some ⟨gm, 0, none⟩) nn nn) := (blk_cell HZ13.out 1).trans rfl
 clear hW6 h13 HROW HQ13 HQB HQS t0 z0 z1 zf0 zf1
 have hlr : (List.replicate nn (0 : Int)).length = nn := List.length_replicate
 have hm : okModel kd (List.replicate nn 0) := by
  have hkd := HKD.out
  have h := new_ok kd (nn : Int) (by unfold newModel; rw [if_pos ⟨hkd, by omega, by omega⟩])
  unfold newModel at h
  rw [if_pos ⟨hkd, by omega, by omega⟩, Int.toNat_natCast] at h
  exact h
 have HFIT := A' (show okF nn base t = true by rw [okF_iff]; have := HNN0.out; omega)
 have HNE := A' (show ∀ V, Below W6.heap.size W6 V → Calls Try.prog 23 #[.agg #[.int .i64 kd, .slice (some ⟨gm, 0, none⟩) nn nn]] V fun e w' => ∃ g, e = .returned (.tuple #[.pointer (some ⟨g, 0, none⟩), .int .i64 0]) ∧ EncAt w' (Since V.heap.size w') g (newES kd (List.replicate nn 0)) ∧ Below V.heap.size V w' from fun V hV => by
  have h := new_enc (some ⟨gm, 0, none⟩) nn kd (List.replicate nn 0) V (by rw [hlr]; exact HCM.out V hV) (by omega) hm
  rw [hlr] at h
  exact h)
 have HRNE := A' (show ∀ V, Below W6.heap.size W6 V → Calls Try.prog 24 #[.agg #[.int .i64 kd, .slice (some ⟨gm, 0, none⟩) nn nn]] V fun e w' => ∃ g, e = .returned (.tuple #[.pointer (some ⟨g, 0, none⟩), .int .i64 0]) ∧ RefAt w' (Since V.heap.size w') g (newES kd (List.replicate nn 0)) ∧ Below V.heap.size V w' from fun V hV => by
  have h := ref_new_enc (some ⟨gm, 0, none⟩) nn kd (List.replicate nn 0) V (by rw [hlr]; exact HCM.out V hV) (by omega) hm
  rw [hlr] at h
  exact h)
 have HND := A' (show ∀ V (Ac : Option Addr) (cc : Nat) (code : List Int), Below W6.heap.size W6 V → Kd.C (Kd.int .u8) V Ac code.length code → code.length ≤ cc → Bytes code → code.length ≤ 1099511627776 → Calls Try.prog 34 #[.agg #[.int .i64 kd, .slice (some ⟨gm, 0, none⟩) nn nn], .slice Ac code.length cc] V (NewDecPost V kd (List.replicate nn 0) code) from fun V Ac cc code hV h1 h2 h3 h4 => by
  have h := new_dec (some ⟨gm, 0, none⟩) nn kd (List.replicate nn 0) Ac cc code V (by rw [hlr]; exact HCM.out V hV) (by omega) hm h1 h2 h3 h4
  rw [hlr] at h
  exact h)
 have HM := A' hm
 have HLR := A' hlr
 clear hm hlr
 obtain ⟨st, hst⟩ : ∃ z, List.replicate nn (0 : Int) = z := ⟨_, rfl⟩
 rw [hst] at HNE HRNE HND HM HLR
 clear hst HCM
 obtain ⟨sE, hsE⟩ : ∃ z, newES kd st = z := ⟨_, rfl⟩
 rw [hsE] at HNE HRNE
 have HOKE := A' (show sE.ok from hsE ▸ newES_ok HM.out)
 have HSE := A' hsE
 have HSEL := A' (show sE.st.length = nn from hsE ▸ HLR.out)
 have hout0 : sE.out.length = 0 := by rw [← hsE]; rfl
 have HOUT0 := A' hout0
 clear hsE hout0
 obtain ⟨mk, hmk⟩ : ∃ mk : S31 → RQ, mk = fun x => ⟨t, dx, dy, ty, x.f0, x.f1, RW, RH, RP, base⟩ := ⟨_, rfl⟩
 have HMKD := A' hmk
 clear hmk
 go_wp2_with (fail)
 clear p0 p1
 refine (HNE.out _ (Below.refl _ _)).mono ?_
 rintro e W7 ⟨g, rfl, hE1, hbE1⟩
 have HE1 := A' hE1
 have HBE1 := A' hbE1
 have p0 : W7.cell? ⟨b13, 0, none⟩ = some (.int .i64 kd) := (blk_cell (blk_below HZ13.out hbE1) 0).trans rfl
 have p1 : W7.cell? ⟨b13, 1, none⟩ = some (.slice (some ⟨gm, 0, none⟩) nn nn) := (blk_cell (blk_below HZ13.out hbE1) 1).trans rfl
 clear hE1 hbE1
 go_wp2_with (fail)
 clear p0 p1
 refine (HRNE.out _ HBE1.out).mono ?_
 rintro e W8 ⟨h, rfl, hE2, hbE2⟩
 have HTw0 := A' (Two.new (w := W6) (Below.refl _ _) HE1.out HBE1.out hE2 hbE2 HOKE.out HOKE.out)
 clear hE2 hbE2 HE1 HBE1
 have HOW := A' (show ∀ V, Below W6.heap.size W6 V → Below W1.heap.size W1 V from fun V hV => below_then HD6.out HD6.out.size hV)
 have HWV := A' (show ∀ V, Below W6.heap.size W6 V → Below w.heap.size w V from fun V hV => below_then (below_then HB1.out HB1.out.size HD6.out) (Nat.le_trans HB1.out.size HD6.out.size) hV)
 go_wp2_with (fail)
 go_loopw [85] (fun i wr => ∃ (k : Nat) (s1 : ES), k ≤ l.length ∧ i = .int .i64 k ∧ Aside0 (s1 = putsI sE (evI mk l bits k 0)) ∧ Aside0 (∀ j : Nat, j < k → okB (rd_T31 l (j : Int)).f0 (rd_T31 l (j : Int)).f1 (rd_T31 l (j : Int)).f2 = true) ∧ Aside0 (s1.out.length ≤ k * 200000) ∧ Aside0 (Two W6 g h s1 s1 (fun _ => False) wr)) (fun i _ => l.length - (intOf i).toNat)
 case atStart => exact ⟨0, sE, Nat.zero_le _, rfl, ⟨rfl⟩, ⟨fun j hj => absurd hj (Nat.not_lt_zero j)⟩, ⟨by rw [HOUT0.out]; exact Nat.zero_le _⟩, HTw0⟩
 clear HTw0
 case round =>
  obtain ⟨k, s1, hk, rfl, HS1, HOKB, HLN, HTw⟩ := hrel
  by_cases hlt : k < l.length
  · have hltk : (k : Int) < l.length := by omega
    obtain ⟨ad, A2, c2, hAd, x0, x1, x2, hc2, hCx⟩ := at_T31 (Kd.C_below HL.out (HWV.out _ HTw.out.b)) (k : Int) (by omega) (by omega)
    subst hAd
    simp only [Int.toNat_natCast] at x0 x1 x2
    obtain ⟨x, hx⟩ : ∃ z, rd_T31 l (k : Int) = z := ⟨_, rfl⟩
    rw [hx] at x0 x1 x2 hc2 hCx
    have HX := A' hx
    have HBYX := A' (show Bytes x.f2 from HbL.out x (by rw [← hx]; exact rdT_mem hlt))
    have HCX := A' (show Kd.C (Kd.int .u8) w A2 x.f2.length x.f2 by
     obtain ⟨ad', A2', c2', hAd', _, _, x2', _, hCx'⟩ := at_T31 HL.out (k : Int) (by omega) (by omega)
     simp only [Int.toNat_natCast] at x2'
     rw [hx] at x2' hCx'
     obtain rfl := Option.some.inj hAd'
     have hq2 := pw_cell_below (HWV.out _ HTw.out.b) x2'
     rw [x2] at hq2
     injection hq2 with hq2
     injection hq2 with hq3
     rw [hq3]
     exact hCx')
    have hkb : (k : Int) < bits.length := by omega
    obtain ⟨q, hq⟩ : ∃ q : RQ, q = ⟨t, dx, dy, ty, x.f0, x.f1, RW, RH, RP, base⟩ := ⟨_, rfl⟩
    have HQ := A' hq
    have HMK := A' (show mk x = q by rw [hq, HMKD.out])
    clear hq hx hCx
    have HST1 := A' (show s1.st.length = nn by rw [HS1.out, putsI_len]; exact HSEL.out)
    obtain ⟨b19, hb19⟩ : ∃ z, wr.heap.size = z := ⟨_, rfl⟩
    obtain ⟨Wa, hWa⟩ : ∃ z, wr.alloc (.cells #[.int .i64 x.f0, .int .i64 x.f1, .slice A2 x.f2.length c2] 31) = z := ⟨_, rfl⟩
    have HTw := A' (show Two W6 g h s1 s1 (fun k => k = b19) Wa from hWa ▸ (HTw.out.box _).less (fun k hk => .inr (hk.trans hb19.symm)))
    have HZ19 := A' (show Wa.heap[b19]? = some (.cells #[.int .i64 x.f0, .int .i64 x.f1, .slice A2 x.f2.length c2] 31 (0, 0)) from hWa ▸ hb19 ▸ heap_new wr _)
    have y0 : Wa.cell? ⟨b19, 0, none⟩ = some (.int .i64 x.f0) := (blk_cell HZ19.out 0).trans rfl
    have y1 : Wa.cell? ⟨b19, 1, none⟩ = some (.int .i64 x.f1) := (blk_cell HZ19.out 1).trans rfl
    have y2 : Wa.cell? ⟨b19, 2, none⟩ = some (.slice A2 x.f2.length c2) := (blk_cell HZ19.out 2).trans rfl
    go_wp2_with (fail)
    clear hWa hb19 x0 x1 x2 y0 y1 y2
    obtain ⟨K1, hK1⟩ := Ev.rounds (isbitmap_ev x.f0 x.f1 x.f2 (Kd.C_max HCX.out))
    refine (incunableref06_IsBitmap.calls K1 x.f0 x.f1 A2 c2 x.f2 _ _ (Kd.C_below HCX.out (HWV.out _ HTw.out.b)) hc2 hK1).mono ?_
    rintro e Wb ⟨rfl, hb⟩
    have HTw := A' (HTw.out.below hb)
    have HZ19 := A' (blk_below HZ19.out hb)
    clear hb hK1
    obtain ⟨vb, hvb⟩ : ∃ z, okB x.f0 x.f1 x.f2 = z := ⟨_, rfl⟩
    rw [hvb]
    cases vb
    · have hpe : putErr q kd x.f2 s1.st.length = 30 := by
        unfold putErr
        rw [HQ.out]
        simp only
        rw [if_pos HOO.out, hvb, if_neg (show ¬ (false = true ∧ okB RW RH RP = true) by simp)]
      have HPR := A' (show putR q kd x.f2 s1 = (s1, 30) by unfold putR; rw [hpe, if_neg (by decide)])
      clear hpe hvb
      have y0 : Wb.cell? ⟨b19, 0, none⟩ = some (.int .i64 x.f0) := (blk_cell HZ19.out 0).trans rfl
      have y1 : Wb.cell? ⟨b19, 1, none⟩ = some (.int .i64 x.f1) := (blk_cell HZ19.out 1).trans rfl
      have y2 : Wb.cell? ⟨b19, 2, none⟩ = some (.slice A2 x.f2.length c2) := (blk_cell HZ19.out 2).trans rfl
      have q50 : Wb.cell? ⟨b5, 0, none⟩ = some (.int .i64 t) := (blk_cell (blk_below HZb5.out (HOW.out _ HTw.out.b)) 0).trans rfl
      have q51 : Wb.cell? ⟨b5, 1, none⟩ = some (.int .i64 dx) := (blk_cell (blk_below HZb5.out (HOW.out _ HTw.out.b)) 1).trans rfl
      have q52 : Wb.cell? ⟨b5, 2, none⟩ = some (.int .i64 dy) := (blk_cell (blk_below HZb5.out (HOW.out _ HTw.out.b)) 2).trans rfl
      have q53 : Wb.cell? ⟨b5, 3, none⟩ = some (.bool ty) := (blk_cell (blk_below HZb5.out (HOW.out _ HTw.out.b)) 3).trans rfl
      have q54 : Wb.cell? ⟨b5, 4, none⟩ = some (.int .i64 kd) := (blk_cell (blk_below HZb5.out (HOW.out _ HTw.out.b)) 4).trans rfl
      have q70 : Wb.cell? ⟨b7, 0, none⟩ = some (.int .i64 RW) := (blk_cell (blk_below HZb7.out (HOW.out _ HTw.out.b)) 0).trans rfl
      have q71 : Wb.cell? ⟨b7, 1, none⟩ = some (.int .i64 RH) := (blk_cell (blk_below HZb7.out (HOW.out _ HTw.out.b)) 1).trans rfl
      have q72 : Wb.cell? ⟨b7, 2, none⟩ = some (.slice AR RP.length cR) := (blk_cell (blk_below HZb7.out (HOW.out _ HTw.out.b)) 2).trans rfl
      go_wp2_with (fail)
      refine (pput HTw.out base t dx dy ty kd x.f0 x.f1 A2 c2 x.f2 RW RH AR cR RP (by have := HLN.out; omega) HW.out.1 HW.out.2 (fun V hV => Kd.C_below HCX.out (HWV.out _ hV)) hc2 (fun V hV => Kd.C_below HA.out (HWV.out _ hV)) hcR HBYX.out HbR.out q HQ.out (s1, 30) HPR.out).mono ?_
      rintro e Wc ⟨rfl, hT, hF⟩
      have HDc := A' (HOW.out _ hT.b)
      clear hT hF y0 y1 y2 q50 q51 q52 q53 q54 q70 q71 q72
      simp only
      go_wp2_with (fail)
      refine (Raw.awake_calls _).mono ?_
      rintro e W9 ⟨rfl, hb⟩
      have HD9 := A' (below_then HDc.out HDc.out.size hb)
      clear hb
      go_wp2_with (fail)
      go_ret
      exact ⟨rfl, below_then HB1.out HB1.out.size HD9.out⟩
    have HVB := A' hvb
    have HBX := A' (okB_bm HBYX.out hvb).1
    clear hvb
    obtain ⟨ai, hAi, hbi⟩ := Kd.at_bool (Kd.C_below HI.out (HWV.out _ HTw.out.b)) (k : Int) (by omega) hkb
    rw [Int.toNat_natCast] at hbi
    subst hAi
    obtain ⟨bv, hbv⟩ : ∃ z, rdOf false bits (k : Int) = z := ⟨_, rfl⟩
    rw [hbv] at hbi
    have HBV1 := A' hbv
    clear hbv
    cases bv
    · skip
      have HG0 := A' (show s1.err 0 0 = 0 from if_pos (by rw [good_eq s1 ⟨0, 0⟩, goodL_iff, HST1.out]; exact ⟨Int.le_refl _, by show (0 : Int) < nn; omega, by decide⟩))
      have hpl := (ES.putI_len s1 0 0).1
      have hps := (ES.putI_len s1 0 0).2.2
      have HST2 := A' (hps.trans HST1.out)
      clear hps
      obtain ⟨s1b, hs1b⟩ : ∃ z, s1.putI 0 0 = z := ⟨_, rfl⟩
      rw [hs1b] at hpl HST2
      have hpe : putErr q kd x.f2 s1b.st.length = 0 := by
       unfold putErr
       rw [HQ.out]
       simp only
       rw [if_pos HOO.out, if_pos ⟨HVB.out, HVR.out⟩, HST2.out, if_pos HFIT.out]
      have hpr : putR q kd x.f2 s1b = (putsI s1b (evR q x.f2), 0) := by unfold putR; rw [hpe, if_pos rfl]
      obtain ⟨s2, hs2⟩ : ∃ z, putsI s1b (evR q x.f2) = z := ⟨_, rfl⟩
      have hl2 : s2.out.length ≤ s1b.out.length + 160800 := by
       have h1 := putsI_out (evR q x.f2) s1b
       have h2 := evR_len q x.f2 (by rw [HQ.out]; exact HBX.out.w.2) (by rw [HQ.out]; exact HBX.out.h.2)
       rw [hs2] at h1
       omega
      rw [hs2] at hpr
      have HPR := A' hpr
      have HS1B := A' hs1b
      have HS2 := A' (show s2 = putsI sE (evI mk l bits (k + 1) 0) by
       rw [evI_snoc, putsI_app, ← HS1.out, Nat.zero_add]
       unfold evO
       rw [HBV1.out, HX.out, HMK.out, show bit1 false = 0 from rfl, putsI_cons, hs1b, hs2])
      clear hpe hpr hs1b hs2
      go_wp2_with (fail)
      refine (HTw.out.rput 0 0 (by have := HLN.out; omega)).mono ?_
      rintro e V1 ⟨rfl, hT, hF⟩
      rw [HS1B.out] at hT
      have HZ19 := A' ((hF b19 rfl).trans HZ19.out)
      have HTw := A' hT
      clear hT hF
      have y0 : V1.cell? ⟨b19, 0, none⟩ = some (.int .i64 x.f0) := (blk_cell HZ19.out 0).trans rfl
      have y1 : V1.cell? ⟨b19, 1, none⟩ = some (.int .i64 x.f1) := (blk_cell HZ19.out 1).trans rfl
      have y2 : V1.cell? ⟨b19, 2, none⟩ = some (.slice A2 x.f2.length c2) := (blk_cell HZ19.out 2).trans rfl
      have q50 : V1.cell? ⟨b5, 0, none⟩ = some (.int .i64 t) := (blk_cell (blk_below HZb5.out (HOW.out _ HTw.out.b)) 0).trans rfl
      have q51 : V1.cell? ⟨b5, 1, none⟩ = some (.int .i64 dx) := (blk_cell (blk_below HZb5.out (HOW.out _ HTw.out.b)) 1).trans rfl
      have q52 : V1.cell? ⟨b5, 2, none⟩ = some (.int .i64 dy) := (blk_cell (blk_below HZb5.out (HOW.out _ HTw.out.b)) 2).trans rfl
      have q53 : V1.cell? ⟨b5, 3, none⟩ = some (.bool ty) := (blk_cell (blk_below HZb5.out (HOW.out _ HTw.out.b)) 3).trans rfl
      have q54 : V1.cell? ⟨b5, 4, none⟩ = some (.int .i64 kd) := (blk_cell (blk_below HZb5.out (HOW.out _ HTw.out.b)) 4).trans rfl
      have q70 : V1.cell? ⟨b7, 0, none⟩ = some (.int .i64 RW) := (blk_cell (blk_below HZb7.out (HOW.out _ HTw.out.b)) 0).trans rfl
      have q71 : V1.cell? ⟨b7, 1, none⟩ = some (.int .i64 RH) := (blk_cell (blk_below HZb7.out (HOW.out _ HTw.out.b)) 1).trans rfl
      have q72 : V1.cell? ⟨b7, 2, none⟩ = some (.slice AR RP.length cR) := (blk_cell (blk_below HZb7.out (HOW.out _ HTw.out.b)) 2).trans rfl
      go_wp2_with (fail)
      refine (refput HTw.out base t dx dy ty kd x.f0 x.f1 A2 c2 x.f2 RW RH AR cR RP (by have := HLN.out; omega) (fun V hV => Kd.C_below HCX.out (HWV.out _ hV)) hc2 (fun V hV => Kd.C_below HA.out (HWV.out _ hV)) hcR HBYX.out HbR.out q HQ.out (s2, 0) HPR.out).mono ?_
      rintro e V2 ⟨rfl, hT, hF⟩
      have HZ19 := A' ((hF b19 rfl).trans HZ19.out)
      have HTw := A' hT
      clear hT hF y0 y1 y2 q50 q51 q52 q53 q54 q70 q71 q72
      go_wp2_with (fail)
      have hp3 := HTw.out.put 0 0 (by have := HLN.out; omega)
      rw [HG0.out, HS1B.out] at hp3
      refine hp3.mono ?_
      rintro e V3 ⟨rfl, hT, hF⟩
      have HZ19 := A' ((hF b19 rfl).trans HZ19.out)
      have HTw := A' hT
      clear hT hF hp3
      have y0 : V3.cell? ⟨b19, 0, none⟩ = some (.int .i64 x.f0) := (blk_cell HZ19.out 0).trans rfl
      have y1 : V3.cell? ⟨b19, 1, none⟩ = some (.int .i64 x.f1) := (blk_cell HZ19.out 1).trans rfl
      have y2 : V3.cell? ⟨b19, 2, none⟩ = some (.slice A2 x.f2.length c2) := (blk_cell HZ19.out 2).trans rfl
      have q50 : V3.cell? ⟨b5, 0, none⟩ = some (.int .i64 t) := (blk_cell (blk_below HZb5.out (HOW.out _ HTw.out.b)) 0).trans rfl
      have q51 : V3.cell? ⟨b5, 1, none⟩ = some (.int .i64 dx) := (blk_cell (blk_below HZb5.out (HOW.out _ HTw.out.b)) 1).trans rfl
      have q52 : V3.cell? ⟨b5, 2, none⟩ = some (.int .i64 dy) := (blk_cell (blk_below HZb5.out (HOW.out _ HTw.out.b)) 2).trans rfl
      have q53 : V3.cell? ⟨b5, 3, none⟩ = some (.bool ty) := (blk_cell (blk_below HZb5.out (HOW.out _ HTw.out.b)) 3).trans rfl
      have q54 : V3.cell? ⟨b5, 4, none⟩ = some (.int .i64 kd) := (blk_cell (blk_below HZb5.out (HOW.out _ HTw.out.b)) 4).trans rfl
      have q70 : V3.cell? ⟨b7, 0, none⟩ = some (.int .i64 RW) := (blk_cell (blk_below HZb7.out (HOW.out _ HTw.out.b)) 0).trans rfl
      have q71 : V3.cell? ⟨b7, 1, none⟩ = some (.int .i64 RH) := (blk_cell (blk_below HZb7.out (HOW.out _ HTw.out.b)) 1).trans rfl
      have q72 : V3.cell? ⟨b7, 2, none⟩ = some (.slice AR RP.length cR) := (blk_cell (blk_below HZb7.out (HOW.out _ HTw.out.b)) 2).trans rfl
      go_wp2_with (fail)
      refine (pput HTw.out base t dx dy ty kd x.f0 x.f1 A2 c2 x.f2 RW RH AR cR RP (by have := HLN.out; omega) HW.out.1 HW.out.2 (fun V hV => Kd.C_below HCX.out (HWV.out _ hV)) hc2 (fun V hV => Kd.C_below HA.out (HWV.out _ hV)) hcR HBYX.out HbR.out q HQ.out (s2, 0) HPR.out).mono ?_
      rintro e V4 ⟨rfl, hT, hF⟩
      have HTw := A' (hT.less (F' := fun _ => False) (fun k hk => hk.elim))
      clear hT hF y0 y1 y2 q50 q51 q52 q53 q54 q70 q71 q72
      simp only
      go_wp2_with (fail)
      exact ⟨⟨k + 1, s2, by omega, by go_num, HS2, ⟨fun j hj => by
       by_cases hjk : j < k
       · exact HOKB.out j hjk
       · rw [show j = k by omega, HX.out]; exact HVB.out⟩, ⟨by have := HLN.out; omega⟩, HTw⟩, by simp [intOf]; omega⟩
    · skip
      have HG0 := A' (show s1.err 0 1 = 0 from if_pos (by rw [good_eq s1 ⟨0, 1⟩, goodL_iff, HST1.out]; exact ⟨Int.le_refl _, by show (0 : Int) < nn; omega, by decide⟩))
      have hpl := (ES.putI_len s1 0 1).1
      have hps := (ES.putI_len s1 0 1).2.2
      have HST2 := A' (hps.trans HST1.out)
      clear hps
      obtain ⟨s1b, hs1b⟩ : ∃ z, s1.putI 0 1 = z := ⟨_, rfl⟩
      rw [hs1b] at hpl HST2
      have hpe : putErr q kd x.f2 s1b.st.length = 0 := by
       unfold putErr
       rw [HQ.out]
       simp only
       rw [if_pos HOO.out, if_pos ⟨HVB.out, HVR.out⟩, HST2.out, if_pos HFIT.out]
      have hpr : putR q kd x.f2 s1b = (putsI s1b (evR q x.f2), 0) := by unfold putR; rw [hpe, if_pos rfl]
      obtain ⟨s2, hs2⟩ : ∃ z, putsI s1b (evR q x.f2) = z := ⟨_, rfl⟩
      have hl2 : s2.out.length ≤ s1b.out.length + 160800 := by
       have h1 := putsI_out (evR q x.f2) s1b
       have h2 := evR_len q x.f2 (by rw [HQ.out]; exact HBX.out.w.2) (by rw [HQ.out]; exact HBX.out.h.2)
       rw [hs2] at h1
       omega
      rw [hs2] at hpr
      have HPR := A' hpr
      have HS1B := A' hs1b
      have HS2 := A' (show s2 = putsI sE (evI mk l bits (k + 1) 0) by
       rw [evI_snoc, putsI_app, ← HS1.out, Nat.zero_add]
       unfold evO
       rw [HBV1.out, HX.out, HMK.out, show bit1 true = 1 from rfl, putsI_cons, hs1b, hs2])
      clear hpe hpr hs1b hs2
      go_wp2_with (fail)
      refine (HTw.out.rput 0 1 (by have := HLN.out; omega)).mono ?_
      rintro e V1 ⟨rfl, hT, hF⟩
      rw [HS1B.out] at hT
      have HZ19 := A' ((hF b19 rfl).trans HZ19.out)
      have HTw := A' hT
      clear hT hF
      have y0 : V1.cell? ⟨b19, 0, none⟩ = some (.int .i64 x.f0) := (blk_cell HZ19.out 0).trans rfl
      have y1 : V1.cell? ⟨b19, 1, none⟩ = some (.int .i64 x.f1) := (blk_cell HZ19.out 1).trans rfl
      have y2 : V1.cell? ⟨b19, 2, none⟩ = some (.slice A2 x.f2.length c2) := (blk_cell HZ19.out 2).trans rfl
      have q50 : V1.cell? ⟨b5, 0, none⟩ = some (.int .i64 t) := (blk_cell (blk_below HZb5.out (HOW.out _ HTw.out.b)) 0).trans rfl
      have q51 : V1.cell? ⟨b5, 1, none⟩ = some (.int .i64 dx) := (blk_cell (blk_below HZb5.out (HOW.out _ HTw.out.b)) 1).trans rfl
      have q52 : V1.cell? ⟨b5, 2, none⟩ = some (.int .i64 dy) := (blk_cell (blk_below HZb5.out (HOW.out _ HTw.out.b)) 2).trans rfl
      have q53 : V1.cell? ⟨b5, 3, none⟩ = some (.bool ty) := (blk_cell (blk_below HZb5.out (HOW.out _ HTw.out.b)) 3).trans rfl
      have q54 : V1.cell? ⟨b5, 4, none⟩ = some (.int .i64 kd) := (blk_cell (blk_below HZb5.out (HOW.out _ HTw.out.b)) 4).trans rfl
      have q70 : V1.cell? ⟨b7, 0, none⟩ = some (.int .i64 RW) := (blk_cell (blk_below HZb7.out (HOW.out _ HTw.out.b)) 0).trans rfl
      have q71 : V1.cell? ⟨b7, 1, none⟩ = some (.int .i64 RH) := (blk_cell (blk_below HZb7.out (HOW.out _ HTw.out.b)) 1).trans rfl
      have q72 : V1.cell? ⟨b7, 2, none⟩ = some (.slice AR RP.length cR) := (blk_cell (blk_below HZb7.out (HOW.out _ HTw.out.b)) 2).trans rfl
      go_wp2_with (fail)
      refine (refput HTw.out base t dx dy ty kd x.f0 x.f1 A2 c2 x.f2 RW RH AR cR RP (by have := HLN.out; omega) (fun V hV => Kd.C_below HCX.out (HWV.out _ hV)) hc2 (fun V hV => Kd.C_below HA.out (HWV.out _ hV)) hcR HBYX.out HbR.out q HQ.out (s2, 0) HPR.out).mono ?_
      rintro e V2 ⟨rfl, hT, hF⟩
      have HZ19 := A' ((hF b19 rfl).trans HZ19.out)
      have HTw := A' hT
      clear hT hF y0 y1 y2 q50 q51 q52 q53 q54 q70 q71 q72
      go_wp2_with (fail)
      have hp3 := HTw.out.put 0 1 (by have := HLN.out; omega)
      rw [HG0.out, HS1B.out] at hp3
      refine hp3.mono ?_
      rintro e V3 ⟨rfl, hT, hF⟩
      have HZ19 := A' ((hF b19 rfl).trans HZ19.out)
      have HTw := A' hT
      clear hT hF hp3
      have y0 : V3.cell? ⟨b19, 0, none⟩ = some (.int .i64 x.f0) := (blk_cell HZ19.out 0).trans rfl
      have y1 : V3.cell? ⟨b19, 1, none⟩ = some (.int .i64 x.f1) := (blk_cell HZ19.out 1).trans rfl
      have y2 : V3.cell? ⟨b19, 2, none⟩ = some (.slice A2 x.f2.length c2) := (blk_cell HZ19.out 2).trans rfl
      have q50 : V3.cell? ⟨b5, 0, none⟩ = some (.int .i64 t) := (blk_cell (blk_below HZb5.out (HOW.out _ HTw.out.b)) 0).trans rfl
      have q51 : V3.cell? ⟨b5, 1, none⟩ = some (.int .i64 dx) := (blk_cell (blk_below HZb5.out (HOW.out _ HTw.out.b)) 1).trans rfl
      have q52 : V3.cell? ⟨b5, 2, none⟩ = some (.int .i64 dy) := (blk_cell (blk_below HZb5.out (HOW.out _ HTw.out.b)) 2).trans rfl
      have q53 : V3.cell? ⟨b5, 3, none⟩ = some (.bool ty) := (blk_cell (blk_below HZb5.out (HOW.out _ HTw.out.b)) 3).trans rfl
      have q54 : V3.cell? ⟨b5, 4, none⟩ = some (.int .i64 kd) := (blk_cell (blk_below HZb5.out (HOW.out _ HTw.out.b)) 4).trans rfl
      have q70 : V3.cell? ⟨b7, 0, none⟩ = some (.int .i64 RW) := (blk_cell (blk_below HZb7.out (HOW.out _ HTw.out.b)) 0).trans rfl
      have q71 : V3.cell? ⟨b7, 1, none⟩ = some (.int .i64 RH) := (blk_cell (blk_below HZb7.out (HOW.out _ HTw.out.b)) 1).trans rfl
      have q72 : V3.cell? ⟨b7, 2, none⟩ = some (.slice AR RP.length cR) := (blk_cell (blk_below HZb7.out (HOW.out _ HTw.out.b)) 2).trans rfl
      go_wp2_with (fail)
      refine (pput HTw.out base t dx dy ty kd x.f0 x.f1 A2 c2 x.f2 RW RH AR cR RP (by have := HLN.out; omega) HW.out.1 HW.out.2 (fun V hV => Kd.C_below HCX.out (HWV.out _ hV)) hc2 (fun V hV => Kd.C_below HA.out (HWV.out _ hV)) hcR HBYX.out HbR.out q HQ.out (s2, 0) HPR.out).mono ?_
      rintro e V4 ⟨rfl, hT, hF⟩
      have HTw := A' (hT.less (F' := fun _ => False) (fun k hk => hk.elim))
      clear hT hF y0 y1 y2 q50 q51 q52 q53 q54 q70 q71 q72
      simp only
      go_wp2_with (fail)
      exact ⟨⟨k + 1, s2, by omega, by go_num, HS2, ⟨fun j hj => by
       by_cases hjk : j < k
       · exact HOKB.out j hjk
       · rw [show j = k by omega, HX.out]; exact HVB.out⟩, ⟨by have := HLN.out; omega⟩, HTw⟩, by simp [intOf]; omega⟩
  · have hkl : k = l.length := by omega
    have hEV := HS1.out
    rw [hkl] at hEV
    have HALL := A' (show ∀ j : Nat, j < l.length → okB (rd_T31 l (j : Int)).f0 (rd_T31 l (j : Int)).f1 (rd_T31 l (j : Int)).f2 = true from fun j hj => HOKB.out j (by omega))
    have HLN2 := A' (show s1.out.length ≤ 1099511627880 by have := HLN.out; omega)
    have hgood : (evI mk l bits l.length 0).all (goodL sE.st.length) = true := by
     rw [HSEL.out]
     refine evI_good (by omega) l.length 0 (fun j h1 h2 => ?_)
     have hj := HALL.out j (by omega)
     have hx1 : rd_T31 l (j : Int) ∈ l := rdT_mem (by omega)
     have hbm := (okB_bm (HbL.out _ hx1) hj).1
     refine evY_good (q := mk (rd_T31 l (j : Int))) (by rw [HMKD.out]; exact hbm) (by rw [HMKD.out]; exact HBR.out) (by rw [HMKD.out]; exact HT.out) (by rw [HMKD.out]; exact HFIT.out) _ 0
    have hpE := putsI_E (evI mk l bits l.length 0) sE hgood
    have hcb := codeI_bytes sE (evI mk l bits l.length 0) HOKE.out (by have h0 := HOUT0.out; rw [List.eq_nil_of_length_eq_zero h0]; exact fun x hx => absurd hx List.not_mem_nil)
    have hfol : ∃ dE, Fol (newDS kd st s1.end_) (evI mk l bits l.length 0) dE := by
     obtain ⟨d', hf, _⟩ := back_fol (kind := kd) (st := st) (l := evI mk l bits l.length 0) HM.out (by rw [HSE.out, hpE]) (code := s1.end_) (by rw [hEV]; exact hcb.1) (by rw [HSE.out, hpE, hEV])
     exact ⟨d', hf⟩
    obtain ⟨dE, hfd⟩ := hfol
    have HFD := A' hfd
    rw [← hEV] at hcb
    have HCB := A' hcb.1
    have HCL := A' (show s1.end_.length ≤ 1099511627776 by
     have e : s1.end_ = s1.out ++ endOf s1.low s1.high := rfl
     rw [e, List.length_append]
     have h1 := endOf_len s1.low s1.high
     have h2 := HLN.out
     omega)
    have hmst : s1.st.length ≤ 9223372036854775807 := by rw [HS1.out, putsI_len, HSEL.out]; omega
    clear hEV hgood hpE hcb hfd HS1 HOKB HLN hkl
    go_wp2_with (fail)
    refine (HTw.out.end_ HLN2.out).mono ?_
    rintro e V1 ⟨A1, c1, rfl, hR1, hb⟩
    have HTw := A' (HTw.out.below hb)
    have hc1 := (Kd.R_reads' hR1).2.1
    have HC1 := A' (Kd.R_reads' hR1).2.2
    clear hR1 hb
    go_wp2_with (fail)
    refine (HTw.out.rend HLN2.out).mono ?_
    rintro e V2 ⟨A2, c2, rfl, hR2, hb⟩
    have HTw := A' (HTw.out.below hb)
    have hc2 := (Kd.R_reads' hR2).2.1
    have HC2 := A' (Kd.R_reads' hR2).2.2
    have HC1 := A' (Kd.C_below HC1.out hb)
    clear hR2 hb
    go_wp2_with (fail)
    refine (Len.SB A1 c1 A2 c2 s1.end_ _ HC1.out hc1 HC2.out hc2).mono ?_
    rintro e V3 ⟨rfl, hb⟩
    have HTw := A' (HTw.out.below hb)
    have HC1 := A' (Kd.C_below HC1.out hb)
    clear hb
    go_wp2_with (fail)
    refine HTw.out.model.mono ?_
    rintro e V4 ⟨A4, c4, rfl, hR4, hb⟩
    have HTw := A' (HTw.out.below hb)
    have HC1 := A' (Kd.C_below HC1.out hb)
    have hc4 := (Kd.R_reads' hR4).2.1
    have HC4 := A' (Kd.R_reads' hR4).2.2
    clear hR4 hb
    go_wp2_with (fail)
    refine HTw.out.rmodel.mono ?_
    rintro e V5 ⟨A5, c5, rfl, hR5, hb⟩
    have HTw := A' (HTw.out.below hb)
    have HC1 := A' (Kd.C_below HC1.out hb)
    have HC4 := A' (Kd.C_below HC4.out hb)
    have hc5 := (Kd.R_reads' hR5).2.1
    have HC5 := A' (Kd.R_reads' hR5).2.2
    clear hR5 hb
    go_wp2_with (fail)
    obtain ⟨K1, hK1⟩ := Ev.rounds (same_model_ev s1.kind s1.st hmst)
    refine (incunableref02_Same.calls K1 s1.kind A4 c4 s1.st s1.kind A5 c5 s1.st true _ HC4.out hc4 HC5.out hc5 hK1).mono ?_
    rintro e V6 ⟨rfl, hb⟩
    have HTw := A' (HTw.out.below hb)
    have HC1 := A' (Kd.C_below HC1.out hb)
    clear hb hK1 HC4 HC5 HC2 hc4 hc5 hc2
    have HO6 := A' HTw.out.b
    have p0 : V6.cell? ⟨b13, 0, none⟩ = some (.int .i64 kd) := (blk_cell (blk_below HZ13.out HO6.out) 0).trans rfl
    have p1 : V6.cell? ⟨b13, 1, none⟩ = some (.slice (some ⟨gm, 0, none⟩) nn nn) := (blk_cell (blk_below HZ13.out HO6.out) 1).trans rfl
    obtain ⟨code, hcode⟩ : ∃ z, s1.end_ = z := ⟨_, rfl⟩
    rw [hcode] at HC1 hc1 HFD HCB HCL ⊢
    clear hcode HTw
    go_wp2_with (fail)
    clear p0 p1
    refine (HND.out _ A1 c1 code HO6.out HC1.out hc1 HCB.out HCL.out).mono ?_
    rintro e V7 ⟨gd, rfl, hE7, hb⟩
    have HO7 := A' (below_then HO6.out HO6.out.size hb)
    obtain ⟨S, hS⟩ : ∃ S, Since V6.heap.size V7 = S := ⟨_, rfl⟩
    have HSL := A' (show ∀ k, S k → k < V7.heap.size from hS ▸ fun k hk => hk.2)
    have HSG := A' (show ∀ k, S k → W6.heap.size ≤ k from hS ▸ fun k hk => Nat.le_trans HO6.out.size hk.1)
    have HE7 := A' (show DecAt V7 S gd (newDS kd st code) from hS ▸ hE7)
    have HOK7 := A' (newDS_ok HM.out HCB.out HCL.out)
    have HSD7 := A' (show (newDS kd st code).st.length = nn from HLR.out)
    have HFD := A' (show Fol (newDS kd st code) (evI mk l bits (l.length - 0) 0) dE by rw [Nat.sub_zero]; exact HFD.out)
    clear hE7 hb hS
    go_wp2_with (fail)
    go_loopw [155] (fun i wr => ∃ (k : Nat) (d1 : DS), k ≤ l.length ∧ i = .int .i64 k ∧ Aside0 (Fol d1 (evI mk l bits (l.length - k) k) dE) ∧ Aside0 (d1.st.length = nn) ∧ Aside0 d1.ok ∧ Aside0 (DecAt wr S gd d1) ∧ Aside0 (Below W6.heap.size W6 wr) ∧ V7.heap.size ≤ wr.heap.size) (fun i _ => l.length - (intOf i).toNat)
    case atStart => exact ⟨0, _, Nat.zero_le _, rfl, HFD, HSD7, HOK7, HE7, HO7, Nat.le_refl _⟩
    clear HFD HSD7 HOK7 HE7 HO7
    case round =>
     obtain ⟨k, d1, hk, rfl, HFo, HSD, HOKa, HDa, HOa, hsz⟩ := hrel
     by_cases hlt : k < l.length
     · have hltk : (k : Int) < l.length := by omega
       obtain ⟨ad, A2, c2, hAd, x0, x1, x2, hc2, hCx⟩ := at_T31 (Kd.C_below HL.out (HWV.out _ HOa.out)) (k : Int) (by omega) (by omega)
       subst hAd
       simp only [Int.toNat_natCast] at x0 x1 x2
       obtain ⟨x, hx⟩ : ∃ z, rd_T31 l (k : Int) = z := ⟨_, rfl⟩
       rw [hx] at x0 x1 x2 hc2 hCx
       have HX := A' hx
       have HBYX := A' (show Bytes x.f2 from HbL.out x (by rw [← hx]; exact rdT_mem hlt))
       have HCX := A' (show Kd.C (Kd.int .u8) w A2 x.f2.length x.f2 by
        obtain ⟨ad', A2', c2', hAd', _, _, x2', _, hCx'⟩ := at_T31 HL.out (k : Int) (by omega) (by omega)
        simp only [Int.toNat_natCast] at x2'
        rw [hx] at x2' hCx'
        obtain rfl := Option.some.inj hAd'
        have hq2 := pw_cell_below (HWV.out _ HOa.out) x2'
        rw [x2] at hq2
        injection hq2 with hq2
        injection hq2 with hq3
        rw [hq3]
        exact hCx')
       have hkb : (k : Int) < bits.length := by omega
       obtain ⟨q, hq⟩ : ∃ q : RQ, q = ⟨t, dx, dy, ty, x.f0, x.f1, RW, RH, RP, base⟩ := ⟨_, rfl⟩
       have HQ := A' hq
       have HMK := A' (show mk x = q by rw [hq, HMKD.out])
       clear hq hx hCx
       have HVB := A' (show okB x.f0 x.f1 x.f2 = true by have h := HALL.out k hlt; rw [HX.out] at h; exact h)
       have HBX := A' (okB_bm HBYX.out HVB.out).1
       have hfo := HFo.out
       rw [show l.length - k = (l.length - (k + 1)) + 1 by omega] at hfo
       unfold evI evO at hfo
       rw [List.cons_append] at hfo
       have HFo := A' hfo
       clear hfo
       obtain ⟨b24, hb24⟩ : ∃ z, wr.heap.size = z := ⟨_, rfl⟩
       obtain ⟨Wa, hWa⟩ : ∃ z, wr.alloc (.cells #[.int .i64 x.f0, .int .i64 x.f1, .slice A2 x.f2.length c2] 31) = z := ⟨_, rfl⟩
       have hba : Below wr.heap.size wr Wa := hWa ▸ below_alloc (Below.refl _ _) _
       have HOa := A' (below_then HOa.out HOa.out.size hba)
       have HDa := A' (HDa.out.below hba)
       have HZ24 := A' (show Wa.heap[b24]? = some (.cells #[.int .i64 x.f0, .int .i64 x.f1, .slice A2 x.f2.length c2] 31 (0, 0)) from hWa ▸ hb24 ▸ heap_new wr _)
       have h24 : V7.heap.size ≤ b24 := by omega
       have hsa : wr.heap.size ≤ Wa.heap.size := hba.size
       clear hba
       obtain ⟨bv, hbv⟩ : ∃ z, rdOf false bits (k : Int) = z := ⟨_, rfl⟩
       have HBV1 := A' hbv
       clear hbv
       cases bv
       · skip
         obtain ⟨d2, hg2, hf2⟩ := HFo.out
         rw [HBV1.out, show bit1 false = 0 from rfl] at hg2
         simp only at hg2
         have hgl : getErr q kd d2.st.length = 0 := by
          unfold getErr
          rw [HQ.out]
          simp only
          have hb := HVB.out
          unfold okB at hb
          rw [Bool.and_eq_true, Bool.and_eq_true] at hb
          have hl : d2.st.length = d1.st.length := by have h := getI_len d1 0; rw [hg2] at h; exact h
          rw [if_pos HOO.out, if_pos ⟨hb.1.1, HVR.out⟩, hl, HSD.out, if_pos HFIT.out]
         have hf2' : Fol d2 (evR q x.f2 ++ evI mk l bits (l.length - (k + 1)) (k + 1)) dE := by
          rw [HX.out, HMK.out] at hf2
          exact hf2
         obtain ⟨d3, hf3, hg3⟩ := getD_fol q kd (P := x.f2) (by rw [HQ.out]; exact HBX.out) hgl hf2'
         have HG3 := A' (show getD q kd d2 = (d3, (x.f0, x.f1, x.f2), 0) by rw [hg3, HQ.out])
         have HFo2 := A' hf3
         have HG2 := A' hg2
         have HSD3 := A' (show d3.st.length = nn by
          have h1 := getD_len q kd d2
          rw [hg3] at h1
          have h2 := getI_len d1 0
          rw [hg2] at h2
          exact h1.trans (h2.trans HSD.out))
         clear hg2 hf2 hgl hf2' hf3 hg3
         have hgc := get_calls Wa S gd d1 0 HDa.out (fun k hk => Nat.lt_of_lt_of_le (HSL.out k hk) (by omega)) HOKa.out
         rw [HG2.out] at hgc
         go_wp2_with (fail)
         refine hgc.mono ?_
         rintro e V1 ⟨rfl, hE, hM⟩
         have HOK2 := A' (show d2.ok by have h := DS.getI_ok HOKa.out 0; rw [HG2.out] at h; exact h)
         have HE2 := A' hE
         have HO1 := A' (below_mods HOa.out hM HSG.out HOa.out.size)
         have HZ24 := A' (blk_mods HZ24.out hM (fun h => by have := HSL.out _ h; omega))
         have hv1 := hM.size
         clear hE hM hgc
         simp only
         have y0 : V1.cell? ⟨b24, 0, none⟩ = some (.int .i64 x.f0) := (blk_cell HZ24.out 0).trans rfl
         have y1 : V1.cell? ⟨b24, 1, none⟩ = some (.int .i64 x.f1) := (blk_cell HZ24.out 1).trans rfl
         have y2 : V1.cell? ⟨b24, 2, none⟩ = some (.slice A2 x.f2.length c2) := (blk_cell HZ24.out 2).trans rfl
         have q50 : V1.cell? ⟨b5, 0, none⟩ = some (.int .i64 t) := (blk_cell (blk_below HZb5.out (HOW.out _ HO1.out)) 0).trans rfl
         have q51 : V1.cell? ⟨b5, 1, none⟩ = some (.int .i64 dx) := (blk_cell (blk_below HZb5.out (HOW.out _ HO1.out)) 1).trans rfl
         have q52 : V1.cell? ⟨b5, 2, none⟩ = some (.int .i64 dy) := (blk_cell (blk_below HZb5.out (HOW.out _ HO1.out)) 2).trans rfl
         have q53 : V1.cell? ⟨b5, 3, none⟩ = some (.bool ty) := (blk_cell (blk_below HZb5.out (HOW.out _ HO1.out)) 3).trans rfl
         have q54 : V1.cell? ⟨b5, 4, none⟩ = some (.int .i64 kd) := (blk_cell (blk_below HZb5.out (HOW.out _ HO1.out)) 4).trans rfl
         have q70 : V1.cell? ⟨b7, 0, none⟩ = some (.int .i64 RW) := (blk_cell (blk_below HZb7.out (HOW.out _ HO1.out)) 0).trans rfl
         have q71 : V1.cell? ⟨b7, 1, none⟩ = some (.int .i64 RH) := (blk_cell (blk_below HZb7.out (HOW.out _ HO1.out)) 1).trans rfl
         have q72 : V1.cell? ⟨b7, 2, none⟩ = some (.slice AR RP.length cR) := (blk_cell (blk_below HZb7.out (HOW.out _ HO1.out)) 2).trans rfl
         go_wp2_with (fail)
         refine (rfget_calls V1 S gd d2 base t dx dy ty kd x.f0 x.f1 RW RH AR cR RP HE2.out (fun k hk => Nat.lt_of_lt_of_le (HSL.out k hk) (by omega)) HOK2.out HW.out.1 HW.out.2 (fun U hU => Kd.C_below HA.out (HWV.out _ (below_mods HO1.out hU HSG.out HO1.out.size))) hcR HbR.out q HQ.out _ HG3.out).mono ?_
         rintro e V2 ⟨A6, c6, rfl, hR6, hI6⟩
         have HO2 := A' (below_mods HO1.out hI6.m HSG.out HO1.out.size)
         have HZ24 := A' (blk_mods HZ24.out hI6.m (fun h => by have := HSL.out _ h; omega))
         have HE3 := A' hI6.d
         have HOK3 := A' hI6.ok
         have hv2 := hI6.m.size
         simp only at hR6 ⊢
         have hc6 := (Kd.R_reads' hR6).2.1
         have HC6 := A' (Kd.R_reads' hR6).2.2
         clear hI6 hR6 y0 y1 y2 q50 q51 q52 q53 q54 q70 q71 q72
         obtain ⟨b27, hb27⟩ : ∃ z, V2.heap.size = z := ⟨_, rfl⟩
         obtain ⟨V3, hV3⟩ : ∃ z, V2.alloc (.cells #[.int .i64 x.f0, .int .i64 x.f1, .slice A6 x.f2.length c6] 31) = z := ⟨_, rfl⟩
         have hb3' : Below V2.heap.size V2 V3 := hV3 ▸ below_alloc (Below.refl _ _) _
         have HO3 := A' (below_then HO2.out HO2.out.size hb3')
         have HE3 := A' (HE3.out.below hb3')
         have HZ24 := A' (blk_below HZ24.out hb3')
         have HC6 := A' (Kd.C_below HC6.out hb3')
         have HZ27 := A' (show V3.heap[b27]? = some (.cells #[.int .i64 x.f0, .int .i64 x.f1, .slice A6 x.f2.length c6] 31 (0, 0)) from hV3 ▸ hb27 ▸ heap_new V2 _)
         have hv3 := hb3'.size
         clear hb3'
         have y0 : V3.cell? ⟨b24, 0, none⟩ = some (.int .i64 x.f0) := (blk_cell HZ24.out 0).trans rfl
         have y1 : V3.cell? ⟨b24, 1, none⟩ = some (.int .i64 x.f1) := (blk_cell HZ24.out 1).trans rfl
         have y2 : V3.cell? ⟨b24, 2, none⟩ = some (.slice A2 x.f2.length c2) := (blk_cell HZ24.out 2).trans rfl
         have u0 : V3.cell? ⟨b27, 0, none⟩ = some (.int .i64 x.f0) := (blk_cell HZ27.out 0).trans rfl
         have u1 : V3.cell? ⟨b27, 1, none⟩ = some (.int .i64 x.f1) := (blk_cell HZ27.out 1).trans rfl
         have u2 : V3.cell? ⟨b27, 2, none⟩ = some (.slice A6 x.f2.length c6) := (blk_cell HZ27.out 2).trans rfl
         obtain ⟨ai, hAi, hbi⟩ := Kd.at_bool (Kd.C_below HI.out (HWV.out _ HO3.out)) (k : Int) (by omega) hkb
         rw [HBV1.out, Int.toNat_natCast] at hbi
         subst hAi
         go_wp2_with (fail)
         clear hV3 hb27
         obtain ⟨K1, hK1⟩ := Ev.rounds (same_ev x.f0 x.f1 x.f2 (Kd.C_max HC6.out))
         refine (incunableref06_SameBitmap.calls K1 x.f0 x.f1 A6 c6 x.f2 x.f0 x.f1 A2 c2 x.f2 true _ HC6.out hc6 (Kd.C_below HCX.out (HWV.out _ HO3.out)) hc2 hK1).mono ?_
         rintro e V4 ⟨rfl, hb⟩
         have HO4 := A' (below_then HO3.out HO3.out.size hb)
         have HE4 := A' (HE3.out.below hb)
         have hv4 := hb.size
         clear hb hK1 y0 y1 y2 u0 u1 u2 hbi
         go_wp2_with (fail)
         exact ⟨⟨k + 1, d3, by omega, by go_num, HFo2, HSD3, HOK3, HE4, HO4, by omega⟩, by simp [intOf]; omega⟩
       · skip
         obtain ⟨d2, hg2, hf2⟩ := HFo.out
         rw [HBV1.out, show bit1 true = 1 from rfl] at hg2
         simp only at hg2
         have hgl : getErr q kd d2.st.length = 0 := by
          unfold getErr
          rw [HQ.out]
          simp only
          have hb := HVB.out
          unfold okB at hb
          rw [Bool.and_eq_true, Bool.and_eq_true] at hb
          have hl : d2.st.length = d1.st.length := by have h := getI_len d1 0; rw [hg2] at h; exact h
          rw [if_pos HOO.out, if_pos ⟨hb.1.1, HVR.out⟩, hl, HSD.out, if_pos HFIT.out]
         have hf2' : Fol d2 (evR q x.f2 ++ evI mk l bits (l.length - (k + 1)) (k + 1)) dE := by
          rw [HX.out, HMK.out] at hf2
          exact hf2
         obtain ⟨d3, hf3, hg3⟩ := getD_fol q kd (P := x.f2) (by rw [HQ.out]; exact HBX.out) hgl hf2'
         have HG3 := A' (show getD q kd d2 = (d3, (x.f0, x.f1, x.f2), 0) by rw [hg3, HQ.out])
         have HFo2 := A' hf3
         have HG2 := A' hg2
         have HSD3 := A' (show d3.st.length = nn by
          have h1 := getD_len q kd d2
          rw [hg3] at h1
          have h2 := getI_len d1 0
          rw [hg2] at h2
          exact h1.trans (h2.trans HSD.out))
         clear hg2 hf2 hgl hf2' hf3 hg3
         have hgc := get_calls Wa S gd d1 0 HDa.out (fun k hk => Nat.lt_of_lt_of_le (HSL.out k hk) (by omega)) HOKa.out
         rw [HG2.out] at hgc
         go_wp2_with (fail)
         refine hgc.mono ?_
         rintro e V1 ⟨rfl, hE, hM⟩
         have HOK2 := A' (show d2.ok by have h := DS.getI_ok HOKa.out 0; rw [HG2.out] at h; exact h)
         have HE2 := A' hE
         have HO1 := A' (below_mods HOa.out hM HSG.out HOa.out.size)
         have HZ24 := A' (blk_mods HZ24.out hM (fun h => by have := HSL.out _ h; omega))
         have hv1 := hM.size
         clear hE hM hgc
         simp only
         have y0 : V1.cell? ⟨b24, 0, none⟩ = some (.int .i64 x.f0) := (blk_cell HZ24.out 0).trans rfl
         have y1 : V1.cell? ⟨b24, 1, none⟩ = some (.int .i64 x.f1) := (blk_cell HZ24.out 1).trans rfl
         have y2 : V1.cell? ⟨b24, 2, none⟩ = some (.slice A2 x.f2.length c2) := (blk_cell HZ24.out 2).trans rfl
         have q50 : V1.cell? ⟨b5, 0, none⟩ = some (.int .i64 t) := (blk_cell (blk_below HZb5.out (HOW.out _ HO1.out)) 0).trans rfl
         have q51 : V1.cell? ⟨b5, 1, none⟩ = some (.int .i64 dx) := (blk_cell (blk_below HZb5.out (HOW.out _ HO1.out)) 1).trans rfl
         have q52 : V1.cell? ⟨b5, 2, none⟩ = some (.int .i64 dy) := (blk_cell (blk_below HZb5.out (HOW.out _ HO1.out)) 2).trans rfl
         have q53 : V1.cell? ⟨b5, 3, none⟩ = some (.bool ty) := (blk_cell (blk_below HZb5.out (HOW.out _ HO1.out)) 3).trans rfl
         have q54 : V1.cell? ⟨b5, 4, none⟩ = some (.int .i64 kd) := (blk_cell (blk_below HZb5.out (HOW.out _ HO1.out)) 4).trans rfl
         have q70 : V1.cell? ⟨b7, 0, none⟩ = some (.int .i64 RW) := (blk_cell (blk_below HZb7.out (HOW.out _ HO1.out)) 0).trans rfl
         have q71 : V1.cell? ⟨b7, 1, none⟩ = some (.int .i64 RH) := (blk_cell (blk_below HZb7.out (HOW.out _ HO1.out)) 1).trans rfl
         have q72 : V1.cell? ⟨b7, 2, none⟩ = some (.slice AR RP.length cR) := (blk_cell (blk_below HZb7.out (HOW.out _ HO1.out)) 2).trans rfl
         go_wp2_with (fail)
         refine (rfget_calls V1 S gd d2 base t dx dy ty kd x.f0 x.f1 RW RH AR cR RP HE2.out (fun k hk => Nat.lt_of_lt_of_le (HSL.out k hk) (by omega)) HOK2.out HW.out.1 HW.out.2 (fun U hU => Kd.C_below HA.out (HWV.out _ (below_mods HO1.out hU HSG.out HO1.out.size))) hcR HbR.out q HQ.out _ HG3.out).mono ?_
         rintro e V2 ⟨A6, c6, rfl, hR6, hI6⟩
         have HO2 := A' (below_mods HO1.out hI6.m HSG.out HO1.out.size)
         have HZ24 := A' (blk_mods HZ24.out hI6.m (fun h => by have := HSL.out _ h; omega))
         have HE3 := A' hI6.d
         have HOK3 := A' hI6.ok
         have hv2 := hI6.m.size
         simp only at hR6 ⊢
         have hc6 := (Kd.R_reads' hR6).2.1
         have HC6 := A' (Kd.R_reads' hR6).2.2
         clear hI6 hR6 y0 y1 y2 q50 q51 q52 q53 q54 q70 q71 q72
         obtain ⟨b27, hb27⟩ : ∃ z, V2.heap.size = z := ⟨_, rfl⟩
         obtain ⟨V3, hV3⟩ : ∃ z, V2.alloc (.cells #[.int .i64 x.f0, .int .i64 x.f1, .slice A6 x.f2.length c6] 31) = z := ⟨_, rfl⟩
         have hb3' : Below V2.heap.size V2 V3 := hV3 ▸ below_alloc (Below.refl _ _) _
         have HO3 := A' (below_then HO2.out HO2.out.size hb3')
         have HE3 := A' (HE3.out.below hb3')
         have HZ24 := A' (blk_below HZ24.out hb3')
         have HC6 := A' (Kd.C_below HC6.out hb3')
         have HZ27 := A' (show V3.heap[b27]? = some (.cells #[.int .i64 x.f0, .int .i64 x.f1, .slice A6 x.f2.length c6] 31 (0, 0)) from hV3 ▸ hb27 ▸ heap_new V2 _)
         have hv3 := hb3'.size
         clear hb3'
         have y0 : V3.cell? ⟨b24, 0, none⟩ = some (.int .i64 x.f0) := (blk_cell HZ24.out 0).trans rfl
         have y1 : V3.cell? ⟨b24, 1, none⟩ = some (.int .i64 x.f1) := (blk_cell HZ24.out 1).trans rfl
         have y2 : V3.cell? ⟨b24, 2, none⟩ = some (.slice A2 x.f2.length c2) := (blk_cell HZ24.out 2).trans rfl
         have u0 : V3.cell? ⟨b27, 0, none⟩ = some (.int .i64 x.f0) := (blk_cell HZ27.out 0).trans rfl
         have u1 : V3.cell? ⟨b27, 1, none⟩ = some (.int .i64 x.f1) := (blk_cell HZ27.out 1).trans rfl
         have u2 : V3.cell? ⟨b27, 2, none⟩ = some (.slice A6 x.f2.length c6) := (blk_cell HZ27.out 2).trans rfl
         obtain ⟨ai, hAi, hbi⟩ := Kd.at_bool (Kd.C_below HI.out (HWV.out _ HO3.out)) (k : Int) (by omega) hkb
         rw [HBV1.out, Int.toNat_natCast] at hbi
         subst hAi
         go_wp2_with (fail)
         clear hV3 hb27
         obtain ⟨K1, hK1⟩ := Ev.rounds (same_ev x.f0 x.f1 x.f2 (Kd.C_max HC6.out))
         refine (incunableref06_SameBitmap.calls K1 x.f0 x.f1 A6 c6 x.f2 x.f0 x.f1 A2 c2 x.f2 true _ HC6.out hc6 (Kd.C_below HCX.out (HWV.out _ HO3.out)) hc2 hK1).mono ?_
         rintro e V4 ⟨rfl, hb⟩
         have HO4 := A' (below_then HO3.out HO3.out.size hb)
         have HE4 := A' (HE3.out.below hb)
         have hv4 := hb.size
         clear hb hK1 y0 y1 y2 u0 u1 u2 hbi
         go_wp2_with (fail)
         exact ⟨⟨k + 1, d3, by omega, by go_num, HFo2, HSD3, HOK3, HE4, HO4, by omega⟩, by simp [intOf]; omega⟩
     · go_wp2_with (fail)
       refine (Raw.awake_calls _).mono ?_
       rintro e W9 ⟨rfl, hb⟩
       have HD9 := A' (below_then (HWV.out _ HOa.out) (HWV.out _ HOa.out).size hb)
       clear hb
       go_wp2_with (fail)
       go_ret
       exact ⟨rfl, HD9.out⟩
end Go.Proofs.Ytkfejicdjpffcaa.Lpu
