import Derived.Test.YtkfejicdjpffcaaMRefineDecodes2
import Derived.Test.YtkfejicdjpffcaaMRefineDecodes3
import Derived.Test.YtkfejicdjpffcaaMRefineDecodes4
import Derived.Laws.ResultCell
import Derived.Test.YtkfejicdjpffcaaMRefineDecodes1
import Derived.Test.YtkfejicdjpffcaaMRefineDecodes0
set_option linter.unusedVariables false
set_option linter.unusedSimpArgs false
namespace Go.Proofs.Ytkfejicdjpffcaa.Rde
open Go Go.RowKit YtkfejicdjpffcaaW PrintWords PrintLast PrintMore U Aid HandAid Cod1 Cod2 Cod3 Ytkfejicdjpffcaa.Mod NewRef Enc Mods EncAt Put End Snc Dec Get DecNew RefAt RDec RDecNew Isk Pse Pwk Rpx Rva Rfl Rcx Rty Rev Ren Rdv Rrw Rmk Rgt Rrg
/-- What Decode answers. -/
def decB (q : RQ) (kd : Int) (code : List Int) : (Int × Int × List Int) × Int := if okO q.t q.dx q.dy kd = true then ((getD q kd (newDS kd (List.replicate (ctxs q.t + 1).toNat 0) code)).2.1, (getD q kd (newDS kd (List.replicate (ctxs q.t + 1).toNat 0) code)).2.2) else ((0, 0, []), 2)
def DPost (w : World) (R : (Int × Int × List Int) × Int) (e : Ending) (W : World) : Prop :=
 ∃ A c, e = .returned (.tuple #[.agg #[.int .i64 R.1.1, .int .i64 R.1.2.1, .slice A R.1.2.2.length c], .int .i64 R.2]) ∧ Kd.R (Kd.int .u8) 5 W w.heap.size (fun _ => True) (.slice A R.1.2.2.length c) R.1.2.2 ∧ Below w.heap.size w W
theorem DPost.bad {w W : World} {b : Nat} (err : Int) (h : Below w.heap.size w W) (hb : w.heap.size ≤ b) : DPost w ((0, 0, []), err) (.returned (.tuple #[.agg #[.int .i64 0, .int .i64 0, .slice none 0 0], .int .i64 err])) (((W.setCell ⟨b, 0, none⟩ (.int .i64 0)).setCell ⟨b, 1, none⟩ (.int .i64 0)).setCell ⟨b, 2, none⟩ (.slice none 0 0)) :=
 ⟨none, 0, rfl, Kd.R_nil _ _ _ w.heap.size (fun _ => True), ((h.setCell hb _).setCell hb _).setCell hb _⟩
theorem row_from {α : Type} {d : Kd α} {e : Nat} {W : World} {base : Nat} {ok : Nat → Prop} {v : Value} {xs : List α} (h : Kd.R d e W base ok v xs) : Kd.R d e W base (fun k => base ≤ k ∧ ok k) v xs := Kd.R_mono (Kd.R_bound h) (fun k hk => ⟨hk.2.1, hk.1⟩)
theorem dret19 {W : World} {b : Nat} {x y err : Int} {A : Option Addr} {n c : Nat} {tmps : Array Value} (hz : W.heap[b]? = some (.cells #[.int .i64 x, .int .i64 y, .slice A n c] 31 (0, 0))) (h2 : tmps.getD 10 undef = .pointer (some ⟨b, 0, none⟩)) (h3 : tmps.getD 11 undef = .int .i64 err) :
 (results Try.f19 tmps).run Try.prog W = .ok (.tuple #[.agg #[.int .i64 x, .int .i64 y, .slice A n c], .int .i64 err]) W := by
 have y0 : W.cell? ⟨b, 0, none⟩ = some (.int .i64 x) := (blk_cell hz 0).trans rfl
 have y1 : W.cell? ⟨b, 1, none⟩ = some (.int .i64 y) := (blk_cell hz 1).trans rfl
 have y2 : W.cell? ⟨b, 2, none⟩ = some (.slice A n c) := (blk_cell hz 2).trans rfl
 have hu := Try.underlying31
 rw [results_cell_tmp rfl, h2, h3]
 go_simp
theorem dret20 {W : World} {b : Nat} {x y err : Int} {A : Option Addr} {n c : Nat} {tmps : Array Value} (hz : W.heap[b]? = some (.cells #[.int .i64 x, .int .i64 y, .slice A n c] 31 (0, 0))) (h2 : tmps.getD 10 undef = .pointer (some ⟨b, 0, none⟩)) (h3 : tmps.getD 11 undef = .int .i64 err) :
 (results Try.f20 tmps).run Try.prog W = .ok (.tuple #[.agg #[.int .i64 x, .int .i64 y, .slice A n c], .int .i64 err]) W := by
 have y0 : W.cell? ⟨b, 0, none⟩ = some (.int .i64 x) := (blk_cell hz 0).trans rfl
 have y1 : W.cell? ⟨b, 1, none⟩ = some (.int .i64 y) := (blk_cell hz 1).trans rfl
 have y2 : W.cell? ⟨b, 2, none⟩ = some (.slice A n c) := (blk_cell hz 2).trans rfl
 have hu := Try.underlying31
 rw [results_cell_tmp rfl, h2, h3]
 go_simp
set_option maxHeartbeats 4000000 in
set_option maxRecDepth 100000 in
theorem rdecode_calls (w : World) (t dx dy : Int) (ty : Bool) (kd : Int) (AC : Option Addr) (cC : Nat) (code : List Int) (W H : Int) (RW RH : Int) (AR : Option Addr) (cR : Nat) (RP : List Int) (hdx : -9223372036854775808 ≤ dx ∧ dx ≤ 9223372036854775807) (hdy : -9223372036854775808 ≤ dy ∧ dy ≤ 9223372036854775807) (hC : Kd.C (Kd.int .u8) w AC code.length code) (hcC : code.length ≤ cC) (hbC : Bytes code) (hlen : code.length ≤ 1099511627776) (hA : Kd.C (Kd.int .u8) w AR RP.length RP) (hcR : RP.length ≤ cR) (hbR : Bytes RP) (R : (Int × Int × List Int) × Int) (hR : decB ⟨t, dx, dy, ty, W, H, RW, RH, RP, 0⟩ kd code = R) :
 Calls Try.prog 19 #[.agg #[.int .i64 t, .int .i64 dx, .int .i64 dy, .bool ty, .int .i64 kd], .slice AC code.length cC, .int .i64 W, .int .i64 H, .agg #[.int .i64 RW, .int .i64 RH, .slice AR RP.length cR]] w (DPost w R) := by
 have HC := A' hC
 have HA := A' hA
 have HbC := A' hbC
 have HbR := A' hbR
 have hmR : RP.length ≤ 9223372036854775807 := Kd.C_max hA
 obtain ⟨q, hq⟩ : ∃ q : RQ, q = ⟨t, dx, dy, ty, W, H, RW, RH, RP, 0⟩ := ⟨_, rfl⟩
 rw [← hq] at hR
 have HQQ := A' hq
 unfold decB at hR
 have e1 : okO q.t q.dx q.dy kd = okO t dx dy kd := by rw [hq]
 have e4 : ctxs q.t = ctxs t := by rw [hq]
 rw [e1, e4] at hR
 have HR := A' hR
 have hu3 := Try.underlying23
 have hu4 := Try.underlying31
 have hu5 := Try.underlying45
 clear hC hA hbC hbR hR hq e1 e4
 go_enter Try.func19, Try.ntmps19
 go_wp2_with (fail)
 obtain ⟨b10, hb10⟩ : ∃ x, w.heap.size + 1 + 1 = x := ⟨_, rfl⟩
 obtain ⟨b9, hb9⟩ : ∃ x, w.heap.size + 1 = x := ⟨_, rfl⟩
 obtain ⟨b5, hb5⟩ : ∃ x, w.heap.size = x := ⟨_, rfl⟩
 obtain ⟨W1, hW1⟩ : ∃ x, ((w.alloc (.cells #[.int .i64 t, .int .i64 dx, .int .i64 dy, .bool ty, .int .i64 kd] 23)).alloc (.cells #[.int .i64 RW, .int .i64 RH, .slice AR RP.length cR] 31)).alloc (.cells #[.int .i64 0, .int .i64 0, .slice none 0 0] 31) = x := ⟨_, rfl⟩
 have HB1 := A' (show Below w.heap.size w W1 from hW1 ▸ below_alloc (below_alloc (below_alloc (Below.refl _ _) _) _) _)
 have HZ10 := A' (show W1.heap[b10]? = some (.cells #[.int .i64 0, .int .i64 0, .slice none 0 0] 31 (0, 0)) by
  have h := heap_new ((w.alloc (.cells #[.int .i64 t, .int .i64 dx, .int .i64 dy, .bool ty, .int .i64 kd] 23)).alloc (.cells #[.int .i64 RW, .int .i64 RH, .slice AR RP.length cR] 31)) (.cells #[.int .i64 0, .int .i64 0, .slice none 0 0] 31)
  rw [World.size_alloc, World.size_alloc, hb10, hW1] at h
  exact h)
 have HZ9 := A' (show W1.heap[b9]? = some (.cells #[.int .i64 RW, .int .i64 RH, .slice AR RP.length cR] 31 (0, 0)) by
  have h := heap_new (w.alloc (.cells #[.int .i64 t, .int .i64 dx, .int .i64 dy, .bool ty, .int .i64 kd] 23)) (.cells #[.int .i64 RW, .int .i64 RH, .slice AR RP.length cR] 31)
  rw [World.size_alloc, hb9] at h
  rw [← hW1]
  exact blk_alloc h _)
 have HZ5 := A' (show W1.heap[b5]? = some (.cells #[.int .i64 t, .int .i64 dx, .int .i64 dy, .bool ty, .int .i64 kd] 23 (0, 0)) by
  have h := heap_new w (.cells #[.int .i64 t, .int .i64 dx, .int .i64 dy, .bool ty, .int .i64 kd] 23)
  rw [hb5] at h
  rw [← hW1]
  exact blk_alloc (blk_alloc h _) _)
 have HG10 := A' (show w.heap.size ≤ b10 ∧ b10 < W1.heap.size from ⟨by omega, blk_lt HZ10.out⟩)
 rw [hb10, hb9, hb5, hW1]
 have HD1 := A' (Below.refl W1.heap.size W1)
 clear hb10 hb9 hb5 hW1
 refine (refine_Valid.calls t dx dy ty kd _ _ (valid_eq t dx dy ty kd hdx hdy)).mono ?_
 rintro e W3 ⟨rfl, hb⟩
 have HD3 := A' hb
 clear hb
 have hR := HR.out
 clear HR
 obtain ⟨vo, hvo⟩ : ∃ x, okO t dx dy kd = x := ⟨_, rfl⟩
 rw [hvo] at hR ⊢
 cases vo
 · rw [if_neg (show ¬ (false = true) by decide)] at hR
   subst hR
   clear hvo
   have hz := blk_below HZ10.out HD3.out
   have m0 : W3.cell? ⟨b10, 0, none⟩ = some (.int .i64 0) := (blk_cell hz 0).trans rfl
   have m1 : W3.cell? ⟨b10, 1, none⟩ = some (.int .i64 0) := (blk_cell hz 1).trans rfl
   have m2 : W3.cell? ⟨b10, 2, none⟩ = some (.slice none 0 0) := (blk_cell hz 2).trans rfl
   have k0 := blk_frozen hz 0
   have k1 := blk_frozen hz 1
   have k2 := blk_frozen hz 2
   have HZW := A' (zset3 hz (.int .i64 0) (.int .i64 0) (.slice none 0 0))
   have hP := DPost.bad (w := w) (b := b10) 2 (below_then HB1.out HB1.out.size HD3.out) HG10.out.1
   clear hz
   go_wp2_with (fail)
   exact bodyPost_ret (dret19 HZW.out rfl rfl) rfl hP
 rw [if_pos (show true = true from rfl)] at hR
 have hk := (okO_iff.1 hvo).2.1
 have HVO := A' hvo
 have HMO := A' (model_eq t dx dy ty kd hvo)
 have HK := A' (stN_ok t kd hk)
 clear hvo hk
 generalize List.replicate (ctxs t + 1).toNat (0 : Int) = st at hR HMO HK
 have HR := A' hR
 clear hR
 have q50 : W3.cell? ⟨b5, 0, none⟩ = some (.int .i64 t) := (blk_cell (blk_below HZ5.out HD3.out) 0).trans rfl
 have q51 : W3.cell? ⟨b5, 1, none⟩ = some (.int .i64 dx) := (blk_cell (blk_below HZ5.out HD3.out) 1).trans rfl
 have q52 : W3.cell? ⟨b5, 2, none⟩ = some (.int .i64 dy) := (blk_cell (blk_below HZ5.out HD3.out) 2).trans rfl
 have q53 : W3.cell? ⟨b5, 3, none⟩ = some (.bool ty) := (blk_cell (blk_below HZ5.out HD3.out) 3).trans rfl
 have q54 : W3.cell? ⟨b5, 4, none⟩ = some (.int .i64 kd) := (blk_cell (blk_below HZ5.out HD3.out) 4).trans rfl
 go_wp2_with (fail)
 refine (refine_model.calls t dx dy ty kd kd st _ HMO.out).mono ?_
 rintro e W4 ⟨v, rfl, hRv, hb⟩
 obtain ⟨Am, cm, rfl⟩ := Kd.R_slice hRv
 have HD4 := A' (below_then HD3.out HD3.out.size hb)
 have hcm := (Kd.R_reads' hRv).2.1
 have HCM := A' (Kd.R_reads' hRv).2.2
 clear hRv hb q50 q51 q52 q53 q54
 go_wp2_with (fail)
 refine (new_dec Am cm kd st AC cC code _ HCM.out hcm HK.out (Kd.C_below HC.out (below_then HB1.out HB1.out.size HD4.out)) hcC HbC.out hlen).mono ?_
 rintro e W5 ⟨g, rfl, hE, hb⟩
 have HD5 := A' (below_then HD4.out HD4.out.size hb)
 have HE := A' hE
 have HSI := A' (show ∀ k, Since W4.heap.size W5 k → W1.heap.size ≤ k from fun k hk => Nat.le_trans HD4.out.size hk.1)
 have HSL := A' (show ∀ k, Since W4.heap.size W5 k → k < W5.heap.size from fun k hk => hk.2)
 have HBV := A' (show ∀ V, Mods W5 V (Since W4.heap.size W5) → Below W1.heap.size W1 V from fun V hV => below_mods HD5.out hV HSI.out HD5.out.size)
 generalize Since W4.heap.size W5 = S at HE HSI HSL HBV
 clear hE hb HCM hcm
 have q50 : W5.cell? ⟨b5, 0, none⟩ = some (.int .i64 t) := (blk_cell (blk_below HZ5.out HD5.out) 0).trans rfl
 have q51 : W5.cell? ⟨b5, 1, none⟩ = some (.int .i64 dx) := (blk_cell (blk_below HZ5.out HD5.out) 1).trans rfl
 have q52 : W5.cell? ⟨b5, 2, none⟩ = some (.int .i64 dy) := (blk_cell (blk_below HZ5.out HD5.out) 2).trans rfl
 have q53 : W5.cell? ⟨b5, 3, none⟩ = some (.bool ty) := (blk_cell (blk_below HZ5.out HD5.out) 3).trans rfl
 have q54 : W5.cell? ⟨b5, 4, none⟩ = some (.int .i64 kd) := (blk_cell (blk_below HZ5.out HD5.out) 4).trans rfl
 have q90 : W5.cell? ⟨b9, 0, none⟩ = some (.int .i64 RW) := (blk_cell (blk_below HZ9.out HD5.out) 0).trans rfl
 have q91 : W5.cell? ⟨b9, 1, none⟩ = some (.int .i64 RH) := (blk_cell (blk_below HZ9.out HD5.out) 1).trans rfl
 have q92 : W5.cell? ⟨b9, 2, none⟩ = some (.slice AR RP.length cR) := (blk_cell (blk_below HZ9.out HD5.out) 2).trans rfl
 go_wp2_with (fail)
 refine (rfget_calls W5 S g (newDS kd st code) 0 t dx dy ty kd W H RW RH AR cR RP HE.out HSL.out (newDS_ok HK.out HbC.out hlen) hdx hdy (fun V hV => Kd.C_below HA.out (below_then HB1.out HB1.out.size (HBV.out V hV))) hcR HbR.out q HQQ.out _ rfl).mono ?_
 rintro e W6 ⟨A6, c6, rfl, hR6, hI6⟩
 clear q50 q51 q52 q53 q54 q90 q91 q92 HE
 have HB6 := A' (HBV.out _ hI6.m)
 have hR := HR.out
 clear HR
 obtain ⟨⟨s6, ⟨x6, y6, P6⟩, e6⟩, hg6⟩ : ∃ r, getD q kd (newDS kd st code) = r := ⟨_, rfl⟩
 rw [hg6] at hR6 hR ⊢
 simp only at hR6 hR ⊢
 subst hR
 have HR6 := A' (Kd.R_lower hR6 (Nat.le_trans HB1.out.size HD5.out.size))
 have HNE := A' (show ∀ k, W5.heap.size ≤ k → k ≠ b10 from fun k hk he => by have := HG10.out.2; have := HD5.out.size; omega)
 have hR6b := row_from hR6
 clear hg6 hI6
 have hz := blk_below HZ10.out HB6.out
 have m0 : W6.cell? ⟨b10, 0, none⟩ = some (.int .i64 0) := (blk_cell hz 0).trans rfl
 have m1 : W6.cell? ⟨b10, 1, none⟩ = some (.int .i64 0) := (blk_cell hz 1).trans rfl
 have m2 : W6.cell? ⟨b10, 2, none⟩ = some (.slice none 0 0) := (blk_cell hz 2).trans rfl
 have k0 := blk_frozen hz 0
 have k1 := blk_frozen hz 1
 have k2 := blk_frozen hz 2
 have HZW := A' (zset3 hz (.int .i64 x6) (.int .i64 y6) (.slice A6 P6.length c6))
 have hP : DPost w ((x6, y6, P6), e6) (.returned (.tuple #[.agg #[.int .i64 x6, .int .i64 y6, .slice A6 P6.length c6], .int .i64 e6])) (((W6.setCell ⟨b10, 0, none⟩ (.int .i64 x6)).setCell ⟨b10, 1, none⟩ (.int .i64 y6)).setCell ⟨b10, 2, none⟩ (.slice A6 P6.length c6)) :=
  ⟨A6, c6, rfl, Kd.R_mono (Kd.R_lower (Kd.R_far (p := ⟨b10, 2, none⟩) (Kd.R_far (p := ⟨b10, 1, none⟩) (Kd.R_far (p := ⟨b10, 0, none⟩) hR6b (fun k hk => HNE.out k hk.1) (.int .i64 x6)) (fun k hk => HNE.out k hk.1) (.int .i64 y6)) (fun k hk => HNE.out k hk.1) (.slice A6 P6.length c6)) (Nat.le_trans HB1.out.size HD5.out.size)) (fun _ _ => trivial), (((below_then HB1.out HB1.out.size HB6.out).setCell HG10.out.1 _).setCell HG10.out.1 _).setCell HG10.out.1 _⟩
 clear hz hR6 hR6b
 go_wp2_with (fail)
 exact bodyPost_ret (dret19 HZW.out rfl rfl) rfl hP
set_option maxHeartbeats 4000000 in
set_option maxRecDepth 100000 in
theorem refdecode_calls (w : World) (t dx dy : Int) (ty : Bool) (kd : Int) (AC : Option Addr) (cC : Nat) (code : List Int) (W H : Int) (RW RH : Int) (AR : Option Addr) (cR : Nat) (RP : List Int) (hC : Kd.C (Kd.int .u8) w AC code.length code) (hcC : code.length ≤ cC) (hbC : Bytes code) (hlen : code.length ≤ 1099511627776) (hA : Kd.C (Kd.int .u8) w AR RP.length RP) (hcR : RP.length ≤ cR) (hbR : Bytes RP) (R : (Int × Int × List Int) × Int) (hR : decB ⟨t, dx, dy, ty, W, H, RW, RH, RP, 0⟩ kd code = R) :
 Calls Try.prog 20 #[.agg #[.int .i64 t, .int .i64 dx, .int .i64 dy, .bool ty, .int .i64 kd], .slice AC code.length cC, .int .i64 W, .int .i64 H, .agg #[.int .i64 RW, .int .i64 RH, .slice AR RP.length cR]] w (DPost w R) := by
 have HC := A' hC
 have HA := A' hA
 have HbC := A' hbC
 have HbR := A' hbR
 have hmR : RP.length ≤ 9223372036854775807 := Kd.C_max hA
 obtain ⟨q, hq⟩ : ∃ q : RQ, q = ⟨t, dx, dy, ty, W, H, RW, RH, RP, 0⟩ := ⟨_, rfl⟩
 rw [← hq] at hR
 have HQQ := A' hq
 unfold decB at hR
 have e1 : okO q.t q.dx q.dy kd = okO t dx dy kd := by rw [hq]
 have e4 : ctxs q.t = ctxs t := by rw [hq]
 rw [e1, e4] at hR
 have HR := A' hR
 have hu3 := Try.underlying23
 have hu4 := Try.underlying31
 have hu5 := Try.underlying45
 clear hC hA hbC hbR hR hq e1 e4
 go_enter Try.func20, Try.ntmps20
 go_wp2_with (fail)
 obtain ⟨b10, hb10⟩ : ∃ x, w.heap.size + 1 + 1 = x := ⟨_, rfl⟩
 obtain ⟨b9, hb9⟩ : ∃ x, w.heap.size + 1 = x := ⟨_, rfl⟩
 obtain ⟨b5, hb5⟩ : ∃ x, w.heap.size = x := ⟨_, rfl⟩
 obtain ⟨W1, hW1⟩ : ∃ x, ((w.alloc (.cells #[.int .i64 t, .int .i64 dx, .int .i64 dy, .bool ty, .int .i64 kd] 23)).alloc (.cells #[.int .i64 RW, .int .i64 RH, .slice AR RP.length cR] 31)).alloc (.cells #[.int .i64 0, .int .i64 0, .slice none 0 0] 31) = x := ⟨_, rfl⟩
 have HB1 := A' (show Below w.heap.size w W1 from hW1 ▸ below_alloc (below_alloc (below_alloc (Below.refl _ _) _) _) _)
 have HZ10 := A' (show W1.heap[b10]? = some (.cells #[.int .i64 0, .int .i64 0, .slice none 0 0] 31 (0, 0)) by
  have h := heap_new ((w.alloc (.cells #[.int .i64 t, .int .i64 dx, .int .i64 dy, .bool ty, .int .i64 kd] 23)).alloc (.cells #[.int .i64 RW, .int .i64 RH, .slice AR RP.length cR] 31)) (.cells #[.int .i64 0, .int .i64 0, .slice none 0 0] 31)
  rw [World.size_alloc, World.size_alloc, hb10, hW1] at h
  exact h)
 have HZ9 := A' (show W1.heap[b9]? = some (.cells #[.int .i64 RW, .int .i64 RH, .slice AR RP.length cR] 31 (0, 0)) by
  have h := heap_new (w.alloc (.cells #[.int .i64 t, .int .i64 dx, .int .i64 dy, .bool ty, .int .i64 kd] 23)) (.cells #[.int .i64 RW, .int .i64 RH, .slice AR RP.length cR] 31)
  rw [World.size_alloc, hb9] at h
  rw [← hW1]
  exact blk_alloc h _)
 have HZ5 := A' (show W1.heap[b5]? = some (.cells #[.int .i64 t, .int .i64 dx, .int .i64 dy, .bool ty, .int .i64 kd] 23 (0, 0)) by
  have h := heap_new w (.cells #[.int .i64 t, .int .i64 dx, .int .i64 dy, .bool ty, .int .i64 kd] 23)
  rw [hb5] at h
  rw [← hW1]
  exact blk_alloc (blk_alloc h _) _)
 have HG10 := A' (show w.heap.size ≤ b10 ∧ b10 < W1.heap.size from ⟨by omega, blk_lt HZ10.out⟩)
 rw [hb10, hb9, hb5, hW1]
 have HD1 := A' (Below.refl W1.heap.size W1)
 clear hb10 hb9 hb5 hW1
 refine (Hsm.rvalid_calls t dx dy ty kd _).mono ?_
 rintro e W3 ⟨rfl, hb⟩
 have HD3 := A' hb
 clear hb
 have hR := HR.out
 clear HR
 obtain ⟨vo, hvo⟩ : ∃ x, okO t dx dy kd = x := ⟨_, rfl⟩
 rw [hvo] at hR ⊢
 cases vo
 · rw [if_neg (show ¬ (false = true) by decide)] at hR
   subst hR
   clear hvo
   have hz := blk_below HZ10.out HD3.out
   have m0 : W3.cell? ⟨b10, 0, none⟩ = some (.int .i64 0) := (blk_cell hz 0).trans rfl
   have m1 : W3.cell? ⟨b10, 1, none⟩ = some (.int .i64 0) := (blk_cell hz 1).trans rfl
   have m2 : W3.cell? ⟨b10, 2, none⟩ = some (.slice none 0 0) := (blk_cell hz 2).trans rfl
   have k0 := blk_frozen hz 0
   have k1 := blk_frozen hz 1
   have k2 := blk_frozen hz 2
   have HZW := A' (zset3 hz (.int .i64 0) (.int .i64 0) (.slice none 0 0))
   have hP := DPost.bad (w := w) (b := b10) 2 (below_then HB1.out HB1.out.size HD3.out) HG10.out.1
   clear hz
   go_wp2_with (fail)
   exact bodyPost_ret (dret20 HZW.out rfl rfl) rfl hP
 rw [if_pos (show true = true from rfl)] at hR
 have hk := (okO_iff.1 hvo).2.1
 have HVO := A' hvo
 have HMO := A' (fresh_eq t dx dy ty kd)
 have HK := A' (stN_ok t kd hk)
 clear hvo hk
 generalize List.replicate (ctxs t + 1).toNat (0 : Int) = st at hR HMO HK
 have HR := A' hR
 clear hR
 have hge : ∀ n, getErr q kd n = if okS W H = true ∧ okB RW RH RP = true then (if okF n 0 t = true then 0 else 2) else 30 := by
  intro n
  unfold getErr
  rw [HQQ.out]
  simp only
  rw [if_pos HVO.out]
 have HGE := A' hge
 clear hge
 go_wp2_with (fail)
 refine (incunableref06_IsSize.calls W H _ _ (issize_eq W H)).mono ?_
 rintro e W3a ⟨rfl, hdr⟩
 have HD3 := A' (below_then HD3.out HD3.out.size hdr.below)
 clear hdr
 obtain ⟨vs, hvs⟩ : ∃ x, okS W H = x := ⟨_, rfl⟩
 have hR := HR.out
 clear HR
 cases vs
 · rw [hvs]
   have hgb : getD q kd (newDS kd st code) = (newDS kd st code, (0, 0, []), 30) := by
    unfold getD
    rw [HGE.out, hvs, if_neg (show ¬ (false = true ∧ okB RW RH RP = true) by simp), if_neg (by decide)]
   rw [hgb] at hR
   subst hR
   clear hgb hvs
   have hz := blk_below HZ10.out HD3.out
   have m0 : W3a.cell? ⟨b10, 0, none⟩ = some (.int .i64 0) := (blk_cell hz 0).trans rfl
   have m1 : W3a.cell? ⟨b10, 1, none⟩ = some (.int .i64 0) := (blk_cell hz 1).trans rfl
   have m2 : W3a.cell? ⟨b10, 2, none⟩ = some (.slice none 0 0) := (blk_cell hz 2).trans rfl
   have k0 := blk_frozen hz 0
   have k1 := blk_frozen hz 1
   have k2 := blk_frozen hz 2
   have HZW := A' (zset3 hz (.int .i64 0) (.int .i64 0) (.slice none 0 0))
   have hP := DPost.bad (w := w) (b := b10) 30 (below_then HB1.out HB1.out.size HD3.out) HG10.out.1
   clear hz
   go_wp2_with (fail)
   exact bodyPost_ret (dret20 HZW.out rfl rfl) rfl hP
 have HVS := A' hvs
 rw [hvs]
 have HR := A' hR
 clear hvs hR
 have q90 : W3a.cell? ⟨b9, 0, none⟩ = some (.int .i64 RW) := (blk_cell (blk_below HZ9.out HD3.out) 0).trans rfl
 have q91 : W3a.cell? ⟨b9, 1, none⟩ = some (.int .i64 RH) := (blk_cell (blk_below HZ9.out HD3.out) 1).trans rfl
 have q92 : W3a.cell? ⟨b9, 2, none⟩ = some (.slice AR RP.length cR) := (blk_cell (blk_below HZ9.out HD3.out) 2).trans rfl
 go_wp2_with (fail)
 obtain ⟨K1, hK1⟩ := Ev.rounds (isbitmap_ev RW RH RP hmR)
 refine (incunableref06_IsBitmap.calls K1 RW RH AR cR RP _ _ (Kd.C_below HA.out (below_then HB1.out HB1.out.size HD3.out)) hcR hK1).mono ?_
 rintro e W3b ⟨rfl, hb⟩
 have HD3 := A' (below_then HD3.out HD3.out.size hb)
 clear hb hK1 q90 q91 q92
 obtain ⟨vr, hvr⟩ : ∃ x, okB RW RH RP = x := ⟨_, rfl⟩
 have hR := HR.out
 clear HR
 cases vr
 · rw [hvr]
   have hgb : getD q kd (newDS kd st code) = (newDS kd st code, (0, 0, []), 30) := by
    unfold getD
    rw [HGE.out, hvr, if_neg (show ¬ (okS W H = true ∧ false = true) by simp), if_neg (by decide)]
   rw [hgb] at hR
   subst hR
   clear hgb hvr
   have hz := blk_below HZ10.out HD3.out
   have m0 : W3b.cell? ⟨b10, 0, none⟩ = some (.int .i64 0) := (blk_cell hz 0).trans rfl
   have m1 : W3b.cell? ⟨b10, 1, none⟩ = some (.int .i64 0) := (blk_cell hz 1).trans rfl
   have m2 : W3b.cell? ⟨b10, 2, none⟩ = some (.slice none 0 0) := (blk_cell hz 2).trans rfl
   have k0 := blk_frozen hz 0
   have k1 := blk_frozen hz 1
   have k2 := blk_frozen hz 2
   have HZW := A' (zset3 hz (.int .i64 0) (.int .i64 0) (.slice none 0 0))
   have hP := DPost.bad (w := w) (b := b10) 30 (below_then HB1.out HB1.out.size HD3.out) HG10.out.1
   clear hz
   go_wp2_with (fail)
   exact bodyPost_ret (dret20 HZW.out rfl rfl) rfl hP
 rw [hvr]
 have HR := A' hR
 clear hvr hR
 have q50 : W3b.cell? ⟨b5, 0, none⟩ = some (.int .i64 t) := (blk_cell (blk_below HZ5.out HD3.out) 0).trans rfl
 have q51 : W3b.cell? ⟨b5, 1, none⟩ = some (.int .i64 dx) := (blk_cell (blk_below HZ5.out HD3.out) 1).trans rfl
 have q52 : W3b.cell? ⟨b5, 2, none⟩ = some (.int .i64 dy) := (blk_cell (blk_below HZ5.out HD3.out) 2).trans rfl
 have q53 : W3b.cell? ⟨b5, 3, none⟩ = some (.bool ty) := (blk_cell (blk_below HZ5.out HD3.out) 3).trans rfl
 have q54 : W3b.cell? ⟨b5, 4, none⟩ = some (.int .i64 kd) := (blk_cell (blk_below HZ5.out HD3.out) 4).trans rfl
 go_wp2_with (fail)
 refine (incunableref08_fresh.calls t dx dy ty kd kd st _ HMO.out).mono ?_
 rintro e W4 ⟨v, rfl, hRv, hb⟩
 obtain ⟨Am, cm, rfl⟩ := Kd.R_slice hRv
 have HD4 := A' (below_then HD3.out HD3.out.size hb)
 have hcm := (Kd.R_reads' hRv).2.1
 have HCM := A' (Kd.R_reads' hRv).2.2
 clear hRv hb q50 q51 q52 q53 q54
 go_wp2_with (fail)
 refine (rnew_dec Am cm kd st AC cC code _ HCM.out hcm HK.out (Kd.C_below HC.out (below_then HB1.out HB1.out.size HD4.out)) hcC HbC.out hlen).mono ?_
 rintro e W5 ⟨g, rfl, hE, hb⟩
 have HD5 := A' (below_then HD4.out HD4.out.size hb)
 have HE := A' hE
 have HSI := A' (show ∀ k, Since W4.heap.size W5 k → W1.heap.size ≤ k from fun k hk => Nat.le_trans HD4.out.size hk.1)
 have HSL := A' (show ∀ k, Since W4.heap.size W5 k → k < W5.heap.size from fun k hk => hk.2)
 have HBV := A' (show ∀ V, Mods W5 V (Since W4.heap.size W5) → Below W1.heap.size W1 V from fun V hV => below_mods HD5.out hV HSI.out HD5.out.size)
 generalize Since W4.heap.size W5 = S at HE HSI HSL HBV
 clear hE hb HCM hcm
 have q50 : W5.cell? ⟨b5, 0, none⟩ = some (.int .i64 t) := (blk_cell (blk_below HZ5.out HD5.out) 0).trans rfl
 have q51 : W5.cell? ⟨b5, 1, none⟩ = some (.int .i64 dx) := (blk_cell (blk_below HZ5.out HD5.out) 1).trans rfl
 have q52 : W5.cell? ⟨b5, 2, none⟩ = some (.int .i64 dy) := (blk_cell (blk_below HZ5.out HD5.out) 2).trans rfl
 have q53 : W5.cell? ⟨b5, 3, none⟩ = some (.bool ty) := (blk_cell (blk_below HZ5.out HD5.out) 3).trans rfl
 have q54 : W5.cell? ⟨b5, 4, none⟩ = some (.int .i64 kd) := (blk_cell (blk_below HZ5.out HD5.out) 4).trans rfl
 have q90 : W5.cell? ⟨b9, 0, none⟩ = some (.int .i64 RW) := (blk_cell (blk_below HZ9.out HD5.out) 0).trans rfl
 have q91 : W5.cell? ⟨b9, 1, none⟩ = some (.int .i64 RH) := (blk_cell (blk_below HZ9.out HD5.out) 1).trans rfl
 have q92 : W5.cell? ⟨b9, 2, none⟩ = some (.slice AR RP.length cR) := (blk_cell (blk_below HZ9.out HD5.out) 2).trans rfl
 go_wp2_with (fail)
 refine (refget_calls W5 S g (newDS kd st code) 0 t dx dy ty kd W H RW RH AR cR RP HE.out HSL.out (newDS_ok HK.out HbC.out hlen) (fun V hV => Kd.C_below HA.out (below_then HB1.out HB1.out.size (HBV.out V hV))) hcR HbR.out q HQQ.out _ rfl).mono ?_
 rintro e W6 ⟨A6, c6, rfl, hR6, hI6⟩
 clear q50 q51 q52 q53 q54 q90 q91 q92 HE
 have HB6 := A' (HBV.out _ hI6.m)
 have hR := HR.out
 clear HR
 obtain ⟨⟨s6, ⟨x6, y6, P6⟩, e6⟩, hg6⟩ : ∃ r, getD q kd (newDS kd st code) = r := ⟨_, rfl⟩
 rw [hg6] at hR6 hR ⊢
 simp only at hR6 hR ⊢
 subst hR
 have HR6 := A' (Kd.R_lower hR6 (Nat.le_trans HB1.out.size HD5.out.size))
 have HNE := A' (show ∀ k, W5.heap.size ≤ k → k ≠ b10 from fun k hk he => by have := HG10.out.2; have := HD5.out.size; omega)
 have hR6b := row_from hR6
 clear hg6 hI6
 have hz := blk_below HZ10.out HB6.out
 have m0 : W6.cell? ⟨b10, 0, none⟩ = some (.int .i64 0) := (blk_cell hz 0).trans rfl
 have m1 : W6.cell? ⟨b10, 1, none⟩ = some (.int .i64 0) := (blk_cell hz 1).trans rfl
 have m2 : W6.cell? ⟨b10, 2, none⟩ = some (.slice none 0 0) := (blk_cell hz 2).trans rfl
 have k0 := blk_frozen hz 0
 have k1 := blk_frozen hz 1
 have k2 := blk_frozen hz 2
 have HZW := A' (zset3 hz (.int .i64 x6) (.int .i64 y6) (.slice A6 P6.length c6))
 have hP : DPost w ((x6, y6, P6), e6) (.returned (.tuple #[.agg #[.int .i64 x6, .int .i64 y6, .slice A6 P6.length c6], .int .i64 e6])) (((W6.setCell ⟨b10, 0, none⟩ (.int .i64 x6)).setCell ⟨b10, 1, none⟩ (.int .i64 y6)).setCell ⟨b10, 2, none⟩ (.slice A6 P6.length c6)) :=
  ⟨A6, c6, rfl, Kd.R_mono (Kd.R_lower (Kd.R_far (p := ⟨b10, 2, none⟩) (Kd.R_far (p := ⟨b10, 1, none⟩) (Kd.R_far (p := ⟨b10, 0, none⟩) hR6b (fun k hk => HNE.out k hk.1) (.int .i64 x6)) (fun k hk => HNE.out k hk.1) (.int .i64 y6)) (fun k hk => HNE.out k hk.1) (.slice A6 P6.length c6)) (Nat.le_trans HB1.out.size HD5.out.size)) (fun _ _ => trivial), (((below_then HB1.out HB1.out.size HB6.out).setCell HG10.out.1 _).setCell HG10.out.1 _).setCell HG10.out.1 _⟩
 clear hz hR6 hR6b
 go_wp2_with (fail)
 exact bodyPost_ret (dret20 HZW.out rfl rfl) rfl hP
end Go.Proofs.Ytkfejicdjpffcaa.Rde
namespace Go.Proofs.Ytkfejicdjpffcaa.Rbk
open Go Go.RowKit YtkfejicdjpffcaaW PrintWords PrintLast PrintMore U Aid HandAid Cod1 Cod2 Cod3 Ytkfejicdjpffcaa.Mod NewRef Enc Mods EncAt Put End Snc Dec Get DecNew Isk Pse Bkp Rpx Rva Rev Ren Rdv Rde
/-- The first n pixels are told. -/
structure Agr (P Pk : List Int) (n : Int) : Prop where
 l : Pk.length = P.length
 a : ∀ i : Int, 0 ≤ i → i < n → rd Pk i = rd P i
theorem rd_set_eq {l : List Int} {i : Nat} (h : i < l.length) (v : Int) : rd (l.set i v) (i : Int) = v := by
 rw [rd_at (by rw [List.length_set]; exact h)]
 simp
theorem rd_set_ne {l : List Int} {i : Nat} {j : Int} (h0 : 0 ≤ j) (hne : j ≠ (i : Int)) (v : Int) : rd (l.set i v) j = rd l j := by
 obtain ⟨k, rfl⟩ : ∃ k : Nat, j = (k : Int) := ⟨j.toNat, by omega⟩
 unfold rd
 rw [Int.toNat_natCast, List.getD_eq_getElem?_getD, List.getD_eq_getElem?_getD, List.getElem?_set]
 rw [if_neg (by omega)]
theorem Agr.set {P Pk : List Int} {n : Nat} (h : Agr P Pk (n : Int)) (hn : n < P.length) {v : Int} (hv : v = rd P (n : Int)) : Agr P (Pk.set n v) ((n : Int) + 1) := by
 refine ⟨by rw [List.length_set]; exact h.l, fun i h0 hi => ?_⟩
 by_cases c : i = (n : Int)
 · rw [c, rd_set_eq (by rw [h.l]; exact hn), hv]
 · rw [rd_set_ne h0 c]
   exact h.a i h0 (by omega)
theorem Agr.eq {P Pk : List Int} (h : Agr P Pk (P.length : Int)) : Pk = P := by
 apply List.ext_getElem h.l
 intro i h1 h2
 have := h.a (i : Int) (by omega) (by omega)
 rw [rd_at h1, rd_at h2] at this
 exact this
theorem px_agr {W H : Int} {P Pk : List Int} {n : Int} (hW : 0 ≤ W) (h : Agr P Pk n) (x y : Int) (hi : 0 ≤ x → 0 ≤ y → x < W → y < H → y * W + x < n) : px W H Pk x y = px W H P x y := by
 unfold px
 by_cases c : 0 ≤ x ∧ 0 ≤ y ∧ x < W ∧ y < H
 · rw [if_pos c, if_pos c]
   have := Int.mul_nonneg c.2.1 hW
   exact h.a _ (by omega) (hi c.1 c.2.1 c.2.2.1 c.2.2.2)
 · rw [if_neg c, if_neg c]
def behind (d : S127) : Prop := d.f1 = -1 ∨ (d.f1 = 0 ∧ d.f0 = -1)
theorem behind_news (t : Int) : ∀ d ∈ news t, behind d := by
 unfold news behind
 split <;> simp
theorem ctxN_agr {W H : Int} {P Pk : List Int} (hW : 0 ≤ W) (x y : Int) (hx : 0 ≤ x) (h : Agr P Pk (y * W + x)) : ∀ (l : List S127) (n : Int), (∀ d ∈ l, behind d) → ctxN W H Pk x y l n = ctxN W H P x y l n
 | [], n, _ => rfl
 | d :: l, n, hl => by
   simp only [ctxN]
   have e : px W H Pk (x + d.f0) (y + d.f1) = px W H P (x + d.f0) (y + d.f1) := by
    refine px_agr hW h _ _ (fun h1 h2 h3 h4 => ?_)
    rcases hl d List.mem_cons_self with hb | ⟨hb1, hb2⟩
    · rw [hb, Int.add_mul]
      omega
    · rw [hb1, hb2, Int.add_zero]
      omega
   rw [e]
   exact ctxN_agr hW x y hx h l _ (fun d hd => hl d (List.mem_cons_of_mem _ hd))
theorem ctx_agr (q : RQ) {P Pk : List Int} (hW : 0 ≤ q.W) (x y : Int) (hx : 0 ≤ x) (h : Agr P Pk (y * q.W + x)) : q.ctx Pk x y = q.ctx P x y := by
 unfold RQ.ctx ctxP
 rw [ctxN_agr hW x y hx h (news q.t) 0 (behind_news q.t)]
theorem rowP_spec (dx dy W H : Int) (P : List Int) (RW RH : Int) (RP : List Int) (y : Int) : ∀ (d i : Nat), rowP dx dy W H P RW RH RP y d i = true → ∀ m : Nat, i ≤ m → m < i + d → (flatP RW RH RP ((m : Int) - dx) (y - dy)).2 = true → px W H P m y = (flatP RW RH RP ((m : Int) - dx) (y - dy)).1
 | 0, i, _, m, h1, h2, _ => by omega
 | d + 1, i, h, m, h1, h2, hf => by
   unfold rowP at h
   by_cases c : (flatP RW RH RP ((i : Int) - dx) (y - dy)).2 = true
   · rw [if_pos c] at h
     by_cases c2 : px W H P i y = (flatP RW RH RP ((i : Int) - dx) (y - dy)).1
     · rw [if_pos c2] at h
       by_cases e : m = i
       · rw [e]; exact c2
       · exact rowP_spec dx dy W H P RW RH RP y d (i + 1) h m (by omega) (by omega) hf
     · rw [if_neg c2] at h
       exact absurd h (by decide)
   · rw [if_neg c] at h
     by_cases e : m = i
     · rw [e] at hf
       exact absurd hf c
     · exact rowP_spec dx dy W H P RW RH RP y d (i + 1) h m (by omega) (by omega) hf
theorem px_in {W H : Int} {P : List Int} {x y : Int} (h0 : 0 ≤ x) (h1 : 0 ≤ y) (h2 : x < W) (h3 : y < H) : px W H P x y = rd P (y * W + x) := by
 unfold px
 rw [if_pos ⟨h0, h1, h2, h3⟩]
theorem fol_row (q : RQ) {P : List Int} (b : Bm q.W q.H P) (y : Nat) (hy : (y : Int) < q.H) (typ : Bool) (ht : typ = true → rowP q.dx q.dy q.W q.H P q.RW q.RH q.RP y q.W.toNat 0 = true) (rest : List S72) (e : DS) :
 ∀ (d i : Nat) (s : DS) (Pk : List Int), i + d = q.W.toNat → Agr P Pk ((y : Int) * q.W + i) → Fol s (evX q P y typ d i ++ rest) e → ∃ s2 Pk2, Fol s2 rest e ∧ rowD q y (bit1 typ) d i s Pk = (s2, Pk2, 0) ∧ Agr P Pk2 ((y : Int) * q.W + q.W)
 | 0, i, s, Pk, h, ha, hf => by
   have hw := b.w
   refine ⟨s, Pk, hf, rfl, ?_⟩
   rw [show q.W = (i : Int) by omega] at ha ⊢
   exact ha
 | d + 1, i, s, Pk, h, ha, hf => by
   have hw := b.w
   have hat := b.at_ (x := (i : Int)) (y := (y : Int)) (by omega) (by omega) (by omega) hy
   obtain ⟨ix, hix⟩ : ∃ ix : Nat, (y : Int) * q.W + i = ix := ⟨((y : Int) * q.W + i).toNat, by omega⟩
   have hpx := px_in (W := q.W) (H := q.H) (P := P) (x := (i : Int)) (y := (y : Int)) (by omega) (by omega) (by omega) hy
   have hcx := ctx_agr q (P := P) (Pk := Pk) hw.1 (i : Int) (y : Int) (by omega) ha
   unfold rowD
   unfold evX at hf
   rw [hix] at ha hpx hat ⊢
   rw [Int.toNat_natCast]
   have hnx : ∀ v, v = rd P (ix : Int) → Agr P (Pk.set ix v) ((y : Int) * q.W + ((i + 1 : Nat) : Int)) := fun v hv => by
    have := ha.set (by omega) hv
    rw [show (y : Int) * q.W + ((i + 1 : Nat) : Int) = (ix : Int) + 1 by omega]
    exact this
   by_cases c : typ = true ∧ (q.flat i y).2 = true
   · rw [if_pos c] at hf
     have c1 : bit1 typ = 1 := by rw [c.1]; rfl
     rw [if_pos ⟨c1, c.2⟩]
     have hv := rowP_spec _ _ _ _ _ _ _ _ _ _ _ (ht c.1) i (Nat.zero_le _) (by omega) c.2
     exact fol_row q b y hy typ ht rest e d (i + 1) s _ (by omega) (hnx _ (by rw [← hpx]; exact hv.symm)) hf
   · rw [if_neg c] at hf
     have c2 : ¬ (bit1 typ = 1 ∧ (q.flat i y).2 = true) := fun hc => c ⟨by cases typ; exact absurd hc.1 (by decide); rfl, hc.2⟩
     rw [if_neg c2, hcx]
     rw [List.cons_append] at hf
     obtain ⟨s1, hg, hf⟩ := hf
     simp only at hg
     rw [hg]
     simp only [if_true]
     exact fol_row q b y hy typ ht rest e d (i + 1) s1 _ (by omega) (hnx _ hpx) hf
theorem fol_rows (q : RQ) {P : List Int} (b : Bm q.W q.H P) (rest : List S72) (e : DS) :
 ∀ (d j : Nat) (s : DS) (Pk : List Int), j + d = q.H.toNat → Agr P Pk ((j : Int) * q.W) → Fol s (evY q P d j ++ rest) e → ∃ s2 Pk2, Fol s2 rest e ∧ rowsD q d j s Pk = (s2, Pk2, 0) ∧ Agr P Pk2 (q.H * q.W)
 | 0, j, s, Pk, h, ha, hf => by
   have hh := b.h
   refine ⟨s, Pk, hf, rfl, ?_⟩
   rw [show q.H = (j : Int) by omega]
   exact ha
 | d + 1, j, s, Pk, h, ha, hf => by
   have hh := b.h
   unfold evY at hf
   rw [List.append_assoc, List.append_assoc] at hf
   have hstep : ∀ s1 (typ : Bool), (typ = true → rowP q.dx q.dy q.W q.H P q.RW q.RH q.RP j q.W.toNat 0 = true) → Fol s1 (evX q P j typ q.W.toNat 0 ++ (evY q P d (j + 1) ++ rest)) e → rowH q j s Pk = rowD q j (bit1 typ) q.W.toNat 0 s1 Pk → ∃ s2 Pk2, Fol s2 rest e ∧ rowsD q (d + 1) j s Pk = (s2, Pk2, 0) ∧ Agr P Pk2 (q.H * q.W) := by
    intro s1 typ ht hf1 hrow
    obtain ⟨s2, Pk2, hf2, hr2, ha2⟩ := fol_row q b j (by omega) typ ht _ e q.W.toNat 0 s1 Pk (by omega) (by rw [show (j : Int) * q.W + ((0 : Nat) : Int) = (j : Int) * q.W by omega]; exact ha) hf1
    unfold rowsD
    rw [hrow, hr2]
    simp only [if_true]
    exact fol_rows q b rest e d (j + 1) s2 Pk2 (by omega) (by rw [show ((j + 1 : Nat) : Int) = (j : Int) + 1 by omega, Int.add_mul, Int.one_mul]; exact ha2) hf2
   unfold evH at hf
   by_cases c : q.ty = true
   · rw [if_pos c, List.cons_append, List.nil_append] at hf
     obtain ⟨s1, hg, hf⟩ := hf
     simp only at hg
     refine hstep s1 (q.typ P j) (fun ht => ?_) hf ?_
     · unfold RQ.typ at ht
       rw [Bool.and_eq_true] at ht
       exact ht.2
     · unfold rowH
       rw [if_pos c, hg]
       simp only [if_true]
   · rw [if_neg c, List.nil_append] at hf
     have ct : q.typ P j = false := by
      unfold RQ.typ
      rw [show q.ty = false by simpa using c]
      rfl
     rw [ct] at hf
     refine hstep s false (fun ht => absurd ht (by decide)) hf ?_
     unfold rowH
     rw [if_neg c]
     rfl
/-- A region whose events a decoder tells is the region that is told. -/
theorem getD_fol (q : RQ) (kd : Int) {P : List Int} (b : Bm q.W q.H P) {s e : DS} {rest : List S72} (h0 : getErr q kd s.st.length = 0) (hf : Fol s (evR q P ++ rest) e) : ∃ s2, Fol s2 rest e ∧ getD q kd s = (s2, (q.W, q.H, P), 0) := by
 have hl : (List.replicate (q.W * q.H).toNat (0 : Int)).length = P.length := by
  rw [List.length_replicate]
  have := b.n
  omega
 obtain ⟨s2, Pk2, hf2, hr2, ha2⟩ := fol_rows q b rest e q.H.toNat 0 s (List.replicate (q.W * q.H).toNat 0) (by omega) ⟨hl, fun i h1 h2 => by rw [show (((0 : Nat) : Int)) * q.W = 0 from Int.zero_mul _] at h2; omega⟩ hf
 have hP : Pk2 = P := by
  have hn := b.n
  rw [Int.mul_comm] at hn
  rw [← hn] at ha2
  exact ha2.eq
 refine ⟨s2, hf2, ?_⟩
 unfold getD
 rw [if_pos h0, hr2]
 simp only [if_true]
 rw [hP]
/-- What is encoded comes back. -/
theorem dec_enc (q : RQ) (kd : Int) {P : List Int} (hbase : q.base = 0) (ho : okO q.t q.dx q.dy kd = true) (hP : Bytes P) (hR : Bytes q.RP) (hb : okB q.W q.H P = true) (hr : okB q.RW q.RH q.RP = true) (hby : Bytes (encB q kd P).1) : decB q kd (encB q kd P).1 = ((q.W, q.H, P), 0) := by
 have hoo := okO_iff.1 ho
 have b := (okB_bm hP hb).1
 have br := (okB_bm hR hr).1
 have hst := stN_ok q.t kd hoo.2.1
 have hfit : okF (List.replicate (ctxs q.t + 1).toNat (0 : Int)).length q.base q.t = true := by rw [hbase]; exact stN_fits q.t
 have hgood := evY_good b br hoo.1 hfit q.H.toNat 0
 have he : encB q kd P = ((putsI (newES kd (List.replicate (ctxs q.t + 1).toNat 0)) (evR q P)).end_, 0) := by
  unfold encB
  rw [if_pos ho, if_pos ⟨hb, hr⟩]
 rw [he] at hby ⊢
 simp only at hby ⊢
 have hpe : putsE (newES kd (List.replicate (ctxs q.t + 1).toNat 0)) (evR q P) = (putsI (newES kd (List.replicate (ctxs q.t + 1).toNat 0)) (evR q P), 0) := putsI_E _ _ hgood
 obtain ⟨d', hf, _⟩ := back_fol (kind := kd) (st := List.replicate (ctxs q.t + 1).toNat 0) (l := evR q P) hst (by rw [hpe]) (code := (putsI (newES kd (List.replicate (ctxs q.t + 1).toNat 0)) (evR q P)).end_) hby (by rw [hpe])
 have hge : getErr q kd (newDS kd (List.replicate (ctxs q.t + 1).toNat 0) (putsI (newES kd (List.replicate (ctxs q.t + 1).toNat 0)) (evR q P)).end_).st.length = 0 := by
  unfold getErr
  unfold okB at hb
  rw [Bool.and_eq_true, Bool.and_eq_true] at hb
  rw [if_pos ho, if_pos ⟨hb.1.1, hr⟩]
  exact if_pos hfit
 obtain ⟨s2, _, hg⟩ := getD_fol q kd b (rest := []) hge (by rw [List.append_nil]; exact hf)
 unfold decB
 rw [if_pos ho, hg]
end Go.Proofs.Ytkfejicdjpffcaa.Rbk
namespace Go.Proofs.Ytkfejicdjpffcaa.Cby
open Go Go.RowKit YtkfejicdjpffcaaW PrintWords PrintLast PrintMore U Aid HandAid Cod1 Cod2 Cod3 Ytkfejicdjpffcaa.Mod NewRef Enc Mods EncAt Put End Snc Dec Get DecNew Isk Pse Bkp Rpx Rva Rev Ren Rdv Rde Rbk
theorem norm_bytes : ∀ (d : Nat) (l h : Int), 0 ≤ l → l ≤ h → h ≤ 4294967295 → Bytes (normE d l h).1
 | 0, _, _, _, _, _ => fun x hx => absurd hx List.not_mem_nil
 | d + 1, l, h, h0, h1, h2 => by
   unfold normE
   split
   · intro x hx
     rcases List.mem_cons.1 hx with rfl | hx
     · omega
     · exact norm_bytes d _ _ (by omega) (by omega) (by omega) x hx
   · exact fun x hx => absurd hx List.not_mem_nil
theorem endOf_bytes (low high : Int) (h0 : 0 ≤ high) (h1 : high ≤ 4294967295) : Bytes (endOf low high) := by
 intro x hx
 have hx := List.mem_of_mem_take hx
 simp only [hiBytes, List.mem_cons, List.not_mem_nil, or_false] at hx
 rcases hx with rfl | rfl | rfl | rfl <;> omega
theorem endOf_len (low high : Int) : (endOf low high).length ≤ 4 := Nat.le_trans (List.length_take_le' _ _) (Nat.le_refl _)
theorem putsI_bytes : ∀ (l : List S72) (s : ES), s.ok → Bytes s.out → Bytes (putsI s l).out
 | [], s, _, h => h
 | x :: l, s, hok, h => by
   rw [putsI_cons]
   refine putsI_bytes l _ (ES.putI_ok hok _ _) ?_
   unfold ES.putI
   split
   · rename_i hg
     simp only [ES.good, Bool.and_eq_true, Bool.or_eq_true, decide_eq_true_eq] at hg
     have hc := ES.cut_ hok (i := x.f0.toNat) (by omega) (bit := x.f1)
     intro y hy
     rcases List.mem_append.1 hy with hy | hy
     · exact h y hy
     · exact norm_bytes 4 _ _ hc.1 hc.2.1 hc.2.2 y hy
   · exact h
theorem codeI_bytes (s : ES) (l : List S72) (hok : s.ok) (hb : Bytes s.out) : Bytes (putsI s l).end_ ∧ (putsI s l).end_.length ≤ s.out.length + 4 * l.length + 4 := by
 have h := putsI_ok l s hok
 have e : (putsI s l).end_ = (putsI s l).out ++ endOf (putsI s l).low (putsI s l).high := rfl
 rw [e]
 constructor
 · intro y hy
   rcases List.mem_append.1 hy with hy | hy
   · exact putsI_bytes l s hok hb y hy
   · exact endOf_bytes _ _ (by have := h.l; have := h.lh; omega) h.h y hy
 · rw [List.length_append]
   have := putsI_out l s
   have := endOf_len (putsI s l).low (putsI s l).high
   omega
/-- A region's code is of bytes, and not long. -/
theorem encB_bytes (q : RQ) (kd : Int) {P : List Int} (hP : Bytes P) : Bytes (encB q kd P).1 ∧ (encB q kd P).1.length ≤ 200000 := by
 unfold encB
 by_cases ho : okO q.t q.dx q.dy kd = true
 · rw [if_pos ho]
   by_cases hb : okB q.W q.H P = true ∧ okB q.RW q.RH q.RP = true
   · rw [if_pos hb]
     have b := (okB_bm hP hb.1).1
     have h := codeI_bytes (newES kd (List.replicate (ctxs q.t + 1).toNat 0)) (evR q P) (newES_ok (stN_ok q.t kd (okO_iff.1 ho).2.1)) (fun x hx => absurd hx List.not_mem_nil)
     have hl := evR_len q P b.w.2 b.h.2
     refine ⟨h.1, ?_⟩
     have h2 := h.2
     have h3 : (newES kd (List.replicate (ctxs q.t + 1).toNat 0)).out.length = 0 := rfl
     show (putsI (newES kd (List.replicate (ctxs q.t + 1).toNat 0)) (evR q P)).end_.length ≤ 200000
     omega
   · rw [if_neg hb]
     exact ⟨fun x hx => absurd hx List.not_mem_nil, Nat.zero_le _⟩
 · rw [if_neg ho]
   exact ⟨fun x hx => absurd hx List.not_mem_nil, Nat.zero_le _⟩
end Go.Proofs.Ytkfejicdjpffcaa.Cby
namespace Go.Proofs.Ytkfejicdjpffcaa.Raw
open Go Go.RowKit YtkfejicdjpffcaaW PrintWords PrintLast PrintMore U Aid HandAid Cod1 Cod2 Cod3 Ytkfejicdjpffcaa.Mod NewRef Enc Mods EncAt Put End Snc Dec Get DecNew Isk Pse Bkp Rpx Rva Rev Ren Rdv Rmk Rde Rbk Cby
def aq : RQ := ⟨0, 0, 0, true, 2, 2, 0, 0, [], 0⟩
def aP : List Int := List.replicate 4 0
theorem aP_bytes : Bytes aP := fun x hx => by rw [List.eq_of_mem_replicate hx]; decide
theorem nil_bytes : Bytes [] := fun x hx => absurd hx List.not_mem_nil
set_option maxHeartbeats 2000000 in
set_option maxRecDepth 100000 in
theorem awake_calls (w : World) : Calls Try.prog 15 #[] w fun e w' => e = .returned (.bool true) ∧ Below w.heap.size w w' := by
 have hu3 := Try.underlying23
 have hu4 := Try.underlying31
 have hok : okO aq.t aq.dx aq.dy 0 = true := by decide
 have hokb : okB aq.W aq.H aP = true := by decide
 have hokr : okB aq.RW aq.RH aq.RP = true := by decide
 obtain ⟨⟨code, er⟩, he⟩ : ∃ r, encB aq 0 aP = r := ⟨_, rfl⟩
 have hby := encB_bytes aq 0 aP_bytes
 have hbk := dec_enc aq 0 rfl hok aP_bytes nil_bytes hokb hokr hby.1
 have her : (encB aq 0 aP).2 = 0 := by unfold encB; rw [if_pos hok, if_pos ⟨hokb, hokr⟩]
 rw [he] at hby hbk her
 simp only at hby hbk her
 subst her
 have HENC := A' (show ∀ V (A : Option Addr), Kd.C (Kd.int .u8) V A 4 aP → Calls Try.prog 16 #[.agg #[.int .i64 0, .int .i64 0, .int .i64 0, .bool true, .int .i64 0], .agg #[.int .i64 2, .int .i64 2, .slice A 4 4], .agg #[.int .i64 0, .int .i64 0, .slice none 0 0]] V (EBytes V (code, 0)) from fun V A hC => rencode_calls V 0 0 0 true 0 2 2 A 4 aP 0 0 none 0 [] (by decide) (by decide) hC (Nat.le_refl _) (Kd.C_nil _ _) (Nat.le_refl _) aP_bytes nil_bytes _ he)
 have HDEC := A' (show ∀ V (A : Option Addr) (c : Nat), Kd.C (Kd.int .u8) V A code.length code → code.length ≤ c → Calls Try.prog 19 #[.agg #[.int .i64 0, .int .i64 0, .int .i64 0, .bool true, .int .i64 0], .slice A code.length c, .int .i64 2, .int .i64 2, .agg #[.int .i64 0, .int .i64 0, .slice none 0 0]] V (DPost V ((2, 2, aP), 0)) from fun V A c hC hc => rdecode_calls V 0 0 0 true 0 A c code 2 2 0 0 none 0 [] (by decide) (by decide) hC hc hby.1 (by have := hby.2; omega) (Kd.C_nil _ _) (Nat.le_refl _) nil_bytes _ hbk)
 clear hok hokb hokr he hby hbk
 go_enter Try.func15, Try.ntmps15
 go_wp2_with ((with_reducible refine gate_dst (N := 9) rfl ?_); refine Kd.event_run (v := .slice (some ⟨w.heap.size, 0, none⟩) 4 4) (w1 := w.alloc (.cells (zcells 4) 5)) rfl (make_step w (.const (.int .i64 4)) (.const (.int .i64 4)) rfl (4 : Int) (4 : Nat) rfl rfl rfl (by decide)) ?_; (obtain ⟨gp, hgp⟩ : ∃ x, w.heap.size = x := ⟨_, rfl⟩); (obtain ⟨W1, hW1⟩ : ∃ x, w.alloc (.cells (zcells 4) 5) = x := ⟨_, rfl⟩); have HROW := A' (show Kd.R (Kd.int .u8) 5 W1 w.heap.size (fun k => k = gp) (.slice (some ⟨gp, 0, none⟩) 4 4) aP by rw [← hW1, ← hgp]; exact made_row w w.heap.size 4 (Nat.le_refl _) (by decide)); have HB1 := A' (show Below w.heap.size w W1 from hW1 ▸ below_alloc (Below.refl _ _) _); rw [hgp, hW1]; clear hgp hW1)
 obtain ⟨b2, hb2⟩ : ∃ x, W1.heap.size + 1 = x := ⟨_, rfl⟩
 obtain ⟨b1, hb1⟩ : ∃ x, W1.heap.size = x := ⟨_, rfl⟩
 obtain ⟨W3, hW3⟩ : ∃ x, ((W1.alloc (.cells #[.int .i64 2, .int .i64 2, .slice (some ⟨gp, 0, none⟩) 4 4] 31)).alloc (.cells #[.int .i64 0, .int .i64 0, .int .i64 0, .bool true, .int .i64 0] 23)) = x := ⟨_, rfl⟩
 have HB3 := A' (show Below w.heap.size w W3 from hW3 ▸ below_alloc (below_alloc HB1.out _) _)
 have HZ2 := A' (show W3.heap[b2]? = some (.cells #[.int .i64 0, .int .i64 0, .int .i64 0, .bool true, .int .i64 0] 23 (0, 0)) by
  have h := heap_new (W1.alloc (.cells #[.int .i64 2, .int .i64 2, .slice (some ⟨gp, 0, none⟩) 4 4] 31)) (.cells #[.int .i64 0, .int .i64 0, .int .i64 0, .bool true, .int .i64 0] 23)
  rw [World.size_alloc, hb2, hW3] at h
  exact h)
 have HZ1 := A' (show W3.heap[b1]? = some (.cells #[.int .i64 2, .int .i64 2, .slice (some ⟨gp, 0, none⟩) 4 4] 31 (0, 0)) by
  have h := heap_new W1 (.cells #[.int .i64 2, .int .i64 2, .slice (some ⟨gp, 0, none⟩) 4 4] 31)
  rw [hb1] at h
  rw [← hW3]
  exact blk_alloc h _)
 have HC := A' (show Kd.C (Kd.int .u8) W3 (some ⟨gp, 0, none⟩) 4 aP from Kd.C_below (Kd.R_reads' HROW.out).2.2 (hW3 ▸ below_alloc (below_alloc (Below.refl _ _) _) _))
 rw [hb2, hb1, hW3]
 clear hb2 hb1 hW3 HROW
 refine (HENC.out _ _ HC.out).mono ?_
 rintro e W4 ⟨A4, c4, rfl, hR4, hb⟩
 have HB4 := A' hb
 have hc4 := (Kd.R_reads' hR4).2.1
 have HC4 := A' (Kd.R_reads' hR4).2.2
 clear hR4 hb
 have q0 : W4.cell? ⟨b2, 0, none⟩ = some (.int .i64 0) := (blk_cell (blk_below HZ2.out HB4.out) 0).trans rfl
 have q1 : W4.cell? ⟨b2, 1, none⟩ = some (.int .i64 0) := (blk_cell (blk_below HZ2.out HB4.out) 1).trans rfl
 have q2 : W4.cell? ⟨b2, 2, none⟩ = some (.int .i64 0) := (blk_cell (blk_below HZ2.out HB4.out) 2).trans rfl
 have q3 : W4.cell? ⟨b2, 3, none⟩ = some (.bool true) := (blk_cell (blk_below HZ2.out HB4.out) 3).trans rfl
 have q4 : W4.cell? ⟨b2, 4, none⟩ = some (.int .i64 0) := (blk_cell (blk_below HZ2.out HB4.out) 4).trans rfl
 simp only at hc4 HC4 ⊢
 go_wp2_with (fail)
 refine (HDEC.out _ _ _ HC4.out hc4).mono ?_
 rintro e W5 ⟨A5, c5, rfl, hR5, hb⟩
 have HB5 := A' (below_then HB4.out HB4.out.size hb)
 have hc5 := (Kd.R_reads' hR5).2.1
 have HC5 := A' (Kd.R_reads' hR5).2.2
 clear hR5 hb q0 q1 q2 q3 q4 HC4 hc4
 have e5 : ((aP.length : Nat) : Int) = 4 := rfl
 obtain ⟨b5, hb5⟩ : ∃ x, W5.heap.size = x := ⟨_, rfl⟩
 obtain ⟨W6, hW6⟩ : ∃ x, W5.alloc (.cells #[.int .i64 2, .int .i64 2, .slice A5 aP.length c5] 31) = x := ⟨_, rfl⟩
 have HB6 := A' (show Below W3.heap.size W3 W6 from hW6 ▸ below_alloc HB5.out _)
 have HZ5 := A' (show W6.heap[b5]? = some (.cells #[.int .i64 2, .int .i64 2, .slice A5 aP.length c5] 31 (0, 0)) from hW6 ▸ hb5 ▸ heap_new W5 _)
 have HC6 := A' (show Kd.C (Kd.int .u8) W6 A5 aP.length aP from Kd.C_below HC5.out (hW6 ▸ below_alloc (Below.refl _ _) _))
 simp only at hc5 ⊢
 generalize hap : aP.length = nP at *
 go_wp2_with (fail)
 clear hW6 hb5
 refine (refine_Size.calls 1 129 0 _ (by rw [psize_eq]; rfl)).mono ?_
 rintro e W7 ⟨rfl, hb⟩
 have HB7 := A' (below_then HB6.out HB6.out.size hb)
 have HZ5 := A' (blk_below HZ5.out hb)
 have HC7 := A' (Kd.C_below HC6.out hb)
 clear hb
 have p0 : W7.cell? ⟨b5, 0, none⟩ = some (.int .i64 2) := (blk_cell HZ5.out 0).trans rfl
 have p1 : W7.cell? ⟨b5, 1, none⟩ = some (.int .i64 2) := (blk_cell HZ5.out 1).trans rfl
 have p2 : W7.cell? ⟨b5, 2, none⟩ = some (.slice A5 nP c5) := (blk_cell HZ5.out 2).trans rfl
 have r0 : W7.cell? ⟨b1, 0, none⟩ = some (.int .i64 2) := (blk_cell (blk_below HZ1.out HB7.out) 0).trans rfl
 have r1 : W7.cell? ⟨b1, 1, none⟩ = some (.int .i64 2) := (blk_cell (blk_below HZ1.out HB7.out) 1).trans rfl
 have r2 : W7.cell? ⟨b1, 2, none⟩ = some (.slice (some ⟨gp, 0, none⟩) 4 4) := (blk_cell (blk_below HZ1.out HB7.out) 2).trans rfl
 go_wp2_with (fail)
 obtain ⟨K1, hK1⟩ := Ev.rounds (same_ev 2 2 aP (by decide))
 subst hap
 refine (incunableref06_SameBitmap.calls K1 2 2 A5 c5 aP 2 2 (some ⟨gp, 0, none⟩) 4 aP true _ HC7.out hc5 (Kd.C_below HC.out HB7.out) (Nat.le_refl _) hK1).mono ?_
 rintro e W8 ⟨rfl, hb⟩
 have HB8 := A' (below_then (below_then HB3.out HB3.out.size HB7.out) (Nat.le_trans HB3.out.size HB7.out.size) hb)
 clear hb p0 p1 p2 r0 r1 r2
 go_wp2_with (fail)
 go_ret
 exact ⟨rfl, HB8.out⟩
end Go.Proofs.Ytkfejicdjpffcaa.Raw
namespace Go.Proofs.Ytkfejicdjpffcaa.Lde
open Go Go.RowKit YtkfejicdjpffcaaW PrintWords PrintLast PrintMore U Aid HandAid Cod1 Cod2 Cod3 Ytkfejicdjpffcaa.Mod NewRef Enc Mods EncAt Put End Snc Dec Get DecNew RefAt RefPut RefEnd RDec RDecNew Isk Pse Pwk Bkp Rpx Rva Rfl Rcx Rty Rev Rpt Rrp Ren Rdv Rrw Rmk Rgt Rrg Rde Rbk Cby Raw
set_option maxHeartbeats 4000000 in
set_option maxRecDepth 100000 in
theorem decodes_walk (w : World) (t : Int) (h0 : (Lit.int .i64 t).wf = true) (dx : Int) (h1 : (Lit.int .i64 dx).wf = true) (dy : Int) (h2 : (Lit.int .i64 dy).wf = true) (ty : Bool) (kd : Int) (h4 : (Lit.int .i64 kd).wf = true) (AC : Option Addr) (cC : Nat) (code : List Int) (hC : Kd.C (Kd.int .u8) w AC code.length code) (hcC : code.length ≤ cC) (hyC : code.length * 1 ≤ 140737488351232) (hwC : ∀ x ∈ code, (Lit.int .u8 x).wf = true) (W : Int) (h5 : (Lit.int .i64 W).wf = true) (H : Int) (h6 : (Lit.int .i64 H).wf = true) (RW : Int) (h8 : (Lit.int .i64 RW).wf = true) (RH : Int) (h9 : (Lit.int .i64 RH).wf = true) (AR : Option Addr) (cR : Nat) (RP : List Int) (hcR : RP.length ≤ cR) (hA : Kd.C (Kd.int .u8) w AR RP.length RP) (hwR : RP.length * 1 ≤ 140737488351232 ∧ ∀ x ∈ RP, (Lit.int .u8 x).wf = true) :
 Calls Try.prog 5 #[.agg #[.int .i64 t, .int .i64 dx, .int .i64 dy, .bool ty, .int .i64 kd], .slice AC code.length cC, .int .i64 W, .int .i64 H, .agg #[.int .i64 RW, .int .i64 RH, .slice AR RP.length cR]] w fun e w' => e = .returned (.bool true) ∧ Below w.heap.size w w' := by
 have hu3 := Try.underlying23
 have hu4 := Try.underlying31
 have HC := A' hC
 have HA := A' hA
 have HbC := A' (bytes_of hwC)
 have HbR := A' (bytes_of hwR.2)
 have HW := A' (And.intro (wf_i64 h1) (wf_i64 h2))
 have hmC : code.length ≤ 9223372036854775807 := Kd.C_max hC
 obtain ⟨⟨⟨n1, n2, P⟩, er⟩, hcd⟩ : ∃ r, decB ⟨t, dx, dy, ty, W, H, RW, RH, RP, 0⟩ kd code = r := ⟨_, rfl⟩
 have HCD := A' hcd
 clear h0 h1 h2 h4 h5 h6 h8 h9 hC hA hwC hwR hyC hcd
 by_cases hl : code.length > 100000
 · have hl2 : (code.length : Int) > 100000 := by omega
   go_enter Try.func5, Try.ntmps5
   go_wp2_with (fail)
   refine (Raw.awake_calls _).mono ?_
   rintro e W5 ⟨rfl, hb⟩
   have HD5 := A' (below_then (below_alloc (below_alloc (Below.refl w.heap.size w) (.cells #[.int .i64 t, .int .i64 dx, .int .i64 dy, .bool ty, .int .i64 kd] 23)) (.cells #[.int .i64 RW, .int .i64 RH, .slice AR RP.length cR] 31)) (below_alloc (below_alloc (Below.refl w.heap.size w) (.cells #[.int .i64 t, .int .i64 dx, .int .i64 dy, .bool ty, .int .i64 kd] 23)) (.cells #[.int .i64 RW, .int .i64 RH, .slice AR RP.length cR] 31)).size hb)
   go_wp2_with (fail)
   go_ret
   exact ⟨rfl, HD5.out⟩
 have hl2 : ¬ (code.length : Int) > 100000 := by omega
 have hlen : code.length ≤ 1099511627776 := by omega
 go_enter Try.func5, Try.ntmps5
 go_wp2_with (fail)
 obtain ⟨b9, hb9⟩ : ∃ x, w.heap.size + 1 = x := ⟨_, rfl⟩
 obtain ⟨b5, hb5⟩ : ∃ x, w.heap.size = x := ⟨_, rfl⟩
 obtain ⟨W1, hW1⟩ : ∃ x, ((w.alloc (.cells #[.int .i64 t, .int .i64 dx, .int .i64 dy, .bool ty, .int .i64 kd] 23)).alloc (.cells #[.int .i64 RW, .int .i64 RH, .slice AR RP.length cR] 31)) = x := ⟨_, rfl⟩
 have HB1 := A' (show Below w.heap.size w W1 from hW1 ▸ (below_alloc (below_alloc (Below.refl _ _) _) _))
 have HZb5 := A' (show W1.heap[b5]? = some (.cells #[.int .i64 t, .int .i64 dx, .int .i64 dy, .bool ty, .int .i64 kd] 23 (0, 0)) by
  have h := heap_new w (.cells #[.int .i64 t, .int .i64 dx, .int .i64 dy, .bool ty, .int .i64 kd] 23)
  rw [hb5] at h
  rw [← hW1]
  exact (blk_alloc h _))
 have HZb9 := A' (show W1.heap[b9]? = some (.cells #[.int .i64 RW, .int .i64 RH, .slice AR RP.length cR] 31 (0, 0)) by
  have h := heap_new (w.alloc (.cells #[.int .i64 t, .int .i64 dx, .int .i64 dy, .bool ty, .int .i64 kd] 23)) (.cells #[.int .i64 RW, .int .i64 RH, .slice AR RP.length cR] 31)
  rw [World.size_alloc, hb9] at h
  rw [← hW1]
  exact h)
 rw [hb9, hb5, hW1]
 have HD1 := A' (Below.refl W1.heap.size W1)
 clear hb5 hb9 hW1
 refine (rdecode_calls _ t dx dy ty kd AC cC code W H RW RH AR cR RP HW.out.1 HW.out.2 (Kd.C_below HC.out HB1.out) hcC HbC.out hlen (Kd.C_below HA.out HB1.out) hcR HbR.out _ HCD.out).mono ?_
 rintro e W2 ⟨A2, c2, rfl, hR2, hb⟩
 have HD2 := A' hb
 have hc2 := (Kd.R_reads' hR2).2.1
 have HC2 := A' (Kd.R_reads' hR2).2.2
 clear hR2 hb
 simp only at hc2 HC2 ⊢
 obtain ⟨b11, hb11⟩ : ∃ x, W2.heap.size = x := ⟨_, rfl⟩
 obtain ⟨W3, hW3⟩ : ∃ x, W2.alloc (.cells #[.int .i64 n1, .int .i64 n2, .slice A2 P.length c2] 31) = x := ⟨_, rfl⟩
 have HD3 := A' (show Below W1.heap.size W1 W3 from hW3 ▸ below_alloc HD2.out _)
 have HZ11 := A' (show W3.heap[b11]? = some (.cells #[.int .i64 n1, .int .i64 n2, .slice A2 P.length c2] 31 (0, 0)) from hW3 ▸ hb11 ▸ heap_new W2 _)
 have HC3 := A' (show Kd.C (Kd.int .u8) W3 A2 P.length P from Kd.C_below HC2.out (hW3 ▸ below_alloc (Below.refl _ _) _))
 have qb50 : W3.cell? ⟨b5, 0, none⟩ = some (.int .i64 t) := (blk_cell (blk_below HZb5.out HD3.out) 0).trans rfl
 have qb51 : W3.cell? ⟨b5, 1, none⟩ = some (.int .i64 dx) := (blk_cell (blk_below HZb5.out HD3.out) 1).trans rfl
 have qb52 : W3.cell? ⟨b5, 2, none⟩ = some (.int .i64 dy) := (blk_cell (blk_below HZb5.out HD3.out) 2).trans rfl
 have qb53 : W3.cell? ⟨b5, 3, none⟩ = some (.bool ty) := (blk_cell (blk_below HZb5.out HD3.out) 3).trans rfl
 have qb54 : W3.cell? ⟨b5, 4, none⟩ = some (.int .i64 kd) := (blk_cell (blk_below HZb5.out HD3.out) 4).trans rfl
 have qb90 : W3.cell? ⟨b9, 0, none⟩ = some (.int .i64 RW) := (blk_cell (blk_below HZb9.out HD3.out) 0).trans rfl
 have qb91 : W3.cell? ⟨b9, 1, none⟩ = some (.int .i64 RH) := (blk_cell (blk_below HZb9.out HD3.out) 1).trans rfl
 have qb92 : W3.cell? ⟨b9, 2, none⟩ = some (.slice AR RP.length cR) := (blk_cell (blk_below HZb9.out HD3.out) 2).trans rfl
 go_wp2_with (fail)
 clear hW3 hb11
 refine (refdecode_calls _ t dx dy ty kd AC cC code W H RW RH AR cR RP (Kd.C_below HC.out (below_then HB1.out HB1.out.size HD3.out)) hcC HbC.out hlen (Kd.C_below HA.out (below_then HB1.out HB1.out.size HD3.out)) hcR HbR.out _ HCD.out).mono ?_
 rintro e W4 ⟨A4, c4, rfl, hR4, hb⟩
 have HD4 := A' (below_then HD3.out HD3.out.size hb)
 have HZ11 := A' (blk_below HZ11.out hb)
 have HC3 := A' (Kd.C_below HC3.out hb)
 have hc4 := (Kd.R_reads' hR4).2.1
 have HC4 := A' (Kd.R_reads' hR4).2.2
 clear hR4 hb qb50 qb51 qb52 qb53 qb54 qb90 qb91 qb92
 simp only at hc4 HC4 ⊢
 obtain ⟨b13, hb13⟩ : ∃ x, W4.heap.size = x := ⟨_, rfl⟩
 obtain ⟨W5, hW5⟩ : ∃ x, W4.alloc (.cells #[.int .i64 n1, .int .i64 n2, .slice A4 P.length c4] 31) = x := ⟨_, rfl⟩
 have HD5 := A' (show Below W1.heap.size W1 W5 from hW5 ▸ below_alloc HD4.out _)
 have HZ13 := A' (show W5.heap[b13]? = some (.cells #[.int .i64 n1, .int .i64 n2, .slice A4 P.length c4] 31 (0, 0)) from hW5 ▸ hb13 ▸ heap_new W4 _)
 have HZ11 := A' (show W5.heap[b11]? = some (.cells #[.int .i64 n1, .int .i64 n2, .slice A2 P.length c2] 31 (0, 0)) from hW5 ▸ blk_alloc HZ11.out _)
 have HC3 := A' (show Kd.C (Kd.int .u8) W5 A2 P.length P from Kd.C_below HC3.out (hW5 ▸ below_alloc (Below.refl _ _) _))
 have HC4 := A' (show Kd.C (Kd.int .u8) W5 A4 P.length P from Kd.C_below HC4.out (hW5 ▸ below_alloc (Below.refl _ _) _))
 have p0 : W5.cell? ⟨b11, 0, none⟩ = some (.int .i64 n1) := (blk_cell HZ11.out 0).trans rfl
 have p1 : W5.cell? ⟨b11, 1, none⟩ = some (.int .i64 n2) := (blk_cell HZ11.out 1).trans rfl
 have p2 : W5.cell? ⟨b11, 2, none⟩ = some (.slice A2 P.length c2) := (blk_cell HZ11.out 2).trans rfl
 have r0 : W5.cell? ⟨b13, 0, none⟩ = some (.int .i64 n1) := (blk_cell HZ13.out 0).trans rfl
 have r1 : W5.cell? ⟨b13, 1, none⟩ = some (.int .i64 n2) := (blk_cell HZ13.out 1).trans rfl
 have r2 : W5.cell? ⟨b13, 2, none⟩ = some (.slice A4 P.length c4) := (blk_cell HZ13.out 2).trans rfl
 go_wp2_with (fail)
 clear hW5 hb13
 obtain ⟨K1, hK1⟩ := Ev.rounds (same_ev n1 n2 P (Kd.C_max HC3.out))
 refine (incunableref06_SameBitmap.calls K1 n1 n2 A2 c2 P n1 n2 A4 c4 P true _ HC3.out hc2 HC4.out hc4 hK1).mono ?_
 rintro e W6 ⟨rfl, hb⟩
 have HD6 := A' (below_then HD5.out HD5.out.size hb)
 clear hb hK1 p0 p1 p2 r0 r1 r2
 go_wp2_with (fail)
 refine (Raw.awake_calls _).mono ?_
 rintro e W7 ⟨rfl, hb⟩
 have HD7 := A' (below_then HD6.out HD6.out.size hb)
 clear hb
 go_wp2_with (fail)
 go_ret
 exact ⟨rfl, below_then HB1.out HB1.out.size HD7.out⟩
end Go.Proofs.Ytkfejicdjpffcaa.Lde
