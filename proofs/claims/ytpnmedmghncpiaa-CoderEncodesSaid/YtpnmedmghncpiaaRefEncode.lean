import Derived.Test.YtpnmedmghncpiaaAid
import Derived.Test.YtpnmedmghncpiaaHandAid
import Derived.Test.YtpnmedmghncpiaaCod1
import Derived.Test.YtpnmedmghncpiaaCod2
import Derived.Test.YtpnmedmghncpiaaCod3
import Derived.Test.YtpnmedmghncpiaaMod
import Derived.Test.YtpnmedmghncpiaaEnc
import Derived.Test.YtpnmedmghncpiaaMods
import Derived.Test.YtpnmedmghncpiaaEncAt
import Derived.Test.YtpnmedmghncpiaaPut
import Derived.Test.YtpnmedmghncpiaaEnd
import Derived.Test.YtpnmedmghncpiaaEncode
import Derived.Test.YtpnmedmghncpiaaRefAt
import Derived.Test.YtpnmedmghncpiaaRefPut
import Derived.Test.YtpnmedmghncpiaaRefEnd
-- needs: Aid HandAid Cod1 Cod2 Cod3 Mod Enc Mods EncAt Put End Encode RefAt RefPut RefEnd
namespace Go.Proofs.Ytpnmedmghncpiaa.RefEncode
open Go Go.RowKit Go.Proofs.YtpnmedmghncpiaaW.PrintWords Go.Proofs.YtpnmedmghncpiaaW.PrintLast Go.Proofs.YtpnmedmghncpiaaW.PrintMore Go.Proofs.Ytpnmedmghncpiaa.Aid Go.Proofs.Ytpnmedmghncpiaa.HandAid Go.Proofs.Ytpnmedmghncpiaa.Cod1 Go.Proofs.Ytpnmedmghncpiaa.Cod2 Go.Proofs.Ytpnmedmghncpiaa.Cod3 Go.Proofs.Ytpnmedmghncpiaa.Mod Go.Proofs.Ytpnmedmghncpiaa.Enc Go.Proofs.Ytpnmedmghncpiaa.Mods Go.Proofs.Ytpnmedmghncpiaa.EncAt Go.Proofs.Ytpnmedmghncpiaa.Put Go.Proofs.Ytpnmedmghncpiaa.End Go.Proofs.Ytpnmedmghncpiaa.Encode Go.Proofs.Ytpnmedmghncpiaa.RefAt Go.Proofs.Ytpnmedmghncpiaa.RefPut Go.Proofs.Ytpnmedmghncpiaa.RefEnd Go.Proofs.Ytpnmedmghncpiaa.PCoderShort
set_option linter.unusedVariables false
set_option linter.unusedSimpArgs false
/-- An event that n contexts take. -/
def goodL (n : Nat) (x : S47) : Bool := decide (0 ≤ x.f0) && decide (x.f0 < n) && (decide (x.f1 = 0) || decide (x.f1 = 1))
theorem good_eq (s : ES) (x : S47) : s.good x.f0 x.f1 = goodL s.st.length x := rfl
theorem putsE_err : ∀ (l : List S47) (s : ES), (putsE s l).2 = if l.all (goodL s.st.length) = true then 0 else 2
  | [], s => rfl
  | x :: l, s => by
    unfold putsE
    rw [List.all_cons]
    by_cases c : goodL s.st.length x = true
    · rw [if_pos (show s.err x.f0 x.f1 = 0 from if_pos c), putsE_err l, (ES.putI_len s x.f0 x.f1).2.2, c, Bool.true_and]
    · have e2 : s.err x.f0 x.f1 = 2 := if_neg c
      rw [if_neg (by rw [e2]; decide), show goodL s.st.length x = false by simpa using c]
      rw [Bool.false_and, if_neg (by decide)]
      exact e2
/-- What stands in the loop of the reference's Encode. -/
structure RInv (w : World) (B b1 g : Nat) (s0 : ES) (l : List S47) (k : Nat) (s : ES) (W : World) : Prop where
  e : RefAt W (Since B W) g s
  o : s.ok
  n : s.out.length ≤ 4 * k
  p : putsE s (l.drop k) = putsE s0 l
  z : W.heap[b1]? = some (.cells #[.int .i64 0, .slice none 0 0] 24 (0, 0))
  b : Below w.heap.size w W
  wB : w.heap.size ≤ B
  BW : B ≤ W.heap.size
  bB : b1 < B
  wb : w.heap.size ≤ b1
  st : s.st.length = s0.st.length
theorem RInv.below {w : World} {B b1 g : Nat} {s0 : ES} {l : List S47} {k : Nat} {s : ES} {W W' : World} (h : RInv w B b1 g s0 l k s W) (hb : Below W.heap.size W W') : RInv w B b1 g s0 l k s W' :=
  ⟨(h.e.below hb).mono (fun k hk => ⟨hk.1, Nat.lt_of_lt_of_le hk.2 hb.size⟩), h.o, h.n, h.p, blk_below h.z hb, below_then h.b h.b.size hb, h.wB, Nat.le_trans h.BW hb.size, h.bB, h.wb, h.st⟩
theorem RInv.put {w : World} {B b1 g : Nat} {s0 : ES} {l : List S47} {k : Nat} {s : ES} {W W' : World} (h : RInv w B b1 g s0 l k s W) {i bit : Int} (hE : RefAt W' (fun k => (Since B W k ∨ W.heap.size ≤ k) ∧ k < W'.heap.size) g (s.putI i bit)) (hm : Mods W W' (Since B W)) (hn : (s.putI i bit).out.length ≤ 4 * (k + 1)) (hp : putsE (s.putI i bit) (l.drop (k + 1)) = putsE s0 l) : RInv w B b1 g s0 l (k + 1) (s.putI i bit) W' :=
  ⟨hE.mono (fun k hk => ⟨by have := h.BW; rcases hk.1 with h1 | h1; exact h1.1; omega, hk.2⟩), ES.putI_ok h.o _ _, hn, hp, blk_mods h.z hm (fun hk => by have := hk.1; have := h.bB; omega), below_mods h.b hm (fun k hk => Nat.le_trans h.wB hk.1) h.b.size, h.wB, Nat.le_trans h.BW hm.size, h.bB, h.wb, (ES.putI_len s i bit).2.2.trans h.st⟩
set_option maxHeartbeats 4000000 in
set_option maxRecDepth 100000 in
theorem ref_encode_calls (A : Option Addr) (c : Nat) (kind : Int) (st : List Int) (Ae : Option Addr) (ce : Nat) (l : List S47) (w : World) (hC : Kd.C (Kd.int .i64) w A st.length st) (hc : st.length ≤ c) (hCe : Kd.C k47 w Ae l.length l) (hce : l.length ≤ ce) :
    Calls Try.prog 20 #[.agg #[.int .i64 kind, .slice A st.length c], .slice Ae l.length ce] w (EncodePost w (encodeR kind st l)) := by
  have HC := Aside0.mk hC
  have HCE := Aside0.mk hCe
  have hu := Try.underlying24
  have hu2 := Try.underlying47
  have hmax : l.length ≤ 9223372036854775807 := Kd.C_max hCe
  have hmax2 : st.length ≤ 9223372036854775807 := Kd.C_max hC
  clear hC hCe
  obtain ⟨r, hr⟩ : ∃ r, r = encodeR kind st l := ⟨_, rfl⟩
  rw [← hr]
  have HR := Aside0.mk hr
  clear hr
  have hv := ref_valid_calls A c kind st
  obtain ⟨vb, hvb⟩ : ∃ vb, decide (okModel kind st) = vb := ⟨_, rfl⟩
  rw [hvb] at hv
  have HV := Aside0.mk hv
  have HVB := Aside0.mk hvb
  clear hv hvb
  go_enter Try.func20, Try.ntmps20
  go_wp2_with (fail)
  obtain ⟨W0, hW0⟩ : ∃ W0, W0 = (w.alloc (.cells #[.int .i64 kind, .slice A st.length c] 24)).alloc (.cells #[.int .i64 0, .slice none 0 0] 24) := ⟨_, rfl⟩
  have hb0 := Aside0.mk (show Below w.heap.size w W0 from hW0 ▸ below_alloc (below_alloc (Below.refl w.heap.size w) _) _)
  have hy0 : Aside0 (W0.heap[w.heap.size]? = some (.cells #[.int .i64 kind, .slice A st.length c] 24 (0, 0))) := ⟨hW0 ▸ blk_alloc (heap_new w _) _⟩
  have hz0 : Aside0 (W0.heap[w.heap.size + 1]? = some (.cells #[.int .i64 0, .slice none 0 0] 24 (0, 0))) := ⟨by
    have h := heap_new (w.alloc (.cells #[.int .i64 kind, .slice A st.length c] 24)) (.cells #[.int .i64 0, .slice none 0 0] 24)
    rw [World.size_alloc] at h
    rw [hW0]
    exact h⟩
  rw [← hW0]
  clear hW0
  refine (HV.out _ (Kd.C_below HC.out hb0.out) hc).mono ?_
  rintro e w1 ⟨rfl, hB1⟩
  obtain ⟨b0, hbb0⟩ : ∃ b0, w.heap.size = b0 := ⟨_, rfl⟩
  obtain ⟨b1, hb1⟩ : ∃ b1, w.heap.size + 1 = b1 := ⟨_, rfl⟩
  have HWB : Aside0 (w.heap.size ≤ b1) := ⟨by omega⟩
  have HB1 := Aside0.mk (below_then hb0.out hb0.out.size hB1)
  have HZ1 := Aside0.mk (blk_below (hb1 ▸ hz0.out) hB1)
  have HY1 := Aside0.mk (blk_below (hbb0 ▸ hy0.out) hB1)
  rw [hb1, hbb0]
  clear hB1 hz0 hy0 hb0 hb1 hbb0
  have z0 : w1.cell? ⟨b1, 0, none⟩ = some (.int .i64 0) := (blk_cell HZ1.out 0).trans rfl
  have z1 : w1.cell? ⟨b1, 1, none⟩ = some (.slice none 0 0) := (blk_cell HZ1.out 1).trans rfl
  have zf0 := blk_frozen HZ1.out 0
  have zf1 := blk_frozen HZ1.out 1
  cases vb with
  | false =>
    have HM : Aside0 (¬ okModel kind st) := ⟨by simpa using HVB.out⟩
    go_wp2
    refine bodyPost_ret (results_list (rs := [.tmp 4, .cell 5 24, .tmp 6]) rfl (by simp) (.tmp (.cell b1 24 #[.int .i64 0, .slice none 0 0] (0, 0) _ rfl (by refine blk_put (cs := #[.int .i64 0, .slice none 0 0]) ?_ 1 _ rfl; exact blk_put (cs := #[.int .i64 0, .slice none 0 0]) HZ1.out 0 _ rfl) Try.underlying24 rfl (by kernel_rfl) (.tmp .nil)))) rfl ?_
    rw [show r = ([], 0, [], 10) by rw [HR.out]; exact if_neg HM.out]
    refine enc_fail w _ 10 ?_ _ rfl
    exact (HB1.out.setCell HWB.out _).setCell HWB.out _
  | true =>
    have HM : Aside0 (okModel kind st) := ⟨by simpa using HVB.out⟩
    by_cases hl : l.length > 100000
    · have hr : r = ([], 0, [], 2) := by rw [HR.out]; unfold encodeR; rw [if_pos HM.out, if_pos hl]
      have HR2 := Aside0.mk hr
      clear hr
      have hl' : (l.length : Int) > 100000 := by omega
      go_wp2
      refine bodyPost_ret (results_list (rs := [.tmp 4, .cell 5 24, .tmp 6]) rfl (by simp) (.tmp (.cell b1 24 #[.int .i64 0, .slice none 0 0] (0, 0) _ rfl (by refine blk_put (cs := #[.int .i64 0, .slice none 0 0]) ?_ 1 _ rfl; exact blk_put (cs := #[.int .i64 0, .slice none 0 0]) HZ1.out 0 _ rfl) Try.underlying24 rfl (by kernel_rfl) (.tmp .nil)))) rfl ?_
      rw [HR2.out]
      refine enc_fail w _ 2 ?_ _ rfl
      exact (HB1.out.setCell HWB.out _).setCell HWB.out _
    · have hl' : ¬ (l.length : Int) > 100000 := by omega
      have HL := Aside0.mk hl
      clear z0 z1 zf0 zf1 hl
      go_wp2
      go_loopw [23] (fun i wr => ∃ (k : Nat), k ≤ l.length ∧ i = .int .i64 k ∧ Aside0 ((l.drop k).all (goodL st.length) = l.all (goodL st.length)) ∧ Aside0 (wr.heap[b1]? = some (.cells #[.int .i64 0, .slice none 0 0] 24 (0, 0))) ∧ Aside0 (wr.heap[b0]? = some (.cells #[.int .i64 kind, .slice A st.length c] 24 (0, 0))) ∧ Aside0 (Below w.heap.size w wr)) (fun i _ => l.length - (intOf i).toNat)
      case atStart => exact ⟨0, Nat.zero_le _, rfl, ⟨rfl⟩, HZ1, HY1, HB1⟩
      clear HZ1 HY1 HB1
      case round =>
        obtain ⟨k, hk, rfl, HG, HZ2, HY2, HB2⟩ := hrel
        have hC := Kd.C_below HCE.out HB2.out
        by_cases hlt : k < l.length
        · obtain ⟨ad, hA, hx0, hx1⟩ := at_T47 hC (k : Int) (by omega) (by omega)
          subst hA
          have hstep := HG.out
          rw [drop_rdE hlt, List.all_cons] at hstep
          obtain ⟨x, hx⟩ : ∃ x, rd_T47 l (k : Int) = x := ⟨_, rfl⟩
          rw [hx] at hx0 hx1 hstep
          simp only [Int.toNat_natCast] at hx0 hx1
          obtain ⟨xa, xb⟩ := x
          simp only at hx0 hx1
          have HST := Aside0.mk hstep
          have hbl := blk_lt HY2.out
          have hbl1 := blk_lt HZ2.out
          have y1 : (wr.alloc (.cells #[.int .i64 xa, .int .i64 xb] 47)).cell? ⟨b0, 1, none⟩ = some (.slice A st.length c) := (blk_cell (blk_alloc HY2.out _) 1).trans rfl
          have HZ3 := Aside0.mk (blk_alloc HZ2.out (.cells #[.int .i64 xa, .int .i64 xb] 47))
          have HY3 := Aside0.mk (blk_alloc HY2.out (.cells #[.int .i64 xa, .int .i64 xb] 47))
          have HB3 := Aside0.mk (below_alloc HB2.out (.cells #[.int .i64 xa, .int .i64 xb] 47))
          have z0 : (wr.alloc (.cells #[.int .i64 xa, .int .i64 xb] 47)).cell? ⟨b1, 0, none⟩ = some (.int .i64 0) := (blk_cell HZ3.out 0).trans rfl
          have z1 : (wr.alloc (.cells #[.int .i64 xa, .int .i64 xb] 47)).cell? ⟨b1, 1, none⟩ = some (.slice none 0 0) := (blk_cell HZ3.out 1).trans rfl
          have zf0 := blk_frozen HZ3.out 0
          have zf1 := blk_frozen HZ3.out 1
          clear hC hx hstep HG
          by_cases hgood : goodL st.length ⟨xa, xb⟩ = true
          · have HG3 : Aside0 ((l.drop (k + 1)).all (goodL st.length) = l.all (goodL st.length)) := ⟨by rw [← HST.out, hgood, Bool.true_and]⟩
            simp only [goodL, Bool.and_eq_true, Bool.or_eq_true, decide_eq_true_eq] at hgood
            obtain ⟨⟨g0, g1⟩, g2⟩ := hgood
            clear hbl hbl1
            rcases g2 with rfl | rfl
            · go_wp2
              go_roundw
              case rel => exact ⟨k + 1, by omega, by go_num, HG3, HZ3, HY3, HB3⟩
              case measure => simp [intOf]; omega
            · go_wp2
              go_roundw
              case rel => exact ⟨k + 1, by omega, by go_num, HG3, HZ3, HY3, HB3⟩
              case measure => simp [intOf]; omega
          · have hall : l.all (goodL st.length) = false := by rw [← HST.out, show goodL st.length ⟨xa, xb⟩ = false by simpa using hgood, Bool.false_and]
            have hnb : (putsE (newES kind st) l).2 = 2 := by rw [putsE_err]; exact if_neg (by rw [show (newES kind st).st = st from rfl, hall]; decide)
            have HN2 := Aside0.mk hnb
            have HNB : Aside0 (¬ (putsE (newES kind st) l).2 = 0) := ⟨by rw [hnb]; decide⟩
            have hbad : xa < 0 ∨ (st.length : Int) ≤ xa ∨ (xb ≠ 0 ∧ xb ≠ 1) := by
              simp only [goodL, Bool.and_eq_true, Bool.or_eq_true, decide_eq_true_eq] at hgood
              omega
            clear hgood hall hnb hbl hbl1
            by_cases c1 : xa < 0
            · clear hbad
              go_wp2
              refine bodyPost_ret (results_list (rs := [.tmp 4, .cell 5 24, .tmp 6]) rfl (by simp) (.tmp (.cell b1 24 #[.int .i64 0, .slice none 0 0] (0, 0) _ rfl (by refine blk_put (cs := #[.int .i64 0, .slice none 0 0]) ?_ 1 _ rfl; exact blk_put (cs := #[.int .i64 0, .slice none 0 0]) HZ3.out 0 _ rfl) Try.underlying24 rfl (by kernel_rfl) (.tmp .nil)))) rfl ?_
              rw [show r = ([], 0, [], 2) by rw [HR.out]; unfold encodeR; rw [if_pos HM.out, if_neg HL.out, if_neg HNB.out, HN2.out]]
              refine enc_fail w _ 2 ?_ _ rfl
              exact (HB3.out.setCell HWB.out _).setCell HWB.out _
            by_cases c2 : (st.length : Int) ≤ xa
            · clear hbad
              go_wp2
              refine bodyPost_ret (results_list (rs := [.tmp 4, .cell 5 24, .tmp 6]) rfl (by simp) (.tmp (.cell b1 24 #[.int .i64 0, .slice none 0 0] (0, 0) _ rfl (by refine blk_put (cs := #[.int .i64 0, .slice none 0 0]) ?_ 1 _ rfl; exact blk_put (cs := #[.int .i64 0, .slice none 0 0]) HZ3.out 0 _ rfl) Try.underlying24 rfl (by kernel_rfl) (.tmp .nil)))) rfl ?_
              rw [show r = ([], 0, [], 2) by rw [HR.out]; unfold encodeR; rw [if_pos HM.out, if_neg HL.out, if_neg HNB.out, HN2.out]]
              refine enc_fail w _ 2 ?_ _ rfl
              exact (HB3.out.setCell HWB.out _).setCell HWB.out _
            have q0 : xb ≠ 0 := by rcases hbad with h | h | h <;> omega
            have q1 : xb ≠ 1 := by rcases hbad with h | h | h <;> omega
            have e0 : (xb != 0) = true := by simpa using q0
            have e1 : (xb != 1) = true := by simpa using q1
            clear hbad q0 q1
            go_wp2
            refine bodyPost_ret (results_list (rs := [.tmp 4, .cell 5 24, .tmp 6]) rfl (by simp) (.tmp (.cell b1 24 #[.int .i64 0, .slice none 0 0] (0, 0) _ rfl (by refine blk_put (cs := #[.int .i64 0, .slice none 0 0]) ?_ 1 _ rfl; exact blk_put (cs := #[.int .i64 0, .slice none 0 0]) HZ3.out 0 _ rfl) Try.underlying24 rfl (by kernel_rfl) (.tmp .nil)))) rfl ?_
            rw [show r = ([], 0, [], 2) by rw [HR.out]; unfold encodeR; rw [if_pos HM.out, if_neg HL.out, if_neg HNB.out, HN2.out]]
            refine enc_fail w _ 2 ?_ _ rfl
            exact (HB3.out.setCell HWB.out _).setCell HWB.out _
        · have hkl : k = l.length := by omega
          have hall : l.all (goodL st.length) = true := by
            rw [← HG.out, hkl, List.drop_length]
            rfl
          have HALL := Aside0.mk hall
          have y0 : wr.cell? ⟨b0, 0, none⟩ = some (.int .i64 kind) := (blk_cell HY2.out 0).trans rfl
          have y1 : wr.cell? ⟨b0, 1, none⟩ = some (.slice A st.length c) := (blk_cell HY2.out 1).trans rfl
          have hbl1 := HZ2.out
          obtain ⟨B, hB⟩ : ∃ B, wr.heap.size = B := ⟨_, rfl⟩
          have HBW := Aside0.mk hB
          have HbB : Aside0 (b1 < B) := ⟨by have := blk_lt HZ2.out; omega⟩
          clear hC hkl hall HG hbl1 hB
          go_wp2_with (fail)
          refine (ref_new_enc A c kind st _ (Kd.C_below HC.out HB2.out) hc HM.out).mono ?_
          rintro e w3 ⟨g, rfl, hE3, hB3⟩
          have HI3 : Aside0 (RInv w B b1 g (newES kind st) l 0 (newES kind st) w3) := ⟨⟨HBW.out ▸ hE3, newES_ok HM.out, Nat.le_refl _, rfl, blk_below HZ2.out hB3, below_then HB2.out HB2.out.size hB3, by have := HBW.out; have := HB2.out.size; omega, by have := HBW.out; have := hB3.size; omega, HbB.out, HWB.out, rfl⟩⟩
          clear hE3 hB3 y0 y1
          go_wp2
          go_loopw [57] (fun i wr => ∃ (k : Nat) (s : ES), k ≤ l.length ∧ i = .int .i64 k ∧ Aside0 (RInv w B b1 g (newES kind st) l k s wr)) (fun i _ => l.length - (intOf i).toNat)
          case atStart => exact ⟨0, newES kind st, Nat.zero_le _, rfl, HI3⟩
          clear HI3 HZ2 HY2 HB2 HBW
          case round =>
            obtain ⟨k, s, hk, rfl, HI⟩ := hrel
            have hC := Kd.C_below HCE.out HI.out.b
            by_cases hlt : k < l.length
            · obtain ⟨ad, hA, hx0, hx1⟩ := at_T47 hC (k : Int) (by omega) (by omega)
              subst hA
              have hstep := putsE_step hlt s
              rw [HI.out.p] at hstep
              have hgx := List.all_eq_true.1 HALL.out (rd_T47 l (k : Int)) (by
                have := drop_rdE hlt
                exact List.mem_of_mem_drop (i := k) (by rw [this]; exact List.mem_cons_self))
              obtain ⟨x, hx⟩ : ∃ x, rd_T47 l (k : Int) = x := ⟨_, rfl⟩
              rw [hx] at hx0 hx1 hstep hgx
              simp only [Int.toNat_natCast] at hx0 hx1
              have hgood : s.err x.f0 x.f1 = 0 := if_pos (by rw [good_eq, HI.out.st]; exact hgx)
              rw [if_pos hgood] at hstep
              have HST := Aside0.mk hstep
              have hlen : s.out.length ≤ 1099511627776 := by have := HI.out.n; omega
              have HI2 := Aside0.mk (HI.out.below (below_alloc (Below.refl _ _) (.cells #[.int .i64 x.f0, .int .i64 x.f1] 47)))
              have hp := ref_put_calls (wr.alloc (.cells #[.int .i64 x.f0, .int .i64 x.f1] 47)) (Since B (wr.alloc (.cells #[.int .i64 x.f0, .int .i64 x.f1] 47))) g s x.f0 x.f1 HI2.out.e HI2.out.o hlen
              rw [hgood] at hp
              have HP := Aside0.mk hp
              clear hC hx hstep hgx hgood hp
              go_wp2_with (go_at_call 25; refine HP.out.mono ?_; rintro e w6 ⟨rfl, hE6, hM6⟩; have HI6 := Aside0.mk (HI2.out.put hE6 hM6 (by have := HI2.out.n; have := (ES.putI_len s x.f0 x.f1).1; omega) HST.out.symm); clear hE6 hM6)
              go_roundw
              case rel => exact ⟨k + 1, _, by omega, by go_num, HI6⟩
              case measure => simp [intOf]; omega
            · have hkl : k = l.length := by omega
              have hfin : putsE (newES kind st) l = (s, 0) := by
                have := HI.out.p
                rw [hkl, List.drop_length] at this
                exact this.symm
              have hlen : s.out.length ≤ 1099511627880 := by have := HI.out.n; omega
              have HF := Aside0.mk hfin
              clear hfin hkl
              obtain ⟨A0, c0, vo0, hEr⟩ := HI.out.e
              have HEr := Aside0.mk hEr
              have HBr := Aside0.mk HI.out.b
              have HZr := Aside0.mk HI.out.z
              have HED := Aside0.mk (ref_end_row wr.drew (Since B wr) g s.kind A0 c0 s.st s.low s.high vo0 s.out hEr.drew HI.out.o.l HI.out.o.lh HI.out.o.h hlen)
              have k0 := HEr.out.c0
              have k1 := HEr.out.c1
              clear hEr hC
              go_wp2
              refine start_ (n := 9) (S := fun w' => w'.cell? ⟨g, 0, none⟩ = some (.int .i64 s.kind) ∧ w'.cell? ⟨g, 1, none⟩ = some (.slice A0 s.st.length c0)) (ds := [7]) #[false, false, false, false, false, false, false, false, false] (by kernel_rfl) rfl rfl ⟨k0, k1⟩ (fun hHeld => ?_)
              refine pure_ (i := 0) (N := some 68) (v := ?_) (a' := ?_) #[true, false, false, false, false, false, false, false, false] rfl rfl (by kernel_rfl) (fun _ _ _ h => h) (Or.inl ⟨by rfl, ?_⟩) ?_ ?_
              rotate_left
              · intro w'
                go_simp
                with_reducible rfl
              rotate_left
              · simp only [Act.put, List.setIfInBounds_toArray, List.set_cons_zero, List.set_cons_succ, i64_w, i32_w]
                rfl
              refine pure_ (i := 2) (N := some 70) (v := ?_) (a' := ?_) #[true, false, true, false, false, false, false, false, false] rfl rfl (by kernel_rfl) (fun _ _ _ h => h) (Or.inl ⟨by rfl, ?_⟩) ?_ ?_
              rotate_left
              · intro w'
                go_simp
                with_reducible rfl
              rotate_left
              · simp only [Act.put, List.setIfInBounds_toArray, List.set_cons_zero, List.set_cons_succ, i64_w, i32_w]
                rfl
              refine pure_ (i := 3) (N := some 71) (v := ?_) (a' := ?_) #[true, false, true, true, false, false, false, false, false] rfl rfl (by kernel_rfl) (fun _ _ _ h => h) (Or.inl ⟨by rfl, ?_⟩) ?_ ?_
              rotate_left
              · intro w'
                go_simp
                with_reducible rfl
              rotate_left
              · simp only [Act.put, List.setIfInBounds_toArray, List.set_cons_zero, List.set_cons_succ, i64_w, i32_w]
                rfl
              refine pure_ (i := 4) (N := some 72) (v := ?_) (a' := ?_) #[true, false, true, true, true, false, false, false, false] rfl rfl (by kernel_rfl) (fun _ _ _ h => h) (Or.inl ⟨by rfl, ?_⟩) ?_ ?_
              rotate_left
              · intro w'
                go_simp
                with_reducible rfl
              rotate_left
              · simp only [Act.put, List.setIfInBounds_toArray, List.set_cons_zero, List.set_cons_succ, i64_w, i32_w]
                rfl
              refine take_ (i := 5) (N := some 73) (v := ?_) (a' := ?_) #[true, false, true, true, true, true, false, false, false] rfl rfl (by kernel_rfl) (fun _ _ _ h => h) (Or.inl ⟨by rfl, ?_⟩) hHeld ?_ ?_
              rotate_left
              · rintro w' ⟨s0, s1⟩
                go_simp
                with_reducible rfl
              rotate_left
              · simp only [Act.put, List.setIfInBounds_toArray, List.set_cons_zero, List.set_cons_succ, i64_w, i32_w]
                rfl
              refine one_ (i := 1) (N := some 69) #[true, true, true, true, true, true, false, false, false] rfl rfl (by kernel_rfl) (by decide) (fun K hK => ?_)
              refine goes_ Try.func27 (by kernel_rfl) rfl #[.pointer (some ⟨g, 0, none⟩)] (by rfl) rfl rfl (by simp only [List.map_toArray, List.map_cons, List.map_nil]; rfl) ?_
              with_reducible refine (HED.out).mono ?_
              rintro e w7 ⟨A7, c7, rfl, hR7, hB7⟩
              refine ⟨_, rfl, ?_⟩
              have HR7 := Aside0.mk (Kd.R_lower hR7 HBr.out.size)
              have HB7 := Aside0.mk (below_then HBr.out HBr.out.size (below_undrew1 hB7))
              have HE7 := Aside0.mk (HEr.out.drew.below hB7)
              have t0 : w7.cell? ⟨g, 0, none⟩ = some (.int .i64 s.kind) := HE7.out.c0
              have t1 : w7.cell? ⟨g, 1, none⟩ = some (.slice A0 s.st.length c0) := HE7.out.c1
              have HZ7 := Aside0.mk (blk_below (g := b1) (w := wr.drew) HZr.out hB7)
              have z0 : w7.cell? ⟨b1, 0, none⟩ = some (.int .i64 0) := (blk_cell HZ7.out 0).trans rfl
              have z1 : w7.cell? ⟨b1, 1, none⟩ = some (.slice none 0 0) := (blk_cell HZ7.out 1).trans rfl
              have zf0 := blk_frozen HZ7.out 0
              have zf1 := blk_frozen HZ7.out 1
              clear hR7 hB7
              refine hK.out _ _ ⟨t0, t1⟩ (fun hHeld => ?_)
              clear hK K
              refine norm_ (a' := ?_) ?_ ?_
              rotate_left
              · show Act.put _ (some 69) _ = _
                simp only [Act.put, List.setIfInBounds_toArray, List.set_cons_zero, List.set_cons_succ, i64_w, i32_w]
                rfl
              refine pure_ (i := 6) (N := some 4) (v := ?_) (a' := ?_) #[true, true, true, true, true, true, true, false, false] rfl rfl (by kernel_rfl) (fun _ _ _ h => h) (Or.inl ⟨by rfl, ?_⟩) ?_ ?_
              rotate_left
              · intro w'
                go_simp
                with_reducible rfl
              rotate_left
              · simp only [Act.put, List.setIfInBounds_toArray, List.set_cons_zero, List.set_cons_succ, i64_w, i32_w]
                rfl
              refine last_ (i := 7) (N := none) #[true, true, true, true, true, true, true, true, false] rfl rfl (by kernel_rfl) (by decide) (fun K hK => ?_)
              refine skip_ (w1 := ?_) (by rfl) rfl ?_ ?_
              rotate_left
              · go_simp
                rfl
              refine hK.out _ _ ?_
              clear hK K
              refine pure_ (i := 8) (N := some 6) (v := ?_) (a' := ?_) #[true, true, true, true, true, true, true, true, true] rfl rfl (by kernel_rfl) (fun _ _ _ h => h) (Or.inl ⟨by rfl, ?_⟩) ?_ ?_
              rotate_left
              · intro w'
                go_simp
                with_reducible rfl
              rotate_left
              · simp only [Act.put, List.setIfInBounds_toArray, List.set_cons_zero, List.set_cons_succ, i64_w, i32_w]
                rfl
              refine done_ (by kernel_rfl) ?_

              go_wp2
              have hwb : w.heap.size ≤ b1 := HI.out.wb
              refine bodyPost_ret (results_list (rs := [.tmp 4, .cell 5 24, .tmp 6]) rfl (by simp) (.tmp (.cell b1 24 #[.int .i64 s.kind, .slice A0 s.st.length c0] (0, 0) _ rfl (by refine blk_put (cs := #[.int .i64 s.kind, .slice none 0 0]) ?_ 1 _ rfl; exact blk_put (cs := #[.int .i64 0, .slice none 0 0]) HZ7.out 0 _ rfl) Try.underlying24 rfl (by kernel_rfl) (.tmp .nil)))) rfl ?_
              have hr : r = (s.end_, s.kind, s.st, 0) := by rw [HR.out]; unfold encodeR; rw [if_pos HM.out, if_neg HL.out, HF.out]; rfl
              rw [hr]
              have hz2 : (w7.setCell ⟨b1, 0, none⟩ (.int .i64 s.kind)).heap[b1]? = some (.cells #[.int .i64 s.kind, .slice none 0 0] 24 (0, 0)) := blk_put (cs := #[.int .i64 0, .slice none 0 0]) HZ7.out 0 _ rfl
              refine ⟨A7, c7, A0, c0, by rw [show s.end_.length = s.out.length + (endOf s.low s.high).length from List.length_append]; rfl, ?_, ?_, ?_⟩
              · exact Kd.R_set (Kd.R_set HR7.out HZ7.out (by decide) _ _) hz2 (by decide) _ _
              · refine Kd.R_set (Kd.R_set ?_ HZ7.out (by decide) _ _) hz2 (by decide) _ _
                show Kd.R (Kd.int .i64) 3 w7 w.heap.size (fun _ => True) (.slice A0 s.st.length c0) s.st
                exact Kd.R_raise (b := 0) (fun _ _ _ _ h => h) (Kd.R_mono HE7.out.s (fun _ _ => trivial)) (fun k hk => Nat.le_trans HI.out.wB (HE7.out.s.1 k hk).1)
              · exact (HB7.out.setCell hwb _).setCell hwb _
end Go.Proofs.Ytpnmedmghncpiaa.RefEncode
