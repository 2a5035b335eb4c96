/- A reader tells, deed by deed, what the reference's reader tells: for every list of bytes and every list of deeds. -/
import Derived.Test.YtccahgjcaajpcaaPBitsReadsx1
import Derived.Test.YtccahgjcaajpcaaAid
import Derived.Test.YtccahgjcaajpcaaHandAid
import Derived.Test.YtccahgjcaajpcaaRdr
import Derived.Test.YtccahgjcaajpcaaRows
import Derived.WalkKit
import Derived.ProofKit
import Derived.OpenShut
import Derived.ShutString
import Derived.ChangeOld
import Derived.Below
import Derived.SizedLaws
import Derived.Test.YtccahgjcaajpcaaWSized
namespace Go.Proofs.Ytccahgjcaajpcaa.HandBitsReads
open Go Go.RowKit Go.Proofs.Ytccahgjcaajpcaa.PBitsReads Go.Proofs.YtccahgjcaajpcaaW.PrintWords Go.Proofs.YtccahgjcaajpcaaW.PrintLast Go.Proofs.YtccahgjcaajpcaaW.PrintMore Go.Proofs.Ytccahgjcaajpcaa.Aid Go.Proofs.Ytccahgjcaajpcaa.HandAid Go.Proofs.Ytccahgjcaajpcaa.Rdr
set_option linter.unusedVariables false
set_option linter.unusedSimpArgs false
def sumFrom (s : Int) : List Int → Int
  | [] => s
  | c :: cs => sumFrom ((s * 31 + c) % 65521) cs
theorem bits_Sum_loop (l : List Int) (hl : Bytes l) (hn : l.length ≤ 140737488351232) : ∀ (d i : Nat) (s : Int), i + d = l.length → 0 ≤ s → s < 65521 → Ev (fun k => bits_Sum.l0 k s l (l.length : Int) (i : Int)) (sumFrom s (l.drop i))
  | 0, i, s, hd, h0, h1 => by
    refine ev_succ ?_
    simp only [bits_Sum.l0]
    refine ev_neg (by omega) ?_
    rw [List.drop_of_length_le (by omega)]
    exact Ev.now _
  | d + 1, i, s, hd, h0, h1 => by
    refine ev_succ ?_
    simp only [bits_Sum.l0]
    refine ev_pos (by omega) (ev_pos (by omega) (ev_pos (by omega) ?_))
    have hb := bytes_rd hl (i := i) (by omega)
    simp (disch := omega) only [wrap_id, tmod_id]
    rw [drop_rd (by omega)]
    exact bits_Sum_loop l hl hn d (i + 1) _ (by omega) (by omega) (by omega)
theorem bits_Sum_ev (l : List Int) (hl : Bytes l) (hn : l.length ≤ 140737488351232) : Ev (fun k => bits_Sum.f k l) (sumFrom 1 l) :=
  bits_Sum_loop l hl hn l.length 0 1 (by omega) (by omega) (by omega)
def sizeBytes (n : Int) : List Int :=
  if n < 128 then [n] else if n < 16384 then [n / 128 + 128, n % 128] else
  if n < 2097152 then [n / 16384 + 128, n / 128 % 128 + 128, n % 128] else
  if n < 268435456 then [n / 2097152 + 128, n / 16384 % 128 + 128, n / 128 % 128 + 128, n % 128] else
  [n / 268435456 + 128, n / 2097152 % 128 + 128, n / 16384 % 128 + 128, n / 128 % 128 + 128, n % 128]
theorem bits_Size_l0_end (n : Int) (acc : List Int) (h : n ≤ 0) : Ev (fun k => bits_Size.l0 k n acc) (acc, 0) := by
  refine ev_succ ?_
  simp only [bits_Size.l0]
  exact ev_neg (by omega) (Ev.now _)
theorem bits_Size_l0_go (n : Int) (acc : List Int) {r} (h : 0 < n) (h2 : n ≤ 2147483647) (ha : acc.length < 100) (hr : Ev (fun k => bits_Size.l0 k (n / 128) ((n % 128 + 128) :: acc)) r) : Ev (fun k => bits_Size.l0 k n acc) r := by
  refine ev_succ ?_
  simp only [bits_Size.l0]
  refine ev_pos (by omega) (ev_some (ev_pos (by simp; omega) ?_))
  simp (disch := omega) only [wrap_id, tmod_id, tdiv_id]
  rw [show (n % 128 % 256 + 128) % 256 = n % 128 + 128 by omega]
  exact hr
theorem bits_Size_ev (n : Int) (h : 0 ≤ n) (h2 : n ≤ 2147483647) : Ev (fun k => bits_Size.f k n) (sizeBytes n, 0) := by
  unfold bits_Size.f
  refine ev_neg (by omega) ?_
  rw [show decide (n > 2147483647) = false by simp; omega]
  refine ev_succ ?_
  simp only [bits_Size.j0]
  refine ev_neg (by simp) ?_
  simp (disch := omega) only [wrap_id, tmod_id, tdiv_id]
  rw [show n % 128 % 256 = n % 128 by omega]
  unfold sizeBytes
  by_cases c1 : n < 128
  · rw [if_pos c1]
    refine ev_eq (bits_Size_l0_end _ _ (by omega)) ?_
    rw [show n % 128 = n by omega]
  rw [if_neg c1]
  refine bits_Size_l0_go _ _ (by omega) (by omega) (by simp) ?_
  by_cases c2 : n < 16384
  · rw [if_pos c2]
    refine ev_eq (bits_Size_l0_end _ _ (by omega)) ?_
    rw [show n / 128 % 128 = n / 128 by omega]
  rw [if_neg c2]
  refine bits_Size_l0_go _ _ (by omega) (by omega) (by simp) ?_
  rw [show n / 128 / 128 = n / 16384 by omega]
  by_cases c3 : n < 2097152
  · rw [if_pos c3]
    refine ev_eq (bits_Size_l0_end _ _ (by omega)) ?_
    rw [show n / 16384 % 128 = n / 16384 by omega]
  rw [if_neg c3]
  refine bits_Size_l0_go _ _ (by omega) (by omega) (by simp) ?_
  rw [show n / 16384 / 128 = n / 2097152 by omega]
  by_cases c4 : n < 268435456
  · rw [if_pos c4]
    refine ev_eq (bits_Size_l0_end _ _ (by omega)) ?_
    rw [show n / 2097152 % 128 = n / 2097152 by omega]
  rw [if_neg c4]
  refine bits_Size_l0_go _ _ (by omega) (by omega) (by simp) ?_
  rw [show n / 2097152 / 128 = n / 268435456 by omega]
  refine ev_eq (bits_Size_l0_end _ _ (by omega)) ?_
  rw [show n / 268435456 % 128 = n / 268435456 by omega]
theorem bits_Size_bad (n : Int) (h : n < 0 ∨ 2147483647 < n) : Ev (fun k => bits_Size.f k n) ([], 2) := by
  unfold bits_Size.f
  by_cases c : n < 0
  · refine ev_pos c (ev_succ ?_)
    simp only [bits_Size.j0]
    exact ev_pos (by simp) (Ev.now _)
  · refine ev_neg c ?_
    rw [show decide (n > 2147483647) = true by simp; omega]
    refine ev_succ ?_
    simp only [bits_Size.j0]
    exact ev_pos (by simp) (Ev.now _)
theorem bits_Signed_ev (n : Int) (h : -1073741824 ≤ n) (h2 : n < 1073741824) : Ev (fun k => bits_Signed.f k n) (sizeBytes (if n < 0 then -2 * n - 1 else 2 * n), 0) := by
  unfold bits_Signed.f
  by_cases c : n < 0
  · refine ev_neg (by omega) (ev_succ ?_)
    simp only [bits_Signed.j0]
    refine ev_neg (by simp) (ev_pos c (ev_pos (by omega) ?_))
    simp (disch := omega) only [wrap_id]
    rw [if_pos c]
    exact ev_bind (bits_Size_ev _ (by omega) (by omega)) (Ev.now _)
  · refine ev_pos (by omega) ?_
    rw [show decide (n < 1073741824) = true by simp; omega]
    refine ev_succ ?_
    simp only [bits_Signed.j0]
    refine ev_pos (by simp) ?_
    simp (disch := omega) only [wrap_id]
    rw [if_neg c]
    exact ev_bind (bits_Size_ev _ (by omega) (by omega)) (Ev.now _)
theorem same_ev {α} {f : Nat → Bool → Option α} {r : α} (a : List Int) (h : Ev (fun k => f k true) r) : Ev (fun k => (incunableref01_SameBytes.f a a).bind (f k)) r := by
  refine ev_pure ?_ h
  unfold incunableref01_SameBytes.f
  rw [same_self]
theorem sane_ev : Ev (fun k => incunablelaw01_Sane.f k) true := by
  unfold incunablelaw01_Sane.f
  refine ev_bind (bits_Size_ev 300 (by omega) (by omega)) ?_
  refine ev_bind (bits_Signed_ev (-1) (by omega) (by omega)) ?_
  refine ev_pos rfl (ev_pos rfl ?_)
  refine same_ev [130, 44] (ev_pos rfl (same_ev [1] (ev_pos rfl ?_)))
  refine ev_bind (bits_Sum_ev [65] (by unfold Bytes; decide) (by decide)) (Ev.now _)
theorem long_no (l : List Int) (h : l.length ≤ 2000) : incunablelaw01_Long.f l = some false := by
  unfold incunablelaw01_Long.f
  rw [show decide ((l.length : Int) > 2000) = false by simp; omega]
theorem long_yes (l : List Int) (h : 2000 < l.length) : incunablelaw01_Long.f l = some true := by
  unfold incunablelaw01_Long.f
  rw [show decide ((l.length : Int) > 2000) = true by simp; omega]
theorem long_calls (A0 : Option Addr) (c0 : Nat) (l0 : List Int) (w : World) (hr0 : Kd.C (Kd.int .u8) w A0 l0.length l0) (hc0 : l0.length ≤ c0) :
    Calls Try.prog 11 #[.slice A0 l0.length c0] w fun e w' => e = .returned (.bool (decide (2000 < l0.length))) ∧ Drawn0 w w' := by
  refine incunablelaw01_Long.calls A0 c0 l0 _ w hr0 hc0 ?_
  by_cases h : 2000 < l0.length
  · rw [long_yes _ h]; simp [h]
  · rw [long_no _ (by omega)]; simp [h]
theorem copy_calls (A0 : Option Addr) (c0 : Nat) (l0 : List Int) (w : World) (hr0 : Kd.C (Kd.int .u8) w A0 l0.length l0) (hc0 : l0.length ≤ c0) (hl : l0.length ≤ 2000) :
    Calls Try.prog 15 #[.slice A0 l0.length c0] w fun e w' => ∃ A c, e = .returned (.slice A l0.length c) ∧ Kd.R (Kd.int .u8) 5 w' w.heap.size (fun _ => True) (.slice A l0.length c) l0 ∧ Below w.heap.size w w' := by
  refine (incunablelaw01_copyOf.calls A0 c0 l0 l0 w hr0 hc0 ?_).mono ?_
  · unfold incunablelaw01_copyOf.f
    simp only [Option.bind_some, List.nil_append, List.length_nil]
    rw [if_pos (by omega)]
  · rintro e w' ⟨v, rfl, hR, hb⟩
    obtain ⟨A, c, rfl⟩ := Kd.R_slice hR
    exact ⟨A, c, rfl, hR, hb⟩
set_option maxHeartbeats 4000000 in
theorem walk (w : World) (A0 : Option Addr) (c0 : Nat) (b : List Int) (hC0 : Kd.C (Kd.int .u8) w A0 b.length b) (hc0 : b.length ≤ c0) (y0 : b.length * 1 ≤ 140737488351232) (hw0 : ∀ x ∈ b, (Lit.int .u8 x).wf = true)
    (A1 : Option Addr) (c1 : Nat) (l : List Int) (hC1 : Kd.C (Kd.int .i64) w A1 l.length l) (hc1 : l.length ≤ c1) (y1 : l.length * 8 ≤ 140737488351232) (hw1 : ∀ x ∈ l, (Lit.int .i64 x).wf = true) :
    Calls Try.prog 10 #[.slice A0 b.length c0, .slice A1 l.length c1] w fun e w' => e = .returned (.bool true) ∧ Below w.heap.size w w' := by
  obtain ⟨k, hsane⟩ := Ev.rounds sane_ev
  have hS := Aside0.mk hsane
  have hb := bytes_of hw0
  have HC0 := Aside0.mk hC0
  have HC1 := Aside0.mk hC1
  have HW1 := Aside0.mk hw1
  clear hsane hC0 hC1 hw1 hw0
  by_cases hL : 2000 < b.length
  · have e1 : decide (2000 < b.length) = true := by simpa using hL
    go_enter Try.func10, Try.ntmps10
    go_wp2_with (first
      | (go_at_call 11; with_reducible refine (long_calls A0 c0 b _ HC0.out hc0).mono ?_; rintro e w' ⟨rfl, ⟨⟨m, rfl⟩⟩⟩)
      | (go_at_call 12; with_reducible refine (incunablelaw01_Sane.calls k true _ hS.out).mono ?_; rintro e w2 ⟨rfl, hb⟩; have HB2 := Aside0.mk hb; clear hb))
    go_ret
    exact ⟨rfl, below_undrew HB2.out⟩
  · have e1 : decide (2000 < b.length) = false := by simpa using hL
    by_cases hM : 200 < l.length
    · go_enter Try.func10, Try.ntmps10
      go_wp2_with (first
        | (go_at_call 11; with_reducible refine (long_calls A0 c0 b _ HC0.out hc0).mono ?_; rintro e w' ⟨rfl, ⟨⟨m, rfl⟩⟩⟩)
        | (go_at_call 12; with_reducible refine (incunablelaw01_Sane.calls k true _ hS.out).mono ?_; rintro e w2 ⟨rfl, hb⟩; have HB2 := Aside0.mk hb; clear hb))
      go_ret
      exact ⟨rfl, below_undrew HB2.out⟩
    · have hm : l.length ≤ 200 := by omega
      go_enter Try.func10, Try.ntmps10
      go_wp2_with (first
        | (go_at_call 11; with_reducible refine (long_calls A0 c0 b _ HC0.out hc0).mono ?_; rintro e w' ⟨rfl, ⟨⟨m, rfl⟩⟩⟩)
        | (go_at_call 34; with_reducible refine (new_reader A0 c0 b _ (Kd.C_drewN HC0.out m) hc0 (by omega)).mono ?_; rintro e w1 ⟨g1, rfl, hg1, hr1, hb1⟩; have HR1 := Aside0.mk hr1; have HG1 := Aside0.mk hg1; have HB1 : Aside0 (Below w.heap.size w w1) := ⟨below_undrew hb1⟩; clear hr1 hb1 hg1)
        | (go_at_call 15; with_reducible refine (copy_calls A0 c0 b _ (Kd.C_below HC0.out HB1.out) hc0 (by omega)).mono ?_; rintro e w2 ⟨A2, c2, rfl, hr2, hb2⟩; have HR2 := Aside0.mk hr2; have HB2 := Aside0.mk hb2; clear hr2 hb2))
      have hlt2 := HR2.out
      have HQ1 : Aside0 (IsRdr (w2.alloc (.cells #[.slice A2 b.length c2, .int .i64 0] 51)) g1 b 0) := ⟨(HR1.out.below HB2.out).below (below_alloc (Below.refl _ _) _)⟩
      have HQ2 : Aside0 (IsRef (w2.alloc (.cells #[.slice A2 b.length c2, .int .i64 0] 51)) w2.heap.size b 0) := ⟨⟨_, heap_new _ _, Kd.R_lower (Kd.R_alloc HR2.out _) (Nat.zero_le _)⟩⟩
      have HB3 : Aside0 (Below w.heap.size w (w2.alloc (.cells #[.slice A2 b.length c2, .int .i64 0] 51))) := ⟨below_then (below_then HB1.out HB1.out.size HB2.out) (Nat.le_trans HB1.out.size HB2.out.size) (below_alloc (Below.refl _ _) _)⟩
      have HG2 : Aside0 (w.heap.size ≤ w2.heap.size) := ⟨Nat.le_trans HB1.out.size HB2.out.size⟩
      have HG1' : Aside0 (w.heap.size ≤ g1) := ⟨HG1.out⟩
      clear hlt2 HR1 HR2 HG1
      obtain ⟨g2, hg2⟩ : ∃ g2, g2 = w2.heap.size := ⟨_, rfl⟩
      rw [← hg2] at HQ2 HG2 ⊢
      clear hg2
      go_loopw [7, 8, 9, 10, 11] (fun i _ _ _ _ wr => ∃ (j : Nat) (p : Int), j ≤ l.length ∧ i = .int .i64 j ∧ 0 ≤ p ∧ p ≤ 8 * b.length ∧ Aside0 (IsRdr wr g1 b p) ∧ Aside0 (IsRef wr g2 b p) ∧ Aside0 (Below w.heap.size w wr)) (fun i _ _ _ _ _ => l.length - (intOf i).toNat)
      case atStart => exact ⟨0, 0, by omega, rfl, by omega, by omega, HQ1, HQ2, HB3⟩
      case round =>
        obtain ⟨j, p, hj, rfl, hp0, hp1, hq1, hq2, hB⟩ := hrel
        clear HQ1 HQ2 HB3 HB1 HB2
        by_cases hlt : j < l.length
        · obtain ⟨ad, rfl, hd0⟩ := Kd.at_int HC1.out (j : Int) (by omega) (by omega)
          obtain ⟨x, hx⟩ : ∃ x, x = rd l (j : Int) := ⟨_, rfl⟩
          rw [← hx] at hd0
          clear hx
          simp only [Int.toNat_natCast] at hd0
          have hd := pw_cell_below hB.out hd0
          have HD0 := Aside0.mk hd0
          clear hd0
          by_cases hneg : x < 0
          · go_wp2_with (first
              | (go_at_call 31; with_reducible refine (align_real _ g1 b p hq1.out hp0 (by omega)).mono ?_; rintro e w3 ⟨rfl, h3, hg⟩; have K1 := Aside0.mk h3; have K2 := Aside0.mk (hq2.out.other hq1.out hg); have K3 := Aside0.mk (below_grown1 hB.out hB.out.size hg HG1'.out); clear h3 hg)
              | (go_at_call 35; with_reducible refine (ref_align _ g2 b p K2.out hp0 (by omega)).mono ?_; rintro e w4 ⟨rfl, h4, hg⟩; have K4 := Aside0.mk h4; have K5 := Aside0.mk (K1.out.other K2.out hg); have K6 := Aside0.mk (below_grown1 K3.out K3.out.size hg HG2.out); clear h4 hg))
            obtain ⟨A3, c3, z0, z1, z2⟩ := IsRdr.cells K5.out
            have z3 := IsRef.cell1 K4.out
            go_quiet ((first
              | (go_at_call 32; refine Calls.quiet_of_same ((at_real _ g1 ((p + 7) / 8 * 8) ?_ ?_).mono fun _ _ ⟨h, k⟩ => ⟨h, k.symm⟩); exact z1; exact z2)
              | (go_at_call 33; refine Calls.quiet_of (left_real _ g1 A3 b.length c3 ((p + 7) / 8 * 8) ?_ ?_ ?_ (by omega) (by omega) (by omega)); exact z0; exact z1; exact z2)))
            go_wp2
            go_roundw
            case rel => exact ⟨j + 1, _, by omega, by go_num, (by omega), (by omega), ⟨K5.out.drewN _⟩, ⟨K4.out.drewN _⟩, ⟨pw_below_drewN K6.out _⟩⟩
            case measure => simp [intOf]; omega
          · have hx0 : ¬ x < 0 := hneg
            by_cases h32 : x ≤ 32
            · by_cases hfit : p + x ≤ 8 * b.length
              · go_wp2_with (first
                  | (go_at_call 30; with_reducible refine (bits_real x _ g1 b p hq1.out hb (by omega) h32 (by omega) hp0 hfit).mono ?_; rintro e w3 ⟨rfl, h3, hg⟩; have K1 := Aside0.mk h3; have K2 := Aside0.mk (hq2.out.other hq1.out hg); have K3 := Aside0.mk (below_grown1 hB.out hB.out.size hg HG1'.out); have hd3 := pw_cell_below K3.out HD0.out; clear h3 hg)
                  | (go_at_call 36; with_reducible refine (ref_bits x _ g2 b p K2.out hb (by omega) h32 (by omega) hp0 hfit).mono ?_; rintro e w4 ⟨rfl, h4, hg⟩; have K4 := Aside0.mk h4; have K5 := Aside0.mk (K1.out.other K2.out hg); have K6 := Aside0.mk (below_grown1 K3.out K3.out.size hg HG2.out); clear h4 hg))
                obtain ⟨A3, c3, z0, z1, z2⟩ := IsRdr.cells K5.out
                have z3 := IsRef.cell1 K4.out
                go_quiet ((first
                  | (go_at_call 32; refine Calls.quiet_of_same ((at_real _ g1 (p + x) ?_ ?_).mono fun _ _ ⟨h, k⟩ => ⟨h, k.symm⟩); exact z1; exact z2)
                  | (go_at_call 33; refine Calls.quiet_of (left_real _ g1 A3 b.length c3 (p + x) ?_ ?_ ?_ (by omega) (by omega) (by omega)); exact z0; exact z1; exact z2)))
                go_wp2
                go_roundw
                case rel => exact ⟨j + 1, _, by omega, by go_num, (by omega), (by omega), ⟨K5.out.drewN _⟩, ⟨K4.out.drewN _⟩, ⟨pw_below_drewN K6.out _⟩⟩
                case measure => simp [intOf]; omega
              · go_wp2_with (first
                  | (go_at_call 30; with_reducible refine (bits_end x _ g1 b p hq1.out (by omega) h32 (by omega) hp0 hp1 (by omega)).mono ?_; rintro e w3 ⟨rfl, m3, rfl⟩)
                  | (go_at_call 36; refine (ref_bits_end x _ g2 b p (hq2.out.drewN _) (by omega) h32 (by omega) hp0 hp1 (by omega)).mono ?_; rintro e w4 ⟨rfl, m4, hw4⟩; have HW4 := Aside0.mk hw4; clear hw4))
                obtain ⟨hw4⟩ := HW4
                have K5 : Aside0 (IsRdr w4 g1 b p) := by subst hw4; exact ⟨(hq1.out.drewN _).drewN _⟩
                have K4 : Aside0 (IsRef w4 g2 b p) := by subst hw4; exact ⟨(hq2.out.drewN _).drewN _⟩
                have K6 : Aside0 (Below w.heap.size w w4) := by subst hw4; exact ⟨pw_below_drewN (pw_below_drewN hB.out _) _⟩
                clear hw4
                obtain ⟨A3, c3, z0, z1, z2⟩ := IsRdr.cells K5.out
                have z3 := IsRef.cell1 K4.out
                go_quiet ((first
                  | (go_at_call 32; refine Calls.quiet_of_same ((at_real _ g1 p ?_ ?_).mono fun _ _ ⟨h, k⟩ => ⟨h, k.symm⟩); exact z1; exact z2)
                  | (go_at_call 33; refine Calls.quiet_of (left_real _ g1 A3 b.length c3 p ?_ ?_ ?_ (by omega) (by omega) (by omega)); exact z0; exact z1; exact z2)))
                go_wp2
                go_roundw
                case rel => exact ⟨j + 1, _, by omega, by go_num, (by omega), (by omega), ⟨K5.out.drewN _⟩, ⟨K4.out.drewN _⟩, ⟨pw_below_drewN K6.out _⟩⟩
                case measure => simp [intOf]; omega
            · go_wp2_with (first
                | (go_at_call 30; with_reducible refine (bits_arg x _ g1 (IsRdr.cells hq1.out).choose_spec.choose_spec.2.2 (by omega)).mono ?_; rintro e w3 ⟨rfl, rfl⟩)
                | (go_at_call 36; with_reducible refine (ref_bits_arg x _ g2 (by omega)).mono ?_; rintro e w4 ⟨rfl, rfl⟩))
              have K5 := hq1
              have K4 := hq2
              have K6 := hB
              obtain ⟨A3, c3, z0, z1, z2⟩ := IsRdr.cells K5.out
              have z3 := IsRef.cell1 K4.out
              go_quiet ((first
                | (go_at_call 32; refine Calls.quiet_of_same ((at_real _ g1 p ?_ ?_).mono fun _ _ ⟨h, k⟩ => ⟨h, k.symm⟩); exact z1; exact z2)
                | (go_at_call 33; refine Calls.quiet_of (left_real _ g1 A3 b.length c3 p ?_ ?_ ?_ (by omega) (by omega) (by omega)); exact z0; exact z1; exact z2)))
              go_wp2
              go_roundw
              case rel => exact ⟨j + 1, _, by omega, by go_num, (by omega), (by omega), ⟨K5.out.drewN _⟩, ⟨K4.out.drewN _⟩, ⟨pw_below_drewN K6.out _⟩⟩
              case measure => simp [intOf]; omega
        · go_wp2_with (go_at_call 12; with_reducible refine (incunablelaw01_Sane.calls k true _ hS.out).mono ?_; rintro e w3 ⟨rfl, hb⟩; have HB3 := Aside0.mk hb; clear hb)
          go_ret
          exact ⟨rfl, below_then hB.out hB.out.size HB3.out⟩
open Go.ChangeShapes Go.WideShapes Go.ChangeAt
open Go.ChangeMaps (open_string shut_string)
theorem own : ownKnob Try.prog.godebug = none := by kernel_rfl
theorem laidOut : laidOutB Try.prog = true := by kernel_rfl
def IsRow (k : IntKind) (w : World) (a : Option Addr) (len cap : Nat) (zs : List Int) : Prop :=
  (a = none ∧ len = 0 ∧ cap = 0 ∧ zs = []) ∨
  ∃ x, a = some x ∧ len ≤ cap ∧ cap ≤ maxLen ∧ zs.length = cap ∧ (∀ i, i < zs.length → w.cell? (x.add i) = some (.int k (zs.getD i 0))) ∧ ∀ n ∈ zs, (Lit.int k n).wf = true
set_option maxRecDepth 100000 in
theorem lifted (os : Os) (started : os.Started) (H : Type) (enc : TypeId × Value → H) :
    ReturnsInHanded {} Try.checked os 10 .any (Rows.bitsReadsSpec.pre6 enc Try.prog Try.f10 Rows.bitsReadsRow.domain false) (Rows.bitsReadsSpec.post enc Try.prog Try.f10 false true false false) := by
  refine returnsInHanded_of_change_sized (C := Try.checked) own started (by kernel_rfl) Try.func10
    (ChangeSpec.witness6 (enc := enc) (C := Try.checked) false ⟨#[], #[.slice none 0 0, .slice none 0 0], []⟩ 8 (by kernel_rfl) (by kernel_rfl) (by kernel_rfl) (by kernel_rfl)) ?_
  intro W base args ds gs before hval0 hW hcnd hsz0 _
  have hsz : (DataW.weightsEach Try.prog (Try.f10.params.toList ++ Rows.bitsReadsSpec.plain.varTypes Try.prog) (ds ++ gs)).all (· ≤ reachBytes) = true := hsz0
  have hval : ∀ (j : Nat) t v, Try.f10.params[j]? = some t → args[j]? = some v → Value.okWide Try.prog W .any base t v := hval0
  have hW' := hW
  obtain ⟨p, q, hA0, hV, rfl, hfz, hnd⟩ := hW
  have hA : DataW.TrodAll enc Try.prog W 0 (fun _ => true) true Try.f10.params.toList args.toList ds p := hA0
  rw [Try.params10] at hA hval hsz
  obtain ⟨v0, vs0, d0, ds0, p0, q0, hargs, rfl, rfl, h0, r0⟩ := trodAll_cons hA
  obtain ⟨v1, vs1, d1, ds1, p1, q1, rfl, rfl, rfl, h1, r1⟩ := trodAll_cons r0
  obtain ⟨rfl, rfl, rfl⟩ := trodAll_nil r1
  obtain rfl : args = #[v0, v1] := by cases args; simp_all
  obtain ⟨rfl, rfl⟩ := trodVars_none hV
  obtain ⟨a0, len0, cap0, rfl⟩ := okWide_slice Try.underlying22 (hval 0 22 v0 rfl rfl)
  have k0 := h0
  have lt0 : ∀ x ∈ p0, x.block < W.heap.size := by obtain ⟨m, hm⟩ := k0; exact DataW.trod_lt m _ _ _ hm
  obtain ⟨z0, w0⟩ : ∃ zs, IsRow .u8 W a0 len0 cap0 zs := by
    obtain ⟨fuel, hf⟩ := h0
    rcases open_ints Try.underlying22 Try.underlying5 (by kernel_rfl) hf with ⟨hcs, _⟩ | ⟨x, l, c, zs, hcs, _, hl, hm, hz, _, hcell, hwz⟩
    · simp [Value.cells] at hcs
      obtain ⟨rfl, rfl, rfl⟩ := hcs
      exact ⟨[], .inl ⟨rfl, rfl, rfl, rfl⟩⟩
    · simp [Value.cells] at hcs
      obtain ⟨rfl, rfl, rfl⟩ := hcs
      exact ⟨zs, .inr ⟨_, rfl, hl, hm, by simpa using hz, hcell, hwz⟩⟩
  have y0 : len0 * 1 ≤ 140737488351232 := sized_ints hsz (j := 0) (t := 22) rfl rfl Try.underlying22 Try.underlying5 (by kernel_rfl) (by kernel_rfl) h0
  obtain ⟨l0, rfl, hr0, hm0, hw0, hc0⟩ := ReadsInt.ofRowC w0
  obtain ⟨a1, len1, cap1, rfl⟩ := okWide_slice Try.underlying47 (hval 1 47 v1 rfl rfl)
  have k1 := h1
  have lt1 : ∀ x ∈ p1, x.block < W.heap.size := by obtain ⟨m, hm⟩ := k1; exact DataW.trod_lt m _ _ _ hm
  obtain ⟨z1, w1⟩ : ∃ zs, IsRow .i64 W a1 len1 cap1 zs := by
    obtain ⟨fuel, hf⟩ := h1
    rcases open_ints Try.underlying47 Try.underlying3 (by kernel_rfl) hf with ⟨hcs, _⟩ | ⟨x, l, c, zs, hcs, _, hl, hm, hz, _, hcell, hwz⟩
    · simp [Value.cells] at hcs
      obtain ⟨rfl, rfl, rfl⟩ := hcs
      exact ⟨[], .inl ⟨rfl, rfl, rfl, rfl⟩⟩
    · simp [Value.cells] at hcs
      obtain ⟨rfl, rfl, rfl⟩ := hcs
      exact ⟨zs, .inr ⟨_, rfl, hl, hm, by simpa using hz, hcell, hwz⟩⟩
  have y1 : len1 * 8 ≤ 140737488351232 := sized_ints hsz (j := 1) (t := 47) rfl rfl Try.underlying47 Try.underlying3 (by kernel_rfl) (by kernel_rfl) h1
  obtain ⟨l1, rfl, hr1, hm1, hw1, hc1⟩ := ReadsInt.ofRowC w1
  clear hA0 hval0 hsz0 hsz
  refine (walk W _ _ l0 (Kd.C_of_reads (d := (0 : Int)) (h1 := fun _ => rfl) hr0) hc0 y0 hw0 _ _ l1 (Kd.C_of_reads (d := (0 : Int)) (h1 := fun _ => rfl) hr1) hc1 y1 hw1).mono fun e W' ⟨he, bel⟩ => ?_
  subst he
  exact ⟨_, rfl, _, _, _, [], _, [], hW', trodAll_mk1 (shut_bool Try.underlying4 _), (trodAll_cons_mk (Below.trod laidOut (by kernel_rfl) (of_decide_eq_true (by kernel_rfl)) k0 bel lt0) (trodAll_cons_mk (Below.trod laidOut (by kernel_rfl) (of_decide_eq_true (by kernel_rfl)) k1 bel lt1) trodAll_mk0)), rfl, bel.frame _, fun h => by cases h⟩
theorem over : Rows.bitsReadsRow.holds Try.pinned (OpenSpec.ofChange Rows.bitsReadsSpec) :=
  OpenClaim.holds_of_wide 10 Try.f10 rfl rfl rfl rfl rfl rfl rfl ⟨rfl, rfl, rfl, rfl, rfl⟩ rfl rfl rfl rfl rfl (by kernel_rfl) Try.func10 (by kernel_rfl)
    (of_decide_eq_true (by kernel_rfl)) (by unfold Func.isWrapper; first | (rw [if_pos (by decide +kernel)]; kernel_rfl) | (rw [if_neg (by decide +kernel)]; exact ⟨rfl, rfl⟩))
    (fun os started H enc _ => lifted os started H enc)
theorem proved : Rows.BitsReadsSaid := over
#print axioms proved
end Go.Proofs.Ytccahgjcaajpcaa.HandBitsReads
namespace Go.Proofs.Ytccahgjcaajpcaa
/-- The row, under a short name, for the claim. -/
theorem bitsReads_holds : Rows.BitsReadsSaid := HandBitsReads.proved
end Go.Proofs.Ytccahgjcaajpcaa
