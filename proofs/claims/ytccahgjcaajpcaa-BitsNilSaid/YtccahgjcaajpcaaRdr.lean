import Derived.Test.YtccahgjcaajpcaaAid
import Derived.Test.YtccahgjcaajpcaaHandAid
-- needs: Aid HandAid
namespace Go.Proofs.Ytccahgjcaajpcaa.Rdr
open Go Go.RowKit Go.Proofs.YtccahgjcaajpcaaW.PrintWords Go.Proofs.YtccahgjcaajpcaaW.PrintLast Go.Proofs.YtccahgjcaajpcaaW.PrintMore Go.Proofs.Ytccahgjcaajpcaa.Aid Go.Proofs.Ytccahgjcaajpcaa.HandAid
set_option linter.unusedVariables false
/-- A reader at block g of W: its bytes, and how many bits are read. -/
def IsRdr (W : World) (g : Nat) (b : List Int) (at' : Int) : Prop := ∃ v, W.heap[g]? = some (.cells #[v, .int .i64 at', .bool true] 41 (0, 0)) ∧ Kd.R (Kd.int .u8) 5 W 0 (fun _ => True) v b

theorem none_nil (w : World) : Calls Try.prog 39 #[.pointer none] w fun e w' => e = .returned (.bool true) ∧ w = w' := by
  go_enter Try.func39, Try.ntmps39
  go_wp2
  go_ret
  exact ⟨rfl, rfl⟩
theorem none_cell (w : World) (g : Nat) (real : Bool) (h2 : w.cell? ⟨g, 2, none⟩ = some (.bool real)) : Calls Try.prog 39 #[.pointer (some ⟨g, 0, none⟩)] w fun e w' => e = .returned (.bool (!real)) ∧ w = w' := by
  go_enter Try.func39, Try.ntmps39
  go_wp2
  go_ret
  exact ⟨rfl, rfl⟩
theorem left_nil (w : World) : Calls Try.prog 33 #[.pointer none] w fun e w' => e = .returned (.int .i64 0) ∧ w = w' := by
  go_enter Try.func33, Try.ntmps33
  go_wp2_with (go_at_call 39; refine (none_nil _).mono ?_; rintro e w' ⟨rfl, rfl⟩)
  go_ret
  exact ⟨rfl, rfl⟩
theorem left_zero (w : World) (g : Nat) (h2 : w.cell? ⟨g, 2, none⟩ = some (.bool false)) : Calls Try.prog 33 #[.pointer (some ⟨g, 0, none⟩)] w fun e w' => e = .returned (.int .i64 0) ∧ w = w' := by
  go_enter Try.func33, Try.ntmps33
  go_wp2_with (go_at_call 39; refine (none_cell _ _ _ h2).mono ?_; rintro e w' ⟨rfl, rfl⟩)
  go_ret
  exact ⟨rfl, rfl⟩
theorem left_real (w : World) (g : Nat) (A : Option Addr) (n c : Nat) (at' : Int) (h0 : w.cell? ⟨g, 0, none⟩ = some (.slice A n c)) (h1 : w.cell? ⟨g, 1, none⟩ = some (.int .i64 at')) (h2 : w.cell? ⟨g, 2, none⟩ = some (.bool true)) (hn : n ≤ 1000000000000) (ha : 0 ≤ at') (hb : at' ≤ 8000000000000) :
    Calls Try.prog 33 #[.pointer (some ⟨g, 0, none⟩)] w fun e w' => e = .returned (.int .i64 (8 * (n : Int) - at')) ∧ ∃ m, w' = w.drewN m := by
  go_enter Try.func33, Try.ntmps33
  go_wp2_with (go_at_call 39; refine (none_cell _ _ _ h2).mono ?_; rintro e w' ⟨rfl, rfl⟩)
  go_quiet (fail)
  go_wp2
  go_ret
  exact ⟨rfl, _, rfl⟩

/-- The number that the bits from a place on are. -/
def bitsAt (b : List Int) (i : Int) : Nat → Int
  | 0 => 0
  | d + 1 => 2 * bitsAt b i d + bitOf b (i + d)
theorem bitsAt_range (b : List Int) (i : Int) : ∀ d : Nat, 0 ≤ bitsAt b i d ∧ bitsAt b i d < 2 ^ d
  | 0 => by simp [bitsAt]
  | d + 1 => by
    have := bitsAt_range b i d
    have h := bitOf_range b (i + d)
    rw [Int.pow_succ]
    unfold bitsAt
    omega
theorem bits_nil (n : Int) (w : World) : Calls Try.prog 30 #[.pointer none, .int .i64 n] w fun e w' => e = .returned (.tuple #[.int .i64 0, .int .i64 7]) ∧ w = w' := by
  go_enter Try.func30, Try.ntmps30
  go_wp2_with (go_at_call 39; refine (none_nil _).mono ?_; rintro e w' ⟨rfl, rfl⟩)
  go_ret2
  exact ⟨rfl, rfl⟩
theorem bits_zero (n : Int) (w : World) (g : Nat) (h2 : w.cell? ⟨g, 2, none⟩ = some (.bool false)) : Calls Try.prog 30 #[.pointer (some ⟨g, 0, none⟩), .int .i64 n] w fun e w' => e = .returned (.tuple #[.int .i64 0, .int .i64 7]) ∧ w = w' := by
  go_enter Try.func30, Try.ntmps30
  go_wp2_with (go_at_call 39; refine (none_cell _ _ _ h2).mono ?_; rintro e w' ⟨rfl, rfl⟩)
  go_ret2
  exact ⟨rfl, rfl⟩
theorem bits_arg (n : Int) (w : World) (g : Nat) (h2 : w.cell? ⟨g, 2, none⟩ = some (.bool true)) (hn : n < 0 ∨ 32 < n) : Calls Try.prog 30 #[.pointer (some ⟨g, 0, none⟩), .int .i64 n] w fun e w' => e = .returned (.tuple #[.int .i64 0, .int .i64 2]) ∧ w = w' := by
  rcases hn with hn | hn
  · go_enter Try.func30, Try.ntmps30
    go_wp2_with (go_at_call 39; refine (none_cell _ _ _ h2).mono ?_; rintro e w' ⟨rfl, rfl⟩)
    go_ret2
    exact ⟨rfl, rfl⟩
  · have hn' : ¬ n < 0 := by omega
    go_enter Try.func30, Try.ntmps30
    go_wp2_with (go_at_call 39; refine (none_cell _ _ _ h2).mono ?_; rintro e w' ⟨rfl, rfl⟩)
    go_ret2
    exact ⟨rfl, rfl⟩

theorem bits_real (n : Int) (w : World) (g : Nat) (b : List Int) (at' : Int) (h : IsRdr w g b at') (hb : Bytes b) (hn0 : 0 ≤ n) (hn1 : n ≤ 32) (hl : b.length ≤ 1000000000000) (ha : 0 ≤ at') (hfit : at' + n ≤ 8 * b.length) :
    Calls Try.prog 30 #[.pointer (some ⟨g, 0, none⟩), .int .i64 n] w fun e w' => e = .returned (.tuple #[.int .i64 (bitsAt b at' n.toNat), .int .i64 0]) ∧ IsRdr w' g b (at' + n) ∧ w.grownBy w' (some g) := by
  obtain ⟨v, hblk, hR⟩ := h
  obtain ⟨A, c, rfl⟩ := Kd.R_slice hR
  have h0 : w.cell? ⟨g, 0, none⟩ = some (.slice A b.length c) := (blk_cell hblk 0).trans rfl
  have h1 : w.cell? ⟨g, 1, none⟩ = some (.int .i64 at') := (blk_cell hblk 1).trans rfl
  have h2 : w.cell? ⟨g, 2, none⟩ = some (.bool true) := (blk_cell hblk 2).trans rfl
  have hn2 : ¬ n < 0 := by omega
  have hn3 : ¬ n > 32 := by omega
  have hn4 : ¬ n > 8 * (b.length : Int) - at' := by omega
  have HBLK := Aside0.mk hblk
  clear hblk
  go_enter Try.func30, Try.ntmps30
  go_wp2_with (first | (go_at_call 39; refine (none_cell _ _ _ h2).mono ?_; rintro e w' ⟨rfl, rfl⟩) | (go_at_call 33; refine (left_real _ _ _ _ _ _ h0 h1 h2 hl ha (by omega)).mono ?_; rintro e w1 ⟨rfl, m, rfl⟩))
  go_loopw [6, 23] (fun x i wr => ∃ j : Nat, (j : Int) ≤ n ∧ x = .int .i64 (bitsAt b at' j) ∧ i = .int .i64 j ∧ Aside0 (wr.heap[g]? = some (.cells #[.slice A b.length c, .int .i64 (at' + j), .bool true] 41 (0, 0))) ∧ Aside0 (Kd.R (Kd.int .u8) 5 wr 0 (fun _ => True) (.slice A b.length c) b) ∧ Aside0 (w.grownBy wr (some g))) (fun _ i _ => (n - intOf i).toNat)
  case atStart => exact ⟨0, by omega, rfl, rfl, ⟨by simpa using HBLK.out⟩, ⟨Kd.R_drewN hR m⟩, ⟨rfl, rfl, rfl, Nat.le_refl _, fun _ _ _ => rfl⟩⟩
  case round =>
    obtain ⟨j, hj, rfl, rfl, hq, hR', hg⟩ := hrel
    by_cases hlt : (j : Int) < n
    · have q0 : wr.cell? ⟨g, 0, none⟩ = some (.slice A b.length c) := (blk_cell hq.out 0).trans rfl
      have q1 : wr.cell? ⟨g, 1, none⟩ = some (.int .i64 (at' + j)) := (blk_cell hq.out 1).trans rfl
      obtain ⟨ad, rfl, hd⟩ := Kd.at_int (Kd.R_reads' hR'.out).2.2 ((at' + j) / 8) (by omega) (by omega)
      have hbr := bytes_rdI hb (i := (at' + j) / 8) (by omega) (by omega)
      have hx := bitsAt_range b at' j
      have hp : (2 : Int) ^ j ≤ 2 ^ 32 := by
        have : j ≤ 32 := by omega
        exact_mod_cast Nat.pow_le_pow_right (by omega) this
      have hfz := blk_frozen hq.out 1
      have hbo := bitOf_range b (at' + j)
      have he : Go.bits .and .u8 (rd b ((at' + j) / 8) / 2 ^ (7 - (at' + j) % 8).toNat) 1 = bitOf b (at' + j) := and_one (Int.ediv_nonneg hbr.1 (Int.pow_nonneg (by decide))) (Int.lt_of_le_of_lt (Int.ediv_le_self _ hbr.1) (by omega))
      go_wp2
      go_quiet (fail)
      go_wp2
      go_roundw
      case rel =>
        refine ⟨j + 1, by omega, ?_, by go_num, ⟨?_⟩, ⟨?_⟩, ⟨?_⟩⟩
        · rfl
        · rw [show (at' + ((j + 1 : Nat) : Int)) = at' + j + 1 by omega]
          simpa using blk_set (w := wr.drewN nq) hq.out 1 (.int .i64 (at' + j + 1))
        · exact Kd.R_set hR'.out hq.out (by decide) _ _
        · exact grown_set (grown_drewN hg.out nq)
      case measure => simp [intOf]; omega
    · have hj' : n = (j : Int) := by omega
      subst hj'
      go_wp2
      go_ret2
      exact ⟨ret2_int (by simp) rfl, ⟨_, hq.out, hR'.out⟩, hg.out⟩

theorem bits_end (n : Int) (w : World) (g : Nat) (b : List Int) (at' : Int) (h : IsRdr w g b at') (hn0 : 0 ≤ n) (hn1 : n ≤ 32) (hl : b.length ≤ 1000000000000) (ha : 0 ≤ at') (ha2 : at' ≤ 8 * b.length) (hfit : 8 * b.length < at' + n) :
    Calls Try.prog 30 #[.pointer (some ⟨g, 0, none⟩), .int .i64 n] w fun e w' => e = .returned (.tuple #[.int .i64 0, .int .i64 6]) ∧ ∃ m, w' = w.drewN m := by
  obtain ⟨v, hblk, hR⟩ := h
  obtain ⟨A, c, rfl⟩ := Kd.R_slice hR
  have h0 : w.cell? ⟨g, 0, none⟩ = some (.slice A b.length c) := (blk_cell hblk 0).trans rfl
  have h1 : w.cell? ⟨g, 1, none⟩ = some (.int .i64 at') := (blk_cell hblk 1).trans rfl
  have h2 : w.cell? ⟨g, 2, none⟩ = some (.bool true) := (blk_cell hblk 2).trans rfl
  have hn2 : ¬ n < 0 := by omega
  have hn3 : ¬ n > 32 := by omega
  have hn4 : n > 8 * (b.length : Int) - at' := by omega
  go_enter Try.func30, Try.ntmps30
  go_wp2_with (first | (go_at_call 39; refine (none_cell _ _ _ h2).mono ?_; rintro e w' ⟨rfl, rfl⟩) | (go_at_call 33; refine (left_real _ _ _ _ _ _ h0 h1 h2 hl ha (by omega)).mono ?_; rintro e w1 ⟨rfl, m, rfl⟩))
  go_ret2
  exact ⟨rfl, _, rfl⟩
theorem align_nil (w : World) : Calls Try.prog 31 #[.pointer none] w fun e w' => e = .returned (.int .i64 7) ∧ w = w' := by
  go_enter Try.func31, Try.ntmps31
  go_wp2_with (go_at_call 39; refine (none_nil _).mono ?_; rintro e w' ⟨rfl, rfl⟩)
  go_ret
  exact ⟨rfl, rfl⟩
theorem align_zero (w : World) (g : Nat) (h2 : w.cell? ⟨g, 2, none⟩ = some (.bool false)) : Calls Try.prog 31 #[.pointer (some ⟨g, 0, none⟩)] w fun e w' => e = .returned (.int .i64 7) ∧ w = w' := by
  go_enter Try.func31, Try.ntmps31
  go_wp2_with (go_at_call 39; refine (none_cell _ _ _ h2).mono ?_; rintro e w' ⟨rfl, rfl⟩)
  go_ret
  exact ⟨rfl, rfl⟩
theorem align_real (w : World) (g : Nat) (b : List Int) (at' : Int) (h : IsRdr w g b at') (ha : 0 ≤ at') (hl : at' ≤ 8000000000000) : Calls Try.prog 31 #[.pointer (some ⟨g, 0, none⟩)] w fun e w' => e = .returned (.int .i64 0) ∧ IsRdr w' g b ((at' + 7) / 8 * 8) ∧ w.grownBy w' (some g) := by
  obtain ⟨v, hblk, hR⟩ := h
  obtain ⟨A, c, rfl⟩ := Kd.R_slice hR
  have h1 : w.cell? ⟨g, 1, none⟩ = some (.int .i64 at') := (blk_cell hblk 1).trans rfl
  have h2 : w.cell? ⟨g, 2, none⟩ = some (.bool true) := (blk_cell hblk 2).trans rfl
  have hfz := blk_frozen hblk 1
  have HBLK := Aside0.mk hblk
  clear hblk
  go_enter Try.func31, Try.ntmps31
  go_wp2_with (go_at_call 39; refine (none_cell _ _ _ h2).mono ?_; rintro e w' ⟨rfl, rfl⟩)
  go_ret
  exact ⟨rfl, ⟨_, by simpa using blk_set HBLK.out 1 (.int .i64 ((at' + 7) / 8 * 8)), Kd.R_set hR HBLK.out (by decide) _ _⟩, grown_set (World.grownBy.refl _ _)⟩
theorem at_nil (w : World) : Calls Try.prog 32 #[.pointer none] w fun e w' => e = .returned (.int .i64 0) ∧ w = w' := by
  go_enter Try.func32, Try.ntmps32
  go_wp2_with (go_at_call 39; refine (none_nil _).mono ?_; rintro e w' ⟨rfl, rfl⟩)
  go_ret
  exact ⟨rfl, rfl⟩
theorem at_zero (w : World) (g : Nat) (h2 : w.cell? ⟨g, 2, none⟩ = some (.bool false)) : Calls Try.prog 32 #[.pointer (some ⟨g, 0, none⟩)] w fun e w' => e = .returned (.int .i64 0) ∧ w = w' := by
  go_enter Try.func32, Try.ntmps32
  go_wp2_with (go_at_call 39; refine (none_cell _ _ _ h2).mono ?_; rintro e w' ⟨rfl, rfl⟩)
  go_ret
  exact ⟨rfl, rfl⟩
theorem at_real (w : World) (g : Nat) (at' : Int) (h1 : w.cell? ⟨g, 1, none⟩ = some (.int .i64 at')) (h2 : w.cell? ⟨g, 2, none⟩ = some (.bool true)) : Calls Try.prog 32 #[.pointer (some ⟨g, 0, none⟩)] w fun e w' => e = .returned (.int .i64 at') ∧ w = w' := by
  go_enter Try.func32, Try.ntmps32
  go_wp2_with (go_at_call 39; refine (none_cell _ _ _ h2).mono ?_; rintro e w' ⟨rfl, rfl⟩)
  go_ret
  exact ⟨rfl, rfl⟩

theorem new_reader (A0 : Option Addr) (c0 : Nat) (l0 : List Int) (w : World) (hr0 : Kd.C (Kd.int .u8) w A0 l0.length l0) (hc0 : l0.length ≤ c0) (hl : l0.length ≤ 1000000000000) :
    Calls Try.prog 34 #[.slice A0 l0.length c0] w fun e w' => ∃ g, e = .returned (.pointer (some ⟨g, 0, none⟩)) ∧ w.heap.size ≤ g ∧ IsRdr w' g l0 0 ∧ Below w.heap.size w w' := by
  have HR0 := Aside0.mk hr0
  have HC0 := Aside0.mk hc0
  clear hr0 hc0
  have HB := Aside0.mk (Below.refl w.heap.size w)
  go_enter Try.func34, Try.ntmps34
  go_wp2_with (first | ((with_reducible refine gate_dst (N := 3) rfl ?_); refine Kd.R_lit (Kd.int .u8) _ 5 ?hg (N := 3) ?hd (xs := ([] : List Int)) (inner := []) (ok := fun _ => True) (okp := fun _ => True) ?hr ?hp (fun _ hk => hk) trivial (Below.refl _ _) (Nat.le_refl _) (by simp) ?_; (case hd => rfl); (case hg => rfl); (case hr => first | (go_simp; done) | (go_simp; rfl)); (case hp => exact (Reps.none _ _)); intro v140 w3 ho4 hb hg_ hnew_; clear hg_ hnew_; have HO := Aside0.mk (Kd.R_lower ho4 (Nat.le_refl _)); have HB1 := Aside0.mk hb; clear hb ho4) | ((with_reducible refine gate_builtin (b := .append) (xs := #[.tmp 3, .tmp 4]) rfl ?_); at_builtin; refine Kd.R_append_rows (Kd.int .u8) (w0 := w) w.heap.size rfl (.tmp 3) (.tmp 4) 22 5 (.int .u8 0) 1 rfl Try.underlying22 infoU8 rfl (by decide) (by omega) v140 ([] : List Int) l0 _ _ _ (fun _ => True) (fun _ => False) rfl rfl ?aO ?aR (fun _ _ h => h) (fun _ h => h.elim) (fun _ _ => trivial) ?aB ?aS ?aL ?_; (case aR => exact Kd.C_below HR0.out HB1.out); (case aB => exact HB1.out); (case aO => exact HO.out); (case aS => exact HB1.out.size); (case aL => have hz : ([] : List Int).length = 0 := rfl; omega); intro v143 w5 ho hb hg hat; obtain ⟨A1, c1, rfl⟩ := Kd.R_slice ho; have HO2 := Aside0.mk ho; have HB2 := Aside0.mk hb; clear ho hb hg hat HO HB1))
  go_ret
  exact ⟨_, rfl, HB2.out.size, ⟨_, by simpa using heap_alloc_new _ _, Kd.R_lower (Kd.R_alloc HO2.out _) (Nat.zero_le _)⟩, below_alloc HB2.out _⟩
/-! ### the reference's reader -/
def IsRef (W : World) (g : Nat) (b : List Int) (at' : Int) : Prop := ∃ v, W.heap[g]? = some (.cells #[v, .int .i64 at'] 51 (0, 0)) ∧ Kd.R (Kd.int .u8) 5 W 0 (fun _ => True) v b
theorem ref_align (w : World) (g : Nat) (b : List Int) (at' : Int) (h : IsRef w g b at') (ha : 0 ≤ at') (hl : at' ≤ 8000000000000) : Calls Try.prog 35 #[.pointer (some ⟨g, 0, none⟩)] w fun e w' => e = .returned (.tuple #[]) ∧ IsRef w' g b ((at' + 7) / 8 * 8) ∧ w.grownBy w' (some g) := by
  obtain ⟨v, hblk, hR⟩ := h
  obtain ⟨A, c, rfl⟩ := Kd.R_slice hR
  have h1 : w.cell? ⟨g, 1, none⟩ = some (.int .i64 at') := (blk_cell hblk 1).trans rfl
  have hfz := blk_frozen hblk 1
  have HBLK := Aside0.mk hblk
  clear hblk
  go_enter Try.func35, Try.ntmps35
  go_wp2
  go_end0
  exact ⟨rfl, ⟨_, by simpa using blk_set HBLK.out 1 (.int .i64 ((at' + 7) / 8 * 8)), Kd.R_set hR HBLK.out (by decide) _ _⟩, grown_set (World.grownBy.refl _ _)⟩
theorem bit_calls (A : Option Addr) (c : Nat) (b : List Int) (i : Int) (w : World) (hC : Kd.C (Kd.int .u8) w A b.length b) (hb : Bytes b) (hl : b.length ≤ 1000000000000) (h0 : 0 ≤ i) (h1 : i < 8 * b.length) :
    Calls Try.prog 38 #[.slice A b.length c, .int .i64 i] w fun e w' => e = .returned (.int .u8 (bitOf b i)) ∧ ∃ m, w' = w.drewN m := by
  obtain ⟨ad, rfl, hd⟩ := Kd.at_int hC (i / 8) (by omega) (by omega)
  have hbr := bytes_rdI hb (i := i / 8) (by omega) (by omega)
  have he : Go.bits .and .u8 (rd b (i / 8) / 2 ^ (7 - i % 8).toNat) 1 = bitOf b i := and_one (Int.ediv_nonneg hbr.1 (Int.pow_nonneg (by decide))) (Int.lt_of_le_of_lt (Int.ediv_le_self _ hbr.1) (by omega))
  go_enter Try.func38, Try.ntmps38
  go_wp2
  try go_quiet (fail)
  try go_wp2
  go_ret
  first | exact ⟨rfl, 0, rfl⟩ | exact ⟨rfl, _, rfl⟩
theorem ref_bits_arg (n : Int) (w : World) (g : Nat) (hn : n < 0 ∨ 32 < n) : Calls Try.prog 36 #[.pointer (some ⟨g, 0, none⟩), .int .i64 n] w fun e w' => e = .returned (.tuple #[.int .i64 0, .int .i64 2]) ∧ w = w' := by
  rcases hn with hn | hn
  · go_enter Try.func36, Try.ntmps36
    go_wp2
    go_ret2
    exact ⟨rfl, rfl⟩
  · have hn' : ¬ n < 0 := by omega
    go_enter Try.func36, Try.ntmps36
    go_wp2
    go_ret2
    exact ⟨rfl, rfl⟩
theorem ref_bits_end (n : Int) (w : World) (g : Nat) (b : List Int) (at' : Int) (h : IsRef w g b at') (hn0 : 0 ≤ n) (hn1 : n ≤ 32) (hl : b.length ≤ 1000000000000) (ha : 0 ≤ at') (ha2 : at' ≤ 8 * b.length) (hfit : 8 * b.length < at' + n) :
    Calls Try.prog 36 #[.pointer (some ⟨g, 0, none⟩), .int .i64 n] w fun e w' => e = .returned (.tuple #[.int .i64 0, .int .i64 6]) ∧ ∃ m, w' = w.drewN m := by
  obtain ⟨v, hblk, hR⟩ := h
  obtain ⟨A, c, rfl⟩ := Kd.R_slice hR
  have h0 : w.cell? ⟨g, 0, none⟩ = some (.slice A b.length c) := (blk_cell hblk 0).trans rfl
  have h1 : w.cell? ⟨g, 1, none⟩ = some (.int .i64 at') := (blk_cell hblk 1).trans rfl
  have hn2 : ¬ n < 0 := by omega
  have hn3 : ¬ n > 32 := by omega
  have hn4 : at' + n > 8 * (b.length : Int) := by omega
  go_enter Try.func36, Try.ntmps36
  go_wp2
  go_quiet (fail)
  go_wp2
  go_ret2
  exact ⟨rfl, _, rfl⟩
theorem ref_bits (n : Int) (w : World) (g : Nat) (b : List Int) (at' : Int) (h : IsRef w g b at') (hb : Bytes b) (hn0 : 0 ≤ n) (hn1 : n ≤ 32) (hl : b.length ≤ 1000000000000) (ha : 0 ≤ at') (hfit : at' + n ≤ 8 * b.length) :
    Calls Try.prog 36 #[.pointer (some ⟨g, 0, none⟩), .int .i64 n] w fun e w' => e = .returned (.tuple #[.int .i64 (bitsAt b at' n.toNat), .int .i64 0]) ∧ IsRef w' g b (at' + n) ∧ w.grownBy w' (some g) := by
  obtain ⟨v, hblk, hR⟩ := h
  obtain ⟨A, c, rfl⟩ := Kd.R_slice hR
  have h0 : w.cell? ⟨g, 0, none⟩ = some (.slice A b.length c) := (blk_cell hblk 0).trans rfl
  have h1 : w.cell? ⟨g, 1, none⟩ = some (.int .i64 at') := (blk_cell hblk 1).trans rfl
  have hC := Aside0.mk (Kd.R_reads' hR).2.2
  have hfz := blk_frozen hblk 1
  have hn2 : ¬ n < 0 := by omega
  have hn3 : ¬ n > 32 := by omega
  have hn4 : ¬ at' + n > 8 * (b.length : Int) := by omega
  have HBLK := Aside0.mk hblk
  have HR := Aside0.mk hR
  clear hblk hR
  go_enter Try.func36, Try.ntmps36
  go_wp2
  go_quiet (fail)
  go_wp2
  rename_i nq _
  go_loopw [6, 7] (fun x i wr => ∃ j : Nat, (j : Int) ≤ n ∧ x = .int .i64 (bitsAt b at' j) ∧ i = .int .i64 j ∧ Aside0 (∃ m, wr = w.drewN m)) (fun _ i _ => (n - intOf i).toNat)
  case atStart => exact ⟨0, by omega, rfl, rfl, ⟨_, rfl⟩⟩
  case round =>
    obtain ⟨j, hj, rfl, rfl, hm⟩ := hrel
    by_cases hlt : (j : Int) < n
    · have hbo := bitOf_range b (at' + j)
      have q0 : wr.cell? ⟨g, 0, none⟩ = some (.slice A b.length c) := by obtain ⟨m, rfl⟩ := hm.out; exact h0
      have q1 : wr.cell? ⟨g, 1, none⟩ = some (.int .i64 at') := by obtain ⟨m, rfl⟩ := hm.out; exact h1
      have hC' : Aside0 (Kd.C (Kd.int .u8) wr A b.length b) := by obtain ⟨m, rfl⟩ := hm.out; exact ⟨Kd.C_drewN hC.out _⟩
      have hx := bitsAt_range b at' j
      have hp : (2 : Int) ^ j ≤ 2 ^ 32 := by
        have : j ≤ 32 := by omega
        exact_mod_cast Nat.pow_le_pow_right (by omega) this
      go_wp2
      go_quiet ((go_at_call 38; exact Calls.quiet_of (bit_calls _ _ b (at' + j) _ (Kd.C_drewN hC'.out _) hb hl (by omega) (by omega))))
      go_wp2
      go_roundw
      case rel => exact ⟨j + 1, by omega, rfl, by go_num, by obtain ⟨m, rfl⟩ := hm.out; exact ⟨_, World.drewN_drewN ..⟩⟩
      case measure => simp [intOf]; omega
    · obtain ⟨⟨m, rfl⟩⟩ := hm
      have hj' : n = (j : Int) := by omega
      subst hj'
      go_wp2
      go_ret2
      exact ⟨ret2_int (by simp) rfl, ⟨_, by simpa using blk_set (w := w.drewN _) HBLK.out 1 (.int .i64 (at' + j)), Kd.R_set (Kd.R_drewN HR.out _) HBLK.out (by decide) _ _⟩, grown_set (grown_drewN (World.grownBy.refl _ _) _)⟩
/-- What a reader tells, beside another one that is written. -/
theorem IsRdr.other {W W' : World} {g g' : Nat} {b : List Int} {at' : Int} (h : IsRdr W g b at') {b' : List Int} {at2 : Int} (h' : IsRef W g' b' at2) (hg : W.grownBy W' (some g')) : IsRdr W' g b at' := by
  obtain ⟨v, hblk, hR⟩ := h
  obtain ⟨v', hblk', hR'⟩ := h'
  exact ⟨v, blk_grown hblk hg (by simpa using blk_ne hblk hblk' (by decide)), Kd.R_grown1 hR rfl hg (Kd.R_ne hR hblk' (by decide))⟩
theorem IsRef.other {W W' : World} {g g' : Nat} {b : List Int} {at' : Int} (h : IsRef W g b at') {b' : List Int} {at2 : Int} (h' : IsRdr W g' b' at2) (hg : W.grownBy W' (some g')) : IsRef W' g b at' := by
  obtain ⟨v, hblk, hR⟩ := h
  obtain ⟨v', hblk', hR'⟩ := h'
  exact ⟨v, blk_grown hblk hg (by simpa using blk_ne hblk hblk' (by decide)), Kd.R_grown1 hR rfl hg (Kd.R_ne hR hblk' (by decide))⟩
theorem IsRdr.drewN {W : World} {g : Nat} {b : List Int} {at' : Int} (h : IsRdr W g b at') (m : Nat) : IsRdr (W.drewN m) g b at' := by
  obtain ⟨v, hblk, hR⟩ := h
  exact ⟨v, hblk, Kd.R_drewN hR m⟩
theorem IsRef.drewN {W : World} {g : Nat} {b : List Int} {at' : Int} (h : IsRef W g b at') (m : Nat) : IsRef (W.drewN m) g b at' := by
  obtain ⟨v, hblk, hR⟩ := h
  exact ⟨v, hblk, Kd.R_drewN hR m⟩
theorem IsRdr.below {W W' : World} {g : Nat} {b : List Int} {at' : Int} (h : IsRdr W g b at') (hB : Below W.heap.size W W') : IsRdr W' g b at' := by
  obtain ⟨v, hblk, hR⟩ := h
  exact ⟨v, (hB.block g (blk_lt hblk)).trans hblk, Kd.R_below hR hB⟩
theorem IsRef.below {W W' : World} {g : Nat} {b : List Int} {at' : Int} (h : IsRef W g b at') (hB : Below W.heap.size W W') : IsRef W' g b at' := by
  obtain ⟨v, hblk, hR⟩ := h
  exact ⟨v, (hB.block g (blk_lt hblk)).trans hblk, Kd.R_below hR hB⟩
theorem IsRdr.cells {W : World} {g : Nat} {b : List Int} {at' : Int} (h : IsRdr W g b at') : ∃ A c, W.cell? ⟨g, 0, none⟩ = some (.slice A b.length c) ∧ W.cell? ⟨g, 1, none⟩ = some (.int .i64 at') ∧ W.cell? ⟨g, 2, none⟩ = some (.bool true) := by
  obtain ⟨v, hblk, hR⟩ := h
  obtain ⟨A, c, rfl⟩ := Kd.R_slice hR
  exact ⟨A, c, (blk_cell hblk 0).trans rfl, (blk_cell hblk 1).trans rfl, (blk_cell hblk 2).trans rfl⟩
theorem IsRef.cell1 {W : World} {g : Nat} {b : List Int} {at' : Int} (h : IsRef W g b at') : W.cell? ⟨g, 1, none⟩ = some (.int .i64 at') := by
  obtain ⟨v, hblk, hR⟩ := h
  exact (blk_cell hblk 1).trans rfl
end Go.Proofs.Ytccahgjcaajpcaa.Rdr
