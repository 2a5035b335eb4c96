import Derived.Test.YtlnhahnnjbfjdaaAid
import Derived.Test.YtlnhahnnjbfjdaaHandAid
-- needs: Aid HandAid
import Derived.Test.YtlnhahnnjbfjdaaGotEvents
import Derived.Test.YtlnhahnnjbfjdaaShelf
import Derived.Lib.ItoaNum
namespace Go.Proofs.Ytlnhahnnjbfjdaa.Num
open Go Go.RowKit Go.Proofs.YtlnhahnnjbfjdaaW.PrintWords Go.Proofs.YtlnhahnnjbfjdaaW.PrintLast Go.Proofs.YtlnhahnnjbfjdaaW.PrintMore Go.Proofs.Ytlnhahnnjbfjdaa.Aid Go.Proofs.Ytlnhahnnjbfjdaa.HandAid Go.Proofs.Ytlnhahnnjbfjdaa.PNumberEvents
set_option linter.unusedVariables false
set_option linter.unusedSimpArgs false
attribute [local go_sem low] max2_int
attribute [local go_sem] min2_int max_two min_two
/-- The size of a number, as the walk has it; and one more. -/
def numA (n : Int) : Int := if n < -n then -n else n
def numV (n : Int) : Int := numA n + 1
theorem numA_eq (n : Int) : numA n = if n < 0 then -n else n := by
  unfold numA
  split <;> split <;> omega
theorem numA_range {n : Int} (h : -1048576 ≤ n) (h' : n ≤ 1048576) : 0 ≤ numA n ∧ numA n ≤ 1048576 := by rw [numA_eq]; split <;> omega
theorem max_numA (n : Int) : Builtin.max2 (.int .i64 n) (.int .i64 (-n)) = pure (.int .i64 (numA n)) := by
  rw [max2_int]
  rfl
attribute [local go_sem high] max_numA
/-- The length of a number's digits, less one. -/
def numC (n : Int) : Nat := Lib.bitLen (numV n).toNat - 1
def evHead (base : Int) (j : Nat) : List S87 := ⟨base, 0⟩ :: (List.range j).map fun (i : Nat) => ⟨base + 1 + i, 1⟩
def evMid (base : Int) (c : Nat) : List S87 := if c < 20 then [⟨base + 1 + c, 0⟩] else []
def evCtx (c j : Nat) : Int := if j = 0 then 23 + c else if j < 4 then 43 + j else 47
def evDig (base n : Int) (c j : Nat) : List S87 := (List.range j).map fun (i : Nat) => ⟨base + evCtx c i, numV n / 2 ^ (c - 1 - i) % 2⟩
def evSign (base n : Int) : List S87 := if n = 0 then [] else [⟨base + 22, if n < 0 then 1 else 0⟩]
/-- The events of a number that is not none. -/
def evList (base n : Int) : List S87 := evHead base (numC n) ++ evMid base (numC n) ++ evDig base n (numC n) (numC n) ++ evSign base n
theorem numV_range {n : Int} (h : -1048576 ≤ n) (h' : n ≤ 1048576) : 1 ≤ numV n ∧ numV n ≤ 1048577 := by have := numA_range h h'; unfold numV; omega
theorem bitLen_spec (x : Nat) (h : x < 18446744073709551616) (h0 : x ≠ 0) : 1 ≤ Lib.bitLen x ∧ 2 ^ (Lib.bitLen x - 1) ≤ x ∧ x < 2 ^ Lib.bitLen x := Lib.bitLenAux_bounds 64 x h h0
theorem pow_cast {a b : Nat} (h : 2 ^ a ≤ b) : (2 : Int) ^ a ≤ (b : Int) := by exact_mod_cast h
theorem cast_pow {a b : Nat} (h : b < 2 ^ a) : (b : Int) < (2 : Int) ^ a := by exact_mod_cast h
theorem numC_spec {n : Int} (h : -1048576 ≤ n) (h' : n ≤ 1048576) : (2 : Int) ^ numC n ≤ numV n ∧ numV n < 2 ^ (numC n + 1) ∧ numC n ≤ 20 ∧ Lib.bitLen (numV n).toNat = numC n + 1 := by
  have hr := numV_range h h'
  obtain ⟨h1, h2, h3⟩ := bitLen_spec (numV n).toNat (by omega) (by omega)
  have hl : Lib.bitLen (numV n).toNat ≤ 21 := by
    rcases Nat.lt_or_ge 21 (Lib.bitLen (numV n).toNat) with c | c
    · exact absurd (Nat.le_trans (Nat.pow_le_pow_right (by decide) (show 21 ≤ Lib.bitLen (numV n).toNat - 1 by omega)) h2) (by omega)
    · exact c
  have e : Lib.bitLen (numV n).toNat = numC n + 1 := by unfold numC; omega
  have e2 : ((numV n).toNat : Int) = numV n := Int.toNat_of_nonneg (by omega)
  refine ⟨?_, ?_, by omega, e⟩
  · rw [← e2]; exact pow_cast (by rw [e] at h2; exact h2)
  · rw [← e2]; exact cast_pow (by rw [e] at h3; exact h3)
theorem events_none (base n : Int) (w : World) : Calls Try.prog 45 #[.int .i64 base, .agg #[.bool true, .int .i64 n]] w fun e w' => ∃ v, e = .returned v ∧ Kd.R k87 87 w' w.heap.size (fun _ => True) v [(⟨base, 1⟩ : S87)] ∧ Below w.heap.size w w' := by
  have HB := Aside0.mk (Below.refl w.heap.size w)
  have hu := Try.underlying23
  have hu2 := Try.underlying87
  go_enter Try.func45, Try.ntmps45
  go_wp2_with (first | ((with_reducible refine gate_dst (N := 3) rfl ?_); refine box_event ?hg (N := 3) ?hd (cs := #[.bool true, .int .i64 n]) (t := 23) ?hr ?_; (case hd => rfl); (case hg => rfl); (case hr => first | (go_simp; done) | (go_simp; rfl)); intro gb hg wb hbox hb; have n0_ := Aside0.mk (below_step (by repeat (first | (with_reducible first | exact HB.out | apply below_alloc | apply pw_below_drewN | apply below_drew1 | refine below_set ?_ GE.out) | exact HB.out)) hb); have n1_ := Aside0.mk (hbox); have n2_ := Aside0.mk ((by rw [hg]; exact (below_size (by repeat (first | (with_reducible first | exact HB.out | apply below_alloc | apply pw_below_drewN | apply below_drew1 | refine below_set ?_ GE.out) | exact HB.out))) : w.heap.size ≤ gb)); clear HB; have HB := n0_; have BK := n1_; have GE := n2_; clear n0_ n1_ n2_; clear hb hbox hg; have hcz0 : wb.cell? ⟨gb, 0, none⟩ = some (.bool true) := (blk_cell BK.out 0).trans rfl; have hcz1 : wb.cell? ⟨gb, 1, none⟩ = some (.int .i64 n) := (blk_cell BK.out 1).trans rfl; have hfz0 := blk_frozen BK.out 0; have hfz1 := blk_frozen BK.out 1) | ((with_reducible refine gate_dst (N := 17) rfl ?_); refine Kd.R_lit k87 _ 87 ?hg (N := 17) ?hd (xs := ([(⟨base, 1⟩ : S87)] : List (S87))) (inner := [.int .i64 (base), .int .i64 (1)]) (ok := fun _ => True) (okp := fun _ => True) ?hr ?hp (fun _ hk => hk) trivial (Below.refl _ _) (Nat.le_refl _) (by simp) ?_; (case hd => rfl); (case hg => rfl); (case hr => first | (go_simp; done) | (go_simp; rfl)); (case hp => exact (Reps.c2 (show Kd.M k87 _ _ _ (⟨base, 1⟩ : S87) [.int .i64 (base), .int .i64 (1)] from (k87_mkM _ _ _ (⟨base, 1⟩ : S87) )) (Reps.none _ _))); intro v wl ho hb hg_ hnew_; clear hg_ hnew_; have n0_ := Aside0.mk (Kd.R_lower ho (below_size (by repeat (first | (with_reducible first | exact HB.out | apply below_alloc | apply pw_below_drewN | apply below_drew1 | refine below_set ?_ GE.out) | exact HB.out)))); have n1_ := Aside0.mk (blk_below (g := gb) (o := .cells #[.bool true, .int .i64 n] 23 (0, 0)) (by (with_reducible repeat (first | refine blk_drewN ?_ _ | refine blk_drew ?_ | refine blk_alloc ?_ _)); exact BK.out) hb); have n2_ := Aside0.mk (below_step (by repeat (first | (with_reducible first | exact HB.out | apply below_alloc | apply pw_below_drewN | apply below_drew1 | refine below_set ?_ GE.out) | exact HB.out)) hb); clear BK; clear HB; have HO := n0_; have BK := n1_; have HB := n2_; clear n0_ n1_ n2_; clear hb ho; have hczl0 : wl.cell? ⟨gb, 0, none⟩ = some (.bool true) := (blk_cell BK.out 0).trans rfl; have hczl1 : wl.cell? ⟨gb, 1, none⟩ = some (.int .i64 n) := (blk_cell BK.out 1).trans rfl; have hfzl0 := blk_frozen BK.out 0; have hfzl1 := blk_frozen BK.out 1))
  go_ret
  exact ⟨_, rfl, HO.out, by repeat (first | (with_reducible first | exact HB.out | apply below_alloc | apply pw_below_drewN | apply below_drew1) | exact HB.out)⟩
theorem len_calls (n y : Int) (w : World) (h : -1048576 ≤ n) (h' : n ≤ 1048576) (hy : y = numV n) : Calls Try.prog 47 #[.int .u64 y] w fun e w' => e = .returned (.int .i64 ((numC n : Int) + 1)) ∧ w' = w := by
  subst hy
  have hr := numV_range h h'
  refine (Try.bits_Len (numV n) w (by omega) (by omega)).mono ?_
  rintro e w' ⟨rfl, rfl⟩
  rw [(numC_spec h h').2.2.2]
  exact ⟨by simp, rfl⟩
theorem evHead_len (base : Int) (j : Nat) : (evHead base j).length = j + 1 := by simp [evHead]
theorem evMid_len (base : Int) (c : Nat) : (evMid base c).length ≤ 1 := by unfold evMid; split <;> simp
theorem evDig_len (base n : Int) (c j : Nat) : (evDig base n c j).length = j := by simp [evDig]
theorem evHead_step (base : Int) (j : Nat) : evHead base (j + 1) = evHead base j ++ [⟨base + 1 + j, 1⟩] := by simp [evHead, List.range_succ]
theorem evDig_step (base n : Int) (c j : Nat) : evDig base n c (j + 1) = evDig base n c j ++ [⟨base + evCtx c j, numV n / 2 ^ (c - 1 - j) % 2⟩] := by simp [evDig, List.range_succ]
theorem wraps_i64' (x : Int) (h : 0 ≤ x) (h' : x < 2 ^ 62) : IntKind.i64.wrap x = x := by rw [IntKind.wrap_i64]; omega
theorem i64_and1 {x : Int} (h : 0 ≤ x) (h' : x < 4611686018427387904) : Go.bits .and .i64 x 1 = x % 2 := bits_mask .i64 62 (by decide) wraps_i64' 1 (by decide) x h h'
theorem digit_eq {n : Int} (h : -1048576 ≤ n) (h' : n ≤ 1048576) (k : Nat) : Go.bits .and .i64 ((numA n + 1) / 2 ^ k) 1 = numV n / 2 ^ k % 2 := by
  have hA := numA_range h h'
  have h1 : (0 : Int) ≤ (numA n + 1) / 2 ^ k := Int.ediv_nonneg (by omega) (Int.pow_nonneg (by decide))
  have h2 : (numA n + 1) / 2 ^ k ≤ numA n + 1 := Int.ediv_le_self _ (by omega)
  rw [i64_and1 h1 (by omega)]
  rfl
def evTail (j : Nat) : Int := if j = 0 then 44 else if j < 4 then 43 + j else 47
theorem evTail_step (j : Nat) (h : j ≠ 0) : evTail (j + 1) = mn (wrap64 (evTail j + 1)) 47 := by
  have : wrap64 (evTail j + 1) = evTail j + 1 := by refine wrap_id ?_ ?_ <;> (unfold evTail; split <;> (try split) <;> omega)
  rw [this]
  unfold evTail mn
  rw [if_neg (by omega), if_neg h]
  split <;> split <;> (try split) <;> omega
theorem evTail_range (j : Nat) : 44 ≤ evTail j ∧ evTail j ≤ 47 := by unfold evTail; split <;> (try split) <;> omega
set_option maxHeartbeats 40000000 in
set_option maxRecDepth 100000 in
theorem events_calls (base n : Int) (w : World) (hb0 : 0 ≤ base) (hb1 : base ≤ 1000000) (h : -1048576 ≤ n) (h' : n ≤ 1048576) : Calls Try.prog 45 #[.int .i64 base, .agg #[.bool false, .int .i64 n]] w fun e w' => ∃ v, e = .returned v ∧ Kd.R k87 87 w' w.heap.size (fun _ => True) v (evList base n) ∧ Below w.heap.size w w' := by
  have HB := Aside0.mk (Below.refl w.heap.size w)
  have hu := Try.underlying23
  have hu2 := Try.underlying87
  have hC := numC_spec h h'
  have hA := numA_range h h'
  have hc := hC.2.2.1
  go_enter Try.func45, Try.ntmps45
  go_wp2_with (first | ((with_reducible refine gate_dst (N := 3) rfl ?_); refine box_event ?hg (N := 3) ?hd (cs := #[.bool false, .int .i64 n]) (t := 23) ?hr ?_; (case hd => rfl); (case hg => rfl); (case hr => first | (go_simp; done) | (go_simp; rfl)); intro gb hg wb hbox hb; have n0_ := Aside0.mk (below_step (by repeat (first | (with_reducible first | exact HB.out | apply below_alloc | apply pw_below_drewN | apply below_drew1 | refine below_set ?_ GE.out) | exact HB.out)) hb); have n1_ := Aside0.mk (hbox); have n2_ := Aside0.mk ((by rw [hg]; exact (below_size (by repeat (first | (with_reducible first | exact HB.out | apply below_alloc | apply pw_below_drewN | apply below_drew1 | refine below_set ?_ GE.out) | exact HB.out))) : w.heap.size ≤ gb)); clear HB; have HB := n0_; have BK := n1_; have GE := n2_; clear n0_ n1_ n2_; clear hb hbox hg; have hcz0 : wb.cell? ⟨gb, 0, none⟩ = some (.bool false) := (blk_cell BK.out 0).trans rfl; have hcz1 : wb.cell? ⟨gb, 1, none⟩ = some (.int .i64 n) := (blk_cell BK.out 1).trans rfl; have hfz0 := blk_frozen BK.out 0; have hfz1 := blk_frozen BK.out 1) | ((with_reducible refine gate_dst (N := 20) rfl ?_); refine Kd.R_lit k87 _ 87 ?hg (N := 20) ?hd (xs := ([(⟨base, 0⟩ : S87)] : List (S87))) (inner := [.int .i64 (base), .int .i64 (0)]) (ok := fun _ => True) (okp := fun _ => True) ?hr ?hp (fun _ hk => hk) trivial (Below.refl _ _) (Nat.le_refl _) (by simp) ?_; (case hd => rfl); (case hg => rfl); (case hr => first | (go_simp; done) | (go_simp; rfl)); (case hp => exact (Reps.c2 (show Kd.M k87 _ _ _ (⟨base, 0⟩ : S87) [.int .i64 (base), .int .i64 (0)] from (k87_mkM _ _ _ (⟨base, 0⟩ : S87) )) (Reps.none _ _))); intro v wl ho hb hg_ hnew_; clear hg_ hnew_; have n0_ := Aside0.mk (Kd.R_lower ho (below_size (by repeat (first | (with_reducible first | exact HB.out | apply below_alloc | apply pw_below_drewN | apply below_drew1 | refine below_set ?_ GE.out) | exact HB.out)))); have n1_ := Aside0.mk (blk_below (g := gb) (o := .cells #[.bool false, .int .i64 n] 23 (0, 0)) (by (with_reducible repeat (first | refine blk_drewN ?_ _ | refine blk_drew ?_ | refine blk_alloc ?_ _)); exact BK.out) hb); have n2_ := Aside0.mk (below_step (by repeat (first | (with_reducible first | exact HB.out | apply below_alloc | apply pw_below_drewN | apply below_drew1 | refine below_set ?_ GE.out) | exact HB.out)) hb); clear BK; clear HB; have HO := n0_; have BK := n1_; have HB := n2_; clear n0_ n1_ n2_; clear hb ho; have hczl0 : wl.cell? ⟨gb, 0, none⟩ = some (.bool false) := (blk_cell BK.out 0).trans rfl; have hczl1 : wl.cell? ⟨gb, 1, none⟩ = some (.int .i64 n) := (blk_cell BK.out 1).trans rfl; have hfzl0 := blk_frozen BK.out 0; have hfzl1 := blk_frozen BK.out 1) | (go_at_call 47; (refine (len_calls n _ _ h h' ?he).mono ?_; (case he => rfl); rintro e w' ⟨rfl, rfl⟩)))
  go_loopw [5, 33] (fun l i wr => ∃ j : Nat, j ≤ numC n ∧ i = .int .i64 j ∧ Aside0 (Kd.R k87 87 wr w.heap.size (fun _ => True) l (evHead base j)) ∧ Aside0 (wr.heap[gb]? = some (.cells #[.bool false, .int .i64 n] 23 (0, 0))) ∧ Aside0 (Below w.heap.size w wr)) (fun _ i _ => numC n - (intOf i).toNat)
  case atStart => exact ⟨0, Nat.zero_le _, rfl, HO, BK, HB⟩
  clear hcz0 hcz1 hfz0 hfz1 hczl0 hczl1 hfzl0 hfzl1 HO BK HB
  case round =>
    obtain ⟨j, hj, rfl, HO, BK, HB⟩ := hrel
    by_cases hlt : j < numC n
    · have hL : (evHead base j).length ≤ 30 := by rw [evHead_len]; omega
      have HL := Aside0.mk hL
      clear hL
      go_wp2_with (first | ((with_reducible refine gate_builtin (b := .append) (xs := #[.tmp 36, .tmp 42]) rfl ?_); at_builtin; (refine Kd.R_append k87 (w0 := w) w.heap.size rfl (.tmp 36) (.tmp 42) 24 87 (.agg #[(.int .i64 0), (.int .i64 0)]) 16 rfl Try.underlying24 info87 rfl (by decide) (by omega) u5 (evHead base j) (⟨base + 1 + j, 1⟩ : S87) [.int .i64 (base + 1 + j), .int .i64 (1)] (fun _ => True) (fun _ => False) rfl rfl ?aP (fun _ hk => hk.elim) ?aF ?aO ?aB ?aS ?aL ?_; (case aP => exact k87_mkM _ _ _ (⟨base + 1 + j, 1⟩ : S87)); (case aB => exact (by repeat (first | (with_reducible first | exact HB.out | apply below_alloc | apply pw_below_drewN | apply below_drew1 | refine below_set ?_ GE.out) | exact HB.out))); (case aF => exact (fun _ _ => trivial)); (case aO => exact (by (with_reducible repeat (first | apply Kd.R_alloc | apply Kd.R_drewN | apply Kd.R_drew)); exact HO.out)); (case aS => exact (below_size (by repeat (first | (with_reducible first | exact HB.out | apply below_alloc | apply pw_below_drewN | apply below_drew1 | refine below_set ?_ GE.out) | exact HB.out)))); (case aL => have := HL.out; omega); intro v2 wa ho hb hg hat; have n1_ := Aside0.mk (blk_grown (g := gb) (o := .cells #[.bool false, .int .i64 n] 23 (0, 0)) (by (with_reducible repeat (first | refine blk_drewN ?_ _ | refine blk_drew ?_ | refine blk_alloc ?_ _)); exact BK.out) hg (Kd.R_ne HO.out BK.out (by decide))); have n2_ := Aside0.mk (hb); have n3_ := Aside0.mk (ho); clear BK; clear HB; clear HO; have BK := n1_; have HB := n2_; have HO := n3_; clear n1_ n2_ n3_; clear ho hb hg hat)))
      go_roundw
      case rel => exact ⟨j + 1, by omega, by go_num, ⟨by rw [evHead_step]; exact HO.out⟩, BK, HB⟩
      case measure => simp [intOf]; omega
    · obtain rfl : j = numC n := by omega
      clear hlt hj
      by_cases h20 : numC n < 20
      · have HL := Aside0.mk (show (evHead base (numC n)).length ≤ 30 by rw [evHead_len]; omega)
        have hm : evMid base (numC n) = [⟨base + 1 + (numC n : Int), 0⟩] := if_pos h20
        go_wp2_with (first | ((with_reducible refine gate_builtin (b := .append) (xs := #[.tmp 47, .tmp 53]) rfl ?_); at_builtin; (refine Kd.R_append k87 (w0 := w) w.heap.size rfl (.tmp 47) (.tmp 53) 24 87 (.agg #[(.int .i64 0), (.int .i64 0)]) 16 rfl Try.underlying24 info87 rfl (by decide) (by omega) u5 (evHead base (numC n)) (⟨base + 1 + (numC n : Int), 0⟩ : S87) [.int .i64 (base + 1 + (numC n : Int)), .int .i64 (0)] (fun _ => True) (fun _ => False) rfl rfl ?aP (fun _ hk => hk.elim) ?aF ?aO ?aB ?aS ?aL ?_; (case aP => exact k87_mkM _ _ _ (⟨base + 1 + (numC n : Int), 0⟩ : S87)); (case aB => exact (by repeat (first | (with_reducible first | exact HB.out | apply below_alloc | apply pw_below_drewN | apply below_drew1 | refine below_set ?_ GE.out) | exact HB.out))); (case aF => exact (fun _ _ => trivial)); (case aO => exact (by (with_reducible repeat (first | apply Kd.R_alloc | apply Kd.R_drewN | apply Kd.R_drew)); exact HO.out)); (case aS => exact (below_size (by repeat (first | (with_reducible first | exact HB.out | apply below_alloc | apply pw_below_drewN | apply below_drew1 | refine below_set ?_ GE.out) | exact HB.out)))); (case aL => have := HL.out; omega); intro v2 wa ho hb hg hat; have n1_ := Aside0.mk (blk_grown (g := gb) (o := .cells #[.bool false, .int .i64 n] 23 (0, 0)) (by (with_reducible repeat (first | refine blk_drewN ?_ _ | refine blk_drew ?_ | refine blk_alloc ?_ _)); exact BK.out) hg (Kd.R_ne HO.out BK.out (by decide))); have n2_ := Aside0.mk (hb); have n3_ := Aside0.mk (ho); clear BK; clear HB; clear HO; have BK := n1_; have HB := n2_; have HO := n3_; clear n1_ n2_ n3_; clear ho hb hg hat)))
        go_loopw [5, 10] (fun l i wz => ∃ j : Nat, j ≤ numC n ∧ i = .int .i64 ((numC n : Int) - 1 - j) ∧ Aside0 (Kd.R k87 87 wz w.heap.size (fun _ => True) l (evHead base (numC n) ++ evMid base (numC n) ++ evDig base n (numC n) j)) ∧ Aside0 (IsS117 w wz wa.heap.size (evTail j)) ∧ Aside0 (wz.heap[gb]? = some (.cells #[.bool false, .int .i64 n] 23 (0, 0))) ∧ Aside0 (Below w.heap.size w wz)) (fun _ i _ => (intOf i + 1).toNat)
        case atStart =>
          refine ⟨0, Nat.zero_le _, by go_num, ⟨?_⟩, ⟨?_⟩, ⟨?_⟩, ⟨?_⟩⟩
          · rw [hm, show evDig base n (numC n) 0 = [] from rfl, List.append_nil]
            exact Kd.R_alloc (by first | exact HO.out | (rw [List.append_nil]; exact HO.out)) _
          · exact IsS117.new w wa 44 HB.out
          · exact blk_alloc BK.out _
          · exact below_alloc HB.out _
        case round =>
          clear HO BK HB
          obtain ⟨j, hj, rfl, HO, HT, BK, HB⟩ := hrel
          by_cases hlt : j < numC n
          · have HL := Aside0.mk (show (evHead base (numC n) ++ evMid base (numC n) ++ evDig base n (numC n) j).length ≤ 60 by have := evMid_len base (numC n); simp only [List.length_append, evHead_len, evDig_len]; omega)
            by_cases hj0 : j = 0
            · go_wp2_with (first | ((with_reducible refine gate_builtin (b := .append) (xs := #[.tmp 69, .tmp 78]) rfl ?_); at_builtin; (refine Kd.R_append k87 (w0 := w) w.heap.size rfl (.tmp 69) (.tmp 78) 24 87 (.agg #[(.int .i64 0), (.int .i64 0)]) 16 rfl Try.underlying24 info87 rfl (by decide) (by omega) u5 (evHead base (numC n) ++ evMid base (numC n) ++ evDig base n (numC n) j) (⟨base + (23 + (numC n : Int)), Go.bits .and .i64 ((numA n + 1) / 2 ^ (numC n - 1)) 1⟩ : S87) [.int .i64 (base + (23 + (numC n : Int))), .int .i64 (Go.bits .and .i64 ((numA n + 1) / 2 ^ (numC n - 1)) 1)] (fun _ => True) (fun _ => False) rfl rfl ?aP (fun _ hk => hk.elim) ?aF ?aO ?aB ?aS ?aL ?_; (case aP => exact k87_mkM _ _ _ (⟨base + (23 + (numC n : Int)), Go.bits .and .i64 ((numA n + 1) / 2 ^ (numC n - 1)) 1⟩ : S87)); (case aB => exact (by repeat (first | (with_reducible first | exact HB.out | apply below_alloc | apply pw_below_drewN | apply below_drew1 | refine below_set ?_ GE.out) | exact HB.out))); (case aF => exact (fun _ _ => trivial)); (case aO => exact (by (with_reducible repeat (first | apply Kd.R_alloc | apply Kd.R_drewN | apply Kd.R_drew)); exact HO.out)); (case aS => exact (below_size (by repeat (first | (with_reducible first | exact HB.out | apply below_alloc | apply pw_below_drewN | apply below_drew1 | refine below_set ?_ GE.out) | exact HB.out)))); (case aL => have := HL.out; omega); intro v2 wa ho hb hg hat; have n1_ := Aside0.mk (blk_grown (g := gb) (o := .cells #[.bool false, .int .i64 n] 23 (0, 0)) (by (with_reducible repeat (first | refine blk_drewN ?_ _ | refine blk_drew ?_ | refine blk_alloc ?_ _)); exact BK.out) hg (Kd.R_ne HO.out BK.out (by decide))); have n2_ := Aside0.mk (hb); have n3_ := Aside0.mk (ho); have n5_ := Aside0.mk (IsS117.grown (by repeat (first | (with_reducible exact HT.out) | apply IsS117.alloc | apply IsS117.drewN | apply IsS117.drew)) hg (IsS117.own_ne HT.out HO.out (by decide))); clear HT; have HT := n5_; clear n5_; clear BK; clear HB; clear HO; have BK := n1_; have HB := n2_; have HO := n3_; clear n1_ n2_ n3_; clear ho hb hg hat)))
              go_roundw
              case rel =>
                subst hj0
                refine ⟨0 + 1, by omega, by go_num, ⟨?_⟩, ⟨HT.out⟩, BK, HB⟩
                rw [evDig_step, ← List.append_assoc, ← digit_eq h h']
                exact HO.out
              case measure => simp [intOf]; omega
            · have ht := evTail_range j
              go_wp2_with (first | (go_at_call 69; (refine (number_tail_take.calls _ (evTail j) _ _ w _ HT.out HB.out rfl).mono ?_); rintro e wt ⟨rfl, hT, hB, hK⟩; have n1_ := Aside0.mk (Kd.R_mono (Kd.R_keep (IsS117.apart HT.out HO.out (by decide)) hK (fun _ hk => hk.2)) (fun _ _ => trivial)); have n2_ := Aside0.mk (hK.blk BK.out (IsS117.ne_blk HT.out BK.out (by decide)).symm (by simp)); have n3_ := Aside0.mk hT; have n4_ := Aside0.mk hB; clear HO BK HT HB hT hB hK; have HO := n1_; have BK := n2_; have HT := n3_; have HB := n4_; clear n1_ n2_ n3_ n4_) | ((with_reducible refine gate_builtin (b := .append) (xs := #[.tmp 69, .tmp 78]) rfl ?_); at_builtin; (refine Kd.R_append k87 (w0 := w) w.heap.size rfl (.tmp 69) (.tmp 78) 24 87 (.agg #[(.int .i64 0), (.int .i64 0)]) 16 rfl Try.underlying24 info87 rfl (by decide) (by omega) u5 (evHead base (numC n) ++ evMid base (numC n) ++ evDig base n (numC n) j) (⟨base + evTail j, Go.bits .and .i64 ((numA n + 1) / 2 ^ (numC n - 1 - j)) 1⟩ : S87) [.int .i64 (base + evTail j), .int .i64 (Go.bits .and .i64 ((numA n + 1) / 2 ^ (numC n - 1 - j)) 1)] (fun _ => True) (fun _ => False) rfl rfl ?aP (fun _ hk => hk.elim) ?aF ?aO ?aB ?aS ?aL ?_; (case aP => exact k87_mkM _ _ _ (⟨base + evTail j, Go.bits .and .i64 ((numA n + 1) / 2 ^ (numC n - 1 - j)) 1⟩ : S87)); (case aB => exact (by repeat (first | (with_reducible first | exact HB.out | apply below_alloc | apply pw_below_drewN | apply below_drew1 | refine below_set ?_ GE.out) | exact HB.out))); (case aF => exact (fun _ _ => trivial)); (case aO => exact (by (with_reducible repeat (first | apply Kd.R_alloc | apply Kd.R_drewN | apply Kd.R_drew)); exact HO.out)); (case aS => exact (below_size (by repeat (first | (with_reducible first | exact HB.out | apply below_alloc | apply pw_below_drewN | apply below_drew1 | refine below_set ?_ GE.out) | exact HB.out)))); (case aL => have := HL.out; omega); intro v2 wa ho hb hg hat; have n1_ := Aside0.mk (blk_grown (g := gb) (o := .cells #[.bool false, .int .i64 n] 23 (0, 0)) (by (with_reducible repeat (first | refine blk_drewN ?_ _ | refine blk_drew ?_ | refine blk_alloc ?_ _)); exact BK.out) hg (Kd.R_ne HO.out BK.out (by decide))); have n2_ := Aside0.mk (hb); have n3_ := Aside0.mk (ho); have n5_ := Aside0.mk (IsS117.grown (by repeat (first | (with_reducible exact HT.out) | apply IsS117.alloc | apply IsS117.drewN | apply IsS117.drew)) hg (IsS117.own_ne HT.out HO.out (by decide))); clear HT; have HT := n5_; clear n5_; clear BK; clear HB; clear HO; have BK := n1_; have HB := n2_; have HO := n3_; clear n1_ n2_ n3_; clear ho hb hg hat)))
              go_roundw
              case rel =>
                refine ⟨j + 1, by omega, by go_num, ⟨?_⟩, ⟨?_⟩, BK, HB⟩
                · rw [evDig_step, ← List.append_assoc, ← digit_eq h h', show evCtx (numC n) j = evTail j by simp [evCtx, evTail, hj0]]
                  exact HO.out
                · rw [evTail_step j hj0]
                  exact HT.out
              case measure => simp [intOf]; omega
          · obtain rfl : j = numC n := by omega
            clear hlt hj
            have hq0 : wr.cell? ⟨gb, 1, none⟩ = some (.int .i64 n) := (blk_cell BK.out 1).trans rfl
            have hq1 := blk_frozen BK.out 1
            have HL := Aside0.mk (show (evHead base (numC n) ++ evMid base (numC n) ++ evDig base n (numC n) (numC n)).length ≤ 60 by have := evMid_len base (numC n); simp only [List.length_append, evHead_len, evDig_len]; omega)
            by_cases hz : n = 0
            · go_wp2
              go_ret
              refine ⟨_, rfl, ?_, HB.out⟩
              unfold evList
              rw [show evSign base n = [] from if_pos hz, List.append_nil]
              exact HO.out
            · have hq2 : (wr.alloc (.cells #[.int .i64 (base + 22), .int .i64 0] 87)).cell? ⟨gb, 1, none⟩ = some (.int .i64 n) := (blk_cell (blk_alloc BK.out _) 1).trans rfl
              have hq3 : (wr.alloc (.cells #[.int .i64 (base + 22), .int .i64 0] 87)).frozen? ⟨gb, 1, none⟩ = false := blk_frozen (blk_alloc BK.out _) 1
              by_cases hs : n < 0
              · have hg : evSign base n = [⟨base + 22, 1⟩] := by unfold evSign; rw [if_neg hz, if_pos hs]
                go_wp2_with (first | ((with_reducible refine gate_dst (N := 92) rfl ?_); obtain ⟨wq, hwq⟩ : ∃ wq, wr.alloc (.cells #[.int .i64 (base + 22), .int .i64 1] 87) = wq := ⟨_, rfl⟩; rw [hwq]; have n1_ := Aside0.mk (show Kd.R k87 87 wq w.heap.size (fun _ => True) u5 _ from hwq ▸ Kd.R_alloc HO.out _); have n2_ := Aside0.mk (show wq.heap[gb]? = some (.cells #[.bool false, .int .i64 n] 23 (0, 0)) from hwq ▸ blk_alloc BK.out _); have n3_ := Aside0.mk (show Below w.heap.size w wq from hwq ▸ below_alloc HB.out _); clear HO BK HB hq0 hq1 hq2 hq3; have HO := n1_; have BK := n2_; have HB := n3_; clear n1_ n2_ n3_; clear hwq) | ((with_reducible refine gate_builtin (b := .append) (xs := #[.tmp 90, .tmp 92]) rfl ?_); at_builtin; (refine Kd.R_append k87 (w0 := w) w.heap.size rfl (.tmp 90) (.tmp 92) 24 87 (.agg #[(.int .i64 0), (.int .i64 0)]) 16 rfl Try.underlying24 info87 rfl (by decide) (by omega) u5 (evHead base (numC n) ++ evMid base (numC n) ++ evDig base n (numC n) (numC n)) (⟨base + 22, 1⟩ : S87) [.int .i64 (base + 22), .int .i64 (1)] (fun _ => True) (fun _ => False) rfl rfl ?aP (fun _ hk => hk.elim) ?aF ?aO ?aB ?aS ?aL ?_; (case aP => exact k87_mkM _ _ _ (⟨base + 22, 1⟩ : S87)); (case aB => exact (by repeat (first | (with_reducible first | exact HB.out | apply below_alloc | apply pw_below_drewN | apply below_drew1 | refine below_set ?_ GE.out) | exact HB.out))); (case aF => exact (fun _ _ => trivial)); (case aO => exact (by (with_reducible repeat (first | apply Kd.R_alloc | apply Kd.R_drewN | apply Kd.R_drew)); exact HO.out)); (case aS => exact (below_size (by repeat (first | (with_reducible first | exact HB.out | apply below_alloc | apply pw_below_drewN | apply below_drew1 | refine below_set ?_ GE.out) | exact HB.out)))); (case aL => have := HL.out; omega); intro v2 wa ho hb hg hat; have n1_ := Aside0.mk (blk_grown (g := gb) (o := .cells #[.bool false, .int .i64 n] 23 (0, 0)) (by (with_reducible repeat (first | refine blk_drewN ?_ _ | refine blk_drew ?_ | refine blk_alloc ?_ _)); exact BK.out) hg (Kd.R_ne HO.out BK.out (by decide))); have n2_ := Aside0.mk (hb); have n3_ := Aside0.mk (ho); clear BK; clear HB; clear HO; have BK := n1_; have HB := n2_; have HO := n3_; clear n1_ n2_ n3_; clear ho hb hg hat)))
                go_ret
                refine ⟨_, rfl, ?_, HB.out⟩
                unfold evList
                rw [hg]
                exact HO.out
              · have hg : evSign base n = [⟨base + 22, 0⟩] := by unfold evSign; rw [if_neg hz, if_neg hs]
                go_wp2_with (first | ((with_reducible refine gate_dst (N := 92) rfl ?_); obtain ⟨wq, hwq⟩ : ∃ wq, wr.alloc (.cells #[.int .i64 (base + 22), .int .i64 0] 87) = wq := ⟨_, rfl⟩; rw [hwq]; have n1_ := Aside0.mk (show Kd.R k87 87 wq w.heap.size (fun _ => True) u5 _ from hwq ▸ Kd.R_alloc HO.out _); have n2_ := Aside0.mk (show wq.heap[gb]? = some (.cells #[.bool false, .int .i64 n] 23 (0, 0)) from hwq ▸ blk_alloc BK.out _); have n3_ := Aside0.mk (show Below w.heap.size w wq from hwq ▸ below_alloc HB.out _); clear HO BK HB hq0 hq1 hq2 hq3; have HO := n1_; have BK := n2_; have HB := n3_; clear n1_ n2_ n3_; clear hwq) | ((with_reducible refine gate_builtin (b := .append) (xs := #[.tmp 90, .tmp 92]) rfl ?_); at_builtin; (refine Kd.R_append k87 (w0 := w) w.heap.size rfl (.tmp 90) (.tmp 92) 24 87 (.agg #[(.int .i64 0), (.int .i64 0)]) 16 rfl Try.underlying24 info87 rfl (by decide) (by omega) u5 (evHead base (numC n) ++ evMid base (numC n) ++ evDig base n (numC n) (numC n)) (⟨base + 22, 0⟩ : S87) [.int .i64 (base + 22), .int .i64 (0)] (fun _ => True) (fun _ => False) rfl rfl ?aP (fun _ hk => hk.elim) ?aF ?aO ?aB ?aS ?aL ?_; (case aP => exact k87_mkM _ _ _ (⟨base + 22, 0⟩ : S87)); (case aB => exact (by repeat (first | (with_reducible first | exact HB.out | apply below_alloc | apply pw_below_drewN | apply below_drew1 | refine below_set ?_ GE.out) | exact HB.out))); (case aF => exact (fun _ _ => trivial)); (case aO => exact (by (with_reducible repeat (first | apply Kd.R_alloc | apply Kd.R_drewN | apply Kd.R_drew)); exact HO.out)); (case aS => exact (below_size (by repeat (first | (with_reducible first | exact HB.out | apply below_alloc | apply pw_below_drewN | apply below_drew1 | refine below_set ?_ GE.out) | exact HB.out)))); (case aL => have := HL.out; omega); intro v2 wa ho hb hg hat; have n1_ := Aside0.mk (blk_grown (g := gb) (o := .cells #[.bool false, .int .i64 n] 23 (0, 0)) (by (with_reducible repeat (first | refine blk_drewN ?_ _ | refine blk_drew ?_ | refine blk_alloc ?_ _)); exact BK.out) hg (Kd.R_ne HO.out BK.out (by decide))); have n2_ := Aside0.mk (hb); have n3_ := Aside0.mk (ho); clear BK; clear HB; clear HO; have BK := n1_; have HB := n2_; have HO := n3_; clear n1_ n2_ n3_; clear ho hb hg hat)))
                go_ret
                refine ⟨_, rfl, ?_, HB.out⟩
                unfold evList
                rw [hg]
                exact HO.out
      · have hm : evMid base (numC n) = [] := if_neg h20
        go_wp2
        go_loopw [5, 10] (fun l i wz => ∃ j : Nat, j ≤ numC n ∧ i = .int .i64 ((numC n : Int) - 1 - j) ∧ Aside0 (Kd.R k87 87 wz w.heap.size (fun _ => True) l (evHead base (numC n) ++ evMid base (numC n) ++ evDig base n (numC n) j)) ∧ Aside0 (IsS117 w wz wr.heap.size (evTail j)) ∧ Aside0 (wz.heap[gb]? = some (.cells #[.bool false, .int .i64 n] 23 (0, 0))) ∧ Aside0 (Below w.heap.size w wz)) (fun _ i _ => (intOf i + 1).toNat)
        case atStart =>
          refine ⟨0, Nat.zero_le _, by go_num, ⟨?_⟩, ⟨?_⟩, ⟨?_⟩, ⟨?_⟩⟩
          · rw [hm, show evDig base n (numC n) 0 = [] from rfl, List.append_nil]
            exact Kd.R_alloc (by first | exact HO.out | (rw [List.append_nil]; exact HO.out)) _
          · exact IsS117.new w wr 44 HB.out
          · exact blk_alloc BK.out _
          · exact below_alloc HB.out _
        case round =>
          clear HO BK HB
          obtain ⟨j, hj, rfl, HO, HT, BK, HB⟩ := hrel
          by_cases hlt : j < numC n
          · have HL := Aside0.mk (show (evHead base (numC n) ++ evMid base (numC n) ++ evDig base n (numC n) j).length ≤ 60 by have := evMid_len base (numC n); simp only [List.length_append, evHead_len, evDig_len]; omega)
            by_cases hj0 : j = 0
            · go_wp2_with (first | ((with_reducible refine gate_builtin (b := .append) (xs := #[.tmp 69, .tmp 78]) rfl ?_); at_builtin; (refine Kd.R_append k87 (w0 := w) w.heap.size rfl (.tmp 69) (.tmp 78) 24 87 (.agg #[(.int .i64 0), (.int .i64 0)]) 16 rfl Try.underlying24 info87 rfl (by decide) (by omega) u5 (evHead base (numC n) ++ evMid base (numC n) ++ evDig base n (numC n) j) (⟨base + (23 + (numC n : Int)), Go.bits .and .i64 ((numA n + 1) / 2 ^ (numC n - 1)) 1⟩ : S87) [.int .i64 (base + (23 + (numC n : Int))), .int .i64 (Go.bits .and .i64 ((numA n + 1) / 2 ^ (numC n - 1)) 1)] (fun _ => True) (fun _ => False) rfl rfl ?aP (fun _ hk => hk.elim) ?aF ?aO ?aB ?aS ?aL ?_; (case aP => exact k87_mkM _ _ _ (⟨base + (23 + (numC n : Int)), Go.bits .and .i64 ((numA n + 1) / 2 ^ (numC n - 1)) 1⟩ : S87)); (case aB => exact (by repeat (first | (with_reducible first | exact HB.out | apply below_alloc | apply pw_below_drewN | apply below_drew1 | refine below_set ?_ GE.out) | exact HB.out))); (case aF => exact (fun _ _ => trivial)); (case aO => exact (by (with_reducible repeat (first | apply Kd.R_alloc | apply Kd.R_drewN | apply Kd.R_drew)); exact HO.out)); (case aS => exact (below_size (by repeat (first | (with_reducible first | exact HB.out | apply below_alloc | apply pw_below_drewN | apply below_drew1 | refine below_set ?_ GE.out) | exact HB.out)))); (case aL => have := HL.out; omega); intro v2 wa ho hb hg hat; have n1_ := Aside0.mk (blk_grown (g := gb) (o := .cells #[.bool false, .int .i64 n] 23 (0, 0)) (by (with_reducible repeat (first | refine blk_drewN ?_ _ | refine blk_drew ?_ | refine blk_alloc ?_ _)); exact BK.out) hg (Kd.R_ne HO.out BK.out (by decide))); have n2_ := Aside0.mk (hb); have n3_ := Aside0.mk (ho); have n5_ := Aside0.mk (IsS117.grown (by repeat (first | (with_reducible exact HT.out) | apply IsS117.alloc | apply IsS117.drewN | apply IsS117.drew)) hg (IsS117.own_ne HT.out HO.out (by decide))); clear HT; have HT := n5_; clear n5_; clear BK; clear HB; clear HO; have BK := n1_; have HB := n2_; have HO := n3_; clear n1_ n2_ n3_; clear ho hb hg hat)))
              go_roundw
              case rel =>
                subst hj0
                refine ⟨0 + 1, by omega, by go_num, ⟨?_⟩, ⟨HT.out⟩, BK, HB⟩
                rw [evDig_step, ← List.append_assoc, ← digit_eq h h']
                exact HO.out
              case measure => simp [intOf]; omega
            · have ht := evTail_range j
              go_wp2_with (first | (go_at_call 69; (refine (number_tail_take.calls _ (evTail j) _ _ w _ HT.out HB.out rfl).mono ?_); rintro e wt ⟨rfl, hT, hB, hK⟩; have n1_ := Aside0.mk (Kd.R_mono (Kd.R_keep (IsS117.apart HT.out HO.out (by decide)) hK (fun _ hk => hk.2)) (fun _ _ => trivial)); have n2_ := Aside0.mk (hK.blk BK.out (IsS117.ne_blk HT.out BK.out (by decide)).symm (by simp)); have n3_ := Aside0.mk hT; have n4_ := Aside0.mk hB; clear HO BK HT HB hT hB hK; have HO := n1_; have BK := n2_; have HT := n3_; have HB := n4_; clear n1_ n2_ n3_ n4_) | ((with_reducible refine gate_builtin (b := .append) (xs := #[.tmp 69, .tmp 78]) rfl ?_); at_builtin; (refine Kd.R_append k87 (w0 := w) w.heap.size rfl (.tmp 69) (.tmp 78) 24 87 (.agg #[(.int .i64 0), (.int .i64 0)]) 16 rfl Try.underlying24 info87 rfl (by decide) (by omega) u5 (evHead base (numC n) ++ evMid base (numC n) ++ evDig base n (numC n) j) (⟨base + evTail j, Go.bits .and .i64 ((numA n + 1) / 2 ^ (numC n - 1 - j)) 1⟩ : S87) [.int .i64 (base + evTail j), .int .i64 (Go.bits .and .i64 ((numA n + 1) / 2 ^ (numC n - 1 - j)) 1)] (fun _ => True) (fun _ => False) rfl rfl ?aP (fun _ hk => hk.elim) ?aF ?aO ?aB ?aS ?aL ?_; (case aP => exact k87_mkM _ _ _ (⟨base + evTail j, Go.bits .and .i64 ((numA n + 1) / 2 ^ (numC n - 1 - j)) 1⟩ : S87)); (case aB => exact (by repeat (first | (with_reducible first | exact HB.out | apply below_alloc | apply pw_below_drewN | apply below_drew1 | refine below_set ?_ GE.out) | exact HB.out))); (case aF => exact (fun _ _ => trivial)); (case aO => exact (by (with_reducible repeat (first | apply Kd.R_alloc | apply Kd.R_drewN | apply Kd.R_drew)); exact HO.out)); (case aS => exact (below_size (by repeat (first | (with_reducible first | exact HB.out | apply below_alloc | apply pw_below_drewN | apply below_drew1 | refine below_set ?_ GE.out) | exact HB.out)))); (case aL => have := HL.out; omega); intro v2 wa ho hb hg hat; have n1_ := Aside0.mk (blk_grown (g := gb) (o := .cells #[.bool false, .int .i64 n] 23 (0, 0)) (by (with_reducible repeat (first | refine blk_drewN ?_ _ | refine blk_drew ?_ | refine blk_alloc ?_ _)); exact BK.out) hg (Kd.R_ne HO.out BK.out (by decide))); have n2_ := Aside0.mk (hb); have n3_ := Aside0.mk (ho); have n5_ := Aside0.mk (IsS117.grown (by repeat (first | (with_reducible exact HT.out) | apply IsS117.alloc | apply IsS117.drewN | apply IsS117.drew)) hg (IsS117.own_ne HT.out HO.out (by decide))); clear HT; have HT := n5_; clear n5_; clear BK; clear HB; clear HO; have BK := n1_; have HB := n2_; have HO := n3_; clear n1_ n2_ n3_; clear ho hb hg hat)))
              go_roundw
              case rel =>
                refine ⟨j + 1, by omega, by go_num, ⟨?_⟩, ⟨?_⟩, BK, HB⟩
                · rw [evDig_step, ← List.append_assoc, ← digit_eq h h', show evCtx (numC n) j = evTail j by simp [evCtx, evTail, hj0]]
                  exact HO.out
                · rw [evTail_step j hj0]
                  exact HT.out
              case measure => simp [intOf]; omega
          · obtain rfl : j = numC n := by omega
            clear hlt hj
            have hq0 : wr.cell? ⟨gb, 1, none⟩ = some (.int .i64 n) := (blk_cell BK.out 1).trans rfl
            have hq1 := blk_frozen BK.out 1
            have HL := Aside0.mk (show (evHead base (numC n) ++ evMid base (numC n) ++ evDig base n (numC n) (numC n)).length ≤ 60 by have := evMid_len base (numC n); simp only [List.length_append, evHead_len, evDig_len]; omega)
            by_cases hz : n = 0
            · go_wp2
              go_ret
              refine ⟨_, rfl, ?_, HB.out⟩
              unfold evList
              rw [show evSign base n = [] from if_pos hz, List.append_nil]
              exact HO.out
            · have hq2 : (wr.alloc (.cells #[.int .i64 (base + 22), .int .i64 0] 87)).cell? ⟨gb, 1, none⟩ = some (.int .i64 n) := (blk_cell (blk_alloc BK.out _) 1).trans rfl
              have hq3 : (wr.alloc (.cells #[.int .i64 (base + 22), .int .i64 0] 87)).frozen? ⟨gb, 1, none⟩ = false := blk_frozen (blk_alloc BK.out _) 1
              by_cases hs : n < 0
              · have hg : evSign base n = [⟨base + 22, 1⟩] := by unfold evSign; rw [if_neg hz, if_pos hs]
                go_wp2_with (first | ((with_reducible refine gate_dst (N := 92) rfl ?_); obtain ⟨wq, hwq⟩ : ∃ wq, wr.alloc (.cells #[.int .i64 (base + 22), .int .i64 1] 87) = wq := ⟨_, rfl⟩; rw [hwq]; have n1_ := Aside0.mk (show Kd.R k87 87 wq w.heap.size (fun _ => True) u5 _ from hwq ▸ Kd.R_alloc HO.out _); have n2_ := Aside0.mk (show wq.heap[gb]? = some (.cells #[.bool false, .int .i64 n] 23 (0, 0)) from hwq ▸ blk_alloc BK.out _); have n3_ := Aside0.mk (show Below w.heap.size w wq from hwq ▸ below_alloc HB.out _); clear HO BK HB hq0 hq1 hq2 hq3; have HO := n1_; have BK := n2_; have HB := n3_; clear n1_ n2_ n3_; clear hwq) | ((with_reducible refine gate_builtin (b := .append) (xs := #[.tmp 90, .tmp 92]) rfl ?_); at_builtin; (refine Kd.R_append k87 (w0 := w) w.heap.size rfl (.tmp 90) (.tmp 92) 24 87 (.agg #[(.int .i64 0), (.int .i64 0)]) 16 rfl Try.underlying24 info87 rfl (by decide) (by omega) u5 (evHead base (numC n) ++ evMid base (numC n) ++ evDig base n (numC n) (numC n)) (⟨base + 22, 1⟩ : S87) [.int .i64 (base + 22), .int .i64 (1)] (fun _ => True) (fun _ => False) rfl rfl ?aP (fun _ hk => hk.elim) ?aF ?aO ?aB ?aS ?aL ?_; (case aP => exact k87_mkM _ _ _ (⟨base + 22, 1⟩ : S87)); (case aB => exact (by repeat (first | (with_reducible first | exact HB.out | apply below_alloc | apply pw_below_drewN | apply below_drew1 | refine below_set ?_ GE.out) | exact HB.out))); (case aF => exact (fun _ _ => trivial)); (case aO => exact (by (with_reducible repeat (first | apply Kd.R_alloc | apply Kd.R_drewN | apply Kd.R_drew)); exact HO.out)); (case aS => exact (below_size (by repeat (first | (with_reducible first | exact HB.out | apply below_alloc | apply pw_below_drewN | apply below_drew1 | refine below_set ?_ GE.out) | exact HB.out)))); (case aL => have := HL.out; omega); intro v2 wa ho hb hg hat; have n1_ := Aside0.mk (blk_grown (g := gb) (o := .cells #[.bool false, .int .i64 n] 23 (0, 0)) (by (with_reducible repeat (first | refine blk_drewN ?_ _ | refine blk_drew ?_ | refine blk_alloc ?_ _)); exact BK.out) hg (Kd.R_ne HO.out BK.out (by decide))); have n2_ := Aside0.mk (hb); have n3_ := Aside0.mk (ho); clear BK; clear HB; clear HO; have BK := n1_; have HB := n2_; have HO := n3_; clear n1_ n2_ n3_; clear ho hb hg hat)))
                go_ret
                refine ⟨_, rfl, ?_, HB.out⟩
                unfold evList
                rw [hg]
                exact HO.out
              · have hg : evSign base n = [⟨base + 22, 0⟩] := by unfold evSign; rw [if_neg hz, if_neg hs]
                go_wp2_with (first | ((with_reducible refine gate_dst (N := 92) rfl ?_); obtain ⟨wq, hwq⟩ : ∃ wq, wr.alloc (.cells #[.int .i64 (base + 22), .int .i64 0] 87) = wq := ⟨_, rfl⟩; rw [hwq]; have n1_ := Aside0.mk (show Kd.R k87 87 wq w.heap.size (fun _ => True) u5 _ from hwq ▸ Kd.R_alloc HO.out _); have n2_ := Aside0.mk (show wq.heap[gb]? = some (.cells #[.bool false, .int .i64 n] 23 (0, 0)) from hwq ▸ blk_alloc BK.out _); have n3_ := Aside0.mk (show Below w.heap.size w wq from hwq ▸ below_alloc HB.out _); clear HO BK HB hq0 hq1 hq2 hq3; have HO := n1_; have BK := n2_; have HB := n3_; clear n1_ n2_ n3_; clear hwq) | ((with_reducible refine gate_builtin (b := .append) (xs := #[.tmp 90, .tmp 92]) rfl ?_); at_builtin; (refine Kd.R_append k87 (w0 := w) w.heap.size rfl (.tmp 90) (.tmp 92) 24 87 (.agg #[(.int .i64 0), (.int .i64 0)]) 16 rfl Try.underlying24 info87 rfl (by decide) (by omega) u5 (evHead base (numC n) ++ evMid base (numC n) ++ evDig base n (numC n) (numC n)) (⟨base + 22, 0⟩ : S87) [.int .i64 (base + 22), .int .i64 (0)] (fun _ => True) (fun _ => False) rfl rfl ?aP (fun _ hk => hk.elim) ?aF ?aO ?aB ?aS ?aL ?_; (case aP => exact k87_mkM _ _ _ (⟨base + 22, 0⟩ : S87)); (case aB => exact (by repeat (first | (with_reducible first | exact HB.out | apply below_alloc | apply pw_below_drewN | apply below_drew1 | refine below_set ?_ GE.out) | exact HB.out))); (case aF => exact (fun _ _ => trivial)); (case aO => exact (by (with_reducible repeat (first | apply Kd.R_alloc | apply Kd.R_drewN | apply Kd.R_drew)); exact HO.out)); (case aS => exact (below_size (by repeat (first | (with_reducible first | exact HB.out | apply below_alloc | apply pw_below_drewN | apply below_drew1 | refine below_set ?_ GE.out) | exact HB.out)))); (case aL => have := HL.out; omega); intro v2 wa ho hb hg hat; have n1_ := Aside0.mk (blk_grown (g := gb) (o := .cells #[.bool false, .int .i64 n] 23 (0, 0)) (by (with_reducible repeat (first | refine blk_drewN ?_ _ | refine blk_drew ?_ | refine blk_alloc ?_ _)); exact BK.out) hg (Kd.R_ne HO.out BK.out (by decide))); have n2_ := Aside0.mk (hb); have n3_ := Aside0.mk (ho); clear BK; clear HB; clear HO; have BK := n1_; have HB := n2_; have HO := n3_; clear n1_ n2_ n3_; clear ho hb hg hat)))
                go_ret
                refine ⟨_, rfl, ?_, HB.out⟩
                unfold evList
                rw [hg]
                exact HO.out
end Go.Proofs.Ytlnhahnnjbfjdaa.Num
