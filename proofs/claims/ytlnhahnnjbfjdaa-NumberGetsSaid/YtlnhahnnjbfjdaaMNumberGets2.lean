import Derived.Test.YtlnhahnnjbfjdaaMNumberGets1
import Derived.Lib.ItoaNum
set_option linter.unusedVariables false
set_option linter.unusedSimpArgs false
namespace Go.Proofs.Ytlnhahnnjbfjdaa.Num
open Go Go.RowKit Go.Proofs.YtlnhahnnjbfjdaaW.PrintWords Go.Proofs.YtlnhahnnjbfjdaaW.PrintLast Go.Proofs.YtlnhahnnjbfjdaaW.PrintMore Go.Proofs.Ytlnhahnnjbfjdaa.Aid Go.Proofs.Ytlnhahnnjbfjdaa.HandAid Go.Proofs.Ytlnhahnnjbfjdaa.U
attribute [local go_sem low] max2_int
attribute [local go_sem] min2_int max_two min_two
/-- The size of a number, as the walk has it; and one more. -/
def numA (n : Int) : Int := if n < -n then -n else n
def numV (n : Int) : Int := numA n + 1
theorem numA_eq (n : Int) : numA n = if n < 0 then -n else n := by
  unfold numA
  split <;> split <;> omega
theorem numA_range {n : Int} (h : -1048576 ≤ n) (h' : n ≤ 1048576) : 0 ≤ numA n ∧ numA n ≤ 1048576 := by rw [numA_eq]; split <;> omega
theorem max_numA (n : Int) : Builtin.max2 (.int .i64 n) (.int .i64 (-n)) = pure (.int .i64 (numA n)) := by
  rw [max2_int]
  rfl
attribute [local go_sem high] max_numA
/-- The length of a number's digits, less one. -/
def numC (n : Int) : Nat := Lib.bitLen (numV n).toNat - 1
def evHead (base : Int) (j : Nat) : List S87 := ⟨base, 0⟩ :: (List.range j).map fun (i : Nat) => ⟨base + 1 + i, 1⟩
def evMid (base : Int) (c : Nat) : List S87 := if c < 20 then [⟨base + 1 + c, 0⟩] else []
def evCtx (c j : Nat) : Int := if j = 0 then 23 + c else if j < 4 then 43 + j else 47
def evDig (base n : Int) (c j : Nat) : List S87 := (List.range j).map fun (i : Nat) => ⟨base + evCtx c i, numV n / 2 ^ (c - 1 - i) % 2⟩
def evSign (base n : Int) : List S87 := if n = 0 then [] else [⟨base + 22, if n < 0 then 1 else 0⟩]
/-- The events of a number that is not none. -/
def evList (base n : Int) : List S87 := evHead base (numC n) ++ evMid base (numC n) ++ evDig base n (numC n) (numC n) ++ evSign base n
theorem numV_range {n : Int} (h : -1048576 ≤ n) (h' : n ≤ 1048576) : 1 ≤ numV n ∧ numV n ≤ 1048577 := by have := numA_range h h'; unfold numV; omega
theorem bitLen_spec (x : Nat) (h : x < 18446744073709551616) (h0 : x ≠ 0) : 1 ≤ Lib.bitLen x ∧ 2 ^ (Lib.bitLen x - 1) ≤ x ∧ x < 2 ^ Lib.bitLen x := Lib.bitLenAux_bounds 64 x h h0
theorem pow_cast {a b : Nat} (h : 2 ^ a ≤ b) : (2 : Int) ^ a ≤ (b : Int) := by exact_mod_cast h
theorem cast_pow {a b : Nat} (h : b < 2 ^ a) : (b : Int) < (2 : Int) ^ a := by exact_mod_cast h
theorem numC_spec {n : Int} (h : -1048576 ≤ n) (h' : n ≤ 1048576) : (2 : Int) ^ numC n ≤ numV n ∧ numV n < 2 ^ (numC n + 1) ∧ numC n ≤ 20 ∧ Lib.bitLen (numV n).toNat = numC n + 1 := by
  have hr := numV_range h h'
  obtain ⟨h1, h2, h3⟩ := bitLen_spec (numV n).toNat (by omega) (by omega)
  have hl : Lib.bitLen (numV n).toNat ≤ 21 := by
    rcases Nat.lt_or_ge 21 (Lib.bitLen (numV n).toNat) with c | c
    · exact absurd (Nat.le_trans (Nat.pow_le_pow_right (by decide) (show 21 ≤ Lib.bitLen (numV n).toNat - 1 by omega)) h2) (by omega)
    · exact c
  have e : Lib.bitLen (numV n).toNat = numC n + 1 := by unfold numC; omega
  have e2 : ((numV n).toNat : Int) = numV n := Int.toNat_of_nonneg (by omega)
  refine ⟨?_, ?_, by omega, e⟩
  · rw [← e2]; exact pow_cast (by rw [e] at h2; exact h2)
  · rw [← e2]; exact cast_pow (by rw [e] at h3; exact h3)
theorem events_none (base n : Int) (w : World) : Calls Try.prog 45 #[.int .i64 base, .agg #[.bool true, .int .i64 n]] w fun e w' => ∃ v, e = .returned v ∧ Kd.R k87 87 w' w.heap.size (fun _ => True) v [(⟨base, 1⟩ : S87)] ∧ Below w.heap.size w w' := by
  have HB := Aside0.mk (Below.refl w.heap.size w)
  have hu := Try.underlying23
  have hu2 := Try.underlying87
  go_enter Try.func45, Try.ntmps45
  go_wp2_with (first | ((with_reducible refine gate_dst (N := 3) rfl ?_); refine box_event ?hg (N := 3) ?hd (cs := #[.bool true, .int .i64 n]) (t := 23) ?hr ?_; (case hd => rfl); (case hg => rfl); (case hr => first | (go_simp; done) | (go_simp; rfl)); intro gb hg wb hbox hb; have n0_ := Aside0.mk (below_step (by repeat (first | (with_reducible first | exact HB.out | apply below_alloc | apply pw_below_drewN | apply below_drew1 | refine below_set ?_ GE.out) | exact HB.out)) hb); have n1_ := Aside0.mk (hbox); have n2_ := Aside0.mk ((by rw [hg]; exact (below_size (by repeat (first | (with_reducible first | exact HB.out | apply below_alloc | apply pw_below_drewN | apply below_drew1 | refine below_set ?_ GE.out) | exact HB.out))) : w.heap.size ≤ gb)); clear HB; have HB := n0_; have BK := n1_; have GE := n2_; clear n0_ n1_ n2_; clear hb hbox hg; have hcz0 : wb.cell? ⟨gb, 0, none⟩ = some (.bool true) := (blk_cell BK.out 0).trans rfl; have hcz1 : wb.cell? ⟨gb, 1, none⟩ = some (.int .i64 n) := (blk_cell BK.out 1).trans rfl; have hfz0 := blk_frozen BK.out 0; have hfz1 := blk_frozen BK.out 1) | ((with_reducible refine gate_dst (N := 17) rfl ?_); refine Kd.R_lit k87 _ 87 ?hg (N := 17) ?hd (xs := ([(⟨base, 1⟩ : S87)] : List (S87))) (inner := [.int .i64 (base), .int .i64 (1)]) (ok := fun _ => True) (okp := fun _ => True) ?hr ?hp (fun _ hk => hk) trivial (Below.refl _ _) (Nat.le_refl _) (by simp) ?_; (case hd => rfl); (case hg => rfl); (case hr => first | (go_simp; done) | (go_simp; rfl)); (case hp => exact (Reps.c2 (show Kd.M k87 _ _ _ (⟨base, 1⟩ : S87) [.int .i64 (base), .int .i64 (1)] from (k87_mkM _ _ _ (⟨base, 1⟩ : S87) )) (Reps.none _ _))); intro v wl ho hb hg_ hnew_; clear hg_ hnew_; have n0_ := Aside0.mk (Kd.R_lower ho (below_size (by repeat (first | (with_reducible first | exact HB.out | apply below_alloc | apply pw_below_drewN | apply below_drew1 | refine below_set ?_ GE.out) | exact HB.out)))); have n1_ := Aside0.mk (blk_below (g := gb) (o := .cells #[.bool true, .int .i64 n] 23 (0, 0)) (by (with_reducible repeat (first | refine blk_drewN ?_ _ | refine blk_drew ?_ | refine blk_alloc ?_ _)); exact BK.out) hb); have n2_ := Aside0.mk (below_step (by repeat (first | (with_reducible first | exact HB.out | apply below_alloc | apply pw_below_drewN | apply below_drew1 | refine below_set ?_ GE.out) | exact HB.out)) hb); clear BK; clear HB; have HO := n0_; have BK := n1_; have HB := n2_; clear n0_ n1_ n2_; clear hb ho; have hczl0 : wl.cell? ⟨gb, 0, none⟩ = some (.bool true) := (blk_cell BK.out 0).trans rfl; have hczl1 : wl.cell? ⟨gb, 1, none⟩ = some (.int .i64 n) := (blk_cell BK.out 1).trans rfl; have hfzl0 := blk_frozen BK.out 0; have hfzl1 := blk_frozen BK.out 1))
  go_ret
  exact ⟨_, rfl, HO.out, by repeat (first | (with_reducible first | exact HB.out | apply below_alloc | apply pw_below_drewN | apply below_drew1) | exact HB.out)⟩
theorem len_calls (n y : Int) (w : World) (h : -1048576 ≤ n) (h' : n ≤ 1048576) (hy : y = numV n) : Calls Try.prog 47 #[.int .u64 y] w fun e w' => e = .returned (.int .i64 ((numC n : Int) + 1)) ∧ w' = w := by
  subst hy
  have hr := numV_range h h'
  refine (Try.bits_Len (numV n) w (by omega) (by omega)).mono ?_
  rintro e w' ⟨rfl, rfl⟩
  rw [(numC_spec h h').2.2.2]
  exact ⟨by simp, rfl⟩
theorem evHead_len (base : Int) (j : Nat) : (evHead base j).length = j + 1 := by simp [evHead]
theorem evMid_len (base : Int) (c : Nat) : (evMid base c).length ≤ 1 := by unfold evMid; split <;> simp
theorem evDig_len (base n : Int) (c j : Nat) : (evDig base n c j).length = j := by simp [evDig]
theorem evHead_step (base : Int) (j : Nat) : evHead base (j + 1) = evHead base j ++ [⟨base + 1 + j, 1⟩] := by simp [evHead, List.range_succ]
theorem evDig_step (base n : Int) (c j : Nat) : evDig base n c (j + 1) = evDig base n c j ++ [⟨base + evCtx c j, numV n / 2 ^ (c - 1 - j) % 2⟩] := by simp [evDig, List.range_succ]
theorem wraps_i64' (x : Int) (h : 0 ≤ x) (h' : x < 2 ^ 62) : IntKind.i64.wrap x = x := by rw [IntKind.wrap_i64]; omega
theorem i64_and1 {x : Int} (h : 0 ≤ x) (h' : x < 4611686018427387904) : Go.bits .and .i64 x 1 = x % 2 := bits_mask .i64 62 (by decide) wraps_i64' 1 (by decide) x h h'
theorem digit_eq {n : Int} (h : -1048576 ≤ n) (h' : n ≤ 1048576) (k : Nat) : Go.bits .and .i64 ((numA n + 1) / 2 ^ k) 1 = numV n / 2 ^ k % 2 := by
  have hA := numA_range h h'
  have h1 : (0 : Int) ≤ (numA n + 1) / 2 ^ k := Int.ediv_nonneg (by omega) (Int.pow_nonneg (by decide))
  have h2 : (numA n + 1) / 2 ^ k ≤ numA n + 1 := Int.ediv_le_self _ (by omega)
  rw [i64_and1 h1 (by omega)]
  rfl
def evTail (j : Nat) : Int := if j = 0 then 44 else if j < 4 then 43 + j else 47
theorem evTail_step (j : Nat) (h : j ≠ 0) : evTail (j + 1) = mn (wrap64 (evTail j + 1)) 47 := by
  have : wrap64 (evTail j + 1) = evTail j + 1 := by refine wrap_id ?_ ?_ <;> (unfold evTail; split <;> (try split) <;> omega)
  rw [this]
  unfold evTail mn
  rw [if_neg (by omega), if_neg h]
  split <;> split <;> (try split) <;> omega
theorem evTail_range (j : Nat) : 44 ≤ evTail j ∧ evTail j ≤ 47 := by unfold evTail; split <;> (try split) <;> omega
set_option maxHeartbeats 40000000 in
set_option maxRecDepth 100000 in
theorem events_calls (base n : Int) (w : World) (hb0 : 0 ≤ base) (hb1 : base ≤ 1000000) (h : -1048576 ≤ n) (h' : n ≤ 1048576) : Calls Try.prog 45 #[.int .i64 base, .agg #[.bool false, .int .i64 n]] w fun e w' => ∃ v, e = .returned v ∧ Kd.R k87 87 w' w.heap.size (fun _ => True) v (evList base n) ∧ Below w.heap.size w w' := by
  have HB := Aside0.mk (Below.refl w.heap.size w)
  have hu := Try.underlying23
  have hu2 := Try.underlying87
  have hC := numC_spec h h'
  have hA := numA_range h h'
  have hc := hC.2.2.1
  go_enter Try.func45, Try.ntmps45
  go_wp2_with (first | ((with_reducible refine gate_dst (N := 3) rfl ?_); refine box_event ?hg (N := 3) ?hd (cs := #[.bool false, .int .i64 n]) (t := 23) ?hr ?_; (case hd => rfl); (case hg => rfl); (case hr => first | (go_simp; done) | (go_simp; rfl)); intro gb hg wb hbox hb; have n0_ := Aside0.mk (below_step (by repeat (first | (with_reducible first | exact HB.out | apply below_alloc | apply pw_below_drewN | apply below_drew1 | refine below_set ?_ GE.out) | exact HB.out)) hb); have n1_ := Aside0.mk (hbox); have n2_ := Aside0.mk ((by rw [hg]; exact (below_size (by repeat (first | (with_reducible first | exact HB.out | apply below_alloc | apply pw_below_drewN | apply below_drew1 | refine below_set ?_ GE.out) | exact HB.out))) : w.heap.size ≤ gb)); clear HB; have HB := n0_; have BK := n1_; have GE := n2_; clear n0_ n1_ n2_; clear hb hbox hg; have hcz0 : wb.cell? ⟨gb, 0, none⟩ = some (.bool false) := (blk_cell BK.out 0).trans rfl; have hcz1 : wb.cell? ⟨gb, 1, none⟩ = some (.int .i64 n) := (blk_cell BK.out 1).trans rfl; have hfz0 := blk_frozen BK.out 0; have hfz1 := blk_frozen BK.out 1) | ((with_reducible refine gate_dst (N := 20) rfl ?_); refine Kd.R_lit k87 _ 87 ?hg (N := 20) ?hd (xs := ([(⟨base, 0⟩ : S87)] : List (S87))) (inner := [.int .i64 (base), .int .i64 (0)]) (ok := fun _ => True) (okp := fun _ => True) ?hr ?hp (fun _ hk => hk) trivial (Below.refl _ _) (Nat.le_refl _) (by simp) ?_; (case hd => rfl); (case hg => rfl); (case hr => first | (go_simp; done) | (go_simp; rfl)); (case hp => exact (Reps.c2 (show Kd.M k87 _ _ _ (⟨base, 0⟩ : S87) [.int .i64 (base), .int .i64 (0)] from (k87_mkM _ _ _ (⟨base, 0⟩ : S87) )) (Reps.none _ _))); intro v wl ho hb hg_ hnew_; clear hg_ hnew_; have n0_ := Aside0.mk (Kd.R_lower ho (below_size (by repeat (first | (with_reducible first | exact HB.out | apply below_alloc | apply pw_below_drewN | apply below_drew1 | refine below_set ?_ GE.out) | exact HB.out)))); have n1_ := Aside0.mk (blk_below (g := gb) (o := .cells #[.bool false, .int .i64 n] 23 (0, 0)) (by (with_reducible repeat (first | refine blk_drewN ?_ _ | refine blk_drew ?_ | refine blk_alloc ?_ _)); exact BK.out) hb); have n2_ := Aside0.mk (below_step (by repeat (first | (with_reducible first | exact HB.out | apply below_alloc | apply pw_below_drewN | apply below_drew1 | refine below_set ?_ GE.out) | exact HB.out)) hb); clear BK; clear HB; have HO := n0_; have BK := n1_; have HB := n2_; clear n0_ n1_ n2_; clear hb ho; have hczl0 : wl.cell? ⟨gb, 0, none⟩ = some (.bool false) := (blk_cell BK.out 0).trans rfl; have hczl1 : wl.cell? ⟨gb, 1, none⟩ = some (.int .i64 n) := (blk_cell BK.out 1).trans rfl; have hfzl0 := blk_frozen BK.out 0; have hfzl1 := blk_frozen BK.out 1) | (go_at_call 47; (refine (len_calls n _ _ h h' ?he).mono ?_; (case he => rfl); rintro e w' ⟨rfl, rfl⟩)))
  go_loopw [5, 33] (fun l i wr => ∃ j : Nat, j ≤ numC n ∧ i = .int .i64 j ∧ Aside0 (Kd.R k87 87 wr w.heap.size (fun _ => True) l (evHead base j)) ∧ Aside0 (wr.heap[gb]? = some (.cells #[.bool false, .int .i64 n] 23 (0, 0))) ∧ Aside0 (Below w.heap.size w wr)) (fun _ i _ => numC n - (intOf i).toNat)
  case atStart => exact ⟨0, Nat.zero_le _, rfl, HO, BK, HB⟩
  clear hcz0 hcz1 hfz0 hfz1 hczl0 hczl1 hfzl0 hfzl1 HO BK HB
  case round =>
    obtain ⟨j, hj, rfl, HO, BK, HB⟩ := hrel
    by_cases hlt : j < numC n
    · have hL : (evHead base j).length ≤ 30 := by rw [evHead_len]; omega
      have HL := Aside0.mk hL
      clear hL
      go_wp2_with (first | ((with_reducible refine gate_builtin (b := .append) (xs := #[.tmp 36, .tmp 42]) rfl ?_); at_builtin; (refine Kd.R_append k87 (w0 := w) w.heap.size rfl (.tmp 36) (.tmp 42) 24 87 (.agg #[(.int .i64 0), (.int .i64 0)]) 16 rfl Try.underlying24 info87 rfl (by decide) (by omega) u5 (evHead base j) (⟨base + 1 + j, 1⟩ : S87) [.int .i64 (base + 1 + j), .int .i64 (1)] (fun _ => True) (fun _ => False) rfl rfl ?aP (fun _ hk => hk.elim) ?aF ?aO ?aB ?aS ?aL ?_; (case aP => exact k87_mkM _ _ _ (⟨base + 1 + j, 1⟩ : S87)); (case aB => exact (by repeat (first | (with_reducible first | exact HB.out | apply below_alloc | apply pw_below_drewN | apply below_drew1 | refine below_set ?_ GE.out) | exact HB.out))); (case aF => exact (fun _ _ => trivial)); (case aO => exact (by (with_reducible repeat (first | apply Kd.R_alloc | apply Kd.R_drewN | apply Kd.R_drew)); exact HO.out)); (case aS => exact (below_size (by repeat (first | (with_reducible first | exact HB.out | apply below_alloc | apply pw_below_drewN | apply below_drew1 | refine below_set ?_ GE.out) | exact HB.out)))); (case aL => have := HL.out; omega); intro v2 wa ho hb hg hat; have n1_ := Aside0.mk (blk_grown (g := gb) (o := .cells #[.bool false, .int .i64 n] 23 (0, 0)) (by (with_reducible repeat (first | refine blk_drewN ?_ _ | refine blk_drew ?_ | refine blk_alloc ?_ _)); exact BK.out) hg (Kd.R_ne HO.out BK.out (by decide))); have n2_ := Aside0.mk (hb); have n3_ := Aside0.mk (ho); clear BK; clear HB; clear HO; have BK := n1_; have HB := n2_; have HO := n3_; clear n1_ n2_ n3_; clear ho hb hg hat)))
      go_roundw
      case rel => exact ⟨j + 1, by omega, by go_num, ⟨by rw [evHead_step]; exact HO.out⟩, BK, HB⟩
      case measure => simp [intOf]; omega
    · obtain rfl : j = numC n := by omega
      clear hlt hj
      by_cases h20 : numC n < 20
      · have HL := Aside0.mk (show (evHead base (numC n)).length ≤ 30 by rw [evHead_len]; omega)
        have hm : evMid base (numC n) = [⟨base + 1 + (numC n : Int), 0⟩] := if_pos h20
        go_wp2_with (first | ((with_reducible refine gate_builtin (b := .append) (xs := #[.tmp 47, .tmp 53]) rfl ?_); at_builtin; (refine Kd.R_append k87 (w0 := w) w.heap.size rfl (.tmp 47) (.tmp 53) 24 87 (.agg #[(.int .i64 0), (.int .i64 0)]) 16 rfl Try.underlying24 info87 rfl (by decide) (by omega) u5 (evHead base (numC n)) (⟨base + 1 + (numC n : Int), 0⟩ : S87) [.int .i64 (base + 1 + (numC n : Int)), .int .i64 (0)] (fun _ => True) (fun _ => False) rfl rfl ?aP (fun _ hk => hk.elim) ?aF ?aO ?aB ?aS ?aL ?_; (case aP => exact k87_mkM _ _ _ (⟨base + 1 + (numC n : Int), 0⟩ : S87)); (case aB => exact (by repeat (first | (with_reducible first | exact HB.out | apply below_alloc | apply pw_below_drewN | apply below_drew1 | refine below_set ?_ GE.out) | exact HB.out))); (case aF => exact (fun _ _ => trivial)); (case aO => exact (by (with_reducible repeat (first | apply Kd.R_alloc | apply Kd.R_drewN | apply Kd.R_drew)); exact HO.out)); (case aS => exact (below_size (by repeat (first | (with_reducible first | exact HB.out | apply below_alloc | apply pw_below_drewN | apply below_drew1 | refine below_set ?_ GE.out) | exact HB.out)))); (case aL => have := HL.out; omega); intro v2 wa ho hb hg hat; have n1_ := Aside0.mk (blk_grown (g := gb) (o := .cells #[.bool false, .int .i64 n] 23 (0, 0)) (by (with_reducible repeat (first | refine blk_drewN ?_ _ | refine blk_drew ?_ | refine blk_alloc ?_ _)); exact BK.out) hg (Kd.R_ne HO.out BK.out (by decide))); have n2_ := Aside0.mk (hb); have n3_ := Aside0.mk (ho); clear BK; clear HB; clear HO; have BK := n1_; have HB := n2_; have HO := n3_; clear n1_ n2_ n3_; clear ho hb hg hat)))
        go_loopw [5, 10] (fun l i wz => ∃ j : Nat, j ≤ numC n ∧ i = .int .i64 ((numC n : Int) - 1 - j) ∧ Aside0 (Kd.R k87 87 wz w.heap.size (fun _ => True) l (evHead base (numC n) ++ evMid base (numC n) ++ evDig base n (numC n) j)) ∧ Aside0 (IsS117 w wz wa.heap.size (evTail j)) ∧ Aside0 (wz.heap[gb]? = some (.cells #[.bool false, .int .i64 n] 23 (0, 0))) ∧ Aside0 (Below w.heap.size w wz)) (fun _ i _ => (intOf i + 1).toNat)
        case atStart =>
          refine ⟨0, Nat.zero_le _, by go_num, ⟨?_⟩, ⟨?_⟩, ⟨?_⟩, ⟨?_⟩⟩
          · rw [hm, show evDig base n (numC n) 0 = [] from rfl, List.append_nil]
            exact Kd.R_alloc (by first | exact HO.out | (rw [List.append_nil]; exact HO.out)) _
          · exact IsS117.new w wa 44 HB.out
          · exact blk_alloc BK.out _
          · exact below_alloc HB.out _
        case round =>
          clear HO BK HB
          obtain ⟨j, hj, rfl, HO, HT, BK, HB⟩ := hrel
          by_cases hlt : j < numC n
          · have HL := Aside0.mk (show (evHead base (numC n) ++ evMid base (numC n) ++ evDig base n (numC n) j).length ≤ 60 by have := evMid_len base (numC n); simp only [List.length_append, evHead_len, evDig_len]; omega)
            by_cases hj0 : j = 0
            · go_wp2_with (first | ((with_reducible refine gate_builtin (b := .append) (xs := #[.tmp 69, .tmp 78]) rfl ?_); at_builtin; (refine Kd.R_append k87 (w0 := w) w.heap.size rfl (.tmp 69) (.tmp 78) 24 87 (.agg #[(.int .i64 0), (.int .i64 0)]) 16 rfl Try.underlying24 info87 rfl (by decide) (by omega) u5 (evHead base (numC n) ++ evMid base (numC n) ++ evDig base n (numC n) j) (⟨base + (23 + (numC n : Int)), Go.bits .and .i64 ((numA n + 1) / 2 ^ (numC n - 1)) 1⟩ : S87) [.int .i64 (base + (23 + (numC n : Int))), .int .i64 (Go.bits .and .i64 ((numA n + 1) / 2 ^ (numC n - 1)) 1)] (fun _ => True) (fun _ => False) rfl rfl ?aP (fun _ hk => hk.elim) ?aF ?aO ?aB ?aS ?aL ?_; (case aP => exact k87_mkM _ _ _ (⟨base + (23 + (numC n : Int)), Go.bits .and .i64 ((numA n + 1) / 2 ^ (numC n - 1)) 1⟩ : S87)); (case aB => exact (by repeat (first | (with_reducible first | exact HB.out | apply below_alloc | apply pw_below_drewN | apply below_drew1 | refine below_set ?_ GE.out) | exact HB.out))); (case aF => exact (fun _ _ => trivial)); (case aO => exact (by (with_reducible repeat (first | apply Kd.R_alloc | apply Kd.R_drewN | apply Kd.R_drew)); exact HO.out)); (case aS => exact (below_size (by repeat (first | (with_reducible first | exact HB.out | apply below_alloc | apply pw_below_drewN | apply below_drew1 | refine below_set ?_ GE.out) | exact HB.out)))); (case aL => have := HL.out; omega); intro v2 wa ho hb hg hat; have n1_ := Aside0.mk (blk_grown (g := gb) (o := .cells #[.bool false, .int .i64 n] 23 (0, 0)) (by (with_reducible repeat (first | refine blk_drewN ?_ _ | refine blk_drew ?_ | refine blk_alloc ?_ _)); exact BK.out) hg (Kd.R_ne HO.out BK.out (by decide))); have n2_ := Aside0.mk (hb); have n3_ := Aside0.mk (ho); have n5_ := Aside0.mk (IsS117.grown (by repeat (first | (with_reducible exact HT.out) | apply IsS117.alloc | apply IsS117.drewN | apply IsS117.drew)) hg (IsS117.own_ne HT.out HO.out (by decide))); clear HT; have HT := n5_; clear n5_; clear BK; clear HB; clear HO; have BK := n1_; have HB := n2_; have HO := n3_; clear n1_ n2_ n3_; clear ho hb hg hat)))
              go_roundw
              case rel =>
                subst hj0
                refine ⟨0 + 1, by omega, by go_num, ⟨?_⟩, ⟨HT.out⟩, BK, HB⟩
                rw [evDig_step, ← List.append_assoc, ← digit_eq h h']
                exact HO.out
              case measure => simp [intOf]; omega
            · have ht := evTail_range j
              go_wp2_with (first | (go_at_call 69; (refine (number_tail_take.calls _ (evTail j) _ _ w _ HT.out HB.out rfl).mono ?_); rintro e wt ⟨rfl, hT, hB, hK⟩; have n1_ := Aside0.mk (Kd.R_mono (Kd.R_keep (IsS117.apart HT.out HO.out (by decide)) hK (fun _ hk => hk.2)) (fun _ _ => trivial)); have n2_ := Aside0.mk (hK.blk BK.out (IsS117.ne_blk HT.out BK.out (by decide)).symm (by simp)); have n3_ := Aside0.mk hT; have n4_ := Aside0.mk hB; clear HO BK HT HB hT hB hK; have HO := n1_; have BK := n2_; have HT := n3_; have HB := n4_; clear n1_ n2_ n3_ n4_) | ((with_reducible refine gate_builtin (b := .append) (xs := #[.tmp 69, .tmp 78]) rfl ?_); at_builtin; (refine Kd.R_append k87 (w0 := w) w.heap.size rfl (.tmp 69) (.tmp 78) 24 87 (.agg #[(.int .i64 0), (.int .i64 0)]) 16 rfl Try.underlying24 info87 rfl (by decide) (by omega) u5 (evHead base (numC n) ++ evMid base (numC n) ++ evDig base n (numC n) j) (⟨base + evTail j, Go.bits .and .i64 ((numA n + 1) / 2 ^ (numC n - 1 - j)) 1⟩ : S87) [.int .i64 (base + evTail j), .int .i64 (Go.bits .and .i64 ((numA n + 1) / 2 ^ (numC n - 1 - j)) 1)] (fun _ => True) (fun _ => False) rfl rfl ?aP (fun _ hk => hk.elim) ?aF ?aO ?aB ?aS ?aL ?_; (case aP => exact k87_mkM _ _ _ (⟨base + evTail j, Go.bits .and .i64 ((numA n + 1) / 2 ^ (numC n - 1 - j)) 1⟩ : S87)); (case aB => exact (by repeat (first | (with_reducible first | exact HB.out | apply below_alloc | apply pw_below_drewN | apply below_drew1 | refine below_set ?_ GE.out) | exact HB.out))); (case aF => exact (fun _ _ => trivial)); (case aO => exact (by (with_reducible repeat (first | apply Kd.R_alloc | apply Kd.R_drewN | apply Kd.R_drew)); exact HO.out)); (case aS => exact (below_size (by repeat (first | (with_reducible first | exact HB.out | apply below_alloc | apply pw_below_drewN | apply below_drew1 | refine below_set ?_ GE.out) | exact HB.out)))); (case aL => have := HL.out; omega); intro v2 wa ho hb hg hat; have n1_ := Aside0.mk (blk_grown (g := gb) (o := .cells #[.bool false, .int .i64 n] 23 (0, 0)) (by (with_reducible repeat (first | refine blk_drewN ?_ _ | refine blk_drew ?_ | refine blk_alloc ?_ _)); exact BK.out) hg (Kd.R_ne HO.out BK.out (by decide))); have n2_ := Aside0.mk (hb); have n3_ := Aside0.mk (ho); have n5_ := Aside0.mk (IsS117.grown (by repeat (first | (with_reducible exact HT.out) | apply IsS117.alloc | apply IsS117.drewN | apply IsS117.drew)) hg (IsS117.own_ne HT.out HO.out (by decide))); clear HT; have HT := n5_; clear n5_; clear BK; clear HB; clear HO; have BK := n1_; have HB := n2_; have HO := n3_; clear n1_ n2_ n3_; clear ho hb hg hat)))
              go_roundw
              case rel =>
                refine ⟨j + 1, by omega, by go_num, ⟨?_⟩, ⟨?_⟩, BK, HB⟩
                · rw [evDig_step, ← List.append_assoc, ← digit_eq h h', show evCtx (numC n) j = evTail j by simp [evCtx, evTail, hj0]]
                  exact HO.out
                · rw [evTail_step j hj0]
                  exact HT.out
              case measure => simp [intOf]; omega
          · obtain rfl : j = numC n := by omega
            clear hlt hj
            have hq0 : wr.cell? ⟨gb, 1, none⟩ = some (.int .i64 n) := (blk_cell BK.out 1).trans rfl
            have hq1 := blk_frozen BK.out 1
            have HL := Aside0.mk (show (evHead base (numC n) ++ evMid base (numC n) ++ evDig base n (numC n) (numC n)).length ≤ 60 by have := evMid_len base (numC n); simp only [List.length_append, evHead_len, evDig_len]; omega)
            by_cases hz : n = 0
            · go_wp2
              go_ret
              refine ⟨_, rfl, ?_, HB.out⟩
              unfold evList
              rw [show evSign base n = [] from if_pos hz, List.append_nil]
              exact HO.out
            · have hq2 : (wr.alloc (.cells #[.int .i64 (base + 22), .int .i64 0] 87)).cell? ⟨gb, 1, none⟩ = some (.int .i64 n) := (blk_cell (blk_alloc BK.out _) 1).trans rfl
              have hq3 : (wr.alloc (.cells #[.int .i64 (base + 22), .int .i64 0] 87)).frozen? ⟨gb, 1, none⟩ = false := blk_frozen (blk_alloc BK.out _) 1
              by_cases hs : n < 0
              · have hg : evSign base n = [⟨base + 22, 1⟩] := by unfold evSign; rw [if_neg hz, if_pos hs]
                go_wp2_with (first | ((with_reducible refine gate_dst (N := 92) rfl ?_); obtain ⟨wq, hwq⟩ : ∃ wq, wr.alloc (.cells #[.int .i64 (base + 22), .int .i64 1] 87) = wq := ⟨_, rfl⟩; rw [hwq]; have n1_ := Aside0.mk (show Kd.R k87 87 wq w.heap.size (fun _ => True) u5 _ from hwq ▸ Kd.R_alloc HO.out _); have n2_ := Aside0.mk (show wq.heap[gb]? = some (.cells #[.bool false, .int .i64 n] 23 (0, 0)) from hwq ▸ blk_alloc BK.out _); have n3_ := Aside0.mk (show Below w.heap.size w wq from hwq ▸ below_alloc HB.out _); clear HO BK HB hq0 hq1 hq2 hq3; have HO := n1_; have BK := n2_; have HB := n3_; clear n1_ n2_ n3_; clear hwq) | ((with_reducible refine gate_builtin (b := .append) (xs := #[.tmp 90, .tmp 92]) rfl ?_); at_builtin; (refine Kd.R_append k87 (w0 := w) w.heap.size rfl (.tmp 90) (.tmp 92) 24 87 (.agg #[(.int .i64 0), (.int .i64 0)]) 16 rfl Try.underlying24 info87 rfl (by decide) (by omega) u5 (evHead base (numC n) ++ evMid base (numC n) ++ evDig base n (numC n) (numC n)) (⟨base + 22, 1⟩ : S87) [.int .i64 (base + 22), .int .i64 (1)] (fun _ => True) (fun _ => False) rfl rfl ?aP (fun _ hk => hk.elim) ?aF ?aO ?aB ?aS ?aL ?_; (case aP => exact k87_mkM _ _ _ (⟨base + 22, 1⟩ : S87)); (case aB => exact (by repeat (first | (with_reducible first | exact HB.out | apply below_alloc | apply pw_below_drewN | apply below_drew1 | refine below_set ?_ GE.out) | exact HB.out))); (case aF => exact (fun _ _ => trivial)); (case aO => exact (by (with_reducible repeat (first | apply Kd.R_alloc | apply Kd.R_drewN | apply Kd.R_drew)); exact HO.out)); (case aS => exact (below_size (by repeat (first | (with_reducible first | exact HB.out | apply below_alloc | apply pw_below_drewN | apply below_drew1 | refine below_set ?_ GE.out) | exact HB.out)))); (case aL => have := HL.out; omega); intro v2 wa ho hb hg hat; have n1_ := Aside0.mk (blk_grown (g := gb) (o := .cells #[.bool false, .int .i64 n] 23 (0, 0)) (by (with_reducible repeat (first | refine blk_drewN ?_ _ | refine blk_drew ?_ | refine blk_alloc ?_ _)); exact BK.out) hg (Kd.R_ne HO.out BK.out (by decide))); have n2_ := Aside0.mk (hb); have n3_ := Aside0.mk (ho); clear BK; clear HB; clear HO; have BK := n1_; have HB := n2_; have HO := n3_; clear n1_ n2_ n3_; clear ho hb hg hat)))
                go_ret
                refine ⟨_, rfl, ?_, HB.out⟩
                unfold evList
                rw [hg]
                exact HO.out
              · have hg : evSign base n = [⟨base + 22, 0⟩] := by unfold evSign; rw [if_neg hz, if_neg hs]
                go_wp2_with (first | ((with_reducible refine gate_dst (N := 92) rfl ?_); obtain ⟨wq, hwq⟩ : ∃ wq, wr.alloc (.cells #[.int .i64 (base + 22), .int .i64 0] 87) = wq := ⟨_, rfl⟩; rw [hwq]; have n1_ := Aside0.mk (show Kd.R k87 87 wq w.heap.size (fun _ => True) u5 _ from hwq ▸ Kd.R_alloc HO.out _); have n2_ := Aside0.mk (show wq.heap[gb]? = some (.cells #[.bool false, .int .i64 n] 23 (0, 0)) from hwq ▸ blk_alloc BK.out _); have n3_ := Aside0.mk (show Below w.heap.size w wq from hwq ▸ below_alloc HB.out _); clear HO BK HB hq0 hq1 hq2 hq3; have HO := n1_; have BK := n2_; have HB := n3_; clear n1_ n2_ n3_; clear hwq) | ((with_reducible refine gate_builtin (b := .append) (xs := #[.tmp 90, .tmp 92]) rfl ?_); at_builtin; (refine Kd.R_append k87 (w0 := w) w.heap.size rfl (.tmp 90) (.tmp 92) 24 87 (.agg #[(.int .i64 0), (.int .i64 0)]) 16 rfl Try.underlying24 info87 rfl (by decide) (by omega) u5 (evHead base (numC n) ++ evMid base (numC n) ++ evDig base n (numC n) (numC n)) (⟨base + 22, 0⟩ : S87) [.int .i64 (base + 22), .int .i64 (0)] (fun _ => True) (fun _ => False) rfl rfl ?aP (fun _ hk => hk.elim) ?aF ?aO ?aB ?aS ?aL ?_; (case aP => exact k87_mkM _ _ _ (⟨base + 22, 0⟩ : S87)); (case aB => exact (by repeat (first | (with_reducible first | exact HB.out | apply below_alloc | apply pw_below_drewN | apply below_drew1 | refine below_set ?_ GE.out) | exact HB.out))); (case aF => exact (fun _ _ => trivial)); (case aO => exact (by (with_reducible repeat (first | apply Kd.R_alloc | apply Kd.R_drewN | apply Kd.R_drew)); exact HO.out)); (case aS => exact (below_size (by repeat (first | (with_reducible first | exact HB.out | apply below_alloc | apply pw_below_drewN | apply below_drew1 | refine below_set ?_ GE.out) | exact HB.out)))); (case aL => have := HL.out; omega); intro v2 wa ho hb hg hat; have n1_ := Aside0.mk (blk_grown (g := gb) (o := .cells #[.bool false, .int .i64 n] 23 (0, 0)) (by (with_reducible repeat (first | refine blk_drewN ?_ _ | refine blk_drew ?_ | refine blk_alloc ?_ _)); exact BK.out) hg (Kd.R_ne HO.out BK.out (by decide))); have n2_ := Aside0.mk (hb); have n3_ := Aside0.mk (ho); clear BK; clear HB; clear HO; have BK := n1_; have HB := n2_; have HO := n3_; clear n1_ n2_ n3_; clear ho hb hg hat)))
                go_ret
                refine ⟨_, rfl, ?_, HB.out⟩
                unfold evList
                rw [hg]
                exact HO.out
      · have hm : evMid base (numC n) = [] := if_neg h20
        go_wp2
        go_loopw [5, 10] (fun l i wz => ∃ j : Nat, j ≤ numC n ∧ i = .int .i64 ((numC n : Int) - 1 - j) ∧ Aside0 (Kd.R k87 87 wz w.heap.size (fun _ => True) l (evHead base (numC n) ++ evMid base (numC n) ++ evDig base n (numC n) j)) ∧ Aside0 (IsS117 w wz wr.heap.size (evTail j)) ∧ Aside0 (wz.heap[gb]? = some (.cells #[.bool false, .int .i64 n] 23 (0, 0))) ∧ Aside0 (Below w.heap.size w wz)) (fun _ i _ => (intOf i + 1).toNat)
        case atStart =>
          refine ⟨0, Nat.zero_le _, by go_num, ⟨?_⟩, ⟨?_⟩, ⟨?_⟩, ⟨?_⟩⟩
          · rw [hm, show evDig base n (numC n) 0 = [] from rfl, List.append_nil]
            exact Kd.R_alloc (by first | exact HO.out | (rw [List.append_nil]; exact HO.out)) _
          · exact IsS117.new w wr 44 HB.out
          · exact blk_alloc BK.out _
          · exact below_alloc HB.out _
        case round =>
          clear HO BK HB
          obtain ⟨j, hj, rfl, HO, HT, BK, HB⟩ := hrel
          by_cases hlt : j < numC n
          · have HL := Aside0.mk (show (evHead base (numC n) ++ evMid base (numC n) ++ evDig base n (numC n) j).length ≤ 60 by have := evMid_len base (numC n); simp only [List.length_append, evHead_len, evDig_len]; omega)
            by_cases hj0 : j = 0
            · go_wp2_with (first | ((with_reducible refine gate_builtin (b := .append) (xs := #[.tmp 69, .tmp 78]) rfl ?_); at_builtin; (refine Kd.R_append k87 (w0 := w) w.heap.size rfl (.tmp 69) (.tmp 78) 24 87 (.agg #[(.int .i64 0), (.int .i64 0)]) 16 rfl Try.underlying24 info87 rfl (by decide) (by omega) u5 (evHead base (numC n) ++ evMid base (numC n) ++ evDig base n (numC n) j) (⟨base + (23 + (numC n : Int)), Go.bits .and .i64 ((numA n + 1) / 2 ^ (numC n - 1)) 1⟩ : S87) [.int .i64 (base + (23 + (numC n : Int))), .int .i64 (Go.bits .and .i64 ((numA n + 1) / 2 ^ (numC n - 1)) 1)] (fun _ => True) (fun _ => False) rfl rfl ?aP (fun _ hk => hk.elim) ?aF ?aO ?aB ?aS ?aL ?_; (case aP => exact k87_mkM _ _ _ (⟨base + (23 + (numC n : Int)), Go.bits .and .i64 ((numA n + 1) / 2 ^ (numC n - 1)) 1⟩ : S87)); (case aB => exact (by repeat (first | (with_reducible first | exact HB.out | apply below_alloc | apply pw_below_drewN | apply below_drew1 | refine below_set ?_ GE.out) | exact HB.out))); (case aF => exact (fun _ _ => trivial)); (case aO => exact (by (with_reducible repeat (first | apply Kd.R_alloc | apply Kd.R_drewN | apply Kd.R_drew)); exact HO.out)); (case aS => exact (below_size (by repeat (first | (with_reducible first | exact HB.out | apply below_alloc | apply pw_below_drewN | apply below_drew1 | refine below_set ?_ GE.out) | exact HB.out)))); (case aL => have := HL.out; omega); intro v2 wa ho hb hg hat; have n1_ := Aside0.mk (blk_grown (g := gb) (o := .cells #[.bool false, .int .i64 n] 23 (0, 0)) (by (with_reducible repeat (first | refine blk_drewN ?_ _ | refine blk_drew ?_ | refine blk_alloc ?_ _)); exact BK.out) hg (Kd.R_ne HO.out BK.out (by decide))); have n2_ := Aside0.mk (hb); have n3_ := Aside0.mk (ho); have n5_ := Aside0.mk (IsS117.grown (by repeat (first | (with_reducible exact HT.out) | apply IsS117.alloc | apply IsS117.drewN | apply IsS117.drew)) hg (IsS117.own_ne HT.out HO.out (by decide))); clear HT; have HT := n5_; clear n5_; clear BK; clear HB; clear HO; have BK := n1_; have HB := n2_; have HO := n3_; clear n1_ n2_ n3_; clear ho hb hg hat)))
              go_roundw
              case rel =>
                subst hj0
                refine ⟨0 + 1, by omega, by go_num, ⟨?_⟩, ⟨HT.out⟩, BK, HB⟩
                rw [evDig_step, ← List.append_assoc, ← digit_eq h h']
                exact HO.out
              case measure => simp [intOf]; omega
            · have ht := evTail_range j
              go_wp2_with (first | (go_at_call 69; (refine (number_tail_take.calls _ (evTail j) _ _ w _ HT.out HB.out rfl).mono ?_); rintro e wt ⟨rfl, hT, hB, hK⟩; have n1_ := Aside0.mk (Kd.R_mono (Kd.R_keep (IsS117.apart HT.out HO.out (by decide)) hK (fun _ hk => hk.2)) (fun _ _ => trivial)); have n2_ := Aside0.mk (hK.blk BK.out (IsS117.ne_blk HT.out BK.out (by decide)).symm (by simp)); have n3_ := Aside0.mk hT; have n4_ := Aside0.mk hB; clear HO BK HT HB hT hB hK; have HO := n1_; have BK := n2_; have HT := n3_; have HB := n4_; clear n1_ n2_ n3_ n4_) | ((with_reducible refine gate_builtin (b := .append) (xs := #[.tmp 69, .tmp 78]) rfl ?_); at_builtin; (refine Kd.R_append k87 (w0 := w) w.heap.size rfl (.tmp 69) (.tmp 78) 24 87 (.agg #[(.int .i64 0), (.int .i64 0)]) 16 rfl Try.underlying24 info87 rfl (by decide) (by omega) u5 (evHead base (numC n) ++ evMid base (numC n) ++ evDig base n (numC n) j) (⟨base + evTail j, Go.bits .and .i64 ((numA n + 1) / 2 ^ (numC n - 1 - j)) 1⟩ : S87) [.int .i64 (base + evTail j), .int .i64 (Go.bits .and .i64 ((numA n + 1) / 2 ^ (numC n - 1 - j)) 1)] (fun _ => True) (fun _ => False) rfl rfl ?aP (fun _ hk => hk.elim) ?aF ?aO ?aB ?aS ?aL ?_; (case aP => exact k87_mkM _ _ _ (⟨base + evTail j, Go.bits .and .i64 ((numA n + 1) / 2 ^ (numC n - 1 - j)) 1⟩ : S87)); (case aB => exact (by repeat (first | (with_reducible first | exact HB.out | apply below_alloc | apply pw_below_drewN | apply below_drew1 | refine below_set ?_ GE.out) | exact HB.out))); (case aF => exact (fun _ _ => trivial)); (case aO => exact (by (with_reducible repeat (first | apply Kd.R_alloc | apply Kd.R_drewN | apply Kd.R_drew)); exact HO.out)); (case aS => exact (below_size (by repeat (first | (with_reducible first | exact HB.out | apply below_alloc | apply pw_below_drewN | apply below_drew1 | refine below_set ?_ GE.out) | exact HB.out)))); (case aL => have := HL.out; omega); intro v2 wa ho hb hg hat; have n1_ := Aside0.mk (blk_grown (g := gb) (o := .cells #[.bool false, .int .i64 n] 23 (0, 0)) (by (with_reducible repeat (first | refine blk_drewN ?_ _ | refine blk_drew ?_ | refine blk_alloc ?_ _)); exact BK.out) hg (Kd.R_ne HO.out BK.out (by decide))); have n2_ := Aside0.mk (hb); have n3_ := Aside0.mk (ho); have n5_ := Aside0.mk (IsS117.grown (by repeat (first | (with_reducible exact HT.out) | apply IsS117.alloc | apply IsS117.drewN | apply IsS117.drew)) hg (IsS117.own_ne HT.out HO.out (by decide))); clear HT; have HT := n5_; clear n5_; clear BK; clear HB; clear HO; have BK := n1_; have HB := n2_; have HO := n3_; clear n1_ n2_ n3_; clear ho hb hg hat)))
              go_roundw
              case rel =>
                refine ⟨j + 1, by omega, by go_num, ⟨?_⟩, ⟨?_⟩, BK, HB⟩
                · rw [evDig_step, ← List.append_assoc, ← digit_eq h h', show evCtx (numC n) j = evTail j by simp [evCtx, evTail, hj0]]
                  exact HO.out
                · rw [evTail_step j hj0]
                  exact HT.out
              case measure => simp [intOf]; omega
          · obtain rfl : j = numC n := by omega
            clear hlt hj
            have hq0 : wr.cell? ⟨gb, 1, none⟩ = some (.int .i64 n) := (blk_cell BK.out 1).trans rfl
            have hq1 := blk_frozen BK.out 1
            have HL := Aside0.mk (show (evHead base (numC n) ++ evMid base (numC n) ++ evDig base n (numC n) (numC n)).length ≤ 60 by have := evMid_len base (numC n); simp only [List.length_append, evHead_len, evDig_len]; omega)
            by_cases hz : n = 0
            · go_wp2
              go_ret
              refine ⟨_, rfl, ?_, HB.out⟩
              unfold evList
              rw [show evSign base n = [] from if_pos hz, List.append_nil]
              exact HO.out
            · have hq2 : (wr.alloc (.cells #[.int .i64 (base + 22), .int .i64 0] 87)).cell? ⟨gb, 1, none⟩ = some (.int .i64 n) := (blk_cell (blk_alloc BK.out _) 1).trans rfl
              have hq3 : (wr.alloc (.cells #[.int .i64 (base + 22), .int .i64 0] 87)).frozen? ⟨gb, 1, none⟩ = false := blk_frozen (blk_alloc BK.out _) 1
              by_cases hs : n < 0
              · have hg : evSign base n = [⟨base + 22, 1⟩] := by unfold evSign; rw [if_neg hz, if_pos hs]
                go_wp2_with (first | ((with_reducible refine gate_dst (N := 92) rfl ?_); obtain ⟨wq, hwq⟩ : ∃ wq, wr.alloc (.cells #[.int .i64 (base + 22), .int .i64 1] 87) = wq := ⟨_, rfl⟩; rw [hwq]; have n1_ := Aside0.mk (show Kd.R k87 87 wq w.heap.size (fun _ => True) u5 _ from hwq ▸ Kd.R_alloc HO.out _); have n2_ := Aside0.mk (show wq.heap[gb]? = some (.cells #[.bool false, .int .i64 n] 23 (0, 0)) from hwq ▸ blk_alloc BK.out _); have n3_ := Aside0.mk (show Below w.heap.size w wq from hwq ▸ below_alloc HB.out _); clear HO BK HB hq0 hq1 hq2 hq3; have HO := n1_; have BK := n2_; have HB := n3_; clear n1_ n2_ n3_; clear hwq) | ((with_reducible refine gate_builtin (b := .append) (xs := #[.tmp 90, .tmp 92]) rfl ?_); at_builtin; (refine Kd.R_append k87 (w0 := w) w.heap.size rfl (.tmp 90) (.tmp 92) 24 87 (.agg #[(.int .i64 0), (.int .i64 0)]) 16 rfl Try.underlying24 info87 rfl (by decide) (by omega) u5 (evHead base (numC n) ++ evMid base (numC n) ++ evDig base n (numC n) (numC n)) (⟨base + 22, 1⟩ : S87) [.int .i64 (base + 22), .int .i64 (1)] (fun _ => True) (fun _ => False) rfl rfl ?aP (fun _ hk => hk.elim) ?aF ?aO ?aB ?aS ?aL ?_; (case aP => exact k87_mkM _ _ _ (⟨base + 22, 1⟩ : S87)); (case aB => exact (by repeat (first | (with_reducible first | exact HB.out | apply below_alloc | apply pw_below_drewN | apply below_drew1 | refine below_set ?_ GE.out) | exact HB.out))); (case aF => exact (fun _ _ => trivial)); (case aO => exact (by (with_reducible repeat (first | apply Kd.R_alloc | apply Kd.R_drewN | apply Kd.R_drew)); exact HO.out)); (case aS => exact (below_size (by repeat (first | (with_reducible first | exact HB.out | apply below_alloc | apply pw_below_drewN | apply below_drew1 | refine below_set ?_ GE.out) | exact HB.out)))); (case aL => have := HL.out; omega); intro v2 wa ho hb hg hat; have n1_ := Aside0.mk (blk_grown (g := gb) (o := .cells #[.bool false, .int .i64 n] 23 (0, 0)) (by (with_reducible repeat (first | refine blk_drewN ?_ _ | refine blk_drew ?_ | refine blk_alloc ?_ _)); exact BK.out) hg (Kd.R_ne HO.out BK.out (by decide))); have n2_ := Aside0.mk (hb); have n3_ := Aside0.mk (ho); clear BK; clear HB; clear HO; have BK := n1_; have HB := n2_; have HO := n3_; clear n1_ n2_ n3_; clear ho hb hg hat)))
                go_ret
                refine ⟨_, rfl, ?_, HB.out⟩
                unfold evList
                rw [hg]
                exact HO.out
              · have hg : evSign base n = [⟨base + 22, 0⟩] := by unfold evSign; rw [if_neg hz, if_neg hs]
                go_wp2_with (first | ((with_reducible refine gate_dst (N := 92) rfl ?_); obtain ⟨wq, hwq⟩ : ∃ wq, wr.alloc (.cells #[.int .i64 (base + 22), .int .i64 0] 87) = wq := ⟨_, rfl⟩; rw [hwq]; have n1_ := Aside0.mk (show Kd.R k87 87 wq w.heap.size (fun _ => True) u5 _ from hwq ▸ Kd.R_alloc HO.out _); have n2_ := Aside0.mk (show wq.heap[gb]? = some (.cells #[.bool false, .int .i64 n] 23 (0, 0)) from hwq ▸ blk_alloc BK.out _); have n3_ := Aside0.mk (show Below w.heap.size w wq from hwq ▸ below_alloc HB.out _); clear HO BK HB hq0 hq1 hq2 hq3; have HO := n1_; have BK := n2_; have HB := n3_; clear n1_ n2_ n3_; clear hwq) | ((with_reducible refine gate_builtin (b := .append) (xs := #[.tmp 90, .tmp 92]) rfl ?_); at_builtin; (refine Kd.R_append k87 (w0 := w) w.heap.size rfl (.tmp 90) (.tmp 92) 24 87 (.agg #[(.int .i64 0), (.int .i64 0)]) 16 rfl Try.underlying24 info87 rfl (by decide) (by omega) u5 (evHead base (numC n) ++ evMid base (numC n) ++ evDig base n (numC n) (numC n)) (⟨base + 22, 0⟩ : S87) [.int .i64 (base + 22), .int .i64 (0)] (fun _ => True) (fun _ => False) rfl rfl ?aP (fun _ hk => hk.elim) ?aF ?aO ?aB ?aS ?aL ?_; (case aP => exact k87_mkM _ _ _ (⟨base + 22, 0⟩ : S87)); (case aB => exact (by repeat (first | (with_reducible first | exact HB.out | apply below_alloc | apply pw_below_drewN | apply below_drew1 | refine below_set ?_ GE.out) | exact HB.out))); (case aF => exact (fun _ _ => trivial)); (case aO => exact (by (with_reducible repeat (first | apply Kd.R_alloc | apply Kd.R_drewN | apply Kd.R_drew)); exact HO.out)); (case aS => exact (below_size (by repeat (first | (with_reducible first | exact HB.out | apply below_alloc | apply pw_below_drewN | apply below_drew1 | refine below_set ?_ GE.out) | exact HB.out)))); (case aL => have := HL.out; omega); intro v2 wa ho hb hg hat; have n1_ := Aside0.mk (blk_grown (g := gb) (o := .cells #[.bool false, .int .i64 n] 23 (0, 0)) (by (with_reducible repeat (first | refine blk_drewN ?_ _ | refine blk_drew ?_ | refine blk_alloc ?_ _)); exact BK.out) hg (Kd.R_ne HO.out BK.out (by decide))); have n2_ := Aside0.mk (hb); have n3_ := Aside0.mk (ho); clear BK; clear HB; clear HO; have BK := n1_; have HB := n2_; have HO := n3_; clear n1_ n2_ n3_; clear ho hb hg hat)))
                go_ret
                refine ⟨_, rfl, ?_, HB.out⟩
                unfold evList
                rw [hg]
                exact HO.out
end Go.Proofs.Ytlnhahnnjbfjdaa.Num
namespace Go.Proofs.Ytlnhahnnjbfjdaa.Evs
open Go Go.RowKit Go.Proofs.YtlnhahnnjbfjdaaW.PrintWords Go.Proofs.YtlnhahnnjbfjdaaW.PrintLast Go.Proofs.YtlnhahnnjbfjdaaW.PrintMore Go.Proofs.Ytlnhahnnjbfjdaa.Aid Go.Proofs.Ytlnhahnnjbfjdaa.HandAid Go.Proofs.Ytlnhahnnjbfjdaa.U Go.Proofs.Ytlnhahnnjbfjdaa.Num
/-- Whether a number is one, or none. -/
def okNum (nn : Bool) (n : Int) : Bool := if nn = true then n == 0 else decide (-1048576 ≤ n) && decide (n ≤ 1048576)
theorem valid_eq (nn : Bool) (n : Int) : number_Valid.f nn n = some (okNum nn n) := by
  unfold number_Valid.f okNum
  cases nn
  · simp only [Bool.false_eq_true, if_false]
    by_cases h : n ≥ -1048576
    · rw [if_pos h, decide_eq_true (show -1048576 ≤ n from h)]; rfl
    · rw [if_neg h, decide_eq_false (show ¬ -1048576 ≤ n from h)]; rfl
  · rfl
/-- The events of a number, or of none. -/
def evAll (base : Int) (nn : Bool) (n : Int) : List S87 := if nn = true then [⟨base, 1⟩] else evList base n
theorem events_all (base n : Int) (nn : Bool) (w : World) (hb0 : 0 ≤ base) (hb1 : base ≤ 1000000) (hok : okNum nn n = true) : Calls Try.prog 45 #[.int .i64 base, .agg #[.bool nn, .int .i64 n]] w fun e w' => ∃ v, e = .returned v ∧ Kd.R k87 87 w' w.heap.size (fun _ => True) v (evAll base nn n) ∧ Below w.heap.size w w' := by
  cases nn
  · unfold okNum at hok
    simp only [Bool.false_eq_true, if_false, Bool.and_eq_true, decide_eq_true_eq] at hok
    exact events_calls base n w hb0 hb1 hok.1 hok.2
  · exact events_none base n w
def evRes (base : Int) (nn : Bool) (n : Int) : List S87 × Int := if okNum nn n = true ∧ 0 ≤ base ∧ base ≤ 8144 then (evAll base nn n, 0) else ([], 2)
set_option maxHeartbeats 4000000 in
set_option maxRecDepth 100000 in
theorem Events_calls (base n : Int) (nn : Bool) (w : World) : Calls Try.prog 10 #[.int .i64 base, .agg #[.bool nn, .int .i64 n]] w fun e w' => ∃ v, e = .returned (.tuple #[v, .int .i64 (evRes base nn n).2]) ∧ Kd.R k87 87 w' w.heap.size (fun _ => True) v (evRes base nn n).1 ∧ Below w.heap.size w w' := by
  have HB := Aside0.mk (Below.refl w.heap.size w)
  have hu := Try.underlying23
  by_cases hok : okNum nn n = true
  · by_cases hb0 : 0 ≤ base
    · by_cases hb1 : base ≤ 8144
      · have he : evRes base nn n = (evAll base nn n, 0) := if_pos ⟨hok, hb0, hb1⟩
        rw [he]
        have hok' := hok
        go_enter Try.func10, Try.ntmps10
        go_wp2_with (first | ((with_reducible refine gate_dst (N := 3) rfl ?_); refine box_event ?hg (N := 3) ?hd (cs := #[.bool nn, .int .i64 n]) (t := 23) ?hr ?_; (case hd => rfl); (case hg => rfl); (case hr => first | (go_simp; done) | (go_simp; rfl)); intro gb hg wb hbox hb; have n0_ := Aside0.mk (below_step (by repeat (first | (with_reducible first | exact HB.out | apply below_alloc | apply pw_below_drewN | apply below_drew1 | refine below_set ?_ GE.out) | exact HB.out)) hb); have n1_ := Aside0.mk (hbox); have n2_ := Aside0.mk ((by rw [hg]; exact (below_size (by repeat (first | (with_reducible first | exact HB.out | apply below_alloc | apply pw_below_drewN | apply below_drew1 | refine below_set ?_ GE.out) | exact HB.out))) : w.heap.size ≤ gb)); clear HB; have HB := n0_; have BK := n1_; have GE := n2_; clear n0_ n1_ n2_; clear hb hbox hg; have hcz0 : wb.cell? ⟨gb, 0, none⟩ = some (.bool nn) := (blk_cell BK.out 0).trans rfl; have hcz1 : wb.cell? ⟨gb, 1, none⟩ = some (.int .i64 n) := (blk_cell BK.out 1).trans rfl; have hfz0 := blk_frozen BK.out 0; have hfz1 := blk_frozen BK.out 1) | (go_at_call 13; refine (number_Valid.calls nn n _ _ (valid_eq nn n)).mono ?_; rintro e wv ⟨rfl, hv⟩; have n1_ := Aside0.mk (blk_below BK.out hv); have n2_ := Aside0.mk (below_step HB.out hv); clear BK HB hv; have BK := n1_; have HB := n2_; clear n1_ n2_; have hcv0 : wv.cell? ⟨gb, 0, none⟩ = some (.bool nn) := (blk_cell BK.out 0).trans rfl; have hcv1 : wv.cell? ⟨gb, 1, none⟩ = some (.int .i64 n) := (blk_cell BK.out 1).trans rfl; have hfv0 := blk_frozen BK.out 0; have hfv1 := blk_frozen BK.out 1) | (go_at_call 45; refine (events_all base n nn _ hb0 (by omega) hok').mono ?_; rintro e we ⟨v, rfl, hR, hE⟩; have HR := Aside0.mk (Kd.R_lower hR (below_size HB.out)); have n2_ := Aside0.mk (below_step HB.out hE); clear hR hE HB; have HB := n2_; clear n2_))
        go_ret2
        exact ⟨v, rfl, HR.out, HB.out⟩
      · have he : evRes base nn n = ([], 2) := if_neg (fun h => hb1 h.2.2)
        rw [he]
        go_enter Try.func10, Try.ntmps10
        go_wp2_with (first | ((with_reducible refine gate_dst (N := 3) rfl ?_); refine box_event ?hg (N := 3) ?hd (cs := #[.bool nn, .int .i64 n]) (t := 23) ?hr ?_; (case hd => rfl); (case hg => rfl); (case hr => first | (go_simp; done) | (go_simp; rfl)); intro gb hg wb hbox hb; have n0_ := Aside0.mk (below_step (by repeat (first | (with_reducible first | exact HB.out | apply below_alloc | apply pw_below_drewN | apply below_drew1 | refine below_set ?_ GE.out) | exact HB.out)) hb); have n1_ := Aside0.mk (hbox); have n2_ := Aside0.mk ((by rw [hg]; exact (below_size (by repeat (first | (with_reducible first | exact HB.out | apply below_alloc | apply pw_below_drewN | apply below_drew1 | refine below_set ?_ GE.out) | exact HB.out))) : w.heap.size ≤ gb)); clear HB; have HB := n0_; have BK := n1_; have GE := n2_; clear n0_ n1_ n2_; clear hb hbox hg; have hcz0 : wb.cell? ⟨gb, 0, none⟩ = some (.bool nn) := (blk_cell BK.out 0).trans rfl; have hcz1 : wb.cell? ⟨gb, 1, none⟩ = some (.int .i64 n) := (blk_cell BK.out 1).trans rfl; have hfz0 := blk_frozen BK.out 0; have hfz1 := blk_frozen BK.out 1) | (go_at_call 13; refine (number_Valid.calls nn n _ _ (valid_eq nn n)).mono ?_; rintro e wv ⟨rfl, hv⟩; have n1_ := Aside0.mk (blk_below BK.out hv); have n2_ := Aside0.mk (below_step HB.out hv); clear BK HB hv; have BK := n1_; have HB := n2_; clear n1_ n2_; have hcv0 : wv.cell? ⟨gb, 0, none⟩ = some (.bool nn) := (blk_cell BK.out 0).trans rfl; have hcv1 : wv.cell? ⟨gb, 1, none⟩ = some (.int .i64 n) := (blk_cell BK.out 1).trans rfl; have hfv0 := blk_frozen BK.out 0; have hfv1 := blk_frozen BK.out 1))
        go_ret2
        exact ⟨_, rfl, Kd.R_nil _ _ _ _ _, HB.out⟩
    · have he : evRes base nn n = ([], 2) := if_neg (fun h => hb0 h.2.1)
      rw [he]
      go_enter Try.func10, Try.ntmps10
      go_wp2_with (first | ((with_reducible refine gate_dst (N := 3) rfl ?_); refine box_event ?hg (N := 3) ?hd (cs := #[.bool nn, .int .i64 n]) (t := 23) ?hr ?_; (case hd => rfl); (case hg => rfl); (case hr => first | (go_simp; done) | (go_simp; rfl)); intro gb hg wb hbox hb; have n0_ := Aside0.mk (below_step (by repeat (first | (with_reducible first | exact HB.out | apply below_alloc | apply pw_below_drewN | apply below_drew1 | refine below_set ?_ GE.out) | exact HB.out)) hb); have n1_ := Aside0.mk (hbox); have n2_ := Aside0.mk ((by rw [hg]; exact (below_size (by repeat (first | (with_reducible first | exact HB.out | apply below_alloc | apply pw_below_drewN | apply below_drew1 | refine below_set ?_ GE.out) | exact HB.out))) : w.heap.size ≤ gb)); clear HB; have HB := n0_; have BK := n1_; have GE := n2_; clear n0_ n1_ n2_; clear hb hbox hg; have hcz0 : wb.cell? ⟨gb, 0, none⟩ = some (.bool nn) := (blk_cell BK.out 0).trans rfl; have hcz1 : wb.cell? ⟨gb, 1, none⟩ = some (.int .i64 n) := (blk_cell BK.out 1).trans rfl; have hfz0 := blk_frozen BK.out 0; have hfz1 := blk_frozen BK.out 1) | (go_at_call 13; refine (number_Valid.calls nn n _ _ (valid_eq nn n)).mono ?_; rintro e wv ⟨rfl, hv⟩; have n1_ := Aside0.mk (blk_below BK.out hv); have n2_ := Aside0.mk (below_step HB.out hv); clear BK HB hv; have BK := n1_; have HB := n2_; clear n1_ n2_; have hcv0 : wv.cell? ⟨gb, 0, none⟩ = some (.bool nn) := (blk_cell BK.out 0).trans rfl; have hcv1 : wv.cell? ⟨gb, 1, none⟩ = some (.int .i64 n) := (blk_cell BK.out 1).trans rfl; have hfv0 := blk_frozen BK.out 0; have hfv1 := blk_frozen BK.out 1))
      go_ret2
      exact ⟨_, rfl, Kd.R_nil _ _ _ _ _, HB.out⟩
  · have he : evRes base nn n = ([], 2) := if_neg (fun h => hok h.1)
    have hok2 : okNum nn n = false := Bool.eq_false_iff.mpr hok
    rw [he]
    go_enter Try.func10, Try.ntmps10
    go_wp2_with (first | ((with_reducible refine gate_dst (N := 3) rfl ?_); refine box_event ?hg (N := 3) ?hd (cs := #[.bool nn, .int .i64 n]) (t := 23) ?hr ?_; (case hd => rfl); (case hg => rfl); (case hr => first | (go_simp; done) | (go_simp; rfl)); intro gb hg wb hbox hb; have n0_ := Aside0.mk (below_step (by repeat (first | (with_reducible first | exact HB.out | apply below_alloc | apply pw_below_drewN | apply below_drew1 | refine below_set ?_ GE.out) | exact HB.out)) hb); have n1_ := Aside0.mk (hbox); have n2_ := Aside0.mk ((by rw [hg]; exact (below_size (by repeat (first | (with_reducible first | exact HB.out | apply below_alloc | apply pw_below_drewN | apply below_drew1 | refine below_set ?_ GE.out) | exact HB.out))) : w.heap.size ≤ gb)); clear HB; have HB := n0_; have BK := n1_; have GE := n2_; clear n0_ n1_ n2_; clear hb hbox hg; have hcz0 : wb.cell? ⟨gb, 0, none⟩ = some (.bool nn) := (blk_cell BK.out 0).trans rfl; have hcz1 : wb.cell? ⟨gb, 1, none⟩ = some (.int .i64 n) := (blk_cell BK.out 1).trans rfl; have hfz0 := blk_frozen BK.out 0; have hfz1 := blk_frozen BK.out 1) | (go_at_call 13; refine (number_Valid.calls nn n _ _ (valid_eq nn n)).mono ?_; rintro e wv ⟨rfl, hv⟩; have n1_ := Aside0.mk (blk_below BK.out hv); have n2_ := Aside0.mk (below_step HB.out hv); clear BK HB hv; have BK := n1_; have HB := n2_; clear n1_ n2_; have hcv0 : wv.cell? ⟨gb, 0, none⟩ = some (.bool nn) := (blk_cell BK.out 0).trans rfl; have hcv1 : wv.cell? ⟨gb, 1, none⟩ = some (.int .i64 n) := (blk_cell BK.out 1).trans rfl; have hfv0 := blk_frozen BK.out 0; have hfv1 := blk_frozen BK.out 1))
    go_ret2
    exact ⟨_, rfl, Kd.R_nil _ _ _ _ _, HB.out⟩
end Go.Proofs.Ytlnhahnnjbfjdaa.Evs
namespace Go.Proofs.Ytlnhahnnjbfjdaa.RefEvs
open Go Go.RowKit Go.Proofs.YtlnhahnnjbfjdaaW.PrintWords Go.Proofs.YtlnhahnnjbfjdaaW.PrintLast Go.Proofs.YtlnhahnnjbfjdaaW.PrintMore Go.Proofs.Ytlnhahnnjbfjdaa.Aid Go.Proofs.Ytlnhahnnjbfjdaa.HandAid Go.Proofs.Ytlnhahnnjbfjdaa.U Go.Proofs.Ytlnhahnnjbfjdaa.Num Go.Proofs.Ytlnhahnnjbfjdaa.Evs
def shift (base : Int) (x : S87) : S87 := ⟨x.f0 + base, x.f1⟩
theorem same_l0 (l : List S87) (hn : l.length ≤ 1000000) : ∀ (d i : Nat), i + d = l.length → Ev (fun k => incunablelaw03_SameEvents.l0 k l l i) true
  | 0, i, hd => by
    refine ev_succ ?_
    simp only [incunablelaw03_SameEvents.l0]
    exact ev_neg (by omega) (Ev.now _)
  | d + 1, i, hd => by
    refine ev_succ ?_
    simp only [incunablelaw03_SameEvents.l0]
    refine ev_pos (by omega) (ev_pos (by omega) (ev_pos (by omega) (ev_neg (by simp) ?_)))
    rw [show wrap64 ((i : Int) + 1) = ((i + 1 : Nat) : Int) by rw [wrap_id] <;> omega]
    exact same_l0 l hn d (i + 1) (by omega)
theorem sameEvents_ev (l : List S87) (hn : l.length ≤ 1000000) : Ev (fun k => incunablelaw03_SameEvents.f k l l) true := by
  unfold incunablelaw03_SameEvents.f
  exact ev_pos rfl (same_l0 l hn l.length 0 (by omega))
end Go.Proofs.Ytlnhahnnjbfjdaa.RefEvs
namespace Go.Proofs.Ytlnhahnnjbfjdaa.Sane
open Go Go.RowKit Go.Proofs.YtlnhahnnjbfjdaaW.PrintWords Go.Proofs.YtlnhahnnjbfjdaaW.PrintLast Go.Proofs.YtlnhahnnjbfjdaaW.PrintMore Go.Proofs.Ytlnhahnnjbfjdaa.Aid Go.Proofs.Ytlnhahnnjbfjdaa.HandAid Go.Proofs.Ytlnhahnnjbfjdaa.U Go.Proofs.Ytlnhahnnjbfjdaa.Num Go.Proofs.Ytlnhahnnjbfjdaa.Evs Go.Proofs.Ytlnhahnnjbfjdaa.RefEvs
def sane5 : List S87 := [⟨0, 0⟩, ⟨1, 1⟩, ⟨2, 0⟩, ⟨24, 1⟩, ⟨22, 0⟩]
theorem sane_ev : evRes 0 false 2 = (sane5, 0) := by
  have h : numC 2 = 1 := by unfold numC numV numA; decide
  unfold evRes
  rw [if_pos ⟨by decide, by decide, by decide⟩]
  unfold evAll evList evHead evMid evDig evSign numV numA
  rw [h]
  rfl
set_option maxHeartbeats 4000000 in
set_option maxRecDepth 100000 in
theorem sane_calls (w : World) : Calls Try.prog 15 #[] w fun e w' => e = .returned (.bool true) ∧ Below w.heap.size w w' := by
  have HB := Aside0.mk (Below.refl w.heap.size w)
  have hE := sane_ev
  go_enter Try.func15, Try.ntmps15
  go_wp2_with (first | (go_at_call 10; refine (Events_calls 0 2 false _).mono ?_; rw [sane_ev]; rintro e wv ⟨v1, rfl, hR, hv⟩; obtain ⟨A1, c1, rfl⟩ := Kd.R_slice hR; have HR1 := Aside0.mk hR; have n2_ := Aside0.mk (below_step HB.out hv); clear hR HB hv; have HB := n2_; clear n2_) | ((with_reducible refine gate_dst (N := 17) rfl ?_); (refine gate_guard (by first | rfl | (go_simp; done)) ?_; refine Kd.R_lit k87 _ 87 ?hg (N := 17) ?hd (xs := sane5) (inner := [.int .i64 0, .int .i64 0, .int .i64 1, .int .i64 1, .int .i64 2, .int .i64 0, .int .i64 24, .int .i64 1, .int .i64 22, .int .i64 0]) (ok := fun _ => True) (okp := fun _ => True) ?hr ?hp (fun _ hk => hk) trivial (Below.refl _ _) (Nat.le_refl _) (by decide) ?_; (case hd => rfl); (case hg => rfl); (case hr => first | (go_simp; done) | (go_simp; rfl)); (case hp => exact (Reps.c2 (show Kd.M k87 _ _ _ (⟨0, 0⟩ : S87) [.int .i64 0, .int .i64 0] from (k87_mkM _ _ _ (⟨0, 0⟩ : S87))) (Reps.c2 (show Kd.M k87 _ _ _ (⟨1, 1⟩ : S87) [.int .i64 1, .int .i64 1] from (k87_mkM _ _ _ (⟨1, 1⟩ : S87))) (Reps.c2 (show Kd.M k87 _ _ _ (⟨2, 0⟩ : S87) [.int .i64 2, .int .i64 0] from (k87_mkM _ _ _ (⟨2, 0⟩ : S87))) (Reps.c2 (show Kd.M k87 _ _ _ (⟨24, 1⟩ : S87) [.int .i64 24, .int .i64 1] from (k87_mkM _ _ _ (⟨24, 1⟩ : S87))) (Reps.c2 (show Kd.M k87 _ _ _ (⟨22, 0⟩ : S87) [.int .i64 22, .int .i64 0] from (k87_mkM _ _ _ (⟨22, 0⟩ : S87))) (Reps.none _ _))))))); intro v5 wl ho hb hg_ hnew_; clear hg_ hnew_; obtain ⟨A5, c5, rfl⟩ := Kd.R_slice ho; have HO := Aside0.mk ho; have n1_ := Aside0.mk (Kd.R_below HR1.out hb); have n2_ := Aside0.mk (below_step HB.out hb); clear HB HR1; have HB := n2_; have HR1 := n1_; clear n1_ n2_; clear hb ho)) | (go_at_call 12; (obtain ⟨K5, hK5⟩ := sameEvents_ev sane5 (by decide); refine (incunablelaw03_SameEvents.calls K5 A1 c1 sane5 A5 c5 sane5 _ _ (Kd.R_reads' HR1.out).2.2 (Kd.R_reads' HR1.out).2.1 (Kd.R_reads' HO.out).2.2 (Kd.R_reads' HO.out).2.1 (hK5 K5 (Nat.le_refl _))).mono ?_; rintro e w5 ⟨rfl, m5, rfl⟩)))
  go_ret
  exact ⟨rfl, by repeat (first | (with_reducible first | exact HB.out | apply below_alloc | apply pw_below_drewN | apply below_drew1) | exact HB.out)⟩
end Go.Proofs.Ytlnhahnnjbfjdaa.Sane
namespace Go.Proofs.Ytlnhahnnjbfjdaa.U
open Go.RowKit Go.Proofs.YtlnhahnnjbfjdaaW.PrintWords Go.Proofs.YtlnhahnnjbfjdaaW.PrintLast Go.Proofs.YtlnhahnnjbfjdaaW.PrintMore
attribute [local go_sem] max2_int min2_int max_two min_two max_three min_three max_four min_four   -- for this text's walks alone
def incunableref02_Interval_Mid.f (a0_0 : Int) (a0_1 : Int) (a1 : Int) : Option (Int) := some (IntKind.u64.wrap ((IntKind.u64.wrap (a0_0 + (IntKind.u64.wrap ((IntKind.u64.wrap (Int.tdiv (IntKind.u64.wrap (a0_1 - a0_0)) 4096)) * (IntKind.u64.wrap (a1)))))) + (IntKind.u64.wrap (Int.tdiv (IntKind.u64.wrap ((Int.tmod (IntKind.u64.wrap (a0_1 - a0_0)) 4096) * (IntKind.u64.wrap (a1)))) 4096))))
set_option maxHeartbeats 8000000 in
set_option maxRecDepth 100000 in
theorem incunableref02_Interval_Mid.calls (a0_0 : Int) (a0_1 : Int) (a1 : Int) (r : Int) (w : World) (h : incunableref02_Interval_Mid.f a0_0 a0_1 a1 = some r) :
    Calls Try.prog 78 #[.agg #[.int .u64 a0_0, .int .u64 a0_1], .int .i64 a1] w fun e w' => e = .returned (.int .u64 r) ∧ Below w.heap.size w w' := by
 have hu101 := Try.underlying101; have HB := Aside0.mk (Below.refl w.heap.size w); have H : (some (IntKind.u64.wrap ((IntKind.u64.wrap (a0_0 + (IntKind.u64.wrap ((IntKind.u64.wrap (Int.tdiv (IntKind.u64.wrap (a0_1 - a0_0)) 4096)) * (IntKind.u64.wrap (a1)))))) + (IntKind.u64.wrap (Int.tdiv (IntKind.u64.wrap ((Int.tmod (IntKind.u64.wrap (a0_1 - a0_0)) 4096) * (IntKind.u64.wrap (a1)))) 4096))))) = some r := h; clear h; obtain rfl := Option.some.inj H; go_enter Try.func78, Try.ntmps78
 go_wp2_with (first | ((with_reducible refine gate_dst (N := 2) rfl ?_); refine box_event ?hg (N := 2) ?hd (cs := #[.int .u64 a0_0, .int .u64 a0_1]) (t := 101) ?hr ?_; (case hd => rfl); (case hg => rfl); (case hr => first | (go_simp; done) | (go_simp; rfl)); intro gb226 hg w3 hbox hb; have n0_ := Aside0.mk (below_step (by repeat (first | (with_reducible first | exact HB.out | apply below_alloc | apply pw_below_drewN | apply below_drew1) | exact HB.out)) hb); have n1_ := Aside0.mk (hbox); have n2_ := Aside0.mk ((by rw [hg]; exact (below_size (by repeat (first | (with_reducible first | exact HB.out | apply below_alloc | apply pw_below_drewN | apply below_drew1) | exact HB.out))) : w.heap.size ≤ gb226)); have n3_ := Aside0.mk ((by rw [hg]; exact (below_size (by repeat (first | (with_reducible first | exact HB.out | apply below_alloc | apply pw_below_drewN | apply below_drew1) | exact HB.out))) : w.heap.size ≤ gb226)); clear HB; have HB := n0_; have BK226 := n1_; have GW226 := n2_; have GE226 := n3_; clear n0_ n1_ n2_ n3_; clear hb hbox hg; have hcz4_0 : w3.cell? ⟨gb226, 0, none⟩ = some (.int .u64 a0_0) := (blk_cell BK226.out 0).trans rfl; have hcz4_1 : w3.cell? ⟨gb226, 1, none⟩ = some (.int .u64 a0_1) := (blk_cell BK226.out 1).trans rfl; have hfz4_0 := blk_frozen BK226.out 0; have hfz4_1 := blk_frozen BK226.out 1)); go_ret
 (exact ⟨by first | rfl | (simp [errW_none, errW_some] <;> rfl) | (simp [*, errW_none, errW_some] <;> rfl), by repeat (first | (with_reducible first | exact HB.out | apply below_alloc | apply pw_below_drewN | apply below_drew1 | refine below_set ?_ GE226.out) | exact HB.out)⟩)
end Go.Proofs.Ytlnhahnnjbfjdaa.U
namespace Go.Proofs.Ytlnhahnnjbfjdaa.U
open Go.RowKit Go.Proofs.YtlnhahnnjbfjdaaW.PrintWords Go.Proofs.YtlnhahnnjbfjdaaW.PrintLast Go.Proofs.YtlnhahnnjbfjdaaW.PrintMore
attribute [local go_sem] max2_int min2_int max_two min_two max_three min_three max_four min_four   -- for this text's walks alone
def incunableref02_Interval_Part.f (a0_0 : Int) (a0_1 : Int) (a1 : Int) (a2 : Int) : Option (Int × Int) := if a2 = 1 then ((incunableref02_Interval_Mid.f a0_0 a0_1 a1).bind fun t229 => (some (a0_0, t229))) else ((incunableref02_Interval_Mid.f a0_0 a0_1 a1).bind fun t230 => (some (IntKind.u64.wrap (t230 + 1), a0_1)))
def incunableref02_Interval_Part.T3 : Bool × List (List Nat × List Nat) := (true, [([], []), ([], []), ([0, 1], [0, 1]), ([2], [2]), ([], []), ([4], [4]), ([3, 5], [3, 5]), ([6, 2, 0, 1, 2, 3, 4, 5, 6], [6])])
def incunableref02_Interval_Part.B3 : List Nat := [0, 0, 3, 7, 0, 16, 63, 127]
theorem incunableref02_Interval_Part.tab3 : rtab .any (opsOf Try.f79 3) = incunableref02_Interval_Part.T3 := by kernel_rfl
theorem incunableref02_Interval_Part.bits3 : waitsOk incunableref02_Interval_Part.T3.2 incunableref02_Interval_Part.B3 = true := by kernel_rfl
set_option maxHeartbeats 8000000 in
set_option maxRecDepth 100000 in
theorem incunableref02_Interval_Part.calls (a0_0 : Int) (a0_1 : Int) (a1 : Int) (a2 : Int) (r1 : Int) (r2 : Int) (w : World) (h : incunableref02_Interval_Part.f a0_0 a0_1 a1 a2 = some (r1, r2)) :
    Calls Try.prog 79 #[.agg #[.int .u64 a0_0, .int .u64 a0_1], .int .i64 a1, .int .i64 a2] w fun e w' => e = .returned (.agg #[.int .u64 r1, .int .u64 r2]) ∧ Below w.heap.size w w' := by
 have hu101 := Try.underlying101; have HB := Aside0.mk (Below.refl w.heap.size w); have H : (if a2 = 1 then ((incunableref02_Interval_Mid.f a0_0 a0_1 a1).bind fun t229 => (some (a0_0, t229))) else ((incunableref02_Interval_Mid.f a0_0 a0_1 a1).bind fun t230 => (some (IntKind.u64.wrap (t230 + 1), a0_1)))) = some (r1, r2) := h; clear h; by_cases c4 : a2 = 1
 (· rw [if_pos c4] at H; have c4b0 : (a2 == 1) = true := beq_iff_eq.mpr c4; have c4b1 : (a2 != 1) = false := bne_eq_false_iff_eq.mpr c4; clear c4; replace H := Option.bind_eq_some_iff.mp H; obtain ⟨t229, A50, H⟩ := H; replace H : (some (a0_0, t229)) = some (r1, r2) := H; have A5 := Aside0.mk A50; clear A50; simp only [Option.some.injEq, Prod.mk.injEq] at H; obtain ⟨rfl, rfl⟩ := H; go_enter Try.func79, Try.ntmps79; (try go_wp2_with (first | ((with_reducible refine gate_dst (N := 3) rfl ?_); refine box_event ?hg (N := 3) ?hd (cs := #[.int .u64 a0_0, .int .u64 a0_1]) (t := 101) ?hr ?_; (case hd => rfl); (case hg => rfl); (case hr => first | (go_simp; done) | (go_simp; rfl)); intro gb227 hg w6 hbox hb; have n0_ := Aside0.mk (below_step (by repeat (first | (with_reducible first | exact HB.out | apply below_alloc | apply pw_below_drewN | apply below_drew1) | exact HB.out)) hb); have n1_ := Aside0.mk (hbox); have n2_ := Aside0.mk ((by rw [hg]; exact (below_size (by repeat (first | (with_reducible first | exact HB.out | apply below_alloc | apply pw_below_drewN | apply below_drew1) | exact HB.out))) : w.heap.size ≤ gb227)); have n3_ := Aside0.mk ((by rw [hg]; exact (below_size (by repeat (first | (with_reducible first | exact HB.out | apply below_alloc | apply pw_below_drewN | apply below_drew1) | exact HB.out))) : w.heap.size ≤ gb227)); clear HB; have HB := n0_; have BK227 := n1_; have GW227 := n2_; have GE227 := n3_; clear n0_ n1_ n2_ n3_; clear hb hbox hg) | ((with_reducible refine gate_dst (N := 6) rfl ?_); refine box_event ?hg (N := 6) ?hd (cs := #[.int .u64 0, .int .u64 0]) (t := 101) ?hr ?_; (case hd => rfl); (case hg => rfl); (case hr => first | (go_simp; done) | (go_simp; rfl)); intro gb228 hg w7 hbox hb; have n0_ := Aside0.mk (blk_below (g := gb227) (o := .cells #[.int .u64 a0_0, .int .u64 a0_1] 101 (0, 0)) (by (with_reducible repeat (first | refine blk_drewN ?_ _ | refine blk_drew ?_ | refine blk_alloc ?_ _)); exact BK227.out) hb); have n1_ := Aside0.mk (below_step (by repeat (first | (with_reducible first | exact HB.out | apply below_alloc | apply pw_below_drewN | apply below_drew1 | refine below_set ?_ GE227.out) | exact HB.out)) hb); have n2_ := Aside0.mk (hbox); have n3_ := Aside0.mk ((by rw [hg]; exact (below_size (by repeat (first | (with_reducible first | exact HB.out | apply below_alloc | apply pw_below_drewN | apply below_drew1 | refine below_set ?_ GE227.out) | exact HB.out))) : w.heap.size ≤ gb228)); have n4_ := Aside0.mk ((by rw [hg]; exact (below_size (by repeat (first | (with_reducible first | exact HB.out | apply below_alloc | apply pw_below_drewN | apply below_drew1 | refine below_set ?_ GE227.out) | exact HB.out))) : w.heap.size ≤ gb228)); have n5_ := Aside0.mk ((by rw [hg]; exact Nat.ne_of_lt (blk_lt (g := gb227) (o := .cells #[.int .u64 a0_0, .int .u64 a0_1] 101 (0, 0)) (by (with_reducible repeat (first | refine blk_drewN ?_ _ | refine blk_drew ?_ | refine blk_alloc ?_ _)); exact BK227.out)) : gb227 ≠ gb228)); have n6_ := Aside0.mk ((by rw [hg]; exact Nat.ne_of_gt (blk_lt (g := gb227) (o := .cells #[.int .u64 a0_0, .int .u64 a0_1] 101 (0, 0)) (by (with_reducible repeat (first | refine blk_drewN ?_ _ | refine blk_drew ?_ | refine blk_alloc ?_ _)); exact BK227.out)) : gb228 ≠ gb227)); clear BK227; clear HB; have BK227 := n0_; have HB := n1_; have BK228 := n2_; have GW228 := n3_; have GE228 := n4_; have NB227_228 := n5_; have NB228_227 := n6_; clear n0_ n1_ n2_ n3_ n4_ n5_ n6_; clear hb hbox hg))); have n0_ := Aside0.mk (blk_drew BK227.out); have n1_ := Aside0.mk (blk_drew BK228.out); have n2_ := Aside0.mk (below_drew1 HB.out); clear BK227; clear BK228; clear HB; have BK227 := n0_; have BK228 := n1_; have HB := n2_; clear n0_ n1_ n2_; refine start_ (n := 7) (S := fun w' => w'.cell? ⟨gb227, 0, none⟩ = some (.int .u64 a0_0) ∧ w'.cell? ⟨gb227, 1, none⟩ = some (.int .u64 a0_1)) (ds := []) #[false, false, false, false, false, false, false] (by kernel_rfl) rfl rfl ⟨(blk_cell BK227.out 0).trans rfl, (blk_cell BK227.out 1).trans rfl⟩ (fun hHeld => ?_); generalize w7.drew = w8 at BK227 BK228 HB hHeld ⊢; refine pure_ (i := 0) (N := some 9) (v := ?_) (a' := ?_) #[true, false, false, false, false, false, false] rfl rfl (by kernel_rfl) (fun _ _ _ h => h) (Or.inl ⟨by rfl, ?_⟩) ?_ ?_; rotate_left; (· intro w'; go_simp; (with_reducible rfl)); rotate_left; (· simp only [Act.put, List.setIfInBounds_toArray, List.set_cons_zero, List.set_cons_succ, i64_w, i32_w]; rfl); refine pure_ (i := 3) (N := some 12) (v := ?_) (a' := ?_) #[true, false, false, true, false, false, false] rfl rfl (by kernel_rfl) (fun _ _ _ h => h) (Or.inl ⟨by rfl, ?_⟩) ?_ ?_; rotate_left; (· intro w'; go_simp; (with_reducible rfl)); rotate_left; (· simp only [Act.put, List.setIfInBounds_toArray, List.set_cons_zero, List.set_cons_succ, i64_w, i32_w]; rfl); refine take_ (i := 1) (N := some 10) (v := ?_) (a' := ?_) #[true, true, false, true, false, false, false] rfl rfl (by kernel_rfl) (fun _ _ _ h => h) (Or.inl ⟨by rfl, ?_⟩) hHeld ?_ ?_; rotate_left; (· rintro w' ⟨s0, s1⟩; go_simp; (with_reducible rfl)); rotate_left; (· simp only [Act.put, List.setIfInBounds_toArray, List.set_cons_zero, List.set_cons_succ, i64_w, i32_w]; rfl); refine take_ (i := 2) (N := some 11) (v := ?_) (a' := ?_) #[true, true, true, true, false, false, false] rfl rfl (by kernel_rfl) (fun _ _ _ h => h) (Or.inl ⟨by rfl, ?_⟩) hHeld ?_ ?_; rotate_left; (· rintro w' ⟨s0, s1⟩; go_simp; (with_reducible rfl)); rotate_left; (· simp only [Act.put, List.setIfInBounds_toArray, List.set_cons_zero, List.set_cons_succ, i64_w, i32_w]; rfl); refine one_ (i := 4) (N := some 13) #[true, true, true, true, true, false, false] rfl rfl (by kernel_rfl) (by decide) (fun K hK => ?_); refine goes_ Try.func78 (by kernel_rfl) rfl #[.agg #[.int .u64 a0_0, .int .u64 a0_1], .int .i64 a1] (by rfl) rfl rfl (by (try simp only [List.map_toArray, List.map_cons, List.map_nil]); first | done | rfl | (simp only [List.length_drop, List.length_take]; rfl)) ?_; (with_reducible refine (incunableref02_Interval_Mid.calls a0_0 a0_1 a1 t229 _ A5.out).mono ?_); rintro e w9 ⟨rfl, hb⟩; refine ⟨_, rfl, ?_⟩; have n0_ := Aside0.mk (blk_below (g := gb227) (o := .cells #[.int .u64 a0_0, .int .u64 a0_1] 101 (0, 0)) (by (with_reducible repeat (first | refine blk_drewN ?_ _ | refine blk_drew ?_ | refine blk_alloc ?_ _)); exact BK227.out) hb); have n1_ := Aside0.mk (blk_below (g := gb228) (o := .cells #[.int .u64 0, .int .u64 0] 101 (0, 0)) (by (with_reducible repeat (first | refine blk_drewN ?_ _ | refine blk_drew ?_ | refine blk_alloc ?_ _)); exact BK228.out) hb); have n2_ := Aside0.mk (below_step (by repeat (first | (with_reducible first | exact HB.out | apply below_alloc | apply pw_below_drewN | apply below_drew1 | refine below_set ?_ GE227.out | refine below_set ?_ GE228.out) | exact HB.out)) hb); clear BK227; clear BK228; clear HB; have BK227 := n0_; have BK228 := n1_; have HB := n2_; clear n0_ n1_ n2_; (try clear hb); (try clear hb2); (try clear hk); (try clear hi); refine hK.out _ _ ⟨(blk_cell BK227.out 0).trans rfl, (blk_cell BK227.out 1).trans rfl⟩ (fun hHeld => ?_); clear hK K; refine norm_ (a' := ?_) ?_ ?_; rotate_left; (· show Act.put _ (some 13) _ = _; simp only [Act.put, List.setIfInBounds_toArray, List.set_cons_zero, List.set_cons_succ, i64_w, i32_w]; rfl); refine pure_ (i := 5) (N := some 14) (v := ?_) (a' := ?_) #[true, true, true, true, true, true, false] rfl rfl (by kernel_rfl) (fun _ _ _ h => h) (Or.inl ⟨by rfl, ?_⟩) ?_ ?_; rotate_left; (· intro w'; go_simp; (with_reducible rfl)); rotate_left; (· simp only [Act.put, List.setIfInBounds_toArray, List.set_cons_zero, List.set_cons_succ, i64_w, i32_w]; rfl); refine one_ (i := 6) (N := none) #[true, true, true, true, true, true, true] rfl rfl (by kernel_rfl) (by decide) (fun K hK => ?_); have hs10 : w9.cell? ⟨gb228, 0, none⟩ = some (.int .u64 0) := (blk_cell BK228.out 0).trans rfl; have hfs10 := blk_frozen BK228.out 0; have hns10_0 := NB227_228.out; have hms10_0 := NB228_227.out; have hs11 : w9.cell? ⟨gb228, 1, none⟩ = some (.int .u64 0) := (blk_cell BK228.out 1).trans rfl; have hfs11 := blk_frozen BK228.out 1; have hns11_0 := NB227_228.out; have hms11_0 := NB228_227.out; refine skip_ (w1 := ?_) (by rfl) rfl ?_ ?_; rotate_left; (· go_simp; rfl); refine hK.out _ _ ⟨((cell_far (p := ⟨gb228, _, none⟩) NB227_228.out _).trans (((cell_far (p := ⟨gb228, _, none⟩) NB227_228.out _).trans (hHeld.1)))), ((cell_far (p := ⟨gb228, _, none⟩) NB227_228.out _).trans (((cell_far (p := ⟨gb228, _, none⟩) NB227_228.out _).trans (hHeld.2))))⟩ (fun hHeld => ?_); clear hK K; refine done_ (by kernel_rfl) ?_; (try go_wp2); refine bodyPost_ret (results_cell_row rfl _ _ gb228 101 #[.int .u64 a0_0, .int .u64 t229] (0, 0) _ rfl (by (with_reducible repeat (first | refine blk_drewN ?_ _ | refine blk_drew ?_ | refine blk_alloc ?_ _)); refine blk_put (cs := #[.int .u64 a0_0, .int .u64 0]) ?_ 1 _ rfl; (with_reducible repeat (first | refine blk_drewN ?_ _ | refine blk_drew ?_ | refine blk_alloc ?_ _)); refine blk_put (cs := #[.int .u64 0, .int .u64 0]) ?_ 0 _ rfl; (with_reducible repeat (first | refine blk_drewN ?_ _ | refine blk_drew ?_ | refine blk_alloc ?_ _)); exact BK228.out) Try.underlying101 rfl (by kernel_rfl)) rfl ?_; (exact ⟨by first | rfl | (simp [errW_none, errW_some] <;> rfl) | (simp [*, errW_none, errW_some] <;> rfl), by repeat (first | (with_reducible first | exact HB.out | apply below_alloc | apply pw_below_drewN | apply below_drew1 | refine below_set ?_ GE227.out | refine below_set ?_ GE228.out) | exact HB.out)⟩))
 (· rw [if_neg c4] at H; have c4b0 : (a2 == 1) = false := beq_eq_false_iff_ne.mpr c4; have c4b1 : (a2 != 1) = true := bne_iff_ne.mpr c4; replace H := Option.bind_eq_some_iff.mp H; obtain ⟨t230, A120, H⟩ := H; replace H : (some (IntKind.u64.wrap (t230 + 1), a0_1)) = some (r1, r2) := H; have A12 := Aside0.mk A120; clear A120; simp only [Option.some.injEq, Prod.mk.injEq] at H; obtain ⟨rfl, rfl⟩ := H; go_enter Try.func79, Try.ntmps79; (try go_wp2_with (first | ((with_reducible refine gate_dst (N := 3) rfl ?_); refine box_event ?hg (N := 3) ?hd (cs := #[.int .u64 a0_0, .int .u64 a0_1]) (t := 101) ?hr ?_; (case hd => rfl); (case hg => rfl); (case hr => first | (go_simp; done) | (go_simp; rfl)); intro gb227 hg w13 hbox hb; have n0_ := Aside0.mk (below_step (by repeat (first | (with_reducible first | exact HB.out | apply below_alloc | apply pw_below_drewN | apply below_drew1) | exact HB.out)) hb); have n1_ := Aside0.mk (hbox); have n2_ := Aside0.mk ((by rw [hg]; exact (below_size (by repeat (first | (with_reducible first | exact HB.out | apply below_alloc | apply pw_below_drewN | apply below_drew1) | exact HB.out))) : w.heap.size ≤ gb227)); have n3_ := Aside0.mk ((by rw [hg]; exact (below_size (by repeat (first | (with_reducible first | exact HB.out | apply below_alloc | apply pw_below_drewN | apply below_drew1) | exact HB.out))) : w.heap.size ≤ gb227)); clear HB; have HB := n0_; have BK227 := n1_; have GW227 := n2_; have GE227 := n3_; clear n0_ n1_ n2_ n3_; clear hb hbox hg) | ((with_reducible refine gate_dst (N := 6) rfl ?_); refine box_event ?hg (N := 6) ?hd (cs := #[.int .u64 0, .int .u64 0]) (t := 101) ?hr ?_; (case hd => rfl); (case hg => rfl); (case hr => first | (go_simp; done) | (go_simp; rfl)); intro gb228 hg w14 hbox hb; have n0_ := Aside0.mk (blk_below (g := gb227) (o := .cells #[.int .u64 a0_0, .int .u64 a0_1] 101 (0, 0)) (by (with_reducible repeat (first | refine blk_drewN ?_ _ | refine blk_drew ?_ | refine blk_alloc ?_ _)); exact BK227.out) hb); have n1_ := Aside0.mk (below_step (by repeat (first | (with_reducible first | exact HB.out | apply below_alloc | apply pw_below_drewN | apply below_drew1 | refine below_set ?_ GE227.out) | exact HB.out)) hb); have n2_ := Aside0.mk (hbox); have n3_ := Aside0.mk ((by rw [hg]; exact (below_size (by repeat (first | (with_reducible first | exact HB.out | apply below_alloc | apply pw_below_drewN | apply below_drew1 | refine below_set ?_ GE227.out) | exact HB.out))) : w.heap.size ≤ gb228)); have n4_ := Aside0.mk ((by rw [hg]; exact (below_size (by repeat (first | (with_reducible first | exact HB.out | apply below_alloc | apply pw_below_drewN | apply below_drew1 | refine below_set ?_ GE227.out) | exact HB.out))) : w.heap.size ≤ gb228)); have n5_ := Aside0.mk ((by rw [hg]; exact Nat.ne_of_lt (blk_lt (g := gb227) (o := .cells #[.int .u64 a0_0, .int .u64 a0_1] 101 (0, 0)) (by (with_reducible repeat (first | refine blk_drewN ?_ _ | refine blk_drew ?_ | refine blk_alloc ?_ _)); exact BK227.out)) : gb227 ≠ gb228)); have n6_ := Aside0.mk ((by rw [hg]; exact Nat.ne_of_gt (blk_lt (g := gb227) (o := .cells #[.int .u64 a0_0, .int .u64 a0_1] 101 (0, 0)) (by (with_reducible repeat (first | refine blk_drewN ?_ _ | refine blk_drew ?_ | refine blk_alloc ?_ _)); exact BK227.out)) : gb228 ≠ gb227)); clear BK227; clear HB; have BK227 := n0_; have HB := n1_; have BK228 := n2_; have GW228 := n3_; have GE228 := n4_; have NB227_228 := n5_; have NB228_227 := n6_; clear n0_ n1_ n2_ n3_ n4_ n5_ n6_; clear hb hbox hg))); have n0_ := Aside0.mk (blk_drew BK227.out); have n1_ := Aside0.mk (blk_drew BK228.out); have n2_ := Aside0.mk (below_drew1 HB.out); clear BK227; clear BK228; clear HB; have BK227 := n0_; have BK228 := n1_; have HB := n2_; clear n0_ n1_ n2_; refine start_ (n := 8) (S := fun w' => w'.cell? ⟨gb227, 0, none⟩ = some (.int .u64 a0_0) ∧ w'.cell? ⟨gb227, 1, none⟩ = some (.int .u64 a0_1)) (ds := []) #[false, false, false, false, false, false, false, false] (by kernel_rfl) rfl rfl ⟨(blk_cell BK227.out 0).trans rfl, (blk_cell BK227.out 1).trans rfl⟩ (fun hHeld => ?_); refine with_tabW incunableref02_Interval_Part.tab3 incunableref02_Interval_Part.bits3 (fun HT_ HW_ => ?_); generalize w14.drew = w15 at BK227 BK228 HB hHeld ⊢; refine pure_ (i := 1) (N := some 16) (v := ?_) (a' := ?_) #[false, true, false, false, false, false, false, false] rfl rfl (any_of HT_.out (by kernel_rfl)) (fun _ _ _ h => h) (Or.inl ⟨by rfl, ?_⟩) ?_ ?_; rotate_left; (· intro w'; go_simp; (with_reducible rfl)); rotate_left; (· simp only [Act.put, List.setIfInBounds_toArray, List.set_cons_zero, List.set_cons_succ, i64_w, i32_w]; rfl); refine pure_ (i := 4) (N := some 19) (v := ?_) (a' := ?_) #[false, true, false, false, true, false, false, false] rfl rfl (any_of HT_.out (by kernel_rfl)) (fun _ _ _ h => h) (Or.inl ⟨by rfl, ?_⟩) ?_ ?_; rotate_left; (· intro w'; go_simp; (with_reducible rfl)); rotate_left; (· simp only [Act.put, List.setIfInBounds_toArray, List.set_cons_zero, List.set_cons_succ, i64_w, i32_w]; rfl); refine take_ (i := 0) (N := some 15) (v := ?_) (a' := ?_) #[true, true, false, false, true, false, false, false] rfl rfl (take_ofW HT_.out HW_.out (by kernel_rfl)) (fun _ _ _ h => h) (Or.inl ⟨by rfl, ?_⟩) hHeld ?_ ?_; rotate_left; (· rintro w' ⟨s0, s1⟩; go_simp; (with_reducible rfl)); rotate_left; (· simp only [Act.put, List.setIfInBounds_toArray, List.set_cons_zero, List.set_cons_succ, i64_w, i32_w]; rfl); refine take_ (i := 5) (N := some 20) (v := ?_) (a' := ?_) #[true, true, false, false, true, true, false, false] rfl rfl (take_ofW HT_.out HW_.out (by kernel_rfl)) (fun _ _ _ h => h) (Or.inl ⟨by rfl, ?_⟩) hHeld ?_ ?_; rotate_left; (· rintro w' ⟨s0, s1⟩; go_simp; (with_reducible rfl)); rotate_left; (· simp only [Act.put, List.setIfInBounds_toArray, List.set_cons_zero, List.set_cons_succ, i64_w, i32_w]; rfl); refine one_ (i := 2) (N := some 17) #[true, true, true, false, true, true, false, false] rfl rfl (one_of HT_.out (by kernel_rfl)) (by decide) (fun K hK => ?_); refine goes_ Try.func78 (by kernel_rfl) rfl #[.agg #[.int .u64 a0_0, .int .u64 a0_1], .int .i64 a1] (by rfl) rfl rfl (by (try simp only [List.map_toArray, List.map_cons, List.map_nil]); first | done | rfl | (simp only [List.length_drop, List.length_take]; rfl)) ?_; (with_reducible refine (incunableref02_Interval_Mid.calls a0_0 a0_1 a1 t230 _ A12.out).mono ?_); rintro e w16 ⟨rfl, hb⟩; refine ⟨_, rfl, ?_⟩; have n0_ := Aside0.mk (blk_below (g := gb227) (o := .cells #[.int .u64 a0_0, .int .u64 a0_1] 101 (0, 0)) (by (with_reducible repeat (first | refine blk_drewN ?_ _ | refine blk_drew ?_ | refine blk_alloc ?_ _)); exact BK227.out) hb); have n1_ := Aside0.mk (blk_below (g := gb228) (o := .cells #[.int .u64 0, .int .u64 0] 101 (0, 0)) (by (with_reducible repeat (first | refine blk_drewN ?_ _ | refine blk_drew ?_ | refine blk_alloc ?_ _)); exact BK228.out) hb); have n2_ := Aside0.mk (below_step (by repeat (first | (with_reducible first | exact HB.out | apply below_alloc | apply pw_below_drewN | apply below_drew1 | refine below_set ?_ GE227.out | refine below_set ?_ GE228.out) | exact HB.out)) hb); clear BK227; clear BK228; clear HB; have BK227 := n0_; have BK228 := n1_; have HB := n2_; clear n0_ n1_ n2_; (try clear hb); (try clear hb2); (try clear hk); (try clear hi); refine hK.out _ _ ⟨(blk_cell BK227.out 0).trans rfl, (blk_cell BK227.out 1).trans rfl⟩ (fun hHeld => ?_); clear hK K; refine norm_ (a' := ?_) ?_ ?_; rotate_left; (· show Act.put _ (some 17) _ = _; simp only [Act.put, List.setIfInBounds_toArray, List.set_cons_zero, List.set_cons_succ, i64_w, i32_w]; rfl); refine pure_ (i := 3) (N := some 18) (v := ?_) (a' := ?_) #[true, true, true, true, true, true, false, false] rfl rfl (any_of HT_.out (by kernel_rfl)) (fun _ _ _ h => h) (Or.inl ⟨by rfl, ?_⟩) ?_ ?_; rotate_left; (· intro w'; go_simp; (with_reducible rfl)); rotate_left; (· simp only [Act.put, List.setIfInBounds_toArray, List.set_cons_zero, List.set_cons_succ, i64_w, i32_w]; rfl); refine pure_ (i := 6) (N := some 21) (v := ?_) (a' := ?_) #[true, true, true, true, true, true, true, false] rfl rfl (any_of HT_.out (by kernel_rfl)) (fun _ _ _ h => h) (Or.inl ⟨by rfl, ?_⟩) ?_ ?_; rotate_left; (· intro w'; go_simp; (with_reducible rfl)); rotate_left; (· simp only [Act.put, List.setIfInBounds_toArray, List.set_cons_zero, List.set_cons_succ, i64_w, i32_w]; rfl); refine one_ (i := 7) (N := none) #[true, true, true, true, true, true, true, true] rfl rfl (one_of HT_.out (by kernel_rfl)) (by decide) (fun K hK => ?_); have hs17 : w16.cell? ⟨gb228, 0, none⟩ = some (.int .u64 0) := (blk_cell BK228.out 0).trans rfl; have hfs17 := blk_frozen BK228.out 0; have hns17_0 := NB227_228.out; have hms17_0 := NB228_227.out; have hs18 : w16.cell? ⟨gb228, 1, none⟩ = some (.int .u64 0) := (blk_cell BK228.out 1).trans rfl; have hfs18 := blk_frozen BK228.out 1; have hns18_0 := NB227_228.out; have hms18_0 := NB228_227.out; refine skip_ (w1 := ?_) (by rfl) rfl ?_ ?_; rotate_left; (· go_simp; rfl); refine hK.out _ _ ⟨((cell_far (p := ⟨gb228, _, none⟩) NB227_228.out _).trans (((cell_far (p := ⟨gb228, _, none⟩) NB227_228.out _).trans (hHeld.1)))), ((cell_far (p := ⟨gb228, _, none⟩) NB227_228.out _).trans (((cell_far (p := ⟨gb228, _, none⟩) NB227_228.out _).trans (hHeld.2))))⟩ (fun hHeld => ?_); clear hK K; refine done_ (done_of HT_.out (by kernel_rfl)) ?_; (try go_wp2); refine bodyPost_ret (results_cell_row rfl _ _ gb228 101 #[.int .u64 (IntKind.u64.wrap (t230 + 1)), .int .u64 a0_1] (0, 0) _ rfl (by (with_reducible repeat (first | refine blk_drewN ?_ _ | refine blk_drew ?_ | refine blk_alloc ?_ _)); refine blk_put (cs := #[.int .u64 (IntKind.u64.wrap (t230 + 1)), .int .u64 0]) ?_ 1 _ rfl; (with_reducible repeat (first | refine blk_drewN ?_ _ | refine blk_drew ?_ | refine blk_alloc ?_ _)); refine blk_put (cs := #[.int .u64 0, .int .u64 0]) ?_ 0 _ rfl; (with_reducible repeat (first | refine blk_drewN ?_ _ | refine blk_drew ?_ | refine blk_alloc ?_ _)); exact BK228.out) Try.underlying101 rfl (by kernel_rfl)) rfl ?_; (exact ⟨by first | rfl | (simp [errW_none, errW_some] <;> rfl) | (simp [*, errW_none, errW_some] <;> rfl), by repeat (first | (with_reducible first | exact HB.out | apply below_alloc | apply pw_below_drewN | apply below_drew1 | refine below_set ?_ GE227.out | refine below_set ?_ GE228.out) | exact HB.out)⟩))
end Go.Proofs.Ytlnhahnnjbfjdaa.U
namespace Go.Proofs.Ytlnhahnnjbfjdaa.U
open Go.RowKit Go.Proofs.YtlnhahnnjbfjdaaW.PrintWords Go.Proofs.YtlnhahnnjbfjdaaW.PrintLast Go.Proofs.YtlnhahnnjbfjdaaW.PrintMore
attribute [local go_sem] max2_int min2_int max_two min_two max_three min_three max_four min_four   -- for this text's walks alone
def incunableref02_Interval_Fixed.f (a0_0 : Int) (a0_1 : Int) : Option (Bool) := some ((a0_0 / 16777216) == (a0_1 / 16777216))
set_option maxHeartbeats 8000000 in
set_option maxRecDepth 100000 in
theorem incunableref02_Interval_Fixed.calls (a0_0 : Int) (a0_1 : Int) (r : Bool) (w : World) (h : incunableref02_Interval_Fixed.f a0_0 a0_1 = some r) :
    Calls Try.prog 80 #[.agg #[.int .u64 a0_0, .int .u64 a0_1]] w fun e w' => e = .returned (.bool r) ∧ Below w.heap.size w w' := by
 have hu101 := Try.underlying101; have HB := Aside0.mk (Below.refl w.heap.size w); have H : (some ((a0_0 / 16777216) == (a0_1 / 16777216))) = some r := h; clear h; obtain rfl := Option.some.inj H; go_enter Try.func80, Try.ntmps80
 go_wp2_with (first | ((with_reducible refine gate_dst (N := 1) rfl ?_); refine box_event ?hg (N := 1) ?hd (cs := #[.int .u64 a0_0, .int .u64 a0_1]) (t := 101) ?hr ?_; (case hd => rfl); (case hg => rfl); (case hr => first | (go_simp; done) | (go_simp; rfl)); intro gb231 hg w2 hbox hb; have n0_ := Aside0.mk (below_step (by repeat (first | (with_reducible first | exact HB.out | apply below_alloc | apply pw_below_drewN | apply below_drew1) | exact HB.out)) hb); have n1_ := Aside0.mk (hbox); have n2_ := Aside0.mk ((by rw [hg]; exact (below_size (by repeat (first | (with_reducible first | exact HB.out | apply below_alloc | apply pw_below_drewN | apply below_drew1) | exact HB.out))) : w.heap.size ≤ gb231)); have n3_ := Aside0.mk ((by rw [hg]; exact (below_size (by repeat (first | (with_reducible first | exact HB.out | apply below_alloc | apply pw_below_drewN | apply below_drew1) | exact HB.out))) : w.heap.size ≤ gb231)); clear HB; have HB := n0_; have BK231 := n1_; have GW231 := n2_; have GE231 := n3_; clear n0_ n1_ n2_ n3_; clear hb hbox hg; have hcz3_0 : w2.cell? ⟨gb231, 0, none⟩ = some (.int .u64 a0_0) := (blk_cell BK231.out 0).trans rfl; have hcz3_1 : w2.cell? ⟨gb231, 1, none⟩ = some (.int .u64 a0_1) := (blk_cell BK231.out 1).trans rfl; have hfz3_0 := blk_frozen BK231.out 0; have hfz3_1 := blk_frozen BK231.out 1)); go_ret
 (exact ⟨by first | rfl | (simp [errW_none, errW_some] <;> rfl) | (simp [*, errW_none, errW_some] <;> rfl), by repeat (first | (with_reducible first | exact HB.out | apply below_alloc | apply pw_below_drewN | apply below_drew1 | refine below_set ?_ GE231.out) | exact HB.out)⟩)
end Go.Proofs.Ytlnhahnnjbfjdaa.U
namespace Go.Proofs.Ytlnhahnnjbfjdaa.U
open Go.RowKit Go.Proofs.YtlnhahnnjbfjdaaW.PrintWords Go.Proofs.YtlnhahnnjbfjdaaW.PrintLast Go.Proofs.YtlnhahnnjbfjdaaW.PrintMore
attribute [local go_sem] max2_int min2_int max_two min_two max_three min_three max_four min_four   -- for this text's walks alone
def incunableref02_Interval_Shifted.f (a0_0 : Int) (a0_1 : Int) : Option (Int × Int) := some (IntKind.u64.wrap ((Int.tmod a0_0 16777216) * 256), IntKind.u64.wrap ((IntKind.u64.wrap ((Int.tmod a0_1 16777216) * 256)) + 255))
set_option maxHeartbeats 8000000 in
set_option maxRecDepth 100000 in
theorem incunableref02_Interval_Shifted.calls (a0_0 : Int) (a0_1 : Int) (r1 : Int) (r2 : Int) (w : World) (h : incunableref02_Interval_Shifted.f a0_0 a0_1 = some (r1, r2)) :
    Calls Try.prog 81 #[.agg #[.int .u64 a0_0, .int .u64 a0_1]] w fun e w' => e = .returned (.agg #[.int .u64 r1, .int .u64 r2]) ∧ Below w.heap.size w w' := by
 have hu101 := Try.underlying101; have HB := Aside0.mk (Below.refl w.heap.size w); have H : (some (IntKind.u64.wrap ((Int.tmod a0_0 16777216) * 256), IntKind.u64.wrap ((IntKind.u64.wrap ((Int.tmod a0_1 16777216) * 256)) + 255))) = some (r1, r2) := h; clear h; simp only [Option.some.injEq, Prod.mk.injEq] at H; obtain ⟨rfl, rfl⟩ := H; go_enter Try.func81, Try.ntmps81
 go_wp2_with (first | ((with_reducible refine gate_dst (N := 1) rfl ?_); refine box_event ?hg (N := 1) ?hd (cs := #[.int .u64 a0_0, .int .u64 a0_1]) (t := 101) ?hr ?_; (case hd => rfl); (case hg => rfl); (case hr => first | (go_simp; done) | (go_simp; rfl)); intro gb232 hg w2 hbox hb; have n0_ := Aside0.mk (below_step (by repeat (first | (with_reducible first | exact HB.out | apply below_alloc | apply pw_below_drewN | apply below_drew1) | exact HB.out)) hb); have n1_ := Aside0.mk (hbox); have n2_ := Aside0.mk ((by rw [hg]; exact (below_size (by repeat (first | (with_reducible first | exact HB.out | apply below_alloc | apply pw_below_drewN | apply below_drew1) | exact HB.out))) : w.heap.size ≤ gb232)); have n3_ := Aside0.mk ((by rw [hg]; exact (below_size (by repeat (first | (with_reducible first | exact HB.out | apply below_alloc | apply pw_below_drewN | apply below_drew1) | exact HB.out))) : w.heap.size ≤ gb232)); clear HB; have HB := n0_; have BK232 := n1_; have GW232 := n2_; have GE232 := n3_; clear n0_ n1_ n2_ n3_; clear hb hbox hg) | ((with_reducible refine gate_dst (N := 2) rfl ?_); refine box_event ?hg (N := 2) ?hd (cs := #[.int .u64 0, .int .u64 0]) (t := 101) ?hr ?_; (case hd => rfl); (case hg => rfl); (case hr => first | (go_simp; done) | (go_simp; rfl)); intro gb233 hg w3 hbox hb; have n0_ := Aside0.mk (blk_below (g := gb232) (o := .cells #[.int .u64 a0_0, .int .u64 a0_1] 101 (0, 0)) (by (with_reducible repeat (first | refine blk_drewN ?_ _ | refine blk_drew ?_ | refine blk_alloc ?_ _)); exact BK232.out) hb); have n1_ := Aside0.mk (below_step (by repeat (first | (with_reducible first | exact HB.out | apply below_alloc | apply pw_below_drewN | apply below_drew1 | refine below_set ?_ GE232.out) | exact HB.out)) hb); have n2_ := Aside0.mk (hbox); have n3_ := Aside0.mk ((by rw [hg]; exact (below_size (by repeat (first | (with_reducible first | exact HB.out | apply below_alloc | apply pw_below_drewN | apply below_drew1 | refine below_set ?_ GE232.out) | exact HB.out))) : w.heap.size ≤ gb233)); have n4_ := Aside0.mk ((by rw [hg]; exact (below_size (by repeat (first | (with_reducible first | exact HB.out | apply below_alloc | apply pw_below_drewN | apply below_drew1 | refine below_set ?_ GE232.out) | exact HB.out))) : w.heap.size ≤ gb233)); have n5_ := Aside0.mk ((by rw [hg]; exact Nat.ne_of_lt (blk_lt (g := gb232) (o := .cells #[.int .u64 a0_0, .int .u64 a0_1] 101 (0, 0)) (by (with_reducible repeat (first | refine blk_drewN ?_ _ | refine blk_drew ?_ | refine blk_alloc ?_ _)); exact BK232.out)) : gb232 ≠ gb233)); have n6_ := Aside0.mk ((by rw [hg]; exact Nat.ne_of_gt (blk_lt (g := gb232) (o := .cells #[.int .u64 a0_0, .int .u64 a0_1] 101 (0, 0)) (by (with_reducible repeat (first | refine blk_drewN ?_ _ | refine blk_drew ?_ | refine blk_alloc ?_ _)); exact BK232.out)) : gb233 ≠ gb232)); clear BK232; clear HB; have BK232 := n0_; have HB := n1_; have BK233 := n2_; have GW233 := n3_; have GE233 := n4_; have NB232_233 := n5_; have NB233_232 := n6_; clear n0_ n1_ n2_ n3_ n4_ n5_ n6_; clear hb hbox hg; have hnb4 := NB232_233.out; have hnc4 := NB233_232.out; have hcz5_0 : w3.cell? ⟨gb232, 0, none⟩ = some (.int .u64 a0_0) := (blk_cell BK232.out 0).trans rfl; have hcz5_1 : w3.cell? ⟨gb232, 1, none⟩ = some (.int .u64 a0_1) := (blk_cell BK232.out 1).trans rfl; have hfz5_0 := blk_frozen BK232.out 0; have hfz5_1 := blk_frozen BK232.out 1; have hcz6_0 : w3.cell? ⟨gb233, 0, none⟩ = some (.int .u64 0) := (blk_cell BK233.out 0).trans rfl; have hcz6_1 : w3.cell? ⟨gb233, 1, none⟩ = some (.int .u64 0) := (blk_cell BK233.out 1).trans rfl; have hfz6_0 := blk_frozen BK233.out 0; have hfz6_1 := blk_frozen BK233.out 1))
 refine bodyPost_ret (results_cell_row rfl _ _ gb233 101 #[.int .u64 (IntKind.u64.wrap ((Int.tmod a0_0 16777216) * 256)), .int .u64 (IntKind.u64.wrap ((IntKind.u64.wrap ((Int.tmod a0_1 16777216) * 256)) + 255))] (0, 0) _ rfl (by (with_reducible repeat (first | refine blk_drewN ?_ _ | refine blk_drew ?_ | refine blk_alloc ?_ _)); refine blk_put (cs := #[.int .u64 (IntKind.u64.wrap ((Int.tmod a0_0 16777216) * 256)), .int .u64 0]) ?_ 1 _ rfl; (with_reducible repeat (first | refine blk_drewN ?_ _ | refine blk_drew ?_ | refine blk_alloc ?_ _)); refine blk_put (cs := #[.int .u64 0, .int .u64 0]) ?_ 0 _ rfl; (with_reducible repeat (first | refine blk_drewN ?_ _ | refine blk_drew ?_ | refine blk_alloc ?_ _)); exact BK233.out) Try.underlying101 rfl (by kernel_rfl)) rfl ?_; (exact ⟨by first | rfl | (simp [errW_none, errW_some] <;> rfl) | (simp [*, errW_none, errW_some] <;> rfl), by repeat (first | (with_reducible first | exact HB.out | apply below_alloc | apply pw_below_drewN | apply below_drew1 | refine below_set ?_ GE232.out | refine below_set ?_ GE233.out) | exact HB.out)⟩)
end Go.Proofs.Ytlnhahnnjbfjdaa.U
namespace Go.Proofs.Ytlnhahnnjbfjdaa.U
open Go.RowKit Go.Proofs.YtlnhahnnjbfjdaaW.PrintWords Go.Proofs.YtlnhahnnjbfjdaaW.PrintLast Go.Proofs.YtlnhahnnjbfjdaaW.PrintMore
attribute [local go_sem] max2_int min2_int max_two min_two max_three min_three max_four min_four   -- for this text's walks alone
def incunableref02_Whole.f  : Option (Int × Int) := some (0, 4294967295)
set_option maxHeartbeats 8000000 in
set_option maxRecDepth 100000 in
theorem incunableref02_Whole.calls  (r1 : Int) (r2 : Int) (w : World) (h : incunableref02_Whole.f  = some (r1, r2)) :
    Calls Try.prog 54 #[] w fun e w' => e = .returned (.agg #[.int .u64 r1, .int .u64 r2]) ∧ Below w.heap.size w w' := by
 have hu101 := Try.underlying101; have HB := Aside0.mk (Below.refl w.heap.size w); have H : (some (0, 4294967295)) = some (r1, r2) := h; clear h; simp only [Option.some.injEq, Prod.mk.injEq] at H; obtain ⟨rfl, rfl⟩ := H; go_enter Try.func54, Try.ntmps54
 go_wp2_with (first | ((with_reducible refine gate_dst (N := 0) rfl ?_); refine box_event ?hg (N := 0) ?hd (cs := #[.int .u64 0, .int .u64 0]) (t := 101) ?hr ?_; (case hd => rfl); (case hg => rfl); (case hr => first | (go_simp; done) | (go_simp; rfl)); intro gb217 hg w1 hbox hb; have n0_ := Aside0.mk (below_step (by repeat (first | (with_reducible first | exact HB.out | apply below_alloc | apply pw_below_drewN | apply below_drew1) | exact HB.out)) hb); have n1_ := Aside0.mk (hbox); have n2_ := Aside0.mk ((by rw [hg]; exact (below_size (by repeat (first | (with_reducible first | exact HB.out | apply below_alloc | apply pw_below_drewN | apply below_drew1) | exact HB.out))) : w.heap.size ≤ gb217)); have n3_ := Aside0.mk ((by rw [hg]; exact (below_size (by repeat (first | (with_reducible first | exact HB.out | apply below_alloc | apply pw_below_drewN | apply below_drew1) | exact HB.out))) : w.heap.size ≤ gb217)); clear HB; have HB := n0_; have BK217 := n1_; have GW217 := n2_; have GE217 := n3_; clear n0_ n1_ n2_ n3_; clear hb hbox hg; have hcz2_0 : w1.cell? ⟨gb217, 0, none⟩ = some (.int .u64 0) := (blk_cell BK217.out 0).trans rfl; have hcz2_1 : w1.cell? ⟨gb217, 1, none⟩ = some (.int .u64 0) := (blk_cell BK217.out 1).trans rfl; have hfz2_0 := blk_frozen BK217.out 0; have hfz2_1 := blk_frozen BK217.out 1))
 refine bodyPost_ret (results_cell_row rfl _ _ gb217 101 #[.int .u64 0, .int .u64 4294967295] (0, 0) _ rfl (by (with_reducible repeat (first | refine blk_drewN ?_ _ | refine blk_drew ?_ | refine blk_alloc ?_ _)); refine blk_put (cs := #[.int .u64 0, .int .u64 0]) ?_ 1 _ rfl; (with_reducible repeat (first | refine blk_drewN ?_ _ | refine blk_drew ?_ | refine blk_alloc ?_ _)); refine blk_put (cs := #[.int .u64 0, .int .u64 0]) ?_ 0 _ rfl; (with_reducible repeat (first | refine blk_drewN ?_ _ | refine blk_drew ?_ | refine blk_alloc ?_ _)); exact BK217.out) Try.underlying101 rfl (by kernel_rfl)) rfl ?_; (exact ⟨by first | rfl | (simp [errW_none, errW_some] <;> rfl) | (simp [*, errW_none, errW_some] <;> rfl), by repeat (first | (with_reducible first | exact HB.out | apply below_alloc | apply pw_below_drewN | apply below_drew1 | refine below_set ?_ GE217.out) | exact HB.out)⟩)
end Go.Proofs.Ytlnhahnnjbfjdaa.U
namespace Go.Proofs.Ytlnhahnnjbfjdaa.RefAt
open Go Go.RowKit Go.Proofs.YtlnhahnnjbfjdaaW.PrintWords Go.Proofs.YtlnhahnnjbfjdaaW.PrintLast Go.Proofs.YtlnhahnnjbfjdaaW.PrintMore Go.Proofs.Ytlnhahnnjbfjdaa.Aid Go.Proofs.Ytlnhahnnjbfjdaa.HandAid Go.Proofs.Ytlnhahnnjbfjdaa.Cod1 Go.Proofs.Ytlnhahnnjbfjdaa.Cod2 Go.Proofs.Ytlnhahnnjbfjdaa.Cod3 Go.Proofs.Ytlnhahnnjbfjdaa.Mod Go.Proofs.Ytlnhahnnjbfjdaa.Enc Go.Proofs.Ytlnhahnnjbfjdaa.Mods Go.Proofs.Ytlnhahnnjbfjdaa.EncAt Go.Proofs.Ytlnhahnnjbfjdaa.Put Go.Proofs.Ytlnhahnnjbfjdaa.U
/-- The reference's encoder: its cells. -/
def ref5 (kind : Int) (v : Value) (low high : Int) (o : Value) : Array Value := #[.int .i64 kind, v, .int .u64 low, .int .u64 high, o]
structure RefRow (W : World) (S : Nat → Prop) (g : Nat) (kind : Int) (A : Option Addr) (c : Nat) (st : List Int) (low high : Int) (vo : Value) (out : List Int) : Prop where
  b : W.heap[g]? = some (.cells (ref5 kind (.slice A st.length c) low high vo) 115 (0, 0))
  s : Kd.R (Kd.int .i64) 3 W 0 S (.slice A st.length c) st
  o : Kd.R (Kd.int .u8) 5 W 0 S vo out
  g : S g
section
variable {W W' : World} {S S' : Nat → Prop} {g : Nat} {kind : Int} {A : Option Addr} {c : Nat} {st : List Int} {low high : Int} {vo : Value} {out : List Int}
theorem RefRow.kept (h : RefRow W S g kind A c st low high vo out) (hk : Mods W W' S') (hne : ∀ k, S k → ¬ S' k) : RefRow W' S g kind A c st low high vo out :=
  ⟨blk_kept h.b hk.kept (hne g h.g), Kd.R_kept h.s hk.kept hne, Kd.R_kept h.o hk.kept hne, h.g⟩
theorem RefRow.below (h : RefRow W S g kind A c st low high vo out) (hb : Below W.heap.size W W') : RefRow W' S g kind A c st low high vo out :=
  ⟨blk_below h.b hb, Kd.R_below h.s hb, Kd.R_below h.o hb, h.g⟩
theorem RefRow.drewN (h : RefRow W S g kind A c st low high vo out) (m : Nat) : RefRow (W.drewN m) S g kind A c st low high vo out := h.below (pw_below_drewN (Below.refl _ _) m)
theorem RefRow.drew (h : RefRow W S g kind A c st low high vo out) : RefRow W.drew S g kind A c st low high vo out := h.below (below_drew (Below.refl _ _))
theorem RefRow.mono (h : RefRow W S g kind A c st low high vo out) (hs : ∀ k, S k → S' k) : RefRow W S' g kind A c st low high vo out :=
  ⟨h.b, Kd.R_mono h.s hs, Kd.R_mono h.o hs, hs g h.g⟩
theorem RefRow.bound (h : RefRow W S g kind A c st low high vo out) : RefRow W (fun k => S k ∧ k < W.heap.size) g kind A c st low high vo out :=
  ⟨h.b, Kd.R_mono (Kd.R_bound h.s) (fun _ hk => ⟨hk.1, hk.2.2.1⟩), Kd.R_mono (Kd.R_bound h.o) (fun _ hk => ⟨hk.1, hk.2.2.1⟩), h.g, blk_lt h.b⟩
theorem RefRow.c0 (h : RefRow W S g kind A c st low high vo out) : W.cell? ⟨g, 0, none⟩ = some (.int .i64 kind) := (blk_cell h.b 0).trans rfl
theorem RefRow.c1 (h : RefRow W S g kind A c st low high vo out) : W.cell? ⟨g, 1, none⟩ = some (.slice A st.length c) := (blk_cell h.b 1).trans rfl
theorem RefRow.c2 (h : RefRow W S g kind A c st low high vo out) : W.cell? ⟨g, 2, none⟩ = some (.int .u64 low) := (blk_cell h.b 2).trans rfl
theorem RefRow.c3 (h : RefRow W S g kind A c st low high vo out) : W.cell? ⟨g, 3, none⟩ = some (.int .u64 high) := (blk_cell h.b 3).trans rfl
theorem RefRow.c4 (h : RefRow W S g kind A c st low high vo out) : W.cell? ⟨g, 4, none⟩ = some vo := (blk_cell h.b 4).trans rfl
theorem RefRow.fz (h : RefRow W S g kind A c st low high vo out) (i : Nat) : W.frozen? ⟨g, i, none⟩ = false := blk_frozen h.b i
theorem RefRow.cell (h : RefRow W S g kind A c st low high vo out) {i : Nat} (hi : i < st.length) : ∃ b, A = some ⟨b, 0, none⟩ ∧ W.cell? ⟨b, i, none⟩ = some (.int .i64 (rd st i)) ∧ W.frozen? ⟨b, i, none⟩ = false ∧ b ≠ g := by
  obtain ⟨b, cap, hv, _, _, cells, hc⟩ := Kd.R_form h.s (by omega)
  injection hv with hA _ hcap
  subst hA hcap
  have h1 := Kd.R_cell (0 : Int) h.s (i : Int) (by omega) (by omega)
  have hne : b ≠ g := blk_ne hc h.b (by decide)
  exact ⟨b, rfl, h1.1, h1.2, hne⟩
theorem RefRow.cut (h : RefRow W S g kind A c st low high vo out) (l' h' : Int) : RefRow ((W.setCell ⟨g, 2, none⟩ (.int .u64 l')).setCell ⟨g, 3, none⟩ (.int .u64 h')) S g kind A c st l' h' vo out := by
  have h1 : (W.setCell ⟨g, 2, none⟩ (.int .u64 l')).heap[g]? = some (.cells (ref5 kind (.slice A st.length c) l' high vo) 115 (0, 0)) := blk_put h.b 2 _ rfl
  exact ⟨blk_put h1 3 _ rfl, Kd.R_set (Kd.R_set h.s h.b (by decide) _ _) h1 (by decide) _ _, Kd.R_set (Kd.R_set h.o h.b (by decide) _ _) h1 (by decide) _ _, h.g⟩
theorem RefRow.setst {b : Nat} (h : RefRow W S g kind (some ⟨b, 0, none⟩) c st low high vo out) {i : Nat} (hi : i < st.length) (x : Int) : RefRow (W.setCell ⟨b, i, none⟩ (.int .i64 x)) S g kind (some ⟨b, 0, none⟩) c (st.set i x) low high vo out := by
  obtain ⟨b', hA, _, _, hne⟩ := h.cell hi
  injection hA with hA
  injection hA with hA _ _
  subst hA
  obtain ⟨cells, hty⟩ := Kd.R_typed h.s b (by simp [Value.ownBlock])
  have hp := (Kd.R_put (enc := Value.int .i64) h.s (i : Int) x).1
  rw [Int.toNat_natCast] at hp
  have hl : (st.set i x).length = st.length := List.length_set
  refine ⟨?_, ?_, Kd.R_set h.o hty (by decide) _ _, h.g⟩
  · rw [hl]
    exact blk_far h.b (Ne.symm hne) _
  · rw [hl]
    exact hp
end
def RefAt (W : World) (S : Nat → Prop) (g : Nat) (s : ES) : Prop := ∃ A c vo, RefRow W S g s.kind A c s.st s.low s.high vo s.out
theorem RefAt.kept {W W' : World} {S S' : Nat → Prop} {g : Nat} {s : ES} (h : RefAt W S g s) (hk : Mods W W' S') (hne : ∀ k, S k → ¬ S' k) : RefAt W' S g s := by
  obtain ⟨A, c, vo, h⟩ := h
  exact ⟨A, c, vo, h.kept hk hne⟩
theorem RefAt.below {W W' : World} {S : Nat → Prop} {g : Nat} {s : ES} (h : RefAt W S g s) (hb : Below W.heap.size W W') : RefAt W' S g s := by
  obtain ⟨A, c, vo, h⟩ := h
  exact ⟨A, c, vo, h.below hb⟩
theorem RefAt.mono {W : World} {S S' : Nat → Prop} {g : Nat} {s : ES} (h : RefAt W S g s) (hs : ∀ k, S k → S' k) : RefAt W S' g s := by
  obtain ⟨A, c, vo, h⟩ := h
  exact ⟨A, c, vo, h.mono hs⟩
theorem RefAt.bound {W : World} {S : Nat → Prop} {g : Nat} {s : ES} (h : RefAt W S g s) : RefAt W (fun k => S k ∧ k < W.heap.size) g s := by
  obtain ⟨A, c, vo, h⟩ := h
  exact ⟨A, c, vo, h.bound⟩
theorem u64_id {x : Int} (h : 0 ≤ x) (h' : x < 18446744073709551616) : IntKind.u64.wrap x = x := wraps_u64 x h (by omega)
theorem mid_eq (low high p : Int) (h0 : 0 ≤ low) (h1 : low ≤ high) (h2 : high ≤ 4294967295) (h3 : 1 ≤ p) (h4 : p ≤ 4095) : incunableref02_Interval_Mid.f low high p = some (midOf low high p) := by
  have ha : (high - low) / 4096 * p ≤ (high - low) / 4096 * 4095 := Int.mul_le_mul_of_nonneg_left (by omega) (by omega)
  have hb : (high - low) % 4096 * p ≤ (high - low) % 4096 * 4095 := Int.mul_le_mul_of_nonneg_left (by omega) (by omega)
  have hc : 0 ≤ (high - low) / 4096 * p := Int.mul_nonneg (by omega) (by omega)
  have hd : 0 ≤ (high - low) % 4096 * p := Int.mul_nonneg (by omega) (by omega)
  unfold incunableref02_Interval_Mid.f midOf
  rw [u64_id (x := high - low) (by omega) (by omega), Int.tdiv_eq_ediv_of_nonneg (by omega), Int.tmod_eq_emod_of_nonneg (by omega), u64_id (x := p) (by omega) (by omega), u64_id (x := (high - low) / 4096) (by omega) (by omega), u64_id (x := (high - low) / 4096 * p) hc (by omega), u64_id (x := (high - low) % 4096 * p) hd (by omega), Int.tdiv_eq_ediv_of_nonneg hd, u64_id (x := (high - low) % 4096 * p / 4096) (by omega) (by omega), u64_id (x := low + (high - low) / 4096 * p) (by omega) (by omega), u64_id (by omega) (by omega)]
theorem part_eq (low high p bit : Int) (h0 : 0 ≤ low) (h1 : low ≤ high) (h2 : high ≤ 4294967295) (h3 : 1 ≤ p) (h4 : p ≤ 4095) : incunableref02_Interval_Part.f low high p bit = some (cutL low (midOf low high p) bit, cutH high (midOf low high p) bit) := by
  have hm := mid_range low high p h1 h3 h4
  unfold incunableref02_Interval_Part.f cutL cutH
  rw [mid_eq low high p h0 h1 h2 h3 h4]
  simp only [Option.bind_some]
  by_cases c : bit = 1
  · rw [if_pos c, if_pos c, if_pos c]
  · rw [if_neg c, if_neg c, if_neg c, u64_id (by omega) (by omega)]
theorem part_calls (low high p bit : Int) (w : World) (h0 : 0 ≤ low) (h1 : low ≤ high) (h2 : high ≤ 4294967295) (h3 : 1 ≤ p) (h4 : p ≤ 4095) : Calls Try.prog 79 #[.agg #[.int .u64 low, .int .u64 high], .int .i64 p, .int .i64 bit] w fun e w' => e = .returned (.agg #[.int .u64 (cutL low (midOf low high p) bit), .int .u64 (cutH high (midOf low high p) bit)]) ∧ Below w.heap.size w w' :=
  incunableref02_Interval_Part.calls low high p bit _ _ w (part_eq low high p bit h0 h1 h2 h3 h4)
theorem fixed_calls (low high : Int) (w : World) : Calls Try.prog 80 #[.agg #[.int .u64 low, .int .u64 high]] w fun e w' => e = .returned (.bool (decide (low / 16777216 = high / 16777216))) ∧ Below w.heap.size w w' :=
  incunableref02_Interval_Fixed.calls low high _ w rfl
theorem shift_calls (low high : Int) (w : World) (h0 : 0 ≤ low) (h1 : low ≤ 4294967295) (h2 : 0 ≤ high) (h3 : high ≤ 4294967295) : Calls Try.prog 81 #[.agg #[.int .u64 low, .int .u64 high]] w fun e w' => e = .returned (.agg #[.int .u64 (low % 16777216 * 256), .int .u64 (high % 16777216 * 256 + 255)]) ∧ Below w.heap.size w w' :=
  incunableref02_Interval_Shifted.calls low high _ _ w (by
    unfold incunableref02_Interval_Shifted.f
    rw [Int.tmod_eq_emod_of_nonneg h0, Int.tmod_eq_emod_of_nonneg h2, u64_id (x := low % 16777216 * 256) (by omega) (by omega), u64_id (x := high % 16777216 * 256) (by omega) (by omega), u64_id (by omega) (by omega)])
theorem likelyB (kind s : Int) (w : World) (hs : okState kind s) : Calls Try.prog 77 #[.int .i64 kind, .int .i64 s] w fun e w' => e = .returned (.int .i64 (likely kind s)) ∧ Below w.heap.size w w' :=
  (ref_likely kind s w hs).mono (fun e w' h => ⟨h.1, h.2 ▸ Below.refl _ _⟩)
end Go.Proofs.Ytlnhahnnjbfjdaa.RefAt
namespace Go.Proofs.Ytlnhahnnjbfjdaa.Dec
open Go Go.RowKit Go.Proofs.YtlnhahnnjbfjdaaW.PrintWords Go.Proofs.YtlnhahnnjbfjdaaW.PrintLast Go.Proofs.YtlnhahnnjbfjdaaW.PrintMore Go.Proofs.Ytlnhahnnjbfjdaa.Aid Go.Proofs.Ytlnhahnnjbfjdaa.HandAid Go.Proofs.Ytlnhahnnjbfjdaa.Cod1 Go.Proofs.Ytlnhahnnjbfjdaa.Cod2 Go.Proofs.Ytlnhahnnjbfjdaa.Cod3 Go.Proofs.Ytlnhahnnjbfjdaa.Mod Go.Proofs.Ytlnhahnnjbfjdaa.Enc Go.Proofs.Ytlnhahnnjbfjdaa.Mods Go.Proofs.Ytlnhahnnjbfjdaa.EncAt Go.Proofs.Ytlnhahnnjbfjdaa.Put Go.Proofs.Ytlnhahnnjbfjdaa.End Go.Proofs.Ytlnhahnnjbfjdaa.Snc
theorem u64_orb {x y : Int} (h : 0 ≤ x) (hm : x % 256 = 0) (h' : x < 2 ^ 64) (hy : 0 ≤ y) (hy' : y < 256) : Go.bits .or .u64 x y = x + y := bits_join .u64 64 (by decide) wraps_u64 8 x y h hm h' hy (by omega) (by omega)
/-- A model's copy. -/
def MPost (w : World) (kind : Int) (st : List Int) (e : Ending) (w' : World) : Prop := ∃ A c, e = .returned (.agg #[.int .i64 kind, .slice A st.length c]) ∧ Kd.R (Kd.int .i64) 3 w' w.heap.size (fun _ => True) (.slice A st.length c) st ∧ Below w.heap.size w w'
/-- A decoder's state: how many bytes beyond the code were taken is a's business. -/
structure DS where
  kind : Int
  st : List Int
  low : Int
  high : Int
  code : List Int
  a : Nat
  value : Int
  ended : Bool
/-- A byte of the code, 0 behind its end. -/
def byteOf (code : List Int) (i : Nat) : Int := if i < code.length then rd code i else 0
/-- The value behind n shifts. -/
def shV (code : List Int) : Nat → Int → Nat → Int
  | 0, v, _ => v
  | n + 1, v, a => shV code n (v % 16777216 * 256 + byteOf code a) (a + 1)
structure DS.ok (s : DS) : Prop where
  m : okModel s.kind s.st
  l : 0 ≤ s.low
  lh : s.low ≤ s.high
  h : s.high ≤ 4294967295
  n : s.low / 16777216 ≠ s.high / 16777216
  v0 : 0 ≤ s.value
  v1 : s.value ≤ 4294967295
  by_ : Bytes s.code
  len : s.code.length ≤ 1099511627776
  be : s.a - s.code.length ≤ 4
def DS.mid (s : DS) (i : Nat) : Int := midOf s.low s.high (likely s.kind (rd s.st i))
def DS.bit (s : DS) (i : Nat) : Int := if s.value ≤ s.mid i then 1 else 0
def DS.norm (s : DS) (i : Nat) : List Int × Int × Int := normE 4 (cutL s.low (s.mid i) (s.bit i)) (cutH s.high (s.mid i) (s.bit i))
/-- The state behind a bit that is got. -/
def DS.next (s : DS) (i : Nat) : DS := ⟨s.kind, s.st.set i (after s.kind (rd s.st i) (s.bit i)), (s.norm i).2.1, (s.norm i).2.2, s.code, s.a + (s.norm i).1.length, shV s.code (s.norm i).1.length s.value s.a, false⟩
def DS.dead (s : DS) : DS := { s with ended := true }
/-- Get: the state, the bit, the error. -/
def DS.getI (s : DS) (i : Int) : DS × Int × Int :=
  if 0 ≤ i ∧ i < s.st.length then (if s.ended = true then (s, 0, 6) else if s.a + (s.norm i.toNat).1.length - s.code.length > 4 then (s.dead, 0, 6) else (s.next i.toNat, s.bit i.toNat, 0)) else (s, 0, 2)
theorem byteOf_range {code : List Int} (h : Bytes code) (i : Nat) : 0 ≤ byteOf code i ∧ byteOf code i ≤ 255 := by
  unfold byteOf
  split
  · exact bytes_rd h (by assumption)
  · omega
theorem shV_range {code : List Int} (h : Bytes code) : ∀ (n : Nat) (v : Int) (a : Nat), 0 ≤ v → v ≤ 4294967295 → 0 ≤ shV code n v a ∧ shV code n v a ≤ 4294967295
  | 0, v, a, h0, h1 => ⟨h0, h1⟩
  | n + 1, v, a, h0, h1 => by
    have := byteOf_range h a
    exact shV_range h n _ _ (by omega) (by omega)
theorem shV_succ (code : List Int) : ∀ (n : Nat) (v : Int) (a : Nat), shV code (n + 1) v a = shV code n v a % 16777216 * 256 + byteOf code (a + n)
  | 0, v, a => rfl
  | n + 1, v, a => by
    show shV code (n + 1) (v % 16777216 * 256 + byteOf code a) (a + 1) = _
    rw [shV_succ code n, show a + 1 + n = a + (n + 1) by omega]
    rfl
theorem DS.at_ {s : DS} (h : s.ok) {i : Nat} (hi : i < s.st.length) : okState s.kind (rd s.st i) := h.m.2.2 _ (rd_mem (by omega) (by omega))
theorem DS.mid_ {s : DS} (h : s.ok) {i : Nat} (hi : i < s.st.length) : s.low ≤ s.mid i ∧ s.mid i < s.high := by
  have hr := likely_range _ _ (DS.at_ h hi)
  have hm := mid_range s.low s.high _ h.lh hr.1 hr.2
  have hlt : s.low < s.high := by
    have := h.lh
    rcases Int.lt_or_le s.low s.high with c | c
    · exact c
    · exact absurd (by rw [show s.low = s.high by omega]) h.n
  exact ⟨hm.1, hm.2.1 hlt⟩
theorem DS.cut_ {s : DS} (h : s.ok) {i : Nat} (hi : i < s.st.length) : 0 ≤ cutL s.low (s.mid i) (s.bit i) ∧ cutL s.low (s.mid i) (s.bit i) ≤ cutH s.high (s.mid i) (s.bit i) ∧ cutH s.high (s.mid i) (s.bit i) ≤ 4294967295 := by
  have hm := DS.mid_ h hi
  have := h.l
  have := h.h
  unfold cutL cutH
  split <;> omega
theorem DS.bit_ (s : DS) (i : Nat) : s.bit i = 0 ∨ s.bit i = 1 := by unfold DS.bit; split <;> simp
theorem DS.getI_ok {s : DS} (h : s.ok) (i : Int) : (s.getI i).1.ok := by
  unfold DS.getI
  by_cases c : 0 ≤ i ∧ i < s.st.length
  · rw [if_pos c]
    by_cases e : s.ended = true
    · rw [if_pos e]
      exact h
    rw [if_neg e]
    by_cases b : s.a + (s.norm i.toNat).1.length - s.code.length > 4
    · rw [if_pos b]
      exact ⟨h.m, h.l, h.lh, h.h, h.n, h.v0, h.v1, h.by_, h.len, h.be⟩
    · rw [if_neg b]
      have hi : i.toNat < s.st.length := by omega
      obtain ⟨h0, h1, h2⟩ := DS.cut_ h hi
      have hd := norm_done 4 _ _ h0 h1 h2 (by rw [show (256 : Int) ^ 4 = 4294967296 from rfl]; omega)
      have hv := shV_range h.by_ (s.norm i.toNat).1.length s.value s.a h.v0 h.v1
      refine ⟨⟨h.m.1, ?_, fun x hx => ?_⟩, hd.2.1, hd.2.2.1, hd.2.2.2, hd.1, hv.1, hv.2, h.by_, h.len, by show s.a + (s.norm i.toNat).1.length - s.code.length ≤ 4; omega⟩
      · show (s.st.set _ _).length ≤ 8192
        rw [List.length_set]
        exact h.m.2.1
      · rcases List.mem_or_eq_of_mem_set hx with hx | rfl
        · exact h.m.2.2 x hx
        · exact after_ok _ _ _ (DS.at_ h hi) (DS.bit_ s _)
  · rw [if_neg c]
    exact h
/-- A decoder's cells. -/
def dec42 (kind : Int) (v : Value) (low high : Int) (vc : Value) (a value be : Int) (ended real : Bool) : Array Value := #[.int .i64 kind, v, .int .i64 2048, .int .i64 1792, .int .i64 1568, .int .i64 1372, .int .i64 1201, .int .i64 1051, .int .i64 920, .int .i64 805, .int .i64 705, .int .i64 617, .int .i64 540, .int .i64 473, .int .i64 414, .int .i64 363, .int .i64 318, .int .i64 279, .int .i64 245, .int .i64 215, .int .i64 189, .int .i64 166, .int .i64 146, .int .i64 128, .int .i64 112, .int .i64 98, .int .i64 86, .int .i64 76, .int .i64 67, .int .i64 59, .int .i64 52, .int .i64 46, .int .i64 41, .int .i64 36, .int .u64 low, .int .u64 high, vc, .int .i64 a, .int .u64 value, .int .i64 be, .bool ended, .bool real]
structure DecRow (W : World) (S : Nat → Prop) (g : Nat) (kind : Int) (A : Option Addr) (c : Nat) (st : List Int) (low high : Int) (vc : Value) (code : List Int) (a : Nat) (value : Int) (ended : Bool) : Prop where
  b : W.heap[g]? = some (.cells (dec42 kind (.slice A st.length c) low high vc a value ((a - code.length : Nat) : Int) ended true) 98 (0, 0))
  s : Kd.R (Kd.int .i64) 3 W 0 S (.slice A st.length c) st
  o : Kd.R (Kd.int .u8) 5 W 0 S vc code
  g : S g
section
variable {W W' : World} {S S' : Nat → Prop} {g : Nat} {kind : Int} {A : Option Addr} {c : Nat} {st : List Int} {low high : Int} {vc : Value} {code : List Int} {a : Nat} {value : Int} {ended : Bool}
theorem DecRow.kept (h : DecRow W S g kind A c st low high vc code a value ended) (hk : Mods W W' S') (hne : ∀ k, S k → ¬ S' k) : DecRow W' S g kind A c st low high vc code a value ended :=
  ⟨blk_kept h.b hk.kept (hne g h.g), Kd.R_kept h.s hk.kept hne, Kd.R_kept h.o hk.kept hne, h.g⟩
theorem DecRow.below (h : DecRow W S g kind A c st low high vc code a value ended) (hb : Below W.heap.size W W') : DecRow W' S g kind A c st low high vc code a value ended :=
  ⟨blk_below h.b hb, Kd.R_below h.s hb, Kd.R_below h.o hb, h.g⟩
theorem DecRow.drewN (h : DecRow W S g kind A c st low high vc code a value ended) (m : Nat) : DecRow (W.drewN m) S g kind A c st low high vc code a value ended := h.below (pw_below_drewN (Below.refl _ _) m)
theorem DecRow.drew (h : DecRow W S g kind A c st low high vc code a value ended) : DecRow W.drew S g kind A c st low high vc code a value ended := h.below (below_drew (Below.refl _ _))
theorem DecRow.mono (h : DecRow W S g kind A c st low high vc code a value ended) (hs : ∀ k, S k → S' k) : DecRow W S' g kind A c st low high vc code a value ended :=
  ⟨h.b, Kd.R_mono h.s hs, Kd.R_mono h.o hs, hs g h.g⟩
theorem DecRow.iv (h : DecRow W S g kind A c st low high vc code a value ended) : Iv W g kind A st.length c low high :=
  ⟨(blk_cell h.b 0).trans rfl, (blk_cell h.b 1).trans rfl, range_of (r := [.int .u64 low, .int .u64 high, vc, .int .i64 a, .int .u64 value, .int .i64 ((a - code.length : Nat) : Int), .bool ended, .bool true]) (by rw [qlist]; exact h.b), (blk_cell h.b 34).trans rfl, (blk_cell h.b 35).trans rfl, fun i => blk_frozen h.b i⟩
theorem DecRow.c36 (h : DecRow W S g kind A c st low high vc code a value ended) : W.cell? ⟨g, 36, none⟩ = some vc := (blk_cell h.b 36).trans rfl
theorem DecRow.c37 (h : DecRow W S g kind A c st low high vc code a value ended) : W.cell? ⟨g, 37, none⟩ = some (.int .i64 a) := (blk_cell h.b 37).trans rfl
theorem DecRow.c38 (h : DecRow W S g kind A c st low high vc code a value ended) : W.cell? ⟨g, 38, none⟩ = some (.int .u64 value) := (blk_cell h.b 38).trans rfl
theorem DecRow.c39 (h : DecRow W S g kind A c st low high vc code a value ended) : W.cell? ⟨g, 39, none⟩ = some (.int .i64 ((a - code.length : Nat) : Int)) := (blk_cell h.b 39).trans rfl
theorem DecRow.c40 (h : DecRow W S g kind A c st low high vc code a value ended) : W.cell? ⟨g, 40, none⟩ = some (.bool ended) := (blk_cell h.b 40).trans rfl
theorem DecRow.c41 (h : DecRow W S g kind A c st low high vc code a value ended) : W.cell? ⟨g, 41, none⟩ = some (.bool true) := (blk_cell h.b 41).trans rfl
theorem DecRow.fz (h : DecRow W S g kind A c st low high vc code a value ended) (i : Nat) : W.frozen? ⟨g, i, none⟩ = false := blk_frozen h.b i
theorem DecRow.cell (h : DecRow W S g kind A c st low high vc code a value ended) {i : Nat} (hi : i < st.length) : ∃ b, A = some ⟨b, 0, none⟩ ∧ W.cell? ⟨b, i, none⟩ = some (.int .i64 (rd st i)) ∧ W.frozen? ⟨b, i, none⟩ = false ∧ b ≠ g := by
  obtain ⟨b, cap, hv, _, _, cells, hc⟩ := Kd.R_form h.s (by omega)
  injection hv with hA _ hcap
  subst hA hcap
  have h1 := Kd.R_cell (0 : Int) h.s (i : Int) (by omega) (by omega)
  have hne : b ≠ g := blk_ne hc h.b (by decide)
  exact ⟨b, rfl, h1.1, h1.2, hne⟩
theorem DecRow.put (h : DecRow W S g kind A c st low high vc code a value ended) (j : Nat) (u : Value) {kind' low' high' value' : Int} {a' : Nat} {ended' : Bool} (e : (dec42 kind (.slice A st.length c) low high vc a value ((a - code.length : Nat) : Int) ended true).setIfInBounds j u = dec42 kind' (.slice A st.length c) low' high' vc a' value' ((a' - code.length : Nat) : Int) ended' true) : DecRow (W.setCell ⟨g, j, none⟩ u) S g kind' A c st low' high' vc code a' value' ended' :=
  ⟨blk_put h.b j u e, Kd.R_set h.s h.b (by decide) _ _, Kd.R_set h.o h.b (by decide) _ _, h.g⟩
theorem DecRow.cut (h : DecRow W S g kind A c st low high vc code a value ended) (bit mid : Int) : DecRow (cutW W g bit mid) S g kind A c st (cutL low mid bit) (cutH high mid bit) vc code a value ended := by
  unfold cutW cutL cutH
  split
  · exact h.put 35 _ rfl
  · exact h.put 34 _ rfl
theorem DecRow.lost (h : DecRow W S g kind A c st low high vc code a value ended) (l' h' : Int) : DecRow ((W.setCell ⟨g, 34, none⟩ (.int .u64 l')).setCell ⟨g, 35, none⟩ (.int .u64 h')) S g kind A c st l' h' vc code a value ended :=
  DecRow.put (h.put (low' := l') 34 (.int .u64 l') rfl) 35 _ rfl
theorem DecRow.setst {b : Nat} (h : DecRow W S g kind (some ⟨b, 0, none⟩) c st low high vc code a value ended) {i : Nat} (hi : i < st.length) (x : Int) : DecRow (W.setCell ⟨b, i, none⟩ (.int .i64 x)) S g kind (some ⟨b, 0, none⟩) c (st.set i x) low high vc code a value ended := by
  obtain ⟨b', hA, _, _, hne⟩ := h.cell hi
  injection hA with hA
  injection hA with hA _ _
  subst hA
  obtain ⟨cells, hty⟩ := Kd.R_typed h.s b (by simp [Value.ownBlock])
  have hp := (Kd.R_put (enc := Value.int .i64) h.s (i : Int) x).1
  rw [Int.toNat_natCast] at hp
  have hl : (st.set i x).length = st.length := List.length_set
  refine ⟨?_, ?_, Kd.R_set h.o hty (by decide) _ _, h.g⟩
  · rw [hl]
    exact blk_far h.b (Ne.symm hne) _
  · rw [hl]
    exact hp
/-- A shift, where the code goes on. -/
theorem DecRow.adv (h : DecRow W S g kind A c st low high vc code a value ended) (ha : a < code.length) (v : Int) : DecRow ((W.setCell ⟨g, 37, none⟩ (.int .i64 ((a : Int) + 1))).setCell ⟨g, 38, none⟩ (.int .u64 v)) S g kind A c st low high vc code (a + 1) v ended := by
  have e1 : a + 1 - code.length = a - code.length := by omega
  exact DecRow.put (h.put (a' := a + 1) 37 (.int .i64 ((a : Int) + 1)) (by rw [e1]; rfl)) 38 _ rfl
/-- A shift behind the code's end. -/
theorem DecRow.advB (h : DecRow W S g kind A c st low high vc code a value ended) (ha : ¬ a < code.length) (v : Int) : DecRow (((W.setCell ⟨g, 39, none⟩ (.int .i64 (((a - code.length : Nat) : Int) + 1))).setCell ⟨g, 37, none⟩ (.int .i64 ((a : Int) + 1))).setCell ⟨g, 38, none⟩ (.int .u64 v)) S g kind A c st low high vc code (a + 1) v ended := by
  have e1 : ((a + 1 - code.length : Nat) : Int) = ((a - code.length : Nat) : Int) + 1 := by omega
  have h1 : (W.setCell ⟨g, 39, none⟩ (.int .i64 (((a - code.length : Nat) : Int) + 1))).heap[g]? = some (.cells (dec42 kind (.slice A st.length c) low high vc a value (((a - code.length : Nat) : Int) + 1) ended true) 98 (0, 0)) := blk_put h.b 39 _ rfl
  have h2 := blk_put (cs' := dec42 kind (.slice A st.length c) low high vc ((a : Int) + 1) value (((a - code.length : Nat) : Int) + 1) ended true) h1 37 (.int .i64 ((a : Int) + 1)) rfl
  have h3 := blk_put (cs' := dec42 kind (.slice A st.length c) low high vc ((a : Int) + 1) v (((a - code.length : Nat) : Int) + 1) ended true) h2 38 (.int .u64 v) rfl
  refine ⟨?_, Kd.R_set (Kd.R_set (Kd.R_set h.s h.b (by decide) _ _) h1 (by decide) _ _) h2 (by decide) _ _, Kd.R_set (Kd.R_set (Kd.R_set h.o h.b (by decide) _ _) h1 (by decide) _ _) h2 (by decide) _ _, h.g⟩
  rw [e1]
  exact h3
end
def ShiftPost (w : World) (S : Nat → Prop) (g : Nat) (kind : Int) (A : Option Addr) (c : Nat) (st : List Int) (low high : Int) (vc : Value) (code : List Int) (a : Nat) (value : Int) (ended : Bool) (e : Ending) (w' : World) : Prop :=
  e = .returned (.tuple #[]) ∧ DecRow w' S g kind A c st low high vc code (a + 1) (value % 16777216 * 256 + byteOf code a) ended ∧ Mods w w' S
set_option maxHeartbeats 2000000 in
theorem shift_row (w : World) (S : Nat → Prop) (g : Nat) (kind : Int) (A : Option Addr) (c : Nat) (st : List Int) (low high : Int) (vc : Value) (code : List Int) (a : Nat) (value : Int) (ended : Bool) (hE : DecRow w S g kind A c st low high vc code a value ended) (hv0 : 0 ≤ value) (hv1 : value ≤ 4294967295) (hby : Bytes code) (hlen : code.length ≤ 1099511627776) (ha : a ≤ 2199023255552) :
    Calls Try.prog 51 #[.pointer (some ⟨g, 0, none⟩)] w (ShiftPost w S g kind A c st low high vc code a value ended) := by
  have HE := Aside0.mk hE
  have hSg : S g := hE.g
  obtain ⟨Ac, cc, hvc⟩ := Kd.R_slice hE.o
  subst hvc
  have k36 := hE.c36
  have k37 := hE.c37
  have k38 := hE.c38
  have f37 := hE.fz 37
  have f38 := hE.fz 38
  have f39 := hE.fz 39
  have hbr := byteOf_range hby a
  have e1 : Go.bits .and .u64 (value * 256) 4294967295 = value % 16777216 * 256 := (u64_low32 (x := value * 256) (by omega) (by omega)).trans (by omega)
  by_cases hlt : a < code.length
  · have hb : byteOf code a = rd code a := if_pos hlt
    rw [hb] at hbr
    obtain ⟨ad, hA, hx⟩ := Kd.at_int (Kd.R_reads' hE.o).2.2 (a : Int) (by omega) (by omega)
    subst hA
    rw [Int.toNat_natCast] at hx
    have e2 : Go.bits .or .u64 (value % 16777216 * 256) (rd code a) = value % 16777216 * 256 + rd code a := u64_orb (by omega) (by omega) (by omega) hbr.1 (by omega)
    have hi : (a : Int) < (code.length : Int) := by omega
    have HL := Aside0.mk hlt
    have HBB := Aside0.mk hb
    clear hE hby hb hlt
    go_enter Try.func51, Try.ntmps51
    go_wp2
    go_quiet (fail)
    go_wp2
    go_quiet (fail)
    go_wp2
    go_end0
    refine ⟨rfl, ?_, ?_⟩
    · rw [HBB.out]
      exact (HE.out.adv HL.out _).drewN _
    · exact (((Mods.refl w S).setCell (.inl hSg) _).setCell (.inl hSg) _).drewN _
  · have hb : byteOf code a = 0 := if_neg hlt
    have k39 := hE.c39
    have hi : ¬ (a : Int) < (code.length : Int) := by omega
    obtain ⟨d, hd⟩ : ∃ d : Nat, a - code.length = d := ⟨_, rfl⟩
    rw [hd] at k39
    have hdd : (d : Int) ≤ 2199023255552 := by omega
    have HD := Aside0.mk hd
    have e2 : Go.bits .or .u64 (value % 16777216 * 256) 0 = value % 16777216 * 256 := (u64_orb (x := value % 16777216 * 256) (y := 0) (by omega) (by omega) (by omega) (by omega) (by omega)).trans (by omega)
    have HL := Aside0.mk hlt
    have HBB := Aside0.mk hb
    clear hE hby hb hlt hd hbr
    go_enter Try.func51, Try.ntmps51
    go_wp2
    go_quiet (fail)
    go_wp2
    go_end0
    refine ⟨rfl, ?_, ?_⟩
    · rw [HBB.out, Int.add_zero]
      have h9 := HE.out.advB HL.out (value % 16777216 * 256)
      rw [HD.out] at h9
      exact h9.drewN _
    · exact ((((Mods.refl w S).setCell (.inl hSg) _).setCell (.inl hSg) _).setCell (.inl hSg) _).drewN _
theorem dec_none (w : World) (g : Nat) (real : Bool) (h2 : w.cell? ⟨g, 41, none⟩ = some (.bool real)) : Calls Try.prog 62 #[.pointer (some ⟨g, 0, none⟩)] w fun e w' => e = .returned (.bool (!real)) ∧ w = w' := by
  go_enter Try.func62, Try.ntmps62
  go_wp2
  go_ret
  exact ⟨rfl, rfl⟩
end Go.Proofs.Ytlnhahnnjbfjdaa.Dec
namespace Go.Proofs.Ytlnhahnnjbfjdaa.Get
open Go Go.RowKit Go.Proofs.YtlnhahnnjbfjdaaW.PrintWords Go.Proofs.YtlnhahnnjbfjdaaW.PrintLast Go.Proofs.YtlnhahnnjbfjdaaW.PrintMore Go.Proofs.Ytlnhahnnjbfjdaa.Aid Go.Proofs.Ytlnhahnnjbfjdaa.HandAid Go.Proofs.Ytlnhahnnjbfjdaa.Cod1 Go.Proofs.Ytlnhahnnjbfjdaa.Cod2 Go.Proofs.Ytlnhahnnjbfjdaa.Cod3 Go.Proofs.Ytlnhahnnjbfjdaa.Mod Go.Proofs.Ytlnhahnnjbfjdaa.Enc Go.Proofs.Ytlnhahnnjbfjdaa.Mods Go.Proofs.Ytlnhahnnjbfjdaa.EncAt Go.Proofs.Ytlnhahnnjbfjdaa.Put Go.Proofs.Ytlnhahnnjbfjdaa.End Go.Proofs.Ytlnhahnnjbfjdaa.Snc Go.Proofs.Ytlnhahnnjbfjdaa.Dec
theorem exec_load_row {P : Program} {o : Oper} {a : Act} {w : World} (ty : TypeId) (x : Operand) (ho : o.op = .load ty x)
    (g : Nat) (hx : a.eval x = .pointer (some ⟨g, 0, none⟩)) (t : TypeId) (cs : Array Value) (fr : Nat × Nat) (d : TypeDesc) (hg : w.heap[g]? = some (.cells cs t fr))
    (hu : P.underlying ty = some d) (hd : (match d with | .struct _ | .array _ _ => true | _ => false) = true) (hi : (P.info? ty).map (·.size) = some cs.size) : (execOp a.eval o).run P w = .ok (.value (.agg cs)) w := by
  unfold execOp
  simp only [ho, hx, Instr.loadAt, Instr.sureAddr, Sem.run_bind, Sem.run_pure, Result.andThen_ok, run_loadVar_row w g t ty cs fr d hg hu hd hi]
theorem exec_store_row {P : Program} {o : Oper} {a : Act} {w : World} (ty : TypeId) (x y : Operand) (ho : o.op = .store ty x y)
    (g : Nat) (cells : Array Value) (hx : a.eval x = .pointer (some ⟨g, 0, none⟩)) (hy : a.eval y = .agg cells)
    (t : TypeId) (old : Array Value) (hg : w.heap[g]? = some (.cells old t (0, 0))) (hi : (P.info? ty).map (·.size) = some cells.size)
    (hold : old.size = cells.size) (h1 : cells.all (·.oneCell') = true) : (execOp a.eval o).run P w = .ok .skip (w.setRow g cells) := by
  unfold execOp
  simp only [ho, hx, hy, Instr.storeAt, Instr.sureAddr, Sem.run_bind, Sem.run_pure, Result.andThen_ok, run_storeVar_row w g t ty old cells hg hi hold h1]
theorem info42 {row : Array Value} (h : row.size = 42) : (Try.prog.info? 98).map (·.size) = some row.size := by rw [h]; kernel_rfl
theorem dec42_size (kind : Int) (v : Value) (low high : Int) (vc : Value) (a value be : Int) (ended real : Bool) : (dec42 kind v low high vc a value be ended real).size = 42 := rfl
theorem one42 (kind : Int) (A : Option Addr) (n c : Nat) (low high : Int) (Ac : Option Addr) (nc cc : Nat) (a value be : Int) (ended real : Bool) : (dec42 kind (.slice A n c) low high (.slice Ac nc cc) a value be ended real).all (·.oneCell') = true := by simp [dec42, Value.oneCell']
def z42 : Array Value := #[.int .i64 0, .slice none 0 0, .int .i64 0, .int .i64 0, .int .i64 0, .int .i64 0, .int .i64 0, .int .i64 0, .int .i64 0, .int .i64 0, .int .i64 0, .int .i64 0, .int .i64 0, .int .i64 0, .int .i64 0, .int .i64 0, .int .i64 0, .int .i64 0, .int .i64 0, .int .i64 0, .int .i64 0, .int .i64 0, .int .i64 0, .int .i64 0, .int .i64 0, .int .i64 0, .int .i64 0, .int .i64 0, .int .i64 0, .int .i64 0, .int .i64 0, .int .i64 0, .int .i64 0, .int .i64 0, .int .u64 0, .int .u64 0, .slice none 0 0, .int .i64 0, .int .u64 0, .int .i64 0, .bool false, .bool false]
theorem z42_def : z42 = #[.int .i64 0, .slice none 0 0, .int .i64 0, .int .i64 0, .int .i64 0, .int .i64 0, .int .i64 0, .int .i64 0, .int .i64 0, .int .i64 0, .int .i64 0, .int .i64 0, .int .i64 0, .int .i64 0, .int .i64 0, .int .i64 0, .int .i64 0, .int .i64 0, .int .i64 0, .int .i64 0, .int .i64 0, .int .i64 0, .int .i64 0, .int .i64 0, .int .i64 0, .int .i64 0, .int .i64 0, .int .i64 0, .int .i64 0, .int .i64 0, .int .i64 0, .int .i64 0, .int .i64 0, .int .i64 0, .int .u64 0, .int .u64 0, .slice none 0 0, .int .i64 0, .int .u64 0, .int .i64 0, .bool false, .bool false] := rfl
theorem set_back {st : List Int} {i : Nat} (y : Int) (hi : i < st.length) : (st.set i y).set i (rd st i) = st := by
  rw [List.set_set]
  apply List.ext_getElem?
  intro k
  rw [List.getElem?_set]
  by_cases hk : i = k
  · subst hk
    rw [if_pos rfl, if_pos hi, List.getElem?_eq_getElem hi]
    simp [rd, List.getD_eq_getElem?_getD, List.getElem?_eq_getElem hi]
  · rw [if_neg hk]
theorem setRow_size (W : World) (g : Nat) (cs : Array Value) : (W.setRow g cs).heap.size = W.heap.size := by
  simp [World.setRow]
theorem mods_setRow {w W : World} {S : Nat → Prop} (h : Mods w W S) {g : Nat} (hg : S g) (cs : Array Value) : Mods w (W.setRow g cs) S :=
  h.then_ (S2 := fun k => k = g) ⟨rfl, rfl, rfl, by rw [setRow_size]; exact Nat.le_refl _, fun i _ hn => setRow_other _ _ _ _ hn⟩ (fun k hk => by rw [hk]; exact .inl hg)
theorem dec_setRow {W : World} {S : Nat → Prop} {g : Nat} {kind : Int} {A : Option Addr} {c : Nat} {st : List Int} {low high : Int} {vc : Value} {code : List Int} {a : Nat} {value : Int} {ended : Bool} (h : DecRow W S g kind A c st low high vc code a value ended) {st' : List Int} (hst : st'.length = st.length) (kind' low' high' : Int) (a' : Nat) (value' : Int) (ended' : Bool) : DecRow (W.setRow g (dec42 kind' (.slice A st'.length c) low' high' vc a' value' ((a' - code.length : Nat) : Int) ended' true)) S g kind' A c st low' high' vc code a' value' ended' :=
  ⟨hst ▸ setRow_heap W g _ _ _ _ h.b, Kd.R_mono (Kd.R_step (Kd.R_types h.s h.b (by decide)) fun k hk _ => setRow_other _ _ _ _ hk.2) (fun _ hk => hk.1), Kd.R_mono (Kd.R_step (Kd.R_types h.o h.b (by decide)) fun k hk _ => setRow_other _ _ _ _ hk.2) (fun _ hk => hk.1), h.g⟩
/-- What a Get that takes a bit leaves. -/
def GetPost (w : World) (S : Nat → Prop) (g : Nat) (kind : Int) (b c : Nat) (st : List Int) (low high mid : Int) (vc : Value) (code : List Int) (a : Nat) (value : Int) (i : Nat) (bit : Int) (e : Ending) (w' : World) : Prop :=
  (∃ l h n, normE 4 (cutL low mid bit) (cutH high mid bit) = (n, l, h) ∧ ((a + n.length - code.length > 4 ∧ e = .returned (.tuple #[.int .i64 0, .int .i64 6]) ∧ DecRow w' S g kind (some ⟨b, 0, none⟩) c st low high vc code a value true) ∨ (¬ a + n.length - code.length > 4 ∧ e = .returned (.tuple #[.int .i64 bit, .int .i64 0]) ∧ DecRow w' S g kind (some ⟨b, 0, none⟩) c (st.set i (after kind (rd st i) bit)) l h vc code (a + n.length) (shV code n.length value a) false))) ∧ Mods w w' S
set_option maxHeartbeats 4000000 in
set_option maxRecDepth 100000 in
theorem get_row0 (w : World) (S : Nat → Prop) (g : Nat) (kind : Int) (b c : Nat) (st : List Int) (low high mid : Int) (vc : Value) (code : List Int) (a : Nat) (value : Int) (i : Nat) (hE : DecRow w S g kind (some ⟨b, 0, none⟩) c st low high vc code a value false) (hSb : ∀ k, S k → k < w.heap.size) (hi : i < st.length) (hn : st.length ≤ 8192) (hs : okState kind (rd st i)) (hl0 : 0 ≤ low) (hlh : low ≤ high) (hh : high ≤ 4294967295) (hmid : midOf low high (likely kind (rd st i)) = mid) (hm0 : 0 ≤ mid) (hm1 : mid ≤ 4294967295) (hI0 : PutInv [] (cutL low mid 0) (cutH high mid 0) 4 (cutL low mid 0) (cutH high mid 0) []) (hv0 : 0 ≤ value) (hv1 : value ≤ 4294967295) (hby : Bytes code) (hlen : code.length ≤ 1099511627776) (ha : a - code.length ≤ 4) (hvb : ¬ value ≤ mid) :
    Calls Try.prog 56 #[.pointer (some ⟨g, 0, none⟩), .int .i64 i] w (GetPost w S g kind b c st low high mid vc code a value i 0) := by
  have HE := Aside0.mk hE
  have hSg : S g := hE.g
  obtain ⟨Ac, cc, hvc⟩ := Kd.R_slice hE.o
  subst hvc
  have h2 := hE.c41
  have k40 := hE.c40
  have k1 := hE.iv.s
  have HMID := Aside0.mk (hmid ▸ mid_calls w g kind (some ⟨b, 0, none⟩) st.length c low high i (rd st i) hE.iv ⟨_, rfl, by obtain ⟨b', hA, hc, _⟩ := hE.cell hi; cases hA; rw [add_plain]; exact hc⟩ hi hn hs hl0 hlh hh)
  have HI := Aside0.mk hI0
  have HBY := Aside0.mk hby
  have HSB := Aside0.mk hSb
  clear hE hmid hI0 hby hSb
  have hi1 : (0 : Int) ≤ (i : Int) := by omega
  have hi2 : (i : Int) < (st.length : Int) := by omega
  go_enter Try.func56, Try.ntmps56
  go_wp2_with (first
    | (go_at_call 62; refine (dec_none _ _ _ h2).mono ?_; rintro e w' ⟨rfl, rfl⟩)
    | (go_at_call 73; refine HMID.out.mono ?_; rintro e w3 ⟨rfl, hb3⟩; have HE3 := Aside0.mk (HE.out.below hb3); have HK3 := Aside0.mk ((Mods.refl w S).below hb3); clear hb3; have k38 := HE3.out.c38))
  clear h2 k40 k1 k38
  obtain ⟨row, hrow⟩ : ∃ row, (dec42 kind (.slice (some ⟨b, 0, none⟩) st.length c) low high (.slice Ac code.length cc) a value ((a - code.length : Nat) : Int) false true) = row := ⟨_, rfl⟩
  have hsz : row.size = 42 := by rw [← hrow]; rfl
  have hone : row.all (·.oneCell') = true := by rw [← hrow]; exact one42 _ _ _ _ _ _ _ _ _ _ _ _ _ _
  have p0 : w3.drew.heap[g]? = some (.cells row 98 (0, 0)) := by rw [← hrow]; exact HE3.out.b
  have p1 := HE3.out.drew.iv.s
  have p2 : w3.drew.cell? ⟨b, i, none⟩ = some (.int .i64 (rd st i)) := by
    obtain ⟨b3, hA3, hc3, _⟩ := HE3.out.cell hi
    cases hA3
    exact hc3
  have HROW := Aside0.mk hrow
  have HE3 := Aside0.mk HE3.out.drew
  have HK3 := Aside0.mk HK3.out.drew
  clear hrow
  refine start_ (n := 15) (S := fun w' => w'.heap[g]? = some (.cells row 98 (0, 0)) ∧ w'.cell? ⟨g, 1, none⟩ = some (.slice (some ⟨b, 0, none⟩) st.length c) ∧ w'.cell? ⟨b, i, none⟩ = some (.int .i64 (rd st i))) (ds := []) #[false, false, false, false, false, false, false, false, false, false, false, false, false, false, false] (by kernel_rfl) rfl rfl ⟨p0, p1, p2⟩ (fun hHeld => ?_)
  generalize w3.drew = wd at p0 p1 p2 HE3 HK3 hHeld ⊢
  refine pure_ (i := 0) (N := some 43) (v := ?_) (a' := ?_) #[true, false, false, false, false, false, false, false, false, false, false, false, false, false, false] rfl rfl (by kernel_rfl) (fun _ _ _ h => h) (Or.inl ⟨by rfl, ?_⟩) ?_ ?_
  rotate_left
  · intro w'
    go_simp
    with_reducible rfl
  rotate_left
  · simp only [Act.put, List.setIfInBounds_toArray, List.set_cons_zero, List.set_cons_succ, i64_w, i32_w]
    rfl
  refine pure_ (i := 1) (N := some 44) (v := ?_) (a' := ?_) #[true, true, false, false, false, false, false, false, false, false, false, false, false, false, false] rfl rfl (by kernel_rfl) (fun _ _ _ h => h) (Or.inl ⟨by rfl, ?_⟩) ?_ ?_
  rotate_left
  · intro w'
    go_simp
    with_reducible rfl
  rotate_left
  · simp only [Act.put, List.setIfInBounds_toArray, List.set_cons_zero, List.set_cons_succ, i64_w, i32_w]
    rfl
  refine pure_ (i := 3) (N := some 46) (v := ?_) (a' := ?_) #[true, true, false, true, false, false, false, false, false, false, false, false, false, false, false] rfl rfl (by kernel_rfl) (fun _ _ _ h => h) (Or.inl ⟨by rfl, ?_⟩) ?_ ?_
  rotate_left
  · intro w'
    go_simp
    with_reducible rfl
  rotate_left
  · simp only [Act.put, List.setIfInBounds_toArray, List.set_cons_zero, List.set_cons_succ, i64_w, i32_w]
    rfl
  refine pure_ (i := 4) (N := some 47) (v := ?_) (a' := ?_) #[true, true, false, true, true, false, false, false, false, false, false, false, false, false, false] rfl rfl (by kernel_rfl) (fun _ _ _ h => h) (Or.inl ⟨by rfl, ?_⟩) ?_ ?_
  rotate_left
  · intro w'
    go_simp
    with_reducible rfl
  rotate_left
  · simp only [Act.put, List.setIfInBounds_toArray, List.set_cons_zero, List.set_cons_succ, i64_w, i32_w]
    rfl
  refine pure_ (i := 5) (N := some 48) (v := ?_) (a' := ?_) #[true, true, false, true, true, true, false, false, false, false, false, false, false, false, false] rfl rfl (by kernel_rfl) (fun _ _ _ h => h) (Or.inl ⟨by rfl, ?_⟩) ?_ ?_
  rotate_left
  · intro w'
    go_simp
    with_reducible rfl
  rotate_left
  · simp only [Act.put, List.setIfInBounds_toArray, List.set_cons_zero, List.set_cons_succ, i64_w, i32_w]
    rfl
  refine pure_ (i := 6) (N := some 49) (v := ?_) (a' := ?_) #[true, true, false, true, true, true, true, false, false, false, false, false, false, false, false] rfl rfl (by kernel_rfl) (fun _ _ _ h => h) (Or.inl ⟨by rfl, ?_⟩) ?_ ?_
  rotate_left
  · intro w'
    go_simp
    with_reducible rfl
  rotate_left
  · simp only [Act.put, List.setIfInBounds_toArray, List.set_cons_zero, List.set_cons_succ, i64_w, i32_w]
    rfl
  refine pure_ (i := 7) (N := some 50) (v := ?_) (a' := ?_) #[true, true, false, true, true, true, true, true, false, false, false, false, false, false, false] rfl rfl (by kernel_rfl) (fun _ _ _ h => h) (Or.inl ⟨by rfl, ?_⟩) ?_ ?_
  rotate_left
  · intro w'
    go_simp
    with_reducible rfl
  rotate_left
  · simp only [Act.put, List.setIfInBounds_toArray, List.set_cons_zero, List.set_cons_succ, i64_w, i32_w]
    rfl
  refine pure_ (i := 9) (N := some 52) (v := ?_) (a' := ?_) #[true, true, false, true, true, true, true, true, false, true, false, false, false, false, false] rfl rfl (by kernel_rfl) (fun _ _ _ h => h) (Or.inl ⟨by rfl, ?_⟩) ?_ ?_
  rotate_left
  · intro w'
    go_simp
    with_reducible rfl
  rotate_left
  · simp only [Act.put, List.setIfInBounds_toArray, List.set_cons_zero, List.set_cons_succ, i64_w, i32_w]
    rfl
  refine take_ (i := 2) (N := some 45) (v := ?_) (a' := ?_) #[true, true, true, true, true, true, true, true, false, true, false, false, false, false, false] rfl rfl (by kernel_rfl) (fun _ _ _ h => h) (Or.inl ⟨by rfl, ?_⟩) hHeld ?_ ?_
  rotate_left
  · rintro w' ⟨s0, s1, s2⟩
    refine exec_load_row _ (.tmp 44) ?_ g ?_ 98 row (0, 0) _ s0 Try.underlying98 rfl (info42 hsz)
    · rfl
    · rfl
  rotate_left
  · simp only [Act.put, List.setIfInBounds_toArray, List.set_cons_zero, List.set_cons_succ, i64_w, i32_w]
    rfl
  refine take_ (i := 8) (N := some 51) (v := ?_) (a' := ?_) #[true, true, true, true, true, true, true, true, true, true, false, false, false, false, false] rfl rfl (by kernel_rfl) (fun _ _ _ h => h) (Or.inl ⟨by rfl, ?_⟩) hHeld ?_ ?_
  rotate_left
  · rintro w' ⟨s0, s1, s2⟩
    go_simp
    with_reducible rfl
  rotate_left
  · simp only [Act.put, List.setIfInBounds_toArray, List.set_cons_zero, List.set_cons_succ, i64_w, i32_w]
    rfl
  refine pure_ (i := 10) (N := some 53) (v := ?_) (a' := ?_) #[true, true, true, true, true, true, true, true, true, true, true, false, false, false, false] rfl rfl (by kernel_rfl) (fun _ _ _ h => h) (Or.inl ⟨by rfl, ?_⟩) ?_ ?_
  rotate_left
  · intro w'
    go_simp
    with_reducible rfl
  rotate_left
  · simp only [Act.put, List.setIfInBounds_toArray, List.set_cons_zero, List.set_cons_succ, i64_w, i32_w]
    rfl
  refine take_ (i := 11) (N := some 54) (v := ?_) (a' := ?_) #[true, true, true, true, true, true, true, true, true, true, true, true, false, false, false] rfl rfl (by kernel_rfl) (fun _ _ _ h => h) (Or.inl ⟨by rfl, ?_⟩) hHeld ?_ ?_
  rotate_left
  · rintro w' ⟨s0, s1, s2⟩
    go_simp
    with_reducible rfl
  rotate_left
  · simp only [Act.put, List.setIfInBounds_toArray, List.set_cons_zero, List.set_cons_succ, i64_w, i32_w]
    rfl
  refine one_ (i := 12) (N := some 8) #[true, true, true, true, true, true, true, true, true, true, true, true, true, false, false] rfl rfl (by kernel_rfl) (by decide) (fun K hK => ?_)
  refine value_ (w1 := ?_) (v := ?_) (by rfl) rfl ?_ ?_
  rotate_left 2
  · go_simp
    constructor
    · rfl
    · rfl
  refine hK.out _ _ ⟨blk_alloc p0 _, pw_cell_below (below_alloc (Below.refl _ _) _) p1, pw_cell_below (below_alloc (Below.refl _ _) _) p2⟩ (fun hHeld => ?_)
  clear hK K
  refine norm_ (a' := ?_) ?_ ?_
  rotate_left
  · show Act.put _ (some 8) _ = _
    simp only [Act.put, List.setIfInBounds_toArray, List.set_cons_zero, List.set_cons_succ, i64_w, i32_w]
    rfl
  refine one_ (i := 13) (N := none) #[true, true, true, true, true, true, true, true, true, true, true, true, true, true, false] rfl rfl (by kernel_rfl) (by decide) (fun K hK => ?_)
  refine skip_ (w1 := ?_) (by rfl) rfl ?_ ?_
  rotate_left
  · refine exec_store_row _ (.tmp 8) (.tmp 45) ?_ wd.heap.size row ?_ ?_ 98 _ (heap_new wd _) (info42 hsz) ?_ hone
    · rfl
    · rfl
    · rfl
    · exact hsz.symm
  refine hK.out _ _ ⟨blk_below p0 (below_setRow (below_alloc (Below.refl _ _) _) (Nat.le_refl _) _), pw_cell_below (below_setRow (below_alloc (Below.refl _ _) _) (Nat.le_refl _) _) p1, pw_cell_below (below_setRow (below_alloc (Below.refl _ _) _) (Nat.le_refl _) _) p2⟩ (fun hHeld => ?_)
  clear hK K
  refine pure_ (i := 14) (N := some 9) (v := ?_) (a' := ?_) #[true, true, true, true, true, true, true, true, true, true, true, true, true, true, true] rfl rfl (by kernel_rfl) (fun _ _ _ h => h) (Or.inl ⟨by rfl, ?_⟩) ?_ ?_
  rotate_left
  · intro w'
    go_simp
    with_reducible rfl
  rotate_left
  · simp only [Act.put, List.setIfInBounds_toArray, List.set_cons_zero, List.set_cons_succ, i64_w, i32_w]
    rfl
  refine done_ (by kernel_rfl) ?_
  rw [← z42_def]
  obtain ⟨q, hq⟩ : ∃ q, wd.heap.size = q := ⟨_, rfl⟩
  have HQ0 := Aside0.mk (setRow_heap (wd.alloc (.cells z42 98)) wd.heap.size z42 row 98 (0, 0) (heap_new wd _))
  have HB0 := Aside0.mk (below_setRow (below_alloc (Below.refl wd.heap.size wd) (.cells z42 98)) (Nat.le_refl _) row)
  generalize hW5 : (wd.alloc (.cells z42 98)).setRow wd.heap.size row = w5 at HQ0 HB0 ⊢
  rw [hq] at HQ0 ⊢
  have HE5 := Aside0.mk (HE3.out.below HB0.out)
  have HK5 := Aside0.mk (HK3.out.below HB0.out)
  have HQS := Aside0.mk (show ¬ S q from fun hk => by have h1 := HSB.out q hk; have h2 := HK3.out.size; omega)
  clear hW5 hq HB0 HE3 HK3 p0 p1 p2
  have HT := Aside0.mk (take_calls w5 g kind st.length c low high i (rd st i) mid 0 ⟨b, 0, none⟩ HE5.out.iv)
  go_wp2_with (go_at_call 74; obtain ⟨b3, hA3, hc3, hf3, hne3⟩ := HE5.out.cell hi; cases hA3; refine (HT.out (by rw [add_plain]; exact hc3) (by rw [add_plain]; exact hf3) hne3 hi hn hs (by decide) hm0 hm1).mono ?_; rintro e w4 ⟨rfl, w4', hb4, hw4⟩; rw [add_plain] at hw4; have HE4 := Aside0.mk (show DecRow w4 S g kind (some ⟨b, 0, none⟩) c (st.set i (after kind (rd st i) 0)) (cutL low mid 0) (cutH high mid 0) (.slice Ac code.length cc) code a value false from hw4 ▸ (((HE5.out.cut 0 mid).below (by rw [cutW_size]; exact hb4)).setst hi _)); have hsb : S b := HE5.out.s.1 b (by simp [Value.ownBlock]); have HK4 := Aside0.mk (show Mods w5 w4 S from hw4 ▸ ((((Mods.refl w5 S).then_ (cut_kept 0 mid HE5.out.g) (fun _ h => .inl h)).below (by rw [cutW_size]; exact hb4)).setCell (.inl hsb) _)); clear hb4 hw4 hc3 hf3 hne3)
  clear HT HE5
  obtain ⟨st', hst'⟩ : ∃ st' : List Int, st.set i (after kind (rd st i) 0) = st' := ⟨_, rfl⟩
  have HST := Aside0.mk hst'
  have HSL := Aside0.mk (show st'.length = st.length by rw [← hst']; exact List.length_set)
  rw [hst'] at HE4
  clear hst'
  go_loopg [] 4 (fun d wr => ∃ (l h : Int) (n : List Int), Aside0 (DecRow wr S g kind (some ⟨b, 0, none⟩) c st' l h (.slice Ac code.length cc) code (a + n.length) (shV code n.length value a) false) ∧ Aside0 (Mods w5 wr S) ∧ Aside0 (PutInv [] (cutL low mid 0) (cutH high mid 0) d l h n))
  case atStart => exact ⟨_, _, [], HE4, HK4, HI⟩
  clear HE4 HK4 HI
  case round =>
    obtain ⟨l, h, n, HE6, HK6, HP⟩ := hrel
    have hp0 := HP.out.l0
    have hp1 := HP.out.lh
    have hp2 := HP.out.h0
    have hp3 := HP.out.len
    rw [List.length_nil] at hp3
    have hs6 := same_calls wr g l h HE6.out.iv.l HE6.out.iv.h hp0 (by omega)
    by_cases cx : l / 16777216 = h / 16777216
    · rw [decide_eq_true cx] at hs6
      have HSA := Aside0.mk hs6
      clear hs6
      obtain ⟨d', hd', hP'⟩ := HP.out.step cx
      have HP' := Aside0.mk hP'
      have HD := Aside0.mk hd'
      have hv := shV_range HBY.out n.length value a hv0 hv1
      have HV := Aside0.mk hv
      have hap : a + n.length ≤ 2199023255552 := by omega
      clear hd' hP' cx hv
      go_wp2_with (first
        | (go_at_call 75; refine HSA.out.mono ?_; rintro e w6 ⟨rfl, m6, hw6⟩; have HE7 := Aside0.mk (show DecRow w6 S g kind (some ⟨b, 0, none⟩) c st' l h (.slice Ac code.length cc) code (a + n.length) (shV code n.length value a) false from hw6 ▸ HE6.out.drewN m6); have HK7 := Aside0.mk (show Mods w5 w6 S from hw6 ▸ HK6.out.drewN m6); clear hw6; have HLO := Aside0.mk (lose_calls w6 g l h HE7.out.iv.l HE7.out.iv.h HE7.out.iv.f hp0 (by omega) (by omega) hp2))
        | (go_at_call 76; refine HLO.out.mono ?_; rintro e w7 ⟨rfl, hw7⟩; have HE8 := Aside0.mk (show DecRow w7 S g kind (some ⟨b, 0, none⟩) c st' (l % 16777216 * 256) (h % 16777216 * 256 + 255) (.slice Ac code.length cc) code (a + n.length) (shV code n.length value a) false from hw7 ▸ HE7.out.lost _ _); have HK8 := Aside0.mk (show Mods w5 w7 S from hw7 ▸ ((HK7.out.setCell (.inl hSg) _).setCell (.inl hSg) _)); clear hw7)
        | (go_at_call 51; refine (shift_row _ S g kind _ c st' _ _ _ code _ _ false HE8.out HV.out.1 HV.out.2 HBY.out hlen hap).mono ?_; rintro e w8 ⟨rfl, hE9, hK9⟩; have HE9 := Aside0.mk hE9; have HK9 := Aside0.mk (HK8.out.then_ hK9 (fun _ h => .inl h)); clear hE9 hK9))
      go_roundg d'
      case measure => have := HD.out; omega
      case rel =>
        refine ⟨_, _, _, ⟨?_⟩, HK9, HP'⟩
        have h9 := HE9.out
        rw [← shV_succ] at h9
        rw [List.length_append, List.length_cons, List.length_nil, Nat.zero_add]
        exact h9
    · rw [decide_eq_false cx] at hs6
      have HSA := Aside0.mk hs6
      clear hs6
      have HCC := Aside0.mk (HP.out.done cx)
      clear cx
      obtain ⟨be, hbe⟩ : ∃ be : Nat, a + n.length - code.length = be := ⟨_, rfl⟩
      have HBE := Aside0.mk hbe
      clear hbe
      have HN := Aside0.mk (show normE 4 (cutL low mid 0) (cutH high mid 0) = (n, l, h) from by
        have h1 := HCC.out
        rw [List.nil_append] at h1
        exact Prod.ext h1.1.symm h1.2)
      by_cases hb4 : (be : Int) > 4
      · have HB4 := Aside0.mk hb4
        go_wp2_with (first
          | (go_at_call 75; refine HSA.out.mono ?_; rintro e w6 ⟨rfl, m6, hw6⟩; have HE7 := Aside0.mk (show DecRow w6 S g kind (some ⟨b, 0, none⟩) c st' l h (.slice Ac code.length cc) code (a + n.length) (shV code n.length value a) false from hw6 ▸ HE6.out.drewN m6); have HK7 := Aside0.mk (show Mods w5 w6 S from hw6 ▸ HK6.out.drewN m6); clear hw6; have k39 := HE7.out.c39; rw [HBE.out] at k39; have HQ7 := Aside0.mk (blk_mods HQ0.out HK7.out HQS.out))
          | (with_reducible refine wpList_load_row rfl _ _ rfl _ rfl _ _ _ _ HQ7.out Try.underlying98 rfl (info42 hsz) ?_)
          | (with_reducible refine wpList_store_row rfl _ _ _ rfl _ row rfl rfl _ _ HE7.out.b (info42 hsz) ((dec42_size _ _ _ _ _ _ _ _ _ _).trans hsz.symm) hone ?_; have HE8 := Aside0.mk (show DecRow (w6.setRow g row) S g kind (some ⟨b, 0, none⟩) c st' low high (.slice Ac code.length cc) code a value false from HROW.out ▸ dec_setRow (st' := st) HE7.out HSL.out.symm kind low high a value false); have HK8 := Aside0.mk (mods_setRow HK7.out hSg row); generalize w6.setRow g row = w8 at HE8 HK8 ⊢; have q1 := HE8.out.iv.s; rw [HSL.out] at q1; obtain ⟨b8, hA8, q2, q3, q4⟩ := HE8.out.cell (i := i) (by rw [HSL.out]; exact hi); cases hA8; have q5 := HE8.out.fz 40; have q6 := HE8.out.c40))
        go_ret2
        refine ⟨⟨l, h, n, HN.out, .inl ⟨by rw [HBE.out]; have := HB4.out; omega, rfl, ?_⟩⟩, (HK5.out.then_ HK8.out (fun _ h => .inl h)).setCell (.inl (HE8.out.s.1 b (by simp [Value.ownBlock]))) _ |>.setCell (.inl hSg) _⟩
        have h9 := HE8.out.setst (i := i) (by rw [HSL.out]; exact hi) (rd st i)
        rw [← HST.out, set_back _ hi] at h9
        exact h9.put 40 (.bool true) rfl
      · have HB4 := Aside0.mk hb4
        go_wp2_with (go_at_call 75; refine HSA.out.mono ?_; rintro e w6 ⟨rfl, m6, hw6⟩; have HE7 := Aside0.mk (show DecRow w6 S g kind (some ⟨b, 0, none⟩) c st' l h (.slice Ac code.length cc) code (a + n.length) (shV code n.length value a) false from hw6 ▸ HE6.out.drewN m6); have HK7 := Aside0.mk (show Mods w5 w6 S from hw6 ▸ HK6.out.drewN m6); clear hw6; have k39 := HE7.out.c39; rw [HBE.out] at k39)
        go_ret2
        refine ⟨⟨l, h, n, HN.out, .inr ⟨by rw [HBE.out]; have := HB4.out; omega, rfl, ?_⟩⟩, HK5.out.then_ HK7.out (fun _ h => .inl h)⟩
        rw [HST.out]
        exact HE7.out
set_option maxHeartbeats 4000000 in
set_option maxRecDepth 100000 in
theorem get_row1 (w : World) (S : Nat → Prop) (g : Nat) (kind : Int) (b c : Nat) (st : List Int) (low high mid : Int) (vc : Value) (code : List Int) (a : Nat) (value : Int) (i : Nat) (hE : DecRow w S g kind (some ⟨b, 0, none⟩) c st low high vc code a value false) (hSb : ∀ k, S k → k < w.heap.size) (hi : i < st.length) (hn : st.length ≤ 8192) (hs : okState kind (rd st i)) (hl0 : 0 ≤ low) (hlh : low ≤ high) (hh : high ≤ 4294967295) (hmid : midOf low high (likely kind (rd st i)) = mid) (hm0 : 0 ≤ mid) (hm1 : mid ≤ 4294967295) (hI0 : PutInv [] (cutL low mid 1) (cutH high mid 1) 4 (cutL low mid 1) (cutH high mid 1) []) (hv0 : 0 ≤ value) (hv1 : value ≤ 4294967295) (hby : Bytes code) (hlen : code.length ≤ 1099511627776) (ha : a - code.length ≤ 4) (hvb : value ≤ mid) :
    Calls Try.prog 56 #[.pointer (some ⟨g, 0, none⟩), .int .i64 i] w (GetPost w S g kind b c st low high mid vc code a value i 1) := by
  have HE := Aside0.mk hE
  have hSg : S g := hE.g
  obtain ⟨Ac, cc, hvc⟩ := Kd.R_slice hE.o
  subst hvc
  have h2 := hE.c41
  have k40 := hE.c40
  have k1 := hE.iv.s
  have HMID := Aside0.mk (hmid ▸ mid_calls w g kind (some ⟨b, 0, none⟩) st.length c low high i (rd st i) hE.iv ⟨_, rfl, by obtain ⟨b', hA, hc, _⟩ := hE.cell hi; cases hA; rw [add_plain]; exact hc⟩ hi hn hs hl0 hlh hh)
  have HI := Aside0.mk hI0
  have HBY := Aside0.mk hby
  have HSB := Aside0.mk hSb
  clear hE hmid hI0 hby hSb
  have hi1 : (0 : Int) ≤ (i : Int) := by omega
  have hi2 : (i : Int) < (st.length : Int) := by omega
  go_enter Try.func56, Try.ntmps56
  go_wp2_with (first
    | (go_at_call 62; refine (dec_none _ _ _ h2).mono ?_; rintro e w' ⟨rfl, rfl⟩)
    | (go_at_call 73; refine HMID.out.mono ?_; rintro e w3 ⟨rfl, hb3⟩; have HE3 := Aside0.mk (HE.out.below hb3); have HK3 := Aside0.mk ((Mods.refl w S).below hb3); clear hb3; have k38 := HE3.out.c38))
  clear h2 k40 k1 k38
  obtain ⟨row, hrow⟩ : ∃ row, (dec42 kind (.slice (some ⟨b, 0, none⟩) st.length c) low high (.slice Ac code.length cc) a value ((a - code.length : Nat) : Int) false true) = row := ⟨_, rfl⟩
  have hsz : row.size = 42 := by rw [← hrow]; rfl
  have hone : row.all (·.oneCell') = true := by rw [← hrow]; exact one42 _ _ _ _ _ _ _ _ _ _ _ _ _ _
  have p0 : w3.drew.heap[g]? = some (.cells row 98 (0, 0)) := by rw [← hrow]; exact HE3.out.b
  have p1 := HE3.out.drew.iv.s
  have p2 : w3.drew.cell? ⟨b, i, none⟩ = some (.int .i64 (rd st i)) := by
    obtain ⟨b3, hA3, hc3, _⟩ := HE3.out.cell hi
    cases hA3
    exact hc3
  have HROW := Aside0.mk hrow
  have HE3 := Aside0.mk HE3.out.drew
  have HK3 := Aside0.mk HK3.out.drew
  clear hrow
  refine start_ (n := 15) (S := fun w' => w'.heap[g]? = some (.cells row 98 (0, 0)) ∧ w'.cell? ⟨g, 1, none⟩ = some (.slice (some ⟨b, 0, none⟩) st.length c) ∧ w'.cell? ⟨b, i, none⟩ = some (.int .i64 (rd st i))) (ds := []) #[false, false, false, false, false, false, false, false, false, false, false, false, false, false, false] (by kernel_rfl) rfl rfl ⟨p0, p1, p2⟩ (fun hHeld => ?_)
  generalize w3.drew = wd at p0 p1 p2 HE3 HK3 hHeld ⊢
  refine pure_ (i := 0) (N := some 43) (v := ?_) (a' := ?_) #[true, false, false, false, false, false, false, false, false, false, false, false, false, false, false] rfl rfl (by kernel_rfl) (fun _ _ _ h => h) (Or.inl ⟨by rfl, ?_⟩) ?_ ?_
  rotate_left
  · intro w'
    go_simp
    with_reducible rfl
  rotate_left
  · simp only [Act.put, List.setIfInBounds_toArray, List.set_cons_zero, List.set_cons_succ, i64_w, i32_w]
    rfl
  refine pure_ (i := 1) (N := some 44) (v := ?_) (a' := ?_) #[true, true, false, false, false, false, false, false, false, false, false, false, false, false, false] rfl rfl (by kernel_rfl) (fun _ _ _ h => h) (Or.inl ⟨by rfl, ?_⟩) ?_ ?_
  rotate_left
  · intro w'
    go_simp
    with_reducible rfl
  rotate_left
  · simp only [Act.put, List.setIfInBounds_toArray, List.set_cons_zero, List.set_cons_succ, i64_w, i32_w]
    rfl
  refine pure_ (i := 3) (N := some 46) (v := ?_) (a' := ?_) #[true, true, false, true, false, false, false, false, false, false, false, false, false, false, false] rfl rfl (by kernel_rfl) (fun _ _ _ h => h) (Or.inl ⟨by rfl, ?_⟩) ?_ ?_
  rotate_left
  · intro w'
    go_simp
    with_reducible rfl
  rotate_left
  · simp only [Act.put, List.setIfInBounds_toArray, List.set_cons_zero, List.set_cons_succ, i64_w, i32_w]
    rfl
  refine pure_ (i := 4) (N := some 47) (v := ?_) (a' := ?_) #[true, true, false, true, true, false, false, false, false, false, false, false, false, false, false] rfl rfl (by kernel_rfl) (fun _ _ _ h => h) (Or.inl ⟨by rfl, ?_⟩) ?_ ?_
  rotate_left
  · intro w'
    go_simp
    with_reducible rfl
  rotate_left
  · simp only [Act.put, List.setIfInBounds_toArray, List.set_cons_zero, List.set_cons_succ, i64_w, i32_w]
    rfl
  refine pure_ (i := 5) (N := some 48) (v := ?_) (a' := ?_) #[true, true, false, true, true, true, false, false, false, false, false, false, false, false, false] rfl rfl (by kernel_rfl) (fun _ _ _ h => h) (Or.inl ⟨by rfl, ?_⟩) ?_ ?_
  rotate_left
  · intro w'
    go_simp
    with_reducible rfl
  rotate_left
  · simp only [Act.put, List.setIfInBounds_toArray, List.set_cons_zero, List.set_cons_succ, i64_w, i32_w]
    rfl
  refine pure_ (i := 6) (N := some 49) (v := ?_) (a' := ?_) #[true, true, false, true, true, true, true, false, false, false, false, false, false, false, false] rfl rfl (by kernel_rfl) (fun _ _ _ h => h) (Or.inl ⟨by rfl, ?_⟩) ?_ ?_
  rotate_left
  · intro w'
    go_simp
    with_reducible rfl
  rotate_left
  · simp only [Act.put, List.setIfInBounds_toArray, List.set_cons_zero, List.set_cons_succ, i64_w, i32_w]
    rfl
  refine pure_ (i := 7) (N := some 50) (v := ?_) (a' := ?_) #[true, true, false, true, true, true, true, true, false, false, false, false, false, false, false] rfl rfl (by kernel_rfl) (fun _ _ _ h => h) (Or.inl ⟨by rfl, ?_⟩) ?_ ?_
  rotate_left
  · intro w'
    go_simp
    with_reducible rfl
  rotate_left
  · simp only [Act.put, List.setIfInBounds_toArray, List.set_cons_zero, List.set_cons_succ, i64_w, i32_w]
    rfl
  refine pure_ (i := 9) (N := some 52) (v := ?_) (a' := ?_) #[true, true, false, true, true, true, true, true, false, true, false, false, false, false, false] rfl rfl (by kernel_rfl) (fun _ _ _ h => h) (Or.inl ⟨by rfl, ?_⟩) ?_ ?_
  rotate_left
  · intro w'
    go_simp
    with_reducible rfl
  rotate_left
  · simp only [Act.put, List.setIfInBounds_toArray, List.set_cons_zero, List.set_cons_succ, i64_w, i32_w]
    rfl
  refine take_ (i := 2) (N := some 45) (v := ?_) (a' := ?_) #[true, true, true, true, true, true, true, true, false, true, false, false, false, false, false] rfl rfl (by kernel_rfl) (fun _ _ _ h => h) (Or.inl ⟨by rfl, ?_⟩) hHeld ?_ ?_
  rotate_left
  · rintro w' ⟨s0, s1, s2⟩
    refine exec_load_row _ (.tmp 44) ?_ g ?_ 98 row (0, 0) _ s0 Try.underlying98 rfl (info42 hsz)
    · rfl
    · rfl
  rotate_left
  · simp only [Act.put, List.setIfInBounds_toArray, List.set_cons_zero, List.set_cons_succ, i64_w, i32_w]
    rfl
  refine take_ (i := 8) (N := some 51) (v := ?_) (a' := ?_) #[true, true, true, true, true, true, true, true, true, true, false, false, false, false, false] rfl rfl (by kernel_rfl) (fun _ _ _ h => h) (Or.inl ⟨by rfl, ?_⟩) hHeld ?_ ?_
  rotate_left
  · rintro w' ⟨s0, s1, s2⟩
    go_simp
    with_reducible rfl
  rotate_left
  · simp only [Act.put, List.setIfInBounds_toArray, List.set_cons_zero, List.set_cons_succ, i64_w, i32_w]
    rfl
  refine pure_ (i := 10) (N := some 53) (v := ?_) (a' := ?_) #[true, true, true, true, true, true, true, true, true, true, true, false, false, false, false] rfl rfl (by kernel_rfl) (fun _ _ _ h => h) (Or.inl ⟨by rfl, ?_⟩) ?_ ?_
  rotate_left
  · intro w'
    go_simp
    with_reducible rfl
  rotate_left
  · simp only [Act.put, List.setIfInBounds_toArray, List.set_cons_zero, List.set_cons_succ, i64_w, i32_w]
    rfl
  refine take_ (i := 11) (N := some 54) (v := ?_) (a' := ?_) #[true, true, true, true, true, true, true, true, true, true, true, true, false, false, false] rfl rfl (by kernel_rfl) (fun _ _ _ h => h) (Or.inl ⟨by rfl, ?_⟩) hHeld ?_ ?_
  rotate_left
  · rintro w' ⟨s0, s1, s2⟩
    go_simp
    with_reducible rfl
  rotate_left
  · simp only [Act.put, List.setIfInBounds_toArray, List.set_cons_zero, List.set_cons_succ, i64_w, i32_w]
    rfl
  refine one_ (i := 12) (N := some 8) #[true, true, true, true, true, true, true, true, true, true, true, true, true, false, false] rfl rfl (by kernel_rfl) (by decide) (fun K hK => ?_)
  refine value_ (w1 := ?_) (v := ?_) (by rfl) rfl ?_ ?_
  rotate_left 2
  · go_simp
    constructor
    · rfl
    · rfl
  refine hK.out _ _ ⟨blk_alloc p0 _, pw_cell_below (below_alloc (Below.refl _ _) _) p1, pw_cell_below (below_alloc (Below.refl _ _) _) p2⟩ (fun hHeld => ?_)
  clear hK K
  refine norm_ (a' := ?_) ?_ ?_
  rotate_left
  · show Act.put _ (some 8) _ = _
    simp only [Act.put, List.setIfInBounds_toArray, List.set_cons_zero, List.set_cons_succ, i64_w, i32_w]
    rfl
  refine one_ (i := 13) (N := none) #[true, true, true, true, true, true, true, true, true, true, true, true, true, true, false] rfl rfl (by kernel_rfl) (by decide) (fun K hK => ?_)
  refine skip_ (w1 := ?_) (by rfl) rfl ?_ ?_
  rotate_left
  · refine exec_store_row _ (.tmp 8) (.tmp 45) ?_ wd.heap.size row ?_ ?_ 98 _ (heap_new wd _) (info42 hsz) ?_ hone
    · rfl
    · rfl
    · rfl
    · exact hsz.symm
  refine hK.out _ _ ⟨blk_below p0 (below_setRow (below_alloc (Below.refl _ _) _) (Nat.le_refl _) _), pw_cell_below (below_setRow (below_alloc (Below.refl _ _) _) (Nat.le_refl _) _) p1, pw_cell_below (below_setRow (below_alloc (Below.refl _ _) _) (Nat.le_refl _) _) p2⟩ (fun hHeld => ?_)
  clear hK K
  refine pure_ (i := 14) (N := some 9) (v := ?_) (a' := ?_) #[true, true, true, true, true, true, true, true, true, true, true, true, true, true, true] rfl rfl (by kernel_rfl) (fun _ _ _ h => h) (Or.inl ⟨by rfl, ?_⟩) ?_ ?_
  rotate_left
  · intro w'
    go_simp
    with_reducible rfl
  rotate_left
  · simp only [Act.put, List.setIfInBounds_toArray, List.set_cons_zero, List.set_cons_succ, i64_w, i32_w]
    rfl
  refine done_ (by kernel_rfl) ?_
  rw [← z42_def]
  obtain ⟨q, hq⟩ : ∃ q, wd.heap.size = q := ⟨_, rfl⟩
  have HQ0 := Aside0.mk (setRow_heap (wd.alloc (.cells z42 98)) wd.heap.size z42 row 98 (0, 0) (heap_new wd _))
  have HB0 := Aside0.mk (below_setRow (below_alloc (Below.refl wd.heap.size wd) (.cells z42 98)) (Nat.le_refl _) row)
  generalize hW5 : (wd.alloc (.cells z42 98)).setRow wd.heap.size row = w5 at HQ0 HB0 ⊢
  rw [hq] at HQ0 ⊢
  have HE5 := Aside0.mk (HE3.out.below HB0.out)
  have HK5 := Aside0.mk (HK3.out.below HB0.out)
  have HQS := Aside0.mk (show ¬ S q from fun hk => by have h1 := HSB.out q hk; have h2 := HK3.out.size; omega)
  clear hW5 hq HB0 HE3 HK3 p0 p1 p2
  have HT := Aside0.mk (take_calls w5 g kind st.length c low high i (rd st i) mid 1 ⟨b, 0, none⟩ HE5.out.iv)
  go_wp2_with (go_at_call 74; obtain ⟨b3, hA3, hc3, hf3, hne3⟩ := HE5.out.cell hi; cases hA3; refine (HT.out (by rw [add_plain]; exact hc3) (by rw [add_plain]; exact hf3) hne3 hi hn hs (by decide) hm0 hm1).mono ?_; rintro e w4 ⟨rfl, w4', hb4, hw4⟩; rw [add_plain] at hw4; have HE4 := Aside0.mk (show DecRow w4 S g kind (some ⟨b, 0, none⟩) c (st.set i (after kind (rd st i) 1)) (cutL low mid 1) (cutH high mid 1) (.slice Ac code.length cc) code a value false from hw4 ▸ (((HE5.out.cut 1 mid).below (by rw [cutW_size]; exact hb4)).setst hi _)); have hsb : S b := HE5.out.s.1 b (by simp [Value.ownBlock]); have HK4 := Aside0.mk (show Mods w5 w4 S from hw4 ▸ ((((Mods.refl w5 S).then_ (cut_kept 1 mid HE5.out.g) (fun _ h => .inl h)).below (by rw [cutW_size]; exact hb4)).setCell (.inl hsb) _)); clear hb4 hw4 hc3 hf3 hne3)
  clear HT HE5
  obtain ⟨st', hst'⟩ : ∃ st' : List Int, st.set i (after kind (rd st i) 1) = st' := ⟨_, rfl⟩
  have HST := Aside0.mk hst'
  have HSL := Aside0.mk (show st'.length = st.length by rw [← hst']; exact List.length_set)
  rw [hst'] at HE4
  clear hst'
  go_loopg [] 4 (fun d wr => ∃ (l h : Int) (n : List Int), Aside0 (DecRow wr S g kind (some ⟨b, 0, none⟩) c st' l h (.slice Ac code.length cc) code (a + n.length) (shV code n.length value a) false) ∧ Aside0 (Mods w5 wr S) ∧ Aside0 (PutInv [] (cutL low mid 1) (cutH high mid 1) d l h n))
  case atStart => exact ⟨_, _, [], HE4, HK4, HI⟩
  clear HE4 HK4 HI
  case round =>
    obtain ⟨l, h, n, HE6, HK6, HP⟩ := hrel
    have hp0 := HP.out.l0
    have hp1 := HP.out.lh
    have hp2 := HP.out.h0
    have hp3 := HP.out.len
    rw [List.length_nil] at hp3
    have hs6 := same_calls wr g l h HE6.out.iv.l HE6.out.iv.h hp0 (by omega)
    by_cases cx : l / 16777216 = h / 16777216
    · rw [decide_eq_true cx] at hs6
      have HSA := Aside0.mk hs6
      clear hs6
      obtain ⟨d', hd', hP'⟩ := HP.out.step cx
      have HP' := Aside0.mk hP'
      have HD := Aside0.mk hd'
      have hv := shV_range HBY.out n.length value a hv0 hv1
      have HV := Aside0.mk hv
      have hap : a + n.length ≤ 2199023255552 := by omega
      clear hd' hP' cx hv
      go_wp2_with (first
        | (go_at_call 75; refine HSA.out.mono ?_; rintro e w6 ⟨rfl, m6, hw6⟩; have HE7 := Aside0.mk (show DecRow w6 S g kind (some ⟨b, 0, none⟩) c st' l h (.slice Ac code.length cc) code (a + n.length) (shV code n.length value a) false from hw6 ▸ HE6.out.drewN m6); have HK7 := Aside0.mk (show Mods w5 w6 S from hw6 ▸ HK6.out.drewN m6); clear hw6; have HLO := Aside0.mk (lose_calls w6 g l h HE7.out.iv.l HE7.out.iv.h HE7.out.iv.f hp0 (by omega) (by omega) hp2))
        | (go_at_call 76; refine HLO.out.mono ?_; rintro e w7 ⟨rfl, hw7⟩; have HE8 := Aside0.mk (show DecRow w7 S g kind (some ⟨b, 0, none⟩) c st' (l % 16777216 * 256) (h % 16777216 * 256 + 255) (.slice Ac code.length cc) code (a + n.length) (shV code n.length value a) false from hw7 ▸ HE7.out.lost _ _); have HK8 := Aside0.mk (show Mods w5 w7 S from hw7 ▸ ((HK7.out.setCell (.inl hSg) _).setCell (.inl hSg) _)); clear hw7)
        | (go_at_call 51; refine (shift_row _ S g kind _ c st' _ _ _ code _ _ false HE8.out HV.out.1 HV.out.2 HBY.out hlen hap).mono ?_; rintro e w8 ⟨rfl, hE9, hK9⟩; have HE9 := Aside0.mk hE9; have HK9 := Aside0.mk (HK8.out.then_ hK9 (fun _ h => .inl h)); clear hE9 hK9))
      go_roundg d'
      case measure => have := HD.out; omega
      case rel =>
        refine ⟨_, _, _, ⟨?_⟩, HK9, HP'⟩
        have h9 := HE9.out
        rw [← shV_succ] at h9
        rw [List.length_append, List.length_cons, List.length_nil, Nat.zero_add]
        exact h9
    · rw [decide_eq_false cx] at hs6
      have HSA := Aside0.mk hs6
      clear hs6
      have HCC := Aside0.mk (HP.out.done cx)
      clear cx
      obtain ⟨be, hbe⟩ : ∃ be : Nat, a + n.length - code.length = be := ⟨_, rfl⟩
      have HBE := Aside0.mk hbe
      clear hbe
      have HN := Aside0.mk (show normE 4 (cutL low mid 1) (cutH high mid 1) = (n, l, h) from by
        have h1 := HCC.out
        rw [List.nil_append] at h1
        exact Prod.ext h1.1.symm h1.2)
      by_cases hb4 : (be : Int) > 4
      · have HB4 := Aside0.mk hb4
        go_wp2_with (first
          | (go_at_call 75; refine HSA.out.mono ?_; rintro e w6 ⟨rfl, m6, hw6⟩; have HE7 := Aside0.mk (show DecRow w6 S g kind (some ⟨b, 0, none⟩) c st' l h (.slice Ac code.length cc) code (a + n.length) (shV code n.length value a) false from hw6 ▸ HE6.out.drewN m6); have HK7 := Aside0.mk (show Mods w5 w6 S from hw6 ▸ HK6.out.drewN m6); clear hw6; have k39 := HE7.out.c39; rw [HBE.out] at k39; have HQ7 := Aside0.mk (blk_mods HQ0.out HK7.out HQS.out))
          | (with_reducible refine wpList_load_row rfl _ _ rfl _ rfl _ _ _ _ HQ7.out Try.underlying98 rfl (info42 hsz) ?_)
          | (with_reducible refine wpList_store_row rfl _ _ _ rfl _ row rfl rfl _ _ HE7.out.b (info42 hsz) ((dec42_size _ _ _ _ _ _ _ _ _ _).trans hsz.symm) hone ?_; have HE8 := Aside0.mk (show DecRow (w6.setRow g row) S g kind (some ⟨b, 0, none⟩) c st' low high (.slice Ac code.length cc) code a value false from HROW.out ▸ dec_setRow (st' := st) HE7.out HSL.out.symm kind low high a value false); have HK8 := Aside0.mk (mods_setRow HK7.out hSg row); generalize w6.setRow g row = w8 at HE8 HK8 ⊢; have q1 := HE8.out.iv.s; rw [HSL.out] at q1; obtain ⟨b8, hA8, q2, q3, q4⟩ := HE8.out.cell (i := i) (by rw [HSL.out]; exact hi); cases hA8; have q5 := HE8.out.fz 40; have q6 := HE8.out.c40))
        go_ret2
        refine ⟨⟨l, h, n, HN.out, .inl ⟨by rw [HBE.out]; have := HB4.out; omega, rfl, ?_⟩⟩, (HK5.out.then_ HK8.out (fun _ h => .inl h)).setCell (.inl (HE8.out.s.1 b (by simp [Value.ownBlock]))) _ |>.setCell (.inl hSg) _⟩
        have h9 := HE8.out.setst (i := i) (by rw [HSL.out]; exact hi) (rd st i)
        rw [← HST.out, set_back _ hi] at h9
        exact h9.put 40 (.bool true) rfl
      · have HB4 := Aside0.mk hb4
        go_wp2_with (go_at_call 75; refine HSA.out.mono ?_; rintro e w6 ⟨rfl, m6, hw6⟩; have HE7 := Aside0.mk (show DecRow w6 S g kind (some ⟨b, 0, none⟩) c st' l h (.slice Ac code.length cc) code (a + n.length) (shV code n.length value a) false from hw6 ▸ HE6.out.drewN m6); have HK7 := Aside0.mk (show Mods w5 w6 S from hw6 ▸ HK6.out.drewN m6); clear hw6; have k39 := HE7.out.c39; rw [HBE.out] at k39)
        go_ret2
        refine ⟨⟨l, h, n, HN.out, .inr ⟨by rw [HBE.out]; have := HB4.out; omega, rfl, ?_⟩⟩, HK5.out.then_ HK7.out (fun _ h => .inl h)⟩
        rw [HST.out]
        exact HE7.out
/-- A decoder in memory. -/
def DecAt (W : World) (S : Nat → Prop) (g : Nat) (s : DS) : Prop := ∃ A c vc, DecRow W S g s.kind A c s.st s.low s.high vc s.code s.a s.value s.ended
theorem DecAt.kept {W W' : World} {S S' : Nat → Prop} {g : Nat} {s : DS} (h : DecAt W S g s) (hk : Mods W W' S') (hne : ∀ k, S k → ¬ S' k) : DecAt W' S g s := by
  obtain ⟨A, c, vo, h⟩ := h
  exact ⟨A, c, vo, h.kept hk hne⟩
theorem DecAt.below {W W' : World} {S : Nat → Prop} {g : Nat} {s : DS} (h : DecAt W S g s) (hb : Below W.heap.size W W') : DecAt W' S g s := by
  obtain ⟨A, c, vo, h⟩ := h
  exact ⟨A, c, vo, h.below hb⟩
theorem DecAt.mono {W : World} {S S' : Nat → Prop} {g : Nat} {s : DS} (h : DecAt W S g s) (hs : ∀ k, S k → S' k) : DecAt W S' g s := by
  obtain ⟨A, c, vo, h⟩ := h
  exact ⟨A, c, vo, h.mono hs⟩
theorem get_end (w : World) (g : Nat) (i : Nat) (n : Nat) (A : Option Addr) (c : Nat) (hi : i < n) (h1 : w.cell? ⟨g, 1, none⟩ = some (.slice A n c)) (h2 : w.cell? ⟨g, 41, none⟩ = some (.bool true)) (h3 : w.cell? ⟨g, 40, none⟩ = some (.bool true)) :
    Calls Try.prog 56 #[.pointer (some ⟨g, 0, none⟩), .int .i64 i] w fun e w' => e = .returned (.tuple #[.int .i64 0, .int .i64 6]) ∧ w = w' := by
  have hi1 : (0 : Int) ≤ (i : Int) := by omega
  have hi2 : (i : Int) < (n : Int) := by omega
  go_enter Try.func56, Try.ntmps56
  go_wp2_with (go_at_call 62; refine (dec_none _ _ _ h2).mono ?_; rintro e w' ⟨rfl, rfl⟩)
  go_ret2
  exact ⟨rfl, rfl⟩
theorem get_bad (w : World) (g : Nat) (i : Int) (n : Nat) (A : Option Addr) (c : Nat) (hi : ¬ (0 ≤ i ∧ i < n)) (h1 : w.cell? ⟨g, 1, none⟩ = some (.slice A n c)) (h2 : w.cell? ⟨g, 41, none⟩ = some (.bool true)) :
    Calls Try.prog 56 #[.pointer (some ⟨g, 0, none⟩), .int .i64 i] w fun e w' => e = .returned (.tuple #[.int .i64 0, .int .i64 2]) ∧ w = w' := by
  have hi' : i < 0 ∨ (i ≥ n ∧ ¬ i < 0) := by omega
  clear hi
  rcases hi' with h | ⟨h, h0⟩
  · go_enter Try.func56, Try.ntmps56
    go_wp2_with (go_at_call 62; refine (dec_none _ _ _ h2).mono ?_; rintro e w' ⟨rfl, rfl⟩)
    go_ret2
    exact ⟨rfl, rfl⟩
  · go_enter Try.func56, Try.ntmps56
    go_wp2_with (go_at_call 62; refine (dec_none _ _ _ h2).mono ?_; rintro e w' ⟨rfl, rfl⟩)
    go_ret2
    exact ⟨rfl, rfl⟩
theorem get_calls (w : World) (S : Nat → Prop) (g : Nat) (s : DS) (i : Int) (hE : DecAt w S g s) (hS : ∀ k, S k → k < w.heap.size) (hok : s.ok) :
    Calls Try.prog 56 #[.pointer (some ⟨g, 0, none⟩), .int .i64 i] w fun e w' => e = .returned (.tuple #[.int .i64 (s.getI i).2.1, .int .i64 (s.getI i).2.2]) ∧ DecAt w' S g (s.getI i).1 ∧ Mods w w' S := by
  obtain ⟨A, c, vo, hR⟩ := hE
  unfold DS.getI
  by_cases hi : 0 ≤ i ∧ i < s.st.length
  · rw [if_pos hi]
    obtain ⟨j, rfl⟩ : ∃ j : Nat, i = (j : Int) := ⟨i.toNat, by omega⟩
    rw [Int.toNat_natCast]
    have hj : j < s.st.length := by omega
    by_cases he : s.ended = true
    · rw [if_pos he]
      have h40 := hR.c40
      rw [he] at h40
      refine (get_end w g j s.st.length A c hj hR.iv.s hR.c41 h40).mono ?_
      rintro e w' ⟨rfl, rfl⟩
      exact ⟨rfl, ⟨A, c, vo, hR⟩, Mods.refl _ _⟩
    · rw [if_neg he]
      have hef : s.ended = false := by simpa using he
      obtain ⟨b, rfl, _⟩ := hR.cell hj
      have hm := DS.mid_ hok hj
      have hc := DS.cut_ hok hj
      have hl := hok.l
      have hh := hok.h
      have hI : PutInv [] (cutL s.low (s.mid j) (s.bit j)) (cutH s.high (s.mid j) (s.bit j)) 4 (cutL s.low (s.mid j) (s.bit j)) (cutH s.high (s.mid j) (s.bit j)) [] := ⟨hc.1, hc.2.1, hc.2.2, by rw [show (256 : Int) ^ 4 = 4294967296 from rfl]; omega, rfl, rfl, Nat.le_refl _⟩
      have key : Calls Try.prog 56 #[.pointer (some ⟨g, 0, none⟩), .int .i64 j] w (GetPost w S g s.kind b c s.st s.low s.high (s.mid j) vo s.code s.a s.value j (s.bit j)) := by
        rw [hef] at hR
        by_cases hv : s.value ≤ s.mid j
        · have hb : s.bit j = 1 := if_pos hv
          rw [hb] at hI ⊢
          exact get_row1 w S g s.kind b c s.st s.low s.high (s.mid j) vo s.code s.a s.value j hR hS hj hok.m.2.1 (DS.at_ hok hj) hl hok.lh hh rfl (by omega) (by omega) hI hok.v0 hok.v1 hok.by_ hok.len hok.be hv
        · have hb : s.bit j = 0 := if_neg hv
          rw [hb] at hI ⊢
          exact get_row0 w S g s.kind b c s.st s.low s.high (s.mid j) vo s.code s.a s.value j hR hS hj hok.m.2.1 (DS.at_ hok hj) hl hok.lh hh rfl (by omega) (by omega) hI hok.v0 hok.v1 hok.by_ hok.len hok.be hv
      refine key.mono ?_
      rintro e w' ⟨⟨l, h, n, hn, hq⟩, hk⟩
      have hn' : s.norm j = (n, l, h) := hn
      rw [hn']
      rcases hq with ⟨hb, rfl, hD⟩ | ⟨hb, rfl, hD⟩
      · rw [if_pos hb]
        exact ⟨rfl, ⟨_, c, vo, hD⟩, hk⟩
      · rw [if_neg hb]
        refine ⟨rfl, ⟨some ⟨b, 0, none⟩, c, vo, ?_⟩, hk⟩
        have e1 : s.next j = ⟨s.kind, s.st.set j (after s.kind (rd s.st j) (s.bit j)), l, h, s.code, s.a + n.length, shV s.code n.length s.value s.a, false⟩ := by
          unfold DS.next
          rw [hn']
        rw [e1]
        exact hD
  · rw [if_neg hi]
    refine (get_bad w g i s.st.length A c hi hR.iv.s hR.c41).mono ?_
    rintro e w' ⟨rfl, rfl⟩
    exact ⟨rfl, ⟨A, c, vo, hR⟩, Mods.refl _ _⟩
end Go.Proofs.Ytlnhahnnjbfjdaa.Get
namespace Go.Proofs.Ytlnhahnnjbfjdaa.DecNew
open Go Go.RowKit Go.Proofs.YtlnhahnnjbfjdaaW.PrintWords Go.Proofs.YtlnhahnnjbfjdaaW.PrintLast Go.Proofs.YtlnhahnnjbfjdaaW.PrintMore Go.Proofs.Ytlnhahnnjbfjdaa.Aid Go.Proofs.Ytlnhahnnjbfjdaa.HandAid Go.Proofs.Ytlnhahnnjbfjdaa.Cod1 Go.Proofs.Ytlnhahnnjbfjdaa.Cod2 Go.Proofs.Ytlnhahnnjbfjdaa.Cod3 Go.Proofs.Ytlnhahnnjbfjdaa.Mod Go.Proofs.Ytlnhahnnjbfjdaa.Enc Go.Proofs.Ytlnhahnnjbfjdaa.Mods Go.Proofs.Ytlnhahnnjbfjdaa.EncAt Go.Proofs.Ytlnhahnnjbfjdaa.Put Go.Proofs.Ytlnhahnnjbfjdaa.End Go.Proofs.Ytlnhahnnjbfjdaa.Snc Go.Proofs.Ytlnhahnnjbfjdaa.Dec Go.Proofs.Ytlnhahnnjbfjdaa.Get
/-- A fresh decoder. -/
def newDS (kind : Int) (st code : List Int) : DS := ⟨kind, st, 0, 4294967295, code, 4, shV code 4 0 0, false⟩
theorem newDS_ok {kind : Int} {st code : List Int} (h : okModel kind st) (hb : Bytes code) (hl : code.length ≤ 1099511627776) : (newDS kind st code).ok := by
  have hv := shV_range hb 4 0 0 (by omega) (by omega)
  exact ⟨h, show (0 : Int) ≤ 0 by decide, show (0 : Int) ≤ 4294967295 by decide, show (4294967295 : Int) ≤ 4294967295 by decide, show (0 : Int) / 16777216 ≠ 4294967295 / 16777216 by decide, hv.1, hv.2, hb, hl, show 4 - code.length ≤ 4 by omega⟩
theorem dec42_new (kind : Int) (v vc : Value) : dec42 kind v 0 4294967295 vc 0 0 0 false true = #[.int .i64 kind, v, .int .i64 2048, .int .i64 1792, .int .i64 1568, .int .i64 1372, .int .i64 1201, .int .i64 1051, .int .i64 920, .int .i64 805, .int .i64 705, .int .i64 617, .int .i64 540, .int .i64 473, .int .i64 414, .int .i64 363, .int .i64 318, .int .i64 279, .int .i64 245, .int .i64 215, .int .i64 189, .int .i64 166, .int .i64 146, .int .i64 128, .int .i64 112, .int .i64 98, .int .i64 86, .int .i64 76, .int .i64 67, .int .i64 59, .int .i64 52, .int .i64 46, .int .i64 41, .int .i64 36, .int .u64 0, .int .u64 4294967295, vc, .int .i64 0, .int .u64 0, .int .i64 0, .bool false, .bool true] := rfl
def NewDecPost (w : World) (kind : Int) (st code : List Int) (e : Ending) (w' : World) : Prop := ∃ g, e = .returned (.tuple #[.pointer (some ⟨g, 0, none⟩), .int .i64 0]) ∧ DecAt w' (Since w.heap.size w') g (newDS kind st code) ∧ Below w.heap.size w w'
set_option maxHeartbeats 4000000 in
set_option maxRecDepth 100000 in
theorem new_dec (A : Option Addr) (c : Nat) (kind : Int) (st : List Int) (Ac : Option Addr) (cc : Nat) (code : List Int) (w : World) (hC : Kd.C (Kd.int .i64) w A st.length st) (hc : st.length ≤ c) (hm : okModel kind st) (hCc : Kd.C (Kd.int .u8) w Ac code.length code) (hcc : code.length ≤ cc) (hby : Bytes code) (hlen : code.length ≤ 1099511627776) :
    Calls Try.prog 22 #[.agg #[.int .i64 kind, .slice A st.length c], .slice Ac code.length cc] w (NewDecPost w kind st code) := by
  have HC := Aside0.mk hC
  have HCc := Aside0.mk hCc
  have hv := valid_calls A c kind st
  rw [decide_eq_true hm] at hv
  have HV := Aside0.mk hv
  have HM := Aside0.mk hm
  have HBY := Aside0.mk hby
  have hl := hm.2.1
  clear hC hv hm hCc hby
  have hb0 := Aside0.mk (below_alloc (Below.refl w.heap.size w) (.cells #[.int .i64 kind, .slice A st.length c] 45))
  have hq0 : Aside0 ((w.alloc (.cells #[.int .i64 kind, .slice A st.length c] 45)).heap[w.heap.size]? = some (.cells #[.int .i64 kind, .slice A st.length c] 45 (0, 0))) := ⟨heap_new _ _⟩
  go_enter Try.func22, Try.ntmps22
  go_wp2_with (first
    | (go_at_call 49; refine (HV.out _ (Kd.C_below HC.out hb0.out) hc).mono ?_; rintro e w1 ⟨rfl, hB⟩; have HB := Aside0.mk (below_then hb0.out hb0.out.size hB); have hq1 : Aside0 (w1.heap[w.heap.size]? = some (.cells #[.int .i64 kind, .slice A st.length c] 45 (0, 0))) := ⟨(hB.block _ (blk_lt hq0.out)).trans hq0.out⟩; have k0 : w1.cell? ⟨w.heap.size, 0, none⟩ = some (.int .i64 kind) := (blk_cell hq1.out 0).trans rfl; have k1 : w1.cell? ⟨w.heap.size, 1, none⟩ = some (.slice A st.length c) := (blk_cell hq1.out 1).trans rfl; clear hB)
    | (go_at_call 50; refine (begin_calls A c kind st _ (Kd.C_below HC.out HB.out) hc (by omega)).mono ?_; rintro e w2 ⟨A2, c2, rfl, hR, hB⟩; have HB2 := Aside0.mk (below_then HB.out HB.out.size hB); have HR := Aside0.mk (Kd.R_alloc (Kd.R_lower hR HB.out.size) (.cells #[] 5)); have HR1 : Aside0 (Kd.R (Kd.int .u8) 5 (w2.alloc (.cells #[] 5)) w.heap.size (fun _ => True) (.slice (some ⟨w2.heap.size, 0, none⟩) 0 0) []) := ⟨Kd.R_of_own (enc := Value.int .u8) (World.ownsRow_lit w2 #[] 0 HB2.out.size (by decide) rfl) (fun _ _ => trivial)⟩; have HB2' := Aside0.mk (below_alloc HB2.out (.cells #[] 5)); have HCo := Aside0.mk (Kd.C_below HCc.out HB2'.out); clear hR hB; unfold iv36)
    | (at_builtin; refine Kd.R_append_rows (Kd.int .u8) (w0 := w) w.heap.size (by rfl) (.tmp 12) (.tmp 13) 34 5 (.int .u8 0) 1 rfl Try.underlying34 infoU8 rfl (by decide) (by omega) (.slice (some ⟨w2.heap.size, 0, none⟩) 0 0) [] code _ _ _ (fun _ => True) (fun _ => False) rfl rfl HR1.out HCo.out (fun _ _ h => h) (fun _ h => h.elim) (fun _ _ => trivial) HB2'.out HB2'.out.size (by simp only [List.length_nil]; omega) ?_; intro v3 w3 hR3 hB3 hg3 hat3; rw [List.nil_append] at hR3; obtain ⟨A3, c3, hv3⟩ := Kd.R_slice hR3; subst hv3; have HS3 := Aside0.mk (Kd.R_over HR.out HR1.out (by decide) hg3); have HR3 := Aside0.mk hR3; have HB3 := Aside0.mk hB3; clear hR3 hB3 hg3 hat3))
  clear HR1 HR HCo HB2' HV
  rw [← dec42_new]
  have HR0 := Aside0.mk (heap_new w3 (.cells (dec42 kind (.slice A2 st.length c2) 0 4294967295 (.slice A3 code.length c3) 0 0 0 false true) 98))
  have HB4 := Aside0.mk (below_alloc HB3.out (.cells (dec42 kind (.slice A2 st.length c2) 0 4294967295 (.slice A3 code.length c3) 0 0 0 false true) 98))
  have HRS := Aside0.mk (Kd.R_alloc HS3.out (.cells (dec42 kind (.slice A2 st.length c2) 0 4294967295 (.slice A3 code.length c3) 0 0 0 false true) 98))
  have HRO := Aside0.mk (Kd.R_alloc HR3.out (.cells (dec42 kind (.slice A2 st.length c2) 0 4294967295 (.slice A3 code.length c3) 0 0 0 false true) 98))
  generalize w3.alloc (.cells (dec42 kind (.slice A2 st.length c2) 0 4294967295 (.slice A3 code.length c3) 0 0 0 false true) 98) = w4 at HR0 HB4 HRS HRO ⊢
  have HQ3 := Aside0.mk HB3.out.size
  obtain ⟨q, hq⟩ : ∃ q, w3.heap.size = q := ⟨_, rfl⟩
  rw [hq] at HR0 HQ3 ⊢
  obtain ⟨S, hS⟩ : ∃ S : Nat → Prop, S = Since w.heap.size w4 := ⟨_, rfl⟩
  have HE0 : Aside0 (DecRow w4 S q kind A2 c2 st 0 4294967295 (.slice A3 code.length c3) code 0 0 false) := ⟨by
    subst hS
    refine ⟨?_, Kd.R_lower (Kd.R_mono (Kd.R_bound HRS.out) fun k hk => ⟨hk.2.1, hk.2.2.1⟩) (Nat.zero_le _), Kd.R_lower (Kd.R_mono (Kd.R_bound HRO.out) fun k hk => ⟨hk.2.1, hk.2.2.1⟩) (Nat.zero_le _), ⟨HQ3.out, blk_lt HR0.out⟩⟩
    rw [Nat.zero_sub]
    exact HR0.out⟩
  have HS := Aside0.mk hS
  clear hS HR0 HRS HRO HS3 HR3 HB3 HB2 HB hq hq0 hq1 hb0 k0 k1
  go_loopw [17] (fun i wr => ∃ (k : Nat), k ≤ 4 ∧ i = .int .i64 k ∧ Aside0 (DecRow wr S q kind A2 c2 st 0 4294967295 (.slice A3 code.length c3) code k (shV code k 0 0) false) ∧ Aside0 (Mods w4 wr S)) (fun i _ => 5 - (intOf i).toNat)
  case atStart => exact ⟨0, by omega, rfl, HE0, ⟨Mods.refl _ _⟩⟩
  clear HE0
  case round =>
    obtain ⟨k, hk, rfl, HE, HK⟩ := hrel
    by_cases h4 : (k : Int) < 4
    · have HV := Aside0.mk (shV_range HBY.out k 0 0 (by omega) (by omega))
      go_wp2_with (go_at_call 51; refine (shift_row _ S q kind _ c2 st _ _ _ code _ _ false HE.out HV.out.1 HV.out.2 HBY.out hlen (by omega)).mono ?_; rintro e w8 ⟨rfl, hE9, hK9⟩; have HE9 := Aside0.mk hE9; have HK9 := Aside0.mk (HK.out.then_ hK9 (fun _ h => .inl h)); clear hE9 hK9)
      go_roundw
      case measure => simp only [intOf]; omega
      case rel =>
        refine ⟨k + 1, by omega, rfl, ⟨?_⟩, HK9⟩
        have h9 := HE9.out
        have e9 := shV_succ code k 0 0
        rw [Nat.zero_add] at e9
        rw [e9]
        exact h9
    · have e4 : k = 4 := by omega
      subst e4
      go_wp2
      go_ret2
      have hb := below_mods HB4.out HK.out (fun k hk => by rw [HS.out] at hk; exact hk.1) HB4.out.size
      refine ⟨q, rfl, ⟨A2, c2, .slice A3 code.length c3, HE.out.mono fun k hk => ?_⟩, hb⟩
      rw [HS.out] at hk
      exact ⟨hk.1, Nat.lt_of_lt_of_le hk.2 HK.out.size⟩
theorem beyond_calls (w : World) (S : Nat → Prop) (g : Nat) (s : DS) (hE : DecAt w S g s) :
    Calls Try.prog 29 #[.pointer (some ⟨g, 0, none⟩)] w fun e w' => e = .returned (.int .i64 ((s.a - s.code.length : Nat) : Int)) ∧ w = w' := by
  obtain ⟨A, c, vo, hR⟩ := hE
  have h2 := hR.c41
  have k39 := hR.c39
  go_enter Try.func29, Try.ntmps29
  go_wp2_with (go_at_call 62; refine (dec_none _ _ _ h2).mono ?_; rintro e w' ⟨rfl, rfl⟩)
  go_ret
  exact ⟨rfl, rfl⟩
set_option maxRecDepth 100000 in
theorem dec_model_calls (w : World) (S : Nat → Prop) (g : Nat) (s : DS) (hE : DecAt w S g s) (hok : s.ok) :
    Calls Try.prog 44 #[.pointer (some ⟨g, 0, none⟩)] w (MPost w s.kind s.st) := by
  obtain ⟨A, c, vo, hR⟩ := hE
  have HE := Aside0.mk (hR.below (below_alloc (Below.refl _ _) (.cells #[.int .i64 0, .slice none 0 0] 45)))
  have HB := Aside0.mk (below_alloc (Below.refl w.heap.size w) (.cells #[.int .i64 0, .slice none 0 0] 45))
  have HZ := Aside0.mk (heap_new w (.cells #[.int .i64 0, .slice none 0 0] 45))
  have hu := Try.underlying45
  have h2 := HE.out.c41
  have k0 := HE.out.iv.k
  have k1 := HE.out.iv.s
  have hl := hok.m.2.1
  obtain ⟨hn, hc, hC⟩ := Kd.R_reads' HE.out.s
  have HC := Aside0.mk hC
  obtain ⟨b2, hb2⟩ : ∃ b2, w.heap.size = b2 := ⟨_, rfl⟩
  have HSZ := Aside0.mk hb2
  rw [hb2] at HZ
  clear hR hn hC
  go_enter Try.func44, Try.ntmps44
  go_wp2_with (first
    | (go_at_call 62; refine (dec_none _ _ _ h2).mono ?_; rintro e w' ⟨rfl, rfl⟩)
    | (go_at_call 68; refine (clone_calls A c s.kind s.st _ HC.out hc (by omega)).mono ?_; rintro e w4 ⟨A4, c4, rfl, hR4, hB4⟩; have HR4 := Aside0.mk (Kd.R_lower hR4 HB.out.size); have HB4 := Aside0.mk (below_then HB.out HB.out.size hB4); have HZ4 := Aside0.mk (blk_below HZ.out hB4); have z0 : w4.cell? ⟨b2, 0, none⟩ = some (.int .i64 0) := (blk_cell HZ4.out 0).trans rfl; have z1 : w4.cell? ⟨b2, 1, none⟩ = some (.slice none 0 0) := (blk_cell HZ4.out 1).trans rfl; have zf0 := blk_frozen HZ4.out 0; have zf1 := blk_frozen HZ4.out 1; clear hR4 hB4))
  have hz2 : (w4.setCell ⟨b2, 0, none⟩ (.int .i64 s.kind)).heap[b2]? = some (.cells #[.int .i64 s.kind, .slice none 0 0] 45 (0, 0)) := blk_put (cs := #[.int .i64 0, .slice none 0 0]) HZ4.out 0 _ rfl
  refine bodyPost_ret (results_cell_row rfl _ _ b2 45 #[.int .i64 s.kind, .slice A4 s.st.length c4] (0, 0) _ rfl (blk_put (cs := #[.int .i64 s.kind, .slice none 0 0]) hz2 1 _ rfl) Try.underlying45 rfl (by kernel_rfl)) rfl ?_
  have hwb : w.heap.size ≤ b2 := by rw [HSZ.out]; exact Nat.le_refl _
  exact ⟨A4, c4, rfl, Kd.R_set (Kd.R_set HR4.out HZ4.out (by decide) _ _) hz2 (by decide) _ _, (HB4.out.setCell hwb _).setCell hwb _⟩
end Go.Proofs.Ytlnhahnnjbfjdaa.DecNew
