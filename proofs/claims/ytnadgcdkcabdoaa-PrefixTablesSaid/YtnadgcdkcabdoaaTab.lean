import Derived.Test.YtnadgcdkcabdoaaU22
import Derived.Test.YtnadgcdkcabdoaaU20
import Derived.Test.YtnadgcdkcabdoaaU21
import Derived.Test.YtnadgcdkcabdoaaU19
import Derived.Test.YtnadgcdkcabdoaaAid
-- needs: Aid
-- print: prefix_Complete incunableref04_Valid incunableref04_Complete incunablelaw04_Awake
namespace Go.Proofs.Ytnadgcdkcabdoaa.Tab
open Go Go.RowKit Go.Proofs.YtnadgcdkcabdoaaW.PrintWords Go.Proofs.YtnadgcdkcabdoaaW.PrintLast Go.Proofs.YtnadgcdkcabdoaaW.PrintMore Go.Proofs.Ytnadgcdkcabdoaa.Aid Go.Proofs.Ytnadgcdkcabdoaa.U
set_option linter.unusedVariables false
set_option linter.unusedSimpArgs false
abbrev Ln := S32
theorem drop_rdL {l : List Ln} {i : Nat} (h : i < l.length) : l.drop i = rd_T32 l (i : Int) :: l.drop (i + 1) := by
  rw [List.drop_eq_getElem_cons h]
  simp [rd_T32, List.getD_eq_getElem?_getD, List.getElem?_eq_getElem h]
theorem rdL_mem {l : List Ln} {i : Nat} (h : i < l.length) : rd_T32 l (i : Int) ∈ l := by
  have h1 := drop_rdL h
  exact List.mem_of_mem_drop (h1 ▸ List.mem_cons_self)
/-- A line in range. -/
def lineB (x : Ln) : Bool := decide (0 ≤ x.f0 ∧ x.f0 ≤ 15 ∧ 0 ≤ x.f1 ∧ x.f1 ≤ 20 ∧ -1048576 ≤ x.f2 ∧ x.f2 ≤ 1048576 ∧ 0 ≤ x.f3 ∧ x.f3 ≤ 2 ∧ (x.f3 = 2 → x.f1 = 0 ∧ x.f2 = 0))
theorem right_eq (x : Ln) : incunableref04_right.f x.f0 x.f1 x.f2 x.f3 = some (lineB x) := by
  unfold incunableref04_right.f lineB
  repeat' split
  all_goals first
    | (congr 1; symm; apply decide_eq_false; omega)
    | (congr 1; symm; apply decide_eq_true; omega)
    | (congr 1; by_cases h : x.f2 = 0
       · rw [beq_iff_eq.2 h]; symm; apply decide_eq_true; omega
       · rw [beq_eq_false_iff_ne.2 h]; symm; apply decide_eq_false; omega)
theorem isLine_eq (x : Ln) : prefix_isLine.f x.f0 x.f1 x.f2 x.f3 = some (lineB x) := right_eq x
/-- What a line takes of 2^15. -/
def wS (x : Ln) : Int := if x.f0 = 0 then 0 else 2 ^ (15 - x.f0).toNat
def uS (x : Ln) : Int := if x.f0 = 0 then 0 else 1
def nS (x : Ln) : Int := if x.f0 = 0 then 0 else if x.f3 = 2 then 1 else 0
def sumI (f : Ln → Int) : List Ln → Int
  | [] => 0
  | x :: l => f x + sumI f l
theorem shl1 : ∀ n, n < 16 → shl .i64 1 (n : Nat) = 2 ^ n := by decide
theorem shl_w {x : Ln} (h : lineB x = true) : shl .i64 1 (wrap64 (15 - x.f0)) = 2 ^ (15 - x.f0).toNat := by
  have h1 := of_decide_eq_true h
  rw [wrap_id (by omega) (by omega)]
  obtain ⟨n, hn⟩ : ∃ n : Nat, 15 - x.f0 = n := ⟨(15 - x.f0).toNat, by omega⟩
  rw [hn, Int.toNat_natCast]
  exact shl1 n (by omega)
theorem pow15 : ∀ n, n < 16 → (1 : Int) ≤ 2 ^ n ∧ (2 : Int) ^ n ≤ 32768 := by decide
theorem wS_range {x : Ln} (h : lineB x = true) : 0 ≤ wS x ∧ wS x ≤ 32768 := by
  have h1 := of_decide_eq_true h
  unfold wS
  split
  · omega
  · have := pow15 (15 - x.f0).toNat (by omega); omega
theorem share_loop (t : List Ln) (hn : t.length ≤ 64) (hv : ∀ x ∈ t, lineB x = true) : ∀ (d i : Nat) (a b c : Int), i + d = t.length → 0 ≤ a → a ≤ 32768 * i → 0 ≤ b → b ≤ i → 0 ≤ c → c ≤ i →
    Ev (fun k => incunableref04_share.l0 k a b c t (t.length : Int) (i : Int)) (a + sumI wS (t.drop i), b + sumI uS (t.drop i), c + sumI nS (t.drop i))
  | 0, i, a, b, c, hd, _, _, _, _, _, _ => by
    refine ev_succ ?_
    simp only [incunableref04_share.l0]
    refine ev_eq (ev_neg (by omega) (Ev.now _)) ?_
    rw [List.drop_of_length_le (by omega)]
    simp [sumI]
  | d + 1, i, a, b, c, hd, h1, h2, h3, h4, h5, h6 => by
    have hi : i < t.length := by omega
    have hl := hv _ (rdL_mem hi)
    have hl2 := of_decide_eq_true hl
    have hw := wS_range hl
    rw [drop_rdL hi]
    obtain ⟨x, hx⟩ : ∃ x, rd_T32 t (i : Int) = x := ⟨_, rfl⟩
    refine ev_succ ?_
    simp only [incunableref04_share.l0, incunableref04_used.f, Option.bind_some, hx]
    rw [hx] at hl hl2 hw
    refine ev_pos (by omega) (ev_pos (by omega) (ev_pos (by omega) ?_))
    rw [wrap_id (n := (i : Int) + 1) (by omega) (by omega)]
    by_cases c0 : x.f0 = 0
    · refine ev_neg (by rw [c0]; decide) ?_
      refine ev_eq (share_loop t hn hv d (i + 1) a b c (by omega) h1 (by omega) h3 (by omega) h5 (by omega)) ?_
      simp [sumI, wS, uS, nS, c0]
    · refine ev_pos (by simp; omega) (ev_pos (by rw [wrap_id (by omega) (by omega)]; omega) ?_)
      rw [shl_w hl]
      have hwe : wS x = 2 ^ (15 - x.f0).toNat := if_neg c0
      rw [← hwe, wrap_id (n := a + wS x) (by omega) (by omega), wrap_id (n := b + 1) (by omega) (by omega), wrap_id (n := c + 1) (by omega) (by omega)]
      by_cases c3 : x.f3 = 2
      · refine ev_pos c3 (ev_eq (share_loop t hn hv d (i + 1) _ _ _ (by omega) (by omega) (by omega) (by omega) (by omega) (by omega) (by omega)) ?_)
        have hu : uS x = 1 := if_neg c0
        have hns : nS x = 1 := by unfold nS; rw [if_neg c0, if_pos c3]
        simp only [sumI, hu, hns]
        simp only [Prod.mk.injEq]
        omega
      · refine ev_neg c3 (ev_eq (share_loop t hn hv d (i + 1) _ _ _ (by omega) (by omega) (by omega) (by omega) (by omega) (by omega) (by omega)) ?_)
        have hu : uS x = 1 := if_neg c0
        have hns : nS x = 0 := by unfold nS; rw [if_neg c0, if_neg c3]
        simp only [sumI, hu, hns]
        simp only [Prod.mk.injEq]
        omega
theorem weight_loop (t : List Ln) (hn : t.length ≤ 64) (hv : ∀ x ∈ t, lineB x = true) : ∀ (d i : Nat) (a b c : Int), i + d = t.length → 0 ≤ a → a ≤ 32768 * i → 0 ≤ b → b ≤ i → 0 ≤ c → c ≤ i →
    Ev (fun k => prefix_weight.l0 k a b c t (t.length : Int) (i : Int)) (a + sumI wS (t.drop i), b + sumI uS (t.drop i), c + sumI nS (t.drop i))
  | 0, i, a, b, c, hd, _, _, _, _, _, _ => by
    refine ev_succ ?_
    simp only [prefix_weight.l0]
    refine ev_eq (ev_neg (by omega) (Ev.now _)) ?_
    rw [List.drop_of_length_le (by omega)]
    simp [sumI]
  | d + 1, i, a, b, c, hd, h1, h2, h3, h4, h5, h6 => by
    have hi : i < t.length := by omega
    have hl := hv _ (rdL_mem hi)
    have hl2 := of_decide_eq_true hl
    have hw := wS_range hl
    rw [drop_rdL hi]
    obtain ⟨x, hx⟩ : ∃ x, rd_T32 t (i : Int) = x := ⟨_, rfl⟩
    refine ev_succ ?_
    simp only [prefix_weight.l0, hx]
    rw [hx] at hl hl2 hw
    refine ev_pos (by omega) (ev_pos (by omega) (ev_pos (by omega) ?_))
    rw [wrap_id (n := (i : Int) + 1) (by omega) (by omega)]
    by_cases c0 : x.f0 = 0
    · refine ev_pos c0 ?_
      refine ev_eq (weight_loop t hn hv d (i + 1) a b c (by omega) h1 (by omega) h3 (by omega) h5 (by omega)) ?_
      simp [sumI, wS, uS, nS, c0]
    · refine ev_neg c0 (ev_pos (by rw [wrap_id (by omega) (by omega)]; omega) ?_)
      rw [shl_w hl]
      have hwe : wS x = 2 ^ (15 - x.f0).toNat := if_neg c0
      rw [← hwe, wrap_id (n := a + wS x) (by omega) (by omega), wrap_id (n := b + 1) (by omega) (by omega), wrap_id (n := c + 1) (by omega) (by omega)]
      by_cases c3 : x.f3 = 2
      · refine ev_pos c3 (ev_eq (weight_loop t hn hv d (i + 1) _ _ _ (by omega) (by omega) (by omega) (by omega) (by omega) (by omega) (by omega)) ?_)
        have hu : uS x = 1 := if_neg c0
        have hns : nS x = 1 := by unfold nS; rw [if_neg c0, if_pos c3]
        simp only [sumI, hu, hns]
        simp only [Prod.mk.injEq]
        omega
      · refine ev_neg c3 (ev_eq (weight_loop t hn hv d (i + 1) _ _ _ (by omega) (by omega) (by omega) (by omega) (by omega) (by omega) (by omega)) ?_)
        have hu : uS x = 1 := if_neg c0
        have hns : nS x = 0 := by unfold nS; rw [if_neg c0, if_neg c3]
        simp only [sumI, hu, hns]
        simp only [Prod.mk.injEq]
        omega
theorem share_ev (t : List Ln) (hn : t.length ≤ 64) (hv : ∀ x ∈ t, lineB x = true) : Ev (fun k => incunableref04_share.f k t) (sumI wS t, sumI uS t, sumI nS t) := by
  unfold incunableref04_share.f
  refine ev_eq (share_loop t hn hv t.length 0 0 0 0 (by omega) (by omega) (by omega) (by omega) (by omega) (by omega) (by omega)) ?_
  simp
theorem weight_ev (t : List Ln) (hn : t.length ≤ 64) (hv : ∀ x ∈ t, lineB x = true) : Ev (fun k => prefix_weight.f k t) (sumI wS t, sumI uS t, sumI nS t) := by
  unfold prefix_weight.f
  refine ev_eq (weight_loop t hn hv t.length 0 0 0 0 (by omega) (by omega) (by omega) (by omega) (by omega) (by omega) (by omega)) ?_
  simp
/-- Which tables are valid. -/
def vldP (t : List Ln) : Prop := t.length ≤ 64 ∧ (∀ x ∈ t, lineB x = true) ∧ 1 ≤ sumI uS t ∧ sumI nS t ≤ 1 ∧ sumI wS t ≤ 32768
instance (t : List Ln) : Decidable (vldP t) := by unfold vldP; infer_instance
theorem rvalid_loop (t : List Ln) (hn : t.length ≤ 64) : ∀ (d i : Nat), i + d = t.length → (∀ x ∈ t.take i, lineB x = true) → Ev (fun k => incunableref04_Valid.l0 k t t (t.length : Int) (i : Int)) (decide (vldP t))
  | 0, i, hd, hp => by
    rw [List.take_of_length_le (by omega)] at hp
    refine ev_succ ?_
    simp only [incunableref04_Valid.l0]
    refine ev_neg (by omega) (ev_bind (share_ev t hn hp) ?_)
    dsimp only
    by_cases c1 : sumI uS t ≥ 1
    · refine ev_pos c1 ?_
      by_cases c2 : sumI nS t ≤ 1
      · refine ev_pos c2 (ev_eq (Ev.now _) ?_)
        by_cases c3 : sumI wS t ≤ 32768
        · rw [decide_eq_true c3, decide_eq_true (show vldP t from ⟨hn, hp, c1, c2, c3⟩)]
        · rw [decide_eq_false c3, decide_eq_false (fun h : vldP t => c3 h.2.2.2.2)]
      · exact ev_neg c2 (ev_eq (Ev.now _) (decide_eq_false (fun h : vldP t => c2 h.2.2.2.1)).symm)
    · exact ev_neg c1 (ev_eq (Ev.now _) (decide_eq_false (fun h : vldP t => c1 h.2.2.1)).symm)
  | d + 1, i, hd, hp => by
    have hi : i < t.length := by omega
    have hm := rdL_mem hi
    have hd1 := drop_rdL hi
    obtain ⟨x, hx⟩ : ∃ x, rd_T32 t (i : Int) = x := ⟨_, rfl⟩
    refine ev_succ ?_
    simp only [incunableref04_Valid.l0, hx, right_eq, Option.bind_some]
    rw [hx] at hm hd1
    refine ev_pos (by omega) (ev_pos (by omega) (ev_pos (by omega) ?_))
    rw [wrap_id (n := (i : Int) + 1) (by omega) (by omega)]
    by_cases c : lineB x = true
    · refine ev_pos c (rvalid_loop t hn d (i + 1) (by omega) ?_)
      intro y hy
      rw [List.take_succ_eq_append_getElem hi] at hy
      rcases List.mem_append.1 hy with hy | hy
      · exact hp y hy
      · rw [List.mem_singleton.1 hy]
        rw [List.drop_eq_getElem_cons hi] at hd1
        injection hd1 with h1 _
        rw [h1]
        exact c
    · exact ev_neg c (ev_eq (Ev.now _) (decide_eq_false (fun h : vldP t => c (h.2.1 x hm))).symm)
theorem pvalid_loop (t : List Ln) (hn : t.length ≤ 64) : ∀ (d i : Nat), i + d = t.length → (∀ x ∈ t.take i, lineB x = true) → Ev (fun k => prefix_Valid.l0 k t t (t.length : Int) (i : Int)) (decide (vldP t))
  | 0, i, hd, hp => by
    rw [List.take_of_length_le (by omega)] at hp
    refine ev_succ ?_
    simp only [prefix_Valid.l0]
    refine ev_neg (by omega) (ev_bind (weight_ev t hn hp) ?_)
    dsimp only
    by_cases c1 : sumI uS t > 0
    · refine ev_pos c1 ?_
      by_cases c2 : sumI nS t ≤ 1
      · refine ev_pos c2 (ev_eq (Ev.now _) ?_)
        by_cases c3 : sumI wS t ≤ 32768
        · rw [decide_eq_true c3, decide_eq_true (show vldP t from ⟨hn, hp, c1, c2, c3⟩)]
        · rw [decide_eq_false c3, decide_eq_false (fun h : vldP t => c3 h.2.2.2.2)]
      · exact ev_neg c2 (ev_eq (Ev.now _) (decide_eq_false (fun h : vldP t => c2 h.2.2.2.1)).symm)
    · exact ev_neg c1 (ev_eq (Ev.now _) (decide_eq_false (fun h : vldP t => c1 h.2.2.1)).symm)
  | d + 1, i, hd, hp => by
    have hi : i < t.length := by omega
    have hm := rdL_mem hi
    have hd1 := drop_rdL hi
    obtain ⟨x, hx⟩ : ∃ x, rd_T32 t (i : Int) = x := ⟨_, rfl⟩
    refine ev_succ ?_
    simp only [prefix_Valid.l0, hx, isLine_eq, Option.bind_some]
    rw [hx] at hm hd1
    refine ev_pos (by omega) (ev_pos (by omega) (ev_pos (by omega) ?_))
    rw [wrap_id (n := (i : Int) + 1) (by omega) (by omega)]
    by_cases c : lineB x = true
    · refine ev_pos c (pvalid_loop t hn d (i + 1) (by omega) ?_)
      intro y hy
      rw [List.take_succ_eq_append_getElem hi] at hy
      rcases List.mem_append.1 hy with hy | hy
      · exact hp y hy
      · rw [List.mem_singleton.1 hy]
        rw [List.drop_eq_getElem_cons hi] at hd1
        injection hd1 with h1 _
        rw [h1]
        exact c
    · exact ev_neg c (ev_eq (Ev.now _) (decide_eq_false (fun h : vldP t => c (h.2.1 x hm))).symm)
theorem rvalid_ev (t : List Ln) : Ev (fun k => incunableref04_Valid.f k t) (decide (vldP t)) := by
  unfold incunableref04_Valid.f
  by_cases c : (t.length : Int) > 64
  · exact ev_pos c (ev_eq (Ev.now _) (decide_eq_false (fun h : vldP t => by have := h.1; omega)).symm)
  · exact ev_neg c (rvalid_loop t (by omega) t.length 0 (by omega) (by simp))
theorem pvalid_ev (t : List Ln) : Ev (fun k => prefix_Valid.f k t) (decide (vldP t)) := by
  unfold prefix_Valid.f
  by_cases c : (t.length : Int) > 64
  · exact ev_pos c (ev_eq (Ev.now _) (decide_eq_false (fun h : vldP t => by have := h.1; omega)).symm)
  · exact ev_neg c (pvalid_loop t (by omega) t.length 0 (by omega) (by simp))
theorem awake_ev : Ev (fun k => incunablelaw04_Awake.f k) true := Ev.of incunablelaw04_Awake.mono (k := 40) (by kernel_rfl)
end Go.Proofs.Ytnadgcdkcabdoaa.Tab
