import Derived.Test.YtnadgcdkcabdoaaMPrefixBack1
import Derived.Test.YtnadgcdkcabdoaaMPrefixBack2
import Derived.Maps.OwnOps
import Derived.Maps.OwnSet
import Derived.DeepKeys3
import Derived.StillTailTactics
import Derived.Laws.ResultCell
import Derived.Test.YtnadgcdkcabdoaaMPrefixBack0
import Derived.SizedLaws
import Derived.ChangeSlices
import Derived.ChangeArms
set_option linter.unusedVariables false
set_option linter.unusedSimpArgs false
namespace Go.Proofs.Ytnadgcdkcabdoaa.U
open Go.RowKit Go.Proofs.YtnadgcdkcabdoaaW.PrintWords Go.Proofs.YtnadgcdkcabdoaaW.PrintLast Go.Proofs.YtnadgcdkcabdoaaW.PrintMore
attribute [local go_sem] max2_int min2_int max_two min_two max_three min_three max_four min_four   -- for this text's walks alone
def incunableref04_Complete.f (k : Nat) (l0 : List (S32)) : Option (Bool) := (incunableref04_share.f k l0).bind fun bt259 => (some (bt259.1 == 32768))
theorem incunableref04_Complete.mono : ∀ a0 k, LeO (incunableref04_Complete.f k a0) (incunableref04_Complete.f (k + 1) a0) := by
 intro a0 k; unfold incunableref04_Complete.f
 repeat' first
  | (with_reducible exact incunableref04_share.mono _ _)
  | (with_reducible exact LeO.refl _)
  | (with_reducible exact LeO.none _)
  | (with_reducible refine LeO.ite ?_ ?_)
  | (with_reducible refine LeO.bind ?_ (fun _ => ?_))
  | exact incunableref04_share.mono _ _
  | exact LeO.none _
  | refine LeO.ite ?_ ?_
  | refine LeO.bind ?_ (fun _ => ?_)
end Go.Proofs.Ytnadgcdkcabdoaa.U
namespace Go.Proofs.Ytnadgcdkcabdoaa.Tab
open Go Go.RowKit Go.Proofs.YtnadgcdkcabdoaaW.PrintWords Go.Proofs.YtnadgcdkcabdoaaW.PrintLast Go.Proofs.YtnadgcdkcabdoaaW.PrintMore Go.Proofs.Ytnadgcdkcabdoaa.Aid Go.Proofs.Ytnadgcdkcabdoaa.U
abbrev Ln := S32
theorem drop_rdL {l : List Ln} {i : Nat} (h : i < l.length) : l.drop i = rd_T32 l (i : Int) :: l.drop (i + 1) := by
  rw [List.drop_eq_getElem_cons h]
  simp [rd_T32, List.getD_eq_getElem?_getD, List.getElem?_eq_getElem h]
theorem rdL_mem {l : List Ln} {i : Nat} (h : i < l.length) : rd_T32 l (i : Int) ∈ l := by
  have h1 := drop_rdL h
  exact List.mem_of_mem_drop (h1 ▸ List.mem_cons_self)
/-- A line in range. -/
def lineB (x : Ln) : Bool := decide (0 ≤ x.f0 ∧ x.f0 ≤ 15 ∧ 0 ≤ x.f1 ∧ x.f1 ≤ 20 ∧ -1048576 ≤ x.f2 ∧ x.f2 ≤ 1048576 ∧ 0 ≤ x.f3 ∧ x.f3 ≤ 2 ∧ (x.f3 = 2 → x.f1 = 0 ∧ x.f2 = 0))
theorem right_eq (x : Ln) : incunableref04_right.f x.f0 x.f1 x.f2 x.f3 = some (lineB x) := by
  unfold incunableref04_right.f lineB
  repeat' split
  all_goals first
    | (congr 1; symm; apply decide_eq_false; omega)
    | (congr 1; symm; apply decide_eq_true; omega)
    | (congr 1; by_cases h : x.f2 = 0
       · rw [beq_iff_eq.2 h]; symm; apply decide_eq_true; omega
       · rw [beq_eq_false_iff_ne.2 h]; symm; apply decide_eq_false; omega)
theorem isLine_eq (x : Ln) : prefix_isLine.f x.f0 x.f1 x.f2 x.f3 = some (lineB x) := right_eq x
/-- What a line takes of 2^15. -/
def wS (x : Ln) : Int := if x.f0 = 0 then 0 else 2 ^ (15 - x.f0).toNat
def uS (x : Ln) : Int := if x.f0 = 0 then 0 else 1
def nS (x : Ln) : Int := if x.f0 = 0 then 0 else if x.f3 = 2 then 1 else 0
def sumI (f : Ln → Int) : List Ln → Int
  | [] => 0
  | x :: l => f x + sumI f l
theorem shl1 : ∀ n, n < 16 → shl .i64 1 (n : Nat) = 2 ^ n := by decide
theorem shl_w {x : Ln} (h : lineB x = true) : shl .i64 1 (wrap64 (15 - x.f0)) = 2 ^ (15 - x.f0).toNat := by
  have h1 := of_decide_eq_true h
  rw [wrap_id (by omega) (by omega)]
  obtain ⟨n, hn⟩ : ∃ n : Nat, 15 - x.f0 = n := ⟨(15 - x.f0).toNat, by omega⟩
  rw [hn, Int.toNat_natCast]
  exact shl1 n (by omega)
theorem pow15 : ∀ n, n < 16 → (1 : Int) ≤ 2 ^ n ∧ (2 : Int) ^ n ≤ 32768 := by decide
theorem wS_range {x : Ln} (h : lineB x = true) : 0 ≤ wS x ∧ wS x ≤ 32768 := by
  have h1 := of_decide_eq_true h
  unfold wS
  split
  · omega
  · have := pow15 (15 - x.f0).toNat (by omega); omega
theorem weight_loop (t : List Ln) (hn : t.length ≤ 64) (hv : ∀ x ∈ t, lineB x = true) : ∀ (d i : Nat) (a b c : Int), i + d = t.length → 0 ≤ a → a ≤ 32768 * i → 0 ≤ b → b ≤ i → 0 ≤ c → c ≤ i →
    Ev (fun k => prefix_weight.l0 k a b c t (t.length : Int) (i : Int)) (a + sumI wS (t.drop i), b + sumI uS (t.drop i), c + sumI nS (t.drop i))
  | 0, i, a, b, c, hd, _, _, _, _, _, _ => by
    refine ev_succ ?_
    simp only [prefix_weight.l0]
    refine ev_eq (ev_neg (by omega) (Ev.now _)) ?_
    rw [List.drop_of_length_le (by omega)]
    simp [sumI]
  | d + 1, i, a, b, c, hd, h1, h2, h3, h4, h5, h6 => by
    have hi : i < t.length := by omega
    have hl := hv _ (rdL_mem hi)
    have hl2 := of_decide_eq_true hl
    have hw := wS_range hl
    rw [drop_rdL hi]
    obtain ⟨x, hx⟩ : ∃ x, rd_T32 t (i : Int) = x := ⟨_, rfl⟩
    refine ev_succ ?_
    simp only [prefix_weight.l0, hx]
    rw [hx] at hl hl2 hw
    refine ev_pos (by omega) (ev_pos (by omega) (ev_pos (by omega) ?_))
    rw [wrap_id (n := (i : Int) + 1) (by omega) (by omega)]
    by_cases c0 : x.f0 = 0
    · refine ev_pos c0 ?_
      refine ev_eq (weight_loop t hn hv d (i + 1) a b c (by omega) h1 (by omega) h3 (by omega) h5 (by omega)) ?_
      simp [sumI, wS, uS, nS, c0]
    · refine ev_neg c0 (ev_pos (by rw [wrap_id (by omega) (by omega)]; omega) ?_)
      rw [shl_w hl]
      have hwe : wS x = 2 ^ (15 - x.f0).toNat := if_neg c0
      rw [← hwe, wrap_id (n := a + wS x) (by omega) (by omega), wrap_id (n := b + 1) (by omega) (by omega), wrap_id (n := c + 1) (by omega) (by omega)]
      by_cases c3 : x.f3 = 2
      · refine ev_pos c3 (ev_eq (weight_loop t hn hv d (i + 1) _ _ _ (by omega) (by omega) (by omega) (by omega) (by omega) (by omega) (by omega)) ?_)
        have hu : uS x = 1 := if_neg c0
        have hns : nS x = 1 := by unfold nS; rw [if_neg c0, if_pos c3]
        simp only [sumI, hu, hns]
        simp only [Prod.mk.injEq]
        omega
      · refine ev_neg c3 (ev_eq (weight_loop t hn hv d (i + 1) _ _ _ (by omega) (by omega) (by omega) (by omega) (by omega) (by omega) (by omega)) ?_)
        have hu : uS x = 1 := if_neg c0
        have hns : nS x = 0 := by unfold nS; rw [if_neg c0, if_neg c3]
        simp only [sumI, hu, hns]
        simp only [Prod.mk.injEq]
        omega
theorem weight_ev (t : List Ln) (hn : t.length ≤ 64) (hv : ∀ x ∈ t, lineB x = true) : Ev (fun k => prefix_weight.f k t) (sumI wS t, sumI uS t, sumI nS t) := by
  unfold prefix_weight.f
  refine ev_eq (weight_loop t hn hv t.length 0 0 0 0 (by omega) (by omega) (by omega) (by omega) (by omega) (by omega) (by omega)) ?_
  simp
/-- Which tables are valid. -/
def vldP (t : List Ln) : Prop := t.length ≤ 64 ∧ (∀ x ∈ t, lineB x = true) ∧ 1 ≤ sumI uS t ∧ sumI nS t ≤ 1 ∧ sumI wS t ≤ 32768
instance (t : List Ln) : Decidable (vldP t) := by unfold vldP; infer_instance
theorem pvalid_loop (t : List Ln) (hn : t.length ≤ 64) : ∀ (d i : Nat), i + d = t.length → (∀ x ∈ t.take i, lineB x = true) → Ev (fun k => prefix_Valid.l0 k t t (t.length : Int) (i : Int)) (decide (vldP t))
  | 0, i, hd, hp => by
    rw [List.take_of_length_le (by omega)] at hp
    refine ev_succ ?_
    simp only [prefix_Valid.l0]
    refine ev_neg (by omega) (ev_bind (weight_ev t hn hp) ?_)
    dsimp only
    by_cases c1 : sumI uS t > 0
    · refine ev_pos c1 ?_
      by_cases c2 : sumI nS t ≤ 1
      · refine ev_pos c2 (ev_eq (Ev.now _) ?_)
        by_cases c3 : sumI wS t ≤ 32768
        · rw [decide_eq_true c3, decide_eq_true (show vldP t from ⟨hn, hp, c1, c2, c3⟩)]
        · rw [decide_eq_false c3, decide_eq_false (fun h : vldP t => c3 h.2.2.2.2)]
      · exact ev_neg c2 (ev_eq (Ev.now _) (decide_eq_false (fun h : vldP t => c2 h.2.2.2.1)).symm)
    · exact ev_neg c1 (ev_eq (Ev.now _) (decide_eq_false (fun h : vldP t => c1 h.2.2.1)).symm)
  | d + 1, i, hd, hp => by
    have hi : i < t.length := by omega
    have hm := rdL_mem hi
    have hd1 := drop_rdL hi
    obtain ⟨x, hx⟩ : ∃ x, rd_T32 t (i : Int) = x := ⟨_, rfl⟩
    refine ev_succ ?_
    simp only [prefix_Valid.l0, hx, isLine_eq, Option.bind_some]
    rw [hx] at hm hd1
    refine ev_pos (by omega) (ev_pos (by omega) (ev_pos (by omega) ?_))
    rw [wrap_id (n := (i : Int) + 1) (by omega) (by omega)]
    by_cases c : lineB x = true
    · refine ev_pos c (pvalid_loop t hn d (i + 1) (by omega) ?_)
      intro y hy
      rw [List.take_succ_eq_append_getElem hi] at hy
      rcases List.mem_append.1 hy with hy | hy
      · exact hp y hy
      · rw [List.mem_singleton.1 hy]
        rw [List.drop_eq_getElem_cons hi] at hd1
        injection hd1 with h1 _
        rw [h1]
        exact c
    · exact ev_neg c (ev_eq (Ev.now _) (decide_eq_false (fun h : vldP t => c (h.2.1 x hm))).symm)
theorem pvalid_ev (t : List Ln) : Ev (fun k => prefix_Valid.f k t) (decide (vldP t)) := by
  unfold prefix_Valid.f
  by_cases c : (t.length : Int) > 64
  · exact ev_pos c (ev_eq (Ev.now _) (decide_eq_false (fun h : vldP t => by have := h.1; omega)).symm)
  · exact ev_neg c (pvalid_loop t (by omega) t.length 0 (by omega) (by simp))
theorem awake_ev : Ev (fun k => incunablelaw04_Awake.f k) true := Ev.of incunablelaw04_Awake.mono (k := 40) (by kernel_rfl)
end Go.Proofs.Ytnadgcdkcabdoaa.Tab
namespace Go.Proofs.Ytnadgcdkcabdoaa.U
open Go.RowKit Go.Proofs.YtnadgcdkcabdoaaW.PrintWords Go.Proofs.YtnadgcdkcabdoaaW.PrintLast Go.Proofs.YtnadgcdkcabdoaaW.PrintMore
attribute [local go_sem] max2_int min2_int max_two min_two max_three min_three max_four min_four   -- for this text's walks alone
def incunableref04_digits.l0 : Nat → Int → List Int → Int → Option (List Int)
  | 0, _, _, _ => none
  | k + 1, x0, x5, x6 => if x6 ≥ 0 then (if 0 ≤ x6 then (if x5.length < 140737488355328 then (incunableref04_digits.l0 k x0 (x5 ++ [(Int.tmod (shr .i64 x0 x6) 2) % 256]) (wrap64 (x6 - 1))) else (none)) else (none)) else (some x5)
def incunableref04_digits.f (k : Nat) (a0 : Int) (a1 : Int) : Option (List Int) := incunableref04_digits.l0 k a0 ([] : List Int) (wrap64 (a1 - 1))
theorem incunableref04_digits.mono_l : ∀ k, (∀ y0 y1 y2, LeO (incunableref04_digits.l0 k y0 y1 y2) (incunableref04_digits.l0 (k + 1) y0 y1 y2))
  | 0 => fun _ _ _ r h => by simp [incunableref04_digits.l0] at h
  | k + 1 => by
    have ih0 := incunableref04_digits.mono_l k
    · intro y0 y1 y2
      unfold incunableref04_digits.l0
      repeat' first
      | (with_reducible exact ih0 _ _ _)
      | (with_reducible exact LeO.refl _)
      | (with_reducible exact LeO.none _)
      | (with_reducible refine LeO.ite ?_ ?_)
      | (with_reducible refine LeO.bind ?_ (fun _ => ?_))
      | exact ih0 _ _ _
      | exact LeO.none _
      | refine LeO.ite ?_ ?_
      | refine LeO.bind ?_ (fun _ => ?_)
theorem incunableref04_digits.mono : ∀ a0 a1 k, LeO (incunableref04_digits.f k a0 a1) (incunableref04_digits.f (k + 1) a0 a1) := by
 intro a0 a1 k; have ih0 := incunableref04_digits.mono_l k; unfold incunableref04_digits.f
 repeat' first
  | (with_reducible exact ih0 _ _ _)
  | (with_reducible exact LeO.refl _)
  | (with_reducible exact LeO.none _)
  | (with_reducible refine LeO.ite ?_ ?_)
  | (with_reducible refine LeO.bind ?_ (fun _ => ?_))
  | exact ih0 _ _ _
  | exact LeO.none _
  | refine LeO.ite ?_ ?_
  | refine LeO.bind ?_ (fun _ => ?_)
end Go.Proofs.Ytnadgcdkcabdoaa.U
namespace Go.Proofs.Ytnadgcdkcabdoaa.U
open Go.RowKit Go.Proofs.YtnadgcdkcabdoaaW.PrintWords Go.Proofs.YtnadgcdkcabdoaaW.PrintLast Go.Proofs.YtnadgcdkcabdoaaW.PrintMore
attribute [local go_sem] max2_int min2_int max_two min_two max_three min_three max_four min_four   -- for this text's walks alone
def incunableref04_Code.l0 : Nat → List (S32) → Int → Int → List (S32) → Int → Int → Option (List Int)
  | 0, _, _, _, _, _, _ => none
  | k + 1, x0, x1, x5, x8, x9, x10 => if x10 < x9 then (if 0 ≤ x10 then (if x10 < (x8.length : Int) then ((incunableref04_used.f ((rd_T32 x8 x10).f0) ((rd_T32 x8 x10).f1) ((rd_T32 x8 x10).f2) ((rd_T32 x8 x10).f3)).bind fun t396 => (if t396 = true then (if 0 ≤ x1 then (if x1 < (x0.length : Int) then (if ((rd_T32 x8 x10).f0) < ((rd_T32 x0 x1).f0) then (if 0 ≤ (wrap64 (15 - ((rd_T32 x8 x10).f0))) then (incunableref04_Code.l0 k x0 x1 (wrap64 (x5 + (shl .i64 1 (wrap64 (15 - ((rd_T32 x8 x10).f0)))))) x8 x9 (wrap64 (x10 + 1))) else (none)) else (if ((rd_T32 x8 x10).f0) = ((rd_T32 x0 x1).f0) then (if x10 < x1 then (if 0 ≤ (wrap64 (15 - ((rd_T32 x8 x10).f0))) then (incunableref04_Code.l0 k x0 x1 (wrap64 (x5 + (shl .i64 1 (wrap64 (15 - ((rd_T32 x8 x10).f0)))))) x8 x9 (wrap64 (x10 + 1))) else (none)) else (incunableref04_Code.l0 k x0 x1 x5 x8 x9 (wrap64 (x10 + 1)))) else (incunableref04_Code.l0 k x0 x1 x5 x8 x9 (wrap64 (x10 + 1))))) else (none)) else (none)) else (incunableref04_Code.l0 k x0 x1 x5 x8 x9 (wrap64 (x10 + 1))))) else (none)) else (none)) else (if 0 ≤ x1 then (if x1 < (x0.length : Int) then (if 0 ≤ (wrap64 (15 - ((rd_T32 x0 x1).f0))) then ((incunableref04_digits.f k (shr .i64 x5 (wrap64 (15 - ((rd_T32 x0 x1).f0)))) ((rd_T32 x0 x1).f0)).bind fun t401 => (some t401)) else (none)) else (none)) else (none))
def incunableref04_Code.f (k : Nat) (l0 : List (S32)) (a1 : Int) : Option (List Int) := incunableref04_Code.l0 k l0 a1 0 l0 (l0.length : Int) 0
theorem incunableref04_Code.mono_l : ∀ k, (∀ y0 y1 y2 y3 y4 y5, LeO (incunableref04_Code.l0 k y0 y1 y2 y3 y4 y5) (incunableref04_Code.l0 (k + 1) y0 y1 y2 y3 y4 y5))
  | 0 => fun _ _ _ _ _ _ r h => by simp [incunableref04_Code.l0] at h
  | k + 1 => by
    have ih0 := incunableref04_Code.mono_l k
    · intro y0 y1 y2 y3 y4 y5
      unfold incunableref04_Code.l0
      repeat' first
      | (with_reducible exact ih0 _ _ _ _ _ _)
      | (with_reducible exact incunableref04_digits.mono _ _ _)
      | (with_reducible exact LeO.refl _)
      | (with_reducible exact LeO.none _)
      | (with_reducible refine LeO.ite ?_ ?_)
      | (with_reducible refine LeO.bind ?_ (fun _ => ?_))
      | exact ih0 _ _ _ _ _ _
      | exact incunableref04_digits.mono _ _ _
      | exact LeO.none _
      | refine LeO.ite ?_ ?_
      | refine LeO.bind ?_ (fun _ => ?_)
theorem incunableref04_Code.mono : ∀ a0 a1 k, LeO (incunableref04_Code.f k a0 a1) (incunableref04_Code.f (k + 1) a0 a1) := by
 intro a0 a1 k; have ih0 := incunableref04_Code.mono_l k; unfold incunableref04_Code.f
 repeat' first
  | (with_reducible exact ih0 _ _ _ _ _ _)
  | (with_reducible exact incunableref04_digits.mono _ _ _)
  | (with_reducible exact LeO.refl _)
  | (with_reducible exact LeO.none _)
  | (with_reducible refine LeO.ite ?_ ?_)
  | (with_reducible refine LeO.bind ?_ (fun _ => ?_))
  | exact ih0 _ _ _ _ _ _
  | exact incunableref04_digits.mono _ _ _
  | exact LeO.none _
  | refine LeO.ite ?_ ?_
  | refine LeO.bind ?_ (fun _ => ?_)
end Go.Proofs.Ytnadgcdkcabdoaa.U
namespace Go.Proofs.Ytnadgcdkcabdoaa.U
open Go.RowKit Go.Proofs.YtnadgcdkcabdoaaW.PrintWords Go.Proofs.YtnadgcdkcabdoaaW.PrintLast Go.Proofs.YtnadgcdkcabdoaaW.PrintMore
attribute [local go_sem] max2_int min2_int max_two min_two max_three min_three max_four min_four   -- for this text's walks alone
def incunableref04_Place.j0 : Nat → Bool → Int → Int → Int → Int → Bool → Int → Option (Int × Bool)
  | 0, _, _, _, _, _, _, _ => none
  | k + 1, x14, x475000, x475001, x475002, x475003, x476000, x476001 => if x14 = true then (if x475003 = 2 then (if x476000 = true then (some (0, (x476001 == 0))) else (some (0, false))) else (some (0, false))) else (if x475003 = 1 then (if x476001 < (-4194304) then (some (wrap64 (x475002 - x476001), false)) else (if x476001 > 4194304 then (some (wrap64 (x475002 - x476001), false)) else (if (wrap64 (x475002 - x476001)) ≥ 0 then (if 0 ≤ x475001 then (some (wrap64 (x475002 - x476001), decide ((wrap64 (x475002 - x476001)) < (shl .i64 1 x475001)))) else (none)) else (some (wrap64 (x475002 - x476001), false))))) else (if x476001 < (-4194304) then (some (wrap64 (x476001 - x475002), false)) else (if x476001 > 4194304 then (some (wrap64 (x476001 - x475002), false)) else (if (wrap64 (x476001 - x475002)) ≥ 0 then (if 0 ≤ x475001 then (some (wrap64 (x476001 - x475002), decide ((wrap64 (x476001 - x475002)) < (shl .i64 1 x475001)))) else (none)) else (some (wrap64 (x476001 - x475002), false))))))
def incunableref04_Place.f (k : Nat) (a0_0 : Int) (a0_1 : Int) (a0_2 : Int) (a0_3 : Int) (a1_0 : Bool) (a1_1 : Int) : Option (Int × Bool) := if a0_3 = 2 then (incunableref04_Place.j0 k true a0_0 a0_1 a0_2 a0_3 a1_0 a1_1) else (incunableref04_Place.j0 k a1_0 a0_0 a0_1 a0_2 a0_3 a1_0 a1_1)
theorem incunableref04_Place.mono_l : ∀ k, (∀ y0 y1 y2 y3 y4 y5 y6, LeO (incunableref04_Place.j0 k y0 y1 y2 y3 y4 y5 y6) (incunableref04_Place.j0 (k + 1) y0 y1 y2 y3 y4 y5 y6))
  | 0 => fun _ _ _ _ _ _ _ r h => by simp [incunableref04_Place.j0] at h
  | k + 1 => by
    have ih0 := incunableref04_Place.mono_l k
    · intro y0 y1 y2 y3 y4 y5 y6
      unfold incunableref04_Place.j0
      repeat' first
      | (with_reducible exact ih0 _ _ _ _ _ _ _)
      | (with_reducible exact LeO.refl _)
      | (with_reducible exact LeO.none _)
      | (with_reducible refine LeO.ite ?_ ?_)
      | (with_reducible refine LeO.bind ?_ (fun _ => ?_))
      | exact ih0 _ _ _ _ _ _ _
      | exact LeO.none _
      | refine LeO.ite ?_ ?_
      | refine LeO.bind ?_ (fun _ => ?_)
theorem incunableref04_Place.mono : ∀ a0 a1 a2 a3 a4 a5 k, LeO (incunableref04_Place.f k a0 a1 a2 a3 a4 a5) (incunableref04_Place.f (k + 1) a0 a1 a2 a3 a4 a5) := by
 intro a0 a1 a2 a3 a4 a5 k; have ih0 := incunableref04_Place.mono_l k; unfold incunableref04_Place.f
 repeat' first
  | (with_reducible exact ih0 _ _ _ _ _ _ _)
  | (with_reducible exact LeO.refl _)
  | (with_reducible exact LeO.none _)
  | (with_reducible refine LeO.ite ?_ ?_)
  | (with_reducible refine LeO.bind ?_ (fun _ => ?_))
  | exact ih0 _ _ _ _ _ _ _
  | exact LeO.none _
  | refine LeO.ite ?_ ?_
  | refine LeO.bind ?_ (fun _ => ?_)
end Go.Proofs.Ytnadgcdkcabdoaa.U
namespace Go.Proofs.Ytnadgcdkcabdoaa.U
open Go.RowKit Go.Proofs.YtnadgcdkcabdoaaW.PrintWords Go.Proofs.YtnadgcdkcabdoaaW.PrintLast Go.Proofs.YtnadgcdkcabdoaaW.PrintMore
attribute [local go_sem] max2_int min2_int max_two min_two max_three min_three max_four min_four   -- for this text's walks alone
def incunableref04_Bits.l0 : Nat → List (S32) → Int → List (S32) → Int → Int → Bool → Int → Option (List Int × Bool)
  | 0, _, _, _, _, _, _, _ => none
  | k + 1, x0, x6, x13, x14, x15, x477000, x477001 => if x15 < x14 then (if 0 ≤ x15 then (if x15 < (x13.length : Int) then ((incunableref04_Place.f k ((rd_T32 x13 x15).f0) ((rd_T32 x13 x15).f1) ((rd_T32 x13 x15).f2) ((rd_T32 x13 x15).f3) x477000 x477001).bind fun bt479 => ((incunableref04_used.f ((rd_T32 x13 x15).f0) ((rd_T32 x13 x15).f1) ((rd_T32 x13 x15).f2) ((rd_T32 x13 x15).f3)).bind fun t481 => (if t481 = true then (if bt479.2 = true then (if x6 < 0 then (incunableref04_Bits.l0 k x0 x15 x13 x14 (wrap64 (x15 + 1)) x477000 x477001) else (if 0 ≤ x6 then (if x6 < (x0.length : Int) then (if (wrap64 (((rd_T32 x13 x15).f0) + ((rd_T32 x13 x15).f1))) < (wrap64 (((rd_T32 x0 x6).f0) + ((rd_T32 x0 x6).f1))) then (incunableref04_Bits.l0 k x0 x15 x13 x14 (wrap64 (x15 + 1)) x477000 x477001) else (incunableref04_Bits.l0 k x0 x6 x13 x14 (wrap64 (x15 + 1)) x477000 x477001)) else (none)) else (none))) else (incunableref04_Bits.l0 k x0 x6 x13 x14 (wrap64 (x15 + 1)) x477000 x477001)) else (incunableref04_Bits.l0 k x0 x6 x13 x14 (wrap64 (x15 + 1)) x477000 x477001)))) else (none)) else (none)) else (if x6 < 0 then (some (([] : List Int), false)) else (if 0 ≤ x6 then (if x6 < (x0.length : Int) then ((incunableref04_Place.f k ((rd_T32 x0 x6).f0) ((rd_T32 x0 x6).f1) ((rd_T32 x0 x6).f2) ((rd_T32 x0 x6).f3) x477000 x477001).bind fun bt485 => ((incunableref04_Code.f k x0 x6).bind fun t487 => ((incunableref04_digits.f k bt485.1 ((rd_T32 x0 x6).f1)).bind fun t491 => (if t487.length + t491.length < 140737488355328 then (some ((t487 ++ t491), true)) else (none))))) else (none)) else (none)))
def incunableref04_Bits.f (k : Nat) (l0 : List (S32)) (a1_0 : Bool) (a1_1 : Int) : Option (List Int × Bool) := incunableref04_Bits.l0 k l0 (-1) l0 (l0.length : Int) 0 a1_0 a1_1
theorem incunableref04_Bits.mono_l : ∀ k, (∀ y0 y1 y2 y3 y4 y5 y6, LeO (incunableref04_Bits.l0 k y0 y1 y2 y3 y4 y5 y6) (incunableref04_Bits.l0 (k + 1) y0 y1 y2 y3 y4 y5 y6))
  | 0 => fun _ _ _ _ _ _ _ r h => by simp [incunableref04_Bits.l0] at h
  | k + 1 => by
    have ih0 := incunableref04_Bits.mono_l k
    · intro y0 y1 y2 y3 y4 y5 y6
      unfold incunableref04_Bits.l0
      repeat' first
      | (with_reducible exact ih0 _ _ _ _ _ _ _)
      | (with_reducible exact incunableref04_Code.mono _ _ _)
      | (with_reducible exact incunableref04_Place.mono _ _ _ _ _ _ _)
      | (with_reducible exact incunableref04_digits.mono _ _ _)
      | (with_reducible exact LeO.refl _)
      | (with_reducible exact LeO.none _)
      | (with_reducible refine LeO.ite ?_ ?_)
      | (with_reducible refine LeO.bind ?_ (fun _ => ?_))
      | exact ih0 _ _ _ _ _ _ _
      | exact incunableref04_Code.mono _ _ _
      | exact incunableref04_Place.mono _ _ _ _ _ _ _
      | exact incunableref04_digits.mono _ _ _
      | exact LeO.none _
      | refine LeO.ite ?_ ?_
      | refine LeO.bind ?_ (fun _ => ?_)
theorem incunableref04_Bits.mono : ∀ a0 a1 a2 k, LeO (incunableref04_Bits.f k a0 a1 a2) (incunableref04_Bits.f (k + 1) a0 a1 a2) := by
 intro a0 a1 a2 k; have ih0 := incunableref04_Bits.mono_l k; unfold incunableref04_Bits.f
 repeat' first
  | (with_reducible exact ih0 _ _ _ _ _ _ _)
  | (with_reducible exact incunableref04_Code.mono _ _ _)
  | (with_reducible exact incunableref04_Place.mono _ _ _ _ _ _ _)
  | (with_reducible exact incunableref04_digits.mono _ _ _)
  | (with_reducible exact LeO.refl _)
  | (with_reducible exact LeO.none _)
  | (with_reducible refine LeO.ite ?_ ?_)
  | (with_reducible refine LeO.bind ?_ (fun _ => ?_))
  | exact ih0 _ _ _ _ _ _ _
  | exact incunableref04_Code.mono _ _ _
  | exact incunableref04_Place.mono _ _ _ _ _ _ _
  | exact incunableref04_digits.mono _ _ _
  | exact LeO.none _
  | refine LeO.ite ?_ ?_
  | refine LeO.bind ?_ (fun _ => ?_)
end Go.Proofs.Ytnadgcdkcabdoaa.U
namespace Go.Proofs.Ytnadgcdkcabdoaa.Cdx
open Go Go.RowKit Go.Proofs.YtnadgcdkcabdoaaW.PrintWords Go.Proofs.YtnadgcdkcabdoaaW.PrintLast Go.Proofs.YtnadgcdkcabdoaaW.PrintMore Go.Proofs.Ytnadgcdkcabdoaa.Aid Go.Proofs.Ytnadgcdkcabdoaa.U Go.Proofs.Ytnadgcdkcabdoaa.Tab
/-- The lowest n bits of a number, the highest first. -/
def digs (x : Int) (n : Nat) : List Int := (List.range n).map fun i => x / 2 ^ (n - 1 - i) % 2
theorem digs_len (x : Int) (n : Nat) : (digs x n).length = n := by simp [digs]
theorem and1 {x : Int} (h : 0 ≤ x) (h' : x < 9223372036854775808) : Go.bits .and .i64 x 1 = x % 2 :=
  bits_mask .i64 63 (by decide) (fun n a b => by rw [i64_w]; exact wrap_id (by omega) (by omega)) 1 (by decide) x h h'
theorem shr64 (x : Int) {m : Nat} (h : m ≤ 64) : shr .i64 x (m : Int) = x / 2 ^ m := by
  show x / 2 ^ min (m : Int).toNat 64 = x / 2 ^ m
  rw [Int.toNat_natCast, Nat.min_eq_left h]
theorem div_pos_le {x : Int} (h : 0 ≤ x) (m : Nat) : 0 ≤ x / 2 ^ m ∧ x / 2 ^ m ≤ x :=
  ⟨Int.ediv_nonneg h (Int.pow_nonneg (by decide)), Int.ediv_le_self _ h⟩
theorem pdig_loop (x : Int) (n : Nat) (hx : 0 ≤ x) (hx2 : x < 9223372036854775808) (hn : n ≤ 64) : ∀ (d i : Nat), i + d = n →
    Ev (fun k => prefix_digits.l0 k x n ((List.range n).map fun j => if j < i then x / 2 ^ (n - 1 - j) % 2 else 0) (n : Int) (i : Int)) (digs x n)
  | 0, i, hd => by
    refine ev_succ ?_
    simp only [prefix_digits.l0]
    refine ev_eq (ev_neg (by omega) (Ev.now _)) ?_
    unfold digs
    refine List.map_congr_left fun j hj => ?_
    have := List.mem_range.1 hj
    rw [if_pos (by omega)]
  | d + 1, i, hd => by
    have hi : i < n := by omega
    have hm : (n : Int) - 1 - i = ((n - 1 - i : Nat) : Int) := by omega
    have hq := div_pos_le hx (n - 1 - i)
    refine ev_succ ?_
    simp only [prefix_digits.l0]
    rw [wrap_id (n := (n : Int) - 1) (by omega) (by omega), wrap_id (n := (n : Int) - 1 - i) (by omega) (by omega), wrap_id (n := (i : Int) + 1) (by omega) (by omega), hm, shr64 x (by omega), and1 hq.1 (by omega), Int.toNat_natCast]
    refine ev_pos (by omega) (ev_pos (by omega) (ev_pos (by omega) (ev_pos (by simp; omega) ?_)))
    rw [set_range_map _ (fun j => if j < i + 1 then x / 2 ^ (n - 1 - j) % 2 else 0) i _ hi (by rw [if_pos (by omega)]; omega) (fun j hj hne => by
      by_cases c : j < i
      · rw [if_pos c, if_pos (by omega)]
      · rw [if_neg c, if_neg (by omega)])]
    exact pdig_loop x n hx hx2 hn d (i + 1) (by omega)
theorem pdig_ev (x : Int) (n : Nat) (hx : 0 ≤ x) (hx2 : x < 9223372036854775808) (hn : n ≤ 64) : Ev (fun k => prefix_digits.f k x (n : Int)) (digs x n) := by
  unfold prefix_digits.f
  refine ev_pos (by omega) (ev_pos (by rw [Int.toNat_natCast]; omega) ?_)
  simp only [Option.bind_some, Int.toNat_natCast, List.length_replicate]
  have h := pdig_loop x n hx hx2 hn n 0 (by omega)
  have e : ((List.range n).map fun j => if j < 0 then x / 2 ^ (n - 1 - j) % 2 else 0) = List.replicate n 0 := by
    rw [List.eq_replicate_iff]
    simp
  rw [e] at h
  exact h
/-- How much of 2^15 the lines in front of line i, among those of length L, take. -/
def front (L : Int) : Nat → List Ln → Int
  | _, [] => 0
  | i, x :: l => (if x.f0 < L then wS x else if x.f0 = L then (if 0 < i then wS x else 0) else 0) + front L (i - 1) l
theorem front_range {L : Int} : ∀ (t : List Ln) (i : Nat), (∀ x ∈ t, lineB x = true) → 0 ≤ front L i t ∧ front L i t ≤ sumI wS t
  | [], _, _ => by simp [front, sumI]
  | x :: l, i, h => by
    have h1 := front_range (L := L) l (i - 1) (fun y hy => h y (List.mem_cons_of_mem _ hy))
    have h2 := wS_range (h x List.mem_cons_self)
    simp only [front, sumI]
    split
    · omega
    · split
      · split <;> omega
      · omega
/-- The line's length. -/
abbrev len (t : List Ln) (i : Nat) : Int := (rd_T32 t (i : Int)).f0
/-- A line's code as a number. -/
def cnum (t : List Ln) (i : Nat) : Int := front (len t i) i t / 2 ^ (15 - len t i).toNat
end Go.Proofs.Ytnadgcdkcabdoaa.Cdx
namespace Go.Proofs.Ytnadgcdkcabdoaa.Cdy
open Go Go.RowKit Go.Proofs.YtnadgcdkcabdoaaW.PrintWords Go.Proofs.YtnadgcdkcabdoaaW.PrintLast Go.Proofs.YtnadgcdkcabdoaaW.PrintMore Go.Proofs.Ytnadgcdkcabdoaa.Aid Go.Proofs.Ytnadgcdkcabdoaa.U Go.Proofs.Ytnadgcdkcabdoaa.Tab Go.Proofs.Ytnadgcdkcabdoaa.Cdx
abbrev Cd := S84
/-- The code of line i, when the lines up to length L, and of L those in front of i, have theirs. -/
def cod (t : List Ln) (j : Nat) : Cd := ⟨cnum t j, len t j⟩
def outAt (t : List Ln) (L : Int) (i : Nat) : List Cd := (List.range t.length).map fun j => if len t j ≠ 0 ∧ (len t j < L ∨ (len t j = L ∧ j < i)) then cod t j else z84
theorem front_next {L : Int} : ∀ (t : List Ln) (n : Nat), t.length ≤ n → front L n t = front (L + 1) 0 t
  | [], _, _ => by simp [front]
  | x :: l, n, h => by
    have hn : l.length + 1 ≤ n := h
    simp only [front]
    rw [front_next l (n - 1) (by omega), show (0 : Nat) - 1 = 0 from rfl]
    congr 1
    by_cases c1 : x.f0 < L
    · rw [if_pos c1, if_pos (by omega)]
    · rw [if_neg c1]
      by_cases c2 : x.f0 = L
      · rw [if_pos c2, if_pos (by omega), if_pos (by omega)]
      · rw [if_neg c2, if_neg (by omega)]
        split <;> simp
theorem front_step {L : Int} : ∀ (t : List Ln) (i : Nat), i < t.length → front L (i + 1) t = front L i t + (if len t i = L then wS (rd_T32 t (i : Int)) else 0)
  | x :: l, 0, h => by
    have hx : rd_T32 (x :: l) ((0 : Nat) : Int) = x := rfl
    simp only [front, len, hx]
    by_cases c1 : x.f0 < L
    · rw [if_pos c1, if_pos c1, if_neg (by omega)]
      simp
    · rw [if_neg c1, if_neg c1]
      by_cases c2 : x.f0 = L
      · rw [if_pos c2, if_pos c2, if_pos c2]
        simp
        omega
      · rw [if_neg c2, if_neg c2, if_neg c2]
        simp
  | x :: l, i + 1, h => by
    have h1 : i < l.length := by simpa using h
    have hx : rd_T32 (x :: l) ((i + 1 : Nat) : Int) = rd_T32 l (i : Int) := by
      simp [rd_T32, List.getD_eq_getElem?_getD]
    have hs : front L (i + 1) l = front L i l + (if len l i = L then wS (rd_T32 l (i : Int)) else 0) := front_step l i h1
    simp only [front, len, hx, Nat.add_sub_cancel]
    rw [hs]
    simp only [len]
    rw [if_pos (show 0 < i + 1 + 1 by omega), if_pos (show 0 < i + 1 by omega), Int.add_assoc]
theorem front_one : ∀ (t : List Ln), (∀ x ∈ t, lineB x = true) → front 1 0 t = 0
  | [], _ => rfl
  | x :: l, h => by
    have hl := of_decide_eq_true (h x List.mem_cons_self)
    simp only [front]
    rw [show (0 : Nat) - 1 = 0 from rfl, front_one l (fun y hy => h y (List.mem_cons_of_mem _ hy))]
    by_cases c1 : x.f0 < 1
    · rw [if_pos c1, show wS x = 0 from if_pos (by omega)]
      rfl
    · rw [if_neg c1]
      split <;> simp
theorem outAt_len (t : List Ln) (L : Int) (i : Nat) : (outAt t L i).length = t.length := by simp [outAt]
theorem outAt_next (t : List Ln) (L : Int) (n : Nat) (h : t.length ≤ n) : outAt t L n = outAt t (L + 1) 0 := by
  unfold outAt
  refine List.map_congr_left fun j hj => ?_
  have := List.mem_range.1 hj
  by_cases c : len t j ≠ 0 ∧ (len t j < L ∨ (len t j = L ∧ j < n))
  · rw [if_pos c, if_pos ⟨c.1, .inl (by omega)⟩]
  · rw [if_neg c, if_neg (by omega)]
theorem pow_half {m : Nat} (h : 1 ≤ m) : (2 : Int) ^ m = 2 * 2 ^ (m - 1) := by
  obtain ⟨k, rfl⟩ : ∃ k, m = k + 1 := ⟨m - 1, by omega⟩
  rw [Nat.add_sub_cancel, Int.pow_succ, Int.mul_comm]
mutual
theorem codes_l0 (t : List Ln) (hv : vldP t) : ∀ (e : Nat) (L : Nat) (c p : Int), L + e = 16 → 1 ≤ L → (L ≤ 15 → p = L - 1 ∧ 2 * c * 2 ^ (15 - L) = front (L : Int) 0 t ∨ p = L ∧ c * 2 ^ (15 - L) = front (L : Int) 0 t) → 0 ≤ c → 1 ≤ p →
    Ev (fun k => prefix_codes.l0 k t (outAt t L 0) (L : Int) c p) (outAt t 16 0)
  | 0, L, c, p, hL, h1, hc, h0, hp => by
    refine ev_succ ?_
    simp only [prefix_codes.l0]
    refine ev_eq (ev_neg (by omega) (Ev.now _)) ?_
    rw [show (L : Int) = 16 by omega]
  | e + 1, L, c, p, hL, h1, hc, h0, hp => by
    have hF := front_range (L := (L : Int)) t 0 hv.2.1
    have hS := hv.2.2.2.2
    have hpw := pow15 (15 - L) (by omega)
    replace hc := hc (by omega)
    have hp1 : (L : Int) - p = 0 ∨ (L : Int) - p = 1 := by omega
    refine ev_succ ?_
    simp only [prefix_codes.l0]
    rw [wrap_id (n := (L : Int) - p) (by omega) (by omega)]
    refine ev_pos (by omega) (ev_pos (by omega) ?_)
    rcases hc with ⟨hp2, hc⟩ | ⟨hp2, hc⟩
    · have hc2 : 2 * c ≤ 32768 := by
        have : 2 * c * 1 ≤ 2 * c * 2 ^ (15 - L) := Int.mul_le_mul_of_nonneg_left hpw.1 (by omega)
        omega
      have hsh : shl .i64 c ((L : Int) - p) = 2 * c := by
        rw [show (L : Int) - p = 1 by omega]
        show IntKind.i64.wrap (c * 2 ^ 1) = 2 * c
        rw [i64_w, wrap_id (by omega) (by omega)]
        omega
      rw [hsh]
      exact codes_l1 t hv e L t.length 0 (2 * c) (by omega) h1 (by omega) (by simpa using hc) (by omega)
    · have hc2 : c ≤ 32768 := by
        have : c * 1 ≤ c * 2 ^ (15 - L) := Int.mul_le_mul_of_nonneg_left hpw.1 (by omega)
        omega
      have hsh : shl .i64 c ((L : Int) - p) = c := by
        rw [show (L : Int) - p = 0 by omega]
        show IntKind.i64.wrap (c * 2 ^ 0) = c
        rw [i64_w, wrap_id (by omega) (by omega)]
        omega
      rw [hsh]
      exact codes_l1 t hv e L t.length 0 c (by omega) h1 (by omega) (by simpa using hc) (by omega)
termination_by e _ _ _ _ _ _ _ => (e, 0)
theorem codes_l1 (t : List Ln) (hv : vldP t) : ∀ (e : Nat) (L : Nat) (d i : Nat) (c : Int), L + e = 15 → 1 ≤ L → i + d = t.length → c * 2 ^ (15 - L) = front (L : Int) i t → 0 ≤ c →
    Ev (fun k => prefix_codes.l1 k t (outAt t L i) (L : Int) t (t.length : Int) (i : Int) c (L : Int)) (outAt t 16 0)
  | e, L, 0, i, c, hL, h1, hd, hc, h0 => by
    have hF := front_range (L := (L : Int)) t i hv.2.1
    have hS := hv.2.2.2.2
    have ht := hv.1
    refine ev_succ ?_
    simp only [prefix_codes.l1]
    rw [wrap_id (n := (L : Int) + 1) (by omega) (by omega), outAt_next t L i (by omega), show (L : Int) + 1 = ((L + 1 : Nat) : Int) by omega]
    refine ev_neg (by omega) (codes_l0 t hv e (L + 1) c L (by omega) (by omega) ?_ h0 (by omega))
    intro hL15
    left
    refine ⟨by omega, ?_⟩
    have h2 := front_next (L := (L : Int)) t i (by omega)
    rw [pow_half (m := 15 - L) (by omega)] at hc
    rw [show ((L + 1 : Nat) : Int) = (L : Int) + 1 by omega, ← h2, ← hc, show 15 - (L + 1) = 15 - L - 1 by omega, Int.mul_comm 2 c, Int.mul_assoc]
  | e, L, d + 1, i, c, hL, h1, hd, hc, h0 => by
    have hi : i < t.length := by omega
    have hl := hv.2.1 _ (rdL_mem hi)
    have hl2 := of_decide_eq_true hl
    have ht := hv.1
    have hS := hv.2.2.2.2
    have hF := front_range (L := (L : Int)) t (i + 1) hv.2.1
    have hpw := pow15 (15 - L) (by omega)
    have hst := front_step (L := (L : Int)) t i hi
    have hlen : len t i = (rd_T32 t (i : Int)).f0 := rfl
    refine ev_succ ?_
    simp only [prefix_codes.l1]
    rw [wrap_id (n := (i : Int) + 1) (by omega) (by omega), outAt_len]
    refine ev_pos (by omega) (ev_pos (by omega) (ev_pos (by omega) ?_))
    by_cases cL : (rd_T32 t (i : Int)).f0 = (L : Int)
    · have hwe : wS (rd_T32 t (i : Int)) = 2 ^ (15 - L) := by
        unfold wS
        rw [if_neg (by omega), cL, show (15 - (L : Int)).toNat = 15 - L by omega]
      rw [hlen, if_pos cL, hwe, ← hc] at hst
      have hc2 : c ≤ 32768 := by
        have : c * 1 ≤ c * 2 ^ (15 - L) := Int.mul_le_mul_of_nonneg_left hpw.1 (by omega)
        omega
      refine ev_pos cL (ev_pos (by omega) ?_)
      rw [wrap_id (n := c + 1) (by omega) (by omega), Int.toNat_natCast]
      have hset : (outAt t L i).set i ⟨c, (L : Int)⟩ = outAt t L (i + 1) := by
        unfold outAt
        apply List.ext_getElem
        · simp
        intro j hj1 hj2
        simp at hj1 hj2
        rw [List.getElem_set]
        simp only [List.getElem_map, List.getElem_range]
        by_cases ej : i = j
        · subst ej
          rw [if_pos rfl, if_pos ⟨by omega, .inr ⟨by omega, by omega⟩⟩]
          unfold cod cnum
          rw [hlen, cL, show (15 - (L : Int)).toNat = 15 - L by omega, ← hc, Int.mul_ediv_cancel _ (by have := hpw.1; omega)]
        · rw [if_neg ej]
          by_cases cj : len t j ≠ 0 ∧ (len t j < L ∨ (len t j = L ∧ j < i))
          · rw [if_pos cj, if_pos ⟨cj.1, by omega⟩]
          · rw [if_neg cj, if_neg (by omega)]
      rw [hset]
      exact codes_l1 t hv e L d (i + 1) (c + 1) hL h1 (by omega) (by rw [hst, Int.add_mul]; omega) (by omega)
    · rw [hlen, if_neg cL, Int.add_zero, ← hc] at hst
      refine ev_neg cL ?_
      have hset : outAt t L i = outAt t L (i + 1) := by
        unfold outAt
        refine List.map_congr_left fun j hj => ?_
        by_cases cj : len t j ≠ 0 ∧ (len t j < L ∨ (len t j = L ∧ j < i))
        · rw [if_pos cj, if_pos ⟨cj.1, by omega⟩]
        · rw [if_neg cj, if_neg (fun hn => cj ⟨hn.1, by
            rcases hn.2 with h | ⟨h, h'⟩
            · exact .inl h
            · rcases Nat.lt_or_ge j i with h'' | h''
              · exact .inr ⟨h, h''⟩
              · have : j = i := by omega
                subst this
                exact absurd h cL⟩)]
      rw [hset]
      exact codes_l1 t hv e L d (i + 1) c hL h1 (by omega) hst.symm h0
termination_by e _ d _ _ _ _ _ _ _ => (e, d + 1)
end
end Go.Proofs.Ytnadgcdkcabdoaa.Cdy
namespace Go.Proofs.Ytnadgcdkcabdoaa.Cdz
open Go Go.RowKit Go.Proofs.YtnadgcdkcabdoaaW.PrintWords Go.Proofs.YtnadgcdkcabdoaaW.PrintLast Go.Proofs.YtnadgcdkcabdoaaW.PrintMore Go.Proofs.Ytnadgcdkcabdoaa.Aid Go.Proofs.Ytnadgcdkcabdoaa.U Go.Proofs.Ytnadgcdkcabdoaa.Tab Go.Proofs.Ytnadgcdkcabdoaa.Cdx Go.Proofs.Ytnadgcdkcabdoaa.Cdy
/-- The codes of all lines. -/
def codesL (t : List Ln) : List Cd := outAt t 16 0
theorem codes_ev (t : List Ln) (hv : vldP t) : Ev (fun k => prefix_codes.f k t) (codesL t) := by
  have ht := hv.1
  unfold prefix_codes.f
  refine ev_pos (by omega) (ev_pos (by rw [Int.toNat_natCast]; omega) ?_)
  rw [Int.toNat_natCast]
  have h := codes_l0 t hv 15 1 0 1 (by omega) (by omega) (fun _ => .inr ⟨rfl, by rw [show ((1 : Nat) : Int) = 1 from rfl, front_one t hv.2.1]; simp⟩) (by omega) (by omega)
  have e : outAt t 1 0 = List.replicate t.length z84 := by
    rw [List.eq_replicate_iff]
    refine ⟨by simp [outAt], fun b hb => ?_⟩
    obtain ⟨j, hj, rfl⟩ := List.mem_map.1 hb
    have hl := of_decide_eq_true (hv.2.1 _ (rdL_mem (List.mem_range.1 hj)))
    have hlen : len t j = (rd_T32 t (j : Int)).f0 := rfl
    rw [if_neg (by omega)]
  rw [show ((1 : Nat) : Int) = 1 from rfl, e] at h
  exact h
theorem codesL_len (t : List Ln) : (codesL t).length = t.length := outAt_len t 16 0
theorem codesL_at (t : List Ln) (hv : vldP t) (i : Nat) (hi : i < t.length) : rd_T84 (codesL t) (i : Int) = if len t i = 0 then z84 else cod t i := by
  have hl := of_decide_eq_true (hv.2.1 _ (rdL_mem hi))
  have hlen : len t i = (rd_T32 t (i : Int)).f0 := rfl
  have h1 : rd_T84 (codesL t) (i : Int) = (codesL t)[i]'(by rw [codesL_len]; exact hi) := by
    unfold rd_T84
    rw [Int.toNat_natCast, List.getD_eq_getElem?_getD, List.getElem?_eq_getElem (by rw [codesL_len]; exact hi)]
    rfl
  rw [h1]
  simp only [codesL, outAt, List.getElem_map, List.getElem_range]
  by_cases c : len t i = 0
  · rw [if_pos c, if_neg (fun h => h.1 c)]
  · rw [if_neg c, if_pos ⟨c, .inl (by omega)⟩]
/-- How far a number is from a line's. -/
def dd (x : Ln) (n : Int) : Int := if x.f3 = 1 then x.f2 - n else n - x.f2
def inB (x : Ln) (nn : Bool) (n : Int) : Bool := if nn = true ∨ x.f3 = 2 then nn && (n == 0) && (x.f3 == 2) else decide (-4194304 ≤ n ∧ n ≤ 4194304 ∧ 0 ≤ dd x n ∧ dd x n < 2 ^ x.f1.toNat)
def offV (x : Ln) (nn : Bool) (n : Int) : Int := if nn = true ∨ x.f3 = 2 then 0 else dd x n
theorem shl_b : ∀ n, n < 21 → shl .i64 1 (n : Nat) = 2 ^ n := by decide
theorem shl_bits {x : Ln} (h : lineB x = true) : shl .i64 1 x.f1 = 2 ^ x.f1.toNat := by
  have h1 := of_decide_eq_true h
  obtain ⟨n, hn⟩ : ∃ n : Nat, x.f1 = n := ⟨x.f1.toNat, by omega⟩
  rw [hn, Int.toNat_natCast]
  exact shl_b n (by omega)
theorem offset_ev (x : Ln) (nn : Bool) (n : Int) (hx : lineB x = true) (hn : -9223372036854775808 ≤ n ∧ n ≤ 9223372036854775807) : ∃ v, Ev (fun k => prefix_offset.f k x.f0 x.f1 x.f2 x.f3 nn n) (v, inB x nn n) ∧ (inB x nn n = true → v = offV x nn n) := by
  have hl := of_decide_eq_true hx
  have hs := shl_bits hx
  unfold prefix_offset.f inB offV
  by_cases c : nn = true ∨ x.f3 = 2
  · rw [if_pos c, if_pos c]
    refine ⟨0, ?_, fun _ => rfl⟩
    have key : ∀ b : Bool, b = true → Ev (fun k => prefix_offset.j0 k b x.f0 x.f1 x.f2 x.f3 nn n) ((0 : Int), nn && (n == 0) && (x.f3 == 2)) := by
      intro b hb
      subst hb
      refine ev_succ ?_
      simp only [prefix_offset.j0]
      refine ev_pos trivial ?_
      by_cases cn : nn = true
      · refine ev_pos cn ?_
        by_cases c0 : n = 0
        · exact ev_pos c0 (ev_eq (Ev.now _) (by simp [cn, c0]))
        · exact ev_neg c0 (ev_eq (Ev.now _) (by simp [c0]))
      · exact ev_neg cn (ev_eq (Ev.now _) (by simp [cn]))
    by_cases cn : nn = true
    · exact ev_pos cn (key true rfl)
    · exact ev_neg cn (key _ (by rcases c with h | h; exact absurd h cn; simp [h]))
  · rw [if_neg c, if_neg c]
    have cn : ¬ nn = true := fun h => c (.inl h)
    have c3 : ¬ x.f3 = 2 := fun h => c (.inr h)
    have e3 : (x.f3 == 2) = false := by simpa using c3
    rw [e3]
    have far : ∀ b : Bool, b = decide (n < -4194304 ∨ n > 4194304) → ∃ v, Ev (fun k => prefix_offset.j1 k b x.f0 x.f1 x.f2 x.f3 nn n) (v, decide (-4194304 ≤ n ∧ n ≤ 4194304 ∧ 0 ≤ dd x n ∧ dd x n < 2 ^ x.f1.toNat)) ∧ (decide (-4194304 ≤ n ∧ n ≤ 4194304 ∧ 0 ≤ dd x n ∧ dd x n < 2 ^ x.f1.toNat) = true → v = dd x n) := by
      intro b hb
      by_cases cf : n < -4194304 ∨ n > 4194304
      · rw [decide_eq_true cf] at hb
        subst hb
        have e : decide (-4194304 ≤ n ∧ n ≤ 4194304 ∧ 0 ≤ dd x n ∧ dd x n < 2 ^ x.f1.toNat) = false := decide_eq_false (by omega)
        rw [e]
        refine ⟨0, ev_succ ?_, fun h => by simp at h⟩
        simp only [prefix_offset.j1]
        exact ev_pos trivial (Ev.now _)
      · rw [decide_eq_false cf] at hb
        subst hb
        refine ⟨dd x n, ev_succ ?_, fun _ => rfl⟩
        simp only [prefix_offset.j1]
        refine ev_neg (by decide) ?_
        rw [hs]
        by_cases c1 : x.f3 = 1
        · have hdd : dd x n = x.f2 - n := if_pos c1
          refine ev_pos c1 ?_
          rw [wrap_id (n := n - x.f2) (by omega) (by omega), wrap_id (n := -(n - x.f2)) (by omega) (by omega), show -(n - x.f2) = dd x n by omega]
          by_cases c0 : dd x n ≥ 0
          · refine ev_pos c0 (ev_pos (by omega) (ev_eq (Ev.now _) ?_))
            congr 1
            by_cases cl : dd x n < 2 ^ x.f1.toNat
            · rw [decide_eq_true cl]; symm; exact decide_eq_true ⟨by omega, by omega, c0, cl⟩
            · rw [decide_eq_false cl]; symm; exact decide_eq_false (fun h => cl h.2.2.2)
          · refine ev_neg c0 (ev_eq (Ev.now _) ?_)
            congr 1
            symm; exact decide_eq_false (fun h => c0 h.2.2.1)
        · have hdd : dd x n = n - x.f2 := if_neg c1
          refine ev_neg c1 ?_
          rw [wrap_id (n := n - x.f2) (by omega) (by omega), ← hdd]
          by_cases c0 : dd x n ≥ 0
          · refine ev_pos c0 (ev_pos (by omega) (ev_eq (Ev.now _) ?_))
            congr 1
            by_cases cl : dd x n < 2 ^ x.f1.toNat
            · rw [decide_eq_true cl]; symm; exact decide_eq_true ⟨by omega, by omega, c0, cl⟩
            · rw [decide_eq_false cl]; symm; exact decide_eq_false (fun h => cl h.2.2.2)
          · refine ev_neg c0 (ev_eq (Ev.now _) ?_)
            congr 1
            symm; exact decide_eq_false (fun h => c0 h.2.2.1)
    by_cases cl : n < -4194304
    · obtain ⟨v, hv, hw⟩ := far true (by symm; exact decide_eq_true (.inl cl))
      refine ⟨v, ev_neg cn (ev_succ ?_), hw⟩
      simp only [prefix_offset.j0]
      exact ev_neg (by decide) (ev_pos cl hv)
    · obtain ⟨v, hv, hw⟩ := far (decide (n > 4194304)) (by
        by_cases c4 : n > 4194304
        · rw [decide_eq_true c4]; symm; exact decide_eq_true (.inr c4)
        · rw [decide_eq_false c4]; symm; exact decide_eq_false (by omega))
      refine ⟨v, ev_neg cn (ev_succ ?_), hw⟩
      simp only [prefix_offset.j0]
      exact ev_neg (by decide) (ev_neg cl hv)
/-- The line by which a number is coded, among the first i: one more than its place; 0: none. -/
def pick (t : List Ln) (nn : Bool) (n : Int) : Nat → Option Nat
  | 0 => none
  | i + 1 => if inB (rd_T32 t (i : Int)) nn n = true ∧ (rd_T32 t (i : Int)).f0 > 0 ∧ (∀ b, pick t nn n i = some b → (rd_T32 t (i : Int)).f0 + (rd_T32 t (i : Int)).f1 < (rd_T32 t (b : Int)).f0 + (rd_T32 t (b : Int)).f1) then some i else pick t nn n i
theorem pick_lt (t : List Ln) (nn : Bool) (n : Int) : ∀ i b, pick t nn n i = some b → b < i ∧ inB (rd_T32 t (b : Int)) nn n = true ∧ (rd_T32 t (b : Int)).f0 > 0
  | 0, b, h => by simp [pick] at h
  | i + 1, b, h => by
    unfold pick at h
    split at h
    · rename_i hc
      injection h with h
      subst h
      exact ⟨Nat.lt_succ_self _, hc.1, hc.2.1⟩
    · have := pick_lt t nn n i b h
      exact ⟨by omega, this.2⟩
def enc (o : Option Nat) : Int := match o with | none => -1 | some b => (b : Int)
def encD (t : List Ln) (nn : Bool) (n : Int) (o : Option Nat) : Int := match o with | none => 0 | some b => offV (rd_T32 t (b : Int)) nn n
end Go.Proofs.Ytnadgcdkcabdoaa.Cdz
namespace Go.Proofs.Ytnadgcdkcabdoaa.Rdp
open Go Go.RowKit Go.Proofs.YtnadgcdkcabdoaaW.PrintWords Go.Proofs.YtnadgcdkcabdoaaW.PrintLast Go.Proofs.YtnadgcdkcabdoaaW.PrintMore Go.Proofs.Ytnadgcdkcabdoaa.Aid Go.Proofs.Ytnadgcdkcabdoaa.HandAid
/-- A reader at block g of W: its bytes, and how many bits are read. -/
def IsRdr (W : World) (g : Nat) (b : List Int) (at' : Int) : Prop := ∃ v, W.heap[g]? = some (.cells #[v, .int .i64 at', .bool true] 114 (0, 0)) ∧ Kd.R (Kd.int .u8) 5 W 0 (fun _ => True) v b
theorem none_cell (w : World) (g : Nat) (real : Bool) (h2 : w.cell? ⟨g, 2, none⟩ = some (.bool real)) : Calls Try.prog 68 #[.pointer (some ⟨g, 0, none⟩)] w fun e w' => e = .returned (.bool (!real)) ∧ w = w' := by
  go_enter Try.func68, Try.ntmps68
  go_wp2
  go_ret
  exact ⟨rfl, rfl⟩
theorem left_real (w : World) (g : Nat) (A : Option Addr) (n c : Nat) (at' : Int) (h0 : w.cell? ⟨g, 0, none⟩ = some (.slice A n c)) (h1 : w.cell? ⟨g, 1, none⟩ = some (.int .i64 at')) (h2 : w.cell? ⟨g, 2, none⟩ = some (.bool true)) (hn : n ≤ 140737488355328) (ha : 0 ≤ at') (hb : at' ≤ 1125899906842624) :
    Calls Try.prog 75 #[.pointer (some ⟨g, 0, none⟩)] w fun e w' => e = .returned (.int .i64 (8 * (n : Int) - at')) ∧ ∃ m, w' = w.drewN m := by
  go_enter Try.func75, Try.ntmps75
  go_wp2_with (go_at_call 68; refine (none_cell _ _ _ h2).mono ?_; rintro e w' ⟨rfl, rfl⟩)
  go_quiet (fail)
  go_wp2
  go_ret
  exact ⟨rfl, _, rfl⟩
/-- The number that the bits from a place on are. -/
def bitsAt (b : List Int) (i : Int) : Nat → Int
  | 0 => 0
  | d + 1 => 2 * bitsAt b i d + bitOf b (i + d)
theorem bitsAt_range (b : List Int) (i : Int) : ∀ d : Nat, 0 ≤ bitsAt b i d ∧ bitsAt b i d < 2 ^ d
  | 0 => by simp [bitsAt]
  | d + 1 => by
    have := bitsAt_range b i d
    have h := bitOf_range b (i + d)
    rw [Int.pow_succ]
    unfold bitsAt
    omega
theorem bits_real (n : Int) (w : World) (g : Nat) (b : List Int) (at' : Int) (h : IsRdr w g b at') (hb : Bytes b) (hn0 : 0 ≤ n) (hn1 : n ≤ 32) (hl : b.length ≤ 140737488355328) (ha : 0 ≤ at') (hfit : at' + n ≤ 8 * b.length) :
    Calls Try.prog 67 #[.pointer (some ⟨g, 0, none⟩), .int .i64 n] w fun e w' => e = .returned (.tuple #[.int .i64 (bitsAt b at' n.toNat), .int .i64 0]) ∧ IsRdr w' g b (at' + n) ∧ w.grownBy w' (some g) := by
  obtain ⟨v, hblk, hR⟩ := h
  obtain ⟨A, c, rfl⟩ := Kd.R_slice hR
  have h0 : w.cell? ⟨g, 0, none⟩ = some (.slice A b.length c) := (blk_cell hblk 0).trans rfl
  have h1 : w.cell? ⟨g, 1, none⟩ = some (.int .i64 at') := (blk_cell hblk 1).trans rfl
  have h2 : w.cell? ⟨g, 2, none⟩ = some (.bool true) := (blk_cell hblk 2).trans rfl
  have hn2 : ¬ n < 0 := by omega
  have hn3 : ¬ n > 32 := by omega
  have hn4 : ¬ n > 8 * (b.length : Int) - at' := by omega
  have HBLK := Aside0.mk hblk
  clear hblk
  go_enter Try.func67, Try.ntmps67
  go_wp2_with (first | (go_at_call 68; refine (none_cell _ _ _ h2).mono ?_; rintro e w' ⟨rfl, rfl⟩) | (go_at_call 75; refine (left_real _ _ _ _ _ _ h0 h1 h2 hl ha (by omega)).mono ?_; rintro e w1 ⟨rfl, m, rfl⟩))
  go_loopw [6, 23] (fun x i wr => ∃ j : Nat, (j : Int) ≤ n ∧ x = .int .i64 (bitsAt b at' j) ∧ i = .int .i64 j ∧ Aside0 (wr.heap[g]? = some (.cells #[.slice A b.length c, .int .i64 (at' + j), .bool true] 114 (0, 0))) ∧ Aside0 (Kd.R (Kd.int .u8) 5 wr 0 (fun _ => True) (.slice A b.length c) b) ∧ Aside0 (w.grownBy wr (some g))) (fun _ i _ => (n - intOf i).toNat)
  case atStart => exact ⟨0, by omega, rfl, rfl, ⟨by simpa using HBLK.out⟩, ⟨Kd.R_drewN hR m⟩, ⟨rfl, rfl, rfl, Nat.le_refl _, fun _ _ _ => rfl⟩⟩
  case round =>
    obtain ⟨j, hj, rfl, rfl, hq, hR', hg⟩ := hrel
    by_cases hlt : (j : Int) < n
    · have q0 : wr.cell? ⟨g, 0, none⟩ = some (.slice A b.length c) := (blk_cell hq.out 0).trans rfl
      have q1 : wr.cell? ⟨g, 1, none⟩ = some (.int .i64 (at' + j)) := (blk_cell hq.out 1).trans rfl
      obtain ⟨ad, rfl, hd⟩ := Kd.at_int (Kd.R_reads' hR'.out).2.2 ((at' + j) / 8) (by omega) (by omega)
      have hbr := bytes_rdI hb (i := (at' + j) / 8) (by omega) (by omega)
      have hx := bitsAt_range b at' j
      have hp : (2 : Int) ^ j ≤ 2 ^ 32 := by
        have : j ≤ 32 := by omega
        exact_mod_cast Nat.pow_le_pow_right (by omega) this
      have hfz := blk_frozen hq.out 1
      have hbo := bitOf_range b (at' + j)
      have he : Go.bits .and .u8 (rd b ((at' + j) / 8) / 2 ^ (7 - (at' + j) % 8).toNat) 1 = bitOf b (at' + j) := and_one (Int.ediv_nonneg hbr.1 (Int.pow_nonneg (by decide))) (Int.lt_of_le_of_lt (Int.ediv_le_self _ hbr.1) (by omega))
      go_wp2
      go_quiet (fail)
      go_wp2
      go_roundw
      case rel =>
        refine ⟨j + 1, by omega, ?_, by go_num, ⟨?_⟩, ⟨?_⟩, ⟨?_⟩⟩
        · rfl
        · rw [show (at' + ((j + 1 : Nat) : Int)) = at' + j + 1 by omega]
          simpa using blk_set (w := wr.drewN nq) hq.out 1 (.int .i64 (at' + j + 1))
        · exact Kd.R_set hR'.out hq.out (by decide) _ _
        · exact grown_set (grown_drewN hg.out nq)
      case measure => simp [intOf]; omega
    · have hj' : n = (j : Int) := by omega
      subst hj'
      go_wp2
      go_ret2
      exact ⟨ret2_int (by simp) rfl, ⟨_, hq.out, hR'.out⟩, hg.out⟩
theorem bits_end (n : Int) (w : World) (g : Nat) (b : List Int) (at' : Int) (h : IsRdr w g b at') (hn0 : 0 ≤ n) (hn1 : n ≤ 32) (hl : b.length ≤ 140737488355328) (ha : 0 ≤ at') (ha2 : at' ≤ 8 * b.length) (hfit : 8 * b.length < at' + n) :
    Calls Try.prog 67 #[.pointer (some ⟨g, 0, none⟩), .int .i64 n] w fun e w' => e = .returned (.tuple #[.int .i64 0, .int .i64 6]) ∧ ∃ m, w' = w.drewN m := by
  obtain ⟨v, hblk, hR⟩ := h
  obtain ⟨A, c, rfl⟩ := Kd.R_slice hR
  have h0 : w.cell? ⟨g, 0, none⟩ = some (.slice A b.length c) := (blk_cell hblk 0).trans rfl
  have h1 : w.cell? ⟨g, 1, none⟩ = some (.int .i64 at') := (blk_cell hblk 1).trans rfl
  have h2 : w.cell? ⟨g, 2, none⟩ = some (.bool true) := (blk_cell hblk 2).trans rfl
  have hn2 : ¬ n < 0 := by omega
  have hn3 : ¬ n > 32 := by omega
  have hn4 : n > 8 * (b.length : Int) - at' := by omega
  go_enter Try.func67, Try.ntmps67
  go_wp2_with (first | (go_at_call 68; refine (none_cell _ _ _ h2).mono ?_; rintro e w' ⟨rfl, rfl⟩) | (go_at_call 75; refine (left_real _ _ _ _ _ _ h0 h1 h2 hl ha (by omega)).mono ?_; rintro e w1 ⟨rfl, m, rfl⟩))
  go_ret2
  exact ⟨rfl, _, rfl⟩
theorem at_real (w : World) (g : Nat) (at' : Int) (h1 : w.cell? ⟨g, 1, none⟩ = some (.int .i64 at')) (h2 : w.cell? ⟨g, 2, none⟩ = some (.bool true)) : Calls Try.prog 60 #[.pointer (some ⟨g, 0, none⟩)] w fun e w' => e = .returned (.int .i64 at') ∧ w = w' := by
  go_enter Try.func60, Try.ntmps60
  go_wp2_with (go_at_call 68; refine (none_cell _ _ _ h2).mono ?_; rintro e w' ⟨rfl, rfl⟩)
  go_ret
  exact ⟨rfl, rfl⟩
theorem new_reader (A0 : Option Addr) (c0 : Nat) (l0 : List Int) (w : World) (hr0 : Kd.C (Kd.int .u8) w A0 l0.length l0) (hc0 : l0.length ≤ c0) (hl : l0.length ≤ 140737488355328) :
    Calls Try.prog 66 #[.slice A0 l0.length c0] w fun e w' => ∃ g, e = .returned (.pointer (some ⟨g, 0, none⟩)) ∧ w.heap.size ≤ g ∧ IsRdr w' g l0 0 ∧ Below w.heap.size w w' := by
  have HR0 := Aside0.mk hr0
  have HC0 := Aside0.mk hc0
  clear hr0 hc0
  have HB := Aside0.mk (Below.refl w.heap.size w)
  go_enter Try.func66, Try.ntmps66
  go_wp2_with (first | ((with_reducible refine gate_dst (N := 3) rfl ?_); refine Kd.R_lit (Kd.int .u8) _ 5 ?hg (N := 3) ?hd (xs := ([] : List Int)) (inner := []) (ok := fun _ => True) (okp := fun _ => True) ?hr ?hp (fun _ hk => hk) trivial (Below.refl _ _) (Nat.le_refl _) (by simp) ?_; (case hd => rfl); (case hg => rfl); (case hr => first | (go_simp; done) | (go_simp; rfl)); (case hp => exact (Reps.none _ _)); intro v140 w3 ho4 hb hg_ hnew_; clear hg_ hnew_; have HO := Aside0.mk (Kd.R_lower ho4 (Nat.le_refl _)); have HB1 := Aside0.mk hb; clear hb ho4) | ((with_reducible refine gate_builtin (b := .append) (xs := #[.tmp 3, .tmp 4]) rfl ?_); at_builtin; refine Kd.R_append_rows (Kd.int .u8) (w0 := w) w.heap.size rfl (.tmp 3) (.tmp 4) 46 5 (.int .u8 0) 1 rfl Try.underlying46 infoU8 rfl (by decide) (by omega) v140 ([] : List Int) l0 _ _ _ (fun _ => True) (fun _ => False) rfl rfl ?aO ?aR (fun _ _ h => h) (fun _ h => h.elim) (fun _ _ => trivial) ?aB ?aS ?aL ?_; (case aR => exact Kd.C_below HR0.out HB1.out); (case aB => exact HB1.out); (case aO => exact HO.out); (case aS => exact HB1.out.size); (case aL => have hz : ([] : List Int).length = 0 := rfl; omega); intro v143 w5 ho hb hg hat; obtain ⟨A1, c1, rfl⟩ := Kd.R_slice ho; have HO2 := Aside0.mk ho; have HB2 := Aside0.mk hb; clear ho hb hg hat HO HB1))
  go_ret
  exact ⟨_, rfl, HB2.out.size, ⟨_, by simpa using heap_alloc_new _ _, Kd.R_lower (Kd.R_alloc HO2.out _) (Nat.zero_le _)⟩, below_alloc HB2.out _⟩
theorem IsRdr.drewN {W : World} {g : Nat} {b : List Int} {at' : Int} (h : IsRdr W g b at') (m : Nat) : IsRdr (W.drewN m) g b at' := by
  obtain ⟨v, hblk, hR⟩ := h
  exact ⟨v, hblk, Kd.R_drewN hR m⟩
theorem IsRdr.below {W W' : World} {g : Nat} {b : List Int} {at' : Int} (h : IsRdr W g b at') (hB : Below W.heap.size W W') : IsRdr W' g b at' := by
  obtain ⟨v, hblk, hR⟩ := h
  exact ⟨v, (hB.block g (blk_lt hblk)).trans hblk, Kd.R_below hR hB⟩
theorem IsRdr.cells {W : World} {g : Nat} {b : List Int} {at' : Int} (h : IsRdr W g b at') : ∃ A c, W.cell? ⟨g, 0, none⟩ = some (.slice A b.length c) ∧ W.cell? ⟨g, 1, none⟩ = some (.int .i64 at') ∧ W.cell? ⟨g, 2, none⟩ = some (.bool true) := by
  obtain ⟨v, hblk, hR⟩ := h
  obtain ⟨A, c, rfl⟩ := Kd.R_slice hR
  exact ⟨A, c, (blk_cell hblk 0).trans rfl, (blk_cell hblk 1).trans rfl, (blk_cell hblk 2).trans rfl⟩
end Go.Proofs.Ytnadgcdkcabdoaa.Rdp
namespace Go.Proofs.Ytnadgcdkcabdoaa.Mpp
open Go Go.RowKit Go.Proofs.YtnadgcdkcabdoaaW.PrintWords Go.Proofs.YtnadgcdkcabdoaaW.PrintLast Go.Proofs.YtnadgcdkcabdoaaW.PrintMore Go.Proofs.Ytnadgcdkcabdoaa.Aid Go.Proofs.Ytnadgcdkcabdoaa.HandAid
/-- The key of bits and how many. -/
abbrev kv (v m : Int) : Value := .agg #[.int .i64 v, .int .i64 m]
theorem keyed : Maps.Keyed Try.prog 84 := Maps.Keyed.of_law (deep_law (m := 4) (by omega) (by kernel_rfl) (by kernel_rfl) (by kernel_rfl))
noncomputable def kl (v m : Int) : Lit := @Classical.epsilon Lit ⟨.bool true⟩ (fun l => keyOf Try.prog 84 (kv v m) = some l)
theorem wf64_of {v : Int} (h : -9223372036854775808 ≤ v ∧ v ≤ 9223372036854775807) : (Lit.int .i64 v).wf = true := by
  show (decide (IntKind.i64.min ≤ v) && decide (v ≤ IntKind.i64.max)) = true
  rw [show IntKind.i64.min = -9223372036854775808 from by decide, show IntKind.i64.max = 9223372036854775807 from by decide]
  simpa using h
theorem kl_key {v m : Int} (hv : (Lit.int .i64 v).wf = true) (hm : (Lit.int .i64 m).wf = true) : keyOf Try.prog 84 (kv v m) = some (kl v m) := by
  have h : ∃ l, keyOf Try.prog 84 (kv v m) = some l := by
    have hk : Try.prog.keyType 84 = true := by kernel_rfl
    have hu := Try.underlying84
    have hc : Try.prog.cellsOf 84 = 2 := by kernel_rfl
    have hci : Try.prog.cellsOf 3 = 1 := by kernel_rfl
    have hui := Try.underlying3
    have hf : (kv v m).formed Try.prog 84 = true := by
      simp [Value.formed, hu, hc]
    have hl : Try.prog.keyLits (Try.prog.types.size + 1) 84 (kv v m).cells.toList = some [.int .i64 v, .int .i64 m] := by
      obtain ⟨d, hd⟩ : ∃ d, Try.prog.types.size + 1 = d + 2 := ⟨Try.prog.types.size - 1, by have := of_decide_eq_true (show decide (1 ≤ Try.prog.types.size) = true by kernel_rfl); omega⟩
      rw [hd]
      simp [Program.keyLits, hu, hui, hc, hci, Value.cells, hv, hm]
    unfold keyOf
    rw [hu]
    simp only
    rw [hk, hf, hl]
    exact ⟨_, rfl⟩
  exact Classical.epsilon_spec h
theorem kl_inj {v m v' m' : Int} (hv : (Lit.int .i64 v).wf = true) (hm : (Lit.int .i64 m).wf = true) (hv' : (Lit.int .i64 v').wf = true) (hm' : (Lit.int .i64 m').wf = true) (h : kl v m = kl v' m') : v = v' ∧ m = m' := by
  have h1 := kl_key hv hm
  rw [h] at h1
  have h2 := keyed.inj h1 (kl_key hv' hm')
  injection h2 with h2
  have h3 := congrArg Array.toList h2
  simpa using h3
/-- Block b of w is a map, made here, that has at the keys (bits, how many) just the values that g tells. -/
def InMap (e : TypeId) (w : World) (b n : Nat) (g : Int → Int → Option Lit) : Prop :=
  ∃ D : DataW Unit, w.ownsMap Try.prog 84 (plainElem Try.prog e) b n D ∧ ∀ v m, (Lit.int .i64 v).wf = true → (Lit.int .i64 m).wf = true → ∀ zd, D.atKey (kl v m) zd = (match g v m with | none => zd | some x => .lit x)
theorem InMap.heap {e : TypeId} {w w' : World} {b n : Nat} {g : Int → Int → Option Lit} (h : InMap e w b n g) (hh : w'.heap[b]? = w.heap[b]?) : InMap e w' b n g := by
  obtain ⟨D, ⟨es, clock, hb, F, hs, hD⟩, ha⟩ := h
  exact ⟨D, ⟨es, clock, hh.trans hb, F, hs, hD⟩, ha⟩
theorem InMap.blk {e : TypeId} {w : World} {b n : Nat} {g : Int → Int → Option Lit} (h : InMap e w b n g) : ∃ es clock, w.heap[b]? = some (.map es clock) := by
  obtain ⟨D, ⟨es, clock, hb, F, hs, hD⟩, ha⟩ := h
  exact ⟨es, clock, hb⟩
theorem InMap.same {e : TypeId} {w : World} {b n : Nat} {g g' : Int → Int → Option Lit} (h : InMap e w b n g) (hg : ∀ v m, g v m = g' v m) : InMap e w b n g' := by
  obtain rfl : g = g' := funext fun v => funext fun m => hg v m
  exact h
theorem InMap.made (e : TypeId) (w : World) : InMap e (w.alloc (.map #[] 0)) w.heap.size 0 (fun _ _ => none) := by
  refine ⟨.map [], World.ownsMap_made w _ _ _, fun v m _ _ zd => ?_⟩
  rfl
theorem look {e t : TypeId} {w : World} {b n : Nat} {g : Int → Int → Option Lit} (h : InMap e w b n g) (ht : Try.prog.underlying t = some (.map 84 e)) {z : Value} (hz : ∀ w : World, (zeroValue e).run Try.prog w = .ok z w) {v m : Int} (hv : (Lit.int .i64 v).wf = true) (hm : (Lit.int .i64 m).wf = true) (c : Bool) :
    (g v m = none ∧ (Instr.lookup t (.map (some b)) (kv v m) c).run Try.prog w = .ok (if c then .tuple #[z, .bool false] else z) w) ∨
    ∃ x val ps, g v m = some x ∧ plainElem (H := Unit) Try.prog e val = some (.lit x, ps) ∧ (Instr.lookup t (.map (some b)) (kv v m) c).run Try.prog w = .ok (if c then .tuple #[val, .bool true] else val) w := by
  obtain ⟨D, ⟨es, clock, hb, F, hs, rfl⟩, ha⟩ := h
  have hat := ha v m hv hm
  rcases Maps.fit_look c keyed ht (hz w) hb F (kl_key hv hm) with ⟨hrun, _, hat2⟩ | ⟨e0, y, _, _, hrun, hRv, hat2, _⟩
  · refine .inl ⟨?_, hrun⟩
    have h1 := hat2 .nil
    rw [hat .nil] at h1
    cases hg : g v m with
    | none => rfl
    | some x => rw [hg] at h1; cases h1
  · refine .inr ?_
    cases hg : g v m with
    | none =>
      have h1 := hat2 .nil
      have h2 := hat2 (.lit (.bool true))
      rw [hat, hg] at h1
      rw [hat, hg, ← h1] at h2
      cases h2
    | some x =>
      have h1 := hat2 .nil
      rw [hat, hg] at h1
      obtain ⟨y1, y2⟩ := y
      simp only at h1
      subst h1
      exact ⟨x, e0.val, y2, rfl, hRv, hrun⟩
theorem store {e t : TypeId} {w : World} {b n : Nat} {g : Int → Int → Option Lit} (h : InMap e w b n g) (ht : Try.prog.underlying t = some (.map 84 e)) (hn : n < maxLen) {v m : Int} (hv : (Lit.int .i64 v).wf = true) (hm : (Lit.int .i64 m).wf = true) {val : Value} {x : Lit} {ps : List MemPlace} (hval : plainElem (H := Unit) Try.prog e val = some (.lit x, ps)) :
    ∃ w', (Instr.mapUpdate t (.map (some b)) (kv v m) val).run Try.prog w = .ok () w' ∧ InMap e w' b (n + 1) (fun v' m' => if v' = v ∧ m' = m then some x else g v' m') ∧ w.grownBy w' (some b) := by
  obtain ⟨D, ho, ha⟩ := h
  obtain ⟨w', hrun, ho', hg⟩ := ho.update keyed ht hn (kl_key hv hm) hval
  have hmap : Maps.IsMap D := by
    obtain ⟨es, clock, hb, F, hs, rfl⟩ := ho
    exact ⟨_, rfl⟩
  have hkey := keyed.key (kl_key hv hm)
  refine ⟨w', hrun, ⟨_, ho', fun v' m' hv' hm' zd => ?_⟩, hg⟩
  simp only
  by_cases c : v' = v ∧ m' = m
  · obtain ⟨rfl, rfl⟩ := c
    rw [Maps.atKey_put_same hmap hkey, if_pos ⟨rfl, rfl⟩]
  · rw [Maps.atKey_put_other (fun e => c (kl_inj hv' hm' hv hm e)), ha v' m' hv' hm']
    rw [if_neg c]
end Go.Proofs.Ytnadgcdkcabdoaa.Mpp
namespace Go.Proofs.Ytnadgcdkcabdoaa.Dcm
open Go Go.RowKit Go.Proofs.YtnadgcdkcabdoaaW.PrintWords Go.Proofs.YtnadgcdkcabdoaaW.PrintLast Go.Proofs.YtnadgcdkcabdoaaW.PrintMore Go.Proofs.Ytnadgcdkcabdoaa.Aid Go.Proofs.Ytnadgcdkcabdoaa.HandAid Go.Proofs.Ytnadgcdkcabdoaa.U Go.Proofs.Ytnadgcdkcabdoaa.Tab Go.Proofs.Ytnadgcdkcabdoaa.Cdx Go.Proofs.Ytnadgcdkcabdoaa.Cdy Go.Proofs.Ytnadgcdkcabdoaa.Cdz Go.Proofs.Ytnadgcdkcabdoaa.Rdp Go.Proofs.Ytnadgcdkcabdoaa.Mpp
/-- The lines of the first codes. -/
def gW (t : List Ln) : Nat → Int → Int → Option Lit
  | 0 => fun _ _ => none
  | q + 1 => if len t q = 0 then gW t q else fun v m => if v = cnum t q ∧ m = len t q then some (.int .i64 (q : Int)) else gW t q v m
/-- The beginnings of a code of up to j digits, beside others. -/
def gI (c L : Int) (g : Int → Int → Option Lit) : Nat → Int → Int → Option Lit
  | 0 => g
  | j + 1 => fun v m => if v = c / 2 ^ (L - j).toNat ∧ m = (j : Int) then some (.bool true) else gI c L g j v m
/-- The beginnings of the first codes. -/
def gB (t : List Ln) : Nat → Int → Int → Option Lit
  | 0 => fun _ _ => none
  | q + 1 => if len t q = 0 then gB t q else gI (cnum t q) (len t q) (gB t q) (len t q).toNat
theorem map_off {e : TypeId} {w w' : World} {b n g : Nat} {f : Int → Int → Option Lit} (h : InMap e w b n f) (hg : w.grownBy w' (some g)) (hne : b ≠ g) : InMap e w' b n f := by
  obtain ⟨es, clock, hb⟩ := h.blk
  exact h.heap (hg.block b (Array.getElem?_eq_some_iff.1 hb).1 (fun e => hne (by injection e)))
theorem map_below {e : TypeId} {w w' : World} {b n : Nat} {f : Int → Int → Option Lit} (h : InMap e w b n f) (hB : Below w.heap.size w w') : InMap e w' b n f := by
  obtain ⟨es, clock, hb⟩ := h.blk
  exact h.heap (hB.block b (Array.getElem?_eq_some_iff.1 hb).1)
/-- A row of values that lead nowhere, beside a map that is written. -/
theorem R_map {α : Type} {d : Kd α} {e base b n : Nat} {et : TypeId} {w w1 : World} {ok : Nat → Prop} {v : Value} {xs : List α} {f : Int → Int → Option Lit} (h : d.R e w base ok v xs) (hE : d.E = []) (hm : InMap et w b n f) (hg : w.grownBy w1 (some b)) : d.R e w1 base ok v xs :=
  Kd.R_grown1 h hE hg (fun he => by
    obtain ⟨es, clock, hb⟩ := hm.blk
    obtain ⟨c, hc⟩ := Kd.R_typed h b he.symm
    rw [hb] at hc
    cases hc)
theorem blk_map {e : TypeId} {w w1 : World} {b n g : Nat} {f : Int → Int → Option Lit} {cs : Array Value} {t : TypeId} (h : w.heap[g]? = some (.cells cs t (0, 0))) (hm : InMap e w b n f) (hg : w.grownBy w1 (some b)) : w1.heap[g]? = some (.cells cs t (0, 0)) := by
  refine (hg.block g (Array.getElem?_eq_some_iff.1 h).1 (fun e => ?_)).trans h
  obtain ⟨es, clock, hb⟩ := hm.blk
  injection e with e
  rw [e, hb] at h
  cases h
theorem rdr_map {e : TypeId} {w w1 : World} {b n g : Nat} {f : Int → Int → Option Lit} {l : List Int} {a : Int} (h : IsRdr w g l a) (hm : InMap e w b n f) (hg : w.grownBy w1 (some b)) : IsRdr w1 g l a := by
  obtain ⟨v, hblk, hR⟩ := h
  exact ⟨v, blk_map hblk hm hg, R_map hR rfl hm hg⟩
theorem wpList_put {e t : TypeId} {w : World} {b n : Nat} {f : Int → Int → Option Lit} {ops : Array Oper} {rest : List Oper} {o : Oper} {a : Act} {Q : Exit → Act → World → Prop}
    (hg : o.guard = none) (hd : o.dst = none) (m x v : Operand) (hop : o.op = Op.mapUpdate t m x v) (ht : Try.prog.underlying t = some (.map 84 e)) (hm : a.eval m = .map (some b)) (h : InMap e w b n f) (hn : n < maxLen)
    (p q : Int) (hx : a.eval x = kv p q) (hp : (Lit.int .i64 p).wf = true) (hq : (Lit.int .i64 q).wf = true) (val : Value) (hv : a.eval v = val) (y : Lit) (ps : List MemPlace) (hval : plainElem (H := Unit) Try.prog e val = some (.lit y, ps))
    (hK : ∀ w', InMap e w' b (n + 1) (fun v' m' => if v' = p ∧ m' = q then some y else f v' m') → w.grownBy w' (some b) → wpList Try.prog ops Q rest a w') :
    wpList Try.prog ops Q (o :: rest) a w := by
  refine wpList_plain hg fun K' hK' => ?_
  obtain ⟨w', hrun, r1, r2⟩ := Mpp.store h ht hn hp hq hval
  unfold Oper.wp
  simp [execOp, hop, hm, hx, hv, hrun, Result.andThen]
  show K' (a.put o.dst undef) w'
  rw [hd]
  exact hK' _ _ (hK w' r1 r2)
theorem plain_int (n : Nat) (h : n ≤ 64) : plainElem (H := Unit) Try.prog 3 (.int .i64 (n : Int)) = some (.lit (.int .i64 (n : Int)), []) := plainElem_int Try.underlying3 (wf64_of (by omega))
theorem plain_true : plainElem (H := Unit) Try.prog 4 (.bool true) = some (.lit (.bool true), []) := plainElem_bool Try.underlying4 true
/-- What newReader's loop keeps. -/
structure St (w wr : World) (gx : Nat) (A : Option Addr) (c b1 b2 g : Nat) (Ac : Option Addr) (cc : Nat) (t : List Ln) (b : List Int) (q : Nat) (f : Int → Int → Option Lit) (n1 n2 : Nat) : Prop where
  obj : wr.heap[gx]? = some (.cells #[.slice A t.length c, .map (some b1), .map (some b2), .pointer (some ⟨g, 0, none⟩)] 100 (0, 0))
  m1 : InMap 3 wr b1 n1 (gW t q)
  m2 : InMap 4 wr b2 n2 f
  rdr : IsRdr wr g b 0
  row : Kd.R k84 84 wr 0 (fun _ => True) (.slice Ac t.length cc) (codesL t)
  bel : Below w.heap.size w wr
theorem St.below {w wr w1 : World} {gx : Nat} {A : Option Addr} {c b1 b2 g : Nat} {Ac : Option Addr} {cc : Nat} {t : List Ln} {b : List Int} {q : Nat} {f : Int → Int → Option Lit} {n1 n2 : Nat} (h : St w wr gx A c b1 b2 g Ac cc t b q f n1 n2) (hB : Below wr.heap.size wr w1) : St w w1 gx A c b1 b2 g Ac cc t b q f n1 n2 :=
  ⟨(hB.block gx (Array.getElem?_eq_some_iff.1 h.obj).1).trans h.obj, map_below h.m1 hB, map_below h.m2 hB, h.rdr.below hB, Kd.R_below h.row hB, below_then h.bel h.bel.size hB⟩
theorem St.put1 {w wr w1 : World} {gx : Nat} {A : Option Addr} {c b1 b2 g : Nat} {Ac : Option Addr} {cc : Nat} {t : List Ln} {b : List Int} {q q' : Nat} {f : Int → Int → Option Lit} {n1 n2 n1' : Nat} (h : St w wr gx A c b1 b2 g Ac cc t b q f n1 n2) (hne : b1 ≠ b2) (hb : w.heap.size ≤ b1) (hm : InMap 3 w1 b1 n1' (gW t q')) (hg : wr.grownBy w1 (some b1)) : St w w1 gx A c b1 b2 g Ac cc t b q' f n1' n2 :=
  ⟨blk_map h.obj h.m1 hg, hm, map_off h.m2 hg (fun e => hne e.symm), rdr_map h.rdr h.m1 hg, R_map h.row rfl h.m1 hg, below_grown1 h.bel h.bel.size hg hb⟩
theorem St.put2 {w wr w1 : World} {gx : Nat} {A : Option Addr} {c b1 b2 g : Nat} {Ac : Option Addr} {cc : Nat} {t : List Ln} {b : List Int} {q : Nat} {f f' : Int → Int → Option Lit} {n1 n2 n2' : Nat} (h : St w wr gx A c b1 b2 g Ac cc t b q f n1 n2) (hne : b1 ≠ b2) (hb : w.heap.size ≤ b2) (hm : InMap 4 w1 b2 n2' f') (hg : wr.grownBy w1 (some b2)) : St w w1 gx A c b1 b2 g Ac cc t b q f' n1 n2' :=
  ⟨blk_map h.obj h.m2 hg, map_off h.m1 hg hne, hm, rdr_map h.rdr h.m2 hg, R_map h.row rfl h.m2 hg, below_grown1 h.bel h.bel.size hg hb⟩
end Go.Proofs.Ytnadgcdkcabdoaa.Dcm
namespace Go.Proofs.Ytnadgcdkcabdoaa.Nrd
open Go Go.RowKit Go.Proofs.YtnadgcdkcabdoaaW.PrintWords Go.Proofs.YtnadgcdkcabdoaaW.PrintLast Go.Proofs.YtnadgcdkcabdoaaW.PrintMore Go.Proofs.Ytnadgcdkcabdoaa.Aid Go.Proofs.Ytnadgcdkcabdoaa.HandAid Go.Proofs.Ytnadgcdkcabdoaa.U Go.Proofs.Ytnadgcdkcabdoaa.Tab Go.Proofs.Ytnadgcdkcabdoaa.Cdx Go.Proofs.Ytnadgcdkcabdoaa.Cdy Go.Proofs.Ytnadgcdkcabdoaa.Cdz Go.Proofs.Ytnadgcdkcabdoaa.Rdp Go.Proofs.Ytnadgcdkcabdoaa.Mpp Go.Proofs.Ytnadgcdkcabdoaa.Dcm
/-- A new reader of numbers. -/
def Made (w w' : World) (gx : Nat) (A : Option Addr) (c : Nat) (t : List Ln) (b : List Int) : Prop := w.heap.size ≤ gx ∧ ∃ b1 b2 g Ac cc n1 n2, w.heap.size ≤ g ∧ St w w' gx A c b1 b2 g Ac cc t b t.length (gB t t.length) n1 n2
set_option maxHeartbeats 8000000 in
set_option maxRecDepth 100000 in
theorem newreader_calls (A : Option Addr) (c : Nat) (t : List Ln) (A2 : Option Addr) (c2 : Nat) (b : List Int) (w : World) (hv : vldP t) (hC : Kd.C k32 w A t.length t) (hc : t.length ≤ c) (hC2 : Kd.C (Kd.int .u8) w A2 b.length b) (hc2 : b.length ≤ c2) (hl : b.length ≤ 140737488355328) :
    Calls Try.prog 58 #[.slice A t.length c, .slice A2 b.length c2] w fun e w' => ∃ gx, e = .returned (.pointer (some ⟨gx, 0, none⟩)) ∧ Made w w' gx A c t b := by
  obtain ⟨K0, hcodes⟩ := Ev.rounds (codes_ev t hv)
  have HCO := Aside0.mk hcodes
  have HV := Aside0.mk hv
  have HC := Aside0.mk hC
  have HC2 := Aside0.mk hC2
  clear hcodes hv hC hC2
  have hum1 := Try.underlying96
  have hum2 := Try.underlying97
  have hmk1 : ∀ w : World, (Instr.makeMap 96 none).run Try.prog w = .ok (.map (some w.heap.size)) (w.alloc (.map #[] 0)) := fun w => run_makeMap _ w
  have hmk2 : ∀ w : World, (Instr.makeMap 97 none).run Try.prog w = .ok (.map (some w.heap.size)) (w.alloc (.map #[] 0)) := fun w => run_makeMap _ w
  have hu84 := Try.underlying84
  have hu100 := Try.underlying100
  go_enter Try.func58, Try.ntmps58
  go_wp2_with (first
    | (go_at_call 66; with_reducible refine (new_reader A2 c2 b _ (Kd.C_alloc (Kd.C_alloc HC2.out _) _) hc2 hl).mono ?_; rintro e w1 ⟨g, rfl, hg, hr1, hb1⟩; have HR1 := Aside0.mk hr1; have HG1 := Aside0.mk hg; have HB1 := Aside0.mk hb1; clear hr1 hb1 hg)
    | (go_at_call 49; with_reducible refine (prefix_codes.calls K0 A c t (codesL t) _ ?hs hc HCO.out).mono ?_; (case hs => exact Kd.C_below HC.out (below_alloc (below_then (below_alloc (below_alloc (Below.refl w.heap.size w) _) _) (by rw [World.size_alloc, World.size_alloc]; omega) HB1.out) _)); rintro e w2 ⟨v2, rfl, hr2, hb2⟩; obtain ⟨Ac, cc, rfl⟩ := Kd.R_slice hr2; have HR2 := Aside0.mk hr2; have HB2 := Aside0.mk hb2; clear hr2 hb2))
  have hsz : (w.alloc (.map #[] 0)).heap.size = w.heap.size + 1 := World.size_alloc _ _
  have hsz2 : ((w.alloc (.map #[] 0)).alloc (.map #[] 0)).heap.size = w.heap.size + 2 := by rw [World.size_alloc, hsz]
  obtain ⟨gx, hgx⟩ : ∃ gx, w1.heap.size = gx := ⟨_, rfl⟩
  obtain ⟨b1, hb1⟩ : ∃ b1, w.heap.size = b1 := ⟨_, rfl⟩
  have hgxlt : b1 + 2 ≤ gx := by rw [← hb1, ← hgx, ← hsz2]; exact HB1.out.size
  have hglt : b1 + 2 ≤ g := by rw [← hb1, ← hsz2]; exact HG1.out
  have HS0 : Aside0 (St w w2 gx A c b1 (b1 + 1) g Ac cc t b 0 (gB t 0) 0 0) := by
    refine ⟨⟨?_, ?_, ?_, ?_, (codesL_len t) ▸ Kd.R_lower HR2.out (Nat.zero_le _), ?_⟩⟩
    · exact (HB2.out.block gx (by rw [World.size_alloc, hgx]; omega)).trans (by rw [← hgx, ← hb1]; exact heap_new w1 _)
    · have h := map_below (map_below (map_below (map_below (InMap.made 3 w) (below_alloc (Below.refl _ _) (.map #[] 0))) HB1.out) (below_alloc (Below.refl _ _) (.cells #[.slice A t.length c, .map (some w.heap.size), .map (some (w.heap.size + 1)), .pointer (some ⟨g, 0, none⟩)] 100))) HB2.out
      rw [hb1] at h
      exact h
    · have h := map_below (map_below (map_below (InMap.made 4 (w.alloc (.map #[] 0))) HB1.out) (below_alloc (Below.refl _ _) (.cells #[.slice A t.length c, .map (some w.heap.size), .map (some (w.heap.size + 1)), .pointer (some ⟨g, 0, none⟩)] 100))) HB2.out
      rw [hsz, hb1] at h
      exact h
    · exact (HR1.out.below (below_alloc (Below.refl _ _) _)).below HB2.out
    · exact below_then (below_alloc (below_then (below_alloc (below_alloc (Below.refl w.heap.size w) _) _) (by rw [hsz2]; omega) HB1.out) _) (by rw [World.size_alloc, hgx, hb1]; omega) HB2.out
  clear HR1 HG1 HB1 HR2 HB2
  rw [codesL_len, hgx, hb1]
  clear hsz hsz2 hgx w1
  have hb1' : w.heap.size ≤ b1 := by omega
  have hb2' : w.heap.size ≤ b1 + 1 := by omega
  have hq1 : w.heap.size ≤ gx := by omega
  have hq2 : w.heap.size ≤ g := by omega
  clear hb1
  have hn64 := HV.out.1
  obtain ⟨N, hN⟩ : ∃ N, t.length = N := ⟨_, rfl⟩
  rw [hN]
  go_loopw [19] (fun x wr => ∃ q n1 n2 : Nat, q ≤ N ∧ x = .int .i64 q ∧ n1 ≤ q ∧ n2 ≤ 16 * q ∧ Aside0 (St w wr gx A c b1 (b1 + 1) g Ac cc t b q (gB t q) n1 n2)) (fun x _ => ((N : Int) - intOf x).toNat)
  case atStart => exact ⟨0, 0, 0, by omega, rfl, by omega, by omega, HS0⟩
  case round =>
    obtain ⟨q, n1, n2, hqN, rfl, hn1, hn2, HS⟩ := hrel
    by_cases hlt : (q : Int) < (N : Int)
    · have hq : q < t.length := by omega
      have hx := codesL_at t HV.out q hq
      obtain ⟨ad, hA, h0, h1⟩ := at_T84 (Kd.R_reads' HS.out.row).2.2 (q : Int) (by omega) (by rw [codesL_len]; omega)
      subst hA
      rw [hx] at h0 h1
      have hl := of_decide_eq_true (HV.out.2.1 _ (rdL_mem hq))
      have hlen : len t q = (rd_T32 t (q : Int)).f0 := rfl
      by_cases z : len t q = 0
      · rw [if_pos z] at h0 h1
        have e1 : gW t (q + 1) = gW t q := by simp only [gW]; exact if_pos z
        have e2 : gB t (q + 1) = gB t q := by simp only [gB]; exact if_pos z
        simp only [Int.toNat_natCast] at h0 h1
        rw [show z84.f0 = 0 from rfl] at h0
        rw [show z84.f1 = 0 from rfl] at h1
        clear hx
        go_wp2
        refine ⟨⟨q + 1, n1, n2, by omega, rfl, by omega, by omega, ⟨?_⟩⟩, ?_⟩
        · have h' := HS.out.below (below_alloc (Below.refl _ _) (.cells #[.int .i64 0, .int .i64 0] 84))
          exact ⟨h'.obj, by rw [e1]; exact h'.m1, by rw [e2]; exact h'.m2, h'.rdr, h'.row, h'.bel⟩
        · simp [intOf]; omega
      · rw [if_neg z] at h0 h1
        have e1 : gW t (q + 1) = fun v m => if v = cnum t q ∧ m = len t q then some (.int .i64 (q : Int)) else gW t q v m := by simp only [gW]; exact if_neg z
        have e2 : gB t (q + 1) = gI (cnum t q) (len t q) (gB t q) (len t q).toNat := by simp only [gB]; exact if_neg z
        have hcn : 0 ≤ cnum t q ∧ cnum t q ≤ 32768 := by
          have h1 := front_range (L := len t q) t q HV.out.2.1
          have h2 := HV.out.2.2.2.2
          have h3 := div_pos_le h1.1 (15 - len t q).toNat
          unfold cnum
          omega
        simp only [Int.toNat_natCast] at h0 h1
        rw [show (cod t q).f0 = cnum t q from rfl] at h0
        rw [show (cod t q).f1 = len t q from rfl] at h1
        obtain ⟨L, hL⟩ : ∃ L : Nat, len t q = L := ⟨(len t q).toNat, by omega⟩
        obtain ⟨C, hC⟩ : ∃ C, cnum t q = C := ⟨_, rfl⟩
        have hL1 : 1 ≤ L := by omega
        have hL2 : L ≤ 15 := by omega
        rw [hL] at h1 e1 e2
        rw [hC] at h0 e1 e2 hcn
        rw [Int.toNat_natCast] at e2
        have hz : ((L : Int) == 0) = false := by simpa using (show (L : Int) ≠ 0 by omega)
        clear hx hl hlen z hL hC
        go_wp2
        obtain ⟨gc, hgc⟩ : ∃ gc, wr.heap.size = gc := ⟨_, rfl⟩
        have HS1 := Aside0.mk (HS.out.below (below_alloc (Below.refl _ _) (.cells #[.int .i64 C, .int .i64 (L : Int)] 84)))
        have HC1 := Aside0.mk (show (wr.alloc (.cells #[.int .i64 C, .int .i64 (L : Int)] 84)).heap[gc]? = some (.cells #[.int .i64 C, .int .i64 (L : Int)] 84 (0, 0)) from hgc ▸ heap_new wr _)
        obtain ⟨W, hW⟩ : ∃ W, wr.alloc (.cells #[.int .i64 C, .int .i64 (L : Int)] 84) = W := ⟨_, rfl⟩
        rw [hW] at HS1 HC1 ⊢
        rw [hgc]
        clear HS hgc hW h0 h1
        have k0 : W.cell? ⟨gc, 0, none⟩ = some (.int .i64 C) := (blk_cell HC1.out 0).trans rfl
        have k1 : W.cell? ⟨gc, 1, none⟩ = some (.int .i64 (L : Int)) := (blk_cell HC1.out 1).trans rfl
        have x1 : W.cell? ⟨gx, 1, none⟩ = some (.map (some b1)) := (blk_cell HS1.out.obj 1).trans rfl
        go_still_tail 6, (by kernel_rfl)
        change wpList _ _ _ _ _ W.drew
        refine wpList_put rfl rfl (.tmp 30) (.tmp 31) (.tmp 32) rfl hum1 rfl (HS1.out.m1.heap (w' := W.drew) rfl) (Nat.lt_of_le_of_lt (show n1 ≤ 64 by omega) (by decide)) C L rfl (wf64_of (by omega)) (wf64_of (by omega)) _ rfl _ _ (plain_int q (by omega)) ?_
        intro W2 hm2 hg2
        have hg2' : W.grownBy W2 (some b1) := ⟨hg2.os, hg2.tape, hg2.output, hg2.size, hg2.block⟩
        have HC2' := Aside0.mk (blk_map HC1.out HS1.out.m1 hg2')
        have HS2 := Aside0.mk (HS1.out.put1 (q' := q + 1) (by omega) hb1' (e1 ▸ hm2) hg2')
        clear HS1 HC1 k0 k1 x1 hg2 hg2' hm2
        have k1 : W2.cell? ⟨gc, 1, none⟩ = some (.int .i64 (L : Int)) := (blk_cell HC2'.out 1).trans rfl
        go_wp2
        go_loopw [35] (fun x Wr => ∃ j m2 : Nat, j ≤ L ∧ x = .int .i64 j ∧ m2 ≤ 16 * q + j ∧ Aside0 (St w Wr gx A c b1 (b1 + 1) g (some ad) cc t b (q + 1) (gI C L (gB t q) j) (n1 + 1) m2) ∧ Aside0 (Wr.heap[gc]? = some (.cells #[.int .i64 C, .int .i64 (L : Int)] 84 (0, 0)))) (fun x _ => ((L : Int) - intOf x).toNat)
        case atStart => exact ⟨0, n2, by omega, rfl, by omega, HS2, HC2'⟩
        case round =>
          obtain ⟨j, m2, hj, rfl, hm2, HT, HCC⟩ := hrel
          by_cases hlt2 : (j : Int) < (L : Int)
          · have k0 : wr.cell? ⟨gc, 0, none⟩ = some (.int .i64 C) := (blk_cell HCC.out 0).trans rfl
            have k1 : wr.cell? ⟨gc, 1, none⟩ = some (.int .i64 (L : Int)) := (blk_cell HCC.out 1).trans rfl
            have x2 : wr.cell? ⟨gx, 2, none⟩ = some (.map (some (b1 + 1))) := (blk_cell HT.out.obj 2).trans rfl
            have hwr : IntKind.i64.wrap ((L : Int) - j) = (L : Int) - j := by rw [i64_w]; exact wrap_id (by omega) (by omega)
            have hng : ¬ ((L : Int) - j < 0) := by omega
            go_wp2
            go_still_tail 13, (by kernel_rfl)
            change wpList _ _ _ _ _ wr.drew
            have hmin : L - j = ((L : Int) - j).toNat := by omega
            have hdv : 0 ≤ C / 2 ^ ((L : Int) - j).toNat ∧ C / 2 ^ ((L : Int) - j).toNat ≤ 32768 := by
              have := div_pos_le hcn.1 ((L : Int) - j).toNat
              omega
            refine wpList_put rfl rfl (.tmp 41) (.tmp 50) (.const (.bool true)) rfl hum2 rfl (HT.out.m2.heap (w' := wr.drew) rfl) (Nat.lt_of_le_of_lt (show m2 ≤ 1040 by omega) (by decide)) (C / 2 ^ (L - j)) j rfl (wf64_of (by rw [hmin]; omega)) (wf64_of (by omega)) _ rfl _ _ plain_true ?_
            intro W3 hm3 hg3
            rw [hmin] at hm3
            have hg3' : wr.grownBy W3 (some (b1 + 1)) := ⟨hg3.os, hg3.tape, hg3.output, hg3.size, hg3.block⟩
            have HCC3 := Aside0.mk (blk_map HCC.out HT.out.m2 hg3')
            have HT3 := Aside0.mk (HT.out.put2 (f' := gI C L (gB t q) (j + 1)) (by omega) hb2' hm3 hg3')
            clear HT HCC k0 k1 x2 hg3 hg3' hm3
            go_wp2
            exact ⟨⟨j + 1, m2 + 1, by omega, rfl, by omega, HT3, HCC3⟩, by simp [intOf]; omega⟩
          · have ej : j = L := by omega
            rw [ej] at HT
            go_wp2
            refine ⟨⟨q + 1, n1 + 1, m2, by omega, rfl, by omega, by omega, ⟨?_⟩⟩, by simp [intOf]; omega⟩
            have h' := HT.out
            exact ⟨h'.obj, h'.m1, by rw [e2]; exact h'.m2, h'.rdr, h'.row, h'.bel⟩
    · have eq' : q = N := by omega
      subst eq'
      go_wp2
      go_ret
      subst hN
      exact ⟨gx, rfl, hq1, b1, b1 + 1, g, Ac, cc, n1, n2, hq2, HS.out⟩
end Go.Proofs.Ytnadgcdkcabdoaa.Nrd
namespace Go.Proofs.Ytnadgcdkcabdoaa.Nbr
open Go Go.RowKit Go.Proofs.YtnadgcdkcabdoaaW.PrintWords Go.Proofs.YtnadgcdkcabdoaaW.PrintLast Go.Proofs.YtnadgcdkcabdoaaW.PrintMore Go.Proofs.Ytnadgcdkcabdoaa.Aid Go.Proofs.Ytnadgcdkcabdoaa.HandAid Go.Proofs.Ytnadgcdkcabdoaa.U Go.Proofs.Ytnadgcdkcabdoaa.Tab Go.Proofs.Ytnadgcdkcabdoaa.Cdx Go.Proofs.Ytnadgcdkcabdoaa.Cdy Go.Proofs.Ytnadgcdkcabdoaa.Cdz Go.Proofs.Ytnadgcdkcabdoaa.Rdp Go.Proofs.Ytnadgcdkcabdoaa.Mpp Go.Proofs.Ytnadgcdkcabdoaa.Dcm
theorem gI_some (c L : Int) (g : Int → Int → Option Lit) (v m : Int) : ∀ j : Nat, (∀ x, g v m = some x → x = .bool true ∧ 0 ≤ m ∧ m < 15) → (j : Int) ≤ 15 → ∀ x, gI c L g j v m = some x → x = .bool true ∧ 0 ≤ m ∧ m < 15
  | 0, h, _, x, hx => h x hx
  | j + 1, h, hj, x, hx => by
    simp only [gI] at hx
    split at hx
    · rename_i c
      injection hx with hx
      exact ⟨hx.symm, by omega, by omega⟩
    · exact gI_some c L g v m j h (by omega) x hx
theorem gB_some (t : List Ln) (hv : vldP t) (v m : Int) : ∀ q, q ≤ t.length → ∀ x, gB t q v m = some x → x = .bool true ∧ 0 ≤ m ∧ m < 15
  | 0, _, x, hx => by simp [gB] at hx
  | q + 1, hq, x, hx => by
    have hl := of_decide_eq_true (hv.2.1 _ (rdL_mem (show q < t.length by omega)))
    have hlen : len t q = (rd_T32 t (q : Int)).f0 := rfl
    have ih := gB_some t hv v m q (by omega)
    simp only [gB] at hx
    split at hx
    · exact ih x hx
    · exact gI_some _ _ _ v m _ ih (by omega) x hx
theorem gW_some (t : List Ln) (hv : vldP t) (v m : Int) : ∀ q, q ≤ t.length → ∀ x, gW t q v m = some x → ∃ i : Nat, i < t.length ∧ x = .int .i64 (i : Int) ∧ len t i = m ∧ cnum t i = v ∧ len t i ≠ 0
  | 0, _, x, hx => by simp [gW] at hx
  | q + 1, hq, x, hx => by
    have ih := gW_some t hv v m q (by omega)
    simp only [gW] at hx
    split at hx
    · exact ih x hx
    · dsimp only at hx
      split at hx
      · rename_i c
        injection hx with hx
        exact ⟨q, by omega, hx.symm, c.2.symm, c.1.symm, by assumption⟩
      · exact ih x hx
/-- The number of a line at a place in its range. -/
def numAt (x : Ln) (d : Int) : Bool × Int := if x.f3 = 2 then (true, 0) else (false, if x.f3 = 1 then x.f2 - d else x.f2 + d)
/-- What number tells behind n bits of a code: the number, the error, the place behind. -/
def numG (t : List Ln) (b : List Int) (a : Int) : Nat → Nat → (Bool × Int) × Int × Int
  | 0, _ => ((false, 0), 3, 0)
  | f + 1, n => if (gB t t.length (bitsAt b a n) n).isSome then (if a + n + 1 ≤ 8 * b.length then numG t b a f (n + 1) else ((false, 0), 6, 0))
    else match gW t t.length (bitsAt b a n) n with
      | some (.int _ i) => if a + n + (rd_T32 t i).f1 ≤ 8 * b.length then (numAt (rd_T32 t i) (bitsAt b (a + n) (rd_T32 t i).f1.toNat), 0, a + n + (rd_T32 t i).f1) else ((false, 0), 6, 0)
      | _ => ((false, 0), 3, 0)
theorem grown_trans {a b c : World} {row : Option Nat} (h : a.grownBy b row) (k : b.grownBy c row) : a.grownBy c row :=
  ⟨k.os.trans h.os, k.tape.trans h.tape, k.output.trans h.output, Nat.le_trans h.size k.size, fun i hi hn => (k.block i (Nat.lt_of_lt_of_le hi h.size) hn).trans (h.block i hi hn)⟩
theorem grown_new {a b c : World} {row : Option Nat} {j : Nat} (h : a.grownBy b row) (k : b.grownBy c (some j)) (hj : a.heap.size ≤ j) : a.grownBy c row :=
  ⟨k.os.trans h.os, k.tape.trans h.tape, k.output.trans h.output, Nat.le_trans h.size k.size, fun i hi hn => (k.block i (Nat.lt_of_lt_of_le hi h.size) (fun e => by injection e with e; omega)).trans (h.block i hi hn)⟩
/-- A reader of numbers at block gx, behind some bits. -/
structure Rs (w0 ws wr : World) (gx : Nat) (A : Option Addr) (c b1 b2 g : Nat) (t : List Ln) (b : List Int) (a : Int) : Prop where
  obj : wr.heap[gx]? = some (.cells #[.slice A t.length c, .map (some b1), .map (some b2), .pointer (some ⟨g, 0, none⟩)] 100 (0, 0))
  m1 : ∃ n, InMap 3 wr b1 n (gW t t.length)
  m2 : ∃ n, InMap 4 wr b2 n (gB t t.length)
  rdr : IsRdr wr g b a
  bel : Below w0.heap.size w0 wr
  gro : ws.grownBy wr (some g)
theorem Rs.drewN {w0 ws wr : World} {gx : Nat} {A : Option Addr} {c b1 b2 g : Nat} {t : List Ln} {b : List Int} {a : Int} (h : Rs w0 ws wr gx A c b1 b2 g t b a) (m : Nat) : Rs w0 ws (wr.drewN m) gx A c b1 b2 g t b a :=
  ⟨h.obj, h.m1.imp fun _ h => h.heap rfl, h.m2.imp fun _ h => h.heap rfl, h.rdr.drewN m, pw_below_drewN h.bel m, grown_drewN h.gro m⟩
theorem Rs.below {w0 ws wr w1 : World} {gx : Nat} {A : Option Addr} {c b1 b2 g : Nat} {t : List Ln} {b : List Int} {a : Int} (h : Rs w0 ws wr gx A c b1 b2 g t b a) (hB : Below wr.heap.size wr w1) : Rs w0 ws w1 gx A c b1 b2 g t b a :=
  ⟨(hB.block gx (Array.getElem?_eq_some_iff.1 h.obj).1).trans h.obj, h.m1.imp fun _ h => map_below h hB, h.m2.imp fun _ h => map_below h hB, h.rdr.below hB, below_then h.bel h.bel.size hB, grown_trans h.gro (grown_of_below hB _)⟩
theorem map_cells {e : TypeId} {w w1 : World} {b n g t : Nat} {f : Int → Int → Option Lit} {cs : Array Value} (h : InMap e w b n f) (hb : w.heap[g]? = some (.cells cs t (0, 0))) (hg : w.grownBy w1 (some g)) : InMap e w1 b n f :=
  map_off h hg (fun he => by
    obtain ⟨es, clock, hm⟩ := h.blk
    rw [he, hb] at hm
    cases hm)
theorem blk_cells {w w1 : World} {g g' t t' : Nat} {cs cs' : Array Value} (h : w.heap[g]? = some (.cells cs t (0, 0))) (h' : w.heap[g']? = some (.cells cs' t' (0, 0))) (hne : t ≠ t') (hg : w.grownBy w1 (some g')) : w1.heap[g]? = some (.cells cs t (0, 0)) := by
  refine (hg.block g (Array.getElem?_eq_some_iff.1 h).1 (fun e => ?_)).trans h
  injection e with e
  rw [e, h'] at h
  injection h with h
  injection h with _ h2
  exact hne h2.symm
/-- The reader has moved. -/
theorem Rs.moved {w0 ws wr w1 : World} {gx : Nat} {A : Option Addr} {c b1 b2 g : Nat} {t : List Ln} {b : List Int} {a a' : Int} (h : Rs w0 ws wr gx A c b1 b2 g t b a) (hr : IsRdr w1 g b a') (hg : wr.grownBy w1 (some g)) (hb : w0.heap.size ≤ g) : Rs w0 ws w1 gx A c b1 b2 g t b a' := by
  obtain ⟨v, hblk, _⟩ := h.rdr
  exact ⟨blk_cells h.obj hblk (by decide) hg, h.m1.imp fun _ h => map_cells h hblk hg, h.m2.imp fun _ h => map_cells h hblk hg, hr, below_grown1 h.bel h.bel.size hg hb, grown_trans h.gro hg⟩
/-- A cell beside it has been written. -/
theorem Rs.beside {w0 ws wr w1 : World} {gx : Nat} {A : Option Addr} {c b1 b2 g : Nat} {t : List Ln} {b : List Int} {a : Int} (h : Rs w0 ws wr gx A c b1 b2 g t b a) {k T : Nat} {cs : Array Value} (hk : wr.heap[k]? = some (.cells cs T (0, 0))) (h1 : 100 ≠ T) (h2 : 114 ≠ T) (h3 : 5 ≠ T) (hg : wr.grownBy w1 (some k)) (hb : w0.heap.size ≤ k) (hs : ws.heap.size ≤ k) : Rs w0 ws w1 gx A c b1 b2 g t b a := by
  obtain ⟨v, hblk, hR⟩ := h.rdr
  exact ⟨blk_cells h.obj hk h1 hg, h.m1.imp fun _ h => map_cells h hk hg, h.m2.imp fun _ h => map_cells h hk hg, ⟨v, blk_cells hblk hk h2 hg, Kd.R_grown1 hR rfl hg (Kd.R_ne hR hk h3)⟩, below_grown1 h.bel h.bel.size hg hb, grown_new h.gro hg hs⟩
theorem plain_bool_inv {v : Value} {z : DataW Unit × List MemPlace} (h : plainElem (H := Unit) Try.prog 4 v = some z) : ∃ x, v = .bool x ∧ z = (.lit (.bool x), []) := by
  have hu := Try.underlying4
  cases v <;> simp [plainElem, hu] at h
  exact ⟨_, rfl, h.symm⟩
/-- The look-ups, in whatever world that has only drawn. -/
theorem ask {w : World} {b n : Nat} {t : List Ln} (hv : vldP t) (h : InMap 4 w b n (gB t t.length)) {v m : Int} (h1 : (Lit.int .i64 v).wf = true) (h2 : (Lit.int .i64 m).wf = true) (k : Nat) :
    (Instr.lookup 97 (.map (some b)) (kv v m) false).run Try.prog (w.drewN k) = .ok (.bool (gB t t.length v m).isSome) (w.drewN k) := by
  rcases Mpp.look (h.heap (w' := w.drewN k) rfl) Try.underlying97 (z := .bool false) (fun w => by kernel_rfl) h1 h2 false with ⟨e, hr⟩ | ⟨x, val, ps, e, hval, hr⟩
  · rw [e]; exact hr
  · obtain ⟨rfl, _⟩ := gB_some t hv v m _ (Nat.le_refl _) x e
    obtain ⟨y, rfl, hy⟩ := plain_bool_inv hval
    simp only [Prod.mk.injEq, DataW.lit.injEq, Lit.bool.injEq] at hy
    obtain ⟨rfl, _⟩ := hy
    rw [e]
    exact hr
theorem ask_which {w : World} {b n : Nat} {t : List Ln} (hv : vldP t) (h : InMap 3 w b n (gW t t.length)) {v m : Int} (h1 : (Lit.int .i64 v).wf = true) (h2 : (Lit.int .i64 m).wf = true) :
    (gW t t.length v m = none ∧ ∀ k : Nat, (Instr.lookup 96 (.map (some b)) (kv v m) true).run Try.prog (w.drewN k) = .ok (.tuple #[.int .i64 0, .bool false]) (w.drewN k)) ∨
    ∃ i : Nat, i < t.length ∧ gW t t.length v m = some (.int .i64 (i : Int)) ∧ ∀ k : Nat, (Instr.lookup 96 (.map (some b)) (kv v m) true).run Try.prog (w.drewN k) = .ok (.tuple #[.int .i64 (i : Int), .bool true]) (w.drewN k) := by
  have key := fun k : Nat => Mpp.look (h.heap (w' := w.drewN k) rfl) Try.underlying96 (z := .int .i64 0) (fun w => by kernel_rfl) h1 h2 true
  cases e : gW t t.length v m with
  | none =>
    refine .inl ⟨rfl, fun k => ?_⟩
    rcases key k with ⟨_, hr⟩ | ⟨x, val, ps, e2, _⟩
    · exact hr
    · rw [e] at e2; cases e2
  | some x =>
    obtain ⟨i, hi, rfl, _⟩ := gW_some t hv v m _ (Nat.le_refl _) x e
    refine .inr ⟨i, hi, rfl, fun k => ?_⟩
    rcases key k with ⟨e2, hr⟩ | ⟨x, val, ps, e2, hval, hr⟩
    · rw [e] at e2; exact absurd e2 (by simp)
    · rw [e] at e2
      obtain rfl := Option.some.inj e2
      obtain ⟨a, rfl, hz, _⟩ := plainElem_int_inv Try.underlying3 hval
      simp only [Prod.mk.injEq, DataW.lit.injEq, Lit.int.injEq] at hz
      obtain ⟨⟨_, rfl⟩, _⟩ := hz
      exact hr
end Go.Proofs.Ytnadgcdkcabdoaa.Nbr
namespace Go.Proofs.Ytnadgcdkcabdoaa.Nbw
open Go Go.RowKit Go.Proofs.YtnadgcdkcabdoaaW.PrintWords Go.Proofs.YtnadgcdkcabdoaaW.PrintLast Go.Proofs.YtnadgcdkcabdoaaW.PrintMore Go.Proofs.Ytnadgcdkcabdoaa.Aid Go.Proofs.Ytnadgcdkcabdoaa.HandAid Go.Proofs.Ytnadgcdkcabdoaa.U Go.Proofs.Ytnadgcdkcabdoaa.Tab Go.Proofs.Ytnadgcdkcabdoaa.Cdx Go.Proofs.Ytnadgcdkcabdoaa.Cdy Go.Proofs.Ytnadgcdkcabdoaa.Cdz Go.Proofs.Ytnadgcdkcabdoaa.Rdp Go.Proofs.Ytnadgcdkcabdoaa.Mpp Go.Proofs.Ytnadgcdkcabdoaa.Dcm Go.Proofs.Ytnadgcdkcabdoaa.Nbr
def left (wr : World) (gc : Nat) : Nat := match wr.cell? ⟨gc, 1, none⟩ with | some (.int _ n) => (16 - n).toNat | _ => 0
/-- The reader behind a number. -/
def Behind (w0 ws w' : World) (gx : Nat) (A : Option Addr) (c b1 b2 g : Nat) (t : List Ln) (b : List Int) (R : (Bool × Int) × Int × Int) : Prop := ∃ a', (R.2.1 = 0 → a' = R.2.2) ∧ 0 ≤ a' ∧ a' ≤ 8 * b.length ∧ Rs w0 ws w' gx A c b1 b2 g t b a'
theorem zset {W : World} {gz : Nat} {u v : Value} (h : W.heap[gz]? = some (.cells #[u, v] 48 (0, 0))) (p q : Value) :
    ((W.setCell ⟨gz, 0, none⟩ p).setCell ⟨gz, 1, none⟩ q).heap[gz]? = some (.cells #[p, q] 48 (0, 0)) ∧ W.grownBy ((W.setCell ⟨gz, 0, none⟩ p).setCell ⟨gz, 1, none⟩ q) (some gz) :=
  ⟨by simpa using blk_set (blk_set h 0 p) 1 q, grown_set (grown_set ⟨rfl, rfl, rfl, Nat.le_refl _, fun _ _ _ => rfl⟩)⟩
theorem zret {W : World} {gz : Nat} {nn : Bool} {N err : Int} {tmps : Array Value} (hz : W.heap[gz]? = some (.cells #[.bool nn, .int .i64 N] 48 (0, 0))) (h2 : tmps.getD 2 undef = .pointer (some ⟨gz, 0, none⟩)) (h3 : tmps.getD 3 undef = .int .i64 err) :
    (results Try.f59 tmps).run Try.prog W = .ok (.tuple #[.agg #[.bool nn, .int .i64 N], .int .i64 err]) W := by
  have y0 : W.cell? ⟨gz, 0, none⟩ = some (.bool nn) := (blk_cell hz 0).trans rfl
  have y1 : W.cell? ⟨gz, 1, none⟩ = some (.int .i64 N) := (blk_cell hz 1).trans rfl
  have hu48 := Try.underlying48
  rw [results_cell_tmp rfl, h2, h3]
  go_simp
theorem zend {w0 ws wr : World} {gx : Nat} {A : Option Addr} {c b1 b2 g : Nat} {t : List Ln} {b : List Int} {a : Int} {gz : Nat} {u v : Value} (h : Rs w0 ws wr gx A c b1 b2 g t b a) (hz : wr.heap[gz]? = some (.cells #[u, v] 48 (0, 0))) (hb : w0.heap.size ≤ gz) (hs : ws.heap.size ≤ gz) (p q : Value) (k : Nat) :
    (((wr.drewN k).setCell ⟨gz, 0, none⟩ p).setCell ⟨gz, 1, none⟩ q).heap[gz]? = some (.cells #[p, q] 48 (0, 0)) ∧ Rs w0 ws (((wr.drewN k).setCell ⟨gz, 0, none⟩ p).setCell ⟨gz, 1, none⟩ q) gx A c b1 b2 g t b a :=
  have hz' : (wr.drewN k).heap[gz]? = some (.cells #[u, v] 48 (0, 0)) := hz
  ⟨(zset hz' p q).1, (h.drewN k).beside hz' (by decide) (by decide) (by decide) (zset hz' p q).2 hb hs⟩
theorem zend0 {w0 ws wr : World} {gx : Nat} {A : Option Addr} {c b1 b2 g : Nat} {t : List Ln} {b : List Int} {a : Int} {gz : Nat} {u v : Value} (h : Rs w0 ws wr gx A c b1 b2 g t b a) (hz : wr.heap[gz]? = some (.cells #[u, v] 48 (0, 0))) (hb : w0.heap.size ≤ gz) (hs : ws.heap.size ≤ gz) (p q : Value) :
    ((wr.setCell ⟨gz, 0, none⟩ p).setCell ⟨gz, 1, none⟩ q).heap[gz]? = some (.cells #[p, q] 48 (0, 0)) ∧ Rs w0 ws ((wr.setCell ⟨gz, 0, none⟩ p).setCell ⟨gz, 1, none⟩ q) gx A c b1 b2 g t b a :=
  ⟨(zset hz p q).1, h.beside hz (by decide) (by decide) (by decide) (zset hz p q).2 hb hs⟩
set_option maxHeartbeats 8000000 in
set_option maxRecDepth 100000 in
theorem number_calls (w0 w : World) (gx : Nat) (A : Option Addr) (c b1 b2 g : Nat) (t : List Ln) (b : List Int) (a : Int) (hv : vldP t) (hb : Bytes b) (hl : b.length ≤ 140737488355328) (hC : Kd.C k32 w0 A t.length t) (hS : Rs w0 w w gx A c b1 b2 g t b a) (ha : 0 ≤ a) (ha2 : a ≤ 8 * b.length) (hg : w0.heap.size ≤ g)
    (R : (Bool × Int) × Int × Int) (hR : numG t b a 16 0 = R) :
    Calls Try.prog 59 #[.pointer (some ⟨gx, 0, none⟩)] w fun e w' => e = .returned (.tuple #[.agg #[.bool R.1.1, .int .i64 R.1.2], .int .i64 R.2.1]) ∧ Behind w0 w w' gx A c b1 b2 g t b R := by
  have HV := Aside0.mk hv
  have HC := Aside0.mk hC
  have HS := Aside0.mk hS
  have HB := Aside0.mk hb
  clear hv hC hS hb
  have hum1 := Try.underlying96
  have hum2 := Try.underlying97
  have hu84 := Try.underlying84
  have hu48 := Try.underlying48
  have hu32 := Try.underlying32
  have hu100 := Try.underlying100
  go_enter Try.func59, Try.ntmps59
  go_wp2_with (fail)
  obtain ⟨gz, hgz⟩ : ∃ gz, w.heap.size = gz := ⟨_, rfl⟩
  have HS1 := Aside0.mk ((HS.out.below (below_alloc (Below.refl _ _) (.cells #[.bool false, .int .i64 0] 48))).below (below_alloc (Below.refl _ _) (.cells #[.int .i64 0, .int .i64 0] 84)))
  have HZ1 := Aside0.mk (blk_alloc (heap_new w (.cells #[.bool false, .int .i64 0] 48)) (.cells #[.int .i64 0, .int .i64 0] 84))
  have HC1 := Aside0.mk (heap_new (w.alloc (.cells #[.bool false, .int .i64 0] 48)) (.cells #[.int .i64 0, .int .i64 0] 84))
  rw [World.size_alloc] at HC1
  rw [hgz] at HZ1 HC1 ⊢
  have hgb : w0.heap.size ≤ gz := by rw [← hgz]; exact HS.out.bel.size
  have hgs : w.heap.size ≤ gz := by omega
  clear HS hgz
  go_loopw [5, 6] (fun x y wr => ∃ n : Nat, n ≤ 15 ∧ numG t b a (16 - n) n = R ∧ a + n ≤ 8 * b.length ∧ Aside0 (Rs w0 w wr gx A c b1 b2 g t b (a + n)) ∧ Aside0 (wr.heap[gz + 1]? = some (.cells #[.int .i64 (bitsAt b a n), .int .i64 (n : Int)] 84 (0, 0))) ∧ Aside0 (wr.heap[gz]? = some (.cells #[.bool false, .int .i64 0] 48 (0, 0)))) (fun _ _ wr => left wr (gz + 1))
  case atStart => exact ⟨0, by omega, hR, by omega, ⟨by simpa using HS1.out⟩, HC1, HZ1⟩
  case round =>
    obtain ⟨n, hn, hRn, hfit, HT, HCC, HZZ⟩ := hrel
    obtain ⟨m1, hm1⟩ := HT.out.m1
    obtain ⟨m2, hm2⟩ := HT.out.m2
    have hbr := bitsAt_range b a n
    have hp : (2 : Int) ^ n ≤ 2 ^ 15 := by exact_mod_cast Nat.pow_le_pow_right (by omega) hn
    have hp2 : (2 : Int) ^ 15 = 32768 := by decide
    have wv : (Lit.int .i64 (bitsAt b a n)).wf = true := wf64_of (by omega)
    have wn : (Lit.int .i64 (n : Int)).wf = true := wf64_of (by omega)
    have hask := Nbr.ask HV.out hm2 wv wn
    have hwhich := Nbr.ask_which HV.out hm1 wv wn
    obtain ⟨V, hVe⟩ : ∃ V, bitsAt b a n = V := ⟨_, rfl⟩
    rw [hVe] at HCC hbr wv hask hwhich
    have k0 : wr.cell? ⟨gz + 1, 0, none⟩ = some (.int .i64 V) := (blk_cell HCC.out 0).trans rfl
    have k1 : wr.cell? ⟨gz + 1, 1, none⟩ = some (.int .i64 (n : Int)) := (blk_cell HCC.out 1).trans rfl
    have x0 : wr.cell? ⟨gx, 0, none⟩ = some (.slice A t.length c) := (blk_cell HT.out.obj 0).trans rfl
    have x1 : wr.cell? ⟨gx, 1, none⟩ = some (.map (some b1)) := (blk_cell HT.out.obj 1).trans rfl
    have x2 : wr.cell? ⟨gx, 2, none⟩ = some (.map (some b2)) := (blk_cell HT.out.obj 2).trans rfl
    have x3 : wr.cell? ⟨gx, 3, none⟩ = some (.pointer (some ⟨g, 0, none⟩)) := (blk_cell HT.out.obj 3).trans rfl
    have hleft : left wr (gz + 1) = 16 - n := by unfold left; rw [k1]; simp only; omega
    cases hB : (gB t t.length V n).isSome with
    | true =>
      rw [hB] at hask
      clear hwhich
      obtain ⟨y, hy⟩ := Option.isSome_iff_exists.1 hB
      have hn15 := (gB_some t HV.out V n _ (Nat.le_refl _) y hy).2.2
      have hnum : numG t b a (16 - n) n = if a + n + 1 ≤ 8 * b.length then numG t b a (16 - (n + 1)) (n + 1) else ((false, 0), 6, 0) := by
        rw [show 16 - n = (16 - (n + 1)) + 1 by omega]
        simp only [numG]
        rw [hVe, if_pos hB]
      by_cases fit : a + n + 1 ≤ 8 * b.length
      · rw [if_pos fit] at hnum
        go_wp2
        go_quiet (fail)
        go_wp2_with (fail)
        refine (bits_real 1 _ g b (a + n) (HT.out.rdr.drewN _) HB.out (by omega) (by omega) hl (by omega) (by omega)).mono ?_
        rintro e W ⟨rfl, hr, hgr⟩
        obtain ⟨vr, hrb, _⟩ := (HT.out.rdr.drewN nq)
        have HT2 := Aside0.mk ((HT.out.drewN nq).moved hr hgr hg)
        have HCC2 := Aside0.mk (blk_cells (w := wr.drewN nq) HCC.out hrb (by decide) hgr)
        have HZZ2 := Aside0.mk (blk_cells (w := wr.drewN nq) HZZ.out hrb (by decide) hgr)
        have hq := bitOf_range b (a + n)
        have hbit : bitsAt b (a + n) (1 : Int).toNat = bitOf b (a + n) := by
          show 2 * 0 + bitOf b (a + n + (0 : Nat)) = _
          simp
        have hnext : bitsAt b a (n + 1) = 2 * V + bitOf b (a + n) := by rw [← hVe]; rfl
        rw [hbit]
        obtain ⟨q, hqe⟩ : ∃ q, bitOf b (a + n) = q := ⟨_, rfl⟩
        rw [hqe] at hq hnext ⊢
        clear HT HCC HZZ hr hgr hrb k0 k1 x0 x1 x2 x3 hask hm1 hm2
        have k0 : W.cell? ⟨gz + 1, 0, none⟩ = some (.int .i64 V) := (blk_cell HCC2.out 0).trans rfl
        have k1 : W.cell? ⟨gz + 1, 1, none⟩ = some (.int .i64 (n : Int)) := (blk_cell HCC2.out 1).trans rfl
        have hfz := blk_frozen HCC2.out 0
        have hfz1 := blk_frozen HCC2.out 1
        go_wp2
        have hG : W.grownBy ((W.setCell ⟨gz + 1, 0, none⟩ (.int .i64 (2 * V + q))).setCell ⟨gz + 1, 1, none⟩ (.int .i64 ((n : Int) + 1))) (some (gz + 1)) := grown_set (grown_set ⟨rfl, rfl, rfl, Nat.le_refl _, fun _ _ _ => rfl⟩)
        have hH : ((W.setCell ⟨gz + 1, 0, none⟩ (.int .i64 (2 * V + q))).setCell ⟨gz + 1, 1, none⟩ (.int .i64 ((n : Int) + 1))).heap[gz + 1]? = some (.cells #[.int .i64 (2 * V + q), .int .i64 ((n : Int) + 1)] 84 (0, 0)) := by simpa using blk_set (blk_set HCC2.out 0 (.int .i64 (2 * V + q))) 1 (.int .i64 ((n : Int) + 1))
        refine ⟨⟨n + 1, by omega, hnum.symm.trans hRn, by omega, ⟨?_⟩, ⟨?_⟩, ⟨blk_cells HZZ2.out HCC2.out (by decide) hG⟩⟩, ?_⟩
        · have h := HT2.out.beside HCC2.out (by decide) (by decide) (by decide) hG (by omega) (by omega)
          rw [show a + ((n + 1 : Nat) : Int) = a + n + 1 by omega]
          exact h
        · rw [hH, hnext]
          rfl
        · rw [hleft]
          unfold left
          rw [(blk_cell hH 1).trans rfl]
          show (16 - ((n : Int) + 1)).toNat < 16 - n
          omega
      · rw [if_neg fit] at hnum
        rw [hnum] at hRn
        subst hRn
        go_wp2
        go_quiet (fail)
        go_wp2_with (fail)
        refine (bits_end 1 _ g b (a + n) (HT.out.rdr.drewN _) (by omega) (by omega) hl (by omega) (by omega) (by omega)).mono ?_
        rintro e W ⟨rfl, m, rfl⟩
        have HT2 := Aside0.mk ((HT.out.drewN nq).drewN m)
        have zc0 : wr.cell? ⟨gz, 0, none⟩ = some (.bool false) := (blk_cell HZZ.out 0).trans rfl
        have zc1 : wr.cell? ⟨gz, 1, none⟩ = some (.int .i64 0) := (blk_cell HZZ.out 1).trans rfl
        have zf0 := blk_frozen HZZ.out 0
        have zf1 := blk_frozen HZZ.out 1
        clear k0 k1 x0 x1 x2 x3
        go_wp2
        obtain ⟨hz, hzg⟩ := zset (W := wr.drewN (nq + m)) HZZ.out (.bool false) (.int .i64 0)
        have HT3 := Aside0.mk ((HT.out.drewN (nq + m)).beside (k := gz) (T := 48) (cs := #[.bool false, .int .i64 0]) HZZ.out (by decide) (by decide) (by decide) hzg (by omega) (by omega))
        obtain ⟨W2, hW2⟩ : ∃ W2, ((wr.drewN (nq + m)).setCell ⟨gz, 0, none⟩ (.bool false)).setCell ⟨gz, 1, none⟩ (.int .i64 0) = W2 := ⟨_, rfl⟩
        rw [hW2] at hz HT3 ⊢
        clear hzg hW2
        exact bodyPost_ret (zret hz rfl rfl) rfl ⟨rfl, _, (fun h => by cases h), by omega, hfit, HT3.out⟩
    | false =>
      rw [hB] at hask
      have hnum : numG t b a (16 - n) n = match gW t t.length V n with
          | some (.int _ i) => if a + n + (rd_T32 t i).f1 ≤ 8 * b.length then (numAt (rd_T32 t i) (bitsAt b (a + n) (rd_T32 t i).f1.toNat), 0, a + n + (rd_T32 t i).f1) else ((false, 0), 6, 0)
          | _ => ((false, 0), 3, 0) := by
        rw [show 16 - n = (15 - n) + 1 by omega]
        simp only [numG]
        rw [hVe, hB, if_neg (by simp)]
        try rfl
      rcases hwhich with ⟨hnone, hwhich⟩ | ⟨i, hi, hsome, hwhich⟩
      · rw [hnone] at hnum
        rw [hnum] at hRn
        subst hRn
        have zc0 : wr.cell? ⟨gz, 0, none⟩ = some (.bool false) := (blk_cell HZZ.out 0).trans rfl
        have zc1 : wr.cell? ⟨gz, 1, none⟩ = some (.int .i64 0) := (blk_cell HZZ.out 1).trans rfl
        have zf0 := blk_frozen HZZ.out 0
        have zf1 := blk_frozen HZZ.out 1
        go_wp2
        go_quiet (fail)
        go_wp2_with (fail)
        go_quiet (fail)
        go_wp2_with (fail)
        exact bodyPost_ret (zret (zend HT.out HZZ.out hgb hgs (.bool false) (.int .i64 0) _).1 rfl rfl) rfl ⟨rfl, _, (fun h => by cases h), by omega, hfit, (zend HT.out HZZ.out hgb hgs (.bool false) (.int .i64 0) _).2⟩
      · rw [hsome] at hnum
        have hnum := hnum.symm.trans hRn
        have hl2 := of_decide_eq_true (HV.out.2.1 _ (rdL_mem hi))
        obtain ⟨ad, hA, l0, l1, l2, l3⟩ := at_T32 (Kd.C_below HC.out HT.out.bel) (i : Int) (by omega) (by omega)
        obtain ⟨x, hx⟩ : ∃ x, rd_T32 t (i : Int) = x := ⟨_, rfl⟩
        simp only at hnum
        rw [hx] at hnum hl2 l0 l1 l2 l3
        subst hA
        simp only [Int.toNat_natCast] at l0 l1 l2 l3
        have hi0 : (0 : Int) ≤ (i : Int) := by omega
        have hi1 : (i : Int) < (t.length : Int) := by omega
        go_wp2
        go_quiet (fail)
        obtain ⟨n1, hn1⟩ : ∃ n1, n1 = nq := ⟨_, rfl⟩
        rw [← hn1]
        clear hn1
        go_wp2_with (fail)
        go_quiet (fail)
        go_wp2_with (fail)
        have hdr : ∀ W : World, Below W.heap.size W W.drew := fun W => below_drew (Below.refl _ _)
        have HT0 := Aside0.mk ((HT.out.drewN (n1 + nq)).below (hdr _))
        have HZ0 := Aside0.mk (show (wr.drewN (n1 + nq)).drew.heap[gz]? = some (.cells #[.bool false, .int .i64 0] 48 (0, 0)) from HZZ.out)
        obtain ⟨vr, hrb, _⟩ := HT0.out.rdr
        have hf0 : 0 ≤ x.f1 := by omega
        have hf1 : x.f1 ≤ 32 := by omega
        have hf2 : 0 ≤ a + n := by omega
        have hf3 : a + n ≤ 8 * b.length := hfit
        by_cases hfit2 : a + n + x.f1 ≤ 8 * b.length
        · rw [if_pos hfit2] at hnum
          refine start_ (n := 18) (S := fun w' => w'.cell? ⟨gx, 3, none⟩ = some (.pointer (some ⟨g, 0, none⟩)) ∧ w'.cell? ⟨gx, 0, none⟩ = some (.slice (some ad) t.length c) ∧ w'.cell? { block := (ad.add (i * 4)).block, off := (ad.add (i * 4)).off + 1 } = some (.int .i64 x.f1)) (ds := []) #[false, false, false, false, false, false, false, false, false, false, false, false, false, false, false, false, false, false] (by kernel_rfl) rfl rfl ⟨x3, x0, l1⟩ (fun hHeld => ?_)
          refine pure_ (i := 0) (N := some 52) (v := ?_) (a' := ?_) #[true, false, false, false, false, false, false, false, false, false, false, false, false, false, false, false, false, false] rfl rfl (by kernel_rfl) (fun _ _ _ h => h) (Or.inl ⟨by rfl, ?_⟩) ?_ ?_
          rotate_left
          · intro w'
            go_simp
            with_reducible rfl
          rotate_left
          · simp only [Act.put, List.setIfInBounds_toArray, List.set_cons_zero, List.set_cons_succ, i64_w, i32_w]
            rfl
          refine pure_ (i := 1) (N := some 53) (v := ?_) (a' := ?_) #[true, true, false, false, false, false, false, false, false, false, false, false, false, false, false, false, false, false] rfl rfl (by kernel_rfl) (fun _ _ _ h => h) (Or.inl ⟨by rfl, ?_⟩) ?_ ?_
          rotate_left
          · intro w'
            go_simp
            with_reducible rfl
          rotate_left
          · simp only [Act.put, List.setIfInBounds_toArray, List.set_cons_zero, List.set_cons_succ, i64_w, i32_w]
            rfl
          refine pure_ (i := 2) (N := some 54) (v := ?_) (a' := ?_) #[true, true, true, false, false, false, false, false, false, false, false, false, false, false, false, false, false, false] rfl rfl (by kernel_rfl) (fun _ _ _ h => h) (Or.inl ⟨by rfl, ?_⟩) ?_ ?_
          rotate_left
          · intro w'
            go_simp
            with_reducible rfl
          rotate_left
          · simp only [Act.put, List.setIfInBounds_toArray, List.set_cons_zero, List.set_cons_succ, i64_w, i32_w]
            rfl
          refine pure_ (i := 4) (N := some 56) (v := ?_) (a' := ?_) #[true, true, true, false, true, false, false, false, false, false, false, false, false, false, false, false, false, false] rfl rfl (by kernel_rfl) (fun _ _ _ h => h) (Or.inl ⟨by rfl, ?_⟩) ?_ ?_
          rotate_left
          · intro w'
            go_simp
            with_reducible rfl
          rotate_left
          · simp only [Act.put, List.setIfInBounds_toArray, List.set_cons_zero, List.set_cons_succ, i64_w, i32_w]
            rfl
          refine pure_ (i := 5) (N := some 57) (v := ?_) (a' := ?_) #[true, true, true, false, true, true, false, false, false, false, false, false, false, false, false, false, false, false] rfl rfl (by kernel_rfl) (fun _ _ _ h => h) (Or.inl ⟨by rfl, ?_⟩) ?_ ?_
          rotate_left
          · intro w'
            go_simp
            with_reducible rfl
          rotate_left
          · simp only [Act.put, List.setIfInBounds_toArray, List.set_cons_zero, List.set_cons_succ, i64_w, i32_w]
            rfl
          refine pure_ (i := 6) (N := some 58) (v := ?_) (a' := ?_) #[true, true, true, false, true, true, true, false, false, false, false, false, false, false, false, false, false, false] rfl rfl (by kernel_rfl) (fun _ _ _ h => h) (Or.inl ⟨by rfl, ?_⟩) ?_ ?_
          rotate_left
          · intro w'
            go_simp
            with_reducible rfl
          rotate_left
          · simp only [Act.put, List.setIfInBounds_toArray, List.set_cons_zero, List.set_cons_succ, i64_w, i32_w]
            rfl
          refine pure_ (i := 8) (N := some 60) (v := ?_) (a' := ?_) #[true, true, true, false, true, true, true, false, true, false, false, false, false, false, false, false, false, false] rfl rfl (by kernel_rfl) (fun _ _ _ h => h) (Or.inl ⟨by rfl, ?_⟩) ?_ ?_
          rotate_left
          · intro w'
            go_simp
            with_reducible rfl
          rotate_left
          · simp only [Act.put, List.setIfInBounds_toArray, List.set_cons_zero, List.set_cons_succ, i64_w, i32_w]
            rfl
          refine take_ (i := 3) (N := some 55) (v := ?_) (a' := ?_) #[true, true, true, true, true, true, true, false, true, false, false, false, false, false, false, false, false, false] rfl rfl (by kernel_rfl) (fun _ _ _ h => h) (Or.inl ⟨by rfl, ?_⟩) hHeld ?_ ?_
          rotate_left
          · rintro w' ⟨s0, s1, s2⟩
            go_simp
            with_reducible rfl
          rotate_left
          · simp only [Act.put, List.setIfInBounds_toArray, List.set_cons_zero, List.set_cons_succ, i64_w, i32_w]
            rfl
          refine take_ (i := 7) (N := some 59) (v := ?_) (a' := ?_) #[true, true, true, true, true, true, true, true, true, false, false, false, false, false, false, false, false, false] rfl rfl (by kernel_rfl) (fun _ _ _ h => h) (Or.inl ⟨by rfl, ?_⟩) hHeld ?_ ?_
          rotate_left
          · rintro w' ⟨s0, s1, s2⟩
            go_simp
            with_reducible rfl
          rotate_left
          · simp only [Act.put, List.setIfInBounds_toArray, List.set_cons_zero, List.set_cons_succ, i64_w, i32_w]
            rfl
          refine pure_ (i := 9) (N := some 61) (v := ?_) (a' := ?_) #[true, true, true, true, true, true, true, true, true, true, false, false, false, false, false, false, false, false] rfl rfl (by kernel_rfl) (fun _ _ _ h => h) (Or.inl ⟨by rfl, ?_⟩) ?_ ?_
          rotate_left
          · intro w'
            go_simp
            with_reducible rfl
          rotate_left
          · simp only [Act.put, List.setIfInBounds_toArray, List.set_cons_zero, List.set_cons_succ, i64_w, i32_w]
            rfl
          refine pure_ (i := 10) (N := some 62) (v := ?_) (a' := ?_) #[true, true, true, true, true, true, true, true, true, true, true, false, false, false, false, false, false, false] rfl rfl (by kernel_rfl) (fun _ _ _ h => h) (Or.inl ⟨by rfl, ?_⟩) ?_ ?_
          rotate_left
          · intro w'
            go_simp
            with_reducible rfl
          rotate_left
          · simp only [Act.put, List.setIfInBounds_toArray, List.set_cons_zero, List.set_cons_succ, i64_w, i32_w]
            rfl
          refine take_ (i := 11) (N := some 63) (v := ?_) (a' := ?_) #[true, true, true, true, true, true, true, true, true, true, true, true, false, false, false, false, false, false] rfl rfl (by kernel_rfl) (fun _ _ _ h => h) (Or.inl ⟨by rfl, ?_⟩) hHeld ?_ ?_
          rotate_left
          · rintro w' ⟨s0, s1, s2⟩
            go_simp
            with_reducible rfl
          rotate_left
          · simp only [Act.put, List.setIfInBounds_toArray, List.set_cons_zero, List.set_cons_succ, i64_w, i32_w]
            rfl
          refine one_ (i := 12) (N := some 64) #[true, true, true, true, true, true, true, true, true, true, true, true, true, false, false, false, false, false] rfl rfl (by kernel_rfl) (by decide) (fun K hK => ?_)
          refine goes_ Try.func67 (by kernel_rfl) rfl #[.pointer (some ⟨g, 0, none⟩), .int .i64 x.f1] (by rfl) rfl rfl (by simp only [List.map_toArray, List.map_cons, List.map_nil]; rfl) ?_
          with_reducible refine (bits_real x.f1 _ g b (a + n) HT0.out.rdr HB.out hf0 hf1 hl hf2 hfit2).mono ?_
          rintro e W2 ⟨rfl, hr, hgr⟩
          refine ⟨_, rfl, ?_⟩
          have HT2 := Aside0.mk (HT0.out.moved hr hgr hg)
          have HZ2 := Aside0.mk (blk_cells HZ0.out hrb (by decide) hgr)
          obtain ⟨ad', hA', l0', l1', l2', l3'⟩ := at_T32 (Kd.C_below HC.out HT2.out.bel) (i : Int) hi0 hi1
          obtain rfl : ad = ad' := by injection hA'
          rw [hx] at l0' l1' l2' l3'
          simp only [Int.toNat_natCast] at l0' l1' l2' l3'
          refine hK.out _ _ ⟨(blk_cell HT2.out.obj 3).trans rfl, (blk_cell HT2.out.obj 0).trans rfl, l1'⟩ (fun hHeld => ?_)
          clear hK K
          refine norm_ (a' := ?_) ?_ ?_
          rotate_left
          · show Act.put _ (some 64) _ = _
            simp only [Act.put, List.setIfInBounds_toArray, List.set_cons_zero, List.set_cons_succ, i64_w, i32_w]
            rfl
          refine pure_ (i := 13) (N := some 51) (v := ?_) (a' := ?_) #[true, true, true, true, true, true, true, true, true, true, true, true, true, true, false, false, false, false] rfl rfl (by kernel_rfl) (fun _ _ _ h => h) (Or.inl ⟨by rfl, ?_⟩) ?_ ?_
          rotate_left
          · intro w'
            go_simp
            with_reducible rfl
          rotate_left
          · simp only [Act.put, List.setIfInBounds_toArray, List.set_cons_zero, List.set_cons_succ, i64_w, i32_w]
            rfl
          refine pure_ (i := 14) (N := some 65) (v := ?_) (a' := ?_) #[true, true, true, true, true, true, true, true, true, true, true, true, true, true, true, false, false, false] rfl rfl (by kernel_rfl) (fun _ _ _ h => h) (Or.inl ⟨by rfl, ?_⟩) ?_ ?_
          rotate_left
          · intro w'
            go_simp
            with_reducible rfl
          rotate_left
          · simp only [Act.put, List.setIfInBounds_toArray, List.set_cons_zero, List.set_cons_succ, i64_w, i32_w]
            rfl
          refine pure_ (i := 15) (N := some 66) (v := ?_) (a' := ?_) #[true, true, true, true, true, true, true, true, true, true, true, true, true, true, true, true, false, false] rfl rfl (by kernel_rfl) (fun _ _ _ h => h) (Or.inl ⟨by rfl, ?_⟩) ?_ ?_
          rotate_left
          · intro w'
            go_simp
            with_reducible rfl
          rotate_left
          · simp only [Act.put, List.setIfInBounds_toArray, List.set_cons_zero, List.set_cons_succ, i64_w, i32_w]
            rfl
          refine pure_ (i := 16) (N := some 9) (v := ?_) (a' := ?_) #[true, true, true, true, true, true, true, true, true, true, true, true, true, true, true, true, true, false] rfl rfl (by kernel_rfl) (fun _ _ _ h => h) (Or.inl ⟨by rfl, ?_⟩) ?_ ?_
          rotate_left
          · intro w'
            go_simp
            with_reducible rfl
          rotate_left
          · simp only [Act.put, List.setIfInBounds_toArray, List.set_cons_zero, List.set_cons_succ, i64_w, i32_w]
            rfl
          refine pure_ (i := 17) (N := some 10) (v := ?_) (a' := ?_) #[true, true, true, true, true, true, true, true, true, true, true, true, true, true, true, true, true, true] rfl rfl (by kernel_rfl) (fun _ _ _ h => h) (Or.inl ⟨by rfl, ?_⟩) ?_ ?_
          rotate_left
          · intro w'
            go_simp
            with_reducible rfl
          rotate_left
          · simp only [Act.put, List.setIfInBounds_toArray, List.set_cons_zero, List.set_cons_succ, i64_w, i32_w]
            rfl
          refine done_ (by kernel_rfl) ?_
          have hdr2 := bitsAt_range b (a + n) x.f1.toNat
          have hp20 : (2 : Int) ^ x.f1.toNat ≤ 2 ^ 20 := by exact_mod_cast Nat.pow_le_pow_right (by omega) (show x.f1.toNat ≤ 20 by omega)
          have hp20' : (2 : Int) ^ 20 = 1048576 := by decide
          obtain ⟨d, hd⟩ : ∃ d, bitsAt b (a + n) x.f1.toNat = d := ⟨_, rfl⟩
          rw [hd] at hnum hdr2 ⊢
          have x0' : W2.cell? ⟨gx, 0, none⟩ = some (.slice (some ad) t.length c) := (blk_cell HT2.out.obj 0).trans rfl
          have z0 : W2.cell? ⟨gz, 0, none⟩ = some (.bool false) := (blk_cell HZ2.out 0).trans rfl
          have z1 : W2.cell? ⟨gz, 1, none⟩ = some (.int .i64 0) := (blk_cell HZ2.out 1).trans rfl
          have zf0 := blk_frozen HZ2.out 0
          have zf1 := blk_frozen HZ2.out 1
          clear hHeld k0 k1 x0 x1 x2 x3 l0 l1 l2 l3 hask hwhich
          by_cases c2 : x.f3 = 2
          · have c2b : (x.f3 == 2) = true := by rw [c2]; rfl
            have hx1 : x.f1 = 0 := (hl2.2.2.2.2.2.2.2.2 c2).1
            have hnA : numAt x d = (true, 0) := by unfold numAt; rw [if_pos c2]
            rw [hnA] at hnum
            subst hnum
            go_wp2
            exact bodyPost_ret (zret (zend0 HT2.out HZ2.out hgb hgs (.bool true) (.int .i64 0)).1 rfl rfl) rfl ⟨rfl, a + n, (fun h => rfl), by omega, by omega, by have h := (zend0 HT2.out HZ2.out hgb hgs (.bool true) (.int .i64 0)).2; rwa [hx1, Int.add_zero] at h⟩
          · have c2b : (x.f3 == 2) = false := by simpa using c2
            by_cases c1 : x.f3 = 1
            · have c1b : (x.f3 == 1) = true := by rw [c1]; rfl
              have hnA : numAt x d = (false, x.f2 + -d) := by unfold numAt; rw [if_neg c2, if_pos c1, Int.sub_eq_add_neg]
              rw [hnA] at hnum
              subst hnum
              go_wp2
              exact bodyPost_ret (zret (zend0 HT2.out HZ2.out hgb hgs (.bool false) (.int .i64 (x.f2 + -d))).1 rfl rfl) rfl ⟨rfl, a + n + x.f1, (fun h => rfl), by omega, hfit2, (zend0 HT2.out HZ2.out hgb hgs (.bool false) (.int .i64 (x.f2 + -d))).2⟩
            · have c1b : (x.f3 == 1) = false := by simpa using c1
              have hnA : numAt x d = (false, x.f2 + d) := by unfold numAt; rw [if_neg c2, if_neg c1]
              rw [hnA] at hnum
              subst hnum
              go_wp2
              exact bodyPost_ret (zret (zend0 HT2.out HZ2.out hgb hgs (.bool false) (.int .i64 (x.f2 + d))).1 rfl rfl) rfl ⟨rfl, a + n + x.f1, (fun h => rfl), by omega, hfit2, (zend0 HT2.out HZ2.out hgb hgs (.bool false) (.int .i64 (x.f2 + d))).2⟩
        · rw [if_neg hfit2] at hnum
          have hfit2 : 8 * (b.length : Int) < a + n + x.f1 := by omega
          refine start_ (n := 18) (S := fun w' => w'.cell? ⟨gx, 3, none⟩ = some (.pointer (some ⟨g, 0, none⟩)) ∧ w'.cell? ⟨gx, 0, none⟩ = some (.slice (some ad) t.length c) ∧ w'.cell? { block := (ad.add (i * 4)).block, off := (ad.add (i * 4)).off + 1 } = some (.int .i64 x.f1)) (ds := []) #[false, false, false, false, false, false, false, false, false, false, false, false, false, false, false, false, false, false] (by kernel_rfl) rfl rfl ⟨x3, x0, l1⟩ (fun hHeld => ?_)
          refine pure_ (i := 0) (N := some 52) (v := ?_) (a' := ?_) #[true, false, false, false, false, false, false, false, false, false, false, false, false, false, false, false, false, false] rfl rfl (by kernel_rfl) (fun _ _ _ h => h) (Or.inl ⟨by rfl, ?_⟩) ?_ ?_
          rotate_left
          · intro w'
            go_simp
            with_reducible rfl
          rotate_left
          · simp only [Act.put, List.setIfInBounds_toArray, List.set_cons_zero, List.set_cons_succ, i64_w, i32_w]
            rfl
          refine pure_ (i := 1) (N := some 53) (v := ?_) (a' := ?_) #[true, true, false, false, false, false, false, false, false, false, false, false, false, false, false, false, false, false] rfl rfl (by kernel_rfl) (fun _ _ _ h => h) (Or.inl ⟨by rfl, ?_⟩) ?_ ?_
          rotate_left
          · intro w'
            go_simp
            with_reducible rfl
          rotate_left
          · simp only [Act.put, List.setIfInBounds_toArray, List.set_cons_zero, List.set_cons_succ, i64_w, i32_w]
            rfl
          refine pure_ (i := 2) (N := some 54) (v := ?_) (a' := ?_) #[true, true, true, false, false, false, false, false, false, false, false, false, false, false, false, false, false, false] rfl rfl (by kernel_rfl) (fun _ _ _ h => h) (Or.inl ⟨by rfl, ?_⟩) ?_ ?_
          rotate_left
          · intro w'
            go_simp
            with_reducible rfl
          rotate_left
          · simp only [Act.put, List.setIfInBounds_toArray, List.set_cons_zero, List.set_cons_succ, i64_w, i32_w]
            rfl
          refine pure_ (i := 4) (N := some 56) (v := ?_) (a' := ?_) #[true, true, true, false, true, false, false, false, false, false, false, false, false, false, false, false, false, false] rfl rfl (by kernel_rfl) (fun _ _ _ h => h) (Or.inl ⟨by rfl, ?_⟩) ?_ ?_
          rotate_left
          · intro w'
            go_simp
            with_reducible rfl
          rotate_left
          · simp only [Act.put, List.setIfInBounds_toArray, List.set_cons_zero, List.set_cons_succ, i64_w, i32_w]
            rfl
          refine pure_ (i := 5) (N := some 57) (v := ?_) (a' := ?_) #[true, true, true, false, true, true, false, false, false, false, false, false, false, false, false, false, false, false] rfl rfl (by kernel_rfl) (fun _ _ _ h => h) (Or.inl ⟨by rfl, ?_⟩) ?_ ?_
          rotate_left
          · intro w'
            go_simp
            with_reducible rfl
          rotate_left
          · simp only [Act.put, List.setIfInBounds_toArray, List.set_cons_zero, List.set_cons_succ, i64_w, i32_w]
            rfl
          refine pure_ (i := 6) (N := some 58) (v := ?_) (a' := ?_) #[true, true, true, false, true, true, true, false, false, false, false, false, false, false, false, false, false, false] rfl rfl (by kernel_rfl) (fun _ _ _ h => h) (Or.inl ⟨by rfl, ?_⟩) ?_ ?_
          rotate_left
          · intro w'
            go_simp
            with_reducible rfl
          rotate_left
          · simp only [Act.put, List.setIfInBounds_toArray, List.set_cons_zero, List.set_cons_succ, i64_w, i32_w]
            rfl
          refine pure_ (i := 8) (N := some 60) (v := ?_) (a' := ?_) #[true, true, true, false, true, true, true, false, true, false, false, false, false, false, false, false, false, false] rfl rfl (by kernel_rfl) (fun _ _ _ h => h) (Or.inl ⟨by rfl, ?_⟩) ?_ ?_
          rotate_left
          · intro w'
            go_simp
            with_reducible rfl
          rotate_left
          · simp only [Act.put, List.setIfInBounds_toArray, List.set_cons_zero, List.set_cons_succ, i64_w, i32_w]
            rfl
          refine take_ (i := 3) (N := some 55) (v := ?_) (a' := ?_) #[true, true, true, true, true, true, true, false, true, false, false, false, false, false, false, false, false, false] rfl rfl (by kernel_rfl) (fun _ _ _ h => h) (Or.inl ⟨by rfl, ?_⟩) hHeld ?_ ?_
          rotate_left
          · rintro w' ⟨s0, s1, s2⟩
            go_simp
            with_reducible rfl
          rotate_left
          · simp only [Act.put, List.setIfInBounds_toArray, List.set_cons_zero, List.set_cons_succ, i64_w, i32_w]
            rfl
          refine take_ (i := 7) (N := some 59) (v := ?_) (a' := ?_) #[true, true, true, true, true, true, true, true, true, false, false, false, false, false, false, false, false, false] rfl rfl (by kernel_rfl) (fun _ _ _ h => h) (Or.inl ⟨by rfl, ?_⟩) hHeld ?_ ?_
          rotate_left
          · rintro w' ⟨s0, s1, s2⟩
            go_simp
            with_reducible rfl
          rotate_left
          · simp only [Act.put, List.setIfInBounds_toArray, List.set_cons_zero, List.set_cons_succ, i64_w, i32_w]
            rfl
          refine pure_ (i := 9) (N := some 61) (v := ?_) (a' := ?_) #[true, true, true, true, true, true, true, true, true, true, false, false, false, false, false, false, false, false] rfl rfl (by kernel_rfl) (fun _ _ _ h => h) (Or.inl ⟨by rfl, ?_⟩) ?_ ?_
          rotate_left
          · intro w'
            go_simp
            with_reducible rfl
          rotate_left
          · simp only [Act.put, List.setIfInBounds_toArray, List.set_cons_zero, List.set_cons_succ, i64_w, i32_w]
            rfl
          refine pure_ (i := 10) (N := some 62) (v := ?_) (a' := ?_) #[true, true, true, true, true, true, true, true, true, true, true, false, false, false, false, false, false, false] rfl rfl (by kernel_rfl) (fun _ _ _ h => h) (Or.inl ⟨by rfl, ?_⟩) ?_ ?_
          rotate_left
          · intro w'
            go_simp
            with_reducible rfl
          rotate_left
          · simp only [Act.put, List.setIfInBounds_toArray, List.set_cons_zero, List.set_cons_succ, i64_w, i32_w]
            rfl
          refine take_ (i := 11) (N := some 63) (v := ?_) (a' := ?_) #[true, true, true, true, true, true, true, true, true, true, true, true, false, false, false, false, false, false] rfl rfl (by kernel_rfl) (fun _ _ _ h => h) (Or.inl ⟨by rfl, ?_⟩) hHeld ?_ ?_
          rotate_left
          · rintro w' ⟨s0, s1, s2⟩
            go_simp
            with_reducible rfl
          rotate_left
          · simp only [Act.put, List.setIfInBounds_toArray, List.set_cons_zero, List.set_cons_succ, i64_w, i32_w]
            rfl
          refine one_ (i := 12) (N := some 64) #[true, true, true, true, true, true, true, true, true, true, true, true, true, false, false, false, false, false] rfl rfl (by kernel_rfl) (by decide) (fun K hK => ?_)
          refine goes_ Try.func67 (by kernel_rfl) rfl #[.pointer (some ⟨g, 0, none⟩), .int .i64 x.f1] (by rfl) rfl rfl (by simp only [List.map_toArray, List.map_cons, List.map_nil]; rfl) ?_
          with_reducible refine (bits_end x.f1 _ g b (a + n) HT0.out.rdr hf0 hf1 hl hf2 hf3 hfit2).mono ?_
          rintro e W2 ⟨rfl, m, hW2⟩
          refine ⟨_, rfl, ?_⟩
          have HT2 := Aside0.mk (show Rs w0 w W2 gx (some ad) c b1 b2 g t b (a + n) from hW2 ▸ HT0.out.drewN m)
          have HZ2 := Aside0.mk (show W2.heap[gz]? = some (.cells #[.bool false, .int .i64 0] 48 (0, 0)) from hW2 ▸ HZ0.out)
          clear hW2
          obtain ⟨ad', hA', l0', l1', l2', l3'⟩ := at_T32 (Kd.C_below HC.out HT2.out.bel) (i : Int) hi0 hi1
          obtain rfl : ad = ad' := by injection hA'
          rw [hx] at l0' l1' l2' l3'
          simp only [Int.toNat_natCast] at l0' l1' l2' l3'
          refine hK.out _ _ ⟨(blk_cell HT2.out.obj 3).trans rfl, (blk_cell HT2.out.obj 0).trans rfl, l1'⟩ (fun hHeld => ?_)
          clear hK K
          refine norm_ (a' := ?_) ?_ ?_
          rotate_left
          · show Act.put _ (some 64) _ = _
            simp only [Act.put, List.setIfInBounds_toArray, List.set_cons_zero, List.set_cons_succ, i64_w, i32_w]
            rfl
          refine pure_ (i := 13) (N := some 51) (v := ?_) (a' := ?_) #[true, true, true, true, true, true, true, true, true, true, true, true, true, true, false, false, false, false] rfl rfl (by kernel_rfl) (fun _ _ _ h => h) (Or.inl ⟨by rfl, ?_⟩) ?_ ?_
          rotate_left
          · intro w'
            go_simp
            with_reducible rfl
          rotate_left
          · simp only [Act.put, List.setIfInBounds_toArray, List.set_cons_zero, List.set_cons_succ, i64_w, i32_w]
            rfl
          refine pure_ (i := 14) (N := some 65) (v := ?_) (a' := ?_) #[true, true, true, true, true, true, true, true, true, true, true, true, true, true, true, false, false, false] rfl rfl (by kernel_rfl) (fun _ _ _ h => h) (Or.inl ⟨by rfl, ?_⟩) ?_ ?_
          rotate_left
          · intro w'
            go_simp
            with_reducible rfl
          rotate_left
          · simp only [Act.put, List.setIfInBounds_toArray, List.set_cons_zero, List.set_cons_succ, i64_w, i32_w]
            rfl
          refine pure_ (i := 15) (N := some 66) (v := ?_) (a' := ?_) #[true, true, true, true, true, true, true, true, true, true, true, true, true, true, true, true, false, false] rfl rfl (by kernel_rfl) (fun _ _ _ h => h) (Or.inl ⟨by rfl, ?_⟩) ?_ ?_
          rotate_left
          · intro w'
            go_simp
            with_reducible rfl
          rotate_left
          · simp only [Act.put, List.setIfInBounds_toArray, List.set_cons_zero, List.set_cons_succ, i64_w, i32_w]
            rfl
          refine pure_ (i := 16) (N := some 9) (v := ?_) (a' := ?_) #[true, true, true, true, true, true, true, true, true, true, true, true, true, true, true, true, true, false] rfl rfl (by kernel_rfl) (fun _ _ _ h => h) (Or.inl ⟨by rfl, ?_⟩) ?_ ?_
          rotate_left
          · intro w'
            go_simp
            with_reducible rfl
          rotate_left
          · simp only [Act.put, List.setIfInBounds_toArray, List.set_cons_zero, List.set_cons_succ, i64_w, i32_w]
            rfl
          refine pure_ (i := 17) (N := some 10) (v := ?_) (a' := ?_) #[true, true, true, true, true, true, true, true, true, true, true, true, true, true, true, true, true, true] rfl rfl (by kernel_rfl) (fun _ _ _ h => h) (Or.inl ⟨by rfl, ?_⟩) ?_ ?_
          rotate_left
          · intro w'
            go_simp
            with_reducible rfl
          rotate_left
          · simp only [Act.put, List.setIfInBounds_toArray, List.set_cons_zero, List.set_cons_succ, i64_w, i32_w]
            rfl
          refine done_ (by kernel_rfl) ?_
          have z0 : W2.cell? ⟨gz, 0, none⟩ = some (.bool false) := (blk_cell HZ2.out 0).trans rfl
          have z1 : W2.cell? ⟨gz, 1, none⟩ = some (.int .i64 0) := (blk_cell HZ2.out 1).trans rfl
          have zf0 := blk_frozen HZ2.out 0
          have zf1 := blk_frozen HZ2.out 1
          clear hHeld k0 k1 x0 x1 x2 x3 l0 l1 l2 l3 hask hwhich
          subst hnum
          go_wp2
          exact bodyPost_ret (zret (zend0 HT2.out HZ2.out hgb hgs (.bool false) (.int .i64 0)).1 rfl rfl) rfl ⟨rfl, _, (fun h => by cases h), by omega, hf3, (zend0 HT2.out HZ2.out hgb hgs (.bool false) (.int .i64 0)).2⟩
end Go.Proofs.Ytnadgcdkcabdoaa.Nbw
namespace Go.Proofs.Ytnadgcdkcabdoaa.Dwk
open Go Go.RowKit Go.Proofs.YtnadgcdkcabdoaaW.PrintWords Go.Proofs.YtnadgcdkcabdoaaW.PrintLast Go.Proofs.YtnadgcdkcabdoaaW.PrintMore Go.Proofs.Ytnadgcdkcabdoaa.Aid Go.Proofs.Ytnadgcdkcabdoaa.HandAid Go.Proofs.Ytnadgcdkcabdoaa.U Go.Proofs.Ytnadgcdkcabdoaa.Tab Go.Proofs.Ytnadgcdkcabdoaa.Cdx Go.Proofs.Ytnadgcdkcabdoaa.Cdy Go.Proofs.Ytnadgcdkcabdoaa.Cdz Go.Proofs.Ytnadgcdkcabdoaa.Rdp Go.Proofs.Ytnadgcdkcabdoaa.Mpp Go.Proofs.Ytnadgcdkcabdoaa.Dcm Go.Proofs.Ytnadgcdkcabdoaa.Nrd Go.Proofs.Ytnadgcdkcabdoaa.Nbr Go.Proofs.Ytnadgcdkcabdoaa.Nbw
/-- The numbers behind a place. -/
def decL (t : List Ln) (b : List Int) : Nat → Int → List S48 → List S48 × Int × Int
  | 0, a, l => (l, a, 0)
  | k + 1, a, l => if (numG t b a 16 0).2.1 = 0 then decL t b k (numG t b a 16 0).2.2 (l ++ [⟨(numG t b a 16 0).1.1, (numG t b a 16 0).1.2⟩]) else ([], 0, (numG t b a 16 0).2.1)
def decP (t : List Ln) (b : List Int) (n : Int) : List S48 × Int × Int :=
  if vldP t then (if n < 0 ∨ 20000 < n then ([], 0, 2) else decL t b n.toNat 0 []) else ([], 0, 20)
theorem Rs.now {w0 ws wr : World} {gx : Nat} {A : Option Addr} {c b1 b2 g : Nat} {t : List Ln} {b : List Int} {a : Int} (h : Rs w0 ws wr gx A c b1 b2 g t b a) : Rs w0 wr wr gx A c b1 b2 g t b a :=
  ⟨h.obj, h.m1, h.m2, h.rdr, h.bel, ⟨rfl, rfl, rfl, Nat.le_refl _, fun _ _ _ => rfl⟩⟩
theorem rs_row {w0 ws wr w1 : World} {gx : Nat} {A : Option Addr} {c b1 b2 g : Nat} {t : List Ln} {b : List Int} {a : Int} (h : Rs w0 ws wr gx A c b1 b2 g t b a) {v : Value} {xs : List S48} (hR : Kd.R k48 48 wr w0.heap.size (fun _ => True) v xs) (hg : wr.grownBy w1 v.ownBlock) : Rs w0 w1 w1 gx A c b1 b2 g t b a := by
  cases hv : v.ownBlock with
  | none =>
    rw [hv] at hg
    exact Rs.now (h.below ⟨hg.os, hg.tape, hg.output, hg.size, fun k hk => hg.block k hk (by simp)⟩)
  | some k =>
    rw [hv] at hg
    obtain ⟨cells, hc⟩ := Kd.R_typed hR k hv
    exact Rs.now ((⟨h.obj, h.m1, h.m2, h.rdr, h.bel, ⟨h.bel.os, h.bel.tape, h.bel.output, h.bel.size, fun i hi _ => h.bel.block i hi⟩⟩ : Rs w0 w0 wr gx A c b1 b2 g t b a).beside hc (by decide) (by decide) (by decide) hg (Kd.R_base hR k hv) (Kd.R_base hR k hv))
set_option maxHeartbeats 8000000 in
set_option maxRecDepth 100000 in
theorem decode_main (A : Option Addr) (c : Nat) (t : List Ln) (A2 : Option Addr) (c2 : Nat) (b : List Int) (n : Int) (w : World) (hv : vldP t) (hn0 : 0 ≤ n) (hn1 : n ≤ 20000) (hC : Kd.C k32 w A t.length t) (hc : t.length ≤ c) (hC2 : Kd.C (Kd.int .u8) w A2 b.length b) (hc2 : b.length ≤ c2) (hb : Bytes b) (hl : b.length ≤ 140737488355328)
    (R : List S48 × Int × Int) (hR : decL t b n.toNat 0 [] = R) :
    Calls Try.prog 34 #[.slice A t.length c, .slice A2 b.length c2, .int .i64 n] w fun e w' => ∃ v0, e = .returned (.tuple #[v0, .int .i64 R.2.1, .int .i64 R.2.2]) ∧ Kd.R k48 48 w' w.heap.size (fun _ => True) v0 R.1 ∧ Below w.heap.size w w' := by
  obtain ⟨K0, hval⟩ := Ev.rounds (pvalid_ev t)
  rw [decide_eq_true hv] at hval
  have HVA := Aside0.mk hval
  have HV := Aside0.mk hv
  have HC := Aside0.mk hC
  have HC2 := Aside0.mk hC2
  have HB := Aside0.mk hb
  clear hval hv hC hC2 hb
  have hu48 := Try.underlying48
  have hu100 := Try.underlying100
  have hnn : ¬ n < 0 := by omega
  have hnn2 : ¬ 20000 < n := by omega
  go_enter Try.func34, Try.ntmps34
  go_wp2_with (first
    | (go_at_call 23; with_reducible refine (prefix_Valid.calls K0 A c t true _ HC.out hc HVA.out).mono ?_; rintro e w1 ⟨rfl, hb1⟩; have HB1 := Aside0.mk hb1; clear hb1))
  refine (newreader_calls A c t A2 c2 b _ HV.out (Kd.C_below HC.out HB1.out) hc (Kd.C_below HC2.out HB1.out) hc2 hl).mono ?_
  rintro e w2 ⟨gx, rfl, hgx, b1, b2, g, Ac, cc, n1, n2, hg, hst⟩
  have HST := Aside0.mk hst
  have HG := Aside0.mk hg
  clear hst hg hgx
  go_wp2_with (fail)
  have hle1 := HB1.out.size
  have hg : w.heap.size ≤ g := Nat.le_trans hle1 HG.out
  have HT := Aside0.mk (show Rs w w2 w2 gx A c b1 b2 g t b 0 from ⟨HST.out.obj, ⟨_, HST.out.m1⟩, ⟨_, HST.out.m2⟩, HST.out.rdr, below_then HB1.out hle1 HST.out.bel, ⟨rfl, rfl, rfl, Nat.le_refl _, fun _ _ _ => rfl⟩⟩)
  clear HST HG HB1 hle1
  go_loopw [6, 27] (fun v x wr => ∃ k : Nat, ∃ a : Int, ∃ acc : List S48, (k : Int) ≤ n ∧ x = .int .i64 k ∧ 0 ≤ a ∧ a ≤ 8 * b.length ∧ decL t b (n.toNat - k) a acc = R ∧ acc.length = k ∧ Aside0 (Rs w wr wr gx A c b1 b2 g t b a) ∧ Aside0 (Kd.R k48 48 wr w.heap.size (fun _ => True) v acc)) (fun _ x _ => (n - intOf x).toNat)
  case atStart => exact ⟨0, 0, [], by omega, rfl, by omega, by omega, hR, rfl, HT, ⟨Kd.R_nil _ _ _ _ _⟩⟩
  case round =>
    obtain ⟨k, a, acc, hk, rfl, ha, ha2, hdec, hlen, HS, HO⟩ := hrel
    by_cases hlt : (k : Int) < n
    · obtain ⟨⟨⟨nn, N⟩, er, nx⟩, hR1⟩ : ∃ R1, numG t b a 16 0 = R1 := ⟨_, rfl⟩
      have hstep : decL t b (n.toNat - k) a acc = if er = 0 then decL t b (n.toNat - (k + 1)) nx (acc ++ [⟨nn, N⟩]) else ([], 0, er) := by
        rw [show n.toNat - k = (n.toNat - (k + 1)) + 1 by omega]
        simp only [decL]
        rw [hR1]
      have hdec := hstep.symm.trans hdec
      clear hstep
      by_cases he : er = 0
      · subst he
        rw [if_pos rfl] at hdec
        go_wp2_with (fail)
        refine (number_calls w _ gx A c b1 b2 g t b a HV.out HB.out hl HC.out HS.out ha ha2 hg _ hR1).mono ?_
        rintro e W ⟨rfl, a', h1, h2, h3, h4⟩
        obtain rfl : a' = nx := h1 rfl
        obtain ⟨vr, hrb, _⟩ := HS.out.rdr
        have HO2 := Aside0.mk (Kd.R_grown1 HO.out rfl h4.gro (Kd.R_ne HO.out hrb (by decide)))
        have HS2 := Aside0.mk (Rs.now h4)
        clear h4 hrb HS HO h1
        have hacc : acc.length ≤ 20000 := by omega
        go_wp2_with ((with_reducible refine gate_builtin (b := .append) (xs := #[.tmp 37, .tmp 39]) rfl ?_); at_builtin; refine Kd.R_append k48 (w0 := w) w.heap.size rfl (.tmp 37) (.tmp 39) 54 48 (.agg #[(.bool false), (.int .i64 0)]) 16 rfl Try.underlying54 info48 rfl (by decide) (by omega) u6 acc (⟨nn, N⟩ : S48) [.bool nn, .int .i64 N] (fun _ => True) (fun _ => False) rfl ?aX (k48_mkM _ _ _ (⟨nn, N⟩ : S48)) (fun _ hk => hk.elim) (fun _ _ => trivial) (Kd.R_alloc HO2.out _) (below_alloc HS2.out.bel _) ?aS (by omega) ?_; (case aX => first | (go_simp; done) | rfl); (case aS => exact Nat.le_trans HS2.out.bel.size (by rw [World.size_alloc]; omega)); intro v2 w3 ho hb2 hgr hat; have HO3 := Aside0.mk ho; have HS3 := Aside0.mk (rs_row (HS2.out.below (below_alloc (Below.refl _ _) _)) (Kd.R_alloc HO2.out _) hgr); clear ho hb2 hgr hat)
        exact ⟨⟨k + 1, a', acc ++ [⟨nn, N⟩], by omega, rfl, h2, h3, hdec, by rw [List.length_append, hlen]; rfl, HS3, HO3⟩, by simp [intOf]; omega⟩
      · rw [if_neg he] at hdec
        subst hdec
        have e0 : (er == 0) = false := beq_eq_false_iff_ne.mpr he
        have e1 : (er != 0) = true := bne_iff_ne.mpr he
        go_wp2_with (fail)
        refine (number_calls w _ gx A c b1 b2 g t b a HV.out HB.out hl HC.out HS.out ha ha2 hg _ hR1).mono ?_
        rintro e W ⟨rfl, a', h1, h2, h3, h4⟩
        have HS2 := Aside0.mk (Rs.now h4)
        clear h4 HS HO h1 hR1
        go_wp2_with (fail)
        go_ret3
        exact ⟨_, rfl, Kd.R_nil _ _ _ _ _, below_alloc HS2.out.bel _⟩
    · have hkn : n.toNat - k = 0 := by omega
      rw [hkn] at hdec
      simp only [decL] at hdec
      subst hdec
      have x3 : wr.cell? ⟨gx, 3, none⟩ = some (.pointer (some ⟨g, 0, none⟩)) := (blk_cell HS.out.obj 3).trans rfl
      obtain ⟨Ar, cr, r0, r1, r2⟩ := HS.out.rdr.cells
      go_wp2_with (fail)
      refine (at_real _ g a r1 r2).mono ?_
      rintro e w4 ⟨rfl, rfl⟩
      go_wp2_with (fail)
      go_ret3
      exact ⟨_, rfl, HO.out, HS.out.bel⟩
theorem decode_calls (A : Option Addr) (c : Nat) (t : List Ln) (A2 : Option Addr) (c2 : Nat) (b : List Int) (n : Int) (w : World) (hC : Kd.C k32 w A t.length t) (hc : t.length ≤ c) (hC2 : Kd.C (Kd.int .u8) w A2 b.length b) (hc2 : b.length ≤ c2) (hb : Bytes b) (hl : b.length ≤ 140737488355328) :
    Calls Try.prog 34 #[.slice A t.length c, .slice A2 b.length c2, .int .i64 n] w fun e w' => ∃ v0, e = .returned (.tuple #[v0, .int .i64 (decP t b n).2.1, .int .i64 (decP t b n).2.2]) ∧ Kd.R k48 48 w' w.heap.size (fun _ => True) v0 (decP t b n).1 ∧ Below w.heap.size w w' := by
  by_cases hv : vldP t
  · by_cases hn : n < 0 ∨ 20000 < n
    · have e : decP t b n = ([], 0, 2) := by unfold decP; rw [if_pos hv, if_pos hn]
      rw [e]
      obtain ⟨K0, hval⟩ := Ev.rounds (pvalid_ev t)
      rw [decide_eq_true hv] at hval
      have HVA := Aside0.mk hval
      have HC := Aside0.mk hC
      clear hval hC hC2 e
      have hd : (decide (n < 0) || decide (20000 < n)) = true := by simpa using hn
      rcases hn with hn | hn
      · go_enter Try.func34, Try.ntmps34
        go_wp2_with (fail)
        refine (prefix_Valid.calls K0 A c t true _ HC.out hc HVA.out).mono ?_
        rintro e w1 ⟨rfl, hb1⟩
        go_wp2_with (fail)
        go_ret3
        exact ⟨_, rfl, Kd.R_nil _ _ _ _ _, hb1⟩
      · have hn0 : ¬ n < 0 := by omega
        go_enter Try.func34, Try.ntmps34
        go_wp2_with (fail)
        refine (prefix_Valid.calls K0 A c t true _ HC.out hc HVA.out).mono ?_
        rintro e w1 ⟨rfl, hb1⟩
        go_wp2_with (fail)
        go_ret3
        exact ⟨_, rfl, Kd.R_nil _ _ _ _ _, hb1⟩
    · have e : decP t b n = decL t b n.toNat 0 [] := by unfold decP; rw [if_pos hv, if_neg hn]
      rw [e]
      exact decode_main A c t A2 c2 b n w hv (by omega) (by omega) hC hc hC2 hc2 hb hl _ rfl
  · have e : decP t b n = ([], 0, 20) := by unfold decP; rw [if_neg hv]
    rw [e]
    obtain ⟨K0, hval⟩ := Ev.rounds (pvalid_ev t)
    rw [decide_eq_false hv] at hval
    have HVA := Aside0.mk hval
    have HC := Aside0.mk hC
    clear hval hC hC2 e
    go_enter Try.func34, Try.ntmps34
    go_wp2_with (fail)
    refine (prefix_Valid.calls K0 A c t false _ HC.out hc HVA.out).mono ?_
    rintro e w1 ⟨rfl, hb1⟩
    go_wp2_with (fail)
    go_ret3
    exact ⟨_, rfl, Kd.R_nil _ _ _ _ _, hb1⟩
end Go.Proofs.Ytnadgcdkcabdoaa.Dwk
namespace Go.Proofs.Ytnadgcdkcabdoaa.U
open Go Go.RowKit Go.Proofs.YtnadgcdkcabdoaaW.PrintWords Go.Proofs.YtnadgcdkcabdoaaW.PrintLast Go.Proofs.YtnadgcdkcabdoaaW.PrintMore Go.Proofs.Ytnadgcdkcabdoaa.Aid Go.Proofs.Ytnadgcdkcabdoaa.HandAid Go.Proofs.Ytnadgcdkcabdoaa.Dwk
def prefix_Decode.f (l0 : List S32) (l1 : List Int) (a2 : Int) : Option (List S48 × Int × Int) := if (l1.all fun x => decide (0 ≤ x ∧ x ≤ 255)) = true ∧ l1.length ≤ 140737488355328 then some (decP l0 l1 a2) else none
theorem prefix_Decode.calls (A0 : Option Addr) (c0 : Nat) (l0 : List S32) (A1 : Option Addr) (c1 : Nat) (l1 : List Int) (a2 : Int) (r1 : List S48) (r2 r3 : Int) (w : World) (hr0 : Kd.C k32 w A0 l0.length l0) (hc0 : l0.length ≤ c0) (hr1 : Kd.C (Kd.int .u8) w A1 l1.length l1) (hc1 : l1.length ≤ c1) (h : prefix_Decode.f l0 l1 a2 = some (r1, r2, r3)) :
    Calls Try.prog 34 #[.slice A0 l0.length c0, .slice A1 l1.length c1, .int .i64 a2] w fun e w' => ∃ v0_ : Value, e = .returned (.tuple #[v0_, .int .i64 r2, .int .i64 r3]) ∧ Kd.R k48 48 w' w.heap.size (fun _ => True) v0_ r1 ∧ Below w.heap.size w w' := by
  unfold prefix_Decode.f at h
  split at h
  · rename_i hc
    have e := Option.some.inj h
    have hb : Bytes l1 := fun x hx => of_decide_eq_true (List.all_eq_true.1 hc.1 x hx)
    have hd := decode_calls A0 c0 l0 A1 c1 l1 a2 w hr0 hc0 hr1 hc1 hb hc.2
    rw [e] at hd
    exact hd
  · cases h
end Go.Proofs.Ytnadgcdkcabdoaa.U
namespace Go.Proofs.Ytnadgcdkcabdoaa.U
open Go.RowKit Go.Proofs.YtnadgcdkcabdoaaW.PrintWords Go.Proofs.YtnadgcdkcabdoaaW.PrintLast Go.Proofs.YtnadgcdkcabdoaaW.PrintMore
attribute [local go_sem] max2_int min2_int max_two min_two max_three min_three max_four min_four   -- for this text's walks alone
theorem eqA48 (d : Nat) (w : World) (x0 y0 : Bool) (x1 y1 : Int) :
    (Op.equalIn (d + 2) 48 (.agg #[.bool x0, .int .i64 x1]) (.agg #[.bool y0, .int .i64 y1])).run Try.prog w = .ok (x0 == y0 && (x1 == y1)) w := by
  refine eqA_of Try.underlying48 (by kernel_rfl) ?_
  refine eqf_cons (by rfl) (by go_simp; rfl) (by go_simp; rfl) (by go_simp) ?_
  exact eqf_last (by rfl) (by go_simp; rfl) (by go_simp; rfl) (by go_simp)
end Go.Proofs.Ytnadgcdkcabdoaa.U
namespace Go.Proofs.Ytnadgcdkcabdoaa.U
open Go.RowKit Go.Proofs.YtnadgcdkcabdoaaW.PrintWords Go.Proofs.YtnadgcdkcabdoaaW.PrintLast Go.Proofs.YtnadgcdkcabdoaaW.PrintMore
attribute [local go_sem] max2_int min2_int max_two min_two max_three min_three max_four min_four   -- for this text's walks alone
attribute [local go_sem high] eqA48
def incunableref04_SameNums.l0 : Nat → List (S48) → List (S48) → Int → Int → Option (Bool)
  | 0, _, _, _, _ => none
  | k + 1, x0, x1, x12, x13 => if x13 < x12 then (if 0 ≤ x13 then (if x13 < (x0.length : Int) then (if x13 < (x1.length : Int) then (if (!(((rd_T48 x0 x13).f0) == ((rd_T48 x1 x13).f0)) || (!(((rd_T48 x0 x13).f1) == ((rd_T48 x1 x13).f1)))) = true then (some false) else (incunableref04_SameNums.l0 k x0 x1 x12 (wrap64 (x13 + 1)))) else (none)) else (none)) else (none)) else (some true)
def incunableref04_SameNums.f (k : Nat) (l0 : List (S48)) (l1 : List (S48)) : Option (Bool) := if (l0.length : Int) = (l1.length : Int) then (incunableref04_SameNums.l0 k l0 l1 (l0.length : Int) 0) else (some false)
theorem incunableref04_SameNums.mono_l : ∀ k, (∀ y0 y1 y2 y3, LeO (incunableref04_SameNums.l0 k y0 y1 y2 y3) (incunableref04_SameNums.l0 (k + 1) y0 y1 y2 y3))
  | 0 => fun _ _ _ _ r h => by simp [incunableref04_SameNums.l0] at h
  | k + 1 => by
    have ih0 := incunableref04_SameNums.mono_l k
    · intro y0 y1 y2 y3
      unfold incunableref04_SameNums.l0
      repeat' first
      | (with_reducible exact ih0 _ _ _ _)
      | (with_reducible exact LeO.refl _)
      | (with_reducible exact LeO.none _)
      | (with_reducible refine LeO.ite ?_ ?_)
      | (with_reducible refine LeO.bind ?_ (fun _ => ?_))
      | exact ih0 _ _ _ _
      | exact LeO.none _
      | refine LeO.ite ?_ ?_
      | refine LeO.bind ?_ (fun _ => ?_)
theorem incunableref04_SameNums.mono : ∀ a0 a1 k, LeO (incunableref04_SameNums.f k a0 a1) (incunableref04_SameNums.f (k + 1) a0 a1) := by
 intro a0 a1 k; have ih0 := incunableref04_SameNums.mono_l k; unfold incunableref04_SameNums.f
 repeat' first
  | (with_reducible exact ih0 _ _ _ _)
  | (with_reducible exact LeO.refl _)
  | (with_reducible exact LeO.none _)
  | (with_reducible refine LeO.ite ?_ ?_)
  | (with_reducible refine LeO.bind ?_ (fun _ => ?_))
  | exact ih0 _ _ _ _
  | exact LeO.none _
  | refine LeO.ite ?_ ?_
  | refine LeO.bind ?_ (fun _ => ?_)
set_option maxHeartbeats 8000000 in
set_option maxRecDepth 100000 in
theorem incunableref04_SameNums.calls (k : Nat) (A0 : Option Addr) (c0 : Nat) (l0 : List (S48)) (A1 : Option Addr) (c1 : Nat) (l1 : List (S48)) (r : Bool) (w : World) (hr0 : Kd.C k48 w A0 l0.length l0) (hc0 : l0.length ≤ c0) (hr1 : Kd.C k48 w A1 l1.length l1) (hc1 : l1.length ≤ c1) (h : incunableref04_SameNums.f k l0 l1 = some r) :
    Calls Try.prog 36 #[.slice A0 l0.length c0, .slice A1 l1.length c1] w fun e w' => e = .returned (.bool r) ∧ Drawn0 w w' := by
 have hu48 := Try.underlying48; have HR0 := Aside0.mk hr0; have HC0 := Aside0.mk hc0; clear hr0 hc0; have HR1 := Aside0.mk hr1; have HC1 := Aside0.mk hc1; clear hr1 hc1; have H : (if (l0.length : Int) = (l1.length : Int) then (incunableref04_SameNums.l0 k l0 l1 (l0.length : Int) 0) else (some false)) = some r := h; clear h; by_cases c3 : (l0.length : Int) = (l1.length : Int)
 · rw [if_pos c3] at H
   have c3b0 : ((l0.length : Int) == (l1.length : Int)) = true := beq_iff_eq.mpr c3; have c3b1 : ((l0.length : Int) != (l1.length : Int)) = false := bne_eq_false_iff_eq.mpr c3; (have c3b2 : (l0.length == l1.length) = true := by first | simpa using c3 | (simp at c3 ⊢; omega)); clear c3; have H' := Aside0.mk H; clear H; go_enter Try.func36, Try.ntmps36; go_wp2; (repeat (go_quiet (fail); try go_wp2)); go_loopg [13] k (fun kq v13 w' => ∃ (x13_1 : Int), v13 = .int .i64 x13_1 ∧ Aside0 (incunableref04_SameNums.l0 kq l0 l1 (l0.length : Int) x13_1 = some r) ∧ Aside0 (kq ≤ k) ∧ Drawn0 w w'); (case atStart => exact ⟨(0), (by first | rfl | (simp; done) | (simp [*]; done)), H', ⟨Nat.le_refl _⟩, by repeat (first | exact Drawn0.refl _ | apply Drawn0.step)⟩)
   case round =>
    clear H'; (try clear c1); (try clear p2); (try clear c3); (try clear c3b0); (try clear c3b1); (try clear c3b2); obtain ⟨x13_1, rfl, HA, HK1, ⟨m1, rfl⟩⟩ := hrel
    cases gk with
    | zero => exact absurd HA.out (by simp [incunableref04_SameNums.l0])
    | succ k1 =>
     have H := HA.out; clear HA; simp only [incunableref04_SameNums.l0] at H; by_cases c4 : x13_1 < (l0.length : Int)
     (· rw [if_pos c4] at H; have c4b0 : decide (x13_1 < (l0.length : Int)) = true := decide_eq_true c4; clear c4; by_cases c5 : 0 ≤ x13_1; (· rw [if_pos c5] at H; have c5b0 : decide (0 ≤ x13_1) = true := decide_eq_true c5; clear c5; by_cases c6 : x13_1 < (l0.length : Int); (· rw [if_pos c6] at H; have c6b0 : decide (x13_1 < (l0.length : Int)) = true := decide_eq_true c6; clear c6; by_cases c7 : x13_1 < (l1.length : Int); (· rw [if_pos c7] at H; have c7b0 : decide (x13_1 < (l1.length : Int)) = true := decide_eq_true c7; clear c7; by_cases c8 : (!(((rd_T48 l0 x13_1).f0) == ((rd_T48 l1 x13_1).f0)) || (!(((rd_T48 l0 x13_1).f1) == ((rd_T48 l1 x13_1).f1)))) = true; (· rw [if_pos c8] at H; have c8b0 : (!(((rd_T48 l0 x13_1).f0) == ((rd_T48 l1 x13_1).f0)) || (!(((rd_T48 l0 x13_1).f1) == ((rd_T48 l1 x13_1).f1)))) = true := c8; clear c8; obtain rfl := Option.some.inj H; have p581 : 0 ≤ (x13_1 : Int) := of_decide_eq_true (by first | (with_reducible assumption) | assumption); have q581 : x13_1 < (l0.length : Int) := of_decide_eq_true (by first | (with_reducible assumption) | assumption); obtain ⟨ad581, e581, hx581_0, hx581_1⟩ := at_T48 HR0.out x13_1 p581 q581; cases e581; replace p581 := eq_true p581; replace q581 := eq_true q581; have p582 : 0 ≤ (x13_1 : Int) := of_decide_eq_true (by first | (with_reducible assumption) | assumption); have q582 : x13_1 < (l1.length : Int) := of_decide_eq_true (by first | (with_reducible assumption) | assumption); obtain ⟨ad582, e582, hx582_0, hx582_1⟩ := at_T48 HR1.out x13_1 p582 q582; cases e582; replace p582 := eq_true p582; replace q582 := eq_true q582; go_wp2; (repeat (go_quiet (fail); try go_wp2)); go_ret; exact ⟨by first | rfl | (simp; done) | (simp [*]; done), by repeat (first | exact Drawn0.refl _ | apply Drawn0.step)⟩); (· rw [if_neg c8] at H; (have c8b0 : (!(((rd_T48 l0 x13_1).f0) == ((rd_T48 l1 x13_1).f0)) || (!(((rd_T48 l0 x13_1).f1) == ((rd_T48 l1 x13_1).f1)))) = false := by simpa using c8); clear c8; have H' := Aside0.mk H; clear H; have p581 : 0 ≤ (x13_1 : Int) := of_decide_eq_true (by first | (with_reducible assumption) | assumption); have q581 : x13_1 < (l0.length : Int) := of_decide_eq_true (by first | (with_reducible assumption) | assumption); obtain ⟨ad581, e581, hx581_0, hx581_1⟩ := at_T48 HR0.out x13_1 p581 q581; cases e581; replace p581 := eq_true p581; replace q581 := eq_true q581; have p582 : 0 ≤ (x13_1 : Int) := of_decide_eq_true (by first | (with_reducible assumption) | assumption); have q582 : x13_1 < (l1.length : Int) := of_decide_eq_true (by first | (with_reducible assumption) | assumption); obtain ⟨ad582, e582, hx582_0, hx582_1⟩ := at_T48 HR1.out x13_1 p582 q582; cases e582; replace p582 := eq_true p582; replace q582 := eq_true q582; go_wp2; (repeat (go_quiet (fail); try go_wp2)); go_roundg k1; (case measure => have := HK1.out; omega); (case rel => exact ⟨(wrap64 (x13_1 + 1)), (by first | rfl | (simp; done) | (simp [*]; done)), H', ⟨by have := HK1.out; omega⟩, by repeat (first | exact Drawn0.refl _ | apply Drawn0.step)⟩))); (· rw [if_neg c7] at H; exact absurd H (by simp))); (· rw [if_neg c6] at H; exact absurd H (by simp))); (· rw [if_neg c5] at H; exact absurd H (by simp)))
     (· rw [if_neg c4] at H; have c4b0 : decide (x13_1 < (l0.length : Int)) = false := decide_eq_false c4; clear c4; obtain rfl := Option.some.inj H; go_wp2; (repeat (go_quiet (fail); try go_wp2)); go_ret; exact ⟨by first | rfl | (simp; done) | (simp [*]; done), by repeat (first | exact Drawn0.refl _ | apply Drawn0.step)⟩)
 (· rw [if_neg c3] at H; have c3b0 : ((l0.length : Int) == (l1.length : Int)) = false := beq_eq_false_iff_ne.mpr c3; have c3b1 : ((l0.length : Int) != (l1.length : Int)) = true := bne_iff_ne.mpr c3; (have c3b2 : (l0.length == l1.length) = false := by first | simpa using c3 | (simp at c3 ⊢; omega)); obtain rfl := Option.some.inj H; go_enter Try.func36, Try.ntmps36; go_wp2; (repeat (go_quiet (fail); try go_wp2)); go_ret; exact ⟨by first | rfl | (simp; done) | (simp [*]; done), by repeat (first | exact Drawn0.refl _ | apply Drawn0.step)⟩)
end Go.Proofs.Ytnadgcdkcabdoaa.U
namespace Go.Proofs.Ytnadgcdkcabdoaa.U
open Go.RowKit Go.Proofs.YtnadgcdkcabdoaaW.PrintWords Go.Proofs.YtnadgcdkcabdoaaW.PrintLast Go.Proofs.YtnadgcdkcabdoaaW.PrintMore
attribute [local go_sem] max2_int min2_int max_two min_two max_three min_three max_four min_four   -- for this text's walks alone
def incunablelaw04_PrefixBack.l0 : Nat → List (S32) → List (S48) → List Int → List Int → Int → List (S48) → Int → Int → Option (Bool)
  | 0, _, _, _, _, _, _, _, _ => none
  | k + 1, x0, x1, x2, x7, x9, x34, x35, x36 => if x36 < x35 then (if 0 ≤ x36 then (if x36 < (x34.length : Int) then ((prefix_Bits.f k x0 ((rd_T48 x34 x36).f0) ((rd_T48 x34 x36).f1)).bind fun bt615 => (if bt615.2 = 0 then (incunablelaw04_PrefixBack.l0 k x0 x1 x2 x7 (wrap64 (x9 + (bt615.1.length : Int))) x34 x35 (wrap64 (x36 + 1))) else (some false))) else (none)) else (none)) else ((some (([] : List Int) : List Int)).bind fun y619 => (if y619.length + x7.length < 140737488355328 then ((some (y619 ++ x7 : List Int)).bind fun y622 => (if y622.length + x2.length < 140737488355328 then ((prefix_Decode.f x0 (y622 ++ x2) (x1.length : Int)).bind fun bt628 => (if bt628.2.2 = 0 then ((incunableref04_SameNums.f k bt628.1 x1).bind fun t633 => (if t633 = true then (if bt628.2.1 = x9 then (if (x7.length : Int) = (wrap64 (Int.tdiv (wrap64 (x9 + 7)) 8)) then ((incunablelaw04_Awake.f k).bind fun t634 => (some t634)) else (some false)) else (some false)) else (some false))) else (some false))) else (none))) else (none)))
def incunablelaw04_PrefixBack.f (k : Nat) (l0 : List (S32)) (l1 : List (S48)) (l2 : List Int) : Option (Bool) := if (l1.length : Int) > 2000 then ((incunablelaw04_Awake.f k).bind fun t607 => (some t607)) else ((prefix_Encode.f k l0 l1).bind fun bt608 => (if bt608.2 = 0 then (incunablelaw04_PrefixBack.l0 k l0 l1 l2 bt608.1 0 l1 (l1.length : Int) 0) else (if (bt608.1.length : Int) = 0 then ((incunablelaw04_Awake.f k).bind fun t612 => (some t612)) else (some false))))
theorem incunablelaw04_PrefixBack.mono_l : ∀ k, (∀ y0 y1 y2 y3 y4 y5 y6 y7, LeO (incunablelaw04_PrefixBack.l0 k y0 y1 y2 y3 y4 y5 y6 y7) (incunablelaw04_PrefixBack.l0 (k + 1) y0 y1 y2 y3 y4 y5 y6 y7))
  | 0 => fun _ _ _ _ _ _ _ _ r h => by simp [incunablelaw04_PrefixBack.l0] at h
  | k + 1 => by
    have ih0 := incunablelaw04_PrefixBack.mono_l k
    · intro y0 y1 y2 y3 y4 y5 y6 y7
      unfold incunablelaw04_PrefixBack.l0
      repeat' first
      | (with_reducible exact ih0 _ _ _ _ _ _ _ _)
      | (with_reducible exact incunablelaw04_Awake.mono _)
      | (with_reducible exact incunableref04_SameNums.mono _ _ _)
      | (with_reducible exact prefix_Bits.mono _ _ _ _)
      | (with_reducible exact prefix_Encode.mono _ _ _)
      | (with_reducible exact LeO.refl _)
      | (with_reducible exact LeO.none _)
      | (with_reducible refine LeO.ite ?_ ?_)
      | (with_reducible refine LeO.bind ?_ (fun _ => ?_))
      | exact ih0 _ _ _ _ _ _ _ _
      | exact incunablelaw04_Awake.mono _
      | exact incunableref04_SameNums.mono _ _ _
      | exact prefix_Bits.mono _ _ _ _
      | exact prefix_Encode.mono _ _ _
      | exact LeO.none _
      | refine LeO.ite ?_ ?_
      | refine LeO.bind ?_ (fun _ => ?_)
theorem incunablelaw04_PrefixBack.mono : ∀ a0 a1 a2 k, LeO (incunablelaw04_PrefixBack.f k a0 a1 a2) (incunablelaw04_PrefixBack.f (k + 1) a0 a1 a2) := by
 intro a0 a1 a2 k; have ih0 := incunablelaw04_PrefixBack.mono_l k; unfold incunablelaw04_PrefixBack.f
 repeat' first
  | (with_reducible exact ih0 _ _ _ _ _ _ _ _)
  | (with_reducible exact incunablelaw04_Awake.mono _)
  | (with_reducible exact incunableref04_SameNums.mono _ _ _)
  | (with_reducible exact prefix_Bits.mono _ _ _ _)
  | (with_reducible exact prefix_Encode.mono _ _ _)
  | (with_reducible exact LeO.refl _)
  | (with_reducible exact LeO.none _)
  | (with_reducible refine LeO.ite ?_ ?_)
  | (with_reducible refine LeO.bind ?_ (fun _ => ?_))
  | exact ih0 _ _ _ _ _ _ _ _
  | exact incunablelaw04_Awake.mono _
  | exact incunableref04_SameNums.mono _ _ _
  | exact prefix_Bits.mono _ _ _ _
  | exact prefix_Encode.mono _ _ _
  | exact LeO.none _
  | refine LeO.ite ?_ ?_
  | refine LeO.bind ?_ (fun _ => ?_)
set_option maxHeartbeats 8000000 in
set_option maxRecDepth 100000 in
theorem incunablelaw04_PrefixBack.calls (k : Nat) (A0 : Option Addr) (c0 : Nat) (l0 : List (S32)) (A1 : Option Addr) (c1 : Nat) (l1 : List (S48)) (A2 : Option Addr) (c2 : Nat) (l2 : List Int) (r : Bool) (w : World) (hr0 : Kd.C k32 w A0 l0.length l0) (hc0 : l0.length ≤ c0) (hr1 : Kd.C k48 w A1 l1.length l1) (hc1 : l1.length ≤ c1) (hr2 : Kd.C (Kd.int .u8) w A2 l2.length l2) (hc2 : l2.length ≤ c2) (h : incunablelaw04_PrefixBack.f k l0 l1 l2 = some r) :
    Calls Try.prog 12 #[.slice A0 l0.length c0, .slice A1 l1.length c1, .slice A2 l2.length c2] w fun e w' => e = .returned (.bool r) ∧ Below w.heap.size w w' := by
 have hu48 := Try.underlying48; have HR0 := Aside0.mk hr0; have HC0 := Aside0.mk hc0; clear hr0 hc0; have HR1 := Aside0.mk hr1; have HC1 := Aside0.mk hc1; clear hr1 hc1; have HR2 := Aside0.mk hr2; have HC2 := Aside0.mk hc2; clear hr2 hc2; have HB := Aside0.mk (Below.refl w.heap.size w); have H : (if (l1.length : Int) > 2000 then ((incunablelaw04_Awake.f k).bind fun t607 => (some t607)) else ((prefix_Encode.f k l0 l1).bind fun bt608 => (if bt608.2 = 0 then (incunablelaw04_PrefixBack.l0 k l0 l1 l2 bt608.1 0 l1 (l1.length : Int) 0) else (if (bt608.1.length : Int) = 0 then ((incunablelaw04_Awake.f k).bind fun t612 => (some t612)) else (some false))))) = some r := h; clear h; by_cases c4 : (l1.length : Int) > 2000
 (· rw [if_pos c4] at H; have c4b0 : decide (2000 < (l1.length : Int)) = true := decide_eq_true c4; have c4b1 : decide (2000 < l1.length) = true := decide_eq_true (by omega); clear c4; replace H := Option.bind_eq_some_iff.mp H; obtain ⟨t607, A50, H⟩ := H; replace H : (some t607) = some r := H; have A5 := Aside0.mk A50; clear A50; obtain rfl := Option.some.inj H; go_enter Try.func12, Try.ntmps12; go_wp2_with (first | ((with_reducible refine gate_callee (f := 19) rfl ?_); refine goesL_ (some 19) rfl rfl Try.func19 (by kernel_rfl) rfl #[] rfl (by (try simp only [List.map_toArray, List.map_cons, List.map_nil]); first | done | rfl | (simp only [List.length_drop, List.length_take]; rfl)) ?_; (with_reducible refine (incunablelaw04_Awake.calls k  t607 _ A5.out).mono ?_); rintro e w6 ⟨rfl, hb⟩; refine ⟨_, rfl, ?_⟩; have n0_ := Aside0.mk (below_step (by repeat (first | (with_reducible first | exact HB.out | apply below_alloc | apply pw_below_drewN | apply below_drew1) | exact HB.out)) hb); clear HB; have HB := n0_; clear n0_; (try clear hb); (try clear hb2); (try clear hk); (try clear hi))); go_ret; (exact ⟨by first | rfl | (simp [errW_none, errW_some] <;> rfl) | (simp [*, errW_none, errW_some] <;> rfl), by repeat (first | (with_reducible first | exact HB.out | apply below_alloc | apply pw_below_drewN | apply below_drew1) | exact HB.out)⟩))
 · rw [if_neg c4] at H
   have c4b0 : decide (2000 < (l1.length : Int)) = false := decide_eq_false c4; have c4b1 : decide (2000 < l1.length) = false := decide_eq_false (by omega); clear c4; replace H := Option.bind_eq_some_iff.mp H; obtain ⟨⟨t608, t609⟩, A70, H⟩ := H; replace H : (if t609 = 0 then (incunablelaw04_PrefixBack.l0 k l0 l1 l2 t608 0 l1 (l1.length : Int) 0) else (if (t608.length : Int) = 0 then ((incunablelaw04_Awake.f k).bind fun t612 => (some t612)) else (some false))) = some r := H; have A7 := Aside0.mk A70; clear A70; by_cases c8 : t609 = 0
   · rw [if_pos c8] at H
     have c8b0 : (t609 == 0) = true := beq_iff_eq.mpr c8; have c8b1 : (t609 != 0) = false := bne_eq_false_iff_eq.mpr c8; clear c8; have H' := Aside0.mk H; clear H; go_enter Try.func12, Try.ntmps12
     go_wp2_with (first | ((with_reducible refine gate_callee (f := 32) rfl ?_); refine goesL_ (some 23) rfl rfl Try.func32 (by kernel_rfl) rfl #[.slice A0 l0.length c0, .slice A1 l1.length c1] rfl (by (try simp only [List.map_toArray, List.map_cons, List.map_nil]); first | done | rfl | (simp only [List.length_drop, List.length_take]; rfl)) ?_; (with_reducible refine (prefix_Encode.calls k _ _ l0 _ _ l1 t608 t609 _ ?side1 ?side2 ?side3 ?side4 A7.out).mono ?_); (case side1 => repeat (first | exact HR0.out | (with_reducible refine Kd.C_alloc ?_ _) | (with_reducible refine Kd.C_drewN ?_ _) | (with_reducible refine Kd.C_drew ?_))); (case side2 => exact HC0.out); (case side3 => repeat (first | exact HR1.out | (with_reducible refine Kd.C_alloc ?_ _) | (with_reducible refine Kd.C_drewN ?_ _) | (with_reducible refine Kd.C_drew ?_))); (case side4 => exact HC1.out); rintro e w9 ⟨v610, rfl, ho0, hb⟩; refine ⟨_, rfl, ?_⟩; have n0_ := Aside0.mk (Kd.R_lower ho0 (below_size (by repeat (first | (with_reducible first | exact HB.out | apply below_alloc | apply pw_below_drewN | apply below_drew1) | exact HB.out)))); have n1_ := Aside0.mk (below_step (by repeat (first | (with_reducible first | exact HB.out | apply below_alloc | apply pw_below_drewN | apply below_drew1) | exact HB.out)) hb); clear HB; have HO611 := n0_; have HB := n1_; clear n0_ n1_; (try clear hb); (try clear hb2); (try clear hk); (try clear hi); (try clear ho0)))
     go_loopg [9, 36] k (fun kq v9 v36 w' => ∃ (x9_1 : Int) (x36_1 : Int), v9 = .int .i64 x9_1 ∧ v36 = .int .i64 x36_1 ∧ Aside0 (incunablelaw04_PrefixBack.l0 kq l0 l1 l2 t608 x9_1 l1 (l1.length : Int) x36_1 = some r) ∧ Aside0 (kq ≤ k) ∧ Aside0 (Kd.R (Kd.int .u8) 5 w' w.heap.size (fun _ => True) v610 t608) ∧ Aside0 (Below w.heap.size w w')); (case atStart => exact ⟨(0), (0), (by first | rfl | (simp; done) | (simp [*]; done)), (by first | rfl | (simp; done) | (simp [*]; done)), H', ⟨Nat.le_refl _⟩, ⟨by (with_reducible repeat (first | apply Kd.R_alloc | apply Kd.R_drewN | apply Kd.R_drew)); exact HO611.out⟩, ⟨by repeat (first | (with_reducible first | exact HB.out | apply below_alloc | apply pw_below_drewN | apply below_drew1) | exact HB.out)⟩⟩)
     case round =>
      clear H'; (try clear c1); (try clear c2); (try clear p2); (try clear c3); (try clear c4); (try clear c4b0); (try clear c4b1); (try clear c8); (try clear c8b0); (try clear c8b1); obtain ⟨x9_1, x36_1, rfl, rfl, HA, HK1, HO_7, HB⟩ := hrel
      cases gk with
      | zero => exact absurd HA.out (by simp [incunablelaw04_PrefixBack.l0])
      | succ k1 =>
       have H := HA.out; clear HA; simp only [incunablelaw04_PrefixBack.l0] at H; by_cases c10 : x36_1 < (l1.length : Int)
       (· rw [if_pos c10] at H; have c10b0 : decide (x36_1 < (l1.length : Int)) = true := decide_eq_true c10; clear c10; by_cases c11 : 0 ≤ x36_1; (· rw [if_pos c11] at H; have c11b0 : decide (0 ≤ x36_1) = true := decide_eq_true c11; clear c11; by_cases c12 : x36_1 < (l1.length : Int); (· rw [if_pos c12] at H; have c12b0 : decide (x36_1 < (l1.length : Int)) = true := decide_eq_true c12; clear c12; replace H := Option.bind_eq_some_iff.mp H; obtain ⟨⟨t615, t618⟩, A130, H⟩ := H; replace H : (if t618 = 0 then (incunablelaw04_PrefixBack.l0 k1 l0 l1 l2 t608 (wrap64 (x9_1 + (t615.length : Int))) l1 (l1.length : Int) (wrap64 (x36_1 + 1))) else (some false)) = some r := H; have A13 := Aside0.mk A130; clear A130; by_cases c14 : t618 = 0; (· rw [if_pos c14] at H; have c14b0 : (t618 == 0) = true := beq_iff_eq.mpr c14; have c14b1 : (t618 != 0) = false := bne_eq_false_iff_eq.mpr c14; clear c14; have H' := Aside0.mk H; clear H; have p613 : 0 ≤ (x36_1 : Int) := of_decide_eq_true (by first | (with_reducible assumption) | assumption); have q613 : x36_1 < (l1.length : Int) := of_decide_eq_true (by first | (with_reducible assumption) | assumption); obtain ⟨ad613, e613, hx613_0, hx613_1⟩ := at_T48 HR1.out x36_1 p613 q613; cases e613; replace hx613_0 := (HB.out.cell (World.block_lt_of_cell? w _ hx613_0)).trans hx613_0; replace hx613_1 := (HB.out.cell (World.block_lt_of_cell? w _ hx613_1)).trans hx613_1; replace p613 := eq_true p613; replace q613 := eq_true q613; go_wp2_with (first | ((with_reducible refine gate_dst (N := 11) rfl ?_); (try (refine gate_guard (by rfl) ?_; dsimp only)); refine box_event ?hg (N := 11) ?hd (cs := #[.bool false, .int .i64 0]) (t := 48) ?hr ?_; (case hd => rfl); (case hg => rfl); (case hr => first | (go_simp; done) | (go_simp; rfl)); intro gb614 hg w15 hbox hb; have n0_ := Aside0.mk (Kd.R_below (by (with_reducible repeat (first | apply Kd.R_alloc | apply Kd.R_drewN | apply Kd.R_drew)); exact HO_7.out) hb); have n1_ := Aside0.mk (below_step (by repeat (first | (with_reducible first | exact HB.out | apply below_alloc | apply pw_below_drewN | apply below_drew1) | exact HB.out)) hb); have n2_ := Aside0.mk (hbox); have n3_ := Aside0.mk ((by rw [hg]; exact (below_size (by repeat (first | (with_reducible first | exact HB.out | apply below_alloc | apply pw_below_drewN | apply below_drew1) | exact HB.out))) : w.heap.size ≤ gb614)); have n4_ := Aside0.mk ((by rw [hg]; exact (below_size (by repeat (first | (with_reducible first | exact HB.out | apply below_alloc | apply pw_below_drewN | apply below_drew1) | exact HB.out))) : w.heap.size ≤ gb614)); clear HO_7; clear HB; have HO_7 := n0_; have HB := n1_; have BK614 := n2_; have GW614 := n3_; have GE614 := n4_; clear n0_ n1_ n2_ n3_ n4_; clear hb hbox hg; have hcz16_0 : w15.cell? ⟨gb614, 0, none⟩ = some (.bool false) := (blk_cell BK614.out 0).trans rfl; have hcz16_1 : w15.cell? ⟨gb614, 1, none⟩ = some (.int .i64 0) := (blk_cell BK614.out 1).trans rfl; have hfz16_0 := blk_frozen BK614.out 0; have hfz16_1 := blk_frozen BK614.out 1) | ((with_reducible refine gate_callee (f := 30) rfl ?_); refine goesL_ (some 43) rfl rfl Try.func30 (by kernel_rfl) rfl #[.slice A0 l0.length c0, .agg #[.bool ((rd_T48 l1 x36_1).f0), .int .i64 ((rd_T48 l1 x36_1).f1)]] rfl (by (try simp only [List.map_toArray, List.map_cons, List.map_nil]); first | done | rfl | (simp only [List.length_drop, List.length_take]; rfl)) ?_; (with_reducible refine (prefix_Bits.calls k1 _ _ l0 ((rd_T48 l1 x36_1).f0) ((rd_T48 l1 x36_1).f1) t615 t618 _ ?side1 ?side2 A13.out).mono ?_); (case side1 => exact Kd.C_below HR0.out (by repeat (first | (with_reducible first | exact HB.out | apply below_alloc | apply pw_below_drewN | apply below_drew1 | refine below_set ?_ GE614.out) | exact HB.out))); (case side2 => exact HC0.out); rintro e w17 ⟨v616, rfl, ho0, hb⟩; refine ⟨_, rfl, ?_⟩; have n0_ := Aside0.mk (Kd.R_elder' (by (with_reducible repeat (first | apply Kd.R_alloc | apply Kd.R_drewN | apply Kd.R_drew)); exact (Kd.R_mono (Kd.R_far (p := ⟨gb614, 1, none⟩) (Kd.R_far (p := ⟨gb614, 0, none⟩) (Kd.R_types HO_7.out BK614.out (by decide)) (fun _ hk => hk.2) (.bool ((rd_T48 l1 x36_1).f0))) (fun _ hk => hk.2) (.int .i64 ((rd_T48 l1 x36_1).f1))) (fun _ h_ => h_.1))) (Kd.R_base ho0) hb); have n1_ := Aside0.mk (Kd.R_lower (Kd.R_new' ho0 (Kd.R_lt (by (with_reducible repeat (first | apply Kd.R_alloc | apply Kd.R_drewN | apply Kd.R_drew)); exact (Kd.R_mono (Kd.R_far (p := ⟨gb614, 1, none⟩) (Kd.R_far (p := ⟨gb614, 0, none⟩) (Kd.R_types HO_7.out BK614.out (by decide)) (fun _ hk => hk.2) (.bool ((rd_T48 l1 x36_1).f0))) (fun _ hk => hk.2) (.int .i64 ((rd_T48 l1 x36_1).f1))) (fun _ h_ => h_.1))))) (below_size (by repeat (first | (with_reducible first | exact HB.out | apply below_alloc | apply pw_below_drewN | apply below_drew1 | refine below_set ?_ GE614.out) | exact HB.out)))); have n2_ := Aside0.mk (blk_below (g := gb614) (o := .cells #[.bool ((rd_T48 l1 x36_1).f0), .int .i64 ((rd_T48 l1 x36_1).f1)] 48 (0, 0)) (by (with_reducible repeat (first | refine blk_drewN ?_ _ | refine blk_drew ?_ | refine blk_alloc ?_ _)); refine blk_put (cs := #[.bool ((rd_T48 l1 x36_1).f0), .int .i64 0]) ?_ 1 _ rfl; (with_reducible repeat (first | refine blk_drewN ?_ _ | refine blk_drew ?_ | refine blk_alloc ?_ _)); refine blk_put (cs := #[.bool false, .int .i64 0]) ?_ 0 _ rfl; (with_reducible repeat (first | refine blk_drewN ?_ _ | refine blk_drew ?_ | refine blk_alloc ?_ _)); exact BK614.out) hb); have n3_ := Aside0.mk (below_step (by repeat (first | (with_reducible first | exact HB.out | apply below_alloc | apply pw_below_drewN | apply below_drew1 | refine below_set ?_ GE614.out) | exact HB.out)) hb); clear HO_7; clear BK614; clear HB; have HO_7 := n0_; have HO617 := n1_; have BK614 := n2_; have HB := n3_; clear n0_ n1_ n2_ n3_; (try clear hb); (try clear hb2); (try clear hk); (try clear hi); (try clear ho0); obtain ⟨Ao18, co18, eo18⟩ := Kd.R_slice HO617.out; subst eo18)); go_roundg k1; (case measure => have := HK1.out; omega); (case rel => exact ⟨(wrap64 (x9_1 + (t615.length : Int))), (wrap64 (x36_1 + 1)), (by first | rfl | (simp; done) | (simp [*]; done)), (by first | rfl | (simp; done) | (simp [*]; done)), H', ⟨by have := HK1.out; omega⟩, ⟨by (with_reducible repeat (first | apply Kd.R_alloc | apply Kd.R_drewN | apply Kd.R_drew)); exact Kd.R_mono HO_7.out (fun _ hk => trivial)⟩, ⟨by repeat (first | (with_reducible first | exact HB.out | apply below_alloc | apply pw_below_drewN | apply below_drew1 | refine below_set ?_ GE614.out) | exact HB.out)⟩⟩)); (· rw [if_neg c14] at H; have c14b0 : (t618 == 0) = false := beq_eq_false_iff_ne.mpr c14; have c14b1 : (t618 != 0) = true := bne_iff_ne.mpr c14; obtain rfl := Option.some.inj H; have p613 : 0 ≤ (x36_1 : Int) := of_decide_eq_true (by first | (with_reducible assumption) | assumption); have q613 : x36_1 < (l1.length : Int) := of_decide_eq_true (by first | (with_reducible assumption) | assumption); obtain ⟨ad613, e613, hx613_0, hx613_1⟩ := at_T48 HR1.out x36_1 p613 q613; cases e613; replace hx613_0 := (HB.out.cell (World.block_lt_of_cell? w _ hx613_0)).trans hx613_0; replace hx613_1 := (HB.out.cell (World.block_lt_of_cell? w _ hx613_1)).trans hx613_1; replace p613 := eq_true p613; replace q613 := eq_true q613; go_wp2_with (first | ((with_reducible refine gate_dst (N := 11) rfl ?_); (try (refine gate_guard (by rfl) ?_; dsimp only)); refine box_event ?hg (N := 11) ?hd (cs := #[.bool false, .int .i64 0]) (t := 48) ?hr ?_; (case hd => rfl); (case hg => rfl); (case hr => first | (go_simp; done) | (go_simp; rfl)); intro gb614 hg w19 hbox hb; have n0_ := Aside0.mk (Kd.R_below (by (with_reducible repeat (first | apply Kd.R_alloc | apply Kd.R_drewN | apply Kd.R_drew)); exact HO_7.out) hb); have n1_ := Aside0.mk (below_step (by repeat (first | (with_reducible first | exact HB.out | apply below_alloc | apply pw_below_drewN | apply below_drew1) | exact HB.out)) hb); have n2_ := Aside0.mk (hbox); have n3_ := Aside0.mk ((by rw [hg]; exact (below_size (by repeat (first | (with_reducible first | exact HB.out | apply below_alloc | apply pw_below_drewN | apply below_drew1) | exact HB.out))) : w.heap.size ≤ gb614)); have n4_ := Aside0.mk ((by rw [hg]; exact (below_size (by repeat (first | (with_reducible first | exact HB.out | apply below_alloc | apply pw_below_drewN | apply below_drew1) | exact HB.out))) : w.heap.size ≤ gb614)); clear HO_7; clear HB; have HO_7 := n0_; have HB := n1_; have BK614 := n2_; have GW614 := n3_; have GE614 := n4_; clear n0_ n1_ n2_ n3_ n4_; clear hb hbox hg; have hcz20_0 : w19.cell? ⟨gb614, 0, none⟩ = some (.bool false) := (blk_cell BK614.out 0).trans rfl; have hcz20_1 : w19.cell? ⟨gb614, 1, none⟩ = some (.int .i64 0) := (blk_cell BK614.out 1).trans rfl; have hfz20_0 := blk_frozen BK614.out 0; have hfz20_1 := blk_frozen BK614.out 1) | ((with_reducible refine gate_callee (f := 30) rfl ?_); refine goesL_ (some 43) rfl rfl Try.func30 (by kernel_rfl) rfl #[.slice A0 l0.length c0, .agg #[.bool ((rd_T48 l1 x36_1).f0), .int .i64 ((rd_T48 l1 x36_1).f1)]] rfl (by (try simp only [List.map_toArray, List.map_cons, List.map_nil]); first | done | rfl | (simp only [List.length_drop, List.length_take]; rfl)) ?_; (with_reducible refine (prefix_Bits.calls k1 _ _ l0 ((rd_T48 l1 x36_1).f0) ((rd_T48 l1 x36_1).f1) t615 t618 _ ?side1 ?side2 A13.out).mono ?_); (case side1 => exact Kd.C_below HR0.out (by repeat (first | (with_reducible first | exact HB.out | apply below_alloc | apply pw_below_drewN | apply below_drew1 | refine below_set ?_ GE614.out) | exact HB.out))); (case side2 => exact HC0.out); rintro e w21 ⟨v616, rfl, ho0, hb⟩; refine ⟨_, rfl, ?_⟩; have n0_ := Aside0.mk (Kd.R_elder' (by (with_reducible repeat (first | apply Kd.R_alloc | apply Kd.R_drewN | apply Kd.R_drew)); exact (Kd.R_mono (Kd.R_far (p := ⟨gb614, 1, none⟩) (Kd.R_far (p := ⟨gb614, 0, none⟩) (Kd.R_types HO_7.out BK614.out (by decide)) (fun _ hk => hk.2) (.bool ((rd_T48 l1 x36_1).f0))) (fun _ hk => hk.2) (.int .i64 ((rd_T48 l1 x36_1).f1))) (fun _ h_ => h_.1))) (Kd.R_base ho0) hb); have n1_ := Aside0.mk (Kd.R_lower (Kd.R_new' ho0 (Kd.R_lt (by (with_reducible repeat (first | apply Kd.R_alloc | apply Kd.R_drewN | apply Kd.R_drew)); exact (Kd.R_mono (Kd.R_far (p := ⟨gb614, 1, none⟩) (Kd.R_far (p := ⟨gb614, 0, none⟩) (Kd.R_types HO_7.out BK614.out (by decide)) (fun _ hk => hk.2) (.bool ((rd_T48 l1 x36_1).f0))) (fun _ hk => hk.2) (.int .i64 ((rd_T48 l1 x36_1).f1))) (fun _ h_ => h_.1))))) (below_size (by repeat (first | (with_reducible first | exact HB.out | apply below_alloc | apply pw_below_drewN | apply below_drew1 | refine below_set ?_ GE614.out) | exact HB.out)))); have n2_ := Aside0.mk (blk_below (g := gb614) (o := .cells #[.bool ((rd_T48 l1 x36_1).f0), .int .i64 ((rd_T48 l1 x36_1).f1)] 48 (0, 0)) (by (with_reducible repeat (first | refine blk_drewN ?_ _ | refine blk_drew ?_ | refine blk_alloc ?_ _)); refine blk_put (cs := #[.bool ((rd_T48 l1 x36_1).f0), .int .i64 0]) ?_ 1 _ rfl; (with_reducible repeat (first | refine blk_drewN ?_ _ | refine blk_drew ?_ | refine blk_alloc ?_ _)); refine blk_put (cs := #[.bool false, .int .i64 0]) ?_ 0 _ rfl; (with_reducible repeat (first | refine blk_drewN ?_ _ | refine blk_drew ?_ | refine blk_alloc ?_ _)); exact BK614.out) hb); have n3_ := Aside0.mk (below_step (by repeat (first | (with_reducible first | exact HB.out | apply below_alloc | apply pw_below_drewN | apply below_drew1 | refine below_set ?_ GE614.out) | exact HB.out)) hb); clear HO_7; clear BK614; clear HB; have HO_7 := n0_; have HO617 := n1_; have BK614 := n2_; have HB := n3_; clear n0_ n1_ n2_ n3_; (try clear hb); (try clear hb2); (try clear hk); (try clear hi); (try clear ho0))); go_ret; (exact ⟨by first | rfl | (simp [errW_none, errW_some] <;> rfl) | (simp [*, errW_none, errW_some] <;> rfl), by repeat (first | (with_reducible first | exact HB.out | apply below_alloc | apply pw_below_drewN | apply below_drew1 | refine below_set ?_ GE614.out) | exact HB.out)⟩))); (· rw [if_neg c12] at H; exact absurd H (by simp))); (· rw [if_neg c11] at H; exact absurd H (by simp)))
       (· rw [if_neg c10] at H; have c10b0 : decide (x36_1 < (l1.length : Int)) = false := decide_eq_false c10; clear c10; obtain ⟨y619, hy619⟩ : ∃ y_ : List Int, y_ = (([] : List Int)) := ⟨_, rfl⟩; (replace H : (if y619.length + t608.length < 140737488355328 then ((some (y619 ++ t608 : List Int)).bind fun y622 => (if y622.length + l2.length < 140737488355328 then ((prefix_Decode.f l0 (y622 ++ l2) (l1.length : Int)).bind fun bt628 => (if bt628.2.2 = 0 then ((incunableref04_SameNums.f k1 bt628.1 l1).bind fun t633 => (if t633 = true then (if bt628.2.1 = x9_1 then (if (t608.length : Int) = (wrap64 (Int.tdiv (wrap64 (x9_1 + 7)) 8)) then ((incunablelaw04_Awake.f k1).bind fun t634 => (some t634)) else (some false)) else (some false)) else (some false))) else (some false))) else (none))) else (none)) = some r := by first | (rw [hy619]; with_reducible exact H) | (have H2_ := (Option.bind_some _ _).symm.trans H; rw [hy619]; with_reducible exact H2_) | (have H2_ := (Option.bind_some _ _).symm.trans H; with_reducible exact H2_) | with_reducible exact H | (rw [hy619]; exact H) | exact H); have Ny619 := Aside0.mk hy619; clear hy619; by_cases c22 : y619.length + t608.length < 140737488355328; (· rw [if_pos c22] at H; have LMc22 := Aside0.mk c22; clear c22; obtain ⟨y622, hy622⟩ : ∃ y_ : List Int, y_ = (y619 ++ t608) := ⟨_, rfl⟩; (replace H : (if y622.length + l2.length < 140737488355328 then ((prefix_Decode.f l0 (y622 ++ l2) (l1.length : Int)).bind fun bt628 => (if bt628.2.2 = 0 then ((incunableref04_SameNums.f k1 bt628.1 l1).bind fun t633 => (if t633 = true then (if bt628.2.1 = x9_1 then (if (t608.length : Int) = (wrap64 (Int.tdiv (wrap64 (x9_1 + 7)) 8)) then ((incunablelaw04_Awake.f k1).bind fun t634 => (some t634)) else (some false)) else (some false)) else (some false))) else (some false))) else (none)) = some r := by first | (rw [hy622]; with_reducible exact H) | (have H2_ := (Option.bind_some _ _).symm.trans H; rw [hy622]; with_reducible exact H2_) | (have H2_ := (Option.bind_some _ _).symm.trans H; with_reducible exact H2_) | with_reducible exact H | (rw [hy622]; exact H) | exact H); have Ny622 := Aside0.mk hy622; clear hy622; by_cases c23 : y622.length + l2.length < 140737488355328; (· rw [if_pos c23] at H; have LMc23 := Aside0.mk c23; clear c23; obtain ⟨y625, hy625⟩ : ∃ y_ : List Int, y_ = (y622 ++ l2) := ⟨_, rfl⟩; (replace H : ((prefix_Decode.f l0 y625 (l1.length : Int)).bind fun bt628 => (if bt628.2.2 = 0 then ((incunableref04_SameNums.f k1 bt628.1 l1).bind fun t633 => (if t633 = true then (if bt628.2.1 = x9_1 then (if (t608.length : Int) = (wrap64 (Int.tdiv (wrap64 (x9_1 + 7)) 8)) then ((incunablelaw04_Awake.f k1).bind fun t634 => (some t634)) else (some false)) else (some false)) else (some false))) else (some false))) = some r := by first | (rw [hy625]; with_reducible exact H) | (have H2_ := (Option.bind_some _ _).symm.trans H; rw [hy625]; with_reducible exact H2_) | (have H2_ := (Option.bind_some _ _).symm.trans H; with_reducible exact H2_) | with_reducible exact H | (rw [hy625]; exact H) | exact H); have Ny625 := Aside0.mk hy625; clear hy625; replace H := Option.bind_eq_some_iff.mp H; obtain ⟨⟨t628, t629, t630⟩, A240, H⟩ := H; replace H : (if t630 = 0 then ((incunableref04_SameNums.f k1 t628 l1).bind fun t633 => (if t633 = true then (if t629 = x9_1 then (if (t608.length : Int) = (wrap64 (Int.tdiv (wrap64 (x9_1 + 7)) 8)) then ((incunablelaw04_Awake.f k1).bind fun t634 => (some t634)) else (some false)) else (some false)) else (some false))) else (some false)) = some r := H; have A24 := Aside0.mk A240; clear A240; by_cases c25 : t630 = 0; (· rw [if_pos c25] at H; have c25b0 : (t630 == 0) = true := beq_iff_eq.mpr c25; have c25b1 : (t630 != 0) = false := bne_eq_false_iff_eq.mpr c25; clear c25; replace H := Option.bind_eq_some_iff.mp H; obtain ⟨t633, A260, H⟩ := H; replace H : (if t633 = true then (if t629 = x9_1 then (if (t608.length : Int) = (wrap64 (Int.tdiv (wrap64 (x9_1 + 7)) 8)) then ((incunablelaw04_Awake.f k1).bind fun t634 => (some t634)) else (some false)) else (some false)) else (some false)) = some r := H; have A26 := Aside0.mk A260; clear A260; by_cases c27 : t633 = true; (· subst c27; (have H1 : (if t629 = x9_1 then (if (t608.length : Int) = (wrap64 (Int.tdiv (wrap64 (x9_1 + 7)) 8)) then ((incunablelaw04_Awake.f k1).bind fun t634 => (some t634)) else (some false)) else (some false)) = some r := by rw [if_pos rfl] at H; exact H); clear H; have H := H1; clear H1; by_cases c28 : t629 = x9_1; (· rw [if_pos c28] at H; have c28b0 : (t629 == x9_1) = true := beq_iff_eq.mpr c28; have c28b1 : (t629 != x9_1) = false := bne_eq_false_iff_eq.mpr c28; clear c28; by_cases c29 : (t608.length : Int) = (wrap64 (Int.tdiv (wrap64 (x9_1 + 7)) 8)); (· rw [if_pos c29] at H; have c29b0 : ((t608.length : Int) == (wrap64 (Int.tdiv (wrap64 (x9_1 + 7)) 8))) = true := beq_iff_eq.mpr c29; have c29b1 : ((t608.length : Int) != (wrap64 (Int.tdiv (wrap64 (x9_1 + 7)) 8))) = false := bne_eq_false_iff_eq.mpr c29; clear c29; replace H := Option.bind_eq_some_iff.mp H; obtain ⟨t634, A300, H⟩ := H; replace H : (some t634) = some r := H; have A30 := Aside0.mk A300; clear A300; obtain rfl := Option.some.inj H; go_wp2_with (first | ((with_reducible refine gate_dst (N := 55) rfl ?_); (try (refine gate_guard (by rfl) ?_; dsimp only)); refine Kd.R_lit (Kd.int .u8) _ 5 ?hg (N := 55) ?hd (xs := ([] : List Int)) (inner := []) (ok := fun _ => True) (okp := fun _ => True) ?hr ?hp (fun _ hk => hk) trivial (Below.refl _ _) (Nat.le_refl _) (by simp) ?_; (case hd => rfl); (case hg => rfl); (case hr => first | (go_simp; done) | (go_simp; rfl)); (case hp => exact (Reps.none _ _)); intro v620 w31 ho32 hb hg_ hnew_; clear hg_ hnew_; (first | rw [← Ny619.out] at ho32 | (simp only [Int.reduceToNat] at ho32; rw [← Ny619.out] at ho32)); have n0_ := Aside0.mk (Kd.R_elder' (by (with_reducible repeat (first | apply Kd.R_alloc | apply Kd.R_drewN | apply Kd.R_drew)); exact HO_7.out) (Kd.R_base ho32) hb); have n1_ := Aside0.mk (Kd.R_lower (Kd.R_new' ho32 (Kd.R_lt (by (with_reducible repeat (first | apply Kd.R_alloc | apply Kd.R_drewN | apply Kd.R_drew)); exact HO_7.out))) (below_size (by repeat (first | (with_reducible first | exact HB.out | apply below_alloc | apply pw_below_drewN | apply below_drew1) | exact HB.out)))); have n2_ := Aside0.mk (below_step (by repeat (first | (with_reducible first | exact HB.out | apply below_alloc | apply pw_below_drewN | apply below_drew1) | exact HB.out)) hb); clear HO_7; clear HB; have HO_7 := n0_; have HO621 := n1_; have HB := n2_; clear n0_ n1_ n2_; clear hb ho32; obtain ⟨Ao34, co34, eo34⟩ := Kd.R_slice HO_7.out; subst eo34) | ((with_reducible refine gate_builtin (b := .append) (xs := #[.tmp 55, .tmp 56]) rfl ?_); (try (refine gate_guard (by rfl) ?_; dsimp only)); at_builtin; refine Kd.R_append_rows (Kd.int .u8) (w0 := w) w.heap.size rfl (.tmp 55) (.tmp 56) 46 5 (.int .u8 0) 1 rfl Try.underlying46 info5 rfl (by decide) (by omega) v620 y619 t608 _ _ _ (fun k_ => some k_ ≠ (.slice Ao34 t608.length co34 : Value).ownBlock) (fun _ => False) rfl rfl ?aO ?aR (fun _ _ h => h) (fun _ h => h.elim) ?aF ?aB ?aS ?aL ?_; (case aR => repeat (first | exact (Kd.R_reads' HO_7.out).2.2 | (with_reducible refine Kd.C_alloc ?_ _) | (with_reducible refine Kd.C_drewN ?_ _) | (with_reducible refine Kd.C_drew ?_))); (case aB => exact (by repeat (first | (with_reducible first | exact HB.out | apply below_alloc | apply pw_below_drewN | apply below_drew1) | exact HB.out))); (case aF => exact (fun k_ hk => Kd.fresh' (Kd.R_lt (by (with_reducible repeat (first | apply Kd.R_alloc | apply Kd.R_drewN | apply Kd.R_drew)); exact HO_7.out)) k_ hk)); (case aO => exact (by (with_reducible repeat (first | apply Kd.R_alloc | apply Kd.R_drewN | apply Kd.R_drew)); exact Kd.R_mono HO621.out (fun _ hk => hk.2))); (case aS => exact (below_size (by repeat (first | (with_reducible first | exact HB.out | apply below_alloc | apply pw_below_drewN | apply below_drew1) | exact HB.out)))); (case aL => have := LMc22.out; omega); intro v623 w33 ho hb hg hat; rw [← Ny622.out] at ho; have n0_ := Aside0.mk (Kd.R_after (ok := (fun _ => True)) (by (with_reducible repeat (first | apply Kd.R_alloc | apply Kd.R_drewN | apply Kd.R_drew)); exact HO_7.out) hg hat); have n1_ := Aside0.mk (hb); have n2_ := Aside0.mk (ho); clear HO_7; clear HB; clear HO621; have HO_7 := n0_; have HB := n1_; have HO624 := n2_; clear n0_ n1_ n2_; clear ho hb hg hat) | ((with_reducible refine gate_builtin (b := .append) (xs := #[.tmp 57, .tmp 58]) rfl ?_); (try (refine gate_guard (by rfl) ?_; dsimp only)); at_builtin; refine Kd.R_append_rows (Kd.int .u8) (w0 := w) w.heap.size rfl (.tmp 57) (.tmp 58) 46 5 (.int .u8 0) 1 rfl Try.underlying46 info5 rfl (by decide) (by omega) v623 y622 l2 _ _ _ (fun k_ => some k_ ≠ (.slice Ao34 t608.length co34 : Value).ownBlock) (fun _ => False) rfl rfl ?aO ?aR (fun _ _ h => h) (fun _ h => h.elim) ?aF ?aB ?aS ?aL ?_; (case aR => repeat (first | exact (Kd.C_below HR2.out HB.out) | (with_reducible refine Kd.C_alloc ?_ _) | (with_reducible refine Kd.C_drewN ?_ _) | (with_reducible refine Kd.C_drew ?_))); (case aB => exact (by repeat (first | (with_reducible first | exact HB.out | apply below_alloc | apply pw_below_drewN | apply below_drew1) | exact HB.out))); (case aF => exact (fun k_ hk => Kd.fresh' (Kd.R_lt (by (with_reducible repeat (first | apply Kd.R_alloc | apply Kd.R_drewN | apply Kd.R_drew)); exact HO_7.out)) k_ hk)); (case aO => exact (by (with_reducible repeat (first | apply Kd.R_alloc | apply Kd.R_drewN | apply Kd.R_drew)); exact HO624.out)); (case aS => exact (below_size (by repeat (first | (with_reducible first | exact HB.out | apply below_alloc | apply pw_below_drewN | apply below_drew1) | exact HB.out)))); (case aL => have := LMc23.out; omega); intro v626 w35 ho hb hg hat; rw [← Ny625.out] at ho; have n0_ := Aside0.mk (Kd.R_after (ok := (fun _ => True)) (by (with_reducible repeat (first | apply Kd.R_alloc | apply Kd.R_drewN | apply Kd.R_drew)); exact HO_7.out) hg hat); have n1_ := Aside0.mk (hb); have n2_ := Aside0.mk (ho); clear HO_7; clear HB; clear HO624; have HO_7 := n0_; have HB := n1_; have HO627 := n2_; clear n0_ n1_ n2_; clear ho hb hg hat; obtain ⟨Ao36, co36, eo36⟩ := Kd.R_slice HO627.out; subst eo36) | ((with_reducible refine gate_callee (f := 34) rfl ?_); refine goesL_ (some 62) rfl rfl Try.func34 (by kernel_rfl) rfl #[.slice A0 l0.length c0, .slice Ao36 y625.length co36, .int .i64 (l1.length : Int)] rfl (by (try simp only [List.map_toArray, List.map_cons, List.map_nil]); first | done | rfl | (simp only [List.length_drop, List.length_take]; rfl)) ?_; (with_reducible refine (prefix_Decode.calls _ _ l0 _ _ y625 (l1.length : Int) t628 t629 t630 _ ?side1 ?side2 ?side3 ?side4 A24.out).mono ?_); (case side1 => repeat (first | exact (Kd.C_below HR0.out HB.out) | (with_reducible refine Kd.C_alloc ?_ _) | (with_reducible refine Kd.C_drewN ?_ _) | (with_reducible refine Kd.C_drew ?_))); (case side2 => exact HC0.out); (case side3 => repeat (first | exact (Kd.R_reads' HO627.out).2.2 | (with_reducible refine Kd.C_alloc ?_ _) | (with_reducible refine Kd.C_drewN ?_ _) | (with_reducible refine Kd.C_drew ?_))); (case side4 => exact (Kd.R_reads' HO627.out).2.1); rintro e w37 ⟨v631, rfl, ho0, hb⟩; refine ⟨_, rfl, ?_⟩; have n0_ := Aside0.mk (Kd.R_below (by (with_reducible repeat (first | apply Kd.R_alloc | apply Kd.R_drewN | apply Kd.R_drew)); exact HO_7.out) hb); have n1_ := Aside0.mk (Kd.R_below (by (with_reducible repeat (first | apply Kd.R_alloc | apply Kd.R_drewN | apply Kd.R_drew)); exact HO627.out) hb); have n2_ := Aside0.mk (Kd.R_lower ho0 (below_size (by repeat (first | (with_reducible first | exact HB.out | apply below_alloc | apply pw_below_drewN | apply below_drew1) | exact HB.out)))); have n3_ := Aside0.mk (below_step (by repeat (first | (with_reducible first | exact HB.out | apply below_alloc | apply pw_below_drewN | apply below_drew1) | exact HB.out)) hb); clear HO_7; clear HO627; clear HB; have HO_7 := n0_; have HO627 := n1_; have HO632 := n2_; have HB := n3_; clear n0_ n1_ n2_ n3_; (try clear hb); (try clear hb2); (try clear hk); (try clear hi); (try clear ho0); obtain ⟨Ao38, co38, eo38⟩ := Kd.R_slice HO632.out; subst eo38) | (go_at_call 36; (with_reducible refine (incunableref04_SameNums.calls k1 _ _ t628 _ _ l1 true _ ?side1 ?side2 ?side3 ?side4 A26.out).mono ?_); (case side1 => repeat (first | exact (Kd.R_reads' HO632.out).2.2 | (with_reducible refine Kd.C_alloc ?_ _) | (with_reducible refine Kd.C_drewN ?_ _) | (with_reducible refine Kd.C_drew ?_))); (case side2 => exact (Kd.R_reads' HO632.out).2.1); (case side3 => repeat (first | exact (Kd.C_below HR1.out HB.out) | (with_reducible refine Kd.C_alloc ?_ _) | (with_reducible refine Kd.C_drewN ?_ _) | (with_reducible refine Kd.C_drew ?_))); (case side4 => exact HC1.out); rintro e w' ⟨rfl, ⟨nd, rfl⟩⟩) | (go_at_call 19; (with_reducible refine (incunablelaw04_Awake.calls k1  t634 _ A30.out).mono ?_); rintro e w39 ⟨rfl, hb⟩; have n0_ := Aside0.mk (Kd.R_below (by (with_reducible repeat (first | apply Kd.R_alloc | apply Kd.R_drewN | apply Kd.R_drew)); exact HO_7.out) hb); have n1_ := Aside0.mk (Kd.R_below (by (with_reducible repeat (first | apply Kd.R_alloc | apply Kd.R_drewN | apply Kd.R_drew)); exact HO627.out) hb); have n2_ := Aside0.mk (Kd.R_below (by (with_reducible repeat (first | apply Kd.R_alloc | apply Kd.R_drewN | apply Kd.R_drew)); exact HO632.out) hb); have n3_ := Aside0.mk (below_step (by repeat (first | (with_reducible first | exact HB.out | apply below_alloc | apply pw_below_drewN | apply below_drew1) | exact HB.out)) hb); clear HO_7; clear HO627; clear HO632; clear HB; have HO_7 := n0_; have HO627 := n1_; have HO632 := n2_; have HB := n3_; clear n0_ n1_ n2_ n3_; (try clear hb); (try clear hb2); (try clear hk); (try clear hi))); go_ret; (exact ⟨by first | rfl | (simp [errW_none, errW_some] <;> rfl) | (simp [*, errW_none, errW_some] <;> rfl), by repeat (first | (with_reducible first | exact HB.out | apply below_alloc | apply pw_below_drewN | apply below_drew1) | exact HB.out)⟩)); (· rw [if_neg c29] at H; have c29b0 : ((t608.length : Int) == (wrap64 (Int.tdiv (wrap64 (x9_1 + 7)) 8))) = false := beq_eq_false_iff_ne.mpr c29; have c29b1 : ((t608.length : Int) != (wrap64 (Int.tdiv (wrap64 (x9_1 + 7)) 8))) = true := bne_iff_ne.mpr c29; obtain rfl := Option.some.inj H; go_wp2_with (first | ((with_reducible refine gate_dst (N := 55) rfl ?_); (try (refine gate_guard (by rfl) ?_; dsimp only)); refine Kd.R_lit (Kd.int .u8) _ 5 ?hg (N := 55) ?hd (xs := ([] : List Int)) (inner := []) (ok := fun _ => True) (okp := fun _ => True) ?hr ?hp (fun _ hk => hk) trivial (Below.refl _ _) (Nat.le_refl _) (by simp) ?_; (case hd => rfl); (case hg => rfl); (case hr => first | (go_simp; done) | (go_simp; rfl)); (case hp => exact (Reps.none _ _)); intro v620 w40 ho41 hb hg_ hnew_; clear hg_ hnew_; (first | rw [← Ny619.out] at ho41 | (simp only [Int.reduceToNat] at ho41; rw [← Ny619.out] at ho41)); have n0_ := Aside0.mk (Kd.R_elder' (by (with_reducible repeat (first | apply Kd.R_alloc | apply Kd.R_drewN | apply Kd.R_drew)); exact HO_7.out) (Kd.R_base ho41) hb); have n1_ := Aside0.mk (Kd.R_lower (Kd.R_new' ho41 (Kd.R_lt (by (with_reducible repeat (first | apply Kd.R_alloc | apply Kd.R_drewN | apply Kd.R_drew)); exact HO_7.out))) (below_size (by repeat (first | (with_reducible first | exact HB.out | apply below_alloc | apply pw_below_drewN | apply below_drew1) | exact HB.out)))); have n2_ := Aside0.mk (below_step (by repeat (first | (with_reducible first | exact HB.out | apply below_alloc | apply pw_below_drewN | apply below_drew1) | exact HB.out)) hb); clear HO_7; clear HB; have HO_7 := n0_; have HO621 := n1_; have HB := n2_; clear n0_ n1_ n2_; clear hb ho41; obtain ⟨Ao43, co43, eo43⟩ := Kd.R_slice HO_7.out; subst eo43) | ((with_reducible refine gate_builtin (b := .append) (xs := #[.tmp 55, .tmp 56]) rfl ?_); (try (refine gate_guard (by rfl) ?_; dsimp only)); at_builtin; refine Kd.R_append_rows (Kd.int .u8) (w0 := w) w.heap.size rfl (.tmp 55) (.tmp 56) 46 5 (.int .u8 0) 1 rfl Try.underlying46 info5 rfl (by decide) (by omega) v620 y619 t608 _ _ _ (fun k_ => some k_ ≠ (.slice Ao43 t608.length co43 : Value).ownBlock) (fun _ => False) rfl rfl ?aO ?aR (fun _ _ h => h) (fun _ h => h.elim) ?aF ?aB ?aS ?aL ?_; (case aR => repeat (first | exact (Kd.R_reads' HO_7.out).2.2 | (with_reducible refine Kd.C_alloc ?_ _) | (with_reducible refine Kd.C_drewN ?_ _) | (with_reducible refine Kd.C_drew ?_))); (case aB => exact (by repeat (first | (with_reducible first | exact HB.out | apply below_alloc | apply pw_below_drewN | apply below_drew1) | exact HB.out))); (case aF => exact (fun k_ hk => Kd.fresh' (Kd.R_lt (by (with_reducible repeat (first | apply Kd.R_alloc | apply Kd.R_drewN | apply Kd.R_drew)); exact HO_7.out)) k_ hk)); (case aO => exact (by (with_reducible repeat (first | apply Kd.R_alloc | apply Kd.R_drewN | apply Kd.R_drew)); exact Kd.R_mono HO621.out (fun _ hk => hk.2))); (case aS => exact (below_size (by repeat (first | (with_reducible first | exact HB.out | apply below_alloc | apply pw_below_drewN | apply below_drew1) | exact HB.out)))); (case aL => have := LMc22.out; omega); intro v623 w42 ho hb hg hat; rw [← Ny622.out] at ho; have n0_ := Aside0.mk (Kd.R_after (ok := (fun _ => True)) (by (with_reducible repeat (first | apply Kd.R_alloc | apply Kd.R_drewN | apply Kd.R_drew)); exact HO_7.out) hg hat); have n1_ := Aside0.mk (hb); have n2_ := Aside0.mk (ho); clear HO_7; clear HB; clear HO621; have HO_7 := n0_; have HB := n1_; have HO624 := n2_; clear n0_ n1_ n2_; clear ho hb hg hat) | ((with_reducible refine gate_builtin (b := .append) (xs := #[.tmp 57, .tmp 58]) rfl ?_); (try (refine gate_guard (by rfl) ?_; dsimp only)); at_builtin; refine Kd.R_append_rows (Kd.int .u8) (w0 := w) w.heap.size rfl (.tmp 57) (.tmp 58) 46 5 (.int .u8 0) 1 rfl Try.underlying46 info5 rfl (by decide) (by omega) v623 y622 l2 _ _ _ (fun k_ => some k_ ≠ (.slice Ao43 t608.length co43 : Value).ownBlock) (fun _ => False) rfl rfl ?aO ?aR (fun _ _ h => h) (fun _ h => h.elim) ?aF ?aB ?aS ?aL ?_; (case aR => repeat (first | exact (Kd.C_below HR2.out HB.out) | (with_reducible refine Kd.C_alloc ?_ _) | (with_reducible refine Kd.C_drewN ?_ _) | (with_reducible refine Kd.C_drew ?_))); (case aB => exact (by repeat (first | (with_reducible first | exact HB.out | apply below_alloc | apply pw_below_drewN | apply below_drew1) | exact HB.out))); (case aF => exact (fun k_ hk => Kd.fresh' (Kd.R_lt (by (with_reducible repeat (first | apply Kd.R_alloc | apply Kd.R_drewN | apply Kd.R_drew)); exact HO_7.out)) k_ hk)); (case aO => exact (by (with_reducible repeat (first | apply Kd.R_alloc | apply Kd.R_drewN | apply Kd.R_drew)); exact HO624.out)); (case aS => exact (below_size (by repeat (first | (with_reducible first | exact HB.out | apply below_alloc | apply pw_below_drewN | apply below_drew1) | exact HB.out)))); (case aL => have := LMc23.out; omega); intro v626 w44 ho hb hg hat; rw [← Ny625.out] at ho; have n0_ := Aside0.mk (Kd.R_after (ok := (fun _ => True)) (by (with_reducible repeat (first | apply Kd.R_alloc | apply Kd.R_drewN | apply Kd.R_drew)); exact HO_7.out) hg hat); have n1_ := Aside0.mk (hb); have n2_ := Aside0.mk (ho); clear HO_7; clear HB; clear HO624; have HO_7 := n0_; have HB := n1_; have HO627 := n2_; clear n0_ n1_ n2_; clear ho hb hg hat; obtain ⟨Ao45, co45, eo45⟩ := Kd.R_slice HO627.out; subst eo45) | ((with_reducible refine gate_callee (f := 34) rfl ?_); refine goesL_ (some 62) rfl rfl Try.func34 (by kernel_rfl) rfl #[.slice A0 l0.length c0, .slice Ao45 y625.length co45, .int .i64 (l1.length : Int)] rfl (by (try simp only [List.map_toArray, List.map_cons, List.map_nil]); first | done | rfl | (simp only [List.length_drop, List.length_take]; rfl)) ?_; (with_reducible refine (prefix_Decode.calls _ _ l0 _ _ y625 (l1.length : Int) t628 t629 t630 _ ?side1 ?side2 ?side3 ?side4 A24.out).mono ?_); (case side1 => repeat (first | exact (Kd.C_below HR0.out HB.out) | (with_reducible refine Kd.C_alloc ?_ _) | (with_reducible refine Kd.C_drewN ?_ _) | (with_reducible refine Kd.C_drew ?_))); (case side2 => exact HC0.out); (case side3 => repeat (first | exact (Kd.R_reads' HO627.out).2.2 | (with_reducible refine Kd.C_alloc ?_ _) | (with_reducible refine Kd.C_drewN ?_ _) | (with_reducible refine Kd.C_drew ?_))); (case side4 => exact (Kd.R_reads' HO627.out).2.1); rintro e w46 ⟨v631, rfl, ho0, hb⟩; refine ⟨_, rfl, ?_⟩; have n0_ := Aside0.mk (Kd.R_below (by (with_reducible repeat (first | apply Kd.R_alloc | apply Kd.R_drewN | apply Kd.R_drew)); exact HO_7.out) hb); have n1_ := Aside0.mk (Kd.R_below (by (with_reducible repeat (first | apply Kd.R_alloc | apply Kd.R_drewN | apply Kd.R_drew)); exact HO627.out) hb); have n2_ := Aside0.mk (Kd.R_lower ho0 (below_size (by repeat (first | (with_reducible first | exact HB.out | apply below_alloc | apply pw_below_drewN | apply below_drew1) | exact HB.out)))); have n3_ := Aside0.mk (below_step (by repeat (first | (with_reducible first | exact HB.out | apply below_alloc | apply pw_below_drewN | apply below_drew1) | exact HB.out)) hb); clear HO_7; clear HO627; clear HB; have HO_7 := n0_; have HO627 := n1_; have HO632 := n2_; have HB := n3_; clear n0_ n1_ n2_ n3_; (try clear hb); (try clear hb2); (try clear hk); (try clear hi); (try clear ho0); obtain ⟨Ao47, co47, eo47⟩ := Kd.R_slice HO632.out; subst eo47) | (go_at_call 36; (with_reducible refine (incunableref04_SameNums.calls k1 _ _ t628 _ _ l1 true _ ?side1 ?side2 ?side3 ?side4 A26.out).mono ?_); (case side1 => repeat (first | exact (Kd.R_reads' HO632.out).2.2 | (with_reducible refine Kd.C_alloc ?_ _) | (with_reducible refine Kd.C_drewN ?_ _) | (with_reducible refine Kd.C_drew ?_))); (case side2 => exact (Kd.R_reads' HO632.out).2.1); (case side3 => repeat (first | exact (Kd.C_below HR1.out HB.out) | (with_reducible refine Kd.C_alloc ?_ _) | (with_reducible refine Kd.C_drewN ?_ _) | (with_reducible refine Kd.C_drew ?_))); (case side4 => exact HC1.out); rintro e w' ⟨rfl, ⟨nd, rfl⟩⟩)); go_ret; (exact ⟨by first | rfl | (simp [errW_none, errW_some] <;> rfl) | (simp [*, errW_none, errW_some] <;> rfl), by repeat (first | (with_reducible first | exact HB.out | apply below_alloc | apply pw_below_drewN | apply below_drew1) | exact HB.out)⟩))); (· rw [if_neg c28] at H; have c28b0 : (t629 == x9_1) = false := beq_eq_false_iff_ne.mpr c28; have c28b1 : (t629 != x9_1) = true := bne_iff_ne.mpr c28; obtain rfl := Option.some.inj H; go_wp2_with (first | ((with_reducible refine gate_dst (N := 55) rfl ?_); (try (refine gate_guard (by rfl) ?_; dsimp only)); refine Kd.R_lit (Kd.int .u8) _ 5 ?hg (N := 55) ?hd (xs := ([] : List Int)) (inner := []) (ok := fun _ => True) (okp := fun _ => True) ?hr ?hp (fun _ hk => hk) trivial (Below.refl _ _) (Nat.le_refl _) (by simp) ?_; (case hd => rfl); (case hg => rfl); (case hr => first | (go_simp; done) | (go_simp; rfl)); (case hp => exact (Reps.none _ _)); intro v620 w48 ho49 hb hg_ hnew_; clear hg_ hnew_; (first | rw [← Ny619.out] at ho49 | (simp only [Int.reduceToNat] at ho49; rw [← Ny619.out] at ho49)); have n0_ := Aside0.mk (Kd.R_elder' (by (with_reducible repeat (first | apply Kd.R_alloc | apply Kd.R_drewN | apply Kd.R_drew)); exact HO_7.out) (Kd.R_base ho49) hb); have n1_ := Aside0.mk (Kd.R_lower (Kd.R_new' ho49 (Kd.R_lt (by (with_reducible repeat (first | apply Kd.R_alloc | apply Kd.R_drewN | apply Kd.R_drew)); exact HO_7.out))) (below_size (by repeat (first | (with_reducible first | exact HB.out | apply below_alloc | apply pw_below_drewN | apply below_drew1) | exact HB.out)))); have n2_ := Aside0.mk (below_step (by repeat (first | (with_reducible first | exact HB.out | apply below_alloc | apply pw_below_drewN | apply below_drew1) | exact HB.out)) hb); clear HO_7; clear HB; have HO_7 := n0_; have HO621 := n1_; have HB := n2_; clear n0_ n1_ n2_; clear hb ho49; obtain ⟨Ao51, co51, eo51⟩ := Kd.R_slice HO_7.out; subst eo51) | ((with_reducible refine gate_builtin (b := .append) (xs := #[.tmp 55, .tmp 56]) rfl ?_); (try (refine gate_guard (by rfl) ?_; dsimp only)); at_builtin; refine Kd.R_append_rows (Kd.int .u8) (w0 := w) w.heap.size rfl (.tmp 55) (.tmp 56) 46 5 (.int .u8 0) 1 rfl Try.underlying46 info5 rfl (by decide) (by omega) v620 y619 t608 _ _ _ (fun k_ => some k_ ≠ (.slice Ao51 t608.length co51 : Value).ownBlock) (fun _ => False) rfl rfl ?aO ?aR (fun _ _ h => h) (fun _ h => h.elim) ?aF ?aB ?aS ?aL ?_; (case aR => repeat (first | exact (Kd.R_reads' HO_7.out).2.2 | (with_reducible refine Kd.C_alloc ?_ _) | (with_reducible refine Kd.C_drewN ?_ _) | (with_reducible refine Kd.C_drew ?_))); (case aB => exact (by repeat (first | (with_reducible first | exact HB.out | apply below_alloc | apply pw_below_drewN | apply below_drew1) | exact HB.out))); (case aF => exact (fun k_ hk => Kd.fresh' (Kd.R_lt (by (with_reducible repeat (first | apply Kd.R_alloc | apply Kd.R_drewN | apply Kd.R_drew)); exact HO_7.out)) k_ hk)); (case aO => exact (by (with_reducible repeat (first | apply Kd.R_alloc | apply Kd.R_drewN | apply Kd.R_drew)); exact Kd.R_mono HO621.out (fun _ hk => hk.2))); (case aS => exact (below_size (by repeat (first | (with_reducible first | exact HB.out | apply below_alloc | apply pw_below_drewN | apply below_drew1) | exact HB.out)))); (case aL => have := LMc22.out; omega); intro v623 w50 ho hb hg hat; rw [← Ny622.out] at ho; have n0_ := Aside0.mk (Kd.R_after (ok := (fun _ => True)) (by (with_reducible repeat (first | apply Kd.R_alloc | apply Kd.R_drewN | apply Kd.R_drew)); exact HO_7.out) hg hat); have n1_ := Aside0.mk (hb); have n2_ := Aside0.mk (ho); clear HO_7; clear HB; clear HO621; have HO_7 := n0_; have HB := n1_; have HO624 := n2_; clear n0_ n1_ n2_; clear ho hb hg hat) | ((with_reducible refine gate_builtin (b := .append) (xs := #[.tmp 57, .tmp 58]) rfl ?_); (try (refine gate_guard (by rfl) ?_; dsimp only)); at_builtin; refine Kd.R_append_rows (Kd.int .u8) (w0 := w) w.heap.size rfl (.tmp 57) (.tmp 58) 46 5 (.int .u8 0) 1 rfl Try.underlying46 info5 rfl (by decide) (by omega) v623 y622 l2 _ _ _ (fun k_ => some k_ ≠ (.slice Ao51 t608.length co51 : Value).ownBlock) (fun _ => False) rfl rfl ?aO ?aR (fun _ _ h => h) (fun _ h => h.elim) ?aF ?aB ?aS ?aL ?_; (case aR => repeat (first | exact (Kd.C_below HR2.out HB.out) | (with_reducible refine Kd.C_alloc ?_ _) | (with_reducible refine Kd.C_drewN ?_ _) | (with_reducible refine Kd.C_drew ?_))); (case aB => exact (by repeat (first | (with_reducible first | exact HB.out | apply below_alloc | apply pw_below_drewN | apply below_drew1) | exact HB.out))); (case aF => exact (fun k_ hk => Kd.fresh' (Kd.R_lt (by (with_reducible repeat (first | apply Kd.R_alloc | apply Kd.R_drewN | apply Kd.R_drew)); exact HO_7.out)) k_ hk)); (case aO => exact (by (with_reducible repeat (first | apply Kd.R_alloc | apply Kd.R_drewN | apply Kd.R_drew)); exact HO624.out)); (case aS => exact (below_size (by repeat (first | (with_reducible first | exact HB.out | apply below_alloc | apply pw_below_drewN | apply below_drew1) | exact HB.out)))); (case aL => have := LMc23.out; omega); intro v626 w52 ho hb hg hat; rw [← Ny625.out] at ho; have n0_ := Aside0.mk (Kd.R_after (ok := (fun _ => True)) (by (with_reducible repeat (first | apply Kd.R_alloc | apply Kd.R_drewN | apply Kd.R_drew)); exact HO_7.out) hg hat); have n1_ := Aside0.mk (hb); have n2_ := Aside0.mk (ho); clear HO_7; clear HB; clear HO624; have HO_7 := n0_; have HB := n1_; have HO627 := n2_; clear n0_ n1_ n2_; clear ho hb hg hat; obtain ⟨Ao53, co53, eo53⟩ := Kd.R_slice HO627.out; subst eo53) | ((with_reducible refine gate_callee (f := 34) rfl ?_); refine goesL_ (some 62) rfl rfl Try.func34 (by kernel_rfl) rfl #[.slice A0 l0.length c0, .slice Ao53 y625.length co53, .int .i64 (l1.length : Int)] rfl (by (try simp only [List.map_toArray, List.map_cons, List.map_nil]); first | done | rfl | (simp only [List.length_drop, List.length_take]; rfl)) ?_; (with_reducible refine (prefix_Decode.calls _ _ l0 _ _ y625 (l1.length : Int) t628 t629 t630 _ ?side1 ?side2 ?side3 ?side4 A24.out).mono ?_); (case side1 => repeat (first | exact (Kd.C_below HR0.out HB.out) | (with_reducible refine Kd.C_alloc ?_ _) | (with_reducible refine Kd.C_drewN ?_ _) | (with_reducible refine Kd.C_drew ?_))); (case side2 => exact HC0.out); (case side3 => repeat (first | exact (Kd.R_reads' HO627.out).2.2 | (with_reducible refine Kd.C_alloc ?_ _) | (with_reducible refine Kd.C_drewN ?_ _) | (with_reducible refine Kd.C_drew ?_))); (case side4 => exact (Kd.R_reads' HO627.out).2.1); rintro e w54 ⟨v631, rfl, ho0, hb⟩; refine ⟨_, rfl, ?_⟩; have n0_ := Aside0.mk (Kd.R_below (by (with_reducible repeat (first | apply Kd.R_alloc | apply Kd.R_drewN | apply Kd.R_drew)); exact HO_7.out) hb); have n1_ := Aside0.mk (Kd.R_below (by (with_reducible repeat (first | apply Kd.R_alloc | apply Kd.R_drewN | apply Kd.R_drew)); exact HO627.out) hb); have n2_ := Aside0.mk (Kd.R_lower ho0 (below_size (by repeat (first | (with_reducible first | exact HB.out | apply below_alloc | apply pw_below_drewN | apply below_drew1) | exact HB.out)))); have n3_ := Aside0.mk (below_step (by repeat (first | (with_reducible first | exact HB.out | apply below_alloc | apply pw_below_drewN | apply below_drew1) | exact HB.out)) hb); clear HO_7; clear HO627; clear HB; have HO_7 := n0_; have HO627 := n1_; have HO632 := n2_; have HB := n3_; clear n0_ n1_ n2_ n3_; (try clear hb); (try clear hb2); (try clear hk); (try clear hi); (try clear ho0); obtain ⟨Ao55, co55, eo55⟩ := Kd.R_slice HO632.out; subst eo55) | (go_at_call 36; (with_reducible refine (incunableref04_SameNums.calls k1 _ _ t628 _ _ l1 true _ ?side1 ?side2 ?side3 ?side4 A26.out).mono ?_); (case side1 => repeat (first | exact (Kd.R_reads' HO632.out).2.2 | (with_reducible refine Kd.C_alloc ?_ _) | (with_reducible refine Kd.C_drewN ?_ _) | (with_reducible refine Kd.C_drew ?_))); (case side2 => exact (Kd.R_reads' HO632.out).2.1); (case side3 => repeat (first | exact (Kd.C_below HR1.out HB.out) | (with_reducible refine Kd.C_alloc ?_ _) | (with_reducible refine Kd.C_drewN ?_ _) | (with_reducible refine Kd.C_drew ?_))); (case side4 => exact HC1.out); rintro e w' ⟨rfl, ⟨nd, rfl⟩⟩)); go_ret; (exact ⟨by first | rfl | (simp [errW_none, errW_some] <;> rfl) | (simp [*, errW_none, errW_some] <;> rfl), by repeat (first | (with_reducible first | exact HB.out | apply below_alloc | apply pw_below_drewN | apply below_drew1) | exact HB.out)⟩))); (· replace c27 := Bool.eq_false_iff.mpr c27; subst c27; (have H1 : (some false) = some r := by rw [if_neg (show ¬ (false = true) by decide)] at H; exact H); clear H; have H := H1; clear H1; obtain rfl := Option.some.inj H; go_wp2_with (first | ((with_reducible refine gate_dst (N := 55) rfl ?_); (try (refine gate_guard (by rfl) ?_; dsimp only)); refine Kd.R_lit (Kd.int .u8) _ 5 ?hg (N := 55) ?hd (xs := ([] : List Int)) (inner := []) (ok := fun _ => True) (okp := fun _ => True) ?hr ?hp (fun _ hk => hk) trivial (Below.refl _ _) (Nat.le_refl _) (by simp) ?_; (case hd => rfl); (case hg => rfl); (case hr => first | (go_simp; done) | (go_simp; rfl)); (case hp => exact (Reps.none _ _)); intro v620 w56 ho57 hb hg_ hnew_; clear hg_ hnew_; (first | rw [← Ny619.out] at ho57 | (simp only [Int.reduceToNat] at ho57; rw [← Ny619.out] at ho57)); have n0_ := Aside0.mk (Kd.R_elder' (by (with_reducible repeat (first | apply Kd.R_alloc | apply Kd.R_drewN | apply Kd.R_drew)); exact HO_7.out) (Kd.R_base ho57) hb); have n1_ := Aside0.mk (Kd.R_lower (Kd.R_new' ho57 (Kd.R_lt (by (with_reducible repeat (first | apply Kd.R_alloc | apply Kd.R_drewN | apply Kd.R_drew)); exact HO_7.out))) (below_size (by repeat (first | (with_reducible first | exact HB.out | apply below_alloc | apply pw_below_drewN | apply below_drew1) | exact HB.out)))); have n2_ := Aside0.mk (below_step (by repeat (first | (with_reducible first | exact HB.out | apply below_alloc | apply pw_below_drewN | apply below_drew1) | exact HB.out)) hb); clear HO_7; clear HB; have HO_7 := n0_; have HO621 := n1_; have HB := n2_; clear n0_ n1_ n2_; clear hb ho57; obtain ⟨Ao59, co59, eo59⟩ := Kd.R_slice HO_7.out; subst eo59) | ((with_reducible refine gate_builtin (b := .append) (xs := #[.tmp 55, .tmp 56]) rfl ?_); (try (refine gate_guard (by rfl) ?_; dsimp only)); at_builtin; refine Kd.R_append_rows (Kd.int .u8) (w0 := w) w.heap.size rfl (.tmp 55) (.tmp 56) 46 5 (.int .u8 0) 1 rfl Try.underlying46 info5 rfl (by decide) (by omega) v620 y619 t608 _ _ _ (fun k_ => some k_ ≠ (.slice Ao59 t608.length co59 : Value).ownBlock) (fun _ => False) rfl rfl ?aO ?aR (fun _ _ h => h) (fun _ h => h.elim) ?aF ?aB ?aS ?aL ?_; (case aR => repeat (first | exact (Kd.R_reads' HO_7.out).2.2 | (with_reducible refine Kd.C_alloc ?_ _) | (with_reducible refine Kd.C_drewN ?_ _) | (with_reducible refine Kd.C_drew ?_))); (case aB => exact (by repeat (first | (with_reducible first | exact HB.out | apply below_alloc | apply pw_below_drewN | apply below_drew1) | exact HB.out))); (case aF => exact (fun k_ hk => Kd.fresh' (Kd.R_lt (by (with_reducible repeat (first | apply Kd.R_alloc | apply Kd.R_drewN | apply Kd.R_drew)); exact HO_7.out)) k_ hk)); (case aO => exact (by (with_reducible repeat (first | apply Kd.R_alloc | apply Kd.R_drewN | apply Kd.R_drew)); exact Kd.R_mono HO621.out (fun _ hk => hk.2))); (case aS => exact (below_size (by repeat (first | (with_reducible first | exact HB.out | apply below_alloc | apply pw_below_drewN | apply below_drew1) | exact HB.out)))); (case aL => have := LMc22.out; omega); intro v623 w58 ho hb hg hat; rw [← Ny622.out] at ho; have n0_ := Aside0.mk (Kd.R_after (ok := (fun _ => True)) (by (with_reducible repeat (first | apply Kd.R_alloc | apply Kd.R_drewN | apply Kd.R_drew)); exact HO_7.out) hg hat); have n1_ := Aside0.mk (hb); have n2_ := Aside0.mk (ho); clear HO_7; clear HB; clear HO621; have HO_7 := n0_; have HB := n1_; have HO624 := n2_; clear n0_ n1_ n2_; clear ho hb hg hat) | ((with_reducible refine gate_builtin (b := .append) (xs := #[.tmp 57, .tmp 58]) rfl ?_); (try (refine gate_guard (by rfl) ?_; dsimp only)); at_builtin; refine Kd.R_append_rows (Kd.int .u8) (w0 := w) w.heap.size rfl (.tmp 57) (.tmp 58) 46 5 (.int .u8 0) 1 rfl Try.underlying46 info5 rfl (by decide) (by omega) v623 y622 l2 _ _ _ (fun k_ => some k_ ≠ (.slice Ao59 t608.length co59 : Value).ownBlock) (fun _ => False) rfl rfl ?aO ?aR (fun _ _ h => h) (fun _ h => h.elim) ?aF ?aB ?aS ?aL ?_; (case aR => repeat (first | exact (Kd.C_below HR2.out HB.out) | (with_reducible refine Kd.C_alloc ?_ _) | (with_reducible refine Kd.C_drewN ?_ _) | (with_reducible refine Kd.C_drew ?_))); (case aB => exact (by repeat (first | (with_reducible first | exact HB.out | apply below_alloc | apply pw_below_drewN | apply below_drew1) | exact HB.out))); (case aF => exact (fun k_ hk => Kd.fresh' (Kd.R_lt (by (with_reducible repeat (first | apply Kd.R_alloc | apply Kd.R_drewN | apply Kd.R_drew)); exact HO_7.out)) k_ hk)); (case aO => exact (by (with_reducible repeat (first | apply Kd.R_alloc | apply Kd.R_drewN | apply Kd.R_drew)); exact HO624.out)); (case aS => exact (below_size (by repeat (first | (with_reducible first | exact HB.out | apply below_alloc | apply pw_below_drewN | apply below_drew1) | exact HB.out)))); (case aL => have := LMc23.out; omega); intro v626 w60 ho hb hg hat; rw [← Ny625.out] at ho; have n0_ := Aside0.mk (Kd.R_after (ok := (fun _ => True)) (by (with_reducible repeat (first | apply Kd.R_alloc | apply Kd.R_drewN | apply Kd.R_drew)); exact HO_7.out) hg hat); have n1_ := Aside0.mk (hb); have n2_ := Aside0.mk (ho); clear HO_7; clear HB; clear HO624; have HO_7 := n0_; have HB := n1_; have HO627 := n2_; clear n0_ n1_ n2_; clear ho hb hg hat; obtain ⟨Ao61, co61, eo61⟩ := Kd.R_slice HO627.out; subst eo61) | ((with_reducible refine gate_callee (f := 34) rfl ?_); refine goesL_ (some 62) rfl rfl Try.func34 (by kernel_rfl) rfl #[.slice A0 l0.length c0, .slice Ao61 y625.length co61, .int .i64 (l1.length : Int)] rfl (by (try simp only [List.map_toArray, List.map_cons, List.map_nil]); first | done | rfl | (simp only [List.length_drop, List.length_take]; rfl)) ?_; (with_reducible refine (prefix_Decode.calls _ _ l0 _ _ y625 (l1.length : Int) t628 t629 t630 _ ?side1 ?side2 ?side3 ?side4 A24.out).mono ?_); (case side1 => repeat (first | exact (Kd.C_below HR0.out HB.out) | (with_reducible refine Kd.C_alloc ?_ _) | (with_reducible refine Kd.C_drewN ?_ _) | (with_reducible refine Kd.C_drew ?_))); (case side2 => exact HC0.out); (case side3 => repeat (first | exact (Kd.R_reads' HO627.out).2.2 | (with_reducible refine Kd.C_alloc ?_ _) | (with_reducible refine Kd.C_drewN ?_ _) | (with_reducible refine Kd.C_drew ?_))); (case side4 => exact (Kd.R_reads' HO627.out).2.1); rintro e w62 ⟨v631, rfl, ho0, hb⟩; refine ⟨_, rfl, ?_⟩; have n0_ := Aside0.mk (Kd.R_below (by (with_reducible repeat (first | apply Kd.R_alloc | apply Kd.R_drewN | apply Kd.R_drew)); exact HO_7.out) hb); have n1_ := Aside0.mk (Kd.R_below (by (with_reducible repeat (first | apply Kd.R_alloc | apply Kd.R_drewN | apply Kd.R_drew)); exact HO627.out) hb); have n2_ := Aside0.mk (Kd.R_lower ho0 (below_size (by repeat (first | (with_reducible first | exact HB.out | apply below_alloc | apply pw_below_drewN | apply below_drew1) | exact HB.out)))); have n3_ := Aside0.mk (below_step (by repeat (first | (with_reducible first | exact HB.out | apply below_alloc | apply pw_below_drewN | apply below_drew1) | exact HB.out)) hb); clear HO_7; clear HO627; clear HB; have HO_7 := n0_; have HO627 := n1_; have HO632 := n2_; have HB := n3_; clear n0_ n1_ n2_ n3_; (try clear hb); (try clear hb2); (try clear hk); (try clear hi); (try clear ho0); obtain ⟨Ao63, co63, eo63⟩ := Kd.R_slice HO632.out; subst eo63) | (go_at_call 36; (with_reducible refine (incunableref04_SameNums.calls k1 _ _ t628 _ _ l1 false _ ?side1 ?side2 ?side3 ?side4 A26.out).mono ?_); (case side1 => repeat (first | exact (Kd.R_reads' HO632.out).2.2 | (with_reducible refine Kd.C_alloc ?_ _) | (with_reducible refine Kd.C_drewN ?_ _) | (with_reducible refine Kd.C_drew ?_))); (case side2 => exact (Kd.R_reads' HO632.out).2.1); (case side3 => repeat (first | exact (Kd.C_below HR1.out HB.out) | (with_reducible refine Kd.C_alloc ?_ _) | (with_reducible refine Kd.C_drewN ?_ _) | (with_reducible refine Kd.C_drew ?_))); (case side4 => exact HC1.out); rintro e w' ⟨rfl, ⟨nd, rfl⟩⟩)); go_ret; (exact ⟨by first | rfl | (simp [errW_none, errW_some] <;> rfl) | (simp [*, errW_none, errW_some] <;> rfl), by repeat (first | (with_reducible first | exact HB.out | apply below_alloc | apply pw_below_drewN | apply below_drew1) | exact HB.out)⟩))); (· rw [if_neg c25] at H; have c25b0 : (t630 == 0) = false := beq_eq_false_iff_ne.mpr c25; have c25b1 : (t630 != 0) = true := bne_iff_ne.mpr c25; obtain rfl := Option.some.inj H; go_wp2_with (first | ((with_reducible refine gate_dst (N := 55) rfl ?_); (try (refine gate_guard (by rfl) ?_; dsimp only)); refine Kd.R_lit (Kd.int .u8) _ 5 ?hg (N := 55) ?hd (xs := ([] : List Int)) (inner := []) (ok := fun _ => True) (okp := fun _ => True) ?hr ?hp (fun _ hk => hk) trivial (Below.refl _ _) (Nat.le_refl _) (by simp) ?_; (case hd => rfl); (case hg => rfl); (case hr => first | (go_simp; done) | (go_simp; rfl)); (case hp => exact (Reps.none _ _)); intro v620 w64 ho65 hb hg_ hnew_; clear hg_ hnew_; (first | rw [← Ny619.out] at ho65 | (simp only [Int.reduceToNat] at ho65; rw [← Ny619.out] at ho65)); have n0_ := Aside0.mk (Kd.R_elder' (by (with_reducible repeat (first | apply Kd.R_alloc | apply Kd.R_drewN | apply Kd.R_drew)); exact HO_7.out) (Kd.R_base ho65) hb); have n1_ := Aside0.mk (Kd.R_lower (Kd.R_new' ho65 (Kd.R_lt (by (with_reducible repeat (first | apply Kd.R_alloc | apply Kd.R_drewN | apply Kd.R_drew)); exact HO_7.out))) (below_size (by repeat (first | (with_reducible first | exact HB.out | apply below_alloc | apply pw_below_drewN | apply below_drew1) | exact HB.out)))); have n2_ := Aside0.mk (below_step (by repeat (first | (with_reducible first | exact HB.out | apply below_alloc | apply pw_below_drewN | apply below_drew1) | exact HB.out)) hb); clear HO_7; clear HB; have HO_7 := n0_; have HO621 := n1_; have HB := n2_; clear n0_ n1_ n2_; clear hb ho65; obtain ⟨Ao67, co67, eo67⟩ := Kd.R_slice HO_7.out; subst eo67) | ((with_reducible refine gate_builtin (b := .append) (xs := #[.tmp 55, .tmp 56]) rfl ?_); (try (refine gate_guard (by rfl) ?_; dsimp only)); at_builtin; refine Kd.R_append_rows (Kd.int .u8) (w0 := w) w.heap.size rfl (.tmp 55) (.tmp 56) 46 5 (.int .u8 0) 1 rfl Try.underlying46 info5 rfl (by decide) (by omega) v620 y619 t608 _ _ _ (fun k_ => some k_ ≠ (.slice Ao67 t608.length co67 : Value).ownBlock) (fun _ => False) rfl rfl ?aO ?aR (fun _ _ h => h) (fun _ h => h.elim) ?aF ?aB ?aS ?aL ?_; (case aR => repeat (first | exact (Kd.R_reads' HO_7.out).2.2 | (with_reducible refine Kd.C_alloc ?_ _) | (with_reducible refine Kd.C_drewN ?_ _) | (with_reducible refine Kd.C_drew ?_))); (case aB => exact (by repeat (first | (with_reducible first | exact HB.out | apply below_alloc | apply pw_below_drewN | apply below_drew1) | exact HB.out))); (case aF => exact (fun k_ hk => Kd.fresh' (Kd.R_lt (by (with_reducible repeat (first | apply Kd.R_alloc | apply Kd.R_drewN | apply Kd.R_drew)); exact HO_7.out)) k_ hk)); (case aO => exact (by (with_reducible repeat (first | apply Kd.R_alloc | apply Kd.R_drewN | apply Kd.R_drew)); exact Kd.R_mono HO621.out (fun _ hk => hk.2))); (case aS => exact (below_size (by repeat (first | (with_reducible first | exact HB.out | apply below_alloc | apply pw_below_drewN | apply below_drew1) | exact HB.out)))); (case aL => have := LMc22.out; omega); intro v623 w66 ho hb hg hat; rw [← Ny622.out] at ho; have n0_ := Aside0.mk (Kd.R_after (ok := (fun _ => True)) (by (with_reducible repeat (first | apply Kd.R_alloc | apply Kd.R_drewN | apply Kd.R_drew)); exact HO_7.out) hg hat); have n1_ := Aside0.mk (hb); have n2_ := Aside0.mk (ho); clear HO_7; clear HB; clear HO621; have HO_7 := n0_; have HB := n1_; have HO624 := n2_; clear n0_ n1_ n2_; clear ho hb hg hat) | ((with_reducible refine gate_builtin (b := .append) (xs := #[.tmp 57, .tmp 58]) rfl ?_); (try (refine gate_guard (by rfl) ?_; dsimp only)); at_builtin; refine Kd.R_append_rows (Kd.int .u8) (w0 := w) w.heap.size rfl (.tmp 57) (.tmp 58) 46 5 (.int .u8 0) 1 rfl Try.underlying46 info5 rfl (by decide) (by omega) v623 y622 l2 _ _ _ (fun k_ => some k_ ≠ (.slice Ao67 t608.length co67 : Value).ownBlock) (fun _ => False) rfl rfl ?aO ?aR (fun _ _ h => h) (fun _ h => h.elim) ?aF ?aB ?aS ?aL ?_; (case aR => repeat (first | exact (Kd.C_below HR2.out HB.out) | (with_reducible refine Kd.C_alloc ?_ _) | (with_reducible refine Kd.C_drewN ?_ _) | (with_reducible refine Kd.C_drew ?_))); (case aB => exact (by repeat (first | (with_reducible first | exact HB.out | apply below_alloc | apply pw_below_drewN | apply below_drew1) | exact HB.out))); (case aF => exact (fun k_ hk => Kd.fresh' (Kd.R_lt (by (with_reducible repeat (first | apply Kd.R_alloc | apply Kd.R_drewN | apply Kd.R_drew)); exact HO_7.out)) k_ hk)); (case aO => exact (by (with_reducible repeat (first | apply Kd.R_alloc | apply Kd.R_drewN | apply Kd.R_drew)); exact HO624.out)); (case aS => exact (below_size (by repeat (first | (with_reducible first | exact HB.out | apply below_alloc | apply pw_below_drewN | apply below_drew1) | exact HB.out)))); (case aL => have := LMc23.out; omega); intro v626 w68 ho hb hg hat; rw [← Ny625.out] at ho; have n0_ := Aside0.mk (Kd.R_after (ok := (fun _ => True)) (by (with_reducible repeat (first | apply Kd.R_alloc | apply Kd.R_drewN | apply Kd.R_drew)); exact HO_7.out) hg hat); have n1_ := Aside0.mk (hb); have n2_ := Aside0.mk (ho); clear HO_7; clear HB; clear HO624; have HO_7 := n0_; have HB := n1_; have HO627 := n2_; clear n0_ n1_ n2_; clear ho hb hg hat; obtain ⟨Ao69, co69, eo69⟩ := Kd.R_slice HO627.out; subst eo69) | ((with_reducible refine gate_callee (f := 34) rfl ?_); refine goesL_ (some 62) rfl rfl Try.func34 (by kernel_rfl) rfl #[.slice A0 l0.length c0, .slice Ao69 y625.length co69, .int .i64 (l1.length : Int)] rfl (by (try simp only [List.map_toArray, List.map_cons, List.map_nil]); first | done | rfl | (simp only [List.length_drop, List.length_take]; rfl)) ?_; (with_reducible refine (prefix_Decode.calls _ _ l0 _ _ y625 (l1.length : Int) t628 t629 t630 _ ?side1 ?side2 ?side3 ?side4 A24.out).mono ?_); (case side1 => repeat (first | exact (Kd.C_below HR0.out HB.out) | (with_reducible refine Kd.C_alloc ?_ _) | (with_reducible refine Kd.C_drewN ?_ _) | (with_reducible refine Kd.C_drew ?_))); (case side2 => exact HC0.out); (case side3 => repeat (first | exact (Kd.R_reads' HO627.out).2.2 | (with_reducible refine Kd.C_alloc ?_ _) | (with_reducible refine Kd.C_drewN ?_ _) | (with_reducible refine Kd.C_drew ?_))); (case side4 => exact (Kd.R_reads' HO627.out).2.1); rintro e w70 ⟨v631, rfl, ho0, hb⟩; refine ⟨_, rfl, ?_⟩; have n0_ := Aside0.mk (Kd.R_below (by (with_reducible repeat (first | apply Kd.R_alloc | apply Kd.R_drewN | apply Kd.R_drew)); exact HO_7.out) hb); have n1_ := Aside0.mk (Kd.R_below (by (with_reducible repeat (first | apply Kd.R_alloc | apply Kd.R_drewN | apply Kd.R_drew)); exact HO627.out) hb); have n2_ := Aside0.mk (Kd.R_lower ho0 (below_size (by repeat (first | (with_reducible first | exact HB.out | apply below_alloc | apply pw_below_drewN | apply below_drew1) | exact HB.out)))); have n3_ := Aside0.mk (below_step (by repeat (first | (with_reducible first | exact HB.out | apply below_alloc | apply pw_below_drewN | apply below_drew1) | exact HB.out)) hb); clear HO_7; clear HO627; clear HB; have HO_7 := n0_; have HO627 := n1_; have HO632 := n2_; have HB := n3_; clear n0_ n1_ n2_ n3_; (try clear hb); (try clear hb2); (try clear hk); (try clear hi); (try clear ho0))); go_ret; (exact ⟨by first | rfl | (simp [errW_none, errW_some] <;> rfl) | (simp [*, errW_none, errW_some] <;> rfl), by repeat (first | (with_reducible first | exact HB.out | apply below_alloc | apply pw_below_drewN | apply below_drew1) | exact HB.out)⟩))); (· rw [if_neg c23] at H; exact absurd H (by simp))); (· rw [if_neg c22] at H; exact absurd H (by simp)))
   (· rw [if_neg c8] at H; have c8b0 : (t609 == 0) = false := beq_eq_false_iff_ne.mpr c8; have c8b1 : (t609 != 0) = true := bne_iff_ne.mpr c8; by_cases c71 : (t608.length : Int) = 0; (· rw [if_pos c71] at H; have c71b0 : ((t608.length : Int) == 0) = true := beq_iff_eq.mpr c71; have c71b1 : ((t608.length : Int) != 0) = false := bne_eq_false_iff_eq.mpr c71; clear c71; replace H := Option.bind_eq_some_iff.mp H; obtain ⟨t612, A720, H⟩ := H; replace H : (some t612) = some r := H; have A72 := Aside0.mk A720; clear A720; obtain rfl := Option.some.inj H; go_enter Try.func12, Try.ntmps12; go_wp2_with (first | ((with_reducible refine gate_callee (f := 32) rfl ?_); refine goesL_ (some 23) rfl rfl Try.func32 (by kernel_rfl) rfl #[.slice A0 l0.length c0, .slice A1 l1.length c1] rfl (by (try simp only [List.map_toArray, List.map_cons, List.map_nil]); first | done | rfl | (simp only [List.length_drop, List.length_take]; rfl)) ?_; (with_reducible refine (prefix_Encode.calls k _ _ l0 _ _ l1 t608 t609 _ ?side1 ?side2 ?side3 ?side4 A7.out).mono ?_); (case side1 => repeat (first | exact HR0.out | (with_reducible refine Kd.C_alloc ?_ _) | (with_reducible refine Kd.C_drewN ?_ _) | (with_reducible refine Kd.C_drew ?_))); (case side2 => exact HC0.out); (case side3 => repeat (first | exact HR1.out | (with_reducible refine Kd.C_alloc ?_ _) | (with_reducible refine Kd.C_drewN ?_ _) | (with_reducible refine Kd.C_drew ?_))); (case side4 => exact HC1.out); rintro e w73 ⟨v610, rfl, ho0, hb⟩; refine ⟨_, rfl, ?_⟩; have n0_ := Aside0.mk (Kd.R_lower ho0 (below_size (by repeat (first | (with_reducible first | exact HB.out | apply below_alloc | apply pw_below_drewN | apply below_drew1) | exact HB.out)))); have n1_ := Aside0.mk (below_step (by repeat (first | (with_reducible first | exact HB.out | apply below_alloc | apply pw_below_drewN | apply below_drew1) | exact HB.out)) hb); clear HB; have HO611 := n0_; have HB := n1_; clear n0_ n1_; (try clear hb); (try clear hb2); (try clear hk); (try clear hi); (try clear ho0); obtain ⟨Ao74, co74, eo74⟩ := Kd.R_slice HO611.out; subst eo74) | (go_at_call 19; (with_reducible refine (incunablelaw04_Awake.calls k  t612 _ A72.out).mono ?_); rintro e w75 ⟨rfl, hb⟩; have n0_ := Aside0.mk (Kd.R_below (by (with_reducible repeat (first | apply Kd.R_alloc | apply Kd.R_drewN | apply Kd.R_drew)); exact HO611.out) hb); have n1_ := Aside0.mk (below_step (by repeat (first | (with_reducible first | exact HB.out | apply below_alloc | apply pw_below_drewN | apply below_drew1) | exact HB.out)) hb); clear HO611; clear HB; have HO611 := n0_; have HB := n1_; clear n0_ n1_; (try clear hb); (try clear hb2); (try clear hk); (try clear hi))); go_ret; (exact ⟨by first | rfl | (simp [errW_none, errW_some] <;> rfl) | (simp [*, errW_none, errW_some] <;> rfl), by repeat (first | (with_reducible first | exact HB.out | apply below_alloc | apply pw_below_drewN | apply below_drew1) | exact HB.out)⟩)); (· rw [if_neg c71] at H; have c71b0 : ((t608.length : Int) == 0) = false := beq_eq_false_iff_ne.mpr c71; have c71b1 : ((t608.length : Int) != 0) = true := bne_iff_ne.mpr c71; have c71b2 : ¬ (t608 = []) := fun h_ => c71 (by rw [h_]; rfl); obtain rfl := Option.some.inj H; go_enter Try.func12, Try.ntmps12; go_wp2_with (first | ((with_reducible refine gate_callee (f := 32) rfl ?_); refine goesL_ (some 23) rfl rfl Try.func32 (by kernel_rfl) rfl #[.slice A0 l0.length c0, .slice A1 l1.length c1] rfl (by (try simp only [List.map_toArray, List.map_cons, List.map_nil]); first | done | rfl | (simp only [List.length_drop, List.length_take]; rfl)) ?_; (with_reducible refine (prefix_Encode.calls k _ _ l0 _ _ l1 t608 t609 _ ?side1 ?side2 ?side3 ?side4 A7.out).mono ?_); (case side1 => repeat (first | exact HR0.out | (with_reducible refine Kd.C_alloc ?_ _) | (with_reducible refine Kd.C_drewN ?_ _) | (with_reducible refine Kd.C_drew ?_))); (case side2 => exact HC0.out); (case side3 => repeat (first | exact HR1.out | (with_reducible refine Kd.C_alloc ?_ _) | (with_reducible refine Kd.C_drewN ?_ _) | (with_reducible refine Kd.C_drew ?_))); (case side4 => exact HC1.out); rintro e w76 ⟨v610, rfl, ho0, hb⟩; refine ⟨_, rfl, ?_⟩; have n0_ := Aside0.mk (Kd.R_lower ho0 (below_size (by repeat (first | (with_reducible first | exact HB.out | apply below_alloc | apply pw_below_drewN | apply below_drew1) | exact HB.out)))); have n1_ := Aside0.mk (below_step (by repeat (first | (with_reducible first | exact HB.out | apply below_alloc | apply pw_below_drewN | apply below_drew1) | exact HB.out)) hb); clear HB; have HO611 := n0_; have HB := n1_; clear n0_ n1_; (try clear hb); (try clear hb2); (try clear hk); (try clear hi); (try clear ho0); obtain ⟨Ao77, co77, eo77⟩ := Kd.R_slice HO611.out; subst eo77)); go_ret; (exact ⟨by first | rfl | (simp [errW_none, errW_some] <;> rfl) | (simp [*, errW_none, errW_some] <;> rfl), by repeat (first | (with_reducible first | exact HB.out | apply below_alloc | apply pw_below_drewN | apply below_drew1) | exact HB.out)⟩)))
end Go.Proofs.Ytnadgcdkcabdoaa.U
namespace Go.Proofs.Ytnadgcdkcabdoaa.Opn
open Go Go.RowKit Go.Proofs.YtnadgcdkcabdoaaW.PrintWords Go.Proofs.YtnadgcdkcabdoaaW.PrintLast Go.Proofs.YtnadgcdkcabdoaaW.PrintMore Go.ChangeShapes Go.WideShapes
/-- The cells that the form reads at type t (with fuel N at the most) tell an element of the kind d, of which Wf holds. -/
structure OpensTo (P : Program) (N : Nat) {α : Type} (t : TypeId) (d : Kd α) (Wf : α → Prop) : Prop where
  sz : P.cellsOf t = d.sz
  op : ∀ {H : Type} {enc : TypeId × Value → H} {w : World} {fuel : Nat} {cs : List Value} {x : DataW H × List MemPlace}, fuel ≤ N → DataW.trod enc P w 0 (fun _ => true) true fuel t cs = some x → (∀ n ∈ x.1.weights P t, n ≤ reachBytes) → ∃ a : α, d.K w a cs ∧ Wf a
section
variable {P : Program} {N : Nat} {α β : Type} {t e : TypeId} {d : Kd α} {d' : Kd β} {Wf Wf2 : α → Prop} {Wf' : β → Prop}
theorem o_int {k : IntKind} (ht : P.underlying t = some (.int k)) (hc : P.cellsOf t = 1) : OpensTo P N t (Kd.int k) (fun n => (Lit.int k n).wf = true) := ⟨hc, fun _ hx _ => by
  obtain ⟨n, rfl, rfl, hw⟩ := DataW.trod_int ht hx
  exact ⟨n, rfl, hw⟩⟩
theorem o_bool (ht : P.underlying t = some .bool) (hc : P.cellsOf t = 1) : OpensTo P N t Kd.bool (fun _ => True) := ⟨hc, fun _ hx _ => by
  obtain ⟨n, rfl, rfl⟩ := DataW.trod_bool ht hx
  exact ⟨n, rfl, trivial⟩⟩
theorem o_iso {f : β → α} (g : α → β) (hg : ∀ a, f (g a) = a) (h : OpensTo P N t d Wf) : OpensTo P N t (Kd.iso d f) (fun x => Wf (f x)) := ⟨h.sz, fun hf hx hw => by
  obtain ⟨a, hk, hwf⟩ := h.op hf hx hw
  refine ⟨g a, ?_, ?_⟩
  · show d.K _ (f (g a)) _
    rw [hg]
    exact hk
  · rw [hg]
    exact hwf⟩
theorem pick_list {Q : Nat → α → Prop} : ∀ n : Nat, (∀ i, i < n → ∃ p, Q i p) → ∃ xs : List α, xs.length = n ∧ ∀ i p, xs[i]? = some p → Q i p
  | 0, _ => ⟨[], rfl, fun i p h => by simp at h⟩
  | n + 1, h => by
    obtain ⟨xs, hl, hq⟩ := pick_list n (fun i hi => h i (by omega))
    obtain ⟨p, hp⟩ := h n (by omega)
    refine ⟨xs ++ [p], by simp [hl], fun i q hi => ?_⟩
    rcases Nat.lt_or_ge i n with c | c
    · rw [List.getElem?_append_left (by omega)] at hi
      exact hq i q hi
    · rw [List.getElem?_append_right (by omega)] at hi
      obtain rfl : i = n := by
        have := (List.getElem?_eq_some_iff.1 hi).1
        simp at this
        omega
      simp [hl] at hi
      subst hi
      exact hp
theorem add_add' (a : Addr) (i j : Nat) : (a.add i).add j = a.add (i + j) := by
  unfold Addr.add
  by_cases h1 : i = 0 <;> by_cases h2 : j = 0 <;> simp [h1, h2, Nat.add_assoc]
theorem weights_all {H : Type} {e : TypeId} : ∀ {l : List (DataW H)} {y : DataW H}, y ∈ l → ∀ n ∈ y.weights P e, n ∈ DataW.weightsAll P e l
  | x :: l, y, hy, n, hn => by
    unfold DataW.weightsAll
    rcases List.mem_cons.1 hy with rfl | hy
    · exact List.mem_append.2 (.inl hn)
    · exact List.mem_append.2 (.inr (weights_all hy n hn))
theorem o_slice (hu : P.underlying t = some (.slice e)) (hc : P.cellsOf t = 1) (he : OpensTo P N e d Wf) {B : Nat} (hB : P.bytesOf e = B) :
    OpensTo P (N + 1) t (Kd.slice e d) (fun l => l.length * B ≤ 140737488351232 ∧ ∀ x ∈ l, Wf x) := ⟨hc, fun {H enc w fuel cs x} hf hx hw => by
  rcases DataW.trod_slice hu hx with ⟨rfl, rfl⟩ | ⟨a, len, cap, elems, rest, n, hfn, rfl, rfl, _, hl, hm, hlen, hel, _, _⟩
  · exact ⟨[], ⟨none, 0, rfl, Nat.le_refl _, Kd.C_nil d w⟩, by simp, fun x hx => by simp at hx⟩
  · have hq : ∀ i, i < len → ∃ p : α, (∃ cs', w.cells? 0 (a.add (i * P.cellsOf e)) (P.cellsOf e) = some cs' ∧ d.K w p cs') ∧ Wf p := by
      intro i hi
      have h1 := hel i hi
      obtain ⟨y, hy⟩ : ∃ y, elems[i]? = some y := ⟨_, List.getElem?_eq_getElem (by omega)⟩
      rw [hy, Option.bind_eq_some_iff] at h1
      obtain ⟨cs', hcs, h2⟩ := h1
      obtain ⟨p, hk, hwf⟩ := he.op (by omega) h2 (fun m hm' => hw m (by
        unfold DataW.weights
        rw [hu]
        refine List.mem_cons.2 (.inr (List.mem_append.2 (.inl (weights_all (y := y.1) ?_ m hm'))))
        exact List.mem_map.2 ⟨y, List.mem_of_getElem? hy, rfl⟩))
      exact ⟨p, ⟨cs', hcs, hk⟩, hwf⟩
    obtain ⟨xs, hxl, hxs⟩ := pick_list len hq
    have hcap : cap ≤ 9223372036854775807 := by simpa [maxLen] using hm
    refine ⟨xs, ⟨some a, cap, by rw [hxl], by omega, rfl, by omega, fun _ => ⟨a, rfl, fun j p hj => ?_⟩⟩, ?_, fun x hx => ?_⟩
    · obtain ⟨⟨cs', hcs, hk⟩, _⟩ := hxs j p hj
      obtain ⟨_, hl2, hcell⟩ := World.cells?_some hcs
      refine ⟨cs', d.K_len hk, hk, fun i u hi => ?_⟩
      have h3 := hcell i (by rw [← hl2]; exact (List.getElem?_eq_some_iff.1 hi).1)
      rw [add_add', he.sz, hi] at h3
      exact h3
    · have h4 := hw ((elems.length + rest.length) * P.bytesOf e) (by
        unfold DataW.weights
        rw [hu]
        simp)
      have h5 : len * B ≤ (elems.length + rest.length) * B := Nat.mul_le_mul_right _ (by omega)
      rw [hB] at h4
      rw [hxl]
      exact Nat.le_trans h5 h4
    · obtain ⟨i, hi⟩ := List.getElem?_of_mem hx
      exact (hxs i x hi).2⟩
/-- The same for a struct's fields from offset o on. -/
structure OpensF (P : Program) (N : Nat) {α : Type} (fs : List Field) (o : Nat) (d : Kd α) (Wf : α → Prop) : Prop where
  op : ∀ {H : Type} {enc : TypeId × Value → H} {w : World} {fuel : Nat} {cs : List Value} {xs : List (DataW H × List MemPlace)}, fuel ≤ N → cs.length = o + d.sz → xs.length = fs.length →
    (∀ (i : Nat) (f : Field), fs[i]? = some f → DataW.trod enc P w 0 (fun _ => true) true fuel f.type ((cs.drop f.offset).take (P.cellsOf f.type)) = xs[i]?) →
    (∀ n ∈ DataW.weightsEach P (fs.map (·.type)) (xs.map (·.1)), n ≤ reachBytes) → ∃ a : α, d.K w a (cs.drop o) ∧ Wf a
theorem f_one {f : Field} {o : Nat} (ho : f.offset = o) (h : OpensTo P N f.type d Wf) : OpensF P N [f] o d Wf := ⟨by
  intro H enc w fuel cs xs hf hl hxl hx hw
  match xs, hxl with
  | [x], _ =>
    have h1 := hx 0 f rfl
    rw [ho, h.sz, List.take_of_length_le (by rw [List.length_drop]; omega)] at h1
    exact h.op hf h1 (fun n hn => hw n (by simp [DataW.weightsEach, hn]))⟩
theorem f_cons {f : Field} {fs : List Field} {o : Nat} (ho : f.offset = o) (h : OpensTo P N f.type d Wf) (hs : OpensF P N fs (o + d.sz) d' Wf') : OpensF P N (f :: fs) o (Kd.pair d d') (fun x => Wf x.1 ∧ Wf' x.2) := ⟨by
  intro H enc w fuel cs xs hf hl hxl hx hw
  match xs, hxl with
  | x :: xs, hxl =>
    have hl' : cs.length = o + (d.sz + d'.sz) := hl
    have h1 := hx 0 f rfl
    rw [ho, h.sz] at h1
    obtain ⟨a, hk, hwf⟩ := h.op hf h1 (fun n hn => hw n (by simp [DataW.weightsEach, hn]))
    obtain ⟨b, hk', hwf'⟩ := hs.op (xs := xs) hf (by rw [hl']; omega) (by simpa using hxl) (fun i g hg => by simpa using hx (i + 1) g (by simpa using hg)) (fun n hn => hw n (by
      simp only [List.map_cons, DataW.weightsEach]
      exact List.mem_append.2 (.inr hn)))
    refine ⟨(a, b), ⟨_, _, ?_, hk, hk'⟩, hwf, hwf'⟩
    rw [← List.drop_drop, List.take_append_drop]⟩
theorem o_struct {fs : Array Field} (hu : P.underlying t = some (.struct fs)) (hc : P.cellsOf t = d.sz) (h : OpensF P N fs.toList 0 d Wf) : OpensTo P (N + 1) t d Wf := ⟨hc, fun {H enc w fuel cs x} hf hx hw => by
  obtain ⟨xs, n, hfn, rfl, hl, hxl, hel⟩ := DataW.trod_struct hu hx
  have := h.op (xs := xs) (cs := cs) (w := w) (enc := enc) (fuel := n) (by omega) (by rw [hl, hc, Nat.zero_add]) (by simpa using hxl) (fun i f hf' => hel i f (by simpa using hf')) (fun m hm => hw m (by
    unfold DataW.weights
    rw [hu]
    exact hm))
  simpa using this⟩
/-- A row's argument that is read whole: at whatever fuel. -/
theorem open_arg {H : Type} {enc : TypeId × Value → H} {W : World} {v : Value} {x : DataW H} {p : List MemPlace} {ts : List TypeId} {ds : List (DataW H)} {j : Nat} (ho : ∀ n, OpensTo P (n + N) t d Wf)
    (h : DataW.Trod enc P W 0 (fun _ => true) true t v x p) (hsz : (DataW.weightsEach P ts ds).all (· ≤ reachBytes) = true) (ht : ts[j]? = some t) (hd : ds[j]? = some x) : ∃ a : α, d.K W a v.cells.toList ∧ Wf a := by
  obtain ⟨fuel, hf⟩ := h
  refine (ho fuel).op (by omega) hf (fun n hn => ?_)
  have := List.all_eq_true.1 hsz n (DataW.weights_mem_each ht hd n hn)
  simpa using this
end
end Go.Proofs.Ytnadgcdkcabdoaa.Opn
namespace Go.Proofs.Ytnadgcdkcabdoaa.U
open Go.RowKit Go.Proofs.YtnadgcdkcabdoaaW.PrintWords Go.Proofs.YtnadgcdkcabdoaaW.PrintLast Go.Proofs.YtnadgcdkcabdoaaW.PrintMore
attribute [local go_sem] max2_int min2_int max_two min_two max_three min_three max_four min_four   -- for this text's walks alone
def incunableref02_SameBytes.l0 : Nat → List Int → List Int → Int → Int → Option (Bool)
  | 0, _, _, _, _ => none
  | k + 1, x0, x1, x12, x13 => if x13 < x12 then (if 0 ≤ x13 then (if x13 < (x0.length : Int) then (if x13 < (x1.length : Int) then (if (rd x0 x13) = (rd x1 x13) then (incunableref02_SameBytes.l0 k x0 x1 x12 (wrap64 (x13 + 1))) else (some false)) else (none)) else (none)) else (none)) else (some true)
def incunableref02_SameBytes.f (k : Nat) (l0 : List Int) (l1 : List Int) : Option (Bool) := if (l0.length : Int) = (l1.length : Int) then (incunableref02_SameBytes.l0 k l0 l1 (l0.length : Int) 0) else (some false)
theorem incunableref02_SameBytes.mono_l : ∀ k, (∀ y0 y1 y2 y3, LeO (incunableref02_SameBytes.l0 k y0 y1 y2 y3) (incunableref02_SameBytes.l0 (k + 1) y0 y1 y2 y3))
  | 0 => fun _ _ _ _ r h => by simp [incunableref02_SameBytes.l0] at h
  | k + 1 => by
    have ih0 := incunableref02_SameBytes.mono_l k
    · intro y0 y1 y2 y3
      unfold incunableref02_SameBytes.l0
      repeat' first
      | (with_reducible exact ih0 _ _ _ _)
      | (with_reducible exact LeO.refl _)
      | (with_reducible exact LeO.none _)
      | (with_reducible refine LeO.ite ?_ ?_)
      | (with_reducible refine LeO.bind ?_ (fun _ => ?_))
      | exact ih0 _ _ _ _
      | exact LeO.none _
      | refine LeO.ite ?_ ?_
      | refine LeO.bind ?_ (fun _ => ?_)
theorem incunableref02_SameBytes.mono : ∀ a0 a1 k, LeO (incunableref02_SameBytes.f k a0 a1) (incunableref02_SameBytes.f (k + 1) a0 a1) := by
 intro a0 a1 k; have ih0 := incunableref02_SameBytes.mono_l k; unfold incunableref02_SameBytes.f
 repeat' first
  | (with_reducible exact ih0 _ _ _ _)
  | (with_reducible exact LeO.refl _)
  | (with_reducible exact LeO.none _)
  | (with_reducible refine LeO.ite ?_ ?_)
  | (with_reducible refine LeO.bind ?_ (fun _ => ?_))
  | exact ih0 _ _ _ _
  | exact LeO.none _
  | refine LeO.ite ?_ ?_
  | refine LeO.bind ?_ (fun _ => ?_)
end Go.Proofs.Ytnadgcdkcabdoaa.U
namespace Go.Proofs.Ytnadgcdkcabdoaa.Cdb
open Go Go.RowKit Go.Proofs.YtnadgcdkcabdoaaW.PrintWords Go.Proofs.YtnadgcdkcabdoaaW.PrintLast Go.Proofs.YtnadgcdkcabdoaaW.PrintMore Go.Proofs.Ytnadgcdkcabdoaa.Aid Go.Proofs.Ytnadgcdkcabdoaa.U Go.Proofs.Ytnadgcdkcabdoaa.Tab Go.Proofs.Ytnadgcdkcabdoaa.Cdx Go.Proofs.Ytnadgcdkcabdoaa.Cdy Go.Proofs.Ytnadgcdkcabdoaa.Cdz
abbrev wf64 (n : Int) : Prop := -9223372036854775808 ≤ n ∧ n ≤ 9223372036854775807
theorem line_loop (t : List Ln) (hv : vldP t) (nn : Bool) (n : Int) (hn : wf64 n) : ∀ (d i : Nat), i + d = t.length →
    Ev (fun k => prefix_line.l0 k t (enc (pick t nn n i)) (encD t nn n (pick t nn n i)) t (t.length : Int) (i : Int) nn n) (enc (pick t nn n t.length), encD t nn n (pick t nn n t.length))
  | 0, i, hd => by
    refine ev_succ ?_
    simp only [prefix_line.l0]
    refine ev_neg (by omega) (ev_eq (Ev.now _) ?_)
    rw [show i = t.length by omega]
  | d + 1, i, hd => by
    have hi : i < t.length := by omega
    have ht := hv.1
    have hl := hv.2.1 _ (rdL_mem hi)
    have hl2 := of_decide_eq_true hl
    obtain ⟨v, hve, hvi⟩ := offset_ev _ nn n hl hn
    have ih := line_loop t hv nn n hn d (i + 1) (by omega)
    have hlt := pick_lt t nn n i
    refine ev_succ ?_
    simp only [prefix_line.l0]
    rw [wrap_id (n := (i : Int) + 1) (by omega) (by omega)]
    refine ev_pos (by omega) (ev_pos (by omega) (ev_pos (by omega) (ev_bind hve ?_)))
    dsimp only
    have stay : ¬ (inB (rd_T32 t (i : Int)) nn n = true ∧ (rd_T32 t (i : Int)).f0 > 0 ∧ (∀ b, pick t nn n i = some b → (rd_T32 t (i : Int)).f0 + (rd_T32 t (i : Int)).f1 < (rd_T32 t (b : Int)).f0 + (rd_T32 t (b : Int)).f1)) →
        Ev (fun k => prefix_line.l0 k t (enc (pick t nn n i)) (encD t nn n (pick t nn n i)) t (t.length : Int) ((i : Int) + 1) nn n) (enc (pick t nn n t.length), encD t nn n (pick t nn n t.length)) := fun h => by
      have e : pick t nn n (i + 1) = pick t nn n i := if_neg h
      rw [e] at ih
      exact ih
    have take : (inB (rd_T32 t (i : Int)) nn n = true ∧ (rd_T32 t (i : Int)).f0 > 0 ∧ (∀ b, pick t nn n i = some b → (rd_T32 t (i : Int)).f0 + (rd_T32 t (i : Int)).f1 < (rd_T32 t (b : Int)).f0 + (rd_T32 t (b : Int)).f1)) →
        Ev (fun k => prefix_line.l0 k t (i : Int) v t (t.length : Int) ((i : Int) + 1) nn n) (enc (pick t nn n t.length), encD t nn n (pick t nn n t.length)) := fun h => by
      have e : pick t nn n (i + 1) = some i := if_pos h
      rw [e] at ih
      rw [hvi h.1]
      exact ih
    by_cases c1 : inB (rd_T32 t (i : Int)) nn n = true
    · refine ev_pos c1 ?_
      by_cases c2 : (rd_T32 t (i : Int)).f0 > 0
      · refine ev_pos c2 ?_
        cases hp : pick t nn n i with
        | none =>
          rw [hp] at take
          exact ev_pos (show enc none < 0 by decide) (take ⟨c1, c2, fun b hb => by simp at hb⟩)
        | some b =>
          rw [hp] at take stay
          have hb := hlt b hp
          have hbl := of_decide_eq_true (hv.2.1 _ (rdL_mem (show b < t.length by omega)))
          show Ev (fun k => if (b : Int) < 0 then _ else _) _
          refine ev_neg (by omega) (ev_pos (show (0 : Int) ≤ (b : Int) by omega) (ev_pos (show (b : Int) < (t.length : Int) by omega) ?_))
          show Ev (fun k => if wrap64 ((rd_T32 t (i : Int)).f0 + (rd_T32 t (i : Int)).f1) < wrap64 ((rd_T32 t (b : Int)).f0 + (rd_T32 t (b : Int)).f1) then _ else _) _
          rw [wrap_id (n := (rd_T32 t (i : Int)).f0 + (rd_T32 t (i : Int)).f1) (by omega) (by omega), wrap_id (n := (rd_T32 t (b : Int)).f0 + (rd_T32 t (b : Int)).f1) (by omega) (by omega)]
          by_cases c3 : (rd_T32 t (i : Int)).f0 + (rd_T32 t (i : Int)).f1 < (rd_T32 t (b : Int)).f0 + (rd_T32 t (b : Int)).f1
          · exact ev_pos c3 (take ⟨c1, c2, fun b' hb' => by injection hb' with hb'; subst hb'; exact c3⟩)
          · exact ev_neg c3 (stay (fun h => c3 (h.2.2 b rfl)))
      · exact ev_neg c2 (stay (fun h => c2 h.2.1))
    · exact ev_neg c1 (stay (fun h => c1 h.1))
theorem line_ev (t : List Ln) (hv : vldP t) (nn : Bool) (n : Int) (hn : wf64 n) : Ev (fun k => prefix_line.f k t nn n) (enc (pick t nn n t.length), encD t nn n (pick t nn n t.length)) := by
  unfold prefix_line.f
  exact line_loop t hv nn n hn t.length 0 (by omega)
/-- A number's bits. -/
def bitsR (t : List Ln) (nn : Bool) (n : Int) : Option (List Int) := (pick t nn n t.length).map fun b => digs (cnum t b) (len t b).toNat ++ digs (offV (rd_T32 t (b : Int)) nn n) (rd_T32 t (b : Int)).f1.toNat
theorem pow20 : ∀ n, n < 21 → (2 : Int) ^ n ≤ 1048576 := by decide
theorem offV_range {x : Ln} {nn : Bool} {n : Int} (hl : lineB x = true) (h : inB x nn n = true) : 0 ≤ offV x nn n ∧ offV x nn n ≤ 1048576 := by
  have h2 := of_decide_eq_true hl
  unfold offV inB at *
  by_cases c : nn = true ∨ x.f3 = 2
  · rw [if_pos c]; omega
  · rw [if_neg c] at h ⊢
    have h1 := of_decide_eq_true h
    have := pow20 x.f1.toNat (by omega)
    omega
theorem cnum_range (t : List Ln) (hv : vldP t) (i : Nat) : 0 ≤ cnum t i ∧ cnum t i ≤ 32768 := by
  have hF := front_range (L := len t i) t i hv.2.1
  have := div_pos_le hF.1 (15 - len t i).toNat
  have := hv.2.2.2.2
  unfold cnum
  omega
theorem put_ev (t : List Ln) (hv : vldP t) (nn : Bool) (n : Int) (hn : wf64 n) : Ev (fun k => prefix_put.f k t (codesL t) nn n) (match bitsR t nn n with | none => ([], 5) | some b => (b, 0)) := by
  have ht := hv.1
  unfold prefix_put.f bitsR
  refine ev_bind (line_ev t hv nn n hn) ?_
  dsimp only
  cases hp : pick t nn n t.length with
  | none => exact ev_pos (show enc none < 0 by decide) (Ev.now _)
  | some b =>
    have hb := pick_lt t nn n _ b hp
    have hl := hv.2.1 _ (rdL_mem hb.1)
    have hbl := of_decide_eq_true hl
    have ho := offV_range hl hb.2.1
    have hc := cnum_range t hv b
    have hlen : len t b = (rd_T32 t (b : Int)).f0 := rfl
    have hat := codesL_at t hv b hb.1
    rw [if_neg (by omega)] at hat
    refine ev_neg (show ¬ ((b : Int) < 0) by omega) (ev_pos (show (0 : Int) ≤ (b : Int) by omega) (ev_pos (show (b : Int) < ((codesL t).length : Int) by rw [codesL_len]; omega) ?_))
    show Ev (fun k => (prefix_digits.f k (rd_T84 (codesL t) (b : Int)).f0 (rd_T84 (codesL t) (b : Int)).f1).bind _) _
    rw [hat]
    have h1 := pdig_ev (cnum t b) (len t b).toNat hc.1 (by omega) (by omega)
    rw [Int.toNat_of_nonneg (show 0 ≤ len t b by omega)] at h1
    refine ev_bind h1 (ev_pos (show (b : Int) < (t.length : Int) by omega) ?_)
    have h2 := pdig_ev (offV (rd_T32 t (b : Int)) nn n) (rd_T32 t (b : Int)).f1.toNat ho.1 (by omega) (by omega)
    rw [Int.toNat_of_nonneg (show 0 ≤ (rd_T32 t (b : Int)).f1 by omega)] at h2
    refine ev_bind h2 (ev_pos ?_ (Ev.now _))
    rw [digs_len, digs_len]
    omega
theorem pbits_ev (t : List Ln) (nn : Bool) (n : Int) (hn : wf64 n) : Ev (fun k => prefix_Bits.f k t nn n) (if vldP t then (match bitsR t nn n with | none => ([], 5) | some b => (b, 0)) else ([], 20)) := by
  unfold prefix_Bits.f
  by_cases c : vldP t
  · rw [if_pos c]
    exact ev_bind (ev_eq (pvalid_ev t) (decide_eq_true c)) (ev_pos rfl (ev_bind (codes_ev t c) (ev_bind (put_ev t c nn n hn) (Ev.now _))))
  · rw [if_neg c]
    exact ev_bind (ev_eq (pvalid_ev t) (decide_eq_false c)) (ev_neg (by decide) (Ev.now _))
theorem bitsR_len {t : List Ln} {nn : Bool} {n : Int} {b : List Int} (hv : vldP t) (h : bitsR t nn n = some b) : b.length ≤ 35 := by
  unfold bitsR at h
  cases hp : pick t nn n t.length with
  | none => rw [hp] at h; simp at h
  | some j =>
    rw [hp] at h
    simp only [Option.map_some, Option.some.injEq] at h
    have hb := pick_lt t nn n _ j hp
    have hbl := of_decide_eq_true (hv.2.1 _ (rdL_mem hb.1))
    have hlen : len t j = (rd_T32 t (j : Int)).f0 := rfl
    rw [← h, List.length_append, digs_len, digs_len]
    omega
end Go.Proofs.Ytnadgcdkcabdoaa.Cdb
namespace Go.Proofs.Ytnadgcdkcabdoaa.U
open Go.RowKit Go.Proofs.YtnadgcdkcabdoaaW.PrintWords Go.Proofs.YtnadgcdkcabdoaaW.PrintLast Go.Proofs.YtnadgcdkcabdoaaW.PrintMore
attribute [local go_sem] max2_int min2_int max_two min_two max_three min_three max_four min_four   -- for this text's walks alone
def incunableref04_Packed.l0 : Nat → List Int → List Int → Int → Int → Option (List Int)
  | 0, _, _, _, _ => none
  | k + 1, x3, x11, x12, x13 => if x13 < x12 then (if 0 ≤ x13 then (if x13 < (x11.length : Int) then (if 0 ≤ (wrap64 (Int.tdiv x13 8)) then (if (wrap64 (Int.tdiv x13 8)) < (x3.length : Int) then (if 0 ≤ (wrap64 (7 - (Int.tmod x13 8))) then (incunableref04_Packed.l0 k (x3.set ((wrap64 (Int.tdiv x13 8)) : Int).toNat (((rd x3 (wrap64 (Int.tdiv x13 8))) + (shl .u8 (rd x11 x13) (wrap64 (7 - (Int.tmod x13 8))))) % 256)) x11 x12 (wrap64 (x13 + 1))) else (none)) else (none)) else (none)) else (none)) else (none)) else (some x3)
def incunableref04_Packed.f (k : Nat) (l0 : List Int) : Option (List Int) := if 0 ≤ (wrap64 (Int.tdiv (wrap64 ((l0.length : Int) + 7)) 8)) then (if (wrap64 (Int.tdiv (wrap64 ((l0.length : Int) + 7)) 8) : Int).toNat ≤ 281474976710656 then (incunableref04_Packed.l0 k (List.replicate (wrap64 (Int.tdiv (wrap64 ((l0.length : Int) + 7)) 8) : Int).toNat 0) l0 (l0.length : Int) 0) else (none)) else (none)
theorem incunableref04_Packed.mono_l : ∀ k, (∀ y0 y1 y2 y3, LeO (incunableref04_Packed.l0 k y0 y1 y2 y3) (incunableref04_Packed.l0 (k + 1) y0 y1 y2 y3))
  | 0 => fun _ _ _ _ r h => by simp [incunableref04_Packed.l0] at h
  | k + 1 => by
    have ih0 := incunableref04_Packed.mono_l k
    · intro y0 y1 y2 y3
      unfold incunableref04_Packed.l0
      repeat' first
      | (with_reducible exact ih0 _ _ _ _)
      | (with_reducible exact LeO.refl _)
      | (with_reducible exact LeO.none _)
      | (with_reducible refine LeO.ite ?_ ?_)
      | (with_reducible refine LeO.bind ?_ (fun _ => ?_))
      | exact ih0 _ _ _ _
      | exact LeO.none _
      | refine LeO.ite ?_ ?_
      | refine LeO.bind ?_ (fun _ => ?_)
theorem incunableref04_Packed.mono : ∀ a0 k, LeO (incunableref04_Packed.f k a0) (incunableref04_Packed.f (k + 1) a0) := by
 intro a0 k; have ih0 := incunableref04_Packed.mono_l k; unfold incunableref04_Packed.f
 repeat' first
  | (with_reducible exact ih0 _ _ _ _)
  | (with_reducible exact LeO.refl _)
  | (with_reducible exact LeO.none _)
  | (with_reducible refine LeO.ite ?_ ?_)
  | (with_reducible refine LeO.bind ?_ (fun _ => ?_))
  | exact ih0 _ _ _ _
  | exact LeO.none _
  | refine LeO.ite ?_ ?_
  | refine LeO.bind ?_ (fun _ => ?_)
end Go.Proofs.Ytnadgcdkcabdoaa.U
namespace Go.Proofs.Ytnadgcdkcabdoaa.U
open Go.RowKit Go.Proofs.YtnadgcdkcabdoaaW.PrintWords Go.Proofs.YtnadgcdkcabdoaaW.PrintLast Go.Proofs.YtnadgcdkcabdoaaW.PrintMore
attribute [local go_sem] max2_int min2_int max_two min_two max_three min_three max_four min_four   -- for this text's walks alone
def incunableref04_Encode.l0 : Nat → List (S32) → List (S48) → List Int → List (S48) → Int → Int → Option (List Int × Int)
  | 0, _, _, _, _, _, _ => none
  | k + 1, x0, x1, x6, x14, x15, x16 => if x16 < x15 then (if 0 ≤ x16 then (if x16 < (x14.length : Int) then ((incunableref04_Bits.f k x0 ((rd_T48 x14 x16).f0) ((rd_T48 x14 x16).f1)).bind fun bt546 => (if bt546.2 = true then (if (x1.length : Int) ≤ 20000 then (if x6.length + bt546.1.length < 140737488355328 then (incunableref04_Encode.l0 k x0 x1 (x6 ++ bt546.1) x14 x15 (wrap64 (x16 + 1))) else (none)) else (incunableref04_Encode.l0 k x0 x1 x6 x14 x15 (wrap64 (x16 + 1)))) else (some (([] : List Int), 5)))) else (none)) else (none)) else (if (x1.length : Int) > 20000 then (some (([] : List Int), 4)) else ((incunableref04_Packed.f k x6).bind fun t541 => (some (t541, 0))))
def incunableref04_Encode.f (k : Nat) (l0 : List (S32)) (l1 : List (S48)) : Option (List Int × Int) := (incunableref04_Valid.f k l0).bind fun t540 => (if t540 = true then (incunableref04_Encode.l0 k l0 l1 ([] : List Int) l1 (l1.length : Int) 0) else (some (([] : List Int), 20)))
theorem incunableref04_Encode.mono_l : ∀ k, (∀ y0 y1 y2 y3 y4 y5, LeO (incunableref04_Encode.l0 k y0 y1 y2 y3 y4 y5) (incunableref04_Encode.l0 (k + 1) y0 y1 y2 y3 y4 y5))
  | 0 => fun _ _ _ _ _ _ r h => by simp [incunableref04_Encode.l0] at h
  | k + 1 => by
    have ih0 := incunableref04_Encode.mono_l k
    · intro y0 y1 y2 y3 y4 y5
      unfold incunableref04_Encode.l0
      repeat' first
      | (with_reducible exact ih0 _ _ _ _ _ _)
      | (with_reducible exact incunableref04_Bits.mono _ _ _ _)
      | (with_reducible exact incunableref04_Packed.mono _ _)
      | (with_reducible exact incunableref04_Valid.mono _ _)
      | (with_reducible exact LeO.refl _)
      | (with_reducible exact LeO.none _)
      | (with_reducible refine LeO.ite ?_ ?_)
      | (with_reducible refine LeO.bind ?_ (fun _ => ?_))
      | exact ih0 _ _ _ _ _ _
      | exact incunableref04_Bits.mono _ _ _ _
      | exact incunableref04_Packed.mono _ _
      | exact incunableref04_Valid.mono _ _
      | exact LeO.none _
      | refine LeO.ite ?_ ?_
      | refine LeO.bind ?_ (fun _ => ?_)
theorem incunableref04_Encode.mono : ∀ a0 a1 k, LeO (incunableref04_Encode.f k a0 a1) (incunableref04_Encode.f (k + 1) a0 a1) := by
 intro a0 a1 k; have ih0 := incunableref04_Encode.mono_l k; unfold incunableref04_Encode.f
 repeat' first
  | (with_reducible exact ih0 _ _ _ _ _ _)
  | (with_reducible exact incunableref04_Bits.mono _ _ _ _)
  | (with_reducible exact incunableref04_Packed.mono _ _)
  | (with_reducible exact incunableref04_Valid.mono _ _)
  | (with_reducible exact LeO.refl _)
  | (with_reducible exact LeO.none _)
  | (with_reducible refine LeO.ite ?_ ?_)
  | (with_reducible refine LeO.bind ?_ (fun _ => ?_))
  | exact ih0 _ _ _ _ _ _
  | exact incunableref04_Bits.mono _ _ _ _
  | exact incunableref04_Packed.mono _ _
  | exact incunableref04_Valid.mono _ _
  | exact LeO.none _
  | refine LeO.ite ?_ ?_
  | refine LeO.bind ?_ (fun _ => ?_)
end Go.Proofs.Ytnadgcdkcabdoaa.U
namespace Go.Proofs.Ytnadgcdkcabdoaa.Ckp
open Go Go.RowKit Go.Proofs.YtnadgcdkcabdoaaW.PrintWords Go.Proofs.YtnadgcdkcabdoaaW.PrintLast Go.Proofs.YtnadgcdkcabdoaaW.PrintMore Go.Proofs.Ytnadgcdkcabdoaa.Aid Go.Proofs.Ytnadgcdkcabdoaa.U Go.Proofs.Ytnadgcdkcabdoaa.Tab Go.Proofs.Ytnadgcdkcabdoaa.Cdx Go.Proofs.Ytnadgcdkcabdoaa.Cdy Go.Proofs.Ytnadgcdkcabdoaa.Cdz Go.Proofs.Ytnadgcdkcabdoaa.Cdb
def gb (c p v : Int) : Int := if p < c then v else 0
theorem gb_step {c p : Int} (v : Int) (h : p ≠ c) : gb (c + 1) p v = gb c p v := by
  unfold gb
  by_cases h1 : p < c
  · rw [if_pos h1, if_pos (by omega)]
  · rw [if_neg h1, if_neg (by omega)]
theorem gb_out {c p : Int} (v : Int) (h : c ≤ p) : gb c p v = 0 := if_neg (by omega)
theorem gb_in {c p : Int} (v : Int) (h : p < c) : gb c p v = v := if_pos h
theorem gb_bit {c p v : Int} (h : 0 ≤ v ∧ v ≤ 1) : 0 ≤ gb c p v ∧ gb c p v ≤ 1 := by
  unfold gb
  split <;> omega
/-- The byte j of the first c bits, packed. -/
def packByte (l : List Int) (c j : Int) : Int :=
  gb c (8 * j) (rd l (8 * j)) * 128 + gb c (8 * j + 1) (rd l (8 * j + 1)) * 64 + gb c (8 * j + 2) (rd l (8 * j + 2)) * 32 + gb c (8 * j + 3) (rd l (8 * j + 3)) * 16 +
  gb c (8 * j + 4) (rd l (8 * j + 4)) * 8 + gb c (8 * j + 5) (rd l (8 * j + 5)) * 4 + gb c (8 * j + 6) (rd l (8 * j + 6)) * 2 + gb c (8 * j + 7) (rd l (8 * j + 7))
def packUpTo (l : List Int) (c : Int) (m : Nat) : List Int := (List.range m).map fun (j : Nat) => packByte l c (j : Int)
/-- A list of bits. -/
def Bits (l : List Int) : Prop := ∀ x ∈ l, 0 ≤ x ∧ x ≤ 1
theorem bits_rd {l : List Int} (h : Bits l) (i : Int) (h0 : 0 ≤ i) : 0 ≤ rd l i ∧ rd l i ≤ 1 := by
  by_cases c : i < l.length
  · exact h _ (rd_mem h0 c)
  · rw [rd_nonneg_out (by omega)]; omega
theorem packByte_zero (l : List Int) (j : Int) (h : 0 ≤ j) : packByte l 0 j = 0 := by
  unfold packByte
  simp (disch := omega) only [gb_out]
  omega
theorem packByte_far (l : List Int) (c j : Int) (h : c < 8 * j ∨ 8 * j + 8 ≤ c) : packByte l (c + 1) j = packByte l c j := by
  unfold packByte
  simp (disch := omega) only [gb_step]
/-- One more bit: what stands there is a number with zeros behind, to which the bit is added. -/
theorem packByte_step (l : List Int) (hl : Bits l) (c j t : Int) (hj : 0 ≤ j) (hc : c = 8 * j + t) (h0 : 0 ≤ t) (h1 : t ≤ 7) :
    packByte l (c + 1) j = packByte l c j + rd l c * 2 ^ (7 - t).toNat ∧ 0 ≤ packByte l c j ∧ packByte l c j < 256 ∧ packByte l c j % 2 ^ (8 - t).toNat = 0 ∧ rd l c * 2 ^ (7 - t).toNat < 2 ^ (8 - t).toNat ∧ rd l c * 2 ^ (7 - t).toNat < 256 ∧ packByte l c j + rd l c * 2 ^ (7 - t).toNat < 256 := by
  have b0 := bits_rd hl (8 * j) (by omega)
  have b1 := bits_rd hl (8 * j + 1) (by omega)
  have b2 := bits_rd hl (8 * j + 2) (by omega)
  have b3 := bits_rd hl (8 * j + 3) (by omega)
  have b4 := bits_rd hl (8 * j + 4) (by omega)
  have b5 := bits_rd hl (8 * j + 5) (by omega)
  have b6 := bits_rd hl (8 * j + 6) (by omega)
  have b7 := bits_rd hl (8 * j + 7) (by omega)
  have ht : t = 0 ∨ t = 1 ∨ t = 2 ∨ t = 3 ∨ t = 4 ∨ t = 5 ∨ t = 6 ∨ t = 7 := by omega
  rcases ht with rfl | rfl | rfl | rfl | rfl | rfl | rfl | rfl <;> subst hc <;> unfold packByte <;>
    simp (disch := omega) only [gb_out, gb_in, Int.add_zero] <;> simp <;> omega
theorem packByte_bit (l : List Int) (hl : Bits l) (c j t : Int) (hj : 0 ≤ j) (h0 : 0 ≤ t) (h1 : t ≤ 7) (hc : 8 * j + t < c) : 0 ≤ packByte l c j ∧ packByte l c j < 256 ∧ packByte l c j / 2 ^ (7 - t).toNat % 2 = rd l (8 * j + t) := by
  have b0 := gb_bit (c := c) (p := 8 * j) (bits_rd hl (8 * j) (by omega))
  have b1 := gb_bit (c := c) (p := 8 * j + 1) (bits_rd hl (8 * j + 1) (by omega))
  have b2 := gb_bit (c := c) (p := 8 * j + 2) (bits_rd hl (8 * j + 2) (by omega))
  have b3 := gb_bit (c := c) (p := 8 * j + 3) (bits_rd hl (8 * j + 3) (by omega))
  have b4 := gb_bit (c := c) (p := 8 * j + 4) (bits_rd hl (8 * j + 4) (by omega))
  have b5 := gb_bit (c := c) (p := 8 * j + 5) (bits_rd hl (8 * j + 5) (by omega))
  have b6 := gb_bit (c := c) (p := 8 * j + 6) (bits_rd hl (8 * j + 6) (by omega))
  have b7 := gb_bit (c := c) (p := 8 * j + 7) (bits_rd hl (8 * j + 7) (by omega))
  have ht : t = 0 ∨ t = 1 ∨ t = 2 ∨ t = 3 ∨ t = 4 ∨ t = 5 ∨ t = 6 ∨ t = 7 := by omega
  unfold packByte
  rcases ht with rfl | rfl | rfl | rfl | rfl | rfl | rfl | rfl
  · have e := gb_in (c := c) (rd l (8 * j)) (p := 8 * j) (by omega)
    simp; omega
  · have e := gb_in (c := c) (rd l (8 * j + 1)) (p := 8 * j + 1) (by omega)
    simp; omega
  · have e := gb_in (c := c) (rd l (8 * j + 2)) (p := 8 * j + 2) (by omega)
    simp; omega
  · have e := gb_in (c := c) (rd l (8 * j + 3)) (p := 8 * j + 3) (by omega)
    simp; omega
  · have e := gb_in (c := c) (rd l (8 * j + 4)) (p := 8 * j + 4) (by omega)
    simp; omega
  · have e := gb_in (c := c) (rd l (8 * j + 5)) (p := 8 * j + 5) (by omega)
    simp; omega
  · have e := gb_in (c := c) (rd l (8 * j + 6)) (p := 8 * j + 6) (by omega)
    simp; omega
  · have e := gb_in (c := c) (rd l (8 * j + 7)) (p := 8 * j + 7) (by omega)
    simp; omega
theorem packUpTo_len (l : List Int) (c : Int) (m : Nat) : (packUpTo l c m).length = m := by simp [packUpTo]
theorem packUpTo_rd (l : List Int) (c : Int) (m : Nat) (i : Int) (h0 : 0 ≤ i) (h : i < m) : rd (packUpTo l c m) i = packByte l c i := by
  obtain ⟨j, rfl⟩ : ∃ j : Nat, i = (j : Int) := ⟨i.toNat, by omega⟩
  exact rd_range_map _ (by omega)
theorem packUpTo_step (l : List Int) (hl : Bits l) (c : Int) (m : Nat) (h0 : 0 ≤ c) (h : c / 8 < m) :
    (packUpTo l c m).set (c / 8).toNat (packByte l c (c / 8) + rd l c * 2 ^ (7 - c % 8).toNat) = packUpTo l (c + 1) m := by
  refine set_range_map _ _ _ _ (by omega) ?_ ?_
  · have := (packByte_step l hl c (c / 8) (c % 8) (by omega) (by omega) (by omega) (by omega)).1
    rw [← this, show ((c / 8).toNat : Int) = c / 8 by omega]
  · intro j h1 h2
    rw [packByte_far l c j (by omega)]
theorem packUpTo_zero (l : List Int) (m : Nat) : packUpTo l 0 m = List.replicate m 0 := by
  apply List.ext_getElem
  · simp [packUpTo]
  intro j h1 h2
  simp [packUpTo, packByte_zero]
def unpackUpTo (b : List Int) (n : Nat) : List Int := (List.range n).map fun (i : Nat) => bitOf b (i : Int)
theorem unpack_pack (l : List Int) (hl : Bits l) : unpackUpTo (packUpTo l l.length ((l.length + 7) / 8)) l.length = l := by
  apply List.ext_getElem
  · simp [unpackUpTo]
  intro i h1 h2
  simp only [unpackUpTo, List.getElem_map, List.getElem_range, bitOf]
  rw [packUpTo_rd _ _ _ _ (by omega) (by omega)]
  have := packByte_bit l hl l.length ((i : Int) / 8) ((i : Int) % 8) (by omega) (by omega) (by omega) (by omega)
  rw [this.2.2, show 8 * ((i : Int) / 8) + (i : Int) % 8 = (i : Int) by omega, rd_at h2]
theorem packUpTo_bytes (l : List Int) (hl : Bits l) (c : Int) (m : Nat) : Bytes (packUpTo l c m) := by
  intro x hx
  simp only [packUpTo, List.mem_map, List.mem_range] at hx
  obtain ⟨j, hj, rfl⟩ := hx
  have b0 := gb_bit (c := c) (p := 8 * (j : Int)) (bits_rd hl (8 * j) (by omega))
  have b1 := gb_bit (c := c) (p := 8 * (j : Int) + 1) (bits_rd hl (8 * j + 1) (by omega))
  have b2 := gb_bit (c := c) (p := 8 * (j : Int) + 2) (bits_rd hl (8 * j + 2) (by omega))
  have b3 := gb_bit (c := c) (p := 8 * (j : Int) + 3) (bits_rd hl (8 * j + 3) (by omega))
  have b4 := gb_bit (c := c) (p := 8 * (j : Int) + 4) (bits_rd hl (8 * j + 4) (by omega))
  have b5 := gb_bit (c := c) (p := 8 * (j : Int) + 5) (bits_rd hl (8 * j + 5) (by omega))
  have b6 := gb_bit (c := c) (p := 8 * (j : Int) + 6) (bits_rd hl (8 * j + 6) (by omega))
  have b7 := gb_bit (c := c) (p := 8 * (j : Int) + 7) (bits_rd hl (8 * j + 7) (by omega))
  unfold packByte
  omega
theorem unpackUpTo_rd (b : List Int) (n : Nat) (i : Int) (h0 : 0 ≤ i) (h : i < n) : rd (unpackUpTo b n) i = bitOf b i := by
  obtain ⟨j, rfl⟩ : ∃ j : Nat, i = (j : Int) := ⟨i.toNat, by omega⟩
  exact rd_range_map _ (by omega)
theorem bits_Pack_loop (l : List Int) (hl : Bits l) (hn : l.length ≤ 140737488351232) (m : Nat) (hm : (m : Int) = (l.length + 7) / 8) : ∀ (d : Nat) (i : Int), i + d = l.length → 0 ≤ i → Ev (fun k => bits_Pack.l0 k (packUpTo l i m) l (l.length : Int) i) (packUpTo l l.length m, 0)
  | 0, i, hd, h0 => by
    refine ev_succ ?_
    simp only [bits_Pack.l0]
    refine ev_eq (ev_neg (by omega) (Ev.now _)) ?_
    rw [show i = l.length by omega]
  | d + 1, i, hd, h0 => by
    refine ev_succ ?_
    simp only [bits_Pack.l0]
    have hb := bits_rd hl i h0
    simp (disch := omega) only [wrap_id, tmod_id, tdiv_id]
    refine ev_pos (by omega) (ev_pos (by omega) (ev_pos (by omega) (ev_neg (by omega) (ev_pos (by omega) (ev_pos (by rw [packUpTo_len]; omega) (ev_pos (by omega) ?_))))))
    rw [packUpTo_rd _ _ _ _ (by omega) (by omega)]
    have hs := packByte_step l hl i (i / 8) (i % 8) (by omega) (by omega) (by omega) (by omega)
    rw [shl_u8 hb.1 (by omega) (by omega) hs.2.2.2.2.2.1]
    rw [or_add (8 - i % 8).toNat hs.2.1 hs.2.2.2.1 hs.2.2.1 (Int.mul_nonneg hb.1 (Int.pow_nonneg (by decide))) hs.2.2.2.2.1 hs.2.2.2.2.2.1]
    rw [packUpTo_step l hl i m h0 (by omega)]
    exact bits_Pack_loop l hl hn m hm d (i + 1) (by omega) (by omega)
theorem bits_Pack_ev (l : List Int) (hl : Bits l) (hn : l.length ≤ 140737488351232) : Ev (fun k => bits_Pack.f k l) (packUpTo l l.length ((l.length + 7) / 8), 0) := by
  unfold bits_Pack.f
  simp (disch := omega) only [wrap_id, tmod_id, tdiv_id]
  refine ev_pos (by omega) (ev_pos (by omega) ?_)
  rw [show (((l.length : Int) + 7) / 8).toNat = (l.length + 7) / 8 by omega, ← packUpTo_zero l]
  exact bits_Pack_loop l hl hn _ (by omega) l.length 0 (by omega) (by omega)
abbrev Nm := S48
theorem drop_rdN {l : List Nm} {i : Nat} (h : i < l.length) : l.drop i = rd_T48 l (i : Int) :: l.drop (i + 1) := by
  rw [List.drop_eq_getElem_cons h]
  simp [rd_T48, List.getD_eq_getElem?_getD, List.getElem?_eq_getElem h]
theorem rdN_mem {l : List Nm} {i : Nat} (h : i < l.length) : rd_T48 l (i : Int) ∈ l := by
  have h1 := drop_rdN h
  exact List.mem_of_mem_drop (h1 ▸ List.mem_cons_self)
theorem digs_bits (x : Int) (n : Nat) : Bits (digs x n) := by
  intro y hy
  obtain ⟨j, _, rfl⟩ := List.mem_map.1 hy
  omega
theorem bits_app {a b : List Int} (ha : Bits a) (hb : Bits b) : Bits (a ++ b) := fun x hx => (List.mem_append.1 hx).elim (ha x) (hb x)
theorem bitsR_bits {t : List Ln} {nn : Bool} {n : Int} {b : List Int} (h : bitsR t nn n = some b) : Bits b := by
  unfold bitsR at h
  cases hp : pick t nn n t.length with
  | none => rw [hp] at h; simp at h
  | some j =>
    rw [hp] at h
    simp only [Option.map_some, Option.some.injEq] at h
    rw [← h]
    exact bits_app (digs_bits _ _) (digs_bits _ _)
/-- The bits of numbers. -/
def bitsL (t : List Ln) : List Nm → Option (List Int)
  | [] => some []
  | x :: r => match bitsR t x.f0 x.f1, bitsL t r with
    | some b, some c => some (b ++ c)
    | _, _ => none
def packL (l : List Int) : List Int := packUpTo l l.length ((l.length + 7) / 8)
def encR (t : List Ln) (n : Nat) (acc : List Int) (r : List Nm) : List Int × Int := match bitsL t r with
  | none => ([], 5)
  | some c => if n > 20000 then ([], 4) else (packL (acc ++ c), 0)
theorem bits_nil : Bits [] := fun x hx => absurd hx List.not_mem_nil
theorem penc_loop (t : List Ln) (hv : vldP t) (l : List Nm) (hn : l.length ≤ 40000) (hw : ∀ x ∈ l, wf64 x.f1) : ∀ (d i : Nat) (acc : List Int), i + d = l.length → Bits acc → acc.length ≤ 35 * i →
    Ev (fun k => prefix_Encode.l0 k t l acc (codesL t) l (l.length : Int) (i : Int)) (encR t l.length acc (l.drop i))
  | 0, i, acc, hd, hb, ha => by
    refine ev_succ ?_
    simp only [prefix_Encode.l0]
    rw [List.drop_of_length_le (by omega)]
    simp only [encR, bitsL, List.append_nil]
    refine ev_neg (by omega) ?_
    by_cases c : l.length > 20000
    · rw [if_pos c]
      exact ev_pos (by omega) (Ev.now _)
    · rw [if_neg c]
      exact ev_neg (by omega) (ev_bind (bits_Pack_ev acc hb (by omega)) (Ev.now _))
  | d + 1, i, acc, hd, hb, ha => by
    have hi : i < l.length := by omega
    have hwx := hw _ (rdN_mem hi)
    refine ev_succ ?_
    simp only [prefix_Encode.l0]
    rw [wrap_id (n := (i : Int) + 1) (by omega) (by omega), drop_rdN hi]
    refine ev_pos (by omega) (ev_pos (by omega) (ev_pos (by omega) (ev_bind (put_ev t hv _ _ hwx) ?_)))
    simp only [encR, bitsL]
    cases hR : bitsR t (rd_T48 l (i : Int)).f0 (rd_T48 l (i : Int)).f1 with
    | none => exact ev_neg (by decide) (Ev.now _)
    | some b =>
      have h35 := bitsR_len hv hR
      have ih := penc_loop t hv l hn hw d (i + 1) (acc ++ b) (by omega) (bits_app hb (bitsR_bits hR)) (by rw [List.length_append]; omega)
      refine ev_pos rfl (ev_pos (by show acc.length + b.length < 140737488355328; omega) (ev_eq ih ?_))
      unfold encR
      cases bitsL t (l.drop (i + 1)) with
      | none => rfl
      | some c => simp only [List.append_assoc]
/-- The code of numbers. -/
def encodeP (t : List Ln) (l : List Nm) : List Int × Int := if vldP t then encR t l.length [] l else ([], 20)
theorem pencode_ev (t : List Ln) (l : List Nm) (hn : l.length ≤ 40000) (hw : ∀ x ∈ l, wf64 x.f1) : Ev (fun k => prefix_Encode.f k t l) (encodeP t l) := by
  unfold prefix_Encode.f encodeP
  by_cases c : vldP t
  · rw [if_pos c]
    exact ev_bind (ev_eq (pvalid_ev t) (decide_eq_true c)) (ev_pos rfl (ev_bind (codes_ev t c) (penc_loop t c l hn hw l.length 0 [] (by omega) bits_nil (Nat.zero_le _))))
  · rw [if_neg c]
    exact ev_bind (ev_eq (pvalid_ev t) (decide_eq_false c)) (ev_neg (by decide) (Ev.now _))
theorem bitsL_len {t : List Ln} (hv : vldP t) : ∀ (l : List Nm) (c : List Int), bitsL t l = some c → c.length ≤ 35 * l.length
  | [], c, h => by
    simp only [bitsL, Option.some.injEq] at h
    subst h
    exact Nat.zero_le _
  | x :: r, c, h => by
    unfold bitsL at h
    cases hR : bitsR t x.f0 x.f1 with
    | none => rw [hR] at h; simp at h
    | some b =>
      cases hL : bitsL t r with
      | none => rw [hR, hL] at h; simp at h
      | some e =>
        rw [hR, hL] at h
        simp only [Option.some.injEq] at h
        have h1 := bitsR_len hv hR
        have h2 := bitsL_len hv r e hL
        rw [← h, List.length_append, List.length_cons]
        omega
end Go.Proofs.Ytnadgcdkcabdoaa.Ckp
namespace Go.Proofs.Ytnadgcdkcabdoaa.Gdc
open Go Go.RowKit Go.Proofs.YtnadgcdkcabdoaaW.PrintWords Go.Proofs.YtnadgcdkcabdoaaW.PrintLast Go.Proofs.YtnadgcdkcabdoaaW.PrintMore Go.Proofs.Ytnadgcdkcabdoaa.Aid Go.Proofs.Ytnadgcdkcabdoaa.HandAid Go.Proofs.Ytnadgcdkcabdoaa.U Go.Proofs.Ytnadgcdkcabdoaa.Tab Go.Proofs.Ytnadgcdkcabdoaa.Cdx Go.Proofs.Ytnadgcdkcabdoaa.Cdy Go.Proofs.Ytnadgcdkcabdoaa.Cdz Go.Proofs.Ytnadgcdkcabdoaa.Rdp Go.Proofs.Ytnadgcdkcabdoaa.Mpp Go.Proofs.Ytnadgcdkcabdoaa.Dcm Go.Proofs.Ytnadgcdkcabdoaa.Nbr Go.Proofs.Ytnadgcdkcabdoaa.Dwk
theorem divdiv2 (x : Int) (m n : Nat) : x / 2 ^ m / 2 ^ n = x / 2 ^ (m + n) := by
  rw [Int.ediv_ediv, if_neg (fun h => absurd h.1 (Int.not_lt.2 (Int.pow_nonneg (by decide)))), Int.sub_zero, Int.pow_add]
theorem p2 (m : Nat) : (0 : Int) < 2 ^ m := Int.pow_pos (by decide)
theorem p15 : ∀ n, n < 16 → (2 : Int) ^ n * 2 ^ (15 - n) = 32768 := by decide
theorem fr_le : ∀ (t : List Ln) (L M : Int) (i j : Nat), (∀ x ∈ t, lineB x = true) → (L < M ∨ L = M ∧ i ≤ j) → front L i t ≤ front M j t
  | [], _, _, _, _, _, _ => Int.le_refl _
  | x :: l, L, M, i, j, h, c => by
    have ih := fr_le l L M (i - 1) (j - 1) (fun y hy => h y (List.mem_cons_of_mem _ hy)) (by omega)
    have hw := wS_range (h x List.mem_cons_self)
    simp only [front]
    have : (if x.f0 < L then wS x else if x.f0 = L then (if 0 < i then wS x else 0) else 0) ≤ (if x.f0 < M then wS x else if x.f0 = M then (if 0 < j then wS x else 0) else 0) := by
      repeat' split
      all_goals omega
    omega
theorem fr_apart (t : List Ln) (hv : vldP t) (i k : Nat) (hi : i < t.length) (h : len t i < len t k ∨ len t i = len t k ∧ i < k) : front (len t i) i t + wS (rd_T32 t (i : Int)) ≤ front (len t k) k t := by
  have h1 := front_step (L := len t i) t i hi
  rw [if_pos rfl] at h1
  rw [← h1]
  exact fr_le t _ _ _ _ hv.2.1 (by omega)
theorem w_len (t : List Ln) (i : Nat) (c : len t i ≠ 0) : wS (rd_T32 t (i : Int)) = 2 ^ (15 - len t i).toNat := if_neg c
theorem fr_top (t : List Ln) (hv : vldP t) (i : Nat) (hi : i < t.length) : front (len t i) i t + wS (rd_T32 t (i : Int)) ≤ 32768 := by
  have h1 := front_step (L := len t i) t i hi
  rw [if_pos rfl] at h1
  rw [← h1]
  have h2 := (front_range (L := len t i) t (i + 1) hv.2.1).2
  have h3 := hv.2.2.2.2
  omega
theorem lens (t : List Ln) (hv : vldP t) (i : Nat) (hi : i < t.length) : 0 ≤ len t i ∧ len t i ≤ 15 ∧ 0 ≤ (rd_T32 t (i : Int)).f1 ∧ (rd_T32 t (i : Int)).f1 ≤ 20 := by
  have li := of_decide_eq_true (hv.2.1 _ (rdL_mem hi))
  exact ⟨li.1, li.2.1, li.2.2.1, li.2.2.2.1⟩
theorem cn_lt (t : List Ln) (hv : vldP t) (i : Nat) (hi : i < t.length) (c : len t i ≠ 0) : 0 ≤ cnum t i ∧ cnum t i < 2 ^ (len t i).toNat := by
  have hl := lens t hv i hi
  have hf := front_range (L := len t i) t i hv.2.1
  have h1 := fr_top t hv i hi
  rw [w_len t i c] at h1
  refine ⟨(div_pos_le hf.1 _).1, Int.ediv_lt_of_lt_mul (p2 _) ?_⟩
  have h2 := p15 (len t i).toNat (by omega)
  rw [show 15 - (len t i).toNat = (15 - len t i).toNat by omega] at h2
  rw [h2]
  have := p2 (15 - len t i).toNat
  omega
/-- No code begins another one. -/
theorem no_pre (t : List Ln) (hv : vldP t) (i k : Nat) (hi : i < t.length) (hk : k < t.length) (hne : k ≠ i) (c : len t i ≠ 0) (hle : len t i ≤ len t k) : cnum t k / 2 ^ (len t k - len t i).toNat ≠ cnum t i := by
  have li := lens t hv i hi
  have lk := lens t hv k hk
  have ck : len t k ≠ 0 := by omega
  intro e
  have hq : cnum t k / 2 ^ (len t k - len t i).toNat = front (len t k) k t / 2 ^ (15 - len t i).toNat := by
    unfold cnum
    rw [divdiv2, show (15 - len t k).toNat + (len t k - len t i).toNat = (15 - len t i).toNat by omega]
  rw [hq] at e
  unfold cnum at e
  have hP := p2 (15 - len t i).toNat
  have step : ∀ a b : Int, a + 2 ^ (15 - len t i).toNat ≤ b → a / 2 ^ (15 - len t i).toNat < b / 2 ^ (15 - len t i).toNat := by
    intro a b hab
    have h1 := Int.ediv_le_ediv hP hab
    have h2 := Int.add_mul_ediv_left a (b := 2 ^ (15 - len t i).toNat) 1 (by omega)
    rw [Int.mul_one] at h2
    omega
  by_cases d : len t i < len t k ∨ len t i = len t k ∧ i < k
  · have h1 := fr_apart t hv i k hi d
    rw [w_len t i c] at h1
    have := step _ _ h1
    omega
  · have h1 := fr_apart t hv k i hk (by omega)
    rw [w_len t k ck, show len t k = len t i by omega] at h1
    have := step _ _ h1
    rw [show len t k = len t i by omega] at e
    omega
theorem gI_iff (c L : Int) (g : Int → Int → Option Lit) (v m : Int) : ∀ j : Nat, (gI c L g j v m).isSome = true ↔ (g v m).isSome = true ∨ ∃ a : Nat, a < j ∧ v = c / 2 ^ (L - a).toNat ∧ m = a
  | 0 => by simp [gI]
  | j + 1 => by
    simp only [gI]
    have ih := gI_iff c L g v m j
    by_cases h : v = c / 2 ^ (L - j).toNat ∧ m = (j : Int)
    · rw [if_pos h]
      exact ⟨fun _ => .inr ⟨j, by omega, h⟩, fun _ => rfl⟩
    · rw [if_neg h, ih]
      constructor
      · rintro (h1 | ⟨a, h1, h2⟩)
        · exact .inl h1
        · exact .inr ⟨a, by omega, h2⟩
      · rintro (h1 | ⟨a, h1, h2⟩)
        · exact .inl h1
        · refine .inr ⟨a, ?_, h2⟩
          by_cases e : a = j
          · subst e; exact absurd h2 h
          · omega
theorem gB_iff (t : List Ln) (hv : vldP t) (v : Int) (m : Nat) : ∀ q, q ≤ t.length → ((gB t q v m).isSome = true ↔ ∃ i, i < q ∧ (m : Int) < len t i ∧ v = cnum t i / 2 ^ (len t i - m).toNat)
  | 0, _ => by simp [gB]
  | q + 1, hq => by
    have ih := gB_iff t hv v m q (by omega)
    have hl := lens t hv q (by omega)
    simp only [gB]
    by_cases c : len t q = 0
    · rw [if_pos c, ih]
      constructor
      · rintro ⟨i, h1, h2⟩; exact ⟨i, by omega, h2⟩
      · rintro ⟨i, h1, h2, h3⟩
        refine ⟨i, ?_, h2, h3⟩
        by_cases e : i = q
        · subst e; omega
        · omega
    · rw [if_neg c, gI_iff, ih]
      constructor
      · rintro (⟨i, h1, h2⟩ | ⟨a, h1, h2, h3⟩)
        · exact ⟨i, by omega, h2⟩
        · have e : a = m := by omega
          subst e
          exact ⟨q, by omega, by omega, h2⟩
      · rintro ⟨i, h1, h2, h3⟩
        by_cases e : i = q
        · subst e; exact .inr ⟨m, by omega, h3, rfl⟩
        · exact .inl ⟨i, by omega, h2, h3⟩
theorem gW_at (t : List Ln) (hv : vldP t) (i : Nat) (hi : i < t.length) (c : len t i ≠ 0) : ∀ q, i < q → q ≤ t.length → gW t q (cnum t i) (len t i) = some (.int .i64 (i : Int))
  | 0, h, _ => absurd h (Nat.not_lt_zero _)
  | q + 1, h, hq => by
    simp only [gW]
    by_cases e : i = q
    · subst e
      rw [if_neg c]
      exact if_pos ⟨rfl, rfl⟩
    · have ih := gW_at t hv i hi c q (by omega) (by omega)
      by_cases z : len t q = 0
      · rw [if_pos z]; exact ih
      · rw [if_neg z, if_neg, ih]
        rintro ⟨h1, h2⟩
        have := no_pre t hv i q hi (by omega) (by omega) c (by omega)
        rw [show (len t q - len t i).toNat = 0 by omega, Int.pow_zero, Int.ediv_one] at this
        exact this h1.symm
theorem bitsAt_add (b : List Int) (a : Int) (m : Nat) : ∀ d : Nat, bitsAt b a (m + d) = bitsAt b a m * 2 ^ d + bitsAt b (a + m) d
  | 0 => by simp [bitsAt]
  | d + 1 => by
    have ih := bitsAt_add b a m d
    have h1 : bitsAt b a (m + (d + 1)) = 2 * bitsAt b a (m + d) + bitOf b (a + ((m + d : Nat) : Int)) := rfl
    have h2 : bitsAt b (a + m) (d + 1) = 2 * bitsAt b (a + m) d + bitOf b (a + m + (d : Int)) := rfl
    rw [h1, h2, ih, Int.pow_succ, show a + ((m + d : Nat) : Int) = a + m + (d : Int) by omega, Int.mul_add, Int.add_assoc, ← Int.mul_assoc, Int.mul_comm 2, Int.mul_assoc, Int.mul_comm (2 : Int) (2 ^ d)]
theorem bitsAt_pre (b : List Int) (a : Int) (m d : Nat) : bitsAt b a (m + d) / 2 ^ d = bitsAt b a m := by
  have hr := bitsAt_range b (a + m) d
  rw [bitsAt_add, Int.add_comm, Int.add_mul_ediv_right _ _ (by have := p2 d; omega), Int.ediv_eq_zero_of_lt hr.1 hr.2, Int.zero_add]
/-- What number tells where the code of line k stands. -/
theorem num_code (t : List Ln) (hv : vldP t) (b : List Int) (a : Int) (k : Nat) (hk : k < t.length) (c : len t k ≠ 0) (hb : bitsAt b a (len t k).toNat = cnum t k) (hfit : a + len t k ≤ 8 * b.length) :
    numG t b a 16 0 = if a + len t k + (rd_T32 t (k : Int)).f1 ≤ 8 * b.length then (numAt (rd_T32 t (k : Int)) (bitsAt b (a + len t k) (rd_T32 t (k : Int)).f1.toNat), 0, a + len t k + (rd_T32 t (k : Int)).f1) else ((false, 0), 6, 0) := by
  have hl := lens t hv k hk
  obtain ⟨L, hL⟩ : ∃ L : Nat, len t k = L := ⟨(len t k).toNat, by omega⟩
  rw [hL, Int.toNat_natCast] at hb
  have main : ∀ d n : Nat, n + d = L → numG t b a (16 - n) n = if a + len t k + (rd_T32 t (k : Int)).f1 ≤ 8 * b.length then (numAt (rd_T32 t (k : Int)) (bitsAt b (a + len t k) (rd_T32 t (k : Int)).f1.toNat), 0, a + len t k + (rd_T32 t (k : Int)).f1) else ((false, 0), 6, 0) := by
    intro d
    induction d with
    | zero =>
      intro n hn
      have e : n = L := by omega
      subst e
      rw [show 16 - n = (15 - n) + 1 by omega]
      simp only [numG]
      have hnb : ¬ (gB t t.length (bitsAt b a n) n).isSome = true := by
        rw [gB_iff t hv _ _ _ (Nat.le_refl _)]
        rintro ⟨i, h1, h2, h3⟩
        have hne : i ≠ k := fun e => by subst e; omega
        have := no_pre t hv k i hk h1 hne c (by omega)
        rw [hL, ← h3, hb] at this
        exact this rfl
      have hw := gW_at t hv k hk c t.length hk (Nat.le_refl _)
      rw [hL] at hw
      rw [if_neg hnb, hb, hw, hL]
    | succ d ih =>
      intro n hn
      rw [show 16 - n = (16 - (n + 1)) + 1 by omega]
      simp only [numG]
      have hpre : bitsAt b a n = cnum t k / 2 ^ (len t k - n).toNat := by
        rw [← hb, hL, show ((L : Int) - n).toNat = d + 1 by omega, ← hn, bitsAt_pre]
      have hyb : (gB t t.length (bitsAt b a n) n).isSome = true := by
        rw [gB_iff t hv _ _ _ (Nat.le_refl _)]
        exact ⟨k, hk, by omega, hpre⟩
      rw [if_pos hyb, if_pos (by omega)]
      exact ih (n + 1) (by omega)
  exact main L 0 (by omega)
end Go.Proofs.Ytnadgcdkcabdoaa.Gdc
namespace Go.Proofs.Ytnadgcdkcabdoaa.Dcq
open Go Go.RowKit Go.Proofs.YtnadgcdkcabdoaaW.PrintWords Go.Proofs.YtnadgcdkcabdoaaW.PrintLast Go.Proofs.YtnadgcdkcabdoaaW.PrintMore Go.Proofs.Ytnadgcdkcabdoaa.Aid Go.Proofs.Ytnadgcdkcabdoaa.HandAid Go.Proofs.Ytnadgcdkcabdoaa.U Go.Proofs.Ytnadgcdkcabdoaa.Tab Go.Proofs.Ytnadgcdkcabdoaa.Cdx Go.Proofs.Ytnadgcdkcabdoaa.Cdy Go.Proofs.Ytnadgcdkcabdoaa.Cdz Go.Proofs.Ytnadgcdkcabdoaa.Rdp Go.Proofs.Ytnadgcdkcabdoaa.Mpp Go.Proofs.Ytnadgcdkcabdoaa.Dcm Go.Proofs.Ytnadgcdkcabdoaa.Nbr Go.Proofs.Ytnadgcdkcabdoaa.Dwk
theorem sn_loop (l : List S48) (hn : l.length ≤ 9223372036854775807) : ∀ (d i : Nat), i + d = l.length → Ev (fun k => incunableref04_SameNums.l0 k l l (l.length : Int) (i : Int)) true
  | 0, i, hd => by
    refine ev_succ ?_
    unfold incunableref04_SameNums.l0
    exact ev_neg (by omega) (Ev.now _)
  | d + 1, i, hd => by
    refine ev_succ ?_
    unfold incunableref04_SameNums.l0
    rw [wrap_id (n := (i : Int) + 1) (by omega) (by omega)]
    exact ev_pos (by omega) (ev_pos (by omega) (ev_pos (by omega) (ev_pos (by omega) (ev_neg (by simp) (sn_loop l hn d (i + 1) (by omega))))))
theorem sn_true (l : List S48) (hn : l.length ≤ 9223372036854775807) : Ev (fun k => incunableref04_SameNums.f k l l) true := by
  unfold incunableref04_SameNums.f
  exact ev_pos rfl (sn_loop l hn l.length 0 (by omega))
end Go.Proofs.Ytnadgcdkcabdoaa.Dcq
namespace Go.Proofs.Ytnadgcdkcabdoaa.Bck
open Go Go.RowKit Go.Proofs.YtnadgcdkcabdoaaW.PrintWords Go.Proofs.YtnadgcdkcabdoaaW.PrintLast Go.Proofs.YtnadgcdkcabdoaaW.PrintMore Go.Proofs.Ytnadgcdkcabdoaa.Aid Go.Proofs.Ytnadgcdkcabdoaa.HandAid Go.Proofs.Ytnadgcdkcabdoaa.U Go.Proofs.Ytnadgcdkcabdoaa.Tab Go.Proofs.Ytnadgcdkcabdoaa.Cdx Go.Proofs.Ytnadgcdkcabdoaa.Cdy Go.Proofs.Ytnadgcdkcabdoaa.Cdz Go.Proofs.Ytnadgcdkcabdoaa.Cdb Go.Proofs.Ytnadgcdkcabdoaa.Ckp Go.Proofs.Ytnadgcdkcabdoaa.Rdp Go.Proofs.Ytnadgcdkcabdoaa.Mpp Go.Proofs.Ytnadgcdkcabdoaa.Dcm Go.Proofs.Ytnadgcdkcabdoaa.Nbr Go.Proofs.Ytnadgcdkcabdoaa.Dwk Go.Proofs.Ytnadgcdkcabdoaa.Gdc
theorem rd_app {a b : List Int} {i : Int} (h0 : 0 ≤ i) (h : i < a.length) : rd (a ++ b) i = rd a i := by
  unfold rd
  rw [List.getD_eq_getElem?_getD, List.getD_eq_getElem?_getD, List.getElem?_append_left (by omega)]
theorem packL_len (c : List Int) : (packL c).length = (c.length + 7) / 8 := packUpTo_len _ _ _
/-- A bit of what is packed, whatever stands behind. -/
theorem bit_pack (c e : List Int) (hc : Bits c) (i : Int) (h0 : 0 ≤ i) (h : i < c.length) : bitOf (packL c ++ e) i = rd c i := by
  have h1 := unpack_pack c hc
  have h2 := unpackUpTo_rd (packUpTo c c.length ((c.length + 7) / 8)) c.length i h0 h
  rw [h1] at h2
  rw [h2]
  unfold bitOf
  have h3 := packL_len c
  rw [rd_app (by omega) (by omega)]
  rfl
theorem bitsAt_of (b : List Int) (p : Int) : ∀ (m : Nat) (x : Int), 0 ≤ x → x < 2 ^ m → (∀ j : Nat, j < m → bitOf b (p + j) = x / 2 ^ (m - 1 - j) % 2) → bitsAt b p m = x
  | 0, x, h0, h1, _ => by
    have e : (2 : Int) ^ 0 = 1 := rfl
    simp only [bitsAt]
    omega
  | m + 1, x, h0, h1, h => by
    rw [Int.pow_succ] at h1
    have ih := bitsAt_of b p m (x / 2) (by omega) (by omega) (by
      intro j hj
      rw [h j (by omega), show (x / 2 : Int) = x / 2 ^ 1 from rfl, divdiv2, show m + 1 - 1 - j = 1 + (m - 1 - j) by omega])
    have hl := h m (by omega)
    rw [show m + 1 - 1 - m = 0 by omega, Int.pow_zero, Int.ediv_one] at hl
    show 2 * bitsAt b p m + bitOf b (p + (m : Int)) = x
    rw [ih, hl]
    omega
theorem rd_digs2 (x : Int) (n j : Nat) (h : j < n) : rd (digs x n) (j : Int) = x / 2 ^ (n - 1 - j) % 2 := by
  rw [rd_at (by rw [digs_len]; exact h)]
  simp [digs]
theorem rd_mid (a b c : List Int) (j : Nat) (h : j < b.length) : rd (a ++ (b ++ c)) ((a.length : Int) + j) = rd b (j : Int) := by
  unfold rd
  rw [List.getD_eq_getElem?_getD, List.getD_eq_getElem?_getD, show ((a.length : Int) + j).toNat = a.length + j by omega, List.getElem?_append_right (by omega), show a.length + j - a.length = j by omega, List.getElem?_append_left h, Int.toNat_natCast]
theorem off_lt {x : Ln} {nn : Bool} {n : Int} (hl : lineB x = true) (h : inB x nn n = true) : offV x nn n < 2 ^ x.f1.toNat ∧ numAt x (offV x nn n) = (nn, n) := by
  have h2 := of_decide_eq_true hl
  unfold inB at h
  unfold offV numAt
  by_cases c : nn = true ∨ x.f3 = 2
  · rw [if_pos c] at h ⊢
    simp only [Bool.and_eq_true, beq_iff_eq] at h
    obtain ⟨⟨h3, h4⟩, h5⟩ := h
    rw [if_pos h5, h3, h4]
    exact ⟨p2 _, rfl⟩
  · rw [if_neg c] at h ⊢
    have h3 := of_decide_eq_true h
    have hn : nn = false := by
      cases nn
      · rfl
      · exact absurd (.inl rfl) c
    have h4 : ¬ x.f3 = 2 := fun e => c (.inr e)
    refine ⟨h3.2.2.2, ?_⟩
    rw [if_neg h4, hn]
    unfold dd
    by_cases c1 : x.f3 = 1
    · rw [if_pos c1, if_pos c1]
      congr 1
      omega
    · rw [if_neg c1, if_neg c1]
      congr 1
      omega
/-- One number out of what is packed. -/
theorem num_back (t : List Ln) (hv : vldP t) (pre post e : List Int) (nn : Bool) (n : Int) (q : List Int) (hq : bitsR t nn n = some q) (hc : Bits (pre ++ (q ++ post))) :
    numG t (packL (pre ++ (q ++ post)) ++ e) pre.length 16 0 = ((nn, n), 0, ((pre ++ q).length : Int)) := by
  unfold bitsR at hq
  cases hp : pick t nn n t.length with
  | none => rw [hp] at hq; cases hq
  | some k =>
    rw [hp] at hq
    have hq : q = digs (cnum t k) (len t k).toNat ++ digs (offV (rd_T32 t (k : Int)) nn n) (rd_T32 t (k : Int)).f1.toNat := (Option.some.inj hq).symm
    obtain ⟨hk, hin, hlen⟩ := pick_lt t nn n _ _ hp
    have hline := hv.2.1 _ (rdL_mem hk)
    have hl := lens t hv k hk
    have c : len t k ≠ 0 := by
      have : len t k = (rd_T32 t (k : Int)).f0 := rfl
      omega
    have hcn := cn_lt t hv k hk c
    have hof := off_lt hline hin
    have hof0 := (offV_range hline hin).1
    have hql : q.length = (len t k).toNat + (rd_T32 t (k : Int)).f1.toNat := by rw [hq, List.length_append, digs_len, digs_len]
    have htot : (packL (pre ++ (q ++ post))).length = ((pre ++ (q ++ post)).length + 7) / 8 := packL_len _
    have hcl : (pre ++ (q ++ post)).length = pre.length + (q.length + post.length) := by rw [List.length_append, List.length_append]
    have bits := fun (i : Int) h0 h => bit_pack (pre ++ (q ++ post)) e hc i h0 h
    have b1 : bitsAt (packL (pre ++ (q ++ post)) ++ e) pre.length (len t k).toNat = cnum t k := by
      refine bitsAt_of _ _ _ _ hcn.1 hcn.2 fun j hj => ?_
      rw [bits _ (by omega) (by omega), rd_mid pre q post j (by omega), hq, rd_app (by omega) (by rw [digs_len]; omega), rd_digs2 _ _ _ hj]
    have b2 : bitsAt (packL (pre ++ (q ++ post)) ++ e) (pre.length + len t k) (rd_T32 t (k : Int)).f1.toNat = offV (rd_T32 t (k : Int)) nn n := by
      refine bitsAt_of _ _ _ _ hof0 hof.1 fun j hj => ?_
      have hr := rd_mid (digs (cnum t k) (len t k).toNat) (digs (offV (rd_T32 t (k : Int)) nn n) (rd_T32 t (k : Int)).f1.toNat) [] j (by rw [digs_len]; exact hj)
      rw [List.append_nil, digs_len] at hr
      have hm := rd_mid pre q post ((len t k).toNat + j) (by omega)
      rw [show ((pre.length : Int) + ((len t k).toNat + j : Nat)) = pre.length + len t k + j by omega] at hm
      rw [bits _ (by omega) (by omega), hm, show (((len t k).toNat + j : Nat) : Int) = ((len t k).toNat : Int) + j by omega, hq, hr, rd_digs2 _ _ _ hj]
    have hfit : (pre.length : Int) + len t k + (rd_T32 t (k : Int)).f1 ≤ 8 * (packL (pre ++ (q ++ post)) ++ e).length := by
      rw [List.length_append]
      omega
    have h := num_code t hv (packL (pre ++ (q ++ post)) ++ e) pre.length k hk c b1 (by omega)
    rw [h, if_pos hfit, b2, hof.2]
    congr 2
    rw [List.length_append]
    omega
theorem dec_back (t : List Ln) (hv : vldP t) (e : List Int) : ∀ (l : List Nm) (pre post : List Int) (acc : List Nm), bitsL t l = some post → Bits (pre ++ post) →
    decL t (packL (pre ++ post) ++ e) l.length pre.length acc = (acc ++ l, ((pre ++ post).length : Int), 0)
  | [], pre, post, acc, h, hb => by
    simp only [bitsL, Option.some.injEq] at h
    subst h
    simp [decL]
  | x :: r, pre, post, acc, h, hb => by
    unfold bitsL at h
    cases hR : bitsR t x.f0 x.f1 with
    | none => rw [hR] at h; simp at h
    | some q =>
      cases hL : bitsL t r with
      | none => rw [hR, hL] at h; simp at h
      | some p2 =>
        rw [hR, hL] at h
        simp only [Option.some.injEq] at h
        subst h
        have h1 := num_back t hv pre p2 e x.f0 x.f1 q hR hb
        have h2 := dec_back t hv e r (pre ++ q) p2 (acc ++ [x]) hL (by rw [List.append_assoc]; exact hb)
        rw [List.append_assoc] at h2
        simp only [List.length_cons, decL]
        rw [h1, if_pos rfl]
        dsimp only
        rw [h2]
        simp
theorem bits_bitsL (t : List Ln) : ∀ (l : List Nm) (c : List Int), bitsL t l = some c → Bits c
  | [], c, h => by
    simp only [bitsL, Option.some.injEq] at h
    subst h
    exact bits_nil
  | x :: r, c, h => by
    unfold bitsL at h
    cases hR : bitsR t x.f0 x.f1 with
    | none => rw [hR] at h; simp at h
    | some q =>
      cases hL : bitsL t r with
      | none => rw [hR, hL] at h; simp at h
      | some p2 =>
        rw [hR, hL] at h
        simp only [Option.some.injEq] at h
        subst h
        exact bits_app (bitsR_bits hR) (bits_bitsL t r p2 hL)
end Go.Proofs.Ytnadgcdkcabdoaa.Bck
